/- The abstract machine, run: operations. Conditions are in the theorems. -/
import Derived.Test.YtihfefggdgiodaaGreatDoorE5
import Derived.Laws.IdiomStrings
import Derived.Lib.ConvBytes
open Array renaming ext'->tY,getElem?_eq_getElem->iM,toList_extract->aX9
open Bool renaming and_eq_true->bA
open ByteArray renaming ext->aX3
open List renaming append_assoc->fT,append_eq_nil_iff->aXY,append_nil->kN,drop_append->aXV,drop_append_of_le_length->aDw,drop_eq_nil_of_le->fD,drop_succ_cons->aXS,flatMap->bZ,flatMap_cons->fS,flatten_cons->fR,getElem?_append_left->cZ,getElem?_append_right->eE,getElem?_drop->oL,getElem?_eq_getElem->bM,getElem?_eq_some_iff->bP,getElem?_map->cD,getElem?_take->eY,length->dX,length_append->bF,length_map->cQ,length_replicate->Fw,length_set->iI,length_take->fL,map_append->l7,map_cons->gL,map_drop->aXO,map_set->aDt,map_take->aXN,mem_cons->eD,nil_append->fK,range->fJ,replicate->dA,replicate_succ->pU,take_append->aXF,take_append_of_le_length->aDp,take_of_length_le->iS,take_succ_cons->Th,take_zero->Fu
open Nat renaming add_assoc->Aa,add_mul->iH,add_zero->hZ,ble_eq_true_of_le->Tf,eq_of_beq_eq_true->bH,le_of_ble_eq_true->eJ,le_refl->bX,mul_le_mul_right->kK,mul_one->jL,one_mul->aDk,sub_self->Fs,succ_mul->aDj,zero_add->cY
open Option renaming bind_eq_some_iff->jK,map_eq_some_iff->b9,map_none->oK,map_some->jE
open Option.some renaming inj->eX
/- Operations: parts of data, what is read, what is built. -/
namespace Go.Ax
open aA
open Go.RowKit Go.Ab
theorem MB{P:Program}{o:Oper}{σ:St}{fr:Nat}{d d':D}(h:aU P o σ fr d [])(hw:bR σ.H d d'):aU P o σ fr d' []:=λE σ₁ a w h1 h2 h3 h4 h5 h6 Q=>Oper.wp_mono (λa' w' ⟨q1,ν,G,I⟩=>by
 refine⟨q1,ν,G,I.kept,I.cS,I.eL,I.g0,I.sz,λt x ht=>?_,I.H,I.cF⟩;simp only[St.aN]at ht;by_cases e:o.dst=some t
 .rw[aE e]at ht
  cases ht;obtain⟨v,hv,hd⟩:=I.T t d (by simp only[St.aN];rw[aE e]);exact⟨v,hv,hw E _ ν G w' _ (λk ob hk=>by simp only[St.aN,Ab.look];exact h2 k ob hk) I v hd⟩
 .rw[aC e]at ht
  exact I.T t x (by simp only[St.aN];rw[aC e];exact ht)) (h E σ₁ a w h1 h2 h3 h4 h5 h6 Q)
theorem ET{x:X}(h:x.val=true):x.D.val=true:=by
 cases x with
 |e τ y=>
   have h:τ.one=true:=h;rw[pK h];rfl
 |aT xs=>cases h
 |eO a b c=>cases h
 |bit a b=>cases h
 |iO a=>cases h
 |_=>rfl
theorem Lq{x:X}(h:x.val=true):x.D.cells=x.cells.map X.D:=aWU h (ET h)
theorem F5{α:Type}:∀(n:Nat)(l:List α),oH n l=l.drop n
 |0,l=>rfl
 |n+1,[]=>by simp[oH]
 |n+1,x::l=>by simp[oH,F5 n l]
theorem E7{α:Type}:∀(n:Nat)(l:List α),mK n l=l.take n
 |0,l=>by simp[mK]
 |n+1,[]=>by simp[mK]
 |n+1,x::l=>by simp[mK,E7 n l]
theorem Kr{α:Type}:∀(l:List α)(off:Nat)(new:List α),off+new.length<=l.length->oA l off new=cO l off new
 |[],off,new,h=>by
   simp at h;obtain⟨rfl,rfl⟩:=h;rfl
 |x::l,0,[],_=>by simp[oA,cO]
 |x::l,0,y::new,h=>by
   have ih:=Kr l 0 new (by simp at h ⊢;omega);simp only[oA,ih,cO];simp
 |x::l,n+1,new,h=>by
   have ih:=Kr l n new (by simp at h ⊢;omega);simp only[oA,ih,cO,Th,List.cons_append];rw[show n+1+new.length=(n+new.length)+1 by omega,aXS]
theorem Qk{α β:Type}(f:α->β)(l:List α)(off:Nat)(new:List α):(cO l off new).map f=cO (l.map f) off (new.map f):=by
 simp[cO]
theorem aBJ{α:Type}(x:α):∀n,CN x n=dA n x
 |0=>rfl
 |n+1=>by rw[CN,aBJ x n,pU]
theorem aRI{α:Type}(l:List α)(i:Nat)(x:α):gJ x i l=l.set i x:=by
 have:=Er (λz:α=>z) l i x;simpa using this
theorem Fj:∀(τ:Ty)(x:τ.V)(j m:Nat)(k:(τ':Ty)->τ'.V->O)(r:aH),l6 τ x j m k=some r->∃(τ':Ty)(y:τ'.V)(A B:List Tree),k τ' y=some r/\aI τ x=A++aI τ' y++B/\A.length=j/\m=τ'.size
 |.pr a b,x,j,m,k,r,h=>by
   unfold l6 at h;split at h
   .rename_i hb
    rw[bA]at hb;exact⟨.pr a b,x,[],[],h,by simp,(bH hb.1).symm,bH hb.2⟩
   .split at h
    .obtain⟨τ',y,A,B,h1,h2,h3,h4⟩:=Fj a x.1 j m k r h
     exact⟨τ',y,A,B++aI b x.2,h1,by rw[aI,h2];simp,h3,h4⟩
    .rename_i hlt
     obtain⟨τ',y,A,B,h1,h2,h3,h4⟩:=Fj b x.2 (j-a.size) m k r h;have:¬ j<a.size:=λhj=>by
      have:Nat.blt j a.size=true:=Tf hj;rw[this]at hlt;cases hlt
     exact⟨τ',y,aI a x.1++A,B,h1,by rw[aI,h2];simp,by rw[bF,cW,h3];omega,h4⟩
 |.un,x,j,m,k,r,h=>by unfold l6 at h;cases h
 |.ex,x,j,m,k,r,h=>by
   unfold l6 at h;split at h
   .exact⟨.ex,x,[],[],h,by simp,rfl,rfl⟩
   .exact⟨.i .i64,Ex.op x,[],[.v (.int .i64 (Ex.num x)),.sl (dX (Ex.kids x)) ((Ex.kids x).flatMap tN)],h,(by have:=Cc x;exact this),rfl,rfl⟩
   .exact⟨.i .i64,Ex.num x,[.v (.int .i64 (Ex.op x))],[.sl (dX (Ex.kids x)) ((Ex.kids x).flatMap tN)],h,(by have:=Cc x;exact this),rfl,rfl⟩
   .exact⟨.sl .ex,Ex.kids x,[.v (.int .i64 (Ex.op x)),.v (.int .i64 (Ex.num x))],[],h,(by have:=Cc x;exact this),rfl,rfl⟩
   .cases h
 |.i a,x,j,m,k,r,h=>by
   unfold l6 at h;split at h
   .rename_i hb
    rw[bA]at hb;exact⟨.i a,x,[],[],h,by simp,(bH hb.1).symm,bH hb.2⟩
   .cases h
 |.u8,x,j,m,k,r,h=>by
   unfold l6 at h;split at h
   .rename_i hb
    rw[bA]at hb;exact⟨.u8,x,[],[],h,by simp,(bH hb.1).symm,bH hb.2⟩
   .cases h
 |.bo,x,j,m,k,r,h=>by
   unfold l6 at h;split at h
   .rename_i hb
    rw[bA]at hb;exact⟨.bo,x,[],[],h,by simp,(bH hb.1).symm,bH hb.2⟩
   .cases h
 |.tx,x,j,m,k,r,h=>by
   unfold l6 at h;split at h
   .rename_i hb
    rw[bA]at hb;exact⟨.tx,x,[],[],h,by simp,(bH hb.1).symm,bH hb.2⟩
   .cases h
 |.sl a,x,j,m,k,r,h=>by
   unfold l6 at h;split at h
   .rename_i hb
    rw[bA]at hb;exact⟨.sl a,x,[],[],h,by simp,(bH hb.1).symm,bH hb.2⟩
   .cases h
theorem AQ{α:Type}{f:α->List Tree}{s:Nat}(hf:∀x,(f x).length=s):∀{l:List α}{i:Nat}{y:α},l[i]?=some y->∃A B,l.flatMap f=A++f y++B/\A.length=i*s
 |[],i,y,h=>by simp at h
 |x::l,0,y,h=>by simp at h;subst h;exact⟨[],l.flatMap f,by simp,by simp⟩
 |x::l,i+1,y,h=>by
   obtain⟨A,B,h1,h2⟩:=AQ hf (l:=l) (i:=i) (y:=y) (by simpa using h);exact⟨f x++A,B,by rw[fS,h1];simp,by rw[bF,hf,h2,iH];omega⟩
theorem mU{τ:Ty}(l:List τ.V):(l.flatMap (aI τ)).length=l.length*τ.size:=aVR (λx=>cW τ x) l
theorem bR.ptr{H:Nat->Option aM}{A ts B:List Tree}{off:Nat}(hA:A.length=off):bR H (.ptr (A++ts++B) off) (.ptr ts 0):=λ_ s ν G w _ _ _ v hv=>by
 obtain⟨b,q,us,rfl,hl,hc,ht⟩:=CP hv;have hlen:us.length=A.length+ts.length+B.length:=by rw[hl];simp;omega
 have:=DR.ptr (ν:=ν) (nm:=s.nm) (w:=w) (G:=G) (b:=b) (o:=q+off) (off:=0) (us:=(us.drop off).take ts.length) (ts:=ts) (by simp;omega) (λi u hu=>by
  rw[eY]at hu;split at hu
  .rw[oL]at hu
   have:=hc (off+i) u hu
   rwa [<-Aa]at this
  .cases hu) (λi u t hu hti=>by
  rw[eY]at hu;split at hu
  .rename_i hi
   rw[oL]at hu;refine ht (off+i) u t hu ?_;rw[fT,eE (by omega),cZ (by omega),show off+i-A.length=i by omega];exact hti
  .cases hu)
 exact this
theorem bR.aRA{H:Nat->Option aM}{q off:Nat}{e:TypeId}{s n:Nat}{A ts B:List Tree}(hq:H q=some (.row e s n (A++ts++B) true))(hA:A.length=off):bR H (.ref q off) (.ptr ts 0):=λE st ν G w tm hH I v hv=>by
 obtain⟨g,hg,rfl,_⟩:=nZ hv;have htr:=I.rows _ _ _ _ _ _ (hH _ _ hq) rfl;obtain⟨u,hu⟩:∃u,ν q=u:=⟨_,rfl⟩
 rw[hu]at htr hg;obtain⟨L,hL⟩:∃L,A++ts++B=L:=⟨_,rfl⟩
 rw[hL]at htr;cases htr with
 |nil h=>
   have hts:ts=[]:=(aXY.1 (aXY.1 hL).1).2;subst hts;have:=DR.ptr (ν:=ν) (nm:=st.nm) (w:=w) (G:=G) (b:=g) (o:=off) (off:=0) (us:=[]) (ts:=[]) rfl (λi u h=>by simp at h) (λi u t h=>by simp at h);exact this
 |sl b o n c us ts' hl hc hn h=>
   simp only[aQ,Option.some.injEq]at hg;subst hg
   -- a row of one's own begins at its block's first cell
   have ho:o=0:=by
    obtain⟨_,xs,r1,_⟩:=I.H _ _ (hH _ _ hq);rcases r1.2 with⟨hv,_⟩|⟨g,cap,cur,hv,_⟩
    .rw[hu]at hv;cases hv
    .rw[hu]at hv;cases hv;rfl
   subst ho;rw[<-hL]at hl h;have h0:DR ν st.nm w G (.pointer (some ⟨b,0+off,none⟩)) (.ptr (A++ts++B) off):=.ptr hl hc h;rw[cY]at h0;exact bR.ptr (H:=H) hA E st ν G w tm hH I _ h0
end Go.Ax
/- Operations: loads and stores, addresses, what is built. -/
namespace Go.Ax
open aA
open Go.RowKit Go.Ab
abbrev dL(c:Cx)(σ:Vw)(fr:Nat)(o:Oper)(k:X->Wx->O)(r:aH):Prop:=∃x W,k x W=some r/\x.pl=true/\(σ.On->aU c.P o σ.den fr x.D (WA W))
theorem toT{τ:Ty}{y:τ.V}(h:τ.one=true):(aI τ y).map D.t=[(X.e τ y).D]:=by rw[F2 h,pK h];rfl
section
variable{c:Cx}{σ:Vw}{κ:Nat->Bool}{fr:Nat}{o:Oper}{r:aH}
theorem FJ{τ:Ty}{l:List (List τ.V)}{i:Nat}{r:List τ.V}(h:l[i]?=some r):(l.map λr=>(dX r,bZ (aI τ) r))[i]?=some (dX r,bZ (aI τ) r):=by rw[cD,h];rfl
theorem La{τ:Ty}(h:τ.one=true)(r:List τ.V):bZ (aI τ) r=r.map (oF τ):=S0 (λy=>F2 h y) r
theorem aCK{i i' j s:Nat}(h1:1<=j)(h2:j<s):i'*s≠i*s+j:=λe=>by
 rcases Nat.lt_trichotomy i' i with h|h|h
 .have:=kK s (show i'+1<=i by omega)
  rw[iH,aDk]at this;omega
 .subst h;omega
 .have:=kK s (show i+1<=i' by omega)
  rw[iH,aDk]at this;omega
theorem aTu{κ ρ:Ty}{l:List (List κ.V×ρ.V)}{ln:Option (Int×Nat)}{i j:Nat}{y:List κ.V×ρ.V}(hy:l[i]?=some y)(h1:1<=j)(h2:j<1+ρ.size):(jA (1+ρ.size) (bZ eQ l) ln)[i*(1+ρ.size)+j]?=((aI ρ y.2)[j-1]?).map λt=>.dH (.t t):=by
 have hg:=S3 (f:=eQ) Fe l i j y hy h2;have:(eQ y)[j]?=((aI ρ y.2)[j-1]?).map λt=>.dH (.t t):=by
  obtain⟨j',rfl⟩:∃j',j=j'+1:=⟨j-1,by omega⟩
  unfold eQ;rw[List.getElem?_cons_succ,cD];rfl
 rw[this]at hg;unfold jA;split
 .exact hg
 .rw[List.getElem?_set_ne (aCK h1 h2)];exact hg
theorem aTv{κ ρ:Ty}{l:List (List κ.V×ρ.V)}{ln:Option (Int×Nat)}{i j:Nat}{y:List κ.V×ρ.V}(hy:l[i]?=some y)(h1:1<=j){A B E:List Tree}(he:aI ρ y.2=A++E++B)(hA:A.length=j-1):
    (((jA (1+ρ.size) (bZ eQ l) ln).map NC.tell).drop (i*(1+ρ.size)+j)).take E.length=E.map .t:=by
 have hsz:(aI ρ y.2).length=ρ.size:=cW ρ y.2;have hl2:A.length+E.length+B.length=ρ.size:=by rw[he]at hsz;simp at hsz;omega
 apply List.ext_getElem?;intro p;rw[eY,cD];by_cases hp:p<E.length
 .rw[aE hp,oL,cD,Aa,aTu hy (by omega) (by omega),he,fT,eE (by omega),cZ (by omega),show j+p-1-A.length=p by omega,Option.map_map]
  rfl
 .rw[aC hp,List.getElem?_eq_none (by omega)]
  rfl
theorem aTi{t:TypeId}{a:X}{k:X->O}(h:Rq c σ t a k=some r):∃y,k y=some r/\(a.pl=true->y.pl=true\/∃q off,a = .ref q off)/\∀{x:Operand},o.op = .load t x->σ.den.ev x=some a.D->aU c.P o σ.den fr y.D []:=by
 unfold Rq at h;split at h
 case h_2=>cases h
 rename_i rw m hrw hm;split at h
 .rename_i q off
  split at h
  .rename_i e xs hq
   have hq':=dG hq;split at h
   .split at h
    .rename_i hb
     have hb:=bH hb;refine⟨_,h,λ_=>.inr ⟨q,off,rfl⟩,λho hx=>?_⟩;unfold X.D;rw[fA];refine SA hrw hm ho hx hq' ?_ (by rw[cQ];exact hb);show(((xs.map X.D).drop off).take m)=_;rw[E7,F5,aXN,aXO]
    .cases h
   .obtain⟨y,hy,h⟩:=bG h
    refine⟨y,h,λ_=>.inr ⟨q,off,rfl⟩,λho hx=>vG hrw ho hx hq' ?_⟩;show(xs.map X.D)[off]?=_;rw[cD,hy];rfl
  .cases h
 .rename_i q i j s
  split at h
  .rename_i e τ l st hq
   have hq':=dG hq;split at h
   .rename_i hb
    have hb:=bH hb;subst hb;obtain⟨y,hy,h⟩:=mS h;obtain⟨τ',y',A,B,h,h2,h3,h4⟩:=Fj _ _ _ _ _ _ h;obtain⟨A',B',g1,g2⟩:=AQ (f:=aI τ) (λx=>cW τ x) hy;have hcells:(XO.row e τ l st).A.cells=((A'++A)++aI τ' y'++(B++B')).map .t:=by
     show(l.flatMap (aI τ)).map D.t=_;rw[g1,h2];simp
    have hlen:(A'++A).length=i*τ.size+j:=by rw[bF,g2,h3]
    split at h
    .refine⟨_,h,λ_=>.inl rfl,λho hx=>?_⟩
     unfold X.D;rw[fA,Cg];refine SA hrw hm ho hx hq' ?_ (by rw[cQ,cW,h4]);rw[hcells,l7,l7,fT,aDw (by rw[cQ];omega),fD (by rw[cQ];omega),fK,aDp (by rw[cQ,cW,h4];exact bX _),iS (by rw[cQ,cW,h4];exact bX _)]
    .have h1:Ty.one τ'=true:=by assumption
     refine⟨_,h,λ_=>.inl rfl,λho hx=>vG hrw ho hx hq' ?_⟩;rw[hcells,l7,l7,toT h1,fT,eE (by rw[cQ];omega),cQ,hlen,Fs];rfl
    .cases h
   .cases h
  .rename_i e e' τ l hq
   have hq':=dG hq;split at h
   .rename_i hb
    rw[bA]at hb;have hb1:=bH hb.1;have hb2:=bH hb.2;subst hb1 hb2;obtain⟨y,hy,h⟩:=mS h;refine⟨_,h,λ_=>.inl rfl,λho hx=>?_⟩;have hx':σ.den.ev _=some (.ref q i):=hx.trans (by show some (D.ref q (i*1+0))=_;rw[jL,hZ]);exact aSK hrw ho hx' hq' (FJ hy)
   .cases h
  .rename_i e e' κ' ρ l ln hq
   have hq':=dG hq;split at h
   .rename_i hb
    have hb:=bH hb;subst hb;split at h
    .rename_i hj
     have hj:=bH hj;subst hj;split at h
     .rename_i i' q'
      obtain⟨hi,h⟩:=fF h;have hi:=cH hi;subst hi;obtain⟨y,hy,h⟩:=mS h;refine⟨_,h,λ_=>.inl rfl,λho hx=>vG hrw ho hx hq' ?_⟩;have hlt:=Lr (ρ:=ρ) (l:=l) (j:=0) (bP.1 hy).1 (by omega);show((jA (1+ρ.size) (bZ eQ l) (some (i',q'))).map NC.tell)[i'.toNat*(1+ρ.size)+0]?=some (.own q');rw[hZ]at hlt ⊢;unfold jA;rw[cD,List.getElem?_set_self hlt];rfl
     .cases h
    .rename_i hj
     have hj0:j≠0:=λe=>by subst e;cases hj
     obtain⟨y,hy,h⟩:=mS h;obtain⟨τ',y',A,B,h,h2,h3,h4⟩:=Fj _ _ _ _ _ _ h;have hcut:=aTv (ln:=ln) hy (by omega) h2 h3;rw[cW,<-h4]at hcut;split at h
     .refine⟨_,h,λ_=>.inl rfl,λho hx=>?_⟩
      unfold X.D;rw[fA,Cg];exact SA hrw hm ho hx hq' hcut (by rw[cQ,cW,h4])
     .have h1:Ty.one τ'=true:=by assumption
      refine⟨_,h,λ_=>.inl rfl,λho hx=>vG hrw ho hx hq' ?_⟩;have:=aO (λl=>l[0]?) hcut;simp only[eY,oL,hZ]at this;rw[aE (by rw[h4,aQ9 h1];omega),toT h1]at this;exact this
     .cases h
   .cases h
  .cases h
 .rename_i q i j
  split at h
  .rename_i e e' τ l hq
   have hq':=dG hq;split at h
   .rename_i h1
    obtain⟨y,hy,h⟩:=mS h;obtain⟨z,hz,h⟩:=mS h;refine⟨_,h,λ_=>.inl rfl,λho hx=>?_⟩;rw[pK h1];exact aSJ hrw ho hx hq' (FJ hy) (by show(bZ (aI τ) y)[j]?=_;rw[La h1,cD,hz];rfl)
   .cases h
  .cases h
 .rename_i τ y j
  obtain⟨τ',y',A,B,h,h2,h3,h4⟩:=Fj _ _ _ _ _ _ h;split at h
  .refine⟨_,h,λ_=>.inl rfl,λho hx=>?_⟩
   unfold X.D;rw[fA,Cg];refine lpn hrw hm ho hx ?_ (by rw[cW,h4]);rw[h2,fT,aDw (by omega),fD (by omega),fK,aDp (by rw[cW,h4];exact bX _),iS (by rw[cW,h4];exact bX _)]
  .have h1:Ty.one τ'=true:=by assumption
   refine⟨_,h,λ_=>.inl rfl,λho hx=>?_⟩;rw[pK h1];refine Rn hrw ho hx ?_;rw[h2,F2 h1,fT,eE (by omega),h3,Fs];rfl
  .cases h
 .cases h
theorem Ql{α:Type}{A B new:List α}{j:Nat}(h:A.length<=j):cO (A++B) j new=A++cO B (j-A.length) new:=by
 simp only[cO];rw[aXF,aXV,iS h,fD (by omega),fK,show j+new.length-A.length=j-A.length+new.length by omega];simp
theorem Qm{α:Type}{A B new:List α}{j:Nat}(h:j+new.length<=A.length):cO (A++B) j new=cO A j new++B:=by
 simp only[cO];rw[aDp (by omega),aDw h];simp
theorem Kd{H:Nat->Option aM}:∀(τ:Ty)(x:τ.V)(j m:Nat)(xs:List X)(k:τ.V->O),setAt τ x j m xs k=some r->∃(y:τ.V)(new:List Tree),k y=some r/\dM H (xs.map X.D) (new.map .t)/\j+new.length<=τ.size/\aI τ y=cO (aI τ x) j new
 |.pr a b,x,j,m,xs,k,h=>by
   unfold setAt at h;split at h
   .rename_i hb
    rw[bA]at hb;have hj:=bH hb.1;subst hj;obtain⟨y,hy,h⟩:=bG h;refine⟨y,aI _ y,h,pG hy,by rw[cW];omega,?_⟩;simp[cO,cW,fD]
   .split at h
    .rename_i hlt
     have hlt:j<a.size:=eJ hlt;obtain⟨y,new,h1,h2,h3,h4⟩:=Kd (H:=H) a x.1 j m xs (λy=>k (y,x.2)) h;refine⟨(y,x.2),new,h1,h2,by simp only[Ty.size];omega,?_⟩;show aI a y++aI b x.2=cO (aI a x.1++aI b x.2) j new;have hA:=cW a x.1;rw[h4,Qm (by omega)]
    .rename_i hlt
     have hge:a.size<=j:=Nat.le_of_not_lt λhj=>by
      have:Nat.blt j a.size=true:=Tf hj;rw[this]at hlt;cases hlt
     obtain⟨y,new,h1,h2,h3,h4⟩:=Kd (H:=H) b x.2 (j-a.size) m xs (λy=>k (x.1,y)) h;refine⟨(x.1,y),new,h1,h2,by simp only[Ty.size];omega,?_⟩;show aI a x.1++aI b y=cO (aI a x.1++aI b x.2) j new;have hA:=cW a x.1;rw[h4,Ql (by omega),hA]
 |.ex,x,j,m,xs,k,h=>by
   unfold setAt at h;split at h
   .obtain⟨y,hy,h⟩:=bG h
    refine⟨y,aI _ y,h,pG hy,by rw[cW];omega,?_⟩;have h1:=cW .ex x;have h2:=cW .ex y;simp only[cO,Fu,fK,cY];rw[fD (by omega),kN]
   .cases h
 |.i a,x,j,m,xs,k,h=>by
   unfold setAt at h;split at h
   .rename_i hb
    rw[bA]at hb;have hj:=bH hb.1;subst hj;obtain⟨y,hy,h⟩:=bG h;exact⟨y,aI _ y,h,pG hy,by rw[cW];omega,rfl⟩
   .cases h
 |.un,x,j,m,xs,k,h=>by unfold setAt at h;cases h
 |.u8,x,j,m,xs,k,h=>by
   unfold setAt at h;split at h
   .rename_i hb
    rw[bA]at hb;have hj:=bH hb.1;subst hj;obtain⟨y,hy,h⟩:=bG h;exact⟨y,aI _ y,h,pG hy,by rw[cW];omega,rfl⟩
   .cases h
 |.bo,x,j,m,xs,k,h=>by
   unfold setAt at h;split at h
   .rename_i hb
    rw[bA]at hb;have hj:=bH hb.1;subst hj;obtain⟨y,hy,h⟩:=bG h;exact⟨y,aI _ y,h,pG hy,by rw[cW];omega,rfl⟩
   .cases h
 |.tx,x,j,m,xs,k,h=>by
   unfold setAt at h;split at h
   .rename_i hb
    rw[bA]at hb;have hj:=bH hb.1;subst hj;obtain⟨y,hy,h⟩:=bG h;exact⟨y,aI _ y,h,pG hy,by rw[cW];omega,rfl⟩
   .cases h
 |.sl a,x,j,m,xs,k,h=>by
   unfold setAt at h;split at h
   .rename_i hb
    rw[bA]at hb;have hj:=bH hb.1;subst hj;obtain⟨y,hy,h⟩:=bG h;exact⟨y,aI _ y,h,pG hy,by rw[cW];omega,rfl⟩
   .cases h
theorem SR(σ:Vw)(q:Nat):σ.iE (.own q)=match σ.H q with|some (.row _ τ l true)=>.e (.sl τ) l|_=>.own q:=rfl
theorem aWT{x:X}{new:List Tree}(hv:x.val=true)(h:dM σ.den.H ((σ.lI x).cells.map X.D) (new.map .t))(hl:x.cells.length=new.length):∃d,bR σ.den.H x.D d/\d.cells=new.map .t/\d.val=true:=by
 have one:x.cells=[x]->(σ.lI x).cells=[σ.iE x]->∃d,bR σ.den.H x.D d/\d.cells=new.map .t/\d.val=true:=λe1 e2=>by
  rw[e1]at hl;rw[e2]at h
  match new,hl,h with
  |[t],_,h=>cases h with|cons h _=>exact⟨.t t,(vL σ x).trans h,rfl,rfl⟩
 cases x with
 |agg xs=>
   refine⟨.agg (new.map .t),?_,rfl,rfl⟩;have e:(σ.lI (.agg xs)).cells.map X.D=(xs.map σ.iE).map X.D:=rfl;rw[e]at h;have hw:dM σ.den.H (xs.map X.D) ((xs.map σ.iE).map X.D):=by
    rw[List.map_map];exact dM.of_map (f:=X.D) (g:=X.D ∘ σ.iE) λx _=>vL σ x
   unfold X.D;rw[fA];exact bR.agg (hw.trans h)
 |aT xs=>cases hv
 |eO a b c=>cases hv
 |bit a b=>cases hv
 |own q=>
   refine one rfl ?_;show(σ.iE (.own q)).cells=_;rw[SR];split <;> rfl
 |e τ y=>exact one rfl rfl
 |dE=>exact one rfl rfl
 |ref a b=>exact one rfl rfl
 |rr a b d e=>exact one rfl rfl
 |pt a b d=>exact one rfl rfl
 |fn a b=>exact one rfl rfl
 |v w=>exact one rfl rfl
 |sub a b=>exact one rfl rfl
 |gM a b d=>exact one rfl rfl
 |vw a b d e=>exact one rfl rfl
 |via a b=>exact one rfl rfl
 |iO v=>exact one rfl rfl
theorem aCd{α:Type}{f:α->List Tree}{s:Nat}(hf:∀x,(f x).length=s){l:List α}{i:Nat}{y z:α}{A B new:List Tree}{j:Nat}(hl:l.flatMap f=A++f y++B)(hA:A.length=i*s)(hi:i<l.length)(hz:f z=cO (f y) j new)(hn:j+new.length<=s):
    (l.set i z).flatMap f=cO (l.flatMap f) (i*s+j) new:=by
 have h1:=aCe hf (x:=z) (l:=l) (i:=i) hi;rw[<-h1,hl,hz];have hy:=hf y;have hs:(cO (f y) j new).length=s:=by rw[tD (by omega),hy]
 rw[fT];have e1:cO (A++(f y++B)) (i*s) (cO (f y) j new)=A++(cO (f y) 0 (cO (f y) j new)++B):=by
  rw[Ql (by omega),hA,Fs,Qm (by omega)]
 have e2:cO (A++(f y++B)) (i*s+j) new=A++(cO (f y) j new++B):=by
  rw[Ql (by omega),hA,show i*s+j-i*s=j by omega,Qm (by omega)]
 rw[e1,e2]
 congr 2
 show(f y).take 0++cO (f y) j new++(f y).drop (0+(cO (f y) j new).length)=_;rw[Fu,fK,fD (by omega),kN]
theorem aWj(l:List Tree):rB (l.map .t)=some l:=by
 induction l with
 |nil=>rfl
 |cons x l ih=>simp[rB,ih]
theorem aR1{x:X}{new:List Tree}(hv:x.val=true)(hna:∀xs,x≠.agg xs)(h:dM σ.den.H ((σ.lI x).cells.map X.D) (new.map .t)):∃t,new=[t]/\bR σ.den.H x.D (.t t):=by
 have one:(σ.lI x).cells=[σ.iE x]->∃t,new=[t]/\bR σ.den.H x.D (.t t):=λe2=>by
  rw[e2]at h
  match new,h with
  |[t],h=>cases h with|cons h _=>exact⟨t,rfl,(vL σ x).trans h⟩
  |[],h=>cases h
  |_::_::_,h=>cases h with|cons _ r=>cases r
 cases x with
 |agg xs=>exact absurd rfl (hna xs)
 |aT xs=>cases hv
 |eO a b c=>cases hv
 |bit a b=>cases hv
 |own q=>
   refine one ?_;show(σ.iE (.own q)).cells=_;rw[SR];split <;> rfl
 |e τ y=>exact one rfl
 |dE=>exact one rfl
 |ref a b=>exact one rfl
 |rr a b d e=>exact one rfl
 |pt a b d=>exact one rfl
 |fn a b=>exact one rfl
 |v w=>exact one rfl
 |sub a b=>exact one rfl
 |gM a b d=>exact one rfl
 |vw a b d e=>exact one rfl
 |via a b=>exact one rfl
 |iO v=>exact one rfl
theorem aQ5{α:Type}{l:List α}{j:Nat}{x:α}(h:j<l.length):cO l j [x]=l.set j x:=by
 rw[List.set_eq_take_append_cons_drop,aE h];simp[cO]
theorem aQW{t:TypeId}{a y:X}{k:X->Wx->O}(h:Qa c σ t a y k=some r):∃W,k (.aT []) W=some r/\∀{x z:Operand},o.op = .store t x z->σ.den.ev x=some a.D->σ.den.ev z=some y.D->y.val=true->aU c.P o σ.den fr (.aT []) (WA W):=by
 unfold Qa at h;split at h
 case h_2=>cases h
 rename_i m hm;split at h
 case h_2=>cases h
 rename_i hb;rw[bA]at hb;have hb1:=bH hb.1;have hb2:0<m:=eJ hb.2;split at h
 .rename_i q off
  split at h
  .rename_i e xs hq
   have hq':=dG hq;split at h
   .rename_i hle
    have hle:=eJ hle;refine⟨_,h,λho hx hz hv=>?_⟩;have hc:=Lq hv;have hp:oA xs off y.cells=cO xs off y.cells:=Kr _ _ _ (by omega);refine LB (d:=y.D) (ob':=(XO.box e (oA xs off y.cells)).A) ho ?_ hx (.ev hz) (ET hv) hq' ?_ ?_
    .rw[hc,cQ,hb1];exact hm
    .show(if off+y.D.cells.length<=(xs.map X.D).length then _ else none)=_
     rw[hc,cQ,cQ,aE (by omega),hp];simp only[XO.A,Qk]
    .rw[hc,cQ];omega
   .cases h
  .cases h
 .rename_i q i j s
  split at h
  .rename_i e τ l hq
   have hq':=dG hq;split at h
   .rename_i hs
    have hs:=bH hs;subst hs;obtain⟨z0,hz0,h⟩:=mS h;obtain⟨z1,new,h,h2,h3,h4⟩:=Kd (H:=σ.den.H) τ z0 j m (σ.lI y).cells _ h;refine⟨_,h,λho hx hz hv=>?_⟩;have hgl:(σ.lI y).cells.length=y.cells.length:=by
     have e1:=(dM.len h2);cases y with
     |agg xs=>show(xs.map σ.iE).length=xs.length;simp
     |own q=>
       show(σ.iE (.own q)).cells.length=1;rw[SR];split <;> rfl
     |_=>rfl
    have hnl:y.cells.length=new.length:=by
     have:=h2.len;simp only[cQ]at this;omega
    obtain⟨d,hw,hdc,hdv⟩:=aWT hv h2 hnl;obtain⟨A,B,g1,g2⟩:=AQ (f:=aI τ) (λx=>cW τ x) hz0;have hi:i<l.length:=(bP.1 hz0).1;have hset:=aCd (f:=aI τ) (λx=>cW τ x) (z:=z1) g1 g2 hi h4 h3;have hfl:=mU l;have hbound:i*τ.size+j+new.length<=l.length*τ.size:=by
     have:(i+1)*τ.size<=l.length*τ.size:=kK _ hi;rw[iH,aDk]at this;omega
    refine LB (d:=d) (ob':=(XO.row e τ (l.set i z1) false).A) ho ?_ hx (.wk hz hw) hdv hq' ?_ ?_
    .rw[hdc,cQ,<-hnl,hb1];exact hm
    .rw[hdc]
     show(if i*τ.size+j+(new.map D.t).length<=(l.flatMap (aI τ)).length/\false=false then(rB (new.map D.t)).map _ else none)=_;rw[cQ,aE ⟨by omega,rfl⟩,aWj];simp only[jE,XO.A,hset,iI]
    .rw[hdc,cQ];omega
   .cases h
  .rename_i e e' κ' ρ l ln hq
   have hq':=dG hq;split at h
   .rename_i hs
    rw[bA]at hs;have hs1:=bH hs.1;have hs2:=bH hs.2;subst hs1 hs2;split at h
    .rename_i hj
     have hj:=bH hj;subst hj;split at h
     .rename_i q' i' q0
      obtain⟨hi,h⟩:=fF h;have hi:=cH hi;subst hi;obtain⟨z0,hz0,h⟩:=mS h;refine⟨_,h,λho hx hz hv=>?_⟩;have hlt:=Lr (ρ:=ρ) (l:=l) (j:=0) (bP.1 hz0).1 (by omega);rw[hZ]at hlt;have hx':σ.den.ev _=some (.ref q (i'.toNat*(1+ρ.size))):=hx.trans (by show some (D.ref q (i'.toNat*(1+ρ.size)+0))=_;rw[hZ]);have:=RO (P:=c.P) (fr:=fr) hm ho hx' hz bR.refl (λν nm w G v h=>h.LA rfl) hq' (by show _<(jA _ _ _).length;rw[LU];exact hlt);have hA:(XO.bI e e' κ' ρ l (some (i',q'))).A = .bI e e' (1+ρ.size) κ'.size l.length ((jA (1+ρ.size) (bZ eQ l) (some (i',q0))).set (i'.toNat*(1+ρ.size)) (.dH (.own q'))):=by
       show aM.bI _ _ _ _ _ ((bZ eQ l).set _ _)=aM.bI _ _ _ _ _ (((bZ eQ l).set _ _).set _ _);rw[List.set_set]
      show aU c.P o σ.den fr (.aT []) [(q,some (XO.bI e e' κ' ρ l (some (i',q'))).A)];rw[hA];exact this
     .cases h
    .rename_i hj
     have hj0:j≠0:=λe=>by subst e;cases hj
     split at h
     .cases h
     .rename_i hna
      obtain⟨z0,hz0,h⟩:=mS h;obtain⟨z1,new,h,h2,h3,h4⟩:=Kd (H:=σ.den.H) ρ z0.2 (j-1) 1 (σ.lI y).cells _ h;refine⟨_,h,λho hx hz hv=>?_⟩;obtain⟨t,rfl,hw⟩:=aR1 hv (λxs e=>hna xs e) h2;have hj3:j<1+ρ.size:=by simp at h3;omega
      have hi:i<l.length:=(bP.1 hz0).1;have hlt:=Lr (ρ:=ρ) (l:=l) (j:=j) hi hj3;have:=RO (P:=c.P) (fr:=fr) hm ho hx hz hw (λν nm w G v h=>h.LA rfl) hq' (by show _<(jA _ _ _).length;rw[LU];exact hlt);have hset:=S2 (f:=eQ) Fe l i j z0 (z0.1,z1) (.dH (.t t)) hz0 hj3 (by
       obtain⟨j',rfl⟩:∃j',j=j'+1:=⟨j-1,by omega⟩
       unfold eQ;rw[List.set_cons_succ]
       congr 1
       rw[h4,aQ5 (by rw[cW];omega),aDt];rfl)
      have hA:(XO.bI e e' κ' ρ (l.set i (z0.1,z1)) ln).A = .bI e e' (1+ρ.size) κ'.size l.length ((jA (1+ρ.size) (bZ eQ l) ln).set (i*(1+ρ.size)+j) (.dH (.t t))):=by
       show aM.bI _ _ _ _ (l.set i (z0.1,z1)).length (jA _ (bZ eQ (l.set i (z0.1,z1))) ln)=_;rw[iI,hset]
       congr 1
       unfold jA;split
       .rfl
       .exact List.set_comm _ _ (λe=>aCK (by omega) hj3 e.symm)
      show aU c.P o σ.den fr (.aT []) [(q,some (XO.bI e e' κ' ρ (l.set i (z0.1,z1)) ln).A)];rw[hA];exact this
   .cases h
  .cases h
 .rename_i q i j
  split at h
  .rename_i e e' τ l hq
   have hq':=dG hq;split at h
   .rename_i τ' z
    split at h
    .rename_i he _
     have he':=he;subst he';split at h
     .rename_i h1
      obtain⟨y,hy,h⟩:=mS h;obtain⟨z0,hz0,h⟩:=mS h;refine⟨_,h,λho hx hz hv=>?_⟩;rw[pK h1]at hz;have hm1:m=1:=hb1.symm;subst hm1;have:=aR7 (P:=c.P) (fr:=fr) hm ho hx hz hq' (FJ hy) (by show j<(bZ (aI τ') y).length;rw[La h1,cQ];exact(bP.1 hz0).1);have hA:(XO.nest e e' τ' (l.set i (y.set j (jB he z)))).A = .nest e e' τ'.size ((l.map λr=>(dX r,bZ (aI τ') r)).set i (dX y,(bZ (aI τ') y).set j (oF τ' z))):=by
       show aM.nest e e' τ'.size ((l.set i (y.set j z)).map λr=>(dX r,bZ (aI τ') r))=_;rw[aDt,iI,La h1,La h1,aDt]
      show aU c.P o σ.den fr (.aT []) [(q,some (XO.nest e e' τ' (l.set i (y.set j (jB he z)))).A)];rw[hA];exact this
     .cases h
    .cases h
   .cases h
  .cases h
 .cases h
end
end Go.Ax
/- Operations: addresses, parts, rows that are made. -/
namespace Go.Ax
open aA
open Go.RowKit Go.Ab
theorem Fk{x:X}{k:Int->O}{r:aH}(h:asInt x k=some r):∃ik n,x.D = .t (.v (.int ik n))/\k n=some r:=by
 unfold asInt at h;split at h
 .exact⟨_,_,rfl,h⟩
 .exact⟨_,_,rfl,h⟩
 .cases h
theorem aCI{τ:Ty}(h1:τ.one=true):∀{xs:List X}{l:List τ.V},LS τ xs=some l->xs.length=l.length/\∀(H:Nat->Option aM)(i:Nat)(y:τ.V),l[i]?=some y->∃x,xs[i]?=some x/\bR H x.D (X.e τ y).D
 |[],l,h=>by cases h;exact⟨rfl,λH i y h=>by simp at h⟩
 |x::r,l,h=>by
   unfold LS at h;split at h
   .rename_i y hy
    split at h
    .rename_i l' hl
     cases h;obtain⟨e1,e2⟩:=aCI h1 hl;refine⟨by simp[e1],λH i z hz=>?_⟩;cases i with
     |zero=>simp at hz;subst hz;exact⟨x,rfl,by rw[pK h1];exact pA h1 hy⟩
     |succ i=>exact e2 H i z (by simpa using hz)
    .cases h
   .cases h
section
variable{P:Program}{o:Oper}{s:St}{fr:Nat}
theorem aSL{t e:TypeId}{x y:Operand}{m:Nat}{ds:List D}{ik:IntKind}{n:Int}{d:D}(hu:P.underlying t=some (.array m e))(he:iX P e=some false)(hs:fN P e=some 1)(ho:o.op = .index t x y)(hx:s.ev x=some (.agg ds))(hy:s.ev y=some (.t (.v (.int ik n))))(hl:ds.length=m)(h0:0<=n)(hd:ds[n.toNat]?=some d):aU P o s fr d []:=
 c7 λ_ _ _ _ w a _ _ hev=>by
  have h1:=hev x _ hx;have h2:=bY (hev y _ hy);obtain⟨v,hv⟩:∃v,a.eval x=v:=⟨_,rfl⟩
  rw[hv]at h1;cases h1 with
  | @agg vs _ hsz hr h1c=>
    have hn:n.toNat<vs.size:=by rw[hsz];exact(bP.1 hd).1
    refine⟨vs[n.toNat],?_,hr _ _ d (iM hn) hd⟩;obtain⟨dsc,g1,g2⟩:=kT he;obtain⟨inf,hinf,hsz1⟩:=b9.1 hs;have hagg:(isAgg e).run P w = .ok false w:=by
     unfold isAgg;rw[Sem.run_bind,run_underlying g1 w];cases dsc <;> simp_all [TypeDesc.isRow]
    have hlt:n<(m:Int):=by omega
    unfold execOp;rw[ho];simp[hv,h2,Instr.index,asIntOf,run_underlying hu,h0,hlt,sizeOf,typeInfo,hinf,hsz1,part,hagg,hn]
theorem aSS{t:TypeId}{x:Operand}{f:Nat}{fs:Array Field}{fl:Field}{ds:List D}{d:D}(hu:P.underlying t=some (.struct fs))(hf:fs[f]?=some fl)(he:iX P fl.type=some false)(ho:o.op = .field t x f)(hx:s.ev x=some (.agg ds))(hd:ds[fl.offset]?=some d):aU P o s fr d []:=
 c7 λ_ _ _ _ w a _ _ hev=>by
  have h1:=hev x _ hx;obtain⟨v,hv⟩:∃v,a.eval x=v:=⟨_,rfl⟩
  rw[hv]at h1;cases h1 with
  | @agg vs _ hsz hr h1c=>
    have hn:fl.offset<vs.size:=by rw[hsz];exact(bP.1 hd).1
    refine⟨vs[fl.offset],?_,hr _ _ d (iM hn) hd⟩;obtain⟨dsc,g1,g2⟩:=kT he;have hagg:(isAgg fl.type).run P w = .ok false w:=by
     unfold isAgg;rw[Sem.run_bind,run_underlying g1 w];cases dsc <;> simp_all [TypeDesc.isRow]
    unfold execOp;rw[ho];simp[hv,Instr.field,run_underlying hu,hf,part,asAgg,hagg,hn]
theorem aSR{t:TypeId}{x:Operand}{f m:Nat}{fs:Array Field}{fl:Field}{ds out:List D}(hu:P.underlying t=some (.struct fs))(hf:fs[f]?=some fl)(he:iX P fl.type=some true)(hm:fN P fl.type=some m)(ho:o.op = .field t x f)(hx:s.ev x=some (.agg ds))(hd:(ds.drop fl.offset).take m=out)(hl:out.length=m):aU P o s fr (.agg out) []:=
 c7 λ_ _ ν G w a _ _ hev=>by
  have h1:=hev x _ hx;obtain⟨v,hv⟩:∃v,a.eval x=v:=⟨_,rfl⟩
  rw[hv]at h1;cases h1 with
  | @agg vs _ hsz hr h1c=>
    have hlen:fl.offset+m<=vs.size\/m=0:=by
     rw[<-hd]at hl;simp at hl;omega
    refine⟨.agg (vs.extract fl.offset (fl.offset+m)),?_,.agg ?_ (λi u d hu' hd'=>?_) (λu hu'=>?_)⟩
    .obtain⟨dsc,g1,g2⟩:=kT he
     obtain⟨inf,hinf,hsz1⟩:=b9.1 hm;have hagg:(isAgg fl.type).run P w = .ok true w:=by
      unfold isAgg;rw[Sem.run_bind,run_underlying g1 w];cases dsc <;> simp_all [TypeDesc.isRow]
     unfold execOp;rw[ho];simp[hv,Instr.field,run_underlying hu,hf,part,asAgg,hagg,sizeOf,typeInfo,hinf,hsz1]
    .rw[hl];simp;omega
    .rw[<-hd,eY]at hd'
     split at hd'
     .rename_i hi
      rw[oL]at hd';rw[Array.getElem?_extract]at hu';split at hu'
      .exact hr _ u d hu' hd'
      .cases hu'
     .cases hd'
    .refine h1c u ?_
     rw[aX9]at hu';exact List.mem_of_mem_drop (List.mem_of_mem_take (by simpa[List.extract]using hu'))
end
theorem Qj{τ:Ty}:∀(n:Nat)(σ:Ty)(y:σ.V)(l:List τ.V),mL τ n σ y=some l->aI σ y=l.flatMap (aI τ)
 |0,σ,y,l,h=>by unfold mL at h;cases h
 |1,σ,y,l,h=>by
   unfold mL at h;split at h
   .rename_i he _
    cases h;rw[fS,aDR,List.flatMap_nil,kN]
   .cases h
 |n+2,.pr a b,y,l,h=>by
   unfold mL at h;split at h
   .rename_i he _
    split at h
    .rename_i l' hl
     cases h;rw[fS,aDR,<-Qj (n+1) b y.2 l' hl];rfl
    .cases h
   .cases h
 |n+2,.i _,y,l,h=>by unfold mL at h;cases h
 |n+2,.u8,y,l,h=>by unfold mL at h;cases h
 |n+2,.bo,y,l,h=>by unfold mL at h;cases h
 |n+2,.tx,y,l,h=>by unfold mL at h;cases h
 |n+2,.ex,y,l,h=>by unfold mL at h;cases h
 |n+2,.sl _,y,l,h=>by unfold mL at h;cases h
section
variable{c:Cx}{σ:Vw}{κ:Nat->Bool}{fr:Nat}{o:Oper}{r:aH}
theorem aUU{t:TypeId}{a x:X}{k:X->O}(h:SM c σ t a x k=some r):∃y,k y=some r/\y.pl=true/\(σ.On->∀{xa xn:Operand},o.op = .indexAddr t xa xn->σ.den.ev xa=some a.D->σ.den.ev xn=some x.D->aU c.P o σ.den fr y.D []):=by
 unfold SM at h;replace h:=Fk h;obtain⟨ik,n,hx,h⟩:=h;split at h
 .rename_i τ l
  split at h
  .rename_i s hs
   split at h
   .rename_i hb
    have hb:=bH hb;subst hb;obtain⟨y,h1,h2⟩:=C4 h;refine⟨_,h1,rfl,λhon xa xn ho ha hn=>?_⟩;obtain⟨g1,g2⟩:=h2 hon.g;rw[hx]at hn;have hlt:n<(dX l:Nat):=by have:=(bP.1 g2).1;omega
    have:=LD (P:=c.P) (fr:=fr) ho hs ha hn g1 hlt;obtain⟨A,B,e1,e2⟩:=AQ (f:=aI τ) (λx=>cW τ x) g2;have e1':bZ (aI τ) l=A++aI τ y++B:=e1;rw[e1']at this;exact MB this (bR.ptr e2)
   .cases h
  .cases h
 .rename_i q
  split at h
  .rename_i e τ l st s hq hs
   split at h
   .rename_i hb
    have hb:=bH hb;subst hb;split at h
    .obtain⟨y,h1,h2⟩:=C4 h
     refine⟨_,h1,rfl,λhon xa xn ho ha hn=>?_⟩;obtain⟨g1,g2⟩:=h2 hon.g;rw[hx]at hn;have hlt:n<(l.length:Nat):=by have:=(bP.1 g2).1;omega
     have hq':σ.den.H q=some (.row e τ.size l.length (l.flatMap (aI τ)) true):=dG hq;have:=Ez (P:=c.P) (fr:=fr) ho hs ha hq' hn g1 hlt;obtain⟨A,B,e1,e2⟩:=AQ (f:=aI τ) (λx=>cW τ x) g2;rw[e1]at hq';exact MB this (bR.aRA hq' e2)
    .obtain⟨h1,h2⟩:=mW h
     refine⟨_,h1,rfl,λhon xa xn ho ha hn=>?_⟩;obtain⟨g1,g2⟩:=cH (h2 hon.g);rw[hx]at hn;have hq':σ.den.H q=some (.row e τ.size l.length (l.flatMap (aI τ)) false):=dG hq;have:=Ez (P:=c.P) (fr:=fr) ho hs ha hq' hn g1 g2;exact this
   .cases h
  .rename_i e e' τ l s hq hs
   split at h
   .rename_i hb
    have hb:=bH hb;subst hb;obtain⟨hd,h⟩:=fF h;refine⟨_,h,rfl,λhon xa xn ho ha hn=>?_⟩;obtain⟨g1,g2⟩:=cH hd;rw[hx]at hn;have:=aSP (P:=c.P) (fr:=fr) hs ho ha (dG hq) hn g1 (by rw[cQ];exact g2);have e:(X.rr q n.toNat 0 1).D = .ref q n.toNat:=by show D.ref q (n.toNat*1+0)=_;rw[jL,hZ]
    rw[e];exact this
   .cases h
  .rename_i e e' κ' ρ l ln s hq hs
   split at h
   .rename_i hb
    have hb:=bH hb;subst hb;obtain⟨h1,h2⟩:=mW h;refine⟨_,h1,rfl,λhon xa xn ho ha hn=>?_⟩;obtain⟨g1,g2⟩:=cH (h2 hon.g);rw[hx]at hn;exact aBc (P:=c.P) (fr:=fr) hs ho ha (dG hq) hn g1 g2
   .cases h
  .cases h
 .rename_i q i
  split at h
  .rename_i e e' τ l s hq hs
   split at h
   .rename_i hb
    have hb:=bH hb;subst hb;obtain⟨y,hy,h⟩:=mS h;obtain⟨hd,h⟩:=fF h;refine⟨_,h,rfl,λhon xa xn ho ha hn=>?_⟩;obtain⟨g1,g2⟩:=cH hd;rw[hx]at hn;exact aSO (P:=c.P) (fr:=fr) hs ho ha (dG hq) (FJ hy) hn g1 g2
   .cases h
  .cases h
 .rename_i q off
  split at h
  .rename_i m s hs
   split at h
   .rename_i hb
    obtain⟨g1,g2⟩:=cH hb;refine⟨_,h,rfl,λhon xa xn ho ha hn=>?_⟩;rw[hx]at hn;exact aBb ho hs ha hn g1 g2
   .cases h
  .cases h
 .rename_i ρ y0
  split at h
  .rename_i m0 e m s hu hs
   split at h
   .rename_i τ _
    split at h
    .rename_i l hl
     split at h
     .rename_i hb
      rw[bA]at hb;have hb1:=bH hb.1;have hb2:=bH hb.2;subst hb1;obtain⟨y,h1,h2⟩:=C4 h;refine⟨_,h1,rfl,λhon xa xn ho ha hn=>?_⟩;obtain⟨g1,g2⟩:=h2 hon.g;rw[hx]at hn;have hlt:n<(m:Nat):=by rw[<-hb2];have:=(bP.1 g2).1;omega
      have:=aSN (P:=c.P) (fr:=fr) ho hs ha hn g1 hlt;obtain⟨A,B,e1,e2⟩:=AQ (f:=aI τ) (λx=>cW τ x) g2;rw[cY,Qj _ _ _ _ hl,e1]at this;exact MB this (bR.ptr e2)
     .cases h
    .cases h
   .cases h
  .cases h
 .cases h
theorem aUS{t:TypeId}{a x:X}{k:X->O}(h:SK c t (σ.g.map (·.2)) a x k=some r):∃y,k y=some r/\y.pl=true/\(σ.On->∀{xa xn:Operand},o.op = .index t xa xn->σ.den.ev xa=some a.D->σ.den.ev xn=some x.D->aU c.P o σ.den fr y.D []):=by
 unfold SK at h;replace h:=Fk h;obtain⟨ik,n,hx,h⟩:=h;split at h
 .rename_i l hu
  obtain⟨y,h1,h2⟩:=C4 h;refine⟨_,h1,rfl,λhon xa xn ho ha hn=>?_⟩;obtain⟨g1,g2⟩:=h2 hon.g;rw[hx]at hn;exact aSM hu ho ha hn g1 g2
 .rename_i m e τ y0 rs hu
  split at h
  .rename_i hb he hs
   rw[bA]at hb;obtain⟨hb1,hb2⟩:=hb;have hb2:=bH hb2;obtain⟨l,hl,h⟩:=bG h;obtain⟨y,h1,h2⟩:=C4 h;refine⟨_,h1,rfl,λhon xa xn ho ha hn=>?_⟩;obtain⟨g1,g2⟩:=h2 hon.g;rw[hx]at hn;obtain⟨e1,e2⟩:=aCI hb1 hl;obtain⟨x',hx',hw⟩:=e2 σ.den.H _ _ g2;have ha':σ.den.ev xa=some (.agg ((X.e τ y0::rs).map X.D)):=by rw[ha,X.D,fA]
   refine MB (aSL hu he hs ho ha' hn (by simp[hb2]) g1 (d:=x'.D) (by rw[cD,hx'];rfl)) hw
  .cases h
 .cases h
theorem aVY{t:TypeId}{f:Nat}{a:X}{k:X->O}(h:S6 c t f a k=some r):∃y,k y=some r/\y.pl=true/\(∀{xa:Operand},o.op = .fieldAddr t xa f->σ.den.ev xa=some a.D->aU c.P o σ.den fr y.D []):=by
 unfold S6 at h;obtain⟨q,hq,h⟩:=bG h;split at h
 .exact⟨_,h,rfl,λho ha=>aBe ho hq ha⟩
 .refine⟨_,h,rfl,λho ha=>?_⟩
  have:=aBe (P:=c.P) (fr:=fr) ho hq ha
  rwa [Aa]at this
 .exact⟨_,h,rfl,λho ha=>aSQ ho hq ha⟩
 .cases h
theorem aVX{t:TypeId}{f:Nat}{a:X}{k:X->O}(h:S5 c t f a k=some r):∃y,k y=some r/\(∀{xa:Operand},o.op = .field t xa f->σ.den.ev xa=some a.D->aU c.P o σ.den fr y.D []):=by
 unfold S5 at h;split at h
 .rename_i fs xs hu
  split at h
  .rename_i fl hf
   split at h
   .rename_i rw m hr hm
    split at h
    .split at h
     .rename_i hb
      have hb:=bH hb;refine⟨_,h,λ{xa} ho ha=>?_⟩;have ha':σ.den.ev xa=some (.agg (xs.map X.D)):=by rw[ha,X.D,fA]
      rw[X.D,fA];refine aSR hu hf hr hm ho ha' ?_ (by rw[cQ];exact hb);rw[E7,F5,aXN,aXO]
     .cases h
    .obtain⟨y,hy,h⟩:=bG h
     refine⟨y,h,λ{xa} ho ha=>?_⟩;have ha':σ.den.ev xa=some (.agg (xs.map X.D)):=by rw[ha,X.D,fA]
     exact aSS hu hf hr ho ha' (by rw[cD,hy];rfl)
   .cases h
  .cases h
 .cases h
end
end Go.Ax
/- Operations: variables, literals, rows, slices, conversions. -/
namespace Go.Ax
open aA
open Go.RowKit Go.Ab
theorem aBp(v:Value)(h1:∀vs,v≠.tuple vs)(h2:∀cs,v≠.agg cs):(mP v).D = .t (.v v):=by
 unfold mP;split
 .split
  .exact aA3 _ (cH ‹_›)
  .rfl
 all_goals rfl
theorem FC{z:Value}{x:X}(h:qQ z=some x):vQ z=true/\x.D=pC z/\x.cells.map X.D=z.cells.toList.map (λu=>D.t (.v u))/\(∀u∈z.cells.toList,u.oneCell'=true)/\(pC z).cells=x.cells.map X.D/\x.val=true:=by
 have hev:=RW (σ:=⟨[],[],0⟩) h;unfold St.ev at hev;unfold qQ at h;split at h
 .rename_i cs
  split at h
  .rename_i ha
   cases h;have hmem:∀u∈cs.toList,u.oneCell'=true:=List.all_eq_true.1 ha
   have hc:(cs.toList.map mP).map X.D=cs.toList.map (λu=>D.t (.v u)):=by
    rw[List.map_map];refine List.map_congr_left λv hv=>aBp v (λvs e=>?_) (λcs' e=>?_)
    .have:=hmem v hv;rw[e]at this;cases this
    .have:=hmem v hv;rw[e]at this;cases this
   refine⟨ha,?_,hc,hmem,hc.symm,rfl⟩;unfold X.D;rw[fA,hc];rfl
  .cases h
 .cases h
 .rename_i h2 h3
  cases h;have hD:=aBp z (λvs e=>h3 vs e) (λcs e=>h2 cs e);have hone:z.oneCell'=true:=by
   cases z with
   |agg cs=>exact absurd rfl (h2 cs)
   |tuple vs=>exact absurd rfl (h3 vs)
   |_=>rfl
  have hcz:z.cells.toList=[z]:=by rw[AU hone]
  have hov:pC z = .t (.v z):=by
   cases z with
   |agg cs=>exact absurd rfl (h2 cs)
   |_=>rfl
  have hxc:(mP z).cells=[mP z]:=by
   unfold mP;split
   .split <;> rfl
   all_goals rfl
  refine⟨?_,by rw[hD,hov],by rw[hxc,hcz];simp[hD],λu hu=>?_,by rw[hov,hxc];simp[hD,D.cells],?_⟩
  .cases z with
   |agg cs=>exact absurd rfl (h2 cs)
   |tuple vs=>exact absurd rfl (h3 vs)
   |_=>rfl
  .rw[hcz]at hu;rw[List.mem_singleton.1 hu];exact hone
  .unfold mP
   split
   .split <;> rfl
   all_goals rfl
theorem UA{P:Program}{t:TypeId}{x:X}(h:rO P t=some x):∃z,(P.info? t).bind (·.zero)=some z/\qQ z=some x:=by
 unfold rO at h;split at h
 .exact⟨_,‹_›,h⟩
 .cases h
theorem aCC{α β:Type}{f:α->Option β}:∀{l:List α}{r:List β},vC f l=some r->l.mapM f=some r
 |[],r,h=>by cases h;rfl
 |x::l,r,h=>by
   unfold vC at h;split at h
   .rename_i y hy
    split at h
    .rename_i r' hr
     cases h;simp[List.mapM_cons,hy,aCC hr]
    .cases h
   .cases h
theorem aW0{P:Program}{t:TypeId}{z:Value}{x:X}{pl:List (Nat×Nat)}(hz:(P.info? t).bind (·.zero)=some z)(hx:qQ z=some x)(hp:places P t=some pl):aEA P t z.cells.toList pl:=by
 obtain⟨_,_,_,h1,_⟩:=FC hx;refine⟨h1,?_⟩;obtain⟨i,hi,hz'⟩:=jK.1 hz;unfold places at hp;split at hp
 .rename_i fs hu
  have hm:=aCC hp;have hm':fs.toList.mapM (λf=>(P.info? f.type).map λi=>(f.offset,i.size))=some pl:=by
   rw[<-hm]
   congr 1
   funext f
   unfold fN;cases P.info? f.type <;> rfl
  refine⟨λi=>pl.toArray[i]?,λi p h=>by simpa using h,λparts=>?_⟩;unfold Program.built;simp only[hi,hu,hz',hm']
 .rename_i n e hu
  split at hp
  .rename_i m hm
   cases hp;unfold fN at hm;obtain⟨ie,hie,rfl⟩:=b9.1 hm;refine⟨λi=>some (i*ie.size,ie.size),λi p h=>?_,λparts=>?_⟩
   .rw[cD]at h
    obtain⟨j,hj,rfl⟩:=b9.1 h;have:=(bP.1 hj).2;simp at this;simp[this]
   .unfold Program.built
    simp only[hi,hu,hz',hie]
  .cases hp
 .cases hp
theorem S8{σ:Vw}:∀{l:List (Nat×Operand)}{k:List (Nat×X)->O}{r:aH},σ.AT l k=some r->∃xs,k xs=some r/\xs.length=l.length/\∀(i:Nat)(p:Nat×X),xs[i]?=some p->∃x,l[i]?=some (p.1,x)/\σ.ev x=some p.2
 |[],k,r,h=>⟨[],h,rfl,λi p h=>by simp at h⟩
 |(i0,x)::l,k,r,h=>by
   unfold Vw.AT at h;obtain⟨y,hy,h⟩:=bG h;obtain⟨xs,h1,h2,h3⟩:=S8 h;refine⟨(i0,y)::xs,h1,by simp[h2],λi p hp=>?_⟩;cases i with
   |zero=>simp at hp;subst hp;exact⟨x,rfl,hy⟩
   |succ i=>exact h3 i p (by simpa using hp)
theorem RG{σ:Vw}{κ:Nat->Bool}(hσ:σ.Ok κ)(hon:σ.On):∀(l:List (Nat×Operand))(xs:List (Nat×X))(ds:List (Nat×D)),xs.length=l.length->(∀(i:Nat)(p:Nat×X),xs[i]?=some p->∃x,l[i]?=some (p.1,x)/\σ.ev x=some p.2)->
    xs.length=ds.length->(∀(i:Nat)(p:Nat×X)(q:Nat×D),xs[i]?=some p->ds[i]?=some q->p.1=q.1/\bR σ.den.H p.2.D q.2)->nC σ.den l ds
 |[],[],[],_,_,_,_=>.nil
 |[],[],_::_,_,_,h,_=>by cases h
 |[],_::_,_,h,_,_,_=>by cases h
 |_::_,[],_,h,_,_,_=>by cases h
 |_::_,_::_,[],_,_,h,_=>by cases h
 |(i0,x0)::l,(i1,y)::xs,(i2,d)::ds,h1,h2,h3,h4=>by
   obtain⟨x,e1,e2⟩:=h2 0 _ rfl;simp at e1;obtain⟨rfl,rfl⟩:=e1;obtain⟨e3,e4⟩:=h4 0 _ _ rfl rfl;simp only at e3 e4;subst e3;exact .cons (aY hσ hon e2) e4 (RG hσ hon l xs ds (by simpa using h1) (λi p hp=>by simpa using h2 (i+1) p (by simpa using hp)) (by simpa using h3) (λi p q hp hq=>h4 (i+1) p q (by simpa using hp) (by simpa using hq)))
theorem aCk{pl:List (Nat×Nat)}:∀(xs:List (Nat×X))(cells:List X)(k:List X->O)(r:aH),F0 pl cells xs k=some r->∃out,k out=some r/\gY pl (cells.map X.D) (xs.map λp=>(p.1,p.2.D))=some (out.map X.D)
 |[],cells,k,r,h=>⟨cells,h,rfl⟩
 |(i,x)::rest,cells,k,r,h=>by
   unfold F0 at h;split at h
   .rename_i off m hp
    split at h
    .rename_i hb
     simp only[bA]at hb;obtain⟨⟨b1,b2⟩,b3⟩:=hb;have b2:=bH b2;have b3:=eJ b3;obtain⟨out,h1,h2⟩:=aCk rest _ k r h;refine⟨out,h1,?_⟩;have hc:=Lq b1;have hv:=ET b1;simp only[gL,gY,hp];rw[aE (by simp[hv,hc,b2];omega),hc,<-Qk,<-Kr _ _ _ (by omega)];exact h2
    .cases h
   .cases h
theorem uA{τ:Ty}(h1:τ.one=true){l l':List Value}(h:p7 τ l=some l'):∃pre,l=pre++l'/\iG pre (aI τ τ.zero):=by
 cases l with
 |nil=>cases h
 |cons x r=>
   simp only[p7]at h;split at h
   .rename_i hx
    cases h;refine⟨[x],rfl,?_⟩;cases τ with
    |pr a b=>cases h1
    |ex=>cases h1
    |un=>cases h1
    |i k=>
      simp only[Am]at hx;split at hx
      .rw[bA]at hx
       have e1:=cH hx.1;have e2:=cH hx.2;subst e1 e2;exact .v rfl .nil
      .cases hx
    |u8=>
      simp only[Am]at hx;split at hx
      .have e2:=cH hx
       subst e2;exact .v rfl .nil
      .cases hx
    |bo=>
      simp only[Am]at hx;split at hx
      .exact .v rfl .nil
      .cases hx
    |tx=>
      simp only[Am]at hx;split at hx
      .rename_i s
       split at hx
       .rename_i hs
        have:s=⟨⟨[]⟩⟩:=by
         apply aX3;apply tY;exact hs
        subst this;exact .v rfl .nil
       .cases hx
      .cases hx
    |sl e=>
      simp only[Am]at hx;split at hx
      .exact .sl .nil
      .cases hx
   .cases h
theorem MO:∀(τ:Ty)(l l':List Value),An τ l=some l'->∃pre,l=pre++l'/\iG pre (aI τ τ.zero)
 |.pr a b,l,l',h=>by
   simp only[An]at h;split at h
   .rename_i l1 h1
    obtain⟨p1,e1,z1⟩:=MO a l l1 h1;obtain⟨p2,e2,z2⟩:=MO b l1 l' h;refine⟨p1++p2,by rw[e1,e2,fT],?_⟩;have:aI (.pr a b) (Ty.zero (.pr a b))=aI a a.zero++aI b b.zero:=rfl;rw[this];exact z1.append z2
   .cases h
 |.ex,l,l',h=>by
   simp only[An]at h;split at h
   .rename_i l1 h1
    split at h
    .rename_i l2 h2
     obtain⟨p1,e1,z1⟩:=uA rfl h1;obtain⟨p2,e2,z2⟩:=uA rfl h2;obtain⟨p3,e3,z3⟩:=uA rfl h;exact⟨p1++(p2++p3),by rw[e1,e2,e3];simp,z1.append (z2.append z3)⟩
    .cases h
   .cases h
 |.un,l,l',h=>by cases h;exact⟨[],rfl,.nil⟩
 |.i k,l,l',h=>uA rfl h
 |.u8,l,l',h=>uA rfl h
 |.bo,l,l',h=>uA rfl h
 |.tx,l,l',h=>uA rfl h
 |.sl e,l,l',h=>uA rfl h
theorem oJ{c:Cx}{t e:TypeId}{τ:Ty}{b:Nat}(h:lK c t=some (e,τ,b)):∃z,kA c.P t e z τ.size b/\iG z.cells.toList (aI τ τ.zero):=by
 unfold lK at h;split at h
 .rename_i e' he
  split at h
  .rename_i τ' i hτ hi
   split at h
   .rename_i z hz
    split at h
    .rename_i hc
     split at h
     .rename_i hb
      cases h;rw[bA]at hb;have h1:=bH hb.1;have hb2:=hb.2;rw[bA]at hb2;have h2:=bH hb2.1;have h3:=eJ hb2.2;obtain⟨pre,hp,hz'⟩:=MO _ _ _ hc;rw[kN]at hp;refine⟨z,⟨?_,by rw[hi];simp[hz,h1],h2,h3⟩,by rw[hp];exact hz'⟩;unfold Lj at he;split at he
      .rename_i hu;cases he;exact hu
      .cases he
     .cases h
    .cases h
   .cases h
  .cases h
 .cases h
end Go.Ax
/- Operations: rows that are made, slices, conversions, calls. -/
namespace Go.Ax
open aA
open Go.RowKit Go.Ab
section
variable{P:Program}{o:Oper}{s:St}{fr:Nat}
theorem aSD{t e:TypeId}{z:Value}{sz bytes len:Nat}(st:Bool){parts:Array (Nat×Operand)}{ds:List (Nat×D)}{zt ts:List Tree}(hA:kA P t e z sz bytes)(hz:iG z.cells.toList zt)(hl:len*sz<=2^24)(ho:o.op = .buildSlice t len parts)(hp:nC s parts.toList ds)
    (hf:gY ((fJ len).map λi=>(i*sz,sz)) ((dA len zt).flatten.map .t) ds=some (ts.map .t)):aU P o s fr (.own fr) [(fr,some (.row e sz len ts st))]:=by
 have h1:∀u∈z.cells.toList,u.oneCell'=true:=by
  clear hf hp ho hl hA;generalize z.cells.toList=l at hz
  induction hz with
  |nil=>intro u hu;cases hu
  |v h r ih=>
    intro u hu;rcases eD.1 hu with rfl|hu
    .exact h
    .exact ih u hu
  |sl r ih=>
    intro u hu;rcases eD.1 hu with rfl|hu
    .rfl
    .exact ih u hu
 have hB:=kM.of hA h1 len hl;intro E σ₁ a w hT hHH h100 hf' hd ⟨ν,G,I⟩ Q;have hpl:∀(i:Nat)(p:Nat×Nat),((fJ len).map λi=>(i*sz,sz))[i]?=some p->(λi=>some (i*sz,sz)) i=some p:=λi p h=>by
  rw[cD]at h;obtain⟨j,hj,rfl⟩:=b9.1 h;have:=(bP.1 hj).2;simp at this;simp[this]
 obtain⟨g1,g2⟩:=hp.rel (λx d d' hx hw=>hw _ _ _ _ _ _ hHH I _ (I.ev (St.cP hT hx)));have hzr:=(hz.El len).rel w G;obtain⟨cells,hres,hsz,hrel⟩:=FZ hpl _ ds (dA len z.cells.toList).flatten.toArray ((dA len zt).flatten.map .t) (ts.map .t) g1 g2 (by simpa using hzr.1) (λi u d hu hdd=>by
     rw[cD]at hdd;obtain⟨t',ht',rfl⟩:=b9.1 hdd;have hu':(dA len z.cells.toList).flatten[i]?=some u:=by simpa using hu
     have htr:=hzr.2 i u t' hu' ht';exact⟨.t htr,htr.one⟩) hf
 have hlen:ts.length=len*sz:=by
  have hfl:∀(pl:List (Nat×Nat))(ds:List (Nat×D))(cs out:List D),gY pl cs ds=some out->out.length=cs.length:=by
   intro pl ds
   induction ds with
   |nil=>intro cs out h;cases h;rfl
   |cons p r ih=>
     intro cs out h;obtain⟨i,d⟩:=p;simp only[gY]at h;split at h
     .cases h
     .split at h
      .rename_i hc
       simp only[bA,kX,eC]at hc;rw[ih _ _ h,tD hc.2]
      .cases h
  have:=hfl _ _ _ _ hf;simp only[cQ]at this;rw[this,<-hzr.1];exact hB.zl
 have hr:=hB.run w (parts.map λ(i,x)=>(i,a.eval x)) cells (by rw[Array.toList_map];exact hres);unfold Oper.wp;have he:(execOp a.eval o).run P w = .ok (.value (.slice (some ⟨w.heap.size,0,none⟩) len len)) (w.alloc (.cells cells e)):=by
  unfold execOp;rw[ho];simp[hr]
 rw[he,Oper.upon_value];have hA':bB w (w.alloc (.cells cells e)):=(bB.refl w).alloc _;have hG:∀b,b<w.heap.size->(λb=>if b=w.heap.size then(if st then len*sz else 0)else G b) b=G b:=λb hb=>aC (by omega)
 have hsz':cells.size=ts.length:=by rw[hsz];simp
 refine⟨put_defers ..,_,_,I.fresh (G':=λb=>if b=w.heap.size then(if st then len*sz else 0)else G b) h100 hf' hd hA' hG (x:=.slice (some ⟨w.heap.size,0,none⟩) len len) (λg hg=>by cases hg;exact bX _) ?_ ?_⟩
 .refine⟨cells.toList,?_,?_,λi u t hu ht=>?_,λg hg=>?_⟩
  .rw[bT]
   exact⟨by simp[hsz',hlen],.inr ⟨w.heap.size,len,cells,rfl,Nat.zero_le _,heap_alloc_new w _,bX _,hB.ml,by rw[hsz',hlen],by rw[iS (by simp[hsz',hlen])]⟩⟩
  .simpa using hsz'
  .have:=(hrel i u (.t t) (by simpa using hu) (by rw[cD,ht];rfl)).1
   cases this with|t h=>exact h.mono (λ_ _ _ h=>h.dI hA' hG)
  .rw[bT]at hg
   cases hg;exact⟨.inl I.kept.size,aE rfl⟩
 .have:DR (bU ν fr (.slice (some ⟨w.heap.size,0,none⟩) len len)) (σ₁.aN o.dst .any [(fr,some (.row e sz len ts st))] fr).nm (w.alloc (.cells cells e)) (λb=>if b=w.heap.size then(if st then len*sz else 0)else G b) (bU ν fr (.slice (some ⟨w.heap.size,0,none⟩) len len) fr) (.own fr):=.own (jH ..) (by rw[bT];rfl)
  rw[bT]at this;exact this
def dR(lo:Option Int):Nat:=match lo with|some a=>a.toNat|none=>0
def eM(n:Nat)(hi:Option Int):Nat:=match hi with|some b=>b.toNat|none=>n
theorem Qn{α:Type}(l:List α)(lo hi:Option Int):cA l lo hi=(l.take (eM l.length hi)).drop (dR lo):=by
 cases lo <;> cases hi <;> simp[cA,dR,eM]
theorem Ka{n:Nat}{lo hi:Option Int}(h:dJ n lo hi=true):dR lo<=eM n hi/\eM n hi<=n/\(∀a,lo=some a->0<=a)/\∀b,hi=some b->0<=b:=by
 cases lo <;> cases hi <;> simp[dJ,dR,eM]at h ⊢ <;> omega
theorem vT{P:Program}{w:World}{isS:Bool}{n cap:Nat}{lo hi:Option Int}{kl kh:IntKind}(h1:dR lo<=eM n hi)(h2:eM n hi<=cap)(h3:∀a,lo=some a->0<=a)(h4:∀b,hi=some b->0<=b):
    (Instr.sliceBounds isS n cap (lo.map (.int kl)) (hi.map (.int kh)) none).run P w = .ok (dR lo,eM n hi,cap) w:=by
 have hb:∀(k:IntKind)(i:Int)(y:Nat)(code:BoundsCode),0<=i->i.toNat<=y->(Instr.sliceBound (.int k i) y code).run P w = .ok i.toNat w:=λk i y code a b=>by
  have:i<=(y:Int):=by omega
  simp[Instr.sliceBound,asIntOf,a,this]
 cases lo with
 |none=>
   cases hi with
   |none=>simp[Instr.sliceBounds,dR,eM]
   |some b=>simp only[eM]at h2;simp[Instr.sliceBounds,dR,eM,hb _ _ _ _ (h4 b rfl) h2]
 |some a=>
   cases hi with
   |none=>simp only[dR,eM]at h1;simp[Instr.sliceBounds,dR,eM,hb _ _ _ _ (h3 a rfl) h1]
   |some b=>
     simp only[dR,eM]at h1 h2;simp[Instr.sliceBounds,dR,eM,hb _ _ _ _ (h4 b rfl) h2,hb _ _ _ _ (h3 a rfl) h1]
def l9(s:St)(x:Option Operand)(v:Option Int):Prop:=match x,v with
 |none,none=>True
 |some x,some n=>∃ik,s.ev x=some (.t (.v (.int ik n)))
 |_,_=>False
theorem l9.run{s:St}{x:Option Operand}{v:Option Int}(h:l9 s x v){ρ:Operand->Value}(hev:∀x d,s.ev x=some (.t (.v d))->ρ x=d):∃ik,x.map ρ=v.map (.int ik):=by
 cases x with
 |none=>cases v with
   |none=>exact⟨.i64,rfl⟩
   |some n=>exact h.elim
 |some x=>cases v with
   |none=>exact h.elim
   |some n=>obtain⟨ik,hk⟩:=h;exact⟨ik,aO some (hev x _ hk)⟩
theorem aR8{t:TypeId}{x:Operand}{lo hi:Option Operand}{l:List UInt8}{a b:Option Int}(hu:P.underlying t=some .string)(ho:o.op = .slice t x lo hi none)(hx:s.ev x=some (TS l))(hlo:l9 s lo a)(hhi:l9 s hi b)(hok:dJ l.length a b=true):aU P o s fr (TS (cA l a b)) []:=
 c7 λ_ _ _ _ w ac _ _ hev=>by
  have h1:=bY (hev x _ hx);obtain⟨kl,e1⟩:=hlo.run (ρ:=ac.eval) (λx d h=>bY (hev x _ h));obtain⟨kh,e2⟩:=hhi.run (ρ:=ac.eval) (λx d h=>bY (hev x _ h));obtain⟨g1,g2,g3,g4⟩:=Ka hok;refine⟨.string ⟨⟨cA l a b⟩⟩,?_,.t (.v _ rfl)⟩;have hsz:(ByteArray.mk ⟨l⟩).size=l.length:=rfl;have hb:=vT (P:=P) (w:=w) (isS:=false) (n:=l.length) (cap:=l.length) (lo:=a) (hi:=b) (kl:=kl) (kh:=kh) g1 g2 g3 g4;have hex:(ByteArray.mk ⟨l⟩).extract (dR a) (eM l.length b)=⟨⟨cA l a b⟩⟩:=by
   apply aX3;rw[ByteArray.data_extract];apply tY;rw[Qn,aX9];simp only[List.extract];rw[List.drop_take]
   try trace_state
  unfold execOp;rw[ho];simp only[h1,e1,e2,oK];simp[Instr.sliceAt,Instr.slice,run_underlying hu,hsz,hb,hex]
theorem ok_slice{t e:TypeId}{x:Operand}{lo hi:Option Operand}{sz n:Nat}{ts:List Tree}{d0:D}{a b:Option Int}(hu:P.underlying t=some (.slice e))(hs:fN P e=some sz)(ho:o.op = .slice t x lo hi none)(hx:s.ev x=some d0)(hw:bR s.H d0 (.t (.sl n ts)))(hts:ts.length=n*sz)(hlo:l9 s lo a)(hhi:l9 s hi b)(hok:dJ n a b=true):
    aU P o s fr (.t (.sl (eM n b-dR a) ((ts.take (eM n b*sz)).drop (dR a*sz)))) []:=
 c7 λE σ₁ ν G w ac hH I hev=>by
  have hd:=hw E σ₁ ν G w ac.tmps hH I _ (hev x _ hx);obtain⟨kl,e1⟩:=hlo.run (ρ:=ac.eval) (λx d h=>bY (hev x _ h));obtain⟨kh,e2⟩:=hhi.run (ρ:=ac.eval) (λx d h=>bY (hev x _ h));obtain⟨g1,g2,g3,g4⟩:=Ka hok;obtain⟨inf,hinf,hsz⟩:=b9.1 hs;obtain⟨v,hv⟩:∃v,ac.eval x=v:=⟨_,rfl⟩
  rw[hv]at hd;cases hd with
  |t hd=>
    cases hd with
    | @nil ad cap h0=>
      have hb:=vT (P:=P) (w:=w) (isS:=true) (n:=0) (cap:=cap) (lo:=a) (hi:=b) (kl:=kl) (kh:=kh) g1 (by omega) g3 g4;have z1:eM 0 b=0:=by omega
      have z2:dR a=0:=by omega
      rw[z1,z2]at hb;refine⟨.slice (if cap=0 then ad else ad.map (·.add (0*sz))) (0-0) (cap-0),?_,?_⟩
      .unfold execOp
       rw[ho];simp only[hv,e1,e2,oK];simp[Instr.sliceAt,Instr.slice,run_underlying hu,hb,sizeOf,typeInfo,hinf,hsz]
      .rw[z1,z2]
       simp only[Nat.sub_zero,Nat.zero_mul,Fu,List.drop_zero];refine .t (.nil λhe=>?_);split at he
       .rename_i hc;exact hc
       .exact h0 (by cases ad with|none=>rfl|some _=>cases he)
    |sl bl q _ cap us _ hl hc hn ht=>
      have hb:=vT (P:=P) (w:=w) (isS:=true) (n:=n) (cap:=cap) (lo:=a) (hi:=b) (kl:=kl) (kh:=kh) g1 (by omega) g3 g4;refine⟨.slice (if cap=dR a then some ⟨bl,q,none⟩else some ((⟨bl,q,none⟩:Addr).add (dR a*sz))) (eM n b-dR a) (cap-dR a),?_,?_⟩
      .unfold execOp
       rw[ho];simp only[hv,e1,e2,oK];simp[Instr.sliceAt,Instr.slice,run_underlying hu,hb,sizeOf,typeInfo,hinf,hsz]
      .by_cases hz:eM n b-dR a=0
       .have hnil:(ts.take (eM n b*sz)).drop (dR a*sz)=[]:=by
         apply fD;rw[fL];have:eM n b*sz<=dR a*sz:=kK _ (by omega);omega
        rw[hz,hnil];refine .t (.nil λhe=>?_);split at he <;> cases he
       .have hne:¬ cap=dR a:=by omega
        rw[aC hne,Addr.add_mid];have hm1:eM n b*sz<=n*sz:=kK _ g2;have hm2:dR a*sz<=eM n b*sz:=kK _ g1;refine .t (.sl bl (q+dR a*sz) _ _ ((us.take (eM n b*sz)).drop (dR a*sz)) _ (by simp;omega) (λi u hi'=>?_) (by omega) (λi u t' hu' ht'=>?_))
        .rw[oL,eY]at hi'
         split at hi'
         .have:=hc _ u hi'
          rwa [<-Aa]at this
         .cases hi'
        .rw[oL,eY]at hu' ht'
         split at hu'
         .rename_i hlt
          rw[aE hlt]at ht';exact ht _ u t' hu' ht'
         .cases hu'
end
end Go.Ax
/- Operations: those that make, build and convert. -/
namespace Go.Ax
open aA
open Go.RowKit Go.Ab
theorem aCH{τ:Ty}{σ:Vw}:∀(xs:List (Nat×X))(l:List τ.V)(k:List τ.V->O)(r:aH),FN τ σ l xs k=some r->∃(ys:List (Nat×τ.V))(out:List τ.V),k out=some r/\out.length=l.length/\xs.length=ys.length /\
    (∀(i:Nat)(p:Nat×X)(q:Nat×τ.V),xs[i]?=some p->ys[i]?=some q->p.1=q.1/\bR σ.den.H p.2.D (gT τ q.2).D) /\
    gY ((fJ l.length).map λi=>(i*τ.size,τ.size)) ((l.flatMap (aI τ)).map .t) (ys.map λp=>(p.1,(gT τ p.2).D))=some ((out.flatMap (aI τ)).map .t)
 |[],l,k,r,h=>⟨[],l,h,rfl,rfl,λi p q hp=>by simp at hp,rfl⟩
 |(i0,x)::rest,l,k,r,h=>by
   unfold FN at h;split at h
   .rename_i hi
    have hi':i0<l.length:=by simpa[Nat.blt_eq]using hi
    obtain⟨y,hy,h⟩:=bG h;obtain⟨ys,out,h1,h2,h3,h4,h5⟩:=aCH rest _ k r h;rw[aRI]at h2 h5;have hl:(l.set i0 y).length=l.length:=by simp
    rw[hl]at h2 h5;refine⟨(i0,y)::ys,out,h1,h2,by simp[h3],λi p q hp hq=>?_,?_⟩
    .cases i with
     |zero=>simp at hp hq;subst hp hq;exact⟨rfl,(SS σ x).trans (kQ hy)⟩
     |succ i=>exact h4 i p q (by simpa using hp) (by simpa using hq)
    .have hcell:(gT τ y).D.cells=(aI τ y).map .t/\(gT τ y).D.val=true:=by
      rw[aA9];split
      .rename_i h1
       rw[F2 h1];exact⟨rfl,rfl⟩
      .exact⟨rfl,rfl⟩
     obtain⟨z,hz⟩:∃z,l[i0]?=some z:=⟨_,bM hi'⟩
     obtain⟨A,B,hf,hA⟩:=AQ (f:=aI τ) (s:=τ.size) (λx=>cW τ x) hz;have hset:=aCd (f:=aI τ) (s:=τ.size) (λx=>cW τ x) (l:=l) (i:=i0) (y:=z) (z:=y) (A:=A) (B:=B) (new:=aI τ y) (j:=0) hf hA hi' (by
      have e1:=cW τ y;have e2:=cW τ z;unfold cO;rw[Fu,fK,fD (by omega),kN]) (by rw[cW];omega)
     have hle:i0*τ.size+τ.size<=l.length*τ.size:=by
      rw[<-aDj];exact kK _ hi'
     simp only[gL,gY];rw[cD,List.getElem?_range hi'];simp only[jE];rw[hcell.1,hcell.2];simp only[cQ,cW,mU];rw[aE (by simp[hle])];rw[<-Qk];rw[show i0*τ.size+0=i0*τ.size by omega]at hset;rw[<-hset];exact h5
   .cases h
section
variable{c:Cx}{σ:Vw}{κ:Nat->Bool}{fr:Nat}{o:Oper}{k:X->Wx->O}{r:aH}
theorem aVB(hσ:σ.Ok κ){e:TypeId}{x:Operand}{v:X}(ho:o.op = .box e x)(hx:σ.ev x=some v)(hv:v.val=true)(h:k (.ref fr 0) [(fr,some (.box e v.cells))]=some r):dL c σ fr o k r:=
 ⟨_,_,h,rfl,λhon=>by
  have:=aBg (P:=c.P) (fr:=fr) ho (aY hσ hon hx) (ET hv);rw[Lq hv]at this;exact this⟩
theorem aS4{P:Program}{s:St}{e:TypeId}{z:Value}(ho:o.op = .alloc e)(hz:(P.info? e).bind (·.zero)=some z)(hc:z.cells = #[.pointer none,.slice none 0 0]):aU P o s fr (.ref fr 0) [(fr,some (.box e [.via fr (qH 0),.t (.v (.slice none 0 0))]))]:=by
 intro E σ₁ a w hT _ h100 hf hd ⟨ν,G,I⟩ Q;obtain⟨i,hi,hz'⟩:=jK.1 hz;unfold Oper.wp;have hr:(execOp a.eval o).run P w = .ok (.value (.pointer (some ⟨w.heap.size,0,none⟩))) (w.alloc (.cells z.cells e)):=by
  unfold execOp;rw[ho];simp[Instr.alloc,zeroValue,typeInfo,hi,hz',newVar,newRow]
 rw[hr,Oper.upon_value];have hA:bB w (w.alloc (.cells z.cells e)):=(bB.refl w).alloc _;refine⟨put_defers ..,_,_,I.fresh (G':=λb=>if b=w.heap.size then 0 else G b) h100 hf hd hA (λb hb=>aC (by omega)) (x:=.pointer (some ⟨w.heap.size,0,none⟩)) (λg hg=>by cases hg;exact bX _) ?_ (.ref (jH ..) (by rw[bT];rfl))⟩;refine⟨w.heap.size,z.cells,bT,.inl I.kept.size,heap_alloc_new w _,aE rfl,by rw[hc];rfl,λi u d' hu hd'=>?_⟩;rw[hc]at hu
 match i,hu,hd' with
 |0,hu,hd'=>cases hu;cases hd';exact⟨.via (jH ..) (.inl rfl) rfl,rfl⟩
 |1,hu,hd'=>cases hu;cases hd';exact⟨.t (.v _ rfl),rfl⟩
 |i+2,hu,hd'=>simp at hd'
theorem aW6(fr:Nat)(l:List X):Fi fr l=l\/(l=[.v (.pointer none),.dE]/\Fi fr l=[.via fr 0,.dE]):=by
 unfold Fi;split
 .exact .inr ⟨rfl,rfl⟩
 .exact .inl rfl
theorem aVH{e:TypeId}{z:X}(ho:o.op = .alloc e)(hz:rO c.P e=some z)(h:k (.ref fr 0) [(fr,some (.box e (Fi fr z.cells)))]=some r):dL c σ fr o k r:=
 ⟨_,_,h,rfl,λ_=>by
  obtain⟨v,h1,h2⟩:=UA hz;obtain⟨g1,_,g3,_,g5,_⟩:=FC h2;rcases aW6 fr z.cells with e1|⟨e1,e2⟩
  .have:=aS5 (P:=c.P) (σ:=σ.den) (fr:=fr) ho h1 g1
   rw[e1];rw[g5]at this;exact this
  .have g3:[D.t (.v (.pointer none)),.t (.v (.slice none 0 0))]=v.cells.toList.map (λu=>D.t (.v u)):=by rw[<-g3,e1];rfl
   have hc:v.cells = #[.pointer none,.slice none 0 0]:=by
    apply tY
    match h:v.cells.toList,g3 with
    |[a,b],g3=>cases g3;rfl
   rw[e2];exact aS4 (P:=c.P) ho h1 hc⟩
theorem aVA(hσ:σ.Ok κ){t:TypeId}{ps:Array (Nat×Operand)}{z:X}{pl:List (Nat×Nat)}(ho:o.op = .build t ps)(hz:rO c.P t=some z)(hp:places c.P t=some pl)(h:σ.AT ps.toList (λxs=>F0 pl z.cells xs λcs=>k (.agg cs) [])=some r):dL c σ fr o k r:=by
 obtain⟨xs,h,hl,hev⟩:=S8 h;obtain⟨out,h,hf⟩:=aCk xs z.cells _ r h;refine⟨_,_,h,rfl,λhon=>?_⟩;obtain⟨v,h1,h2⟩:=UA hz;obtain⟨_,_,g3,_,_,_⟩:=FC h2;have hb:=aW0 h1 h2 hp;have hpt:=RG hσ hon ps.toList xs (xs.map λp=>(p.1,p.2.D)) hl hev (by simp) (λi p q hp hq=>by
  rw[cD,hp]at hq;cases hq;exact⟨rfl,bR.refl⟩)
 rw[g3]at hf;have:=aSZ (P:=c.P) (fr:=fr) hb ho hpt hf;unfold X.D;rw[fA];exact this
theorem aUn(hσ:σ.Ok κ){t e:TypeId}{n b:Nat}{τ:Ty}{st:Bool}{ps:Array (Nat×Operand)}(ho:o.op = .buildSlice t n ps)(hE:lK c t=some (e,τ,b))(hle:n*τ.size<=16777216)(h:σ.AT ps.toList (λxs=>FN τ σ (CN τ.zero n) xs λl=>k (.own fr) [(fr,some (.row e τ l st))])=some r):dL c σ fr o k r:=by
 obtain⟨xs,h,hl,hev⟩:=S8 h;obtain⟨ys,out,h,h2,h3,h4,h5⟩:=aCH xs _ _ r h;refine⟨_,_,h,rfl,λhon=>?_⟩;obtain⟨z,hA,hz⟩:=oJ hE;have hpt:=RG hσ hon ps.toList xs (ys.map λp=>(p.1,(gT τ p.2).D)) hl hev (by simp[h3]) (λi p q hp hq=>by
  rw[cD]at hq;obtain⟨y,hy,rfl⟩:=b9.1 hq;exact h4 i p y hp hy)
 rw[aBJ]at h2 h5;rw[Fw]at h2 h5;have hfl:∀m:Nat,(dA m τ.zero).flatMap (aI τ)=(dA m (aI τ τ.zero)).flatten:=λm=>by
  induction m with
  |zero=>rfl
  |succ m ih=>rw[pU,pU,fS,fR,ih]
 rw[hfl]at h5;have:=aSD (P:=c.P) (fr:=fr) st hA hz (len:=n) (by omega) ho hpt h5;rw[<-h2]at this;exact this
theorem aUi(hσ:σ.Ok κ){t e:TypeId}{b:Nat}{τ:Ty}{x y:Operand}{z:Int}{st:Bool}(ho:o.op = .makeSlice t x y)(he:RM x y=true)(hx:σ.ev x=some (.e (.i .i64) z))(hE:lK c t=some (e,τ,b))(h:FM τ e fr b st z k=some r):dL c σ fr o k r:=by
 unfold FM at h;obtain⟨h0,h⟩:=fF h;obtain⟨hb,h⟩:=fF h;refine⟨_,_,h,rfl,λhon=>?_⟩;obtain⟨v,hA,hz⟩:=oJ hE;have h0:=cH h0;unfold b8 at hb;have hb:=cH hb;have hn:((z.toNat:Nat):Int)=z:=by omega
 have hx1:σ.den.ev x=some (I (z.toNat:Nat)):=by
  rw[hn];exact aY hσ hon hx
 have hy1:σ.den.ev y=some (I (z.toNat:Nat)):=by
  unfold RM at he;split at he
  .rw[<-bH he];exact hx1
  .rename_i k1 a k2 b'
   simp only[bA,eC,kX]at he;obtain⟨rfl,rfl⟩:=he;exact hx1
  .cases he
 have hm:z.toNat<=maxLen:=by simp only[maxLen];omega
 have:=aRx (P:=c.P) (fr:=fr) st hA hz ho hx1 hy1 ⟨by rw[Nat.mul_comm];omega,hm⟩;have hfl:∀m:Nat,(dA m τ.zero).flatMap (aI τ)=(dA m (aI τ τ.zero)).flatten:=λm=>by
  induction m with
  |zero=>rfl
  |succ m ih=>rw[pU,pU,fS,fR,ih]
 unfold WA;simp only[gL,List.map_nil,jE,XO.A,Fw,hfl];exact this
end
end Go.Ax
/- Operations: appends, slices, conversions and the others that only reckon. -/
namespace Go.Ax
open aA
open Go.RowKit Go.Ab
theorem pI{α:Type}{f:α->List Tree}{s:Nat}(hf:∀x,(f x).length=s):∀(l:List α)(n:Nat),(l.flatMap f).take (n*s)=(l.take n).flatMap f
 |[],n=>by simp
 |x::l,0=>by simp
 |x::l,n+1=>by
   rw[fS,Th,fS,<-pI hf l n,aDj,aXF,hf,iS (by rw[hf];omega)]
   congr 2
   omega
theorem Lb{α:Type}{f:α->List Tree}{s:Nat}(hf:∀x,(f x).length=s):∀(l:List α)(n:Nat),(l.flatMap f).drop (n*s)=(l.drop n).flatMap f
 |[],n=>by simp
 |x::l,0=>by simp
 |x::l,n+1=>by
   rw[fS,aXS,<-Lb hf l n,aDj,aXV,hf,fD (by rw[hf];omega),fK]
   congr 1
   omega
section
variable{c:Cx}{σ:Vw}{κ:Nat->Bool}{fr:Nat}{o:Oper}{k:X->Wx->O}{r:aH}
theorem aR2{τ:Ty}{x:X}{l:List τ.V}(h:one? (.sl τ) x=some l):x = .e (.sl τ) l\/(x = .dE/\l=[]):=by
 cases x with
 |e τ' y=>
   unfold one? at h;simp only at h;generalize eS τ' (.sl τ)=p at h;cases p with
   |none=>cases h
   |some q=>obtain⟨q⟩:=q;subst q;cases h;exact .inl rfl
 |dE=>unfold one? at h;cases h;exact .inr ⟨rfl,rfl⟩
 |_=>cases h
theorem aQ2{τ:Ty}{xo:Operand}{x:X}{l:List τ.V}(hx:σ.den.ev xo=some x.D)(h:one? (.sl τ) x=some l):Src σ.den xo l.length (l.flatMap (aI τ)):=by
 rcases aR2 h with rfl|⟨rfl,rfl⟩
 .exact .t hx
 .exact .nil hx
theorem K8{τ:Ty}{xo:Operand}{x:X}{l:List τ.V}(hx:σ.den.ev xo=some x.D)(h:σ.src τ x=some l):Src σ.den xo l.length (l.flatMap (aI τ)):=by
 cases x with
 |own q=>
   unfold Vw.src at h;simp only at h;split at h
   .rename_i e τ' l' st hq
    generalize eS τ' τ=p at h;cases p with
    |none=>cases h
    |some g=>
      obtain⟨g⟩:=g;subst g;cases h;exact .own (e:=e) (s:=τ'.size) (st:=st) hx (by rw[dG hq];rfl)
   .cases h
 |_=>exact aQ2 hx h
theorem aVC(hσ:σ.Ok κ){t e:TypeId}{x y:Operand}{v w:X}{τ:Ty}{bt:Nat}{l':List τ.V}(ho:o.op = .call { callee:=.builtin .append,args:=#[x,y],argTypes:=#[t,t] })(hE:lK c t=some (e,τ,bt))(hx:σ.ev x=some v)(hy:σ.ev y=some w)(hl:σ.src τ w=some l'){st:Bool}
    (h:(∃q st' l,v = .own q/\σ.H q=some (.row e τ l st')/\TV τ e fr bt [(q,none)] st' l l' k=some r)\/(v = .dE/\ck (b8 (dX l') bt) (k (.own fr) [(fr,some (.row e τ l' st))])=some r)):dL c σ fr o k r:=by
 obtain⟨z,hA,_⟩:=oJ hE;rcases h with⟨q,st',l,rfl,hq,h⟩|⟨rfl,h⟩
 .unfold TV at h
  obtain⟨hb,h⟩:=fF h;refine⟨_,_,h,rfl,λhon=>?_⟩;unfold b8 at hb;have hb:=cH hb;rw[bF]at hb;have:=vB (P:=c.P) (fr:=fr) st' hA ho (.own (k:=q) (n:=l.length) (ts:=l.flatMap (aI τ)) (aY hσ hon hx) (by rw[dG hq];rfl)) (K8 (aY hσ hon hy) hl) (by rw[mU]) ⟨hb.1,by simp only[maxLen];omega⟩;unfold WA;simp only[gL,List.map_nil,jE,oK,XO.A,bF,List.flatMap_append];exact this
 .obtain⟨hb,h⟩:=fF h
  refine⟨_,_,h,rfl,λhon=>?_⟩;unfold b8 at hb;have hb:=cH hb;have:=vB (P:=c.P) (fr:=fr) st hA ho (.nil (aY hσ hon hx)) (K8 (aY hσ hon hy) hl) (by rw[mU]) ⟨by rw[cY];exact hb.1,by simp only[maxLen];omega⟩;rw[cY,fK]at this;exact this
theorem vA(hσ:σ.Ok κ){x:Option Operand}{f:Option Int->O}(h:σ.kE x f=some r):∃v,f v=some r/\(σ.On->l9 σ.den x v):=by
 unfold Vw.kE at h;split at h
 .exact⟨none,h,λ_=>trivial⟩
 .obtain⟨w,hw,h⟩:=bG h
  obtain⟨ik,n,hn,h⟩:=Fk h;exact⟨some n,h,λhon=>⟨ik,by rw[aY hσ hon hw,hn]⟩⟩
theorem aQ8(hσ:σ.Ok κ){t e:TypeId}{x:Operand}{lo hi:Option Operand}{v:X}{τ:Ty}{l:List τ.V}{a b:Option Int}(ho:o.op = .slice t x lo hi none)(hx:σ.ev x=some v)(ha:σ.On->l9 σ.den lo a)(hb:σ.On->l9 σ.den hi b)(hu:c.P.underlying t=some (.slice e))(hm:fN c.P e=some τ.size)(hg:σ.iE v = .e (.sl τ) l)
    (h:Qo τ (σ.g.map (·.2)) l a b (λr=>k r [])=some r):dL c σ fr o k r:=by
 unfold Qo at h;obtain⟨h,hok⟩:=mW h;refine⟨_,_,h,rfl,λhon=>?_⟩;have hw:=vL σ v;rw[hg]at hw;have:=ok_slice (P:=c.P) (fr:=fr) hu hm ho (aY hσ hon hx) (n:=l.length) (ts:=l.flatMap (aI τ)) hw (mU l) (ha hon) (hb hon) (hok hon.g);rw[pI (λx=>cW τ x),Lb (λx=>cW τ x),<-Qn]at this;have hlen:eM l.length b-dR a=(cA l a b).length:=by
  obtain⟨g1,g2,_,_⟩:=Ka (hok hon.g);rw[Qn,List.length_drop,fL];omega
 rw[hlen]at this;exact this
theorem aC7(hσ:σ.Ok κ){t:TypeId}{x:Operand}{lo hi:Option Operand}{v:X}(ho:o.op = .slice t x lo hi none)(hx:σ.ev x=some v)(h:σ.kE lo (λlo=>σ.kE hi λhi=>K9 c σ t v lo hi λr=>k r [])=some r):dL c σ fr o k r:=by
 obtain⟨a,h,ha⟩:=vA hσ h;obtain⟨b,h,hb⟩:=vA hσ h;unfold K9 at h;split at h
 .rename_i e τ l hu hg
  split at h
  .rename_i m hm
   split at h
   .rename_i hs
    have hs:=bH hs;subst hs;exact aQ8 hσ ho hx ha hb hu hm hg h
   .cases h
  .cases h
 .rename_i l hu hg
  unfold aAq at h;obtain⟨h,hok⟩:=mW h;refine⟨_,_,h,rfl,λhon=>?_⟩;have hv:v = .e .tx l:=by
   unfold Vw.iE at hg;split at hg
   .split at hg
    .cases hg
    .cases hg
   .exact hg
  subst hv;exact aR8 (P:=c.P) (fr:=fr) hu ho (aY hσ hon hx) (ha hon) (hb hon) (hok hon.g)
 .cases h
theorem S1:∀(l:List (Ty.V .u8))(j:Nat)(x:Ty.V .u8),l[j]?=some x->(l.flatMap (aI .u8))[j]?=some (.v (.int .u8 (UInt8.toNat x:Int)))
 |[],j,x,h=>by simp at h
 |u::l,0,x,h=>by cases h;rfl
 |u::l,j+1,x,h=>S1 l j x (by simpa using h)
theorem aWJ{P:Program}{s:St}{n:Int}(h:aU P o s fr (.t (.v (.int .u8 (IntKind.u8.wrap n)))) []):aU P o s fr (X.e .u8 (nU n)).D []:=by
 rw[<-aPu]at h;exact h
theorem aWI{P:Program}{s:St}{u:UInt8}(h:aU P o s fr (.t (.v (.int .u8 (IntKind.u8.wrap (u.toNat:Int))))) []):aU P o s fr (X.e .u8 u).D []:=by
 have h8:IntKind.u8.wrap (u.toNat:Int)=(u.toNat:Int):=by
  rw[GG];have:=u.toNat_lt;omega
 rw[h8]at h;exact h
theorem aU7(hσ:σ.Ok κ){s d e:TypeId}{x:Operand}{l:List UInt8}(hs:c.P.underlying s=some .string)(hd:c.P.underlying d=some (.slice e))(he:c.P.underlying e=some (.int .u8))(ho:o.op = .convert s d x)(hx:σ.ev x=some (.e .tx l))(h:k (.e (.sl .u8) l) []=some r):dL c σ fr o k r:=
 ⟨_,_,h,rfl,λhon=>by
  intro E σ₁ a w hT hHH h100 hf hdst ⟨ν,G,I⟩ Q;have hv:a.eval x = .string ⟨⟨l⟩⟩:=bY (I.ev (St.cP hT (show σ.den.ev x=some (.t (.v (.string ⟨⟨l⟩⟩)))from aY hσ hon hx)));have hc:=Lib.run_convert_string_bytes (P:=c.P) w s d e ⟨⟨l⟩⟩ hs hd he;have hrun:(execOp a.eval o).run c.P w = .ok (.value (.slice (some ⟨w.heap.size,0,none⟩) l.length (grownCap w l.length 0 e))) (Lib.bytesWorld w e ⟨⟨l⟩⟩):=by
   unfold execOp;rw[ho];simp only[hv];simp only[Sem.run_bind,hc];rfl
  have hA:bB w (Lib.bytesWorld w e ⟨⟨l⟩⟩):=⟨rfl,rfl,rfl,by rw[Lib.bytesWorld_size];omega,λj hj=>Lib.bytesWorld_at_old w e _ j hj⟩;unfold Oper.wp;rw[hrun,Oper.upon_value];refine⟨put_defers ..,ν,λb=>if b<w.heap.size then G b else l.length,(I.dI hA (λb hb=>aE hb)).put ?_ hdst fr a rfl⟩;refine .t ?_;show TR _ _ _ (.sl l.length (bZ (aI .u8) l));cases hl:l with
  |nil=>exact .nil (λh=>by cases h)
  |cons b0 l0=>
    rw[<-hl];refine .sl w.heap.size 0 l.length _ (l.map λb=>Value.int .u8 (b.toNat:Int)) _ (by rw[cQ];exact((mU (τ:=.u8) l).trans (jL _)).symm) (λi u hu=>?_) (grownCap_ge _ _ _ _) (λi u t hu ht=>?_)
    .rw[cD]at hu
     obtain⟨b,hb,rfl⟩:=b9.1 hu;have hi:=(bP.1 hb).1;refine⟨?_,by show 0+i<if w.heap.size<w.heap.size then G w.heap.size else l.length;rw[aC (by omega),cY];exact hi⟩;rw[cY];have:=Lib.bytesWorld_cell w e ⟨⟨l⟩⟩ i hi;rw[this];have hb':l.getD i 0=b:=by rw[List.getD_eq_getElem?_getD,hb];rfl
     show some (Value.int .u8 (((l.getD i 0).toNat:Nat):Int))=_;rw[hb']
    .rw[cD]at hu
     obtain⟨b,hb,rfl⟩:=b9.1 hu;have:=S1 l i b hb;rw[this]at ht;cases ht;exact .v _ rfl⟩
theorem aUy(hσ:σ.Ok κ){s d e:TypeId}{x:Operand}{v:X}{l:List UInt8}(hs:c.P.underlying s=some (.slice e))(he:c.P.underlying e=some (.int .u8))(hd:c.P.underlying d=some .string)(ho:o.op = .convert s d x)(hx:σ.ev x=some v)(hl:σ.src .u8 v=some l)(h:k (.e .tx l) []=some r):dL c σ fr o k r:=
 ⟨_,_,h,rfl,λhon=>by
  intro E σ₁ a w hT hHH h100 hf hdst ⟨ν,G,I⟩ Q;obtain⟨ax,cp,us,hxv,hul,hrd,hnone,htr⟩:=(K8 (aY hσ hon hx) hl).rd hT hHH I;have hc:(convert s d (a.eval x)).run c.P w = .ok (.string ⟨⟨l⟩⟩) w:=by
   rw[hxv];cases ax with
   |none=>
     have hl0:l=[]:=List.eq_nil_of_length_eq_zero (hnone rfl).2;subst hl0;simp[convert,run_underlying hs,run_underlying hd,run_underlying he,Conv.bytesToString];rfl
   |some ad=>
     refine run_convert_bytes_back (P:=c.P) w s d e ad cp l hs he hd (λj hj=>?_);have hj':=S1 l j l[j] (bM hj);have hlen:(bZ (aI .u8) l).length=l.length:=(mU (τ:=.u8) l).trans (jL _);have hju:j<us.length:=by rw[hul];exact hlen ▸ hj
     obtain⟨ad',e1,e2⟩:=hrd j us[j] (bM hju);cases e1;have ht:=htr j us[j] _ (bM hju) hj';rw[e2];generalize us[j]=u at ht;cases ht with
     |v _ _=>rfl
  unfold Oper.wp;have he:(execOp a.eval o).run c.P w = .ok (.value (.string ⟨⟨l⟩⟩)) w:=by
   unfold execOp;rw[ho];simp[hc]
  rw[he,Oper.upon_value];exact⟨put_defers ..,ν,G,I.put (.t (.v _ rfl)) hdst fr a rfl⟩⟩
theorem aUw(hσ:σ.Ok κ){s d:TypeId}{x:Operand}{v:X}(ho:o.op = .convert s d x)(hx:σ.ev x=some v)(h:Lo c.P s d v (λr=>k r [])=some r):dL c σ fr o k r:=by
 unfold Lo at h;split at h
 .rename_i hs hd
  refine⟨_,_,h,rfl,λhon=>?_⟩;exact aWJ (FA (P:=c.P) (fr:=fr) ho (by rw[hs];rfl) hd (aY hσ hon hx))
 .rename_i hs hd
  refine⟨_,_,h,rfl,λhon=>?_⟩;exact aWI (FA (P:=c.P) (fr:=fr) ho (by rw[hs];rfl) hd (aY hσ hon hx))
 .rename_i hs hd
  refine⟨_,_,h,rfl,λhon=>?_⟩;exact FA (P:=c.P) (fr:=fr) ho (by rw[hs];rfl) hd (aY hσ hon hx)
 .rename_i hs hd
  refine⟨_,_,h,rfl,λhon=>?_⟩;exact FA (P:=c.P) (fr:=fr) ho (by rw[hs];rfl) hd (aY hσ hon hx)
 .cases h
theorem aUo(hσ:σ.Ok κ){t:TypeId}{x:Operand}{v:X}(ho:o.op = .call { callee:=.builtin .len,args:=#[x],argTypes:=#[t] })(hx:σ.ev x=some v)(h:Rz c σ t v (λr=>k r [])=some r):dL c σ fr o k r:=by
 unfold Rz at h;split at h
 .rename_i v' e hu
  unfold Vw.len at h;split at h
  .split at h
   .rename_i q e' τ l st hq
    refine⟨_,_,h,rfl,λhon=>?_⟩;exact jU (P:=c.P) (fr:=fr) hu ho rfl (.own (aY hσ hon hx) (by rw[dG hq];rfl))
   .rename_i q e' e1 τ l hq
    refine⟨_,_,h,rfl,λhon=>?_⟩;have:=aSI (P:=c.P) (fr:=fr) hu ho rfl (aY hσ hon hx) (dG hq);rw[cQ]at this;exact this
   .rename_i q e' e1 κ' ρ l ln hq
    refine⟨_,_,h,rfl,λhon=>?_⟩;exact aSG (P:=c.P) (fr:=fr) hu ho rfl (aY hσ hon hx) (dG hq)
   .cases h
  .split at h
   .rename_i q i e' e1 τ l hq
    obtain⟨y,hy,h⟩:=mS h;refine⟨_,_,h,rfl,λhon=>?_⟩;exact aSH (P:=c.P) (fr:=fr) hu ho rfl (aY hσ hon hx) (dG hq) (FJ hy)
   .cases h
  .refine⟨_,_,h,rfl,λhon=>?_⟩
   exact jU (P:=c.P) (fr:=fr) hu ho rfl (.t (aY hσ hon hx))
  .refine⟨_,_,h,rfl,λhon=>?_⟩
   exact jU (P:=c.P) (fr:=fr) hu ho rfl (.nil (aY hσ hon hx))
  .cases h
 .rename_i l hu
  refine⟨_,_,h,rfl,λhon=>?_⟩;exact aSF (P:=c.P) (fr:=fr) hu ho rfl (aY hσ hon hx)
 .cases h
theorem aD2(hσ:σ.Ok κ){b:Operand}{j:Nat}{q:Bool}(h:σ.TH b=some (j,q))(hon:σ.On):σ.den.ev b=some (B q)/\κ (2*j+1)=q/\κ (2*j)=!q:=by
 unfold Vw.TH at h;split at h
 .rename_i t
  split at h
  .rename_i ht
   cases h;exact⟨pL ht,hσ.pH _ _ ht⟩
  .rename_i key cc j' q' ht
   split at h
   .rename_i key' c' hg
    split at h
    .rename_i hb
     have hb:=bH hb;subst hb;cases h;obtain⟨h1,h2,h3⟩:=hσ.pH _ _ ht;have hc:cc=true:=h1.trans ((hσ.g _ _ hg).symm.trans (hon _ _ hg));subst hc;exact⟨pL ht,by simpa using h2,by simpa using h3⟩
    .cases h
   .cases h
  .cases h
 .cases h
theorem aCo(hσ:σ.Ok κ){key:Nat}{x:Operand}{v:X}(h:σ.Ca key x=some v):v.pl=true/\(σ.On->κ key=true->σ.den.ev x=some v.D):=by
 unfold Vw.Ca at h;split at h
 .rename_i t
  split at h
  .rename_i key' cc y ht
   split at h
   .rename_i hb
    have hb:=bH hb;subst hb;obtain⟨h1,h2⟩:=hσ.pH _ _ ht;have hD:κ key'=true->σ.den.ev (.tmp t)=some y.D:=λhk=>by
     have e:σ.den.ev (.tmp t)=some (X.eO key' cc y).D:=pL ht;rw[hk]at h1;subst h1;exact e
    split at h
    .cases h
     exact⟨rfl,λ_ hk=>hD hk⟩
    .cases h
    .rename_i n1 n2
     cases h;refine⟨?_,λ_ hk=>hD hk⟩;cases v with
     |bit j q=>exact absurd rfl (n1 j q)
     |eO a b c=>exact absurd rfl (n2 a b c)
     |_=>rfl
   .refine⟨Q0 h,λhon hk=>?_⟩
    cases cc with
    |true => 
      have e:σ.den.ev (.tmp t)=some (X.eO key' true y).D:=pL ht;rw[e,Q1 (hσ.pH t _ ht) hσ.g hon h]
    |false=>
      exfalso;unfold tA at h;split at h
      .rename_i he;cases he
      .rename_i key2 c2 y2 he
       cases he;split at h
       .rename_i key3 c3 hg
        split at h
        .rename_i hb
         have hb:=bH hb;subst hb;have:=(hσ.pH _ _ ht).1;rw[<-hσ.g _ _ hg,hon _ _ hg]at this;cases this
        .cases h
       .cases h
      .rename_i n1 n2
       exact n2 _ _ _ rfl
  .rename_i y hy ht
   refine⟨Q0 h,λhon hk=>?_⟩;have e:σ.den.ev (.tmp t)=some y.D:=pL ht;rw[e,Q1 (hσ.pH t y ht) hσ.g hon h]
  .cases h
 .exact⟨vN h,λhon _=>aY hσ hon h⟩
theorem aUc(hσ:σ.Ok κ){b x y:Operand}(ho:o.op = .pick b x y)(h:RF σ b x y (λr=>k r [])=some r):dL c σ fr o k r:=by
 unfold RF at h;split at h
 .rename_i j q hbit
  obtain⟨v,hv,h⟩:=bG h;obtain⟨v',hv',h⟩:=bG h;obtain⟨p1,d1⟩:=aCo hσ hv;obtain⟨p2,d2⟩:=aCo hσ hv';have hT:∀d,q=true->(σ.On->v.D=d)->σ.On->aU c.P o σ.den fr d []:=λd hq hd hon=>by
   obtain⟨h1,h2,h3⟩:=aD2 hσ hbit hon;subst hq;rw[<-hd hon];exact RP ho h1 (d1 hon h2)
  have hF:∀d,q=false->(σ.On->v'.D=d)->σ.On->aU c.P o σ.den fr d []:=λd hq hd hon=>by
   obtain⟨h1,h2,h3⟩:=aD2 hσ hbit hon;subst hq;rw[<-hd hon];exact RQ ho h1 (d2 hon h3)
  have hbr:br q (k v []) (k v' [])=some r->dL c σ fr o k r:=λh=>by
   rcases tO h with⟨hq,h⟩|⟨hq,h⟩
   .exact⟨_,_,h,p1,hT _ hq (λ_=>rfl)⟩
   .exact⟨_,_,h,p2,hF _ hq (λ_=>rfl)⟩
  split at h
  .rename_i a a' h0
   split at h
   .unfold aD9 at h
    refine⟨_,_,h,rfl,λhon=>?_⟩;cases q with
    |true=>exact hT _ rfl (λ_=>rfl) hon
    |false=>
      refine hF _ rfl (λ_=>?_) hon;have:(X.e .bo false) = .e .bo a':=by
       have e:σ.Ca (2*j) (.const (.bool false))=some (.e .bo false):=rfl;rw[e]at hv';exact eX hv'
      exact aO X.D this.symm
   .unfold orX at h
    refine⟨_,_,h,rfl,λhon=>?_⟩;cases q with
    |true=>
      refine hT _ rfl (λ_=>?_) hon;have:(X.e .bo true) = .e .bo a:=by
       have e:σ.Ca (2*j+1) (.const (.bool true))=some (.e .bo true):=rfl;rw[e]at hv;exact eX hv
      exact aO X.D this.symm
    |false=>exact hF _ rfl (λ_=>rfl) hon
   .exact hbr h
  .exact hbr h
 .obtain⟨v,hv,h⟩:=bG h
  split at h
  .rename_i q
   rcases tO h with⟨hq,h'⟩|⟨hq,h'⟩
   .obtain⟨w,hw,h''⟩:=bG h'
    subst hq;exact⟨_,_,h'',vN hw,λhon=>RP ho (aY hσ hon hv) (aY hσ hon hw)⟩
   .obtain⟨w,hw,h''⟩:=bG h'
    subst hq;exact⟨_,_,h'',vN hw,λhon=>RQ ho (aY hσ hon hv) (aY hσ hon hw)⟩
  .obtain⟨w,hw,h''⟩:=bG h
   exact⟨_,_,h'',vN hw,λhon=>RP ho (aY hσ hon hv) (aY hσ hon hw)⟩
  .obtain⟨w,hw,h''⟩:=bG h
   exact⟨_,_,h'',vN hw,λhon=>RQ ho (aY hσ hon hv) (aY hσ hon hw)⟩
  .cases h
end
end Go.Ax
