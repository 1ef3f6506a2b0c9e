/- The abstract machine, run: operations. Conditions are in the theorems. -/
import Derived.Test.YtlhdefefoaldfaaGreatDoorE5
import Derived.Laws.IdiomStrings
open Array renaming ext'->u0,getElem?_eq_getElem->pF,toList_extract->a4s
open Bool renaming and_eq_true->bM
open ByteArray renaming ext->a4m
open List renaming append_assoc->iK,append_eq_nil_iff->a4i,append_nil->yE,drop_append->a4g,drop_append_of_le_length->aIx,drop_eq_nil_of_le->sF,drop_succ_cons->a4e,flatMap->iP,flatMap_cons->jS,flatten_cons->EU,getElem?_append_left->gD,getElem?_append_right->eP,getElem?_drop->yB,getElem?_eq_getElem->dF,getElem?_eq_some_iff->cX,getElem?_map->dL,getElem?_take->iO,length->gK,length_append->dO,length_map->dI,length_replicate->Xe,length_take->lU,map_append->qM,map_cons->iN,map_drop->a4a,map_take->a48,mem_cons->fA,nil_append->n6,range->pA,replicate->eR,replicate_succ->qL,take_append->a4W,take_append_of_le_length->aIq,take_of_length_le->ES,take_succ_cons->a4T,take_zero->Xa
open Nat renaming add_assoc->B1,add_mul->jR,add_zero->n5,ble_eq_true_of_le->X8,eq_of_beq_eq_true->bY,le_of_ble_eq_true->fC,le_refl->cE,mul_le_mul_right->mL,mul_one->IJ,one_mul->aIk,sub_self->aIj,succ_mul->aIi,zero_add->e9
open Option renaming bind_eq_some_iff->kY,map_eq_some_iff->cN,map_none->nZ,map_some->kX
open Option.some renaming inj->fL
/- Operations: parts of data, what is read, what is built. -/
namespace Go.Ax
open aA
open Go.RowKit Go.Ab
theorem PC{P:Program}{o:Oper}{σ:St}{fr:Nat}{d d':D}(h:bI P o σ fr d [])(hw:cC σ.H d d'):bI P o σ fr d' []:=λE σ₁ a w h1 h2 h3 h4 h5 h6 Q=>Oper.wp_mono (λa' w' ⟨q1,ν,G,I⟩=>by
 refine⟨q1,ν,G,I.kept,I.eJ,I.fS,I.g0,I.sz,λt x ht=>?_,I.H,I.dS⟩;simp only[St.aZ]at ht;by_cases e:o.dst=some t
 .rw[aN e]at ht
  cases ht;obtain⟨v,hv,hd⟩:=I.T t d (by simp only[St.aZ];rw[aN e]);exact⟨v,hv,hw E _ ν G w' _ (λk ob hk=>by simp only[St.aZ,Ab.look];exact h2 k ob hk) I v hd⟩
 .rw[aF e]at ht
  exact I.T t x (by simp only[St.aZ];rw[aF e];exact ht)) (h E σ₁ a w h1 h2 h3 h4 h5 h6 Q)
theorem HB{x:X}(h:x.val=true):x.D.val=true:=by
 cases x with
 |e τ y=>
   have h:τ.one=true:=h;rw[qA h];rfl
 |bD xs=>cases h
 |eO a b c=>cases h
 |bit a b=>cases h
 |dP a=>cases h
 |_=>rfl
theorem Og{x:X}(h:x.val=true):x.D.cells=x.cells.map X.D:=a3Y h (HB h)
theorem Wk{α:Type}:∀(n:Nat)(l:List α),xQ n l=l.drop n
 |0,l=>rfl
 |n+1,[]=>by simp[xQ]
 |n+1,x::l=>by simp[xQ,Wk n l]
theorem Uj{α:Type}:∀(n:Nat)(l:List α),tZ n l=l.take n
 |0,l=>by simp[tZ]
 |n+1,[]=>by simp[tZ]
 |n+1,x::l=>by simp[tZ,Uj n l]
theorem Nt{α:Type}:∀(l:List α)(off:Nat)(new:List α),off+new.length<=l.length->kQ l off new=c8 l off new
 |[],off,new,h=>by
   simp at h;obtain⟨rfl,rfl⟩:=h;rfl
 |x::l,0,[],_=>by simp[kQ,c8]
 |x::l,0,y::new,h=>by
   have ih:=Nt l 0 new (by simp at h ⊢;omega);simp only[kQ,ih,c8];simp
 |x::l,n+1,new,h=>by
   have ih:=Nt l n new (by simp at h ⊢;omega);simp only[kQ,ih,c8,a4T,List.cons_append];rw[show n+1+new.length=(n+new.length)+1 by omega,a4e]
theorem Ux{α β:Type}(f:α->β)(l:List α)(off:Nat)(new:List α):(c8 l off new).map f=c8 (l.map f) off (new.map f):=by
 simp[c8]
theorem aG4{α:Type}(x:α):∀n,De x n=eR n x
 |0=>rfl
 |n+1=>by rw[De,aG4 x n,qL]
theorem aZX{α:Type}(l:List α)(i:Nat)(x:α):gQ x i l=l.set i x:=by
 have:=H7 (λz:α=>z) l i x;simpa using this
theorem IC:∀(τ:Ty)(x:τ.V)(j m:Nat)(k:(τ':Ty)->τ'.V->O)(r:aC),nW τ x j m k=some r->∃(τ':Ty)(y:τ'.V)(A B:List Tree),k τ' y=some r/\bH τ x=A++bH τ' y++B/\A.length=j/\m=τ'.size
 |.pr a b,x,j,m,k,r,h=>by
   unfold nW at h;split at h
   .rename_i hb
    rw[bM]at hb;exact⟨.pr a b,x,[],[],h,by simp,(bY hb.1).symm,bY hb.2⟩
   .split at h
    .obtain⟨τ',y,A,B,h1,h2,h3,h4⟩:=IC a x.1 j m k r h
     exact⟨τ',y,A,B++bH b x.2,h1,by rw[bH,h2];simp,h3,h4⟩
    .rename_i hlt
     obtain⟨τ',y,A,B,h1,h2,h3,h4⟩:=IC b x.2 (j-a.size) m k r h;have:¬ j<a.size:=λhj=>by
      have:Nat.blt j a.size=true:=X8 hj;rw[this]at hlt;cases hlt
     exact⟨τ',y,bH a x.1++A,B,h1,by rw[bH,h2];simp,by rw[dO,dR,h3];omega,h4⟩
 |.ex,x,j,m,k,r,h=>by
   unfold nW at h;split at h
   .exact⟨.ex,x,[],[],h,by simp,rfl,rfl⟩
   .exact⟨.i .i64,Ex.op x,[],[.v (.int .i64 (Ex.num x)),.sl (gK (Ex.kids x)) ((Ex.kids x).flatMap cO)],h,(by have:=EE x;exact this),rfl,rfl⟩
   .exact⟨.i .i64,Ex.num x,[.v (.int .i64 (Ex.op x))],[.sl (gK (Ex.kids x)) ((Ex.kids x).flatMap cO)],h,(by have:=EE x;exact this),rfl,rfl⟩
   .exact⟨.sl .ex,Ex.kids x,[.v (.int .i64 (Ex.op x)),.v (.int .i64 (Ex.num x))],[],h,(by have:=EE x;exact this),rfl,rfl⟩
   .cases h
 |.i a,x,j,m,k,r,h=>by
   unfold nW at h;split at h
   .rename_i hb
    rw[bM]at hb;exact⟨.i a,x,[],[],h,by simp,(bY hb.1).symm,bY hb.2⟩
   .cases h
 |.u8,x,j,m,k,r,h=>by
   unfold nW at h;split at h
   .rename_i hb
    rw[bM]at hb;exact⟨.u8,x,[],[],h,by simp,(bY hb.1).symm,bY hb.2⟩
   .cases h
 |.bo,x,j,m,k,r,h=>by
   unfold nW at h;split at h
   .rename_i hb
    rw[bM]at hb;exact⟨.bo,x,[],[],h,by simp,(bY hb.1).symm,bY hb.2⟩
   .cases h
 |.tx,x,j,m,k,r,h=>by
   unfold nW at h;split at h
   .rename_i hb
    rw[bM]at hb;exact⟨.tx,x,[],[],h,by simp,(bY hb.1).symm,bY hb.2⟩
   .cases h
 |.sl a,x,j,m,k,r,h=>by
   unfold nW at h;split at h
   .rename_i hb
    rw[bM]at hb;exact⟨.sl a,x,[],[],h,by simp,(bY hb.1).symm,bY hb.2⟩
   .cases h
theorem BM{α:Type}{f:α->List Tree}{s:Nat}(hf:∀x,(f x).length=s):∀{l:List α}{i:Nat}{y:α},l[i]?=some y->∃A B,l.flatMap f=A++f y++B/\A.length=i*s
 |[],i,y,h=>by simp at h
 |x::l,0,y,h=>by simp at h;subst h;exact⟨[],l.flatMap f,by simp,by simp⟩
 |x::l,i+1,y,h=>by
   obtain⟨A,B,h1,h2⟩:=BM hf (l:=l) (i:=i) (y:=y) (by simpa using h);exact⟨f x++A,B,by rw[jS,h1];simp,by rw[dO,hf,h2,jR];omega⟩
theorem BQ{τ:Ty}(l:List τ.V):(l.flatMap (bH τ)).length=l.length*τ.size:=a2a (λx=>dR τ x) l
theorem cC.ptr{H:Nat->Option aS}{A ts B:List Tree}{off:Nat}(hA:A.length=off):cC H (.ptr (A++ts++B) off) (.ptr ts 0):=λ_ s ν G w _ _ _ v hv=>by
 obtain⟨b,q,us,rfl,hl,hc,ht⟩:=Dh hv;have hlen:us.length=A.length+ts.length+B.length:=by rw[hl];simp;omega
 have:=DR.ptr (ν:=ν) (nm:=s.nm) (w:=w) (G:=G) (b:=b) (o:=q+off) (off:=0) (us:=(us.drop off).take ts.length) (ts:=ts) (by simp;omega) (λi u hu=>by
  rw[iO]at hu;split at hu
  .rw[yB]at hu
   have:=hc (off+i) u hu
   rwa [<-B1]at this
  .cases hu) (λi u t hu hti=>by
  rw[iO]at hu;split at hu
  .rename_i hi
   rw[yB]at hu;refine ht (off+i) u t hu ?_;rw[iK,eP (by omega),gD (by omega),show off+i-A.length=i by omega];exact hti
  .cases hu)
 exact this
theorem cC.aZK{H:Nat->Option aS}{q off:Nat}{e:TypeId}{s n:Nat}{A ts B:List Tree}(hq:H q=some (.row e s n (A++ts++B) true))(hA:A.length=off):cC H (.ref q off) (.ptr ts 0):=λE st ν G w tm hH I v hv=>by
 obtain⟨g,hg,rfl,_⟩:=oU hv;have htr:=I.rows _ _ _ _ _ _ (hH _ _ hq) rfl;obtain⟨u,hu⟩:∃u,ν q=u:=⟨_,rfl⟩
 rw[hu]at htr hg;obtain⟨L,hL⟩:∃L,A++ts++B=L:=⟨_,rfl⟩
 rw[hL]at htr;cases htr with
 |nil h=>
   have hts:ts=[]:=(a4i.1 (a4i.1 hL).1).2;subst hts;have:=DR.ptr (ν:=ν) (nm:=st.nm) (w:=w) (G:=G) (b:=g) (o:=off) (off:=0) (us:=[]) (ts:=[]) rfl (λi u h=>by simp at h) (λi u t h=>by simp at h);exact this
 |sl b o n c us ts' hl hc hn h=>
   simp only[bP,Option.some.injEq]at hg;subst hg
   -- a row of one's own begins at its block's first cell
   have ho:o=0:=by
    obtain⟨_,xs,r1,_⟩:=I.H _ _ (hH _ _ hq);rcases r1.2 with⟨hv,_⟩|⟨g,cap,cur,hv,_⟩
    .rw[hu]at hv;cases hv
    .rw[hu]at hv;cases hv;rfl
   subst ho;rw[<-hL]at hl h;have h0:DR ν st.nm w G (.pointer (some ⟨b,0+off,none⟩)) (.ptr (A++ts++B) off):=.ptr hl hc h;rw[e9]at h0;exact cC.ptr (H:=H) hA E st ν G w tm hH I _ h0
end Go.Ax
/- Operations: loads and stores, addresses, what is built. -/
namespace Go.Ax
open aA
open Go.RowKit Go.Ab
abbrev eF(c:Cx)(σ:Vw)(fr:Nat)(o:Oper)(k:X->Wx->O)(r:aC):Prop:=∃x W,k x W=some r/\x.pl=true/\(σ.On->bI c.P o σ.den fr x.D (WA W))
theorem toT{τ:Ty}{y:τ.V}(h:τ.one=true):(bH τ y).map D.t=[(X.e τ y).D]:=by rw[Ht h,qA h];rfl
section
variable{c:Cx}{σ:Vw}{κ:Nat->Bool}{fr:Nat}{o:Oper}{r:aC}
theorem OJ{τ:Ty}{l:List (List τ.V)}{i:Nat}{r:List τ.V}(h:l[i]?=some r):(l.map λr=>(gK r,iP (bH τ) r))[i]?=some (gK r,iP (bH τ) r):=by rw[dL,h];rfl
theorem a29{τ:Ty}(h:τ.one=true)(r:List τ.V):iP (bH τ) r=r.map (uM τ):=aHj (λy=>Ht h y) r
theorem a1M{i i' j s:Nat}(h1:1<=j)(h2:j<s):i'*s≠i*s+j:=λe=>by
 rcases Nat.lt_trichotomy i' i with h|h|h
 .have:=mL s (show i'+1<=i by omega)
  rw[jR,aIk]at this;omega
 .subst h;omega
 .have:=mL s (show i+1<=i' by omega)
  rw[jR,aIk]at this;omega
theorem a1N{κ ρ:Ty}{l:List (List κ.V×ρ.V)}{ln:Option (Int×Nat)}{i j:Nat}{y:List κ.V×ρ.V}(hy:l[i]?=some y)(h1:1<=j)(h2:j<1+ρ.size):(uF (1+ρ.size) (iP mG l) ln)[i*(1+ρ.size)+j]?=((bH ρ y.2)[j-1]?).map λt=>.qC (.t t):=by
 have hg:=aHp (f:=mG) aIW l i j y hy h2;have:(mG y)[j]?=((bH ρ y.2)[j-1]?).map λt=>.qC (.t t):=by
  obtain⟨j',rfl⟩:∃j',j=j'+1:=⟨j-1,by omega⟩
  unfold mG;rw[List.getElem?_cons_succ,dL];rfl
 rw[this]at hg;unfold uF;split
 .exact hg
 .rw[List.getElem?_set_ne (a1M h1 h2)];exact hg
theorem a1O{κ ρ:Ty}{l:List (List κ.V×ρ.V)}{ln:Option (Int×Nat)}{i j:Nat}{y:List κ.V×ρ.V}(hy:l[i]?=some y)(h1:1<=j){A B E:List Tree}(he:bH ρ y.2=A++E++B)(hA:A.length=j-1):
    (((uF (1+ρ.size) (iP mG l) ln).map NC.tell).drop (i*(1+ρ.size)+j)).take E.length=E.map .t:=by
 have hsz:(bH ρ y.2).length=ρ.size:=dR ρ y.2;have hl2:A.length+E.length+B.length=ρ.size:=by rw[he]at hsz;simp at hsz;omega
 apply List.ext_getElem?;intro p;rw[iO,dL];by_cases hp:p<E.length
 .rw[aN hp,yB,dL,B1,a1N hy (by omega) (by omega),he,iK,eP (by omega),gD (by omega),show j+p-1-A.length=p by omega,Option.map_map]
  rfl
 .rw[aF hp,List.getElem?_eq_none (by omega)]
  rfl
theorem a1G{t:TypeId}{a:X}{k:X->O}(h:Vy c σ t a k=some r):∃y,k y=some r/\(a.pl=true->y.pl=true\/∃q off,a = .ref q off)/\∀{x:Operand},o.op = .load t x->σ.den.ev x=some a.D->bI c.P o σ.den fr y.D []:=by
 unfold Vy at h;split at h
 case h_2=>cases h
 rename_i rw m hrw hm;split at h
 .rename_i q off
  split at h
  .rename_i e xs hq
   have hq':=fZ hq;split at h
   .split at h
    .rename_i hb
     have hb:=bY hb;refine⟨_,h,λ_=>.inr ⟨q,off,rfl⟩,λho hx=>?_⟩;unfold X.D;rw[fD];refine WJ hrw hm ho hx hq' ?_ (by rw[dI];exact hb);show(((xs.map X.D).drop off).take m)=_;rw[Uj,Wk,a48,a4a]
    .cases h
   .obtain⟨y,hy,h⟩:=bL h
    refine⟨y,h,λ_=>.inr ⟨q,off,rfl⟩,λho hx=>Hi hrw ho hx hq' ?_⟩;show(xs.map X.D)[off]?=_;rw[dL,hy];rfl
  .cases h
 .rename_i q i j s
  split at h
  .rename_i e τ l st hq
   have hq':=fZ hq;split at h
   .rename_i hb
    have hb:=bY hb;subst hb;obtain⟨y,hy,h⟩:=uH h;obtain⟨τ',y',A,B,h,h2,h3,h4⟩:=IC _ _ _ _ _ _ h;obtain⟨A',B',g1,g2⟩:=BM (f:=bH τ) (λx=>dR τ x) hy;have hcells:(XO.row e τ l st).A.cells=((A'++A)++bH τ' y'++(B++B')).map .t:=by
     show(l.flatMap (bH τ)).map D.t=_;rw[g1,h2];simp
    have hlen:(A'++A).length=i*τ.size+j:=by rw[dO,g2,h3]
    split at h
    .refine⟨_,h,λ_=>.inl rfl,λho hx=>?_⟩
     unfold X.D;rw[fD,EJ];refine WJ hrw hm ho hx hq' ?_ (by rw[dI,dR,h4]);rw[hcells,qM,qM,iK,aIx (by rw[dI];omega),sF (by rw[dI];omega),n6,aIq (by rw[dI,dR,h4];exact cE _),ES (by rw[dI,dR,h4];exact cE _)]
    .have h1:Ty.one τ'=true:=by assumption
     refine⟨_,h,λ_=>.inl rfl,λho hx=>Hi hrw ho hx hq' ?_⟩;rw[hcells,qM,qM,toT h1,iK,eP (by rw[dI];omega),dI,hlen,aIj];rfl
    .cases h
   .cases h
  .rename_i e e' τ l hq
   have hq':=fZ hq;split at h
   .rename_i hb
    rw[bM]at hb;have hb1:=bY hb.1;have hb2:=bY hb.2;subst hb1 hb2;obtain⟨y,hy,h⟩:=uH h;refine⟨_,h,λ_=>.inl rfl,λho hx=>?_⟩;have hx':σ.den.ev _=some (.ref q i):=hx.trans (by show some (D.ref q (i*1+0))=_;rw[IJ,n5]);exact a0O hrw ho hx' hq' (OJ hy)
   .cases h
  .rename_i e e' κ' ρ l ln hq
   have hq':=fZ hq;split at h
   .rename_i hb
    have hb:=bY hb;subst hb;split at h
    .rename_i hj
     have hj:=bY hj;subst hj;split at h
     .rename_i i' q'
      obtain⟨hi,h⟩:=jD h;have hi:=cR hi;subst hi;obtain⟨y,hy,h⟩:=uH h;refine⟨_,h,λ_=>.inl rfl,λho hx=>Hi hrw ho hx hq' ?_⟩;have hlt:=a3Z (ρ:=ρ) (l:=l) (j:=0) (cX.1 hy).1 (by omega);show((uF (1+ρ.size) (iP mG l) (some (i',q'))).map NC.tell)[i'.toNat*(1+ρ.size)+0]?=some (.own q');rw[n5]at hlt ⊢;unfold uF;rw[dL,List.getElem?_set_self hlt];rfl
     .cases h
    .rename_i hj
     have hj0:j≠0:=λe=>by subst e;cases hj
     obtain⟨y,hy,h⟩:=uH h;obtain⟨τ',y',A,B,h,h2,h3,h4⟩:=IC _ _ _ _ _ _ h;have hcut:=a1O (ln:=ln) hy (by omega) h2 h3;rw[dR,<-h4]at hcut;split at h
     .refine⟨_,h,λ_=>.inl rfl,λho hx=>?_⟩
      unfold X.D;rw[fD,EJ];exact WJ hrw hm ho hx hq' hcut (by rw[dI,dR,h4])
     .have h1:Ty.one τ'=true:=by assumption
      refine⟨_,h,λ_=>.inl rfl,λho hx=>Hi hrw ho hx hq' ?_⟩;have:=bG (λl=>l[0]?) hcut;simp only[iO,yB,n5]at this;rw[aN (by rw[h4];exact size_pos τ'),toT h1]at this;exact this
     .cases h
   .cases h
  .cases h
 .rename_i q i j
  split at h
  .rename_i e e' τ l hq
   have hq':=fZ hq;split at h
   .rename_i h1
    obtain⟨y,hy,h⟩:=uH h;obtain⟨z,hz,h⟩:=uH h;refine⟨_,h,λ_=>.inl rfl,λho hx=>?_⟩;rw[qA h1];exact a0N hrw ho hx hq' (OJ hy) (by show(iP (bH τ) y)[j]?=_;rw[a29 h1,dL,hz];rfl)
   .cases h
  .cases h
 .rename_i τ y j
  obtain⟨τ',y',A,B,h,h2,h3,h4⟩:=IC _ _ _ _ _ _ h;split at h
  .refine⟨_,h,λ_=>.inl rfl,λho hx=>?_⟩
   unfold X.D;rw[fD,EJ];refine lpn hrw hm ho hx ?_ (by rw[dR,h4]);rw[h2,iK,aIx (by omega),sF (by omega),n6,aIq (by rw[dR,h4];exact cE _),ES (by rw[dR,h4];exact cE _)]
  .have h1:Ty.one τ'=true:=by assumption
   refine⟨_,h,λ_=>.inl rfl,λho hx=>?_⟩;rw[qA h1];refine lp1 hrw ho hx ?_;rw[h2,Ht h1,iK,eP (by omega),h3,aIj];rfl
  .cases h
 .cases h
theorem Uy{α:Type}{A B new:List α}{j:Nat}(h:A.length<=j):c8 (A++B) j new=A++c8 B (j-A.length) new:=by
 simp only[c8];rw[a4W,a4g,ES h,sF (by omega),n6,show j+new.length-A.length=j-A.length+new.length by omega];simp
theorem Uz{α:Type}{A B new:List α}{j:Nat}(h:j+new.length<=A.length):c8 (A++B) j new=c8 A j new++B:=by
 simp only[c8];rw[aIq (by omega),aIx h];simp
theorem VI{H:Nat->Option aS}:∀(τ:Ty)(x:τ.V)(j m:Nat)(xs:List X)(k:τ.V->O),setAt τ x j m xs k=some r->∃(y:τ.V)(new:List Tree),k y=some r/\eD H (xs.map X.D) (new.map .t)/\j+new.length<=τ.size/\bH τ y=c8 (bH τ x) j new
 |.pr a b,x,j,m,xs,k,h=>by
   unfold setAt at h;split at h
   .rename_i hb
    rw[bM]at hb;have hj:=bY hb.1;subst hj;obtain⟨y,hy,h⟩:=bL h;refine⟨y,bH _ y,h,rR hy,by rw[dR];omega,?_⟩;simp[c8,dR,sF]
   .split at h
    .rename_i hlt
     have hlt:j<a.size:=fC hlt;obtain⟨y,new,h1,h2,h3,h4⟩:=VI (H:=H) a x.1 j m xs (λy=>k (y,x.2)) h;refine⟨(y,x.2),new,h1,h2,by simp only[Ty.size];omega,?_⟩;show bH a y++bH b x.2=c8 (bH a x.1++bH b x.2) j new;have hA:=dR a x.1;rw[h4,Uz (by omega)]
    .rename_i hlt
     have hge:a.size<=j:=Nat.le_of_not_lt λhj=>by
      have:Nat.blt j a.size=true:=X8 hj;rw[this]at hlt;cases hlt
     obtain⟨y,new,h1,h2,h3,h4⟩:=VI (H:=H) b x.2 (j-a.size) m xs (λy=>k (x.1,y)) h;refine⟨(x.1,y),new,h1,h2,by simp only[Ty.size];omega,?_⟩;show bH a x.1++bH b y=c8 (bH a x.1++bH b x.2) j new;have hA:=dR a x.1;rw[h4,Uy (by omega),hA]
 |.ex,x,j,m,xs,k,h=>by
   unfold setAt at h;split at h
   .obtain⟨y,hy,h⟩:=bL h
    refine⟨y,bH _ y,h,rR hy,by rw[dR];omega,?_⟩;have h1:=dR .ex x;have h2:=dR .ex y;simp only[c8,Xa,n6,e9];rw[sF (by omega),yE]
   .cases h
 |.i a,x,j,m,xs,k,h=>by
   unfold setAt at h;split at h
   .rename_i hb
    rw[bM]at hb;have hj:=bY hb.1;subst hj;obtain⟨y,hy,h⟩:=bL h;exact⟨y,bH _ y,h,rR hy,by rw[dR];omega,rfl⟩
   .cases h
 |.u8,x,j,m,xs,k,h=>by
   unfold setAt at h;split at h
   .rename_i hb
    rw[bM]at hb;have hj:=bY hb.1;subst hj;obtain⟨y,hy,h⟩:=bL h;exact⟨y,bH _ y,h,rR hy,by rw[dR];omega,rfl⟩
   .cases h
 |.bo,x,j,m,xs,k,h=>by
   unfold setAt at h;split at h
   .rename_i hb
    rw[bM]at hb;have hj:=bY hb.1;subst hj;obtain⟨y,hy,h⟩:=bL h;exact⟨y,bH _ y,h,rR hy,by rw[dR];omega,rfl⟩
   .cases h
 |.tx,x,j,m,xs,k,h=>by
   unfold setAt at h;split at h
   .rename_i hb
    rw[bM]at hb;have hj:=bY hb.1;subst hj;obtain⟨y,hy,h⟩:=bL h;exact⟨y,bH _ y,h,rR hy,by rw[dR];omega,rfl⟩
   .cases h
 |.sl a,x,j,m,xs,k,h=>by
   unfold setAt at h;split at h
   .rename_i hb
    rw[bM]at hb;have hj:=bY hb.1;subst hj;obtain⟨y,hy,h⟩:=bL h;exact⟨y,bH _ y,h,rR hy,by rw[dR];omega,rfl⟩
   .cases h
theorem aHc(σ:Vw)(q:Nat):σ.kU (.own q)=match σ.H q with|some (.row _ τ l true)=>.e (.sl τ) l|_=>.own q:=rfl
theorem a3X{x:X}{new:List Tree}(hv:x.val=true)(h:eD σ.den.H ((σ.p7 x).cells.map X.D) (new.map .t))(hl:x.cells.length=new.length):∃d,cC σ.den.H x.D d/\d.cells=new.map .t/\d.val=true:=by
 have one:x.cells=[x]->(σ.p7 x).cells=[σ.kU x]->∃d,cC σ.den.H x.D d/\d.cells=new.map .t/\d.val=true:=λe1 e2=>by
  rw[e1]at hl;rw[e2]at h
  match new,hl,h with
  |[t],_,h=>cases h with|cons h _=>exact⟨.t t,(EA σ x).trans h,rfl,rfl⟩
 cases x with
 |agg xs=>
   refine⟨.agg (new.map .t),?_,rfl,rfl⟩;have e:(σ.p7 (.agg xs)).cells.map X.D=(xs.map σ.kU).map X.D:=rfl;rw[e]at h;have hw:eD σ.den.H (xs.map X.D) ((xs.map σ.kU).map X.D):=by
    rw[List.map_map];exact eD.of_map (f:=X.D) (g:=X.D ∘ σ.kU) λx _=>EA σ x
   unfold X.D;rw[fD];exact cC.agg (hw.trans h)
 |bD xs=>cases hv
 |eO a b c=>cases hv
 |bit a b=>cases hv
 |own q=>
   refine one rfl ?_;show(σ.kU (.own q)).cells=_;rw[aHc];split <;> rfl
 |e τ y=>exact one rfl rfl
 |cH=>exact one rfl rfl
 |ref a b=>exact one rfl rfl
 |rr a b d e=>exact one rfl rfl
 |pt a b d=>exact one rfl rfl
 |fn a b=>exact one rfl rfl
 |v w=>exact one rfl rfl
 |sub a b=>exact one rfl rfl
 |iY a b d=>exact one rfl rfl
 |vw a b d e=>exact one rfl rfl
 |via a b=>exact one rfl rfl
 |dP v=>exact one rfl rfl
theorem aHk{α:Type}{f:α->List Tree}{s:Nat}(hf:∀x,(f x).length=s){l:List α}{i:Nat}{y z:α}{A B new:List Tree}{j:Nat}(hl:l.flatMap f=A++f y++B)(hA:A.length=i*s)(hi:i<l.length)(hz:f z=c8 (f y) j new)(hn:j+new.length<=s):
    (l.set i z).flatMap f=c8 (l.flatMap f) (i*s+j) new:=by
 have h1:=aHl hf (x:=z) (l:=l) (i:=i) hi;rw[<-h1,hl,hz];have hy:=hf y;have hs:(c8 (f y) j new).length=s:=by rw[Az (by omega),hy]
 rw[iK];have e1:c8 (A++(f y++B)) (i*s) (c8 (f y) j new)=A++(c8 (f y) 0 (c8 (f y) j new)++B):=by
  rw[Uy (by omega),hA,aIj,Uz (by omega)]
 have e2:c8 (A++(f y++B)) (i*s+j) new=A++(c8 (f y) j new++B):=by
  rw[Uy (by omega),hA,show i*s+j-i*s=j by omega,Uz (by omega)]
 rw[e1,e2]
 congr 2
 show(f y).take 0++c8 (f y) j new++(f y).drop (0+(c8 (f y) j new).length)=_;rw[Xa,n6,sF (by omega),yE]
theorem a4A(l:List Tree):uP (l.map .t)=some l:=by
 induction l with
 |nil=>rfl
 |cons x l ih=>simp[uP,ih]
theorem aY8{t:TypeId}{a y:X}{k:X->Wx->O}(h:Ul c σ t a y k=some r):∃W,k (.bD []) W=some r/\∀{x z:Operand},o.op = .store t x z->σ.den.ev x=some a.D->σ.den.ev z=some y.D->y.val=true->bI c.P o σ.den fr (.bD []) (WA W):=by
 unfold Ul at h;split at h
 case h_2=>cases h
 rename_i m hm;split at h
 case h_2=>cases h
 rename_i hb;rw[bM]at hb;have hb1:=bY hb.1;have hb2:0<m:=fC hb.2;split at h
 .rename_i q off
  split at h
  .rename_i e xs hq
   have hq':=fZ hq;split at h
   .rename_i hle
    have hle:=fC hle;refine⟨_,h,λho hx hz hv=>?_⟩;have hc:=Og hv;have hp:kQ xs off y.cells=c8 xs off y.cells:=Nt _ _ _ (by omega);refine BF (d:=y.D) (ob':=(XO.box e (kQ xs off y.cells)).A) ho ?_ hx (.ev hz) (HB hv) hq' ?_ ?_
    .rw[hc,dI,hb1];exact hm
    .show(if off+y.D.cells.length<=(xs.map X.D).length then _ else none)=_
     rw[hc,dI,dI,aN (by omega),hp];simp only[XO.A,Ux]
    .rw[hc,dI];omega
   .cases h
  .cases h
 .rename_i q i j s
  split at h
  .rename_i e τ l hq
   have hq':=fZ hq;split at h
   .rename_i hs
    have hs:=bY hs;subst hs;obtain⟨z0,hz0,h⟩:=uH h;obtain⟨z1,new,h,h2,h3,h4⟩:=VI (H:=σ.den.H) τ z0 j m (σ.p7 y).cells _ h;refine⟨_,h,λho hx hz hv=>?_⟩;have hgl:(σ.p7 y).cells.length=y.cells.length:=by
     have e1:=(eD.len h2);cases y with
     |agg xs=>show(xs.map σ.kU).length=xs.length;simp
     |own q=>
       show(σ.kU (.own q)).cells.length=1;rw[aHc];split <;> rfl
     |_=>rfl
    have hnl:y.cells.length=new.length:=by
     have:=h2.len;simp only[dI]at this;omega
    obtain⟨d,hw,hdc,hdv⟩:=a3X hv h2 hnl;obtain⟨A,B,g1,g2⟩:=BM (f:=bH τ) (λx=>dR τ x) hz0;have hi:i<l.length:=(cX.1 hz0).1;have hset:=aHk (f:=bH τ) (λx=>dR τ x) (z:=z1) g1 g2 hi h4 h3;have hfl:=BQ l;have hbound:i*τ.size+j+new.length<=l.length*τ.size:=by
     have:(i+1)*τ.size<=l.length*τ.size:=mL _ hi;rw[jR,aIk]at this;omega
    refine BF (d:=d) (ob':=(XO.row e τ (l.set i z1) false).A) ho ?_ hx (.wk hz hw) hdv hq' ?_ ?_
    .rw[hdc,dI,<-hnl,hb1];exact hm
    .rw[hdc]
     show(if i*τ.size+j+(new.map D.t).length<=(l.flatMap (bH τ)).length/\false=false then(uP (new.map D.t)).map _ else none)=_;rw[dI,aN ⟨by omega,rfl⟩,a4A];simp only[kX,XO.A,hset,List.length_set]
    .rw[hdc,dI];omega
   .cases h
  .cases h
 .cases h
end
end Go.Ax
/- Operations: addresses, parts, rows that are made. -/
namespace Go.Ax
open aA
open Go.RowKit Go.Ab
theorem ID{x:X}{k:Int->O}{r:aC}(h:asInt x k=some r):∃ik n,x.D = .t (.v (.int ik n))/\k n=some r:=by
 unfold asInt at h;split at h
 .exact⟨_,_,rfl,h⟩
 .exact⟨_,_,rfl,h⟩
 .cases h
theorem aHW{τ:Ty}(h1:τ.one=true):∀{xs:List X}{l:List τ.V},OT τ xs=some l->xs.length=l.length/\∀(H:Nat->Option aS)(i:Nat)(y:τ.V),l[i]?=some y->∃x,xs[i]?=some x/\cC H x.D (X.e τ y).D
 |[],l,h=>by cases h;exact⟨rfl,λH i y h=>by simp at h⟩
 |x::r,l,h=>by
   unfold OT at h;split at h
   .rename_i y hy
    split at h
    .rename_i l' hl
     cases h;obtain⟨e1,e2⟩:=aHW h1 hl;refine⟨by simp[e1],λH i z hz=>?_⟩;cases i with
     |zero=>simp at hz;subst hz;exact⟨x,rfl,by rw[qA h1];exact pT h1 hy⟩
     |succ i=>exact e2 H i z (by simpa using hz)
    .cases h
   .cases h
section
variable{P:Program}{o:Oper}{s:St}{fr:Nat}
theorem a0P{t e:TypeId}{x y:Operand}{m:Nat}{ds:List D}{ik:IntKind}{n:Int}{d:D}(hu:P.underlying t=some (.array m e))(he:j9 P e=some false)(hs:iF P e=some 1)(ho:o.op = .index t x y)(hx:s.ev x=some (.agg ds))(hy:s.ev y=some (.t (.v (.int ik n))))(hl:ds.length=m)(h0:0<=n)(hd:ds[n.toNat]?=some d):bI P o s fr d []:=
 dN λ_ _ _ _ w a _ _ hev=>by
  have h1:=hev x _ hx;have h2:=cG (hev y _ hy);obtain⟨v,hv⟩:∃v,a.eval x=v:=⟨_,rfl⟩
  rw[hv]at h1;cases h1 with
  | @agg vs _ hsz hr h1c=>
    have hn:n.toNat<vs.size:=by rw[hsz];exact(cX.1 hd).1
    refine⟨vs[n.toNat],?_,hr _ _ d (pF hn) hd⟩;obtain⟨dsc,g1,g2⟩:=pS he;obtain⟨inf,hinf,hsz1⟩:=cN.1 hs;have hagg:(isAgg e).run P w = .ok false w:=by
     unfold isAgg;rw[Sem.run_bind,run_underlying g1 w];cases dsc <;> simp_all [TypeDesc.isRow]
    have hlt:n<(m:Int):=by omega
    unfold execOp;rw[ho];simp[hv,h2,Instr.index,asIntOf,run_underlying hu,h0,hlt,sizeOf,typeInfo,hinf,hsz1,part,hagg,hn]
theorem a0Y{t:TypeId}{x:Operand}{f:Nat}{fs:Array Field}{fl:Field}{ds:List D}{d:D}(hu:P.underlying t=some (.struct fs))(hf:fs[f]?=some fl)(he:j9 P fl.type=some false)(ho:o.op = .field t x f)(hx:s.ev x=some (.agg ds))(hd:ds[fl.offset]?=some d):bI P o s fr d []:=
 dN λ_ _ _ _ w a _ _ hev=>by
  have h1:=hev x _ hx;obtain⟨v,hv⟩:∃v,a.eval x=v:=⟨_,rfl⟩
  rw[hv]at h1;cases h1 with
  | @agg vs _ hsz hr h1c=>
    have hn:fl.offset<vs.size:=by rw[hsz];exact(cX.1 hd).1
    refine⟨vs[fl.offset],?_,hr _ _ d (pF hn) hd⟩;obtain⟨dsc,g1,g2⟩:=pS he;have hagg:(isAgg fl.type).run P w = .ok false w:=by
     unfold isAgg;rw[Sem.run_bind,run_underlying g1 w];cases dsc <;> simp_all [TypeDesc.isRow]
    unfold execOp;rw[ho];simp[hv,Instr.field,run_underlying hu,hf,part,asAgg,hagg,hn]
theorem a0X{t:TypeId}{x:Operand}{f m:Nat}{fs:Array Field}{fl:Field}{ds out:List D}(hu:P.underlying t=some (.struct fs))(hf:fs[f]?=some fl)(he:j9 P fl.type=some true)(hm:iF P fl.type=some m)(ho:o.op = .field t x f)(hx:s.ev x=some (.agg ds))(hd:(ds.drop fl.offset).take m=out)(hl:out.length=m):bI P o s fr (.agg out) []:=
 dN λ_ _ ν G w a _ _ hev=>by
  have h1:=hev x _ hx;obtain⟨v,hv⟩:∃v,a.eval x=v:=⟨_,rfl⟩
  rw[hv]at h1;cases h1 with
  | @agg vs _ hsz hr h1c=>
    have hlen:fl.offset+m<=vs.size\/m=0:=by
     rw[<-hd]at hl;simp at hl;omega
    refine⟨.agg (vs.extract fl.offset (fl.offset+m)),?_,.agg ?_ (λi u d hu' hd'=>?_) (λu hu'=>?_)⟩
    .obtain⟨dsc,g1,g2⟩:=pS he
     obtain⟨inf,hinf,hsz1⟩:=cN.1 hm;have hagg:(isAgg fl.type).run P w = .ok true w:=by
      unfold isAgg;rw[Sem.run_bind,run_underlying g1 w];cases dsc <;> simp_all [TypeDesc.isRow]
     unfold execOp;rw[ho];simp[hv,Instr.field,run_underlying hu,hf,part,asAgg,hagg,sizeOf,typeInfo,hinf,hsz1]
    .rw[hl];simp;omega
    .rw[<-hd,iO]at hd'
     split at hd'
     .rename_i hi
      rw[yB]at hd';rw[Array.getElem?_extract]at hu';split at hu'
      .exact hr _ u d hu' hd'
      .cases hu'
     .cases hd'
    .refine h1c u ?_
     rw[a4s]at hu';exact List.mem_of_mem_drop (List.mem_of_mem_take (by simpa[List.extract]using hu'))
end
theorem Uw{τ:Ty}:∀(n:Nat)(σ:Ty)(y:σ.V)(l:List τ.V),nK τ n σ y=some l->bH σ y=l.flatMap (bH τ)
 |0,σ,y,l,h=>by unfold nK at h;cases h
 |1,σ,y,l,h=>by
   unfold nK at h;split at h
   .rename_i he _
    cases h;rw[jS,aIX,List.flatMap_nil,yE]
   .cases h
 |n+2,.pr a b,y,l,h=>by
   unfold nK at h;split at h
   .rename_i he _
    split at h
    .rename_i l' hl
     cases h;rw[jS,aIX,<-Uw (n+1) b y.2 l' hl];rfl
    .cases h
   .cases h
 |n+2,.i _,y,l,h=>by unfold nK at h;cases h
 |n+2,.u8,y,l,h=>by unfold nK at h;cases h
 |n+2,.bo,y,l,h=>by unfold nK at h;cases h
 |n+2,.tx,y,l,h=>by unfold nK at h;cases h
 |n+2,.ex,y,l,h=>by unfold nK at h;cases h
 |n+2,.sl _,y,l,h=>by unfold nK at h;cases h
section
variable{c:Cx}{σ:Vw}{κ:Nat->Bool}{fr:Nat}{o:Oper}{r:aC}
theorem a1m{t:TypeId}{a x:X}{k:X->O}(h:WQ c σ t a x k=some r):∃y,k y=some r/\y.pl=true/\(σ.On->∀{xa xn:Operand},o.op = .indexAddr t xa xn->σ.den.ev xa=some a.D->σ.den.ev xn=some x.D->bI c.P o σ.den fr y.D []):=by
 unfold WQ at h;replace h:=ID h;obtain⟨ik,n,hx,h⟩:=h;split at h
 .rename_i τ l
  split at h
  .rename_i s hs
   split at h
   .rename_i hb
    have hb:=bY hb;subst hb;obtain⟨y,h1,h2⟩:=Dy h;refine⟨_,h1,rfl,λhon xa xn ho ha hn=>?_⟩;obtain⟨g1,g2⟩:=h2 hon.g;rw[hx]at hn;have hlt:n<(gK l:Nat):=by have:=(cX.1 g2).1;omega
    have:=a0S (P:=c.P) (fr:=fr) ho hs ha hn g1 hlt;obtain⟨A,B,e1,e2⟩:=BM (f:=bH τ) (λx=>dR τ x) g2;have e1':iP (bH τ) l=A++bH τ y++B:=e1;rw[e1']at this;exact PC this (cC.ptr e2)
   .cases h
  .cases h
 .rename_i q
  split at h
  .rename_i e τ l st s hq hs
   split at h
   .rename_i hb
    have hb:=bY hb;subst hb;split at h
    .obtain⟨y,h1,h2⟩:=Dy h
     refine⟨_,h1,rfl,λhon xa xn ho ha hn=>?_⟩;obtain⟨g1,g2⟩:=h2 hon.g;rw[hx]at hn;have hlt:n<(l.length:Nat):=by have:=(cX.1 g2).1;omega
     have hq':σ.den.H q=some (.row e τ.size l.length (l.flatMap (bH τ)) true):=fZ hq;have:=aGs (P:=c.P) (fr:=fr) ho hs ha hq' hn g1 hlt;obtain⟨A,B,e1,e2⟩:=BM (f:=bH τ) (λx=>dR τ x) g2;rw[e1]at hq';exact PC this (cC.aZK hq' e2)
    .obtain⟨h1,h2⟩:=nT h
     refine⟨_,h1,rfl,λhon xa xn ho ha hn=>?_⟩;obtain⟨g1,g2⟩:=cR (h2 hon.g);rw[hx]at hn;have hq':σ.den.H q=some (.row e τ.size l.length (l.flatMap (bH τ)) false):=fZ hq;have:=aGs (P:=c.P) (fr:=fr) ho hs ha hq' hn g1 g2;exact this
   .cases h
  .rename_i e e' τ l s hq hs
   split at h
   .rename_i hb
    have hb:=bY hb;subst hb;obtain⟨hd,h⟩:=jD h;refine⟨_,h,rfl,λhon xa xn ho ha hn=>?_⟩;obtain⟨g1,g2⟩:=cR hd;rw[hx]at hn;have:=a0V (P:=c.P) (fr:=fr) hs ho ha (fZ hq) hn g1 (by rw[dI];exact g2);have e:(X.rr q n.toNat 0 1).D = .ref q n.toNat:=by show D.ref q (n.toNat*1+0)=_;rw[IJ,n5]
    rw[e];exact this
   .cases h
  .rename_i e e' κ' ρ l ln s hq hs
   split at h
   .rename_i hb
    have hb:=bY hb;subst hb;obtain⟨h1,h2⟩:=nT h;refine⟨_,h1,rfl,λhon xa xn ho ha hn=>?_⟩;obtain⟨g1,g2⟩:=cR (h2 hon.g);rw[hx]at hn;exact a0T (P:=c.P) (fr:=fr) hs ho ha (fZ hq) hn g1 g2
   .cases h
  .cases h
 .rename_i q i
  split at h
  .rename_i e e' τ l s hq hs
   split at h
   .rename_i hb
    have hb:=bY hb;subst hb;obtain⟨y,hy,h⟩:=uH h;obtain⟨hd,h⟩:=jD h;refine⟨_,h,rfl,λhon xa xn ho ha hn=>?_⟩;obtain⟨g1,g2⟩:=cR hd;rw[hx]at hn;exact a0U (P:=c.P) (fr:=fr) hs ho ha (fZ hq) (OJ hy) hn g1 g2
   .cases h
  .cases h
 .rename_i q off
  split at h
  .rename_i m s hs
   split at h
   .rename_i hb
    obtain⟨g1,g2⟩:=cR hb;refine⟨_,h,rfl,λhon xa xn ho ha hn=>?_⟩;rw[hx]at hn;exact aGt ho hs ha hn g1 g2
   .cases h
  .cases h
 .rename_i ρ y0
  split at h
  .rename_i m0 e m s hu hs
   split at h
   .rename_i τ _
    split at h
    .rename_i l hl
     split at h
     .rename_i hb
      rw[bM]at hb;have hb1:=bY hb.1;have hb2:=bY hb.2;subst hb1;obtain⟨y,h1,h2⟩:=Dy h;refine⟨_,h1,rfl,λhon xa xn ho ha hn=>?_⟩;obtain⟨g1,g2⟩:=h2 hon.g;rw[hx]at hn;have hlt:n<(m:Nat):=by rw[<-hb2];have:=(cX.1 g2).1;omega
      have:=a0R (P:=c.P) (fr:=fr) ho hs ha hn g1 hlt;obtain⟨A,B,e1,e2⟩:=BM (f:=bH τ) (λx=>dR τ x) g2;rw[e9,Uw _ _ _ _ hl,e1]at this;exact PC this (cC.ptr e2)
     .cases h
    .cases h
   .cases h
  .cases h
 .cases h
theorem a1k{t:TypeId}{a x:X}{k:X->O}(h:WN c t (σ.g.map (·.2)) a x k=some r):∃y,k y=some r/\y.pl=true/\(σ.On->∀{xa xn:Operand},o.op = .index t xa xn->σ.den.ev xa=some a.D->σ.den.ev xn=some x.D->bI c.P o σ.den fr y.D []):=by
 unfold WN at h;replace h:=ID h;obtain⟨ik,n,hx,h⟩:=h;split at h
 .rename_i l hu
  obtain⟨y,h1,h2⟩:=Dy h;refine⟨_,h1,rfl,λhon xa xn ho ha hn=>?_⟩;obtain⟨g1,g2⟩:=h2 hon.g;rw[hx]at hn;exact a0Q hu ho ha hn g1 g2
 .rename_i m e τ y0 rs hu
  split at h
  .rename_i hb he hs
   rw[bM]at hb;obtain⟨hb1,hb2⟩:=hb;have hb2:=bY hb2;obtain⟨l,hl,h⟩:=bL h;obtain⟨y,h1,h2⟩:=Dy h;refine⟨_,h1,rfl,λhon xa xn ho ha hn=>?_⟩;obtain⟨g1,g2⟩:=h2 hon.g;rw[hx]at hn;obtain⟨e1,e2⟩:=aHW hb1 hl;obtain⟨x',hx',hw⟩:=e2 σ.den.H _ _ g2;have ha':σ.den.ev xa=some (.agg ((X.e τ y0::rs).map X.D)):=by rw[ha,X.D,fD]
   refine PC (a0P hu he hs ho ha' hn (by simp[hb2]) g1 (d:=x'.D) (by rw[dL,hx'];rfl)) hw
  .cases h
 .cases h
theorem a2e{t:TypeId}{f:Nat}{a:X}{k:X->O}(h:Wa c t f a k=some r):∃y,k y=some r/\y.pl=true/\(∀{xa:Operand},o.op = .fieldAddr t xa f->σ.den.ev xa=some a.D->bI c.P o σ.den fr y.D []):=by
 unfold Wa at h;obtain⟨q,hq,h⟩:=bL h;split at h
 .exact⟨_,h,rfl,λho ha=>aGw ho hq ha⟩
 .refine⟨_,h,rfl,λho ha=>?_⟩
  have:=aGw (P:=c.P) (fr:=fr) ho hq ha
  rwa [B1]at this
 .exact⟨_,h,rfl,λho ha=>a0W ho hq ha⟩
 .cases h
theorem a2d{t:TypeId}{f:Nat}{a:X}{k:X->O}(h:W9 c t f a k=some r):∃y,k y=some r/\(∀{xa:Operand},o.op = .field t xa f->σ.den.ev xa=some a.D->bI c.P o σ.den fr y.D []):=by
 unfold W9 at h;split at h
 .rename_i fs xs hu
  split at h
  .rename_i fl hf
   split at h
   .rename_i rw m hr hm
    split at h
    .split at h
     .rename_i hb
      have hb:=bY hb;refine⟨_,h,λ{xa} ho ha=>?_⟩;have ha':σ.den.ev xa=some (.agg (xs.map X.D)):=by rw[ha,X.D,fD]
      rw[X.D,fD];refine a0X hu hf hr hm ho ha' ?_ (by rw[dI];exact hb);rw[Uj,Wk,a48,a4a]
     .cases h
    .obtain⟨y,hy,h⟩:=bL h
     refine⟨y,h,λ{xa} ho ha=>?_⟩;have ha':σ.den.ev xa=some (.agg (xs.map X.D)):=by rw[ha,X.D,fD]
     exact a0Y hu hf hr ho ha' (by rw[dL,hy];rfl)
   .cases h
  .cases h
 .cases h
end
end Go.Ax
/- Operations: variables, literals, rows, slices, conversions. -/
namespace Go.Ax
open aA
open Go.RowKit Go.Ab
theorem aHC(v:Value)(h1:∀vs,v≠.tuple vs)(h2:∀cs,v≠.agg cs):(nN v).D = .t (.v v):=by
 unfold nN;split
 .split
  .exact aFv _ (cR ‹_›)
  .rfl
 all_goals rfl
theorem Va{z:Value}{x:X}(h:rN z=some x):EH z=true/\x.D=iZ z/\x.cells.map X.D=z.cells.toList.map (λu=>D.t (.v u))/\(∀u∈z.cells.toList,u.oneCell'=true)/\(iZ z).cells=x.cells.map X.D/\x.val=true:=by
 have hev:=V9 (σ:=⟨[],[],0⟩) h;unfold St.ev at hev;unfold rN at h;split at h
 .rename_i cs
  split at h
  .rename_i ha
   cases h;have hmem:∀u∈cs.toList,u.oneCell'=true:=List.all_eq_true.1 ha
   have hc:(cs.toList.map nN).map X.D=cs.toList.map (λu=>D.t (.v u)):=by
    rw[List.map_map];refine List.map_congr_left λv hv=>aHC v (λvs e=>?_) (λcs' e=>?_)
    .have:=hmem v hv;rw[e]at this;cases this
    .have:=hmem v hv;rw[e]at this;cases this
   refine⟨ha,?_,hc,hmem,hc.symm,rfl⟩;unfold X.D;rw[fD,hc];rfl
  .cases h
 .cases h
 .rename_i h2 h3
  cases h;have hD:=aHC z (λvs e=>h3 vs e) (λcs e=>h2 cs e);have hone:z.oneCell'=true:=by
   cases z with
   |agg cs=>exact absurd rfl (h2 cs)
   |tuple vs=>exact absurd rfl (h3 vs)
   |_=>rfl
  have hcz:z.cells.toList=[z]:=by rw[aIV hone]
  have hov:iZ z = .t (.v z):=by
   cases z with
   |agg cs=>exact absurd rfl (h2 cs)
   |_=>rfl
  have hxc:(nN z).cells=[nN z]:=by
   unfold nN;split
   .split <;> rfl
   all_goals rfl
  refine⟨?_,by rw[hD,hov],by rw[hxc,hcz];simp[hD],λu hu=>?_,by rw[hov,hxc];simp[hD,D.cells],?_⟩
  .cases z with
   |agg cs=>exact absurd rfl (h2 cs)
   |tuple vs=>exact absurd rfl (h3 vs)
   |_=>rfl
  .rw[hcz]at hu;rw[List.mem_singleton.1 hu];exact hone
  .unfold nN
   split
   .split <;> rfl
   all_goals rfl
theorem Xq{P:Program}{t:TypeId}{x:X}(h:u9 P t=some x):∃z,(P.info? t).bind (·.zero)=some z/\rN z=some x:=by
 unfold u9 at h;split at h
 .exact⟨_,‹_›,h⟩
 .cases h
theorem aHP{α β:Type}{f:α->Option β}:∀{l:List α}{r:List β},xG f l=some r->l.mapM f=some r
 |[],r,h=>by cases h;rfl
 |x::l,r,h=>by
   unfold xG at h;split at h
   .rename_i y hy
    split at h
    .rename_i r' hr
     cases h;simp[List.mapM_cons,hy,aHP hr]
    .cases h
   .cases h
theorem a3c{P:Program}{t:TypeId}{z:Value}{x:X}{pl:List (Nat×Nat)}(hz:(P.info? t).bind (·.zero)=some z)(hx:rN z=some x)(hp:places P t=some pl):aJG P t z.cells.toList pl:=by
 obtain⟨_,_,_,h1,_⟩:=Va hx;refine⟨h1,?_⟩;obtain⟨i,hi,hz'⟩:=kY.1 hz;unfold places at hp;split at hp
 .rename_i fs hu
  have hm:=aHP hp;have hm':fs.toList.mapM (λf=>(P.info? f.type).map λi=>(f.offset,i.size))=some pl:=by
   rw[<-hm]
   congr 1
   funext f
   unfold iF;cases P.info? f.type <;> rfl
  refine⟨λi=>pl.toArray[i]?,λi p h=>by simpa using h,λparts=>?_⟩;unfold Program.built;simp only[hi,hu,hz',hm']
 .rename_i n e hu
  split at hp
  .rename_i m hm
   cases hp;unfold iF at hm;obtain⟨ie,hie,rfl⟩:=cN.1 hm;refine⟨λi=>some (i*ie.size,ie.size),λi p h=>?_,λparts=>?_⟩
   .rw[dL]at h
    obtain⟨j,hj,rfl⟩:=cN.1 h;have:=(cX.1 hj).2;simp at this;simp[this]
   .unfold Program.built
    simp only[hi,hu,hz',hie]
  .cases hp
 .cases hp
theorem Wc{σ:Vw}:∀{l:List (Nat×Operand)}{k:List (Nat×X)->O}{r:aC},σ.BP l k=some r->∃xs,k xs=some r/\xs.length=l.length/\∀(i:Nat)(p:Nat×X),xs[i]?=some p->∃x,l[i]?=some (p.1,x)/\σ.ev x=some p.2
 |[],k,r,h=>⟨[],h,rfl,λi p h=>by simp at h⟩
 |(i0,x)::l,k,r,h=>by
   unfold Vw.BP at h;obtain⟨y,hy,h⟩:=bL h;obtain⟨xs,h1,h2,h3⟩:=Wc h;refine⟨(i0,y)::xs,h1,by simp[h2],λi p hp=>?_⟩;cases i with
   |zero=>simp at hp;subst hp;exact⟨x,rfl,hy⟩
   |succ i=>exact h3 i p (by simpa using hp)
theorem V0{σ:Vw}{κ:Nat->Bool}(hσ:σ.Ok κ)(hon:σ.On):∀(l:List (Nat×Operand))(xs:List (Nat×X))(ds:List (Nat×D)),xs.length=l.length->(∀(i:Nat)(p:Nat×X),xs[i]?=some p->∃x,l[i]?=some (p.1,x)/\σ.ev x=some p.2)->
    xs.length=ds.length->(∀(i:Nat)(p:Nat×X)(q:Nat×D),xs[i]?=some p->ds[i]?=some q->p.1=q.1/\cC σ.den.H p.2.D q.2)->x8 σ.den l ds
 |[],[],[],_,_,_,_=>.nil
 |[],[],_::_,_,_,h,_=>by cases h
 |[],_::_,_,h,_,_,_=>by cases h
 |_::_,[],_,h,_,_,_=>by cases h
 |_::_,_::_,[],_,_,h,_=>by cases h
 |(i0,x0)::l,(i1,y)::xs,(i2,d)::ds,h1,h2,h3,h4=>by
   obtain⟨x,e1,e2⟩:=h2 0 _ rfl;simp at e1;obtain⟨rfl,rfl⟩:=e1;obtain⟨e3,e4⟩:=h4 0 _ _ rfl rfl;simp only at e3 e4;subst e3;exact .cons (bU hσ hon e2) e4 (V0 hσ hon l xs ds (by simpa using h1) (λi p hp=>by simpa using h2 (i+1) p (by simpa using hp)) (by simpa using h3) (λi p q hp hq=>h4 (i+1) p q (by simpa using hp) (by simpa using hq)))
theorem aHs{pl:List (Nat×Nat)}:∀(xs:List (Nat×X))(cells:List X)(k:List X->O)(r:aC),Hp pl cells xs k=some r->∃out,k out=some r/\nR pl (cells.map X.D) (xs.map λp=>(p.1,p.2.D))=some (out.map X.D)
 |[],cells,k,r,h=>⟨cells,h,rfl⟩
 |(i,x)::rest,cells,k,r,h=>by
   unfold Hp at h;split at h
   .rename_i off m hp
    split at h
    .rename_i hb
     simp only[bM]at hb;obtain⟨⟨b1,b2⟩,b3⟩:=hb;have b2:=bY b2;have b3:=fC b3;obtain⟨out,h1,h2⟩:=aHs rest _ k r h;refine⟨out,h1,?_⟩;have hc:=Og b1;have hv:=HB b1;simp only[iN,nR,hp];rw[aN (by simp[hv,hc,b2];omega),hc,<-Ux,<-Nt _ _ _ (by omega)];exact h2
    .cases h
   .cases h
theorem u7{τ:Ty}(h1:τ.one=true){l l':List Value}(h:qR τ l=some l'):∃pre,l=pre++l'/\jE pre (bH τ τ.zero):=by
 cases l with
 |nil=>cases h
 |cons x r=>
   simp only[qR]at h;split at h
   .rename_i hx
    cases h;refine⟨[x],rfl,?_⟩;cases τ with
    |pr a b=>cases h1
    |ex=>cases h1
    |i k=>
      simp only[B6]at hx;split at hx
      .rw[bM]at hx
       have e1:=cR hx.1;have e2:=cR hx.2;subst e1 e2;exact .v rfl .nil
      .cases hx
    |u8=>
      simp only[B6]at hx;split at hx
      .have e2:=cR hx
       subst e2;exact .v rfl .nil
      .cases hx
    |bo=>
      simp only[B6]at hx;split at hx
      .exact .v rfl .nil
      .cases hx
    |tx=>
      simp only[B6]at hx;split at hx
      .rename_i s
       split at hx
       .rename_i hs
        have:s=⟨⟨[]⟩⟩:=by
         apply a4m;apply u0;exact hs
        subst this;exact .v rfl .nil
       .cases hx
      .cases hx
    |sl e=>
      simp only[B6]at hx;split at hx
      .exact .sl .nil
      .cases hx
   .cases h
theorem PQ:∀(τ:Ty)(l l':List Value),B7 τ l=some l'->∃pre,l=pre++l'/\jE pre (bH τ τ.zero)
 |.pr a b,l,l',h=>by
   simp only[B7]at h;split at h
   .rename_i l1 h1
    obtain⟨p1,e1,z1⟩:=PQ a l l1 h1;obtain⟨p2,e2,z2⟩:=PQ b l1 l' h;refine⟨p1++p2,by rw[e1,e2,iK],?_⟩;have:bH (.pr a b) (Ty.zero (.pr a b))=bH a a.zero++bH b b.zero:=rfl;rw[this];exact z1.append z2
   .cases h
 |.ex,l,l',h=>by
   simp only[B7]at h;split at h
   .rename_i l1 h1
    split at h
    .rename_i l2 h2
     obtain⟨p1,e1,z1⟩:=u7 rfl h1;obtain⟨p2,e2,z2⟩:=u7 rfl h2;obtain⟨p3,e3,z3⟩:=u7 rfl h;exact⟨p1++(p2++p3),by rw[e1,e2,e3];simp,z1.append (z2.append z3)⟩
    .cases h
   .cases h
 |.i k,l,l',h=>u7 rfl h
 |.u8,l,l',h=>u7 rfl h
 |.bo,l,l',h=>u7 rfl h
 |.tx,l,l',h=>u7 rfl h
 |.sl e,l,l',h=>u7 rfl h
theorem IF{c:Cx}{t e:TypeId}{τ:Ty}{b:Nat}(h:nX c t=some (e,τ,b)):∃z,pG c.P t e z τ.size b/\jE z.cells.toList (bH τ τ.zero):=by
 unfold nX at h;split at h
 .rename_i e' he
  split at h
  .rename_i τ' i hτ hi
   split at h
   .rename_i z hz
    split at h
    .rename_i hc
     split at h
     .rename_i hb
      cases h;rw[bM]at hb;have h1:=bY hb.1;have h2:=bY hb.2;obtain⟨pre,hp,hz'⟩:=PQ _ _ _ hc;rw[yE]at hp;refine⟨z,⟨?_,by rw[hi];simp[hz,h1],h2,size_pos _⟩,by rw[hp];exact hz'⟩;unfold aIH at he;split at he
      .rename_i hu;cases he;exact hu
      .cases he
     .cases h
    .cases h
   .cases h
  .cases h
 .cases h
end Go.Ax
/- Operations: rows that are made, slices, conversions, calls. -/
namespace Go.Ax
open aA
open Go.RowKit Go.Ab
section
variable{P:Program}{o:Oper}{s:St}{fr:Nat}
theorem a0I{t e:TypeId}{z:Value}{sz bytes len:Nat}(st:Bool){parts:Array (Nat×Operand)}{ds:List (Nat×D)}{zt ts:List Tree}(hA:pG P t e z sz bytes)(hz:jE z.cells.toList zt)(hl:len*sz<=2^24)(ho:o.op = .buildSlice t len parts)(hp:x8 s parts.toList ds)
    (hf:nR ((pA len).map λi=>(i*sz,sz)) ((eR len zt).flatten.map .t) ds=some (ts.map .t)):bI P o s fr (.own fr) [(fr,some (.row e sz len ts st))]:=by
 have h1:∀u∈z.cells.toList,u.oneCell'=true:=by
  clear hf hp ho hl hA;generalize z.cells.toList=l at hz
  induction hz with
  |nil=>intro u hu;cases hu
  |v h r ih=>
    intro u hu;rcases fA.1 hu with rfl|hu
    .exact h
    .exact ih u hu
  |sl r ih=>
    intro u hu;rcases fA.1 hu with rfl|hu
    .rfl
    .exact ih u hu
 have hB:=X9.of hA h1 len hl;intro E σ₁ a w hT hHH h100 hf' hd ⟨ν,G,I⟩ Q;have hpl:∀(i:Nat)(p:Nat×Nat),((pA len).map λi=>(i*sz,sz))[i]?=some p->(λi=>some (i*sz,sz)) i=some p:=λi p h=>by
  rw[dL]at h;obtain⟨j,hj,rfl⟩:=cN.1 h;have:=(cX.1 hj).2;simp at this;simp[this]
 obtain⟨g1,g2⟩:=hp.rel (λx d d' hx hw=>hw _ _ _ _ _ _ hHH I _ (I.ev (St.eY hT hx)));have hzr:=(hz.H0 len).rel w G;obtain⟨cells,hres,hsz,hrel⟩:=W8 hpl _ ds (eR len z.cells.toList).flatten.toArray ((eR len zt).flatten.map .t) (ts.map .t) g1 g2 (by simpa using hzr.1) (λi u d hu hdd=>by
     rw[dL]at hdd;obtain⟨t',ht',rfl⟩:=cN.1 hdd;have hu':(eR len z.cells.toList).flatten[i]?=some u:=by simpa using hu
     have htr:=hzr.2 i u t' hu' ht';exact⟨.t htr,htr.one⟩) hf
 have hlen:ts.length=len*sz:=by
  have hfl:∀(pl:List (Nat×Nat))(ds:List (Nat×D))(cs out:List D),nR pl cs ds=some out->out.length=cs.length:=by
   intro pl ds
   induction ds with
   |nil=>intro cs out h;cases h;rfl
   |cons p r ih=>
     intro cs out h;obtain⟨i,d⟩:=p;simp only[nR]at h;split at h
     .cases h
     .split at h
      .rename_i hc
       simp only[bM,qG,fU]at hc;rw[ih _ _ h,Az hc.2]
      .cases h
  have:=hfl _ _ _ _ hf;simp only[dI]at this;rw[this,<-hzr.1];exact hB.zl
 have hr:=hB.run w (parts.map λ(i,x)=>(i,a.eval x)) cells (by rw[Array.toList_map];exact hres);unfold Oper.wp;have he:(execOp a.eval o).run P w = .ok (.value (.slice (some ⟨w.heap.size,0,none⟩) len len)) (w.alloc (.cells cells e)):=by
  unfold execOp;rw[ho];simp[hr]
 rw[he,Oper.upon_value];have hA':cL w (w.alloc (.cells cells e)):=(cL.refl w).alloc _;have hG:∀b,b<w.heap.size->(λb=>if b=w.heap.size then(if st then len*sz else 0)else G b) b=G b:=λb hb=>aF (by omega)
 have hsz':cells.size=ts.length:=by rw[hsz];simp
 refine⟨put_defers ..,_,_,I.fresh (G':=λb=>if b=w.heap.size then(if st then len*sz else 0)else G b) h100 hf' hd hA' hG (x:=.slice (some ⟨w.heap.size,0,none⟩) len len) (λg hg=>by cases hg;exact cE _) ?_ ?_⟩
 .refine⟨cells.toList,?_,?_,λi u t hu ht=>?_,λg hg=>?_⟩
  .rw[dG]
   exact⟨by simp[hsz',hlen],.inr ⟨w.heap.size,len,cells,rfl,Nat.zero_le _,heap_alloc_new w _,cE _,hB.ml,by rw[hsz',hlen],by rw[ES (by simp[hsz',hlen])]⟩⟩
  .simpa using hsz'
  .have:=(hrel i u (.t t) (by simpa using hu) (by rw[dL,ht];rfl)).1
   cases this with|t h=>exact h.mono (λ_ _ _ h=>h.hZ hA' hG)
  .rw[dG]at hg
   cases hg;exact⟨.inl I.kept.size,aN rfl⟩
 .have:DR (dA ν fr (.slice (some ⟨w.heap.size,0,none⟩) len len)) (σ₁.aZ o.dst .any [(fr,some (.row e sz len ts st))] fr).nm (w.alloc (.cells cells e)) (λb=>if b=w.heap.size then(if st then len*sz else 0)else G b) (dA ν fr (.slice (some ⟨w.heap.size,0,none⟩) len len) fr) (.own fr):=.own (oN ..) (by rw[dG];rfl)
  rw[dG]at this;exact this
def dZ(lo:Option Int):Nat:=match lo with|some a=>a.toNat|none=>0
def eL(n:Nat)(hi:Option Int):Nat:=match hi with|some b=>b.toNat|none=>n
theorem VB{α:Type}(l:List α)(lo hi:Option Int):dY l lo hi=(l.take (eL l.length hi)).drop (dZ lo):=by
 cases lo <;> cases hi <;> simp[dY,dZ,eL]
theorem Nd{n:Nat}{lo hi:Option Int}(h:eQ n lo hi=true):dZ lo<=eL n hi/\eL n hi<=n/\(∀a,lo=some a->0<=a)/\∀b,hi=some b->0<=b:=by
 cases lo <;> cases hi <;> simp[eQ,dZ,eL]at h ⊢ <;> omega
theorem xW{P:Program}{w:World}{isS:Bool}{n cap:Nat}{lo hi:Option Int}{kl kh:IntKind}(h1:dZ lo<=eL n hi)(h2:eL n hi<=cap)(h3:∀a,lo=some a->0<=a)(h4:∀b,hi=some b->0<=b):
    (Instr.sliceBounds isS n cap (lo.map (.int kl)) (hi.map (.int kh)) none).run P w = .ok (dZ lo,eL n hi,cap) w:=by
 have hb:∀(k:IntKind)(i:Int)(y:Nat)(code:BoundsCode),0<=i->i.toNat<=y->(Instr.sliceBound (.int k i) y code).run P w = .ok i.toNat w:=λk i y code a b=>by
  have:i<=(y:Int):=by omega
  simp[Instr.sliceBound,asIntOf,a,this]
 cases lo with
 |none=>
   cases hi with
   |none=>simp[Instr.sliceBounds,dZ,eL]
   |some b=>simp only[eL]at h2;simp[Instr.sliceBounds,dZ,eL,hb _ _ _ _ (h4 b rfl) h2]
 |some a=>
   cases hi with
   |none=>simp only[dZ,eL]at h1;simp[Instr.sliceBounds,dZ,eL,hb _ _ _ _ (h3 a rfl) h1]
   |some b=>
     simp only[dZ,eL]at h1 h2;simp[Instr.sliceBounds,dZ,eL,hb _ _ _ _ (h4 b rfl) h2,hb _ _ _ _ (h3 a rfl) h1]
def mO(s:St)(x:Option Operand)(v:Option Int):Prop:=match x,v with
 |none,none=>True
 |some x,some n=>∃ik,s.ev x=some (.t (.v (.int ik n)))
 |_,_=>False
theorem mO.run{s:St}{x:Option Operand}{v:Option Int}(h:mO s x v){ρ:Operand->Value}(hev:∀x d,s.ev x=some (.t (.v d))->ρ x=d):∃ik,x.map ρ=v.map (.int ik):=by
 cases x with
 |none=>cases v with
   |none=>exact⟨.i64,rfl⟩
   |some n=>exact h.elim
 |some x=>cases v with
   |none=>exact h.elim
   |some n=>obtain⟨ik,hk⟩:=h;exact⟨ik,bG some (hev x _ hk)⟩
theorem aZh{t:TypeId}{x:Operand}{lo hi:Option Operand}{l:List UInt8}{a b:Option Int}(hu:P.underlying t=some .string)(ho:o.op = .slice t x lo hi none)(hx:s.ev x=some (TS l))(hlo:mO s lo a)(hhi:mO s hi b)(hok:eQ l.length a b=true):bI P o s fr (TS (dY l a b)) []:=
 dN λ_ _ _ _ w ac _ _ hev=>by
  have h1:=cG (hev x _ hx);obtain⟨kl,e1⟩:=hlo.run (ρ:=ac.eval) (λx d h=>cG (hev x _ h));obtain⟨kh,e2⟩:=hhi.run (ρ:=ac.eval) (λx d h=>cG (hev x _ h));obtain⟨g1,g2,g3,g4⟩:=Nd hok;refine⟨.string ⟨⟨dY l a b⟩⟩,?_,.t (.v _ rfl)⟩;have hsz:(ByteArray.mk ⟨l⟩).size=l.length:=rfl;have hb:=xW (P:=P) (w:=w) (isS:=false) (n:=l.length) (cap:=l.length) (lo:=a) (hi:=b) (kl:=kl) (kh:=kh) g1 g2 g3 g4;have hex:(ByteArray.mk ⟨l⟩).extract (dZ a) (eL l.length b)=⟨⟨dY l a b⟩⟩:=by
   apply a4m;rw[ByteArray.data_extract];apply u0;rw[VB,a4s];simp only[List.extract];rw[List.drop_take]
   try trace_state
  unfold execOp;rw[ho];simp only[h1,e1,e2,nZ];simp[Instr.sliceAt,Instr.slice,run_underlying hu,hsz,hb,hex]
theorem ok_slice{t e:TypeId}{x:Operand}{lo hi:Option Operand}{sz n:Nat}{ts:List Tree}{d0:D}{a b:Option Int}(hu:P.underlying t=some (.slice e))(hs:iF P e=some sz)(ho:o.op = .slice t x lo hi none)(hx:s.ev x=some d0)(hw:cC s.H d0 (.t (.sl n ts)))(hts:ts.length=n*sz)(hlo:mO s lo a)(hhi:mO s hi b)(hok:eQ n a b=true):
    bI P o s fr (.t (.sl (eL n b-dZ a) ((ts.take (eL n b*sz)).drop (dZ a*sz)))) []:=
 dN λE σ₁ ν G w ac hH I hev=>by
  have hd:=hw E σ₁ ν G w ac.tmps hH I _ (hev x _ hx);obtain⟨kl,e1⟩:=hlo.run (ρ:=ac.eval) (λx d h=>cG (hev x _ h));obtain⟨kh,e2⟩:=hhi.run (ρ:=ac.eval) (λx d h=>cG (hev x _ h));obtain⟨g1,g2,g3,g4⟩:=Nd hok;obtain⟨inf,hinf,hsz⟩:=cN.1 hs;obtain⟨v,hv⟩:∃v,ac.eval x=v:=⟨_,rfl⟩
  rw[hv]at hd;cases hd with
  |t hd=>
    cases hd with
    | @nil ad cap h0=>
      have hb:=xW (P:=P) (w:=w) (isS:=true) (n:=0) (cap:=cap) (lo:=a) (hi:=b) (kl:=kl) (kh:=kh) g1 (by omega) g3 g4;have z1:eL 0 b=0:=by omega
      have z2:dZ a=0:=by omega
      rw[z1,z2]at hb;refine⟨.slice (if cap=0 then ad else ad.map (·.add (0*sz))) (0-0) (cap-0),?_,?_⟩
      .unfold execOp
       rw[ho];simp only[hv,e1,e2,nZ];simp[Instr.sliceAt,Instr.slice,run_underlying hu,hb,sizeOf,typeInfo,hinf,hsz]
      .rw[z1,z2]
       simp only[Nat.sub_zero,Nat.zero_mul,Xa,List.drop_zero];refine .t (.nil λhe=>?_);split at he
       .rename_i hc;exact hc
       .exact h0 (by cases ad with|none=>rfl|some _=>cases he)
    |sl bl q _ cap us _ hl hc hn ht=>
      have hb:=xW (P:=P) (w:=w) (isS:=true) (n:=n) (cap:=cap) (lo:=a) (hi:=b) (kl:=kl) (kh:=kh) g1 (by omega) g3 g4;refine⟨.slice (if cap=dZ a then some ⟨bl,q,none⟩else some ((⟨bl,q,none⟩:Addr).add (dZ a*sz))) (eL n b-dZ a) (cap-dZ a),?_,?_⟩
      .unfold execOp
       rw[ho];simp only[hv,e1,e2,nZ];simp[Instr.sliceAt,Instr.slice,run_underlying hu,hb,sizeOf,typeInfo,hinf,hsz]
      .by_cases hz:eL n b-dZ a=0
       .have hnil:(ts.take (eL n b*sz)).drop (dZ a*sz)=[]:=by
         apply sF;rw[lU];have:eL n b*sz<=dZ a*sz:=mL _ (by omega);omega
        rw[hz,hnil];refine .t (.nil λhe=>?_);split at he <;> cases he
       .have hne:¬ cap=dZ a:=by omega
        rw[aF hne,Addr.add_mid];have hm1:eL n b*sz<=n*sz:=mL _ g2;have hm2:dZ a*sz<=eL n b*sz:=mL _ g1;refine .t (.sl bl (q+dZ a*sz) _ _ ((us.take (eL n b*sz)).drop (dZ a*sz)) _ (by simp;omega) (λi u hi'=>?_) (by omega) (λi u t' hu' ht'=>?_))
        .rw[yB,iO]at hi'
         split at hi'
         .have:=hc _ u hi'
          rwa [<-B1]at this
         .cases hi'
        .rw[yB,iO]at hu' ht'
         split at hu'
         .rename_i hlt
          rw[aN hlt]at ht';exact ht _ u t' hu' ht'
         .cases hu'
end
end Go.Ax
/- Operations: those that make, build and convert. -/
namespace Go.Ax
open aA
open Go.RowKit Go.Ab
theorem aHV{τ:Ty}{σ:Vw}:∀(xs:List (Nat×X))(l:List τ.V)(k:List τ.V->O)(r:aC),Hg τ σ l xs k=some r->∃(ys:List (Nat×τ.V))(out:List τ.V),k out=some r/\out.length=l.length/\xs.length=ys.length /\
    (∀(i:Nat)(p:Nat×X)(q:Nat×τ.V),xs[i]?=some p->ys[i]?=some q->p.1=q.1/\cC σ.den.H p.2.D (iE τ q.2).D) /\
    nR ((pA l.length).map λi=>(i*τ.size,τ.size)) ((l.flatMap (bH τ)).map .t) (ys.map λp=>(p.1,(iE τ p.2).D))=some ((out.flatMap (bH τ)).map .t)
 |[],l,k,r,h=>⟨[],l,h,rfl,rfl,λi p q hp=>by simp at hp,rfl⟩
 |(i0,x)::rest,l,k,r,h=>by
   unfold Hg at h;split at h
   .rename_i hi
    have hi':i0<l.length:=by simpa[Nat.blt_eq]using hi
    obtain⟨y,hy,h⟩:=bL h;obtain⟨ys,out,h1,h2,h3,h4,h5⟩:=aHV rest _ k r h;rw[aZX]at h2 h5;have hl:(l.set i0 y).length=l.length:=by simp
    rw[hl]at h2 h5;refine⟨(i0,y)::ys,out,h1,h2,by simp[h3],λi p q hp hq=>?_,?_⟩
    .cases i with
     |zero=>simp at hp hq;subst hp hq;exact⟨rfl,(WW σ x).trans (lB hy)⟩
     |succ i=>exact h4 i p q (by simpa using hp) (by simpa using hq)
    .have hcell:(iE τ y).D.cells=(bH τ y).map .t/\(iE τ y).D.val=true:=by
      rw[aGB];split
      .rename_i h1
       rw[Ht h1];exact⟨rfl,rfl⟩
      .exact⟨rfl,rfl⟩
     obtain⟨z,hz⟩:∃z,l[i0]?=some z:=⟨_,dF hi'⟩
     obtain⟨A,B,hf,hA⟩:=BM (f:=bH τ) (s:=τ.size) (λx=>dR τ x) hz;have hset:=aHk (f:=bH τ) (s:=τ.size) (λx=>dR τ x) (l:=l) (i:=i0) (y:=z) (z:=y) (A:=A) (B:=B) (new:=bH τ y) (j:=0) hf hA hi' (by
      have e1:=dR τ y;have e2:=dR τ z;unfold c8;rw[Xa,n6,sF (by omega),yE]) (by rw[dR];omega)
     have hle:i0*τ.size+τ.size<=l.length*τ.size:=by
      rw[<-aIi];exact mL _ hi'
     simp only[iN,nR];rw[dL,List.getElem?_range hi'];simp only[kX];rw[hcell.1,hcell.2];simp only[dI,dR,BQ];rw[aN (by simp[hle])];rw[<-Ux];rw[show i0*τ.size+0=i0*τ.size by omega]at hset;rw[<-hset];exact h5
   .cases h
section
variable{c:Cx}{σ:Vw}{κ:Nat->Bool}{fr:Nat}{o:Oper}{k:X->Wx->O}{r:aC}
theorem a2V(hσ:σ.Ok κ){e:TypeId}{x:Operand}{v:X}(ho:o.op = .box e x)(hx:σ.ev x=some v)(hv:v.val=true)(h:k (.ref fr 0) [(fr,some (.box e v.cells))]=some r):eF c σ fr o k r:=
 ⟨_,_,h,rfl,λhon=>by
  have:=aGy (P:=c.P) (fr:=fr) ho (bU hσ hon hx) (HB hv);rw[Og hv]at this;exact this⟩
theorem a09{P:Program}{s:St}{e:TypeId}{z:Value}(ho:o.op = .alloc e)(hz:(P.info? e).bind (·.zero)=some z)(hc:z.cells = #[.pointer none,.slice none 0 0]):bI P o s fr (.ref fr 0) [(fr,some (.box e [.via fr (mA 0),.t (.v (.slice none 0 0))]))]:=by
 intro E σ₁ a w hT _ h100 hf hd ⟨ν,G,I⟩ Q;obtain⟨i,hi,hz'⟩:=kY.1 hz;unfold Oper.wp;have hr:(execOp a.eval o).run P w = .ok (.value (.pointer (some ⟨w.heap.size,0,none⟩))) (w.alloc (.cells z.cells e)):=by
  unfold execOp;rw[ho];simp[Instr.alloc,zeroValue,typeInfo,hi,hz',newVar,newRow]
 rw[hr,Oper.upon_value];have hA:cL w (w.alloc (.cells z.cells e)):=(cL.refl w).alloc _;refine⟨put_defers ..,_,_,I.fresh (G':=λb=>if b=w.heap.size then 0 else G b) h100 hf hd hA (λb hb=>aF (by omega)) (x:=.pointer (some ⟨w.heap.size,0,none⟩)) (λg hg=>by cases hg;exact cE _) ?_ (.ref (oN ..) (by rw[dG];rfl))⟩;refine⟨w.heap.size,z.cells,dG,.inl I.kept.size,heap_alloc_new w _,aN rfl,by rw[hc];rfl,λi u d' hu hd'=>?_⟩;rw[hc]at hu
 match i,hu,hd' with
 |0,hu,hd'=>cases hu;cases hd';exact⟨.via (oN ..) (.inl rfl) rfl,rfl⟩
 |1,hu,hd'=>cases hu;cases hd';exact⟨.t (.v _ rfl),rfl⟩
 |i+2,hu,hd'=>simp at hd'
theorem a3f(fr:Nat)(l:List X):Hz fr l=l\/(l=[.v (.pointer none),.cH]/\Hz fr l=[.via fr 0,.cH]):=by
 unfold Hz;split
 .exact .inr ⟨rfl,rfl⟩
 .exact .inl rfl
theorem a22{e:TypeId}{z:X}(ho:o.op = .alloc e)(hz:u9 c.P e=some z)(h:k (.ref fr 0) [(fr,some (.box e (Hz fr z.cells)))]=some r):eF c σ fr o k r:=
 ⟨_,_,h,rfl,λ_=>by
  obtain⟨v,h1,h2⟩:=Xq hz;obtain⟨g1,_,g3,_,g5,_⟩:=Va h2;rcases a3f fr z.cells with e1|⟨e1,e2⟩
  .have:=a0a (P:=c.P) (σ:=σ.den) (fr:=fr) ho h1 g1
   rw[e1];rw[g5]at this;exact this
  .have g3:[D.t (.v (.pointer none)),.t (.v (.slice none 0 0))]=v.cells.toList.map (λu=>D.t (.v u)):=by rw[<-g3,e1];rfl
   have hc:v.cells = #[.pointer none,.slice none 0 0]:=by
    apply u0
    match h:v.cells.toList,g3 with
    |[a,b],g3=>cases g3;rfl
   rw[e2];exact a09 (P:=c.P) ho h1 hc⟩
theorem a2U(hσ:σ.Ok κ){t:TypeId}{ps:Array (Nat×Operand)}{z:X}{pl:List (Nat×Nat)}(ho:o.op = .build t ps)(hz:u9 c.P t=some z)(hp:places c.P t=some pl)(h:σ.BP ps.toList (λxs=>Hp pl z.cells xs λcs=>k (.agg cs) [])=some r):eF c σ fr o k r:=by
 obtain⟨xs,h,hl,hev⟩:=Wc h;obtain⟨out,h,hf⟩:=aHs xs z.cells _ r h;refine⟨_,_,h,rfl,λhon=>?_⟩;obtain⟨v,h1,h2⟩:=Xq hz;obtain⟨_,_,g3,_,_,_⟩:=Va h2;have hb:=a3c h1 h2 hp;have hpt:=V0 hσ hon ps.toList xs (xs.map λp=>(p.1,p.2.D)) hl hev (by simp) (λi p q hp hq=>by
  rw[dL,hp]at hq;cases hq;exact⟨rfl,cC.refl⟩)
 rw[g3]at hf;have:=a05 (P:=c.P) (fr:=fr) hb ho hpt hf;unfold X.D;rw[fD];exact this
theorem a2H(hσ:σ.Ok κ){t e:TypeId}{n b:Nat}{τ:Ty}{st:Bool}{ps:Array (Nat×Operand)}(ho:o.op = .buildSlice t n ps)(hE:nX c t=some (e,τ,b))(hle:n*τ.size<=16777216)(h:σ.BP ps.toList (λxs=>Hg τ σ (De τ.zero n) xs λl=>k (.own fr) [(fr,some (.row e τ l st))])=some r):eF c σ fr o k r:=by
 obtain⟨xs,h,hl,hev⟩:=Wc h;obtain⟨ys,out,h,h2,h3,h4,h5⟩:=aHV xs _ _ r h;refine⟨_,_,h,rfl,λhon=>?_⟩;obtain⟨z,hA,hz⟩:=IF hE;have hpt:=V0 hσ hon ps.toList xs (ys.map λp=>(p.1,(iE τ p.2).D)) hl hev (by simp[h3]) (λi p q hp hq=>by
  rw[dL]at hq;obtain⟨y,hy,rfl⟩:=cN.1 hq;exact h4 i p y hp hy)
 rw[aG4]at h2 h5;rw[Xe]at h2 h5;have hfl:∀m:Nat,(eR m τ.zero).flatMap (bH τ)=(eR m (bH τ τ.zero)).flatten:=λm=>by
  induction m with
  |zero=>rfl
  |succ m ih=>rw[qL,qL,jS,EU,ih]
 rw[hfl]at h5;have:=a0I (P:=c.P) (fr:=fr) st hA hz (len:=n) (by omega) ho hpt h5;rw[<-h2]at this;exact this
theorem a2D(hσ:σ.Ok κ){t e:TypeId}{b:Nat}{τ:Ty}{x y:Operand}{z:Int}(ho:o.op = .makeSlice t x y)(he:V4 x y=true)(hx:σ.ev x=some (.e (.i .i64) z))(hE:nX c t=some (e,τ,b))(h:Hf τ e fr b false z k=some r):eF c σ fr o k r:=by
 unfold Hf at h;obtain⟨h0,h⟩:=jD h;obtain⟨hb,h⟩:=jD h;refine⟨_,_,h,rfl,λhon=>?_⟩;obtain⟨v,hA,hz⟩:=IF hE;have h0:=cR h0;unfold cZ at hb;have hb:=cR hb;have hn:((z.toNat:Nat):Int)=z:=by omega
 have hx1:σ.den.ev x=some (I (z.toNat:Nat)):=by
  rw[hn];exact bU hσ hon hx
 have hy1:σ.den.ev y=some (I (z.toNat:Nat)):=by
  unfold V4 at he;split at he
  .rw[<-bY he];exact hx1
  .rename_i k1 a k2 b'
   simp only[bM,fU,qG]at he;obtain⟨rfl,rfl⟩:=he;exact hx1
  .cases he
 have hm:z.toNat<=maxLen:=by simp only[maxLen];omega
 have:=a0D (P:=c.P) (fr:=fr) false hA hz ho hx1 hy1 ⟨by rw[Nat.mul_comm];omega,hm⟩;have hfl:∀m:Nat,(eR m τ.zero).flatMap (bH τ)=(eR m (bH τ τ.zero)).flatten:=λm=>by
  induction m with
  |zero=>rfl
  |succ m ih=>rw[qL,qL,jS,EU,ih]
 unfold WA;simp only[iN,List.map_nil,kX,XO.A,Xe,hfl];exact this
end
end Go.Ax
/- Operations: appends, slices, conversions and the others that only reckon. -/
namespace Go.Ax
open aA
open Go.RowKit Go.Ab
theorem W6{α:Type}{f:α->List Tree}{s:Nat}(hf:∀x,(f x).length=s):∀(l:List α)(n:Nat),(l.flatMap f).take (n*s)=(l.take n).flatMap f
 |[],n=>by simp
 |x::l,0=>by simp
 |x::l,n+1=>by
   rw[jS,a4T,jS,<-W6 hf l n,aIi,a4W,hf,ES (by rw[hf];omega)]
   congr 2
   omega
theorem aHm{α:Type}{f:α->List Tree}{s:Nat}(hf:∀x,(f x).length=s):∀(l:List α)(n:Nat),(l.flatMap f).drop (n*s)=(l.drop n).flatMap f
 |[],n=>by simp
 |x::l,0=>by simp
 |x::l,n+1=>by
   rw[jS,a4e,<-aHm hf l n,aIi,a4g,hf,sF (by rw[hf];omega),n6]
   congr 1
   omega
section
variable{c:Cx}{σ:Vw}{κ:Nat->Bool}{fr:Nat}{o:Oper}{k:X->Wx->O}{r:aC}
theorem aZd{τ:Ty}{x:X}{l:List τ.V}(h:one? (.sl τ) x=some l):x = .e (.sl τ) l\/(x = .cH/\l=[]):=by
 cases x with
 |e τ' y=>
   unfold one? at h;simp only at h;generalize hM τ' (.sl τ)=p at h;cases p with
   |none=>cases h
   |some q=>obtain⟨q⟩:=q;subst q;cases h;exact .inl rfl
 |cH=>unfold one? at h;cases h;exact .inr ⟨rfl,rfl⟩
 |_=>cases h
theorem aYc{τ:Ty}{xo:Operand}{x:X}{l:List τ.V}(hx:σ.den.ev xo=some x.D)(h:one? (.sl τ) x=some l):Src σ.den xo l.length (l.flatMap (bH τ)):=by
 rcases aZd h with rfl|⟨rfl,rfl⟩
 .exact .t hx
 .exact .nil hx
theorem Uv{τ:Ty}{xo:Operand}{x:X}{l:List τ.V}(hx:σ.den.ev xo=some x.D)(h:σ.src τ x=some l):Src σ.den xo l.length (l.flatMap (bH τ)):=by
 cases x with
 |own q=>
   unfold Vw.src at h;simp only at h;split at h
   .rename_i e τ' l' st hq
    generalize hM τ' τ=p at h;cases p with
    |none=>cases h
    |some g=>
      obtain⟨g⟩:=g;subst g;cases h;exact .own (e:=e) (s:=τ'.size) (st:=st) hx (by rw[fZ hq];rfl)
   .cases h
 |_=>exact aYc hx h
theorem a2W(hσ:σ.Ok κ){t e:TypeId}{x y:Operand}{v w:X}{τ:Ty}{bt:Nat}{l':List τ.V}(ho:o.op = .call { callee:=.builtin .append,args:=#[x,y],argTypes:=#[t,t] })(hE:nX c t=some (e,τ,bt))(hx:σ.ev x=some v)(hy:σ.ev y=some w)(hl:σ.src τ w=some l'){st:Bool}
    (h:(∃q st' l,v = .own q/\σ.H q=some (.row e τ l st')/\XU τ e fr bt [(q,none)] st' l l' k=some r)\/(v = .cH/\ck (cZ (gK l') bt) (k (.own fr) [(fr,some (.row e τ l' st))])=some r)):eF c σ fr o k r:=by
 obtain⟨z,hA,_⟩:=IF hE;rcases h with⟨q,st',l,rfl,hq,h⟩|⟨rfl,h⟩
 .unfold XU at h
  obtain⟨hb,h⟩:=jD h;refine⟨_,_,h,rfl,λhon=>?_⟩;unfold cZ at hb;have hb:=cR hb;rw[dO]at hb;have:=aGz (P:=c.P) (fr:=fr) st' hA ho (.own (k:=q) (n:=l.length) (ts:=l.flatMap (bH τ)) (bU hσ hon hx) (by rw[fZ hq];rfl)) (Uv (bU hσ hon hy) hl) (by rw[BQ]) ⟨hb.1,by simp only[maxLen];omega⟩;unfold WA;simp only[iN,List.map_nil,kX,nZ,XO.A,dO,List.flatMap_append];exact this
 .obtain⟨hb,h⟩:=jD h
  refine⟨_,_,h,rfl,λhon=>?_⟩;unfold cZ at hb;have hb:=cR hb;have:=aGz (P:=c.P) (fr:=fr) st hA ho (.nil (bU hσ hon hx)) (Uv (bU hσ hon hy) hl) (by rw[BQ]) ⟨by rw[e9];exact hb.1,by simp only[maxLen];omega⟩;rw[e9,n6]at this;exact this
theorem wZ(hσ:σ.Ok κ){x:Option Operand}{f:Option Int->O}(h:σ.kR x f=some r):∃v,f v=some r/\(σ.On->mO σ.den x v):=by
 unfold Vw.kR at h;split at h
 .exact⟨none,h,λ_=>trivial⟩
 .obtain⟨w,hw,h⟩:=bL h
  obtain⟨ik,n,hn,h⟩:=ID h;exact⟨some n,h,λhon=>⟨ik,by rw[bU hσ hon hw,hn]⟩⟩
theorem aYg(hσ:σ.Ok κ){t e:TypeId}{x:Operand}{lo hi:Option Operand}{v:X}{τ:Ty}{l:List τ.V}{a b:Option Int}(ho:o.op = .slice t x lo hi none)(hx:σ.ev x=some v)(ha:σ.On->mO σ.den lo a)(hb:σ.On->mO σ.den hi b)(hu:c.P.underlying t=some (.slice e))(hm:iF c.P e=some τ.size)(hg:σ.kU v = .e (.sl τ) l)
    (h:VC τ (σ.g.map (·.2)) l a b (λr=>k r [])=some r):eF c σ fr o k r:=by
 unfold VC at h;obtain⟨h,hok⟩:=nT h;refine⟨_,_,h,rfl,λhon=>?_⟩;have hw:=EA σ v;rw[hg]at hw;have:=ok_slice (P:=c.P) (fr:=fr) hu hm ho (bU hσ hon hx) (n:=l.length) (ts:=l.flatMap (bH τ)) hw (BQ l) (ha hon) (hb hon) (hok hon.g);rw[W6 (λx=>dR τ x),aHm (λx=>dR τ x),<-VB]at this;have hlen:eL l.length b-dZ a=(dY l a b).length:=by
  obtain⟨g1,g2,_,_⟩:=Nd (hok hon.g);rw[VB,List.length_drop,lU];omega
 rw[hlen]at this;exact this
theorem aHb(hσ:σ.Ok κ){t:TypeId}{x:Operand}{lo hi:Option Operand}{v:X}(ho:o.op = .slice t x lo hi none)(hx:σ.ev x=some v)(h:σ.kR lo (λlo=>σ.kR hi λhi=>Nc c σ t v lo hi λr=>k r [])=some r):eF c σ fr o k r:=by
 obtain⟨a,h,ha⟩:=wZ hσ h;obtain⟨b,h,hb⟩:=wZ hσ h;unfold Nc at h;split at h
 .rename_i e τ l hu hg
  split at h
  .rename_i m hm
   split at h
   .rename_i hs
    have hs:=bY hs;subst hs;exact aYg hσ ho hx ha hb hu hm hg h
   .cases h
  .cases h
 .rename_i l hu hg
  unfold aGN at h;obtain⟨h,hok⟩:=nT h;refine⟨_,_,h,rfl,λhon=>?_⟩;have hv:v = .e .tx l:=by
   unfold Vw.kU at hg;split at hg
   .split at hg
    .cases hg
    .cases hg
   .exact hg
  subst hv;exact aZh (P:=c.P) (fr:=fr) hu ho (bU hσ hon hx) (ha hon) (hb hon) (hok hon.g)
 .cases h
theorem aHn:∀(l:List (Ty.V .u8))(j:Nat)(x:Ty.V .u8),l[j]?=some x->(l.flatMap (bH .u8))[j]?=some (.v (.int .u8 (UInt8.toNat x:Int)))
 |[],j,x,h=>by simp at h
 |u::l,0,x,h=>by cases h;rfl
 |u::l,j+1,x,h=>aHn l j x (by simpa using h)
theorem a3T{P:Program}{s:St}{n:Int}(h:bI P o s fr (.t (.v (.int .u8 (IntKind.u8.wrap n)))) []):bI P o s fr (X.e .u8 (dV n)).D []:=by
 rw[<-aYW]at h;exact h
theorem a3S{P:Program}{s:St}{u:UInt8}(h:bI P o s fr (.t (.v (.int .u8 (IntKind.u8.wrap (u.toNat:Int))))) []):bI P o s fr (X.e .u8 u).D []:=by
 have h8:IntKind.u8.wrap (u.toNat:Int)=(u.toNat:Int):=by
  rw[IT];have:=u.toNat_lt;omega
 rw[h8]at h;exact h
theorem a2S(hσ:σ.Ok κ){s d e:TypeId}{x:Operand}{v:X}{l:List UInt8}(hs:c.P.underlying s=some (.slice e))(he:c.P.underlying e=some (.int .u8))(hd:c.P.underlying d=some .string)(ho:o.op = .convert s d x)(hx:σ.ev x=some v)(hl:σ.src .u8 v=some l)(h:k (.e .tx l) []=some r):eF c σ fr o k r:=
 ⟨_,_,h,rfl,λhon=>by
  intro E σ₁ a w hT hHH h100 hf hdst ⟨ν,G,I⟩ Q;obtain⟨ax,cp,us,hxv,hul,hrd,hnone,htr⟩:=(Uv (bU hσ hon hx) hl).rd hT hHH I;have hc:(convert s d (a.eval x)).run c.P w = .ok (.string ⟨⟨l⟩⟩) w:=by
   rw[hxv];cases ax with
   |none=>
     have hl0:l=[]:=List.eq_nil_of_length_eq_zero (hnone rfl).2;subst hl0;simp[convert,run_underlying hs,run_underlying hd,run_underlying he,Conv.bytesToString];rfl
   |some ad=>
     refine run_convert_bytes_back (P:=c.P) w s d e ad cp l hs he hd (λj hj=>?_);have hj':=aHn l j l[j] (dF hj);have hlen:(iP (bH .u8) l).length=l.length:=(BQ (τ:=.u8) l).trans (IJ _);have hju:j<us.length:=by rw[hul];exact hlen ▸ hj
     obtain⟨ad',e1,e2⟩:=hrd j us[j] (dF hju);cases e1;have ht:=htr j us[j] _ (dF hju) hj';rw[e2];generalize us[j]=u at ht;cases ht with
     |v _ _=>rfl
  unfold Oper.wp;have he:(execOp a.eval o).run c.P w = .ok (.value (.string ⟨⟨l⟩⟩)) w:=by
   unfold execOp;rw[ho];simp[hc]
  rw[he,Oper.upon_value];exact⟨put_defers ..,ν,G,I.put (.t (.v _ rfl)) hdst fr a rfl⟩⟩
theorem a2Q(hσ:σ.Ok κ){s d:TypeId}{x:Operand}{v:X}(ho:o.op = .convert s d x)(hx:σ.ev x=some v)(h:Of c.P s d v (λr=>k r [])=some r):eF c σ fr o k r:=by
 unfold Of at h;split at h
 .rename_i hs hd
  refine⟨_,_,h,rfl,λhon=>?_⟩;exact a3T (OC (P:=c.P) (fr:=fr) ho (by rw[hs];rfl) hd (bU hσ hon hx))
 .rename_i hs hd
  refine⟨_,_,h,rfl,λhon=>?_⟩;exact a3S (OC (P:=c.P) (fr:=fr) ho (by rw[hs];rfl) hd (bU hσ hon hx))
 .rename_i hs hd
  refine⟨_,_,h,rfl,λhon=>?_⟩;exact OC (P:=c.P) (fr:=fr) ho (by rw[hs];rfl) hd (bU hσ hon hx)
 .rename_i hs hd
  refine⟨_,_,h,rfl,λhon=>?_⟩;exact OC (P:=c.P) (fr:=fr) ho (by rw[hs];rfl) hd (bU hσ hon hx)
 .cases h
theorem a2I(hσ:σ.Ok κ){t:TypeId}{x:Operand}{v:X}(ho:o.op = .call { callee:=.builtin .len,args:=#[x],argTypes:=#[t] })(hx:σ.ev x=some v)(h:WI c σ t v (λr=>k r [])=some r):eF c σ fr o k r:=by
 unfold WI at h;split at h
 .rename_i v' e hu
  unfold Vw.len at h;split at h
  .split at h
   .rename_i q e' τ l st hq
    refine⟨_,_,h,rfl,λhon=>?_⟩;exact V8 (P:=c.P) (fr:=fr) hu ho rfl (.own (bU hσ hon hx) (by rw[fZ hq];rfl))
   .rename_i q e' e1 τ l hq
    refine⟨_,_,h,rfl,λhon=>?_⟩;have:=a0M (P:=c.P) (fr:=fr) hu ho rfl (bU hσ hon hx) (fZ hq);rw[dI]at this;exact this
   .rename_i q e' e1 κ' ρ l ln hq
    refine⟨_,_,h,rfl,λhon=>?_⟩;exact a0K (P:=c.P) (fr:=fr) hu ho rfl (bU hσ hon hx) (fZ hq)
   .cases h
  .split at h
   .rename_i q i e' e1 τ l hq
    obtain⟨y,hy,h⟩:=uH h;refine⟨_,_,h,rfl,λhon=>?_⟩;exact a0L (P:=c.P) (fr:=fr) hu ho rfl (bU hσ hon hx) (fZ hq) (OJ hy)
   .cases h
  .refine⟨_,_,h,rfl,λhon=>?_⟩
   exact V8 (P:=c.P) (fr:=fr) hu ho rfl (.t (bU hσ hon hx))
  .refine⟨_,_,h,rfl,λhon=>?_⟩
   exact V8 (P:=c.P) (fr:=fr) hu ho rfl (.nil (bU hσ hon hx))
  .cases h
 .rename_i l hu
  refine⟨_,_,h,rfl,λhon=>?_⟩;exact a0J (P:=c.P) (fr:=fr) hu ho rfl (bU hσ hon hx)
 .cases h
theorem aI4(hσ:σ.Ok κ){b:Operand}{j:Nat}{q:Bool}(h:σ.XE b=some (j,q))(hon:σ.On):σ.den.ev b=some (B q)/\κ (2*j+1)=q/\κ (2*j)=!q:=by
 unfold Vw.XE at h;split at h
 .rename_i t
  split at h
  .rename_i ht
   cases h;exact⟨qB ht,hσ.p6 _ _ ht⟩
  .rename_i key cc j' q' ht
   split at h
   .rename_i key' c' hg
    split at h
    .rename_i hb
     have hb:=bY hb;subst hb;cases h;obtain⟨h1,h2,h3⟩:=hσ.p6 _ _ ht;have hc:cc=true:=h1.trans ((hσ.g _ _ hg).symm.trans (hon _ _ hg));subst hc;exact⟨qB ht,by simpa using h2,by simpa using h3⟩
    .cases h
   .cases h
  .cases h
 .cases h
theorem aIA(hσ:σ.Ok κ){key:Nat}{x:Operand}{v:X}(h:σ.EC key x=some v):v.pl=true/\(σ.On->κ key=true->σ.den.ev x=some v.D):=by
 unfold Vw.EC at h;split at h
 .rename_i t
  split at h
  .rename_i key' cc y ht
   split at h
   .rename_i hb
    have hb:=bY hb;subst hb;obtain⟨h1,h2⟩:=hσ.p6 _ _ ht;have hD:κ key'=true->σ.den.ev (.tmp t)=some y.D:=λhk=>by
     have e:σ.den.ev (.tmp t)=some (X.eO key' cc y).D:=qB ht;rw[hk]at h1;subst h1;exact e
    split at h
    .cases h
     exact⟨rfl,λ_ hk=>hD hk⟩
    .cases h
    .rename_i n1 n2
     cases h;refine⟨?_,λ_ hk=>hD hk⟩;cases v with
     |bit j q=>exact absurd rfl (n1 j q)
     |eO a b c=>exact absurd rfl (n2 a b c)
     |_=>rfl
   .refine⟨Ue h,λhon hk=>?_⟩
    cases cc with
    |true => 
      have e:σ.den.ev (.tmp t)=some (X.eO key' true y).D:=qB ht;rw[e,Uf (hσ.p6 t _ ht) hσ.g hon h]
    |false=>
      exfalso;unfold tY at h;split at h
      .rename_i he;cases he
      .rename_i key2 c2 y2 he
       cases he;split at h
       .rename_i key3 c3 hg
        split at h
        .rename_i hb
         have hb:=bY hb;subst hb;have:=(hσ.p6 _ _ ht).1;rw[<-hσ.g _ _ hg,hon _ _ hg]at this;cases this
        .cases h
       .cases h
      .rename_i n1 n2
       exact n2 _ _ _ rfl
  .rename_i y hy ht
   refine⟨Ue h,λhon hk=>?_⟩;have e:σ.den.ev (.tmp t)=some y.D:=qB ht;rw[e,Uf (hσ.p6 t y ht) hσ.g hon h]
  .cases h
 .exact⟨xP h,λhon _=>bU hσ hon h⟩
theorem a1x(hσ:σ.Ok κ){b x y:Operand}(ho:o.op = .pick b x y)(h:VZ σ b x y (λr=>k r [])=some r):eF c σ fr o k r:=by
 unfold VZ at h;split at h
 .rename_i j q hbit
  obtain⟨v,hv,h⟩:=bL h;obtain⟨v',hv',h⟩:=bL h;obtain⟨p1,d1⟩:=aIA hσ hv;obtain⟨p2,d2⟩:=aIA hσ hv';have hT:∀d,q=true->(σ.On->v.D=d)->σ.On->bI c.P o σ.den fr d []:=λd hq hd hon=>by
   obtain⟨h1,h2,h3⟩:=aI4 hσ hbit hon;subst hq;rw[<-hd hon];exact V6 ho h1 (d1 hon h2)
  have hF:∀d,q=false->(σ.On->v'.D=d)->σ.On->bI c.P o σ.den fr d []:=λd hq hd hon=>by
   obtain⟨h1,h2,h3⟩:=aI4 hσ hbit hon;subst hq;rw[<-hd hon];exact V7 ho h1 (d2 hon h3)
  have hbr:br q (k v []) (k v' [])=some r->eF c σ fr o k r:=λh=>by
   rcases xV h with⟨hq,h⟩|⟨hq,h⟩
   .exact⟨_,_,h,p1,hT _ hq (λ_=>rfl)⟩
   .exact⟨_,_,h,p2,hF _ hq (λ_=>rfl)⟩
  split at h
  .rename_i a a' h0
   split at h
   .unfold aIb at h
    refine⟨_,_,h,rfl,λhon=>?_⟩;cases q with
    |true=>exact hT _ rfl (λ_=>rfl) hon
    |false=>
      refine hF _ rfl (λ_=>?_) hon;have:(X.e .bo false) = .e .bo a':=by
       have e:σ.EC (2*j) (.const (.bool false))=some (.e .bo false):=rfl;rw[e]at hv';exact fL hv'
      exact bG X.D this.symm
   .unfold orX at h
    refine⟨_,_,h,rfl,λhon=>?_⟩;cases q with
    |true=>
      refine hT _ rfl (λ_=>?_) hon;have:(X.e .bo true) = .e .bo a:=by
       have e:σ.EC (2*j+1) (.const (.bool true))=some (.e .bo true):=rfl;rw[e]at hv;exact fL hv
      exact bG X.D this.symm
    |false=>exact hF _ rfl (λ_=>rfl) hon
   .exact hbr h
  .exact hbr h
 .obtain⟨v,hv,h⟩:=bL h
  split at h
  .rename_i q
   rcases xV h with⟨hq,h'⟩|⟨hq,h'⟩
   .obtain⟨w,hw,h''⟩:=bL h'
    subst hq;exact⟨_,_,h'',xP hw,λhon=>V6 ho (bU hσ hon hv) (bU hσ hon hw)⟩
   .obtain⟨w,hw,h''⟩:=bL h'
    subst hq;exact⟨_,_,h'',xP hw,λhon=>V7 ho (bU hσ hon hv) (bU hσ hon hw)⟩
  .obtain⟨w,hw,h''⟩:=bL h
   exact⟨_,_,h'',xP hw,λhon=>V6 ho (bU hσ hon hv) (bU hσ hon hw)⟩
  .obtain⟨w,hw,h''⟩:=bL h
   exact⟨_,_,h'',xP hw,λhon=>V7 ho (bU hσ hon hv) (bU hσ hon hw)⟩
  .cases h
end
end Go.Ax
