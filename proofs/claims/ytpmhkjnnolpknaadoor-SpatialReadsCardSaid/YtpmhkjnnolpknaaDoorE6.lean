/- The abstract machine, run: operations. Conditions are in the theorems. -/
import Derived.Test.YtpmhkjnnolpknaaDoorE5
import Derived.Laws.IdiomStrings
open Array renaming ext'->tX,getElem?_eq_getElem->j4,toList_extract->a2H
open Bool renaming and_eq_true->bM
open ByteArray renaming ext->a2A
open List renaming append_assoc->fU,append_eq_nil_iff->a1t,append_nil->nB,drop_append->a1r,drop_append_of_le_length->aGw,drop_eq_nil_of_le->fK,drop_succ_cons->a1p,flatMap->b8,flatMap_cons->gO,flatten_cons->Dt,getElem?_append_left->dJ,getElem?_append_right->eS,getElem?_drop->oC,getElem?_eq_getElem->bJ,getElem?_eq_some_iff->bU,getElem?_map->cY,getElem?_take->eN,length->dN,length_append->cP,length_map->cW,length_replicate->HD,length_set->gF,length_take->fJ,map_append->fO,map_cons->eX,map_drop->a1j,map_set->aGu,map_take->a1i,mem_cons->dT,nil_append->fR,range->gU,replicate->bY,replicate_succ->pL,take_append->a1d,take_append_of_le_length->aGr,take_of_length_le->oB,take_succ_cons->a1c,take_zero->Gz
open Nat renaming add_assoc->BV,add_mul->iL,add_zero->iU,ble_eq_true_of_le->V3,eq_of_beq_eq_true->bF,le_of_ble_eq_true->fQ,le_refl->cQ,mul_le_mul_right->kV,mul_one->jZ,one_mul->aGk,sub_self->aGj,succ_mul->aGh,zero_add->eD
open Option renaming bind_eq_some_iff->xN,map_eq_some_iff->cR,map_none->pG,map_some->iT
open Option.some renaming inj->fI
/- Operations: parts of data, what is read, what is built. -/
namespace Go.Ax
open aB
open Go.RowKit Go.Ab
theorem OK{P:Program}{o:Oper}{σ:St}{fr:Nat}{d d':D}(h:aZ P o σ fr d [])(hw:bV σ.H d d'):aZ P o σ fr d' []:=λE σ₁ a w h1 h2 h3 h4 h5 h6 Q=>Oper.wp_mono (λa' w' ⟨q1,ν,G,I⟩=>by
 refine⟨q1,ν,G,I.kept,I.dY,I.fA,I.g0,I.sz,λt x ht=>?_,I.H,I.cK⟩;simp only[St.aS]at ht;by_cases e:o.dst=some t
 .rw[aJ e]at ht
  cases ht;obtain⟨v,hv,hd⟩:=I.T t d (by simp only[St.aS];rw[aJ e]);exact⟨v,hv,hw E _ ν G w' _ (λk ob hk=>by simp only[St.aS,Ab.look];exact h2 k ob hk) I v hd⟩
 .rw[aH e]at ht
  exact I.T t x (by simp only[St.aS];rw[aH e];exact ht)) (h E σ₁ a w h1 h2 h3 h4 h5 h6 Q)
theorem Fg{x:X}(h:x.val=true):x.D.val=true:=by
 cases x with
 |e τ y=>
   have h:τ.one=true:=h;rw[o8 h];rfl
 |aU xs=>cases h
 |eP a b c=>cases h
 |bit a b=>cases h
 |iP a=>cases h
 |_=>rfl
theorem Nx{x:X}(h:x.val=true):x.D.cells=x.cells.map X.D:=a04 h (Fg h)
theorem Gg{α:Type}:∀(n:Nat)(l:List α),oA n l=l.drop n
 |0,l=>rfl
 |n+1,[]=>by simp[oA]
 |n+1,x::l=>by simp[oA,Gg n l]
theorem Fo{α:Type}:∀(n:Nat)(l:List α),mF n l=l.take n
 |0,l=>by simp[mF]
 |n+1,[]=>by simp[mF]
 |n+1,x::l=>by simp[mF,Fo n l]
theorem NJ{α:Type}:∀(l:List α)(off:Nat)(new:List α),off+new.length<=l.length->n3 l off new=c8 l off new
 |[],off,new,h=>by
   simp at h;obtain⟨rfl,rfl⟩:=h;rfl
 |x::l,0,[],_=>by simp[n3,c8]
 |x::l,0,y::new,h=>by
   have ih:=NJ l 0 new (by simp at h ⊢;omega);simp only[n3,ih,c8];simp
 |x::l,n+1,new,h=>by
   have ih:=NJ l n new (by simp at h ⊢;omega);simp only[n3,ih,c8,a1c,List.cons_append];rw[show n+1+new.length=(n+new.length)+1 by omega,a1p]
theorem TG{α β:Type}(f:α->β)(l:List α)(off:Nat)(new:List α):(c8 l off new).map f=c8 (l.map f) off (new.map f):=by
 simp[c8]
theorem aE3{α:Type}(x:α):∀n,DE x n=bY n x
 |0=>rfl
 |n+1=>by rw[DE,aE3 x n,pL]
theorem aWq{α:Type}(l:List α)(i:Nat)(x:α):gR x i l=l.set i x:=by
 have:=GI (λz:α=>z) l i x;simpa using this
theorem Gs:∀(τ:Ty)(x:τ.V)(j m:Nat)(k:(τ':Ty)->τ'.V->O)(r:aM),l4 τ x j m k=some r->∃(τ':Ty)(y:τ'.V)(A B:List Tree),k τ' y=some r/\aR τ x=A++aR τ' y++B/\A.length=j/\m=τ'.size
 |.pr a b,x,j,m,k,r,h=>by
   unfold l4 at h;split at h
   .rename_i hb
    rw[bM]at hb;exact⟨.pr a b,x,[],[],h,by simp,(bF hb.1).symm,bF hb.2⟩
   .split at h
    .obtain⟨τ',y,A,B,h1,h2,h3,h4⟩:=Gs a x.1 j m k r h
     exact⟨τ',y,A,B++aR b x.2,h1,by rw[aR,h2];simp,h3,h4⟩
    .rename_i hlt
     obtain⟨τ',y,A,B,h1,h2,h3,h4⟩:=Gs b x.2 (j-a.size) m k r h;have:¬ j<a.size:=λhj=>by
      have:Nat.blt j a.size=true:=V3 hj;rw[this]at hlt;cases hlt
     exact⟨τ',y,aR a x.1++A,B,h1,by rw[aR,h2];simp,by rw[cP,dB,h3];omega,h4⟩
 |.un,x,j,m,k,r,h=>by unfold l4 at h;cases h
 |.ex,x,j,m,k,r,h=>by
   unfold l4 at h;split at h
   .exact⟨.ex,x,[],[],h,by simp,rfl,rfl⟩
   .exact⟨.i .i64,Ex.op x,[],[.v (.int .i64 (Ex.num x)),.sl (dN (Ex.kids x)) ((Ex.kids x).flatMap tH)],h,(by have:=D9 x;exact this),rfl,rfl⟩
   .exact⟨.i .i64,Ex.num x,[.v (.int .i64 (Ex.op x))],[.sl (dN (Ex.kids x)) ((Ex.kids x).flatMap tH)],h,(by have:=D9 x;exact this),rfl,rfl⟩
   .exact⟨.sl .ex,Ex.kids x,[.v (.int .i64 (Ex.op x)),.v (.int .i64 (Ex.num x))],[],h,(by have:=D9 x;exact this),rfl,rfl⟩
   .cases h
 |.i a,x,j,m,k,r,h=>by
   unfold l4 at h;split at h
   .rename_i hb
    rw[bM]at hb;exact⟨.i a,x,[],[],h,by simp,(bF hb.1).symm,bF hb.2⟩
   .cases h
 |.u8,x,j,m,k,r,h=>by
   unfold l4 at h;split at h
   .rename_i hb
    rw[bM]at hb;exact⟨.u8,x,[],[],h,by simp,(bF hb.1).symm,bF hb.2⟩
   .cases h
 |.bo,x,j,m,k,r,h=>by
   unfold l4 at h;split at h
   .rename_i hb
    rw[bM]at hb;exact⟨.bo,x,[],[],h,by simp,(bF hb.1).symm,bF hb.2⟩
   .cases h
 |.tx,x,j,m,k,r,h=>by
   unfold l4 at h;split at h
   .rename_i hb
    rw[bM]at hb;exact⟨.tx,x,[],[],h,by simp,(bF hb.1).symm,bF hb.2⟩
   .cases h
 |.sl a,x,j,m,k,r,h=>by
   unfold l4 at h;split at h
   .rename_i hb
    rw[bM]at hb;exact⟨.sl a,x,[],[],h,by simp,(bF hb.1).symm,bF hb.2⟩
   .cases h
theorem BG{α:Type}{f:α->List Tree}{s:Nat}(hf:∀x,(f x).length=s):∀{l:List α}{i:Nat}{y:α},l[i]?=some y->∃A B,l.flatMap f=A++f y++B/\A.length=i*s
 |[],i,y,h=>by simp at h
 |x::l,0,y,h=>by simp at h;subst h;exact⟨[],l.flatMap f,by simp,by simp⟩
 |x::l,i+1,y,h=>by
   obtain⟨A,B,h1,h2⟩:=BG hf (l:=l) (i:=i) (y:=y) (by simpa using h);exact⟨f x++A,B,by rw[gO,h1];simp,by rw[cP,hf,h2,iL];omega⟩
theorem o7{τ:Ty}(l:List τ.V):(l.flatMap (aR τ)).length=l.length*τ.size:=aZf (λx=>dB τ x) l
theorem bV.ptr{H:Nat->Option aQ}{A ts B:List Tree}{off:Nat}(hA:A.length=off):bV H (.ptr (A++ts++B) off) (.ptr ts 0):=λ_ s ν G w _ _ _ v hv=>by
 obtain⟨b,q,us,rfl,hl,hc,ht⟩:=DH hv;have hlen:us.length=A.length+ts.length+B.length:=by rw[hl];simp;omega
 have:=DR.ptr (ν:=ν) (nm:=s.nm) (w:=w) (G:=G) (b:=b) (o:=q+off) (off:=0) (us:=(us.drop off).take ts.length) (ts:=ts) (by simp;omega) (λi u hu=>by
  rw[eN]at hu;split at hu
  .rw[oC]at hu
   have:=hc (off+i) u hu
   rwa [<-BV]at this
  .cases hu) (λi u t hu hti=>by
  rw[eN]at hu;split at hu
  .rename_i hi
   rw[oC]at hu;refine ht (off+i) u t hu ?_;rw[fU,eS (by omega),dJ (by omega),show off+i-A.length=i by omega];exact hti
  .cases hu)
 exact this
theorem bV.aWl{H:Nat->Option aQ}{q off:Nat}{e:TypeId}{s n:Nat}{A ts B:List Tree}(hq:H q=some (.row e s n (A++ts++B) true))(hA:A.length=off):bV H (.ref q off) (.ptr ts 0):=λE st ν G w tm hH I v hv=>by
 obtain⟨g,hg,rfl,_⟩:=oT hv;have htr:=I.rows _ _ _ _ _ _ (hH _ _ hq) rfl;obtain⟨u,hu⟩:∃u,ν q=u:=⟨_,rfl⟩
 rw[hu]at htr hg;obtain⟨L,hL⟩:∃L,A++ts++B=L:=⟨_,rfl⟩
 rw[hL]at htr;cases htr with
 |nil h=>
   have hts:ts=[]:=(a1t.1 (a1t.1 hL).1).2;subst hts;have:=DR.ptr (ν:=ν) (nm:=st.nm) (w:=w) (G:=G) (b:=g) (o:=off) (off:=0) (us:=[]) (ts:=[]) rfl (λi u h=>by simp at h) (λi u t h=>by simp at h);exact this
 |sl b o n c us ts' hl hc hn h=>
   simp only[aV,Option.some.injEq]at hg;subst hg
   -- a row of one's own begins at its block's first cell
   have ho:o=0:=by
    obtain⟨_,xs,r1,_⟩:=I.H _ _ (hH _ _ hq);rcases r1.2 with⟨hv,_⟩|⟨g,cap,cur,hv,_⟩
    .rw[hu]at hv;cases hv
    .rw[hu]at hv;cases hv;rfl
   subst ho;rw[<-hL]at hl h;have h0:DR ν st.nm w G (.pointer (some ⟨b,0+off,none⟩)) (.ptr (A++ts++B) off):=.ptr hl hc h;rw[eD]at h0;exact bV.ptr (H:=H) hA E st ν G w tm hH I _ h0
end Go.Ax
/- Operations: loads and stores, addresses, what is built. -/
namespace Go.Ax
open aB
open Go.RowKit Go.Ab
abbrev dU(c:Cx)(σ:Vw)(fr:Nat)(o:Oper)(k:X->Wx->O)(r:aM):Prop:=∃x W,k x W=some r/\x.pl=true/\(σ.On->aZ c.P o σ.den fr x.D (WA W))
theorem toT{τ:Ty}{y:τ.V}(h:τ.one=true):(aR τ y).map D.t=[(X.e τ y).D]:=by rw[Gc h,o8 h];rfl
section
variable{c:Cx}{σ:Vw}{κ:Nat->Bool}{fr:Nat}{o:Oper}{r:aM}
theorem GV{τ:Ty}{l:List (List τ.V)}{i:Nat}{r:List τ.V}(h:l[i]?=some r):(l.map λr=>(dN r,b8 (aR τ) r))[i]?=some (dN r,b8 (aR τ) r):=by rw[cY,h];rfl
theorem Nj{τ:Ty}(h:τ.one=true)(r:List τ.V):b8 (aR τ) r=r.map (n9 τ):=Ug (λy=>Gc h y) r
theorem aFZ{i i' j s:Nat}(h1:1<=j)(h2:j<s):i'*s≠i*s+j:=λe=>by
 rcases Nat.lt_trichotomy i' i with h|h|h
 .have:=kV s (show i'+1<=i by omega)
  rw[iL,aGk]at this;omega
 .subst h;omega
 .have:=kV s (show i+1<=i' by omega)
  rw[iL,aGk]at this;omega
theorem aYb{κ ρ:Ty}{l:List (List κ.V×ρ.V)}{ln:Option (Int×Nat)}{i j:Nat}{y:List κ.V×ρ.V}(hy:l[i]?=some y)(h1:1<=j)(h2:j<1+ρ.size):(jB (1+ρ.size) (b8 eQ l) ln)[i*(1+ρ.size)+j]?=((aR ρ y.2)[j-1]?).map λt=>.eZ (.t t):=by
 have hg:=Ui (f:=eQ) Gm l i j y hy h2;have:(eQ y)[j]?=((aR ρ y.2)[j-1]?).map λt=>.eZ (.t t):=by
  obtain⟨j',rfl⟩:∃j',j=j'+1:=⟨j-1,by omega⟩
  unfold eQ;rw[List.getElem?_cons_succ,cY];rfl
 rw[this]at hg;unfold jB;split
 .exact hg
 .rw[List.getElem?_set_ne (aFZ h1 h2)];exact hg
theorem aYc{κ ρ:Ty}{l:List (List κ.V×ρ.V)}{ln:Option (Int×Nat)}{i j:Nat}{y:List κ.V×ρ.V}(hy:l[i]?=some y)(h1:1<=j){A B E:List Tree}(he:aR ρ y.2=A++E++B)(hA:A.length=j-1):
    (((jB (1+ρ.size) (b8 eQ l) ln).map NC.tell).drop (i*(1+ρ.size)+j)).take E.length=E.map .t:=by
 have hsz:(aR ρ y.2).length=ρ.size:=dB ρ y.2;have hl2:A.length+E.length+B.length=ρ.size:=by rw[he]at hsz;simp at hsz;omega
 apply List.ext_getElem?;intro p;rw[eN,cY];by_cases hp:p<E.length
 .rw[aJ hp,oC,cY,BV,aYb hy (by omega) (by omega),he,fU,eS (by omega),dJ (by omega),show j+p-1-A.length=p by omega,Option.map_map]
  rfl
 .rw[aH hp,List.getElem?_eq_none (by omega)]
  rfl
theorem aY7{t:TypeId}{a:X}{k:X->O}(h:UJ c σ t a k=some r):∃y,k y=some r/\(a.pl=true->y.pl=true\/∃q off,a = .ref q off)/\∀{x:Operand},o.op = .load t x->σ.den.ev x=some a.D->aZ c.P o σ.den fr y.D []:=by
 unfold UJ at h;split at h
 case h_2=>cases h
 rename_i rw m hrw hm;split at h
 .rename_i q off
  split at h
  .rename_i e xs hq
   have hq':=dI hq;split at h
   .split at h
    .rename_i hb
     have hb:=bF hb;refine⟨_,h,λ_=>.inr ⟨q,off,rfl⟩,λho hx=>?_⟩;unfold X.D;rw[fC];refine US hrw hm ho hx hq' ?_ (by rw[cW];exact hb);show(((xs.map X.D).drop off).take m)=_;rw[Fo,Gg,a1i,a1j]
    .cases h
   .obtain⟨y,hy,h⟩:=bD h
    refine⟨y,h,λ_=>.inr ⟨q,off,rfl⟩,λho hx=>G2 hrw ho hx hq' ?_⟩;show(xs.map X.D)[off]?=_;rw[cY,hy];rfl
  .cases h
 .rename_i q i j s
  split at h
  .rename_i e τ l st hq
   have hq':=dI hq;split at h
   .rename_i hb
    have hb:=bF hb;subst hb;obtain⟨y,hy,h⟩:=mQ h;obtain⟨τ',y',A,B,h,h2,h3,h4⟩:=Gs _ _ _ _ _ _ h;obtain⟨A',B',g1,g2⟩:=BG (f:=aR τ) (λx=>dB τ x) hy;have hcells:(XO.row e τ l st).A.cells=((A'++A)++aR τ' y'++(B++B')).map .t:=by
     show(l.flatMap (aR τ)).map D.t=_;rw[g1,h2];simp
    have hlen:(A'++A).length=i*τ.size+j:=by rw[cP,g2,h3]
    split at h
    .refine⟨_,h,λ_=>.inl rfl,λho hx=>?_⟩
     unfold X.D;rw[fC,Df];refine US hrw hm ho hx hq' ?_ (by rw[cW,dB,h4]);rw[hcells,fO,fO,fU,aGw (by rw[cW];omega),fK (by rw[cW];omega),fR,aGr (by rw[cW,dB,h4];exact cQ _),oB (by rw[cW,dB,h4];exact cQ _)]
    .have h1:Ty.one τ'=true:=by assumption
     refine⟨_,h,λ_=>.inl rfl,λho hx=>G2 hrw ho hx hq' ?_⟩;rw[hcells,fO,fO,toT h1,fU,eS (by rw[cW];omega),cW,hlen,aGj];rfl
    .cases h
   .cases h
  .rename_i e e' τ l hq
   have hq':=dI hq;split at h
   .rename_i hb
    rw[bM]at hb;have hb1:=bF hb.1;have hb2:=bF hb.2;subst hb1 hb2;obtain⟨y,hy,h⟩:=mQ h;refine⟨_,h,λ_=>.inl rfl,λho hx=>?_⟩;have hx':σ.den.ev _=some (.ref q i):=hx.trans (by show some (D.ref q (i*1+0))=_;rw[jZ,iU]);exact aXo hrw ho hx' hq' (GV hy)
   .cases h
  .rename_i e e' κ' ρ l ln hq
   have hq':=dI hq;split at h
   .rename_i hb
    have hb:=bF hb;subst hb;split at h
    .rename_i hj
     have hj:=bF hj;subst hj;split at h
     .rename_i i' q'
      obtain⟨hi,h⟩:=fH h;have hi:=cT hi;subst hi;obtain⟨y,hy,h⟩:=mQ h;refine⟨_,h,λ_=>.inl rfl,λho hx=>G2 hrw ho hx hq' ?_⟩;have hlt:=Ny (ρ:=ρ) (l:=l) (j:=0) (bU.1 hy).1 (by omega);show((jB (1+ρ.size) (b8 eQ l) (some (i',q'))).map NC.tell)[i'.toNat*(1+ρ.size)+0]?=some (.own q');rw[iU]at hlt ⊢;unfold jB;rw[cY,List.getElem?_set_self hlt];rfl
     .cases h
    .rename_i hj
     have hj0:j≠0:=λe=>by subst e;cases hj
     obtain⟨y,hy,h⟩:=mQ h;obtain⟨τ',y',A,B,h,h2,h3,h4⟩:=Gs _ _ _ _ _ _ h;have hcut:=aYc (ln:=ln) hy (by omega) h2 h3;rw[dB,<-h4]at hcut;split at h
     .refine⟨_,h,λ_=>.inl rfl,λho hx=>?_⟩
      unfold X.D;rw[fC,Df];exact US hrw hm ho hx hq' hcut (by rw[cW,dB,h4])
     .have h1:Ty.one τ'=true:=by assumption
      refine⟨_,h,λ_=>.inl rfl,λho hx=>G2 hrw ho hx hq' ?_⟩;have:=aY (λl=>l[0]?) hcut;simp only[eN,oC,iU]at this;rw[aJ (by rw[h4,aW0 h1];omega),toT h1]at this;exact this
     .cases h
   .cases h
  .cases h
 .rename_i q i j
  split at h
  .rename_i e e' τ l hq
   have hq':=dI hq;split at h
   .rename_i h1
    obtain⟨y,hy,h⟩:=mQ h;obtain⟨z,hz,h⟩:=mQ h;refine⟨_,h,λ_=>.inl rfl,λho hx=>?_⟩;rw[o8 h1];exact aXn hrw ho hx hq' (GV hy) (by show(b8 (aR τ) y)[j]?=_;rw[Nj h1,cY,hz];rfl)
   .cases h
  .cases h
 .rename_i τ y j
  obtain⟨τ',y',A,B,h,h2,h3,h4⟩:=Gs _ _ _ _ _ _ h;split at h
  .refine⟨_,h,λ_=>.inl rfl,λho hx=>?_⟩
   unfold X.D;rw[fC,Df];refine lpn hrw hm ho hx ?_ (by rw[dB,h4]);rw[h2,fU,aGw (by omega),fK (by omega),fR,aGr (by rw[dB,h4];exact cQ _),oB (by rw[dB,h4];exact cQ _)]
  .have h1:Ty.one τ'=true:=by assumption
   refine⟨_,h,λ_=>.inl rfl,λho hx=>?_⟩;rw[o8 h1];refine lp1 hrw ho hx ?_;rw[h2,Gc h1,fU,eS (by omega),h3,aGj];rfl
  .cases h
 .cases h
theorem TH{α:Type}{A B new:List α}{j:Nat}(h:A.length<=j):c8 (A++B) j new=A++c8 B (j-A.length) new:=by
 simp only[c8];rw[a1d,a1r,oB h,fK (by omega),fR,show j+new.length-A.length=j-A.length+new.length by omega];simp
theorem TI{α:Type}{A B new:List α}{j:Nat}(h:j+new.length<=A.length):c8 (A++B) j new=c8 A j new++B:=by
 simp only[c8];rw[aGr (by omega),aGw h];simp
theorem Ms{H:Nat->Option aQ}:∀(τ:Ty)(x:τ.V)(j m:Nat)(xs:List X)(k:τ.V->O),setAt τ x j m xs k=some r->∃(y:τ.V)(new:List Tree),k y=some r/\dL H (xs.map X.D) (new.map .t)/\j+new.length<=τ.size/\aR τ y=c8 (aR τ x) j new
 |.pr a b,x,j,m,xs,k,h=>by
   unfold setAt at h;split at h
   .rename_i hb
    rw[bM]at hb;have hj:=bF hb.1;subst hj;obtain⟨y,hy,h⟩:=bD h;refine⟨y,aR _ y,h,oY hy,by rw[dB];omega,?_⟩;simp[c8,dB,fK]
   .split at h
    .rename_i hlt
     have hlt:j<a.size:=fQ hlt;obtain⟨y,new,h1,h2,h3,h4⟩:=Ms (H:=H) a x.1 j m xs (λy=>k (y,x.2)) h;refine⟨(y,x.2),new,h1,h2,by simp only[Ty.size];omega,?_⟩;show aR a y++aR b x.2=c8 (aR a x.1++aR b x.2) j new;have hA:=dB a x.1;rw[h4,TI (by omega)]
    .rename_i hlt
     have hge:a.size<=j:=Nat.le_of_not_lt λhj=>by
      have:Nat.blt j a.size=true:=V3 hj;rw[this]at hlt;cases hlt
     obtain⟨y,new,h1,h2,h3,h4⟩:=Ms (H:=H) b x.2 (j-a.size) m xs (λy=>k (x.1,y)) h;refine⟨(x.1,y),new,h1,h2,by simp only[Ty.size];omega,?_⟩;show aR a x.1++aR b y=c8 (aR a x.1++aR b x.2) j new;have hA:=dB a x.1;rw[h4,TH (by omega),hA]
 |.ex,x,j,m,xs,k,h=>by
   unfold setAt at h;split at h
   .obtain⟨y,hy,h⟩:=bD h
    refine⟨y,aR _ y,h,oY hy,by rw[dB];omega,?_⟩;have h1:=dB .ex x;have h2:=dB .ex y;simp only[c8,Gz,fR,eD];rw[fK (by omega),nB]
   .cases h
 |.i a,x,j,m,xs,k,h=>by
   unfold setAt at h;split at h
   .rename_i hb
    rw[bM]at hb;have hj:=bF hb.1;subst hj;obtain⟨y,hy,h⟩:=bD h;exact⟨y,aR _ y,h,oY hy,by rw[dB];omega,rfl⟩
   .cases h
 |.un,x,j,m,xs,k,h=>by unfold setAt at h;cases h
 |.u8,x,j,m,xs,k,h=>by
   unfold setAt at h;split at h
   .rename_i hb
    rw[bM]at hb;have hj:=bF hb.1;subst hj;obtain⟨y,hy,h⟩:=bD h;exact⟨y,aR _ y,h,oY hy,by rw[dB];omega,rfl⟩
   .cases h
 |.bo,x,j,m,xs,k,h=>by
   unfold setAt at h;split at h
   .rename_i hb
    rw[bM]at hb;have hj:=bF hb.1;subst hj;obtain⟨y,hy,h⟩:=bD h;exact⟨y,aR _ y,h,oY hy,by rw[dB];omega,rfl⟩
   .cases h
 |.tx,x,j,m,xs,k,h=>by
   unfold setAt at h;split at h
   .rename_i hb
    rw[bM]at hb;have hj:=bF hb.1;subst hj;obtain⟨y,hy,h⟩:=bD h;exact⟨y,aR _ y,h,oY hy,by rw[dB];omega,rfl⟩
   .cases h
 |.sl a,x,j,m,xs,k,h=>by
   unfold setAt at h;split at h
   .rename_i hb
    rw[bM]at hb;have hj:=bF hb.1;subst hj;obtain⟨y,hy,h⟩:=bD h;exact⟨y,aR _ y,h,oY hy,by rw[dB];omega,rfl⟩
   .cases h
theorem U7(σ:Vw)(q:Nat):σ.iJ (.own q)=match σ.H q with|some (.row _ τ l true)=>.e (.sl τ) l|_=>.own q:=rfl
theorem a03{x:X}{new:List Tree}(hv:x.val=true)(h:dL σ.den.H ((σ.lD x).cells.map X.D) (new.map .t))(hl:x.cells.length=new.length):∃d,bV σ.den.H x.D d/\d.cells=new.map .t/\d.val=true:=by
 have one:x.cells=[x]->(σ.lD x).cells=[σ.iJ x]->∃d,bV σ.den.H x.D d/\d.cells=new.map .t/\d.val=true:=λe1 e2=>by
  rw[e1]at hl;rw[e2]at h
  match new,hl,h with
  |[t],_,h=>cases h with|cons h _=>exact⟨.t t,(w9 σ x).trans h,rfl,rfl⟩
 cases x with
 |agg xs=>
   refine⟨.agg (new.map .t),?_,rfl,rfl⟩;have e:(σ.lD (.agg xs)).cells.map X.D=(xs.map σ.iJ).map X.D:=rfl;rw[e]at h;have hw:dL σ.den.H (xs.map X.D) ((xs.map σ.iJ).map X.D):=by
    rw[List.map_map];exact dL.of_map (f:=X.D) (g:=X.D ∘ σ.iJ) λx _=>w9 σ x
   unfold X.D;rw[fC];exact bV.agg (hw.trans h)
 |aU xs=>cases hv
 |eP a b c=>cases hv
 |bit a b=>cases hv
 |own q=>
   refine one rfl ?_;show(σ.iJ (.own q)).cells=_;rw[U7];split <;> rfl
 |e τ y=>exact one rfl rfl
 |bI=>exact one rfl rfl
 |ref a b=>exact one rfl rfl
 |rr a b d e=>exact one rfl rfl
 |pt a b d=>exact one rfl rfl
 |fn a b=>exact one rfl rfl
 |v w=>exact one rfl rfl
 |sub a b=>exact one rfl rfl
 |gY a b d=>exact one rfl rfl
 |vw a b d e=>exact one rfl rfl
 |via a b=>exact one rfl rfl
 |iP v=>exact one rfl rfl
theorem aFq{α:Type}{f:α->List Tree}{s:Nat}(hf:∀x,(f x).length=s){l:List α}{i:Nat}{y z:α}{A B new:List Tree}{j:Nat}(hl:l.flatMap f=A++f y++B)(hA:A.length=i*s)(hi:i<l.length)(hz:f z=c8 (f y) j new)(hn:j+new.length<=s):
    (l.set i z).flatMap f=c8 (l.flatMap f) (i*s+j) new:=by
 have h1:=aFr hf (x:=z) (l:=l) (i:=i) hi;rw[<-h1,hl,hz];have hy:=hf y;have hs:(c8 (f y) j new).length=s:=by rw[wG (by omega),hy]
 rw[fU];have e1:c8 (A++(f y++B)) (i*s) (c8 (f y) j new)=A++(c8 (f y) 0 (c8 (f y) j new)++B):=by
  rw[TH (by omega),hA,aGj,TI (by omega)]
 have e2:c8 (A++(f y++B)) (i*s+j) new=A++(c8 (f y) j new++B):=by
  rw[TH (by omega),hA,show i*s+j-i*s=j by omega,TI (by omega)]
 rw[e1,e2]
 congr 2
 show(f y).take 0++c8 (f y) j new++(f y).drop (0+(c8 (f y) j new).length)=_;rw[Gz,fR,fK (by omega),nB]
theorem a1C(l:List Tree):xJ (l.map .t)=some l:=by
 induction l with
 |nil=>rfl
 |cons x l ih=>simp[xJ,ih]
theorem aXH{x:X}{new:List Tree}(hv:x.val=true)(hna:∀xs,x≠.agg xs)(h:dL σ.den.H ((σ.lD x).cells.map X.D) (new.map .t)):∃t,new=[t]/\bV σ.den.H x.D (.t t):=by
 have one:(σ.lD x).cells=[σ.iJ x]->∃t,new=[t]/\bV σ.den.H x.D (.t t):=λe2=>by
  rw[e2]at h
  match new,h with
  |[t],h=>cases h with|cons h _=>exact⟨t,rfl,(w9 σ x).trans h⟩
  |[],h=>cases h
  |_::_::_,h=>cases h with|cons _ r=>cases r
 cases x with
 |agg xs=>exact absurd rfl (hna xs)
 |aU xs=>cases hv
 |eP a b c=>cases hv
 |bit a b=>cases hv
 |own q=>
   refine one ?_;show(σ.iJ (.own q)).cells=_;rw[U7];split <;> rfl
 |e τ y=>exact one rfl
 |bI=>exact one rfl
 |ref a b=>exact one rfl
 |rr a b d e=>exact one rfl
 |pt a b d=>exact one rfl
 |fn a b=>exact one rfl
 |v w=>exact one rfl
 |sub a b=>exact one rfl
 |gY a b d=>exact one rfl
 |vw a b d e=>exact one rfl
 |via a b=>exact one rfl
 |iP v=>exact one rfl
theorem aWV{α:Type}{l:List α}{j:Nat}{x:α}(h:j<l.length):c8 l j [x]=l.set j x:=by
 rw[List.set_eq_take_append_cons_drop,aJ h];simp[c8]
theorem aWQ{t:TypeId}{a y:X}{k:X->Wx->O}(h:Sv c σ t a y k=some r):∃W,k (.aU []) W=some r/\∀{x z:Operand},o.op = .store t x z->σ.den.ev x=some a.D->σ.den.ev z=some y.D->y.val=true->aZ c.P o σ.den fr (.aU []) (WA W):=by
 unfold Sv at h;split at h
 case h_2=>cases h
 rename_i m hm;split at h
 case h_2=>cases h
 rename_i hb;rw[bM]at hb;have hb1:=bF hb.1;have hb2:0<m:=fQ hb.2;split at h
 .rename_i q off
  split at h
  .rename_i e xs hq
   have hq':=dI hq;split at h
   .rename_i hle
    have hle:=fQ hle;refine⟨_,h,λho hx hz hv=>?_⟩;have hc:=Nx hv;have hp:n3 xs off y.cells=c8 xs off y.cells:=NJ _ _ _ (by omega);refine Ti (d:=y.D) (ob':=(XO.box e (n3 xs off y.cells)).A) ho ?_ hx (.ev hz) (Fg hv) hq' ?_ ?_
    .rw[hc,cW,hb1];exact hm
    .show(if off+y.D.cells.length<=(xs.map X.D).length then _ else none)=_
     rw[hc,cW,cW,aJ (by omega),hp];simp only[XO.A,TG]
    .rw[hc,cW];omega
   .cases h
  .cases h
 .rename_i q i j s
  split at h
  .rename_i e τ l hq
   have hq':=dI hq;split at h
   .rename_i hs
    have hs:=bF hs;subst hs;obtain⟨z0,hz0,h⟩:=mQ h;obtain⟨z1,new,h,h2,h3,h4⟩:=Ms (H:=σ.den.H) τ z0 j m (σ.lD y).cells _ h;refine⟨_,h,λho hx hz hv=>?_⟩;have hgl:(σ.lD y).cells.length=y.cells.length:=by
     have e1:=(dL.len h2);cases y with
     |agg xs=>show(xs.map σ.iJ).length=xs.length;simp
     |own q=>
       show(σ.iJ (.own q)).cells.length=1;rw[U7];split <;> rfl
     |_=>rfl
    have hnl:y.cells.length=new.length:=by
     have:=h2.len;simp only[cW]at this;omega
    obtain⟨d,hw,hdc,hdv⟩:=a03 hv h2 hnl;obtain⟨A,B,g1,g2⟩:=BG (f:=aR τ) (λx=>dB τ x) hz0;have hi:i<l.length:=(bU.1 hz0).1;have hset:=aFq (f:=aR τ) (λx=>dB τ x) (z:=z1) g1 g2 hi h4 h3;have hfl:=o7 l;have hbound:i*τ.size+j+new.length<=l.length*τ.size:=by
     have:(i+1)*τ.size<=l.length*τ.size:=kV _ hi;rw[iL,aGk]at this;omega
    refine Ti (d:=d) (ob':=(XO.row e τ (l.set i z1) false).A) ho ?_ hx (.wk hz hw) hdv hq' ?_ ?_
    .rw[hdc,cW,<-hnl,hb1];exact hm
    .rw[hdc]
     show(if i*τ.size+j+(new.map D.t).length<=(l.flatMap (aR τ)).length/\false=false then(xJ (new.map D.t)).map _ else none)=_;rw[cW,aJ ⟨by omega,rfl⟩,a1C];simp only[iT,XO.A,hset,gF]
    .rw[hdc,cW];omega
   .cases h
  .rename_i e e' κ' ρ l ln hq
   have hq':=dI hq;split at h
   .rename_i hs
    rw[bM]at hs;have hs1:=bF hs.1;have hs2:=bF hs.2;subst hs1 hs2;split at h
    .rename_i hj
     have hj:=bF hj;subst hj;split at h
     .rename_i q' i' q0
      obtain⟨hi,h⟩:=fH h;have hi:=cT hi;subst hi;obtain⟨z0,hz0,h⟩:=mQ h;refine⟨_,h,λho hx hz hv=>?_⟩;have hlt:=Ny (ρ:=ρ) (l:=l) (j:=0) (bU.1 hz0).1 (by omega);rw[iU]at hlt;have hx':σ.den.ev _=some (.ref q (i'.toNat*(1+ρ.size))):=hx.trans (by show some (D.ref q (i'.toNat*(1+ρ.size)+0))=_;rw[iU]);have:=aEi (P:=c.P) (fr:=fr) hm ho hx' hz bV.refl (λν nm w G v h=>h.Th rfl) hq' (by show _<(jB _ _ _).length;rw[N5];exact hlt);have hA:(XO.bE e e' κ' ρ l (some (i',q'))).A = .bE e e' (1+ρ.size) κ'.size l.length ((jB (1+ρ.size) (b8 eQ l) (some (i',q0))).set (i'.toNat*(1+ρ.size)) (.eZ (.own q'))):=by
       show aQ.bE _ _ _ _ _ ((b8 eQ l).set _ _)=aQ.bE _ _ _ _ _ (((b8 eQ l).set _ _).set _ _);rw[List.set_set]
      show aZ c.P o σ.den fr (.aU []) [(q,some (XO.bE e e' κ' ρ l (some (i',q'))).A)];rw[hA];exact this
     .cases h
    .rename_i hj
     have hj0:j≠0:=λe=>by subst e;cases hj
     split at h
     .cases h
     .rename_i hna
      obtain⟨z0,hz0,h⟩:=mQ h;obtain⟨z1,new,h,h2,h3,h4⟩:=Ms (H:=σ.den.H) ρ z0.2 (j-1) 1 (σ.lD y).cells _ h;refine⟨_,h,λho hx hz hv=>?_⟩;obtain⟨t,rfl,hw⟩:=aXH hv (λxs e=>hna xs e) h2;have hj3:j<1+ρ.size:=by simp at h3;omega
      have hi:i<l.length:=(bU.1 hz0).1;have hlt:=Ny (ρ:=ρ) (l:=l) (j:=j) hi hj3;have:=aEi (P:=c.P) (fr:=fr) hm ho hx hz hw (λν nm w G v h=>h.Th rfl) hq' (by show _<(jB _ _ _).length;rw[N5];exact hlt);have hset:=Uh (f:=eQ) Gm l i j z0 (z0.1,z1) (.eZ (.t t)) hz0 hj3 (by
       obtain⟨j',rfl⟩:∃j',j=j'+1:=⟨j-1,by omega⟩
       unfold eQ;rw[List.set_cons_succ]
       congr 1
       rw[h4,aWV (by rw[dB];omega),aGu];rfl)
      have hA:(XO.bE e e' κ' ρ (l.set i (z0.1,z1)) ln).A = .bE e e' (1+ρ.size) κ'.size l.length ((jB (1+ρ.size) (b8 eQ l) ln).set (i*(1+ρ.size)+j) (.eZ (.t t))):=by
       show aQ.bE _ _ _ _ (l.set i (z0.1,z1)).length (jB _ (b8 eQ (l.set i (z0.1,z1))) ln)=_;rw[gF,hset]
       congr 1
       unfold jB;split
       .rfl
       .exact List.set_comm _ _ (λe=>aFZ (by omega) hj3 e.symm)
      show aZ c.P o σ.den fr (.aU []) [(q,some (XO.bE e e' κ' ρ (l.set i (z0.1,z1)) ln).A)];rw[hA];exact this
   .cases h
  .cases h
 .rename_i q i j
  split at h
  .rename_i e e' τ l hq
   have hq':=dI hq;split at h
   .rename_i τ' z
    split at h
    .rename_i he _
     have he':=he;subst he';split at h
     .rename_i h1
      obtain⟨y,hy,h⟩:=mQ h;obtain⟨z0,hz0,h⟩:=mQ h;refine⟨_,h,λho hx hz hv=>?_⟩;rw[o8 h1]at hz;have hm1:m=1:=hb1.symm;subst hm1;have:=aXM (P:=c.P) (fr:=fr) hm ho hx hz hq' (GV hy) (by show j<(b8 (aR τ') y).length;rw[Nj h1,cW];exact(bU.1 hz0).1);have hA:(XO.nest e e' τ' (l.set i (y.set j (jD he z)))).A = .nest e e' τ'.size ((l.map λr=>(dN r,b8 (aR τ') r)).set i (dN y,(b8 (aR τ') y).set j (n9 τ' z))):=by
       show aQ.nest e e' τ'.size ((l.set i (y.set j z)).map λr=>(dN r,b8 (aR τ') r))=_;rw[aGu,gF,Nj h1,Nj h1,aGu]
      show aZ c.P o σ.den fr (.aU []) [(q,some (XO.nest e e' τ' (l.set i (y.set j (jD he z)))).A)];rw[hA];exact this
     .cases h
    .cases h
   .cases h
  .cases h
 .cases h
end
end Go.Ax
/- Operations: addresses, parts, rows that are made. -/
namespace Go.Ax
open aB
open Go.RowKit Go.Ab
theorem Gt{x:X}{k:Int->O}{r:aM}(h:asInt x k=some r):∃ik n,x.D = .t (.v (.int ik n))/\k n=some r:=by
 unfold asInt at h;split at h
 .exact⟨_,_,rfl,h⟩
 .exact⟨_,_,rfl,h⟩
 .cases h
theorem aFX{τ:Ty}(h1:τ.one=true):∀{xs:List X}{l:List τ.V},N4 τ xs=some l->xs.length=l.length/\∀(H:Nat->Option aQ)(i:Nat)(y:τ.V),l[i]?=some y->∃x,xs[i]?=some x/\bV H x.D (X.e τ y).D
 |[],l,h=>by cases h;exact⟨rfl,λH i y h=>by simp at h⟩
 |x::r,l,h=>by
   unfold N4 at h;split at h
   .rename_i y hy
    split at h
    .rename_i l' hl
     cases h;obtain⟨e1,e2⟩:=aFX h1 hl;refine⟨by simp[e1],λH i z hz=>?_⟩;cases i with
     |zero=>simp at hz;subst hz;exact⟨x,rfl,by rw[o8 h1];exact oU h1 hy⟩
     |succ i=>exact e2 H i z (by simpa using hz)
    .cases h
   .cases h
section
variable{P:Program}{o:Oper}{s:St}{fr:Nat}
theorem aXp{t e:TypeId}{x y:Operand}{m:Nat}{ds:List D}{ik:IntKind}{n:Int}{d:D}(hu:P.underlying t=some (.array m e))(he:jG P e=some false)(hs:fL P e=some 1)(ho:o.op = .index t x y)(hx:s.ev x=some (.agg ds))(hy:s.ev y=some (.t (.v (.int ik n))))(hl:ds.length=m)(h0:0<=n)(hd:ds[n.toNat]?=some d):aZ P o s fr d []:=
 dF λ_ _ _ _ w a _ _ hev=>by
  have h1:=hev x _ hx;have h2:=cC (hev y _ hy);obtain⟨v,hv⟩:∃v,a.eval x=v:=⟨_,rfl⟩
  rw[hv]at h1;cases h1 with
  | @agg vs _ hsz hr h1c=>
    have hn:n.toNat<vs.size:=by rw[hsz];exact(bU.1 hd).1
    refine⟨vs[n.toNat],?_,hr _ _ d (j4 hn) hd⟩;obtain⟨dsc,g1,g2⟩:=nY he;obtain⟨inf,hinf,hsz1⟩:=cR.1 hs;have hagg:(isAgg e).run P w = .ok false w:=by
     unfold isAgg;rw[Sem.run_bind,run_underlying g1 w];cases dsc <;> simp_all [TypeDesc.isRow]
    have hlt:n<(m:Int):=by omega
    unfold execOp;rw[ho];simp[hv,h2,Instr.index,asIntOf,run_underlying hu,h0,hlt,sizeOf,typeInfo,hinf,hsz1,part,hagg,hn]
theorem aXy{t:TypeId}{x:Operand}{f:Nat}{fs:Array Field}{fl:Field}{ds:List D}{d:D}(hu:P.underlying t=some (.struct fs))(hf:fs[f]?=some fl)(he:jG P fl.type=some false)(ho:o.op = .field t x f)(hx:s.ev x=some (.agg ds))(hd:ds[fl.offset]?=some d):aZ P o s fr d []:=
 dF λ_ _ _ _ w a _ _ hev=>by
  have h1:=hev x _ hx;obtain⟨v,hv⟩:∃v,a.eval x=v:=⟨_,rfl⟩
  rw[hv]at h1;cases h1 with
  | @agg vs _ hsz hr h1c=>
    have hn:fl.offset<vs.size:=by rw[hsz];exact(bU.1 hd).1
    refine⟨vs[fl.offset],?_,hr _ _ d (j4 hn) hd⟩;obtain⟨dsc,g1,g2⟩:=nY he;have hagg:(isAgg fl.type).run P w = .ok false w:=by
     unfold isAgg;rw[Sem.run_bind,run_underlying g1 w];cases dsc <;> simp_all [TypeDesc.isRow]
    unfold execOp;rw[ho];simp[hv,Instr.field,run_underlying hu,hf,part,asAgg,hagg,hn]
theorem aXx{t:TypeId}{x:Operand}{f m:Nat}{fs:Array Field}{fl:Field}{ds out:List D}(hu:P.underlying t=some (.struct fs))(hf:fs[f]?=some fl)(he:jG P fl.type=some true)(hm:fL P fl.type=some m)(ho:o.op = .field t x f)(hx:s.ev x=some (.agg ds))(hd:(ds.drop fl.offset).take m=out)(hl:out.length=m):aZ P o s fr (.agg out) []:=
 dF λ_ _ ν G w a _ _ hev=>by
  have h1:=hev x _ hx;obtain⟨v,hv⟩:∃v,a.eval x=v:=⟨_,rfl⟩
  rw[hv]at h1;cases h1 with
  | @agg vs _ hsz hr h1c=>
    have hlen:fl.offset+m<=vs.size\/m=0:=by
     rw[<-hd]at hl;simp at hl;omega
    refine⟨.agg (vs.extract fl.offset (fl.offset+m)),?_,.agg ?_ (λi u d hu' hd'=>?_) (λu hu'=>?_)⟩
    .obtain⟨dsc,g1,g2⟩:=nY he
     obtain⟨inf,hinf,hsz1⟩:=cR.1 hm;have hagg:(isAgg fl.type).run P w = .ok true w:=by
      unfold isAgg;rw[Sem.run_bind,run_underlying g1 w];cases dsc <;> simp_all [TypeDesc.isRow]
     unfold execOp;rw[ho];simp[hv,Instr.field,run_underlying hu,hf,part,asAgg,hagg,sizeOf,typeInfo,hinf,hsz1]
    .rw[hl];simp;omega
    .rw[<-hd,eN]at hd'
     split at hd'
     .rename_i hi
      rw[oC]at hd';rw[Array.getElem?_extract]at hu';split at hu'
      .exact hr _ u d hu' hd'
      .cases hu'
     .cases hd'
    .refine h1c u ?_
     rw[a2H]at hu';exact List.mem_of_mem_drop (List.mem_of_mem_take (by simpa[List.extract]using hu'))
end
theorem TF{τ:Ty}:∀(n:Nat)(σ:Ty)(y:σ.V)(l:List τ.V),mH τ n σ y=some l->aR σ y=l.flatMap (aR τ)
 |0,σ,y,l,h=>by unfold mH at h;cases h
 |1,σ,y,l,h=>by
   unfold mH at h;split at h
   .rename_i he _
    cases h;rw[gO,aGX,List.flatMap_nil,nB]
   .cases h
 |n+2,.pr a b,y,l,h=>by
   unfold mH at h;split at h
   .rename_i he _
    split at h
    .rename_i l' hl
     cases h;rw[gO,aGX,<-TF (n+1) b y.2 l' hl];rfl
    .cases h
   .cases h
 |n+2,.i _,y,l,h=>by unfold mH at h;cases h
 |n+2,.u8,y,l,h=>by unfold mH at h;cases h
 |n+2,.bo,y,l,h=>by unfold mH at h;cases h
 |n+2,.tx,y,l,h=>by unfold mH at h;cases h
 |n+2,.ex,y,l,h=>by unfold mH at h;cases h
 |n+2,.sl _,y,l,h=>by unfold mH at h;cases h
section
variable{c:Cx}{σ:Vw}{κ:Nat->Bool}{fr:Nat}{o:Oper}{r:aM}
theorem aYv{t:TypeId}{a x:X}{k:X->O}(h:U1 c σ t a x k=some r):∃y,k y=some r/\y.pl=true/\(σ.On->∀{xa xn:Operand},o.op = .indexAddr t xa xn->σ.den.ev xa=some a.D->σ.den.ev xn=some x.D->aZ c.P o σ.den fr y.D []):=by
 unfold U1 at h;replace h:=Gt h;obtain⟨ik,n,hx,h⟩:=h;split at h
 .rename_i τ l
  split at h
  .rename_i s hs
   split at h
   .rename_i hb
    have hb:=bF hb;subst hb;obtain⟨y,h1,h2⟩:=D2 h;refine⟨_,h1,rfl,λhon xa xn ho ha hn=>?_⟩;obtain⟨g1,g2⟩:=h2 hon.g;rw[hx]at hn;have hlt:n<(dN l:Nat):=by have:=(bU.1 g2).1;omega
    have:=aXs (P:=c.P) (fr:=fr) ho hs ha hn g1 hlt;obtain⟨A,B,e1,e2⟩:=BG (f:=aR τ) (λx=>dB τ x) g2;have e1':b8 (aR τ) l=A++aR τ y++B:=e1;rw[e1']at this;exact OK this (bV.ptr e2)
   .cases h
  .cases h
 .rename_i q
  split at h
  .rename_i e τ l st s hq hs
   split at h
   .rename_i hb
    have hb:=bF hb;subst hb;split at h
    .obtain⟨y,h1,h2⟩:=D2 h
     refine⟨_,h1,rfl,λhon xa xn ho ha hn=>?_⟩;obtain⟨g1,g2⟩:=h2 hon.g;rw[hx]at hn;have hlt:n<(l.length:Nat):=by have:=(bU.1 g2).1;omega
     have hq':σ.den.H q=some (.row e τ.size l.length (l.flatMap (aR τ)) true):=dI hq;have:=aEn (P:=c.P) (fr:=fr) ho hs ha hq' hn g1 hlt;obtain⟨A,B,e1,e2⟩:=BG (f:=aR τ) (λx=>dB τ x) g2;rw[e1]at hq';exact OK this (bV.aWl hq' e2)
    .obtain⟨h1,h2⟩:=mS h
     refine⟨_,h1,rfl,λhon xa xn ho ha hn=>?_⟩;obtain⟨g1,g2⟩:=cT (h2 hon.g);rw[hx]at hn;have hq':σ.den.H q=some (.row e τ.size l.length (l.flatMap (aR τ)) false):=dI hq;have:=aEn (P:=c.P) (fr:=fr) ho hs ha hq' hn g1 g2;exact this
   .cases h
  .rename_i e e' τ l s hq hs
   split at h
   .rename_i hb
    have hb:=bF hb;subst hb;obtain⟨hd,h⟩:=fH h;refine⟨_,h,rfl,λhon xa xn ho ha hn=>?_⟩;obtain⟨g1,g2⟩:=cT hd;rw[hx]at hn;have:=aXv (P:=c.P) (fr:=fr) hs ho ha (dI hq) hn g1 (by rw[cW];exact g2);have e:(X.rr q n.toNat 0 1).D = .ref q n.toNat:=by show D.ref q (n.toNat*1+0)=_;rw[jZ,iU]
    rw[e];exact this
   .cases h
  .rename_i e e' κ' ρ l ln s hq hs
   split at h
   .rename_i hb
    have hb:=bF hb;subst hb;obtain⟨h1,h2⟩:=mS h;refine⟨_,h1,rfl,λhon xa xn ho ha hn=>?_⟩;obtain⟨g1,g2⟩:=cT (h2 hon.g);rw[hx]at hn;exact aXt (P:=c.P) (fr:=fr) hs ho ha (dI hq) hn g1 g2
   .cases h
  .cases h
 .rename_i q i
  split at h
  .rename_i e e' τ l s hq hs
   split at h
   .rename_i hb
    have hb:=bF hb;subst hb;obtain⟨y,hy,h⟩:=mQ h;obtain⟨hd,h⟩:=fH h;refine⟨_,h,rfl,λhon xa xn ho ha hn=>?_⟩;obtain⟨g1,g2⟩:=cT hd;rw[hx]at hn;exact aXu (P:=c.P) (fr:=fr) hs ho ha (dI hq) (GV hy) hn g1 g2
   .cases h
  .cases h
 .rename_i q off
  split at h
  .rename_i m s hs
   split at h
   .rename_i hb
    obtain⟨g1,g2⟩:=cT hb;refine⟨_,h,rfl,λhon xa xn ho ha hn=>?_⟩;rw[hx]at hn;exact aEo ho hs ha hn g1 g2
   .cases h
  .cases h
 .rename_i ρ y0
  split at h
  .rename_i m0 e m s hu hs
   split at h
   .rename_i τ _
    split at h
    .rename_i l hl
     split at h
     .rename_i hb
      rw[bM]at hb;have hb1:=bF hb.1;have hb2:=bF hb.2;subst hb1;obtain⟨y,h1,h2⟩:=D2 h;refine⟨_,h1,rfl,λhon xa xn ho ha hn=>?_⟩;obtain⟨g1,g2⟩:=h2 hon.g;rw[hx]at hn;have hlt:n<(m:Nat):=by rw[<-hb2];have:=(bU.1 g2).1;omega
      have:=aXr (P:=c.P) (fr:=fr) ho hs ha hn g1 hlt;obtain⟨A,B,e1,e2⟩:=BG (f:=aR τ) (λx=>dB τ x) g2;rw[eD,TF _ _ _ _ hl,e1]at this;exact OK this (bV.ptr e2)
     .cases h
    .cases h
   .cases h
  .cases h
 .cases h
theorem aYt{t:TypeId}{a x:X}{k:X->O}(h:UZ c t (σ.g.map (·.2)) a x k=some r):∃y,k y=some r/\y.pl=true/\(σ.On->∀{xa xn:Operand},o.op = .index t xa xn->σ.den.ev xa=some a.D->σ.den.ev xn=some x.D->aZ c.P o σ.den fr y.D []):=by
 unfold UZ at h;replace h:=Gt h;obtain⟨ik,n,hx,h⟩:=h;split at h
 .rename_i l hu
  obtain⟨y,h1,h2⟩:=D2 h;refine⟨_,h1,rfl,λhon xa xn ho ha hn=>?_⟩;obtain⟨g1,g2⟩:=h2 hon.g;rw[hx]at hn;exact aXq hu ho ha hn g1 g2
 .rename_i m e τ y0 rs hu
  split at h
  .rename_i hb he hs
   rw[bM]at hb;obtain⟨hb1,hb2⟩:=hb;have hb2:=bF hb2;obtain⟨l,hl,h⟩:=bD h;obtain⟨y,h1,h2⟩:=D2 h;refine⟨_,h1,rfl,λhon xa xn ho ha hn=>?_⟩;obtain⟨g1,g2⟩:=h2 hon.g;rw[hx]at hn;obtain⟨e1,e2⟩:=aFX hb1 hl;obtain⟨x',hx',hw⟩:=e2 σ.den.H _ _ g2;have ha':σ.den.ev xa=some (.agg ((X.e τ y0::rs).map X.D)):=by rw[ha,X.D,fC]
   refine OK (aXp hu he hs ho ha' hn (by simp[hb2]) g1 (d:=x'.D) (by rw[cY,hx'];rfl)) hw
  .cases h
 .cases h
theorem aZq{t:TypeId}{f:Nat}{a:X}{k:X->O}(h:Uk c t f a k=some r):∃y,k y=some r/\y.pl=true/\(∀{xa:Operand},o.op = .fieldAddr t xa f->σ.den.ev xa=some a.D->aZ c.P o σ.den fr y.D []):=by
 unfold Uk at h;obtain⟨q,hq,h⟩:=bD h;split at h
 .exact⟨_,h,rfl,λho ha=>aEr ho hq ha⟩
 .refine⟨_,h,rfl,λho ha=>?_⟩
  have:=aEr (P:=c.P) (fr:=fr) ho hq ha
  rwa [BV]at this
 .exact⟨_,h,rfl,λho ha=>aXw ho hq ha⟩
 .cases h
theorem aZp{t:TypeId}{f:Nat}{a:X}{k:X->O}(h:Uj c t f a k=some r):∃y,k y=some r/\(∀{xa:Operand},o.op = .field t xa f->σ.den.ev xa=some a.D->aZ c.P o σ.den fr y.D []):=by
 unfold Uj at h;split at h
 .rename_i fs xs hu
  split at h
  .rename_i fl hf
   split at h
   .rename_i rw m hr hm
    split at h
    .split at h
     .rename_i hb
      have hb:=bF hb;refine⟨_,h,λ{xa} ho ha=>?_⟩;have ha':σ.den.ev xa=some (.agg (xs.map X.D)):=by rw[ha,X.D,fC]
      rw[X.D,fC];refine aXx hu hf hr hm ho ha' ?_ (by rw[cW];exact hb);rw[Fo,Gg,a1i,a1j]
     .cases h
    .obtain⟨y,hy,h⟩:=bD h
     refine⟨y,h,λ{xa} ho ha=>?_⟩;have ha':σ.den.ev xa=some (.agg (xs.map X.D)):=by rw[ha,X.D,fC]
     exact aXy hu hf hr ho ha' (by rw[cY,hy];rfl)
   .cases h
  .cases h
 .cases h
end
end Go.Ax
/- Operations: variables, literals, rows, slices, conversions. -/
namespace Go.Ax
open aB
open Go.RowKit Go.Ab
theorem aFF(v:Value)(h1:∀vs,v≠.tuple vs)(h2:∀cs,v≠.agg cs):(mK v).D = .t (.v v):=by
 unfold mK;split
 .split
  .exact aDv _ (cT ‹_›)
  .rfl
 all_goals rfl
theorem GQ{z:Value}{x:X}(h:qX z=some x):xE z=true/\x.D=oW z/\x.cells.map X.D=z.cells.toList.map (λu=>D.t (.v u))/\(∀u∈z.cells.toList,u.oneCell'=true)/\(oW z).cells=x.cells.map X.D/\x.val=true:=by
 have hev:=Tn (σ:=⟨[],[],0⟩) h;unfold St.ev at hev;unfold qX at h;split at h
 .rename_i cs
  split at h
  .rename_i ha
   cases h;have hmem:∀u∈cs.toList,u.oneCell'=true:=List.all_eq_true.1 ha
   have hc:(cs.toList.map mK).map X.D=cs.toList.map (λu=>D.t (.v u)):=by
    rw[List.map_map];refine List.map_congr_left λv hv=>aFF v (λvs e=>?_) (λcs' e=>?_)
    .have:=hmem v hv;rw[e]at this;cases this
    .have:=hmem v hv;rw[e]at this;cases this
   refine⟨ha,?_,hc,hmem,hc.symm,rfl⟩;unfold X.D;rw[fC,hc];rfl
  .cases h
 .cases h
 .rename_i h2 h3
  cases h;have hD:=aFF z (λvs e=>h3 vs e) (λcs e=>h2 cs e);have hone:z.oneCell'=true:=by
   cases z with
   |agg cs=>exact absurd rfl (h2 cs)
   |tuple vs=>exact absurd rfl (h3 vs)
   |_=>rfl
  have hcz:z.cells.toList=[z]:=by rw[Gl hone]
  have hov:oW z = .t (.v z):=by
   cases z with
   |agg cs=>exact absurd rfl (h2 cs)
   |_=>rfl
  have hxc:(mK z).cells=[mK z]:=by
   unfold mK;split
   .split <;> rfl
   all_goals rfl
  refine⟨?_,by rw[hD,hov],by rw[hxc,hcz];simp[hD],λu hu=>?_,by rw[hov,hxc];simp[hD,D.cells],?_⟩
  .cases z with
   |agg cs=>exact absurd rfl (h2 cs)
   |tuple vs=>exact absurd rfl (h3 vs)
   |_=>rfl
  .rw[hcz]at hu;rw[List.mem_singleton.1 hu];exact hone
  .unfold mK
   split
   .split <;> rfl
   all_goals rfl
theorem Vk{P:Program}{t:TypeId}{x:X}(h:rM P t=some x):∃z,(P.info? t).bind (·.zero)=some z/\qX z=some x:=by
 unfold rM at h;split at h
 .exact⟨_,‹_›,h⟩
 .cases h
theorem aFQ{α β:Type}{f:α->Option β}:∀{l:List α}{r:List β},wM f l=some r->l.mapM f=some r
 |[],r,h=>by cases h;rfl
 |x::l,r,h=>by
   unfold wM at h;split at h
   .rename_i y hy
    split at h
    .rename_i r' hr
     cases h;simp[List.mapM_cons,hy,aFQ hr]
    .cases h
   .cases h
theorem a0h{P:Program}{t:TypeId}{z:Value}{x:X}{pl:List (Nat×Nat)}(hz:(P.info? t).bind (·.zero)=some z)(hx:qX z=some x)(hp:places P t=some pl):aHG P t z.cells.toList pl:=by
 obtain⟨_,_,_,h1,_⟩:=GQ hx;refine⟨h1,?_⟩;obtain⟨i,hi,hz'⟩:=xN.1 hz;unfold places at hp;split at hp
 .rename_i fs hu
  have hm:=aFQ hp;have hm':fs.toList.mapM (λf=>(P.info? f.type).map λi=>(f.offset,i.size))=some pl:=by
   rw[<-hm]
   congr 1
   funext f
   unfold fL;cases P.info? f.type <;> rfl
  refine⟨λi=>pl.toArray[i]?,λi p h=>by simpa using h,λparts=>?_⟩;unfold Program.built;simp only[hi,hu,hz',hm']
 .rename_i n e hu
  split at hp
  .rename_i m hm
   cases hp;unfold fL at hm;obtain⟨ie,hie,rfl⟩:=cR.1 hm;refine⟨λi=>some (i*ie.size,ie.size),λi p h=>?_,λparts=>?_⟩
   .rw[cY]at h
    obtain⟨j,hj,rfl⟩:=cR.1 h;have:=(bU.1 hj).2;simp at this;simp[this]
   .unfold Program.built
    simp only[hi,hu,hz',hie]
  .cases hp
 .cases hp
theorem Um{σ:Vw}:∀{l:List (Nat×Operand)}{k:List (Nat×X)->O}{r:aM},σ.BJ l k=some r->∃xs,k xs=some r/\xs.length=l.length/\∀(i:Nat)(p:Nat×X),xs[i]?=some p->∃x,l[i]?=some (p.1,x)/\σ.ev x=some p.2
 |[],k,r,h=>⟨[],h,rfl,λi p h=>by simp at h⟩
 |(i0,x)::l,k,r,h=>by
   unfold Vw.BJ at h;obtain⟨y,hy,h⟩:=bD h;obtain⟨xs,h1,h2,h3⟩:=Um h;refine⟨(i0,y)::xs,h1,by simp[h2],λi p hp=>?_⟩;cases i with
   |zero=>simp at hp;subst hp;exact⟨x,rfl,hy⟩
   |succ i=>exact h3 i p (by simpa using hp)
theorem Td{σ:Vw}{κ:Nat->Bool}(hσ:σ.Ok κ)(hon:σ.On):∀(l:List (Nat×Operand))(xs:List (Nat×X))(ds:List (Nat×D)),xs.length=l.length->(∀(i:Nat)(p:Nat×X),xs[i]?=some p->∃x,l[i]?=some (p.1,x)/\σ.ev x=some p.2)->
    xs.length=ds.length->(∀(i:Nat)(p:Nat×X)(q:Nat×D),xs[i]?=some p->ds[i]?=some q->p.1=q.1/\bV σ.den.H p.2.D q.2)->pF σ.den l ds
 |[],[],[],_,_,_,_=>.nil
 |[],[],_::_,_,_,h,_=>by cases h
 |[],_::_,_,h,_,_,_=>by cases h
 |_::_,[],_,h,_,_,_=>by cases h
 |_::_,_::_,[],_,_,h,_=>by cases h
 |(i0,x0)::l,(i1,y)::xs,(i2,d)::ds,h1,h2,h3,h4=>by
   obtain⟨x,e1,e2⟩:=h2 0 _ rfl;simp at e1;obtain⟨rfl,rfl⟩:=e1;obtain⟨e3,e4⟩:=h4 0 _ _ rfl rfl;simp only at e3 e4;subst e3;exact .cons (bC hσ hon e2) e4 (Td hσ hon l xs ds (by simpa using h1) (λi p hp=>by simpa using h2 (i+1) p (by simpa using hp)) (by simpa using h3) (λi p q hp hq=>h4 (i+1) p q (by simpa using hp) (by simpa using hq)))
theorem aFy{pl:List (Nat×Nat)}:∀(xs:List (Nat×X))(cells:List X)(k:List X->O)(r:aM),Ga pl cells xs k=some r->∃out,k out=some r/\jC pl (cells.map X.D) (xs.map λp=>(p.1,p.2.D))=some (out.map X.D)
 |[],cells,k,r,h=>⟨cells,h,rfl⟩
 |(i,x)::rest,cells,k,r,h=>by
   unfold Ga at h;split at h
   .rename_i off m hp
    split at h
    .rename_i hb
     simp only[bM]at hb;obtain⟨⟨b1,b2⟩,b3⟩:=hb;have b2:=bF b2;have b3:=fQ b3;obtain⟨out,h1,h2⟩:=aFy rest _ k r h;refine⟨out,h1,?_⟩;have hc:=Nx b1;have hv:=Fg b1;simp only[eX,jC,hp];rw[aJ (by simp[hv,hc,b2];omega),hc,<-TG,<-NJ _ _ _ (by omega)];exact h2
    .cases h
   .cases h
theorem tZ{τ:Ty}(h1:τ.one=true){l l':List Value}(h:pR τ l=some l'):∃pre,l=pre++l'/\iK pre (aR τ τ.zero):=by
 cases l with
 |nil=>cases h
 |cons x r=>
   simp only[pR]at h;split at h
   .rename_i hx
    cases h;refine⟨[x],rfl,?_⟩;cases τ with
    |pr a b=>cases h1
    |ex=>cases h1
    |un=>cases h1
    |i k=>
      simp only[Ba]at hx;split at hx
      .rw[bM]at hx
       have e1:=cT hx.1;have e2:=cT hx.2;subst e1 e2;exact .v rfl .nil
      .cases hx
    |u8=>
      simp only[Ba]at hx;split at hx
      .have e2:=cT hx
       subst e2;exact .v rfl .nil
      .cases hx
    |bo=>
      simp only[Ba]at hx;split at hx
      .exact .v rfl .nil
      .cases hx
    |tx=>
      simp only[Ba]at hx;split at hx
      .rename_i s
       split at hx
       .rename_i hs
        have:s=⟨⟨[]⟩⟩:=by
         apply a2A;apply tX;exact hs
        subst this;exact .v rfl .nil
       .cases hx
      .cases hx
    |sl e=>
      simp only[Ba]at hx;split at hx
      .exact .sl .nil
      .cases hx
   .cases h
theorem O2:∀(τ:Ty)(l l':List Value),Bb τ l=some l'->∃pre,l=pre++l'/\iK pre (aR τ τ.zero)
 |.pr a b,l,l',h=>by
   simp only[Bb]at h;split at h
   .rename_i l1 h1
    obtain⟨p1,e1,z1⟩:=O2 a l l1 h1;obtain⟨p2,e2,z2⟩:=O2 b l1 l' h;refine⟨p1++p2,by rw[e1,e2,fU],?_⟩;have:aR (.pr a b) (Ty.zero (.pr a b))=aR a a.zero++aR b b.zero:=rfl;rw[this];exact z1.append z2
   .cases h
 |.ex,l,l',h=>by
   simp only[Bb]at h;split at h
   .rename_i l1 h1
    split at h
    .rename_i l2 h2
     obtain⟨p1,e1,z1⟩:=tZ rfl h1;obtain⟨p2,e2,z2⟩:=tZ rfl h2;obtain⟨p3,e3,z3⟩:=tZ rfl h;exact⟨p1++(p2++p3),by rw[e1,e2,e3];simp,z1.append (z2.append z3)⟩
    .cases h
   .cases h
 |.un,l,l',h=>by cases h;exact⟨[],rfl,.nil⟩
 |.i k,l,l',h=>tZ rfl h
 |.u8,l,l',h=>tZ rfl h
 |.bo,l,l',h=>tZ rfl h
 |.tx,l,l',h=>tZ rfl h
 |.sl e,l,l',h=>tZ rfl h
theorem pE{c:Cx}{t e:TypeId}{τ:Ty}{b:Nat}(h:lE c t=some (e,τ,b)):∃z,l9 c.P t e z τ.size b/\iK z.cells.toList (aR τ τ.zero):=by
 unfold lE at h;split at h
 .rename_i e' he
  split at h
  .rename_i τ' i hτ hi
   split at h
   .rename_i z hz
    split at h
    .rename_i hc
     split at h
     .rename_i hb
      cases h;rw[bM]at hb;have h1:=bF hb.1;have hb2:=hb.2;rw[bM]at hb2;have h2:=bF hb2.1;have h3:=fQ hb2.2;obtain⟨pre,hp,hz'⟩:=O2 _ _ _ hc;rw[nB]at hp;refine⟨z,⟨?_,by rw[hi];simp[hz,h1],h2,h3⟩,by rw[hp];exact hz'⟩;unfold Ns at he;split at he
      .rename_i hu;cases he;exact hu
      .cases he
     .cases h
    .cases h
   .cases h
  .cases h
 .cases h
end Go.Ax
/- Operations: rows that are made, slices, conversions, calls. -/
namespace Go.Ax
open aB
open Go.RowKit Go.Ab
section
variable{P:Program}{o:Oper}{s:St}{fr:Nat}
theorem aXi{t e:TypeId}{z:Value}{sz bytes len:Nat}(st:Bool){parts:Array (Nat×Operand)}{ds:List (Nat×D)}{zt ts:List Tree}(hA:l9 P t e z sz bytes)(hz:iK z.cells.toList zt)(hl:len*sz<=2^24)(ho:o.op = .buildSlice t len parts)(hp:pF s parts.toList ds)
    (hf:jC ((gU len).map λi=>(i*sz,sz)) ((bY len zt).flatten.map .t) ds=some (ts.map .t)):aZ P o s fr (.own fr) [(fr,some (.row e sz len ts st))]:=by
 have h1:∀u∈z.cells.toList,u.oneCell'=true:=by
  clear hf hp ho hl hA;generalize z.cells.toList=l at hz
  induction hz with
  |nil=>intro u hu;cases hu
  |v h r ih=>
    intro u hu;rcases dT.1 hu with rfl|hu
    .exact h
    .exact ih u hu
  |sl r ih=>
    intro u hu;rcases dT.1 hu with rfl|hu
    .rfl
    .exact ih u hu
 have hB:=xP.of hA h1 len hl;intro E σ₁ a w hT hHH h100 hf' hd ⟨ν,G,I⟩ Q;have hpl:∀(i:Nat)(p:Nat×Nat),((gU len).map λi=>(i*sz,sz))[i]?=some p->(λi=>some (i*sz,sz)) i=some p:=λi p h=>by
  rw[cY]at h;obtain⟨j,hj,rfl⟩:=cR.1 h;have:=(bU.1 hj).2;simp at this;simp[this]
 obtain⟨g1,g2⟩:=hp.rel (λx d d' hx hw=>hw _ _ _ _ _ _ hHH I _ (I.ev (St.c7 hT hx)));have hzr:=(hz.GF len).rel w G;obtain⟨cells,hres,hsz,hrel⟩:=Nn hpl _ ds (bY len z.cells.toList).flatten.toArray ((bY len zt).flatten.map .t) (ts.map .t) g1 g2 (by simpa using hzr.1) (λi u d hu hdd=>by
     rw[cY]at hdd;obtain⟨t',ht',rfl⟩:=cR.1 hdd;have hu':(bY len z.cells.toList).flatten[i]?=some u:=by simpa using hu
     have htr:=hzr.2 i u t' hu' ht';exact⟨.t htr,htr.one⟩) hf
 have hlen:ts.length=len*sz:=by
  have hfl:∀(pl:List (Nat×Nat))(ds:List (Nat×D))(cs out:List D),jC pl cs ds=some out->out.length=cs.length:=by
   intro pl ds
   induction ds with
   |nil=>intro cs out h;cases h;rfl
   |cons p r ih=>
     intro cs out h;obtain⟨i,d⟩:=p;simp only[jC]at h;split at h
     .cases h
     .split at h
      .rename_i hc
       simp only[bM,pC,hJ]at hc;rw[ih _ _ h,wG hc.2]
      .cases h
  have:=hfl _ _ _ _ hf;simp only[cW]at this;rw[this,<-hzr.1];exact hB.zl
 have hr:=hB.run w (parts.map λ(i,x)=>(i,a.eval x)) cells (by rw[Array.toList_map];exact hres);unfold Oper.wp;have he:(execOp a.eval o).run P w = .ok (.value (.slice (some ⟨w.heap.size,0,none⟩) len len)) (w.alloc (.cells cells e)):=by
  unfold execOp;rw[ho];simp[hr]
 rw[he,Oper.upon_value];have hA':cG w (w.alloc (.cells cells e)):=(cG.refl w).alloc _;have hG:∀b,b<w.heap.size->(λb=>if b=w.heap.size then(if st then len*sz else 0)else G b) b=G b:=λb hb=>aH (by omega)
 have hsz':cells.size=ts.length:=by rw[hsz];simp
 refine⟨put_defers ..,_,_,I.fresh (G':=λb=>if b=w.heap.size then(if st then len*sz else 0)else G b) h100 hf' hd hA' hG (x:=.slice (some ⟨w.heap.size,0,none⟩) len len) (λg hg=>by cases hg;exact cQ _) ?_ ?_⟩
 .refine⟨cells.toList,?_,?_,λi u t hu ht=>?_,λg hg=>?_⟩
  .rw[b7]
   exact⟨by simp[hsz',hlen],.inr ⟨w.heap.size,len,cells,rfl,Nat.zero_le _,heap_alloc_new w _,cQ _,hB.ml,by rw[hsz',hlen],by rw[oB (by simp[hsz',hlen])]⟩⟩
  .simpa using hsz'
  .have:=(hrel i u (.t t) (by simpa using hu) (by rw[cY,ht];rfl)).1
   cases this with|t h=>exact h.mono (λ_ _ _ h=>h.fN hA' hG)
  .rw[b7]at hg
   cases hg;exact⟨.inl I.kept.size,aJ rfl⟩
 .have:DR (bZ ν fr (.slice (some ⟨w.heap.size,0,none⟩) len len)) (σ₁.aS o.dst .any [(fr,some (.row e sz len ts st))] fr).nm (w.alloc (.cells cells e)) (λb=>if b=w.heap.size then(if st then len*sz else 0)else G b) (bZ ν fr (.slice (some ⟨w.heap.size,0,none⟩) len len) fr) (.own fr):=.own (kA ..) (by rw[b7];rfl)
  rw[b7]at this;exact this
def dQ(lo:Option Int):Nat:=match lo with|some a=>a.toNat|none=>0
def eO(n:Nat)(hi:Option Int):Nat:=match hi with|some b=>b.toNat|none=>n
theorem TJ{α:Type}(l:List α)(lo hi:Option Int):bW l lo hi=(l.take (eO l.length hi)).drop (dQ lo):=by
 cases lo <;> cases hi <;> simp[bW,dQ,eO]
theorem Mn{n:Nat}{lo hi:Option Int}(h:dX n lo hi=true):dQ lo<=eO n hi/\eO n hi<=n/\(∀a,lo=some a->0<=a)/\∀b,hi=some b->0<=b:=by
 cases lo <;> cases hi <;> simp[dX,dQ,eO]at h ⊢ <;> omega
theorem xI{P:Program}{w:World}{isS:Bool}{n cap:Nat}{lo hi:Option Int}{kl kh:IntKind}(h1:dQ lo<=eO n hi)(h2:eO n hi<=cap)(h3:∀a,lo=some a->0<=a)(h4:∀b,hi=some b->0<=b):
    (Instr.sliceBounds isS n cap (lo.map (.int kl)) (hi.map (.int kh)) none).run P w = .ok (dQ lo,eO n hi,cap) w:=by
 have hb:∀(k:IntKind)(i:Int)(y:Nat)(code:BoundsCode),0<=i->i.toNat<=y->(Instr.sliceBound (.int k i) y code).run P w = .ok i.toNat w:=λk i y code a b=>by
  have:i<=(y:Int):=by omega
  simp[Instr.sliceBound,asIntOf,a,this]
 cases lo with
 |none=>
   cases hi with
   |none=>simp[Instr.sliceBounds,dQ,eO]
   |some b=>simp only[eO]at h2;simp[Instr.sliceBounds,dQ,eO,hb _ _ _ _ (h4 b rfl) h2]
 |some a=>
   cases hi with
   |none=>simp only[dQ,eO]at h1;simp[Instr.sliceBounds,dQ,eO,hb _ _ _ _ (h3 a rfl) h1]
   |some b=>
     simp only[dQ,eO]at h1 h2;simp[Instr.sliceBounds,dQ,eO,hb _ _ _ _ (h4 b rfl) h2,hb _ _ _ _ (h3 a rfl) h1]
def l8(s:St)(x:Option Operand)(v:Option Int):Prop:=match x,v with
 |none,none=>True
 |some x,some n=>∃ik,s.ev x=some (.t (.v (.int ik n)))
 |_,_=>False
theorem l8.run{s:St}{x:Option Operand}{v:Option Int}(h:l8 s x v){ρ:Operand->Value}(hev:∀x d,s.ev x=some (.t (.v d))->ρ x=d):∃ik,x.map ρ=v.map (.int ik):=by
 cases x with
 |none=>cases v with
   |none=>exact⟨.i64,rfl⟩
   |some n=>exact h.elim
 |some x=>cases v with
   |none=>exact h.elim
   |some n=>obtain⟨ik,hk⟩:=h;exact⟨ik,aY some (hev x _ hk)⟩
theorem aXN{t:TypeId}{x:Operand}{lo hi:Option Operand}{l:List UInt8}{a b:Option Int}(hu:P.underlying t=some .string)(ho:o.op = .slice t x lo hi none)(hx:s.ev x=some (TS l))(hlo:l8 s lo a)(hhi:l8 s hi b)(hok:dX l.length a b=true):aZ P o s fr (TS (bW l a b)) []:=
 dF λ_ _ _ _ w ac _ _ hev=>by
  have h1:=cC (hev x _ hx);obtain⟨kl,e1⟩:=hlo.run (ρ:=ac.eval) (λx d h=>cC (hev x _ h));obtain⟨kh,e2⟩:=hhi.run (ρ:=ac.eval) (λx d h=>cC (hev x _ h));obtain⟨g1,g2,g3,g4⟩:=Mn hok;refine⟨.string ⟨⟨bW l a b⟩⟩,?_,.t (.v _ rfl)⟩;have hsz:(ByteArray.mk ⟨l⟩).size=l.length:=rfl;have hb:=xI (P:=P) (w:=w) (isS:=false) (n:=l.length) (cap:=l.length) (lo:=a) (hi:=b) (kl:=kl) (kh:=kh) g1 g2 g3 g4;have hex:(ByteArray.mk ⟨l⟩).extract (dQ a) (eO l.length b)=⟨⟨bW l a b⟩⟩:=by
   apply a2A;rw[ByteArray.data_extract];apply tX;rw[TJ,a2H];simp only[List.extract];rw[List.drop_take]
   try trace_state
  unfold execOp;rw[ho];simp only[h1,e1,e2,pG];simp[Instr.sliceAt,Instr.slice,run_underlying hu,hsz,hb,hex]
theorem ok_slice{t e:TypeId}{x:Operand}{lo hi:Option Operand}{sz n:Nat}{ts:List Tree}{d0:D}{a b:Option Int}(hu:P.underlying t=some (.slice e))(hs:fL P e=some sz)(ho:o.op = .slice t x lo hi none)(hx:s.ev x=some d0)(hw:bV s.H d0 (.t (.sl n ts)))(hts:ts.length=n*sz)(hlo:l8 s lo a)(hhi:l8 s hi b)(hok:dX n a b=true):
    aZ P o s fr (.t (.sl (eO n b-dQ a) ((ts.take (eO n b*sz)).drop (dQ a*sz)))) []:=
 dF λE σ₁ ν G w ac hH I hev=>by
  have hd:=hw E σ₁ ν G w ac.tmps hH I _ (hev x _ hx);obtain⟨kl,e1⟩:=hlo.run (ρ:=ac.eval) (λx d h=>cC (hev x _ h));obtain⟨kh,e2⟩:=hhi.run (ρ:=ac.eval) (λx d h=>cC (hev x _ h));obtain⟨g1,g2,g3,g4⟩:=Mn hok;obtain⟨inf,hinf,hsz⟩:=cR.1 hs;obtain⟨v,hv⟩:∃v,ac.eval x=v:=⟨_,rfl⟩
  rw[hv]at hd;cases hd with
  |t hd=>
    cases hd with
    | @nil ad cap h0=>
      have hb:=xI (P:=P) (w:=w) (isS:=true) (n:=0) (cap:=cap) (lo:=a) (hi:=b) (kl:=kl) (kh:=kh) g1 (by omega) g3 g4;have z1:eO 0 b=0:=by omega
      have z2:dQ a=0:=by omega
      rw[z1,z2]at hb;refine⟨.slice (if cap=0 then ad else ad.map (·.add (0*sz))) (0-0) (cap-0),?_,?_⟩
      .unfold execOp
       rw[ho];simp only[hv,e1,e2,pG];simp[Instr.sliceAt,Instr.slice,run_underlying hu,hb,sizeOf,typeInfo,hinf,hsz]
      .rw[z1,z2]
       simp only[Nat.sub_zero,Nat.zero_mul,Gz,List.drop_zero];refine .t (.nil λhe=>?_);split at he
       .rename_i hc;exact hc
       .exact h0 (by cases ad with|none=>rfl|some _=>cases he)
    |sl bl q _ cap us _ hl hc hn ht=>
      have hb:=xI (P:=P) (w:=w) (isS:=true) (n:=n) (cap:=cap) (lo:=a) (hi:=b) (kl:=kl) (kh:=kh) g1 (by omega) g3 g4;refine⟨.slice (if cap=dQ a then some ⟨bl,q,none⟩else some ((⟨bl,q,none⟩:Addr).add (dQ a*sz))) (eO n b-dQ a) (cap-dQ a),?_,?_⟩
      .unfold execOp
       rw[ho];simp only[hv,e1,e2,pG];simp[Instr.sliceAt,Instr.slice,run_underlying hu,hb,sizeOf,typeInfo,hinf,hsz]
      .by_cases hz:eO n b-dQ a=0
       .have hnil:(ts.take (eO n b*sz)).drop (dQ a*sz)=[]:=by
         apply fK;rw[fJ];have:eO n b*sz<=dQ a*sz:=kV _ (by omega);omega
        rw[hz,hnil];refine .t (.nil λhe=>?_);split at he <;> cases he
       .have hne:¬ cap=dQ a:=by omega
        rw[aH hne,Addr.add_mid];have hm1:eO n b*sz<=n*sz:=kV _ g2;have hm2:dQ a*sz<=eO n b*sz:=kV _ g1;refine .t (.sl bl (q+dQ a*sz) _ _ ((us.take (eO n b*sz)).drop (dQ a*sz)) _ (by simp;omega) (λi u hi'=>?_) (by omega) (λi u t' hu' ht'=>?_))
        .rw[oC,eN]at hi'
         split at hi'
         .have:=hc _ u hi'
          rwa [<-BV]at this
         .cases hi'
        .rw[oC,eN]at hu' ht'
         split at hu'
         .rename_i hlt
          rw[aJ hlt]at ht';exact ht _ u t' hu' ht'
         .cases hu'
end
end Go.Ax
/- Operations: those that make, build and convert. -/
namespace Go.Ax
open aB
open Go.RowKit Go.Ab
theorem aFW{τ:Ty}{σ:Vw}:∀(xs:List (Nat×X))(l:List τ.V)(k:List τ.V->O)(r:aM),GZ τ σ l xs k=some r->∃(ys:List (Nat×τ.V))(out:List τ.V),k out=some r/\out.length=l.length/\xs.length=ys.length /\
    (∀(i:Nat)(p:Nat×X)(q:Nat×τ.V),xs[i]?=some p->ys[i]?=some q->p.1=q.1/\bV σ.den.H p.2.D (iE τ q.2).D) /\
    jC ((gU l.length).map λi=>(i*τ.size,τ.size)) ((l.flatMap (aR τ)).map .t) (ys.map λp=>(p.1,(iE τ p.2).D))=some ((out.flatMap (aR τ)).map .t)
 |[],l,k,r,h=>⟨[],l,h,rfl,rfl,λi p q hp=>by simp at hp,rfl⟩
 |(i0,x)::rest,l,k,r,h=>by
   unfold GZ at h;split at h
   .rename_i hi
    have hi':i0<l.length:=by simpa[Nat.blt_eq]using hi
    obtain⟨y,hy,h⟩:=bD h;obtain⟨ys,out,h1,h2,h3,h4,h5⟩:=aFW rest _ k r h;rw[aWq]at h2 h5;have hl:(l.set i0 y).length=l.length:=by simp
    rw[hl]at h2 h5;refine⟨(i0,y)::ys,out,h1,h2,by simp[h3],λi p q hp hq=>?_,?_⟩
    .cases i with
     |zero=>simp at hp hq;subst hp hq;exact⟨rfl,(U8 σ x).trans (kO hy)⟩
     |succ i=>exact h4 i p q (by simpa using hp) (by simpa using hq)
    .have hcell:(iE τ y).D.cells=(aR τ y).map .t/\(iE τ y).D.val=true:=by
      rw[aEA];split
      .rename_i h1
       rw[Gc h1];exact⟨rfl,rfl⟩
      .exact⟨rfl,rfl⟩
     obtain⟨z,hz⟩:∃z,l[i0]?=some z:=⟨_,bJ hi'⟩
     obtain⟨A,B,hf,hA⟩:=BG (f:=aR τ) (s:=τ.size) (λx=>dB τ x) hz;have hset:=aFq (f:=aR τ) (s:=τ.size) (λx=>dB τ x) (l:=l) (i:=i0) (y:=z) (z:=y) (A:=A) (B:=B) (new:=aR τ y) (j:=0) hf hA hi' (by
      have e1:=dB τ y;have e2:=dB τ z;unfold c8;rw[Gz,fR,fK (by omega),nB]) (by rw[dB];omega)
     have hle:i0*τ.size+τ.size<=l.length*τ.size:=by
      rw[<-aGh];exact kV _ hi'
     simp only[eX,jC];rw[cY,List.getElem?_range hi'];simp only[iT];rw[hcell.1,hcell.2];simp only[cW,dB,o7];rw[aJ (by simp[hle])];rw[<-TG];rw[show i0*τ.size+0=i0*τ.size by omega]at hset;rw[<-hset];exact h5
   .cases h
section
variable{c:Cx}{σ:Vw}{κ:Nat->Bool}{fr:Nat}{o:Oper}{k:X->Wx->O}{r:aM}
theorem aZ4(hσ:σ.Ok κ){e:TypeId}{x:Operand}{v:X}(ho:o.op = .box e x)(hx:σ.ev x=some v)(hv:v.val=true)(h:k (.ref fr 0) [(fr,some (.box e v.cells))]=some r):dU c σ fr o k r:=
 ⟨_,_,h,rfl,λhon=>by
  have:=aEt (P:=c.P) (fr:=fr) ho (bC hσ hon hx) (Fg hv);rw[Nx hv]at this;exact this⟩
theorem aYL{P:Program}{s:St}{e:TypeId}{z:Value}(ho:o.op = .alloc e)(hz:(P.info? e).bind (·.zero)=some z)(hc:z.cells = #[.pointer none,.slice none 0 0]):aZ P o s fr (.ref fr 0) [(fr,some (.box e [.via fr (Co 0),.t (.v (.slice none 0 0))]))]:=by
 intro E σ₁ a w hT _ h100 hf hd ⟨ν,G,I⟩ Q;obtain⟨i,hi,hz'⟩:=xN.1 hz;unfold Oper.wp;have hr:(execOp a.eval o).run P w = .ok (.value (.pointer (some ⟨w.heap.size,0,none⟩))) (w.alloc (.cells z.cells e)):=by
  unfold execOp;rw[ho];simp[Instr.alloc,zeroValue,typeInfo,hi,hz',newVar,newRow]
 rw[hr,Oper.upon_value];have hA:cG w (w.alloc (.cells z.cells e)):=(cG.refl w).alloc _;refine⟨put_defers ..,_,_,I.fresh (G':=λb=>if b=w.heap.size then 0 else G b) h100 hf hd hA (λb hb=>aH (by omega)) (x:=.pointer (some ⟨w.heap.size,0,none⟩)) (λg hg=>by cases hg;exact cQ _) ?_ (.ref (kA ..) (by rw[b7];rfl))⟩;refine⟨w.heap.size,z.cells,b7,.inl I.kept.size,heap_alloc_new w _,aJ rfl,by rw[hc];rfl,λi u d' hu hd'=>?_⟩;rw[hc]at hu
 match i,hu,hd' with
 |0,hu,hd'=>cases hu;cases hd';exact⟨.via (kA ..) (.inl rfl) rfl,rfl⟩
 |1,hu,hd'=>cases hu;cases hd';exact⟨.t (.v _ rfl),rfl⟩
 |i+2,hu,hd'=>simp at hd'
theorem a0m(fr:Nat)(l:List X):Gr fr l=l\/(l=[.v (.pointer none),.bI]/\Gr fr l=[.via fr 0,.bI]):=by
 unfold Gr;split
 .exact .inr ⟨rfl,rfl⟩
 .exact .inl rfl
theorem aZa{e:TypeId}{z:X}(ho:o.op = .alloc e)(hz:rM c.P e=some z)(h:k (.ref fr 0) [(fr,some (.box e (Gr fr z.cells)))]=some r):dU c σ fr o k r:=
 ⟨_,_,h,rfl,λ_=>by
  obtain⟨v,h1,h2⟩:=Vk hz;obtain⟨g1,_,g3,_,g5,_⟩:=GQ h2;rcases a0m fr z.cells with e1|⟨e1,e2⟩
  .have:=aYM (P:=c.P) (σ:=σ.den) (fr:=fr) ho h1 g1
   rw[e1];rw[g5]at this;exact this
  .have g3:[D.t (.v (.pointer none)),.t (.v (.slice none 0 0))]=v.cells.toList.map (λu=>D.t (.v u)):=by rw[<-g3,e1];rfl
   have hc:v.cells = #[.pointer none,.slice none 0 0]:=by
    apply tX
    match h:v.cells.toList,g3 with
    |[a,b],g3=>cases g3;rfl
   rw[e2];exact aYL (P:=c.P) ho h1 hc⟩
theorem aZ3(hσ:σ.Ok κ){t:TypeId}{ps:Array (Nat×Operand)}{z:X}{pl:List (Nat×Nat)}(ho:o.op = .build t ps)(hz:rM c.P t=some z)(hp:places c.P t=some pl)(h:σ.BJ ps.toList (λxs=>Ga pl z.cells xs λcs=>k (.agg cs) [])=some r):dU c σ fr o k r:=by
 obtain⟨xs,h,hl,hev⟩:=Um h;obtain⟨out,h,hf⟩:=aFy xs z.cells _ r h;refine⟨_,_,h,rfl,λhon=>?_⟩;obtain⟨v,h1,h2⟩:=Vk hz;obtain⟨_,_,g3,_,_,_⟩:=GQ h2;have hb:=a0h h1 h2 hp;have hpt:=Td hσ hon ps.toList xs (xs.map λp=>(p.1,p.2.D)) hl hev (by simp) (λi p q hp hq=>by
  rw[cY,hp]at hq;cases hq;exact⟨rfl,bV.refl⟩)
 rw[g3]at hf;have:=aYG (P:=c.P) (fr:=fr) hb ho hpt hf;unfold X.D;rw[fC];exact this
theorem aZQ(hσ:σ.Ok κ){t e:TypeId}{n b:Nat}{τ:Ty}{st:Bool}{ps:Array (Nat×Operand)}(ho:o.op = .buildSlice t n ps)(hE:lE c t=some (e,τ,b))(hle:n*τ.size<=16777216)(h:σ.BJ ps.toList (λxs=>GZ τ σ (DE τ.zero n) xs λl=>k (.own fr) [(fr,some (.row e τ l st))])=some r):dU c σ fr o k r:=by
 obtain⟨xs,h,hl,hev⟩:=Um h;obtain⟨ys,out,h,h2,h3,h4,h5⟩:=aFW xs _ _ r h;refine⟨_,_,h,rfl,λhon=>?_⟩;obtain⟨z,hA,hz⟩:=pE hE;have hpt:=Td hσ hon ps.toList xs (ys.map λp=>(p.1,(iE τ p.2).D)) hl hev (by simp[h3]) (λi p q hp hq=>by
  rw[cY]at hq;obtain⟨y,hy,rfl⟩:=cR.1 hq;exact h4 i p y hp hy)
 rw[aE3]at h2 h5;rw[HD]at h2 h5;have hfl:∀m:Nat,(bY m τ.zero).flatMap (aR τ)=(bY m (aR τ τ.zero)).flatten:=λm=>by
  induction m with
  |zero=>rfl
  |succ m ih=>rw[pL,pL,gO,Dt,ih]
 rw[hfl]at h5;have:=aXi (P:=c.P) (fr:=fr) st hA hz (len:=n) (by omega) ho hpt h5;rw[<-h2]at this;exact this
theorem aZL(hσ:σ.Ok κ){t e:TypeId}{b:Nat}{τ:Ty}{x y:Operand}{z:Int}(ho:o.op = .makeSlice t x y)(he:Tf x y=true)(hx:σ.ev x=some (.e (.i .i64) z))(hE:lE c t=some (e,τ,b))(h:GY τ e fr b false z k=some r):dU c σ fr o k r:=by
 unfold GY at h;obtain⟨h0,h⟩:=fH h;obtain⟨hb,h⟩:=fH h;refine⟨_,_,h,rfl,λhon=>?_⟩;obtain⟨v,hA,hz⟩:=pE hE;have h0:=cT h0;unfold b9 at hb;have hb:=cT hb;have hn:((z.toNat:Nat):Int)=z:=by omega
 have hx1:σ.den.ev x=some (I (z.toNat:Nat)):=by
  rw[hn];exact bC hσ hon hx
 have hy1:σ.den.ev y=some (I (z.toNat:Nat)):=by
  unfold Tf at he;split at he
  .rw[<-bF he];exact hx1
  .rename_i k1 a k2 b'
   simp only[bM,hJ,pC]at he;obtain⟨rfl,rfl⟩:=he;exact hx1
  .cases he
 have hm:z.toNat<=maxLen:=by simp only[maxLen];omega
 have:=aXc (P:=c.P) (fr:=fr) false hA hz ho hx1 hy1 ⟨by rw[Nat.mul_comm];omega,hm⟩;have hfl:∀m:Nat,(bY m τ.zero).flatMap (aR τ)=(bY m (aR τ τ.zero)).flatten:=λm=>by
  induction m with
  |zero=>rfl
  |succ m ih=>rw[pL,pL,gO,Dt,ih]
 unfold WA;simp only[eX,List.map_nil,iT,XO.A,HD,hfl];exact this
end
end Go.Ax
/- Operations: appends, slices, conversions and the others that only reckon. -/
namespace Go.Ax
open aB
open Go.RowKit Go.Ab
theorem BF{α:Type}{f:α->List Tree}{s:Nat}(hf:∀x,(f x).length=s):∀(l:List α)(n:Nat),(l.flatMap f).take (n*s)=(l.take n).flatMap f
 |[],n=>by simp
 |x::l,0=>by simp
 |x::l,n+1=>by
   rw[gO,a1c,gO,<-BF hf l n,aGh,a1d,hf,oB (by rw[hf];omega)]
   congr 2
   omega
theorem Nk{α:Type}{f:α->List Tree}{s:Nat}(hf:∀x,(f x).length=s):∀(l:List α)(n:Nat),(l.flatMap f).drop (n*s)=(l.drop n).flatMap f
 |[],n=>by simp
 |x::l,0=>by simp
 |x::l,n+1=>by
   rw[gO,a1p,<-Nk hf l n,aGh,a1r,hf,fK (by rw[hf];omega),fR]
   congr 1
   omega
section
variable{c:Cx}{σ:Vw}{κ:Nat->Bool}{fr:Nat}{o:Oper}{k:X->Wx->O}{r:aM}
theorem aXI{τ:Ty}{x:X}{l:List τ.V}(h:one? (.sl τ) x=some l):x = .e (.sl τ) l\/(x = .bI/\l=[]):=by
 cases x with
 |e τ' y=>
   unfold one? at h;simp only at h;generalize eA τ' (.sl τ)=p at h;cases p with
   |none=>cases h
   |some q=>obtain⟨q⟩:=q;subst q;cases h;exact .inl rfl
 |bI=>unfold one? at h;cases h;exact .inr ⟨rfl,rfl⟩
 |_=>cases h
theorem aWT{τ:Ty}{xo:Operand}{x:X}{l:List τ.V}(hx:σ.den.ev xo=some x.D)(h:one? (.sl τ) x=some l):Src σ.den xo l.length (l.flatMap (aR τ)):=by
 rcases aXI h with rfl|⟨rfl,rfl⟩
 .exact .t hx
 .exact .nil hx
theorem Ml{τ:Ty}{xo:Operand}{x:X}{l:List τ.V}(hx:σ.den.ev xo=some x.D)(h:σ.src τ x=some l):Src σ.den xo l.length (l.flatMap (aR τ)):=by
 cases x with
 |own q=>
   unfold Vw.src at h;simp only at h;split at h
   .rename_i e τ' l' st hq
    generalize eA τ' τ=p at h;cases p with
    |none=>cases h
    |some g=>
      obtain⟨g⟩:=g;subst g;cases h;exact .own (e:=e) (s:=τ'.size) (st:=st) hx (by rw[dI hq];rfl)
   .cases h
 |_=>exact aWT hx h
theorem aZ5(hσ:σ.Ok κ){t e:TypeId}{x y:Operand}{v w:X}{τ:Ty}{bt:Nat}{l':List τ.V}(ho:o.op = .call { callee:=.builtin .append,args:=#[x,y],argTypes:=#[t,t] })(hE:lE c t=some (e,τ,bt))(hx:σ.ev x=some v)(hy:σ.ev y=some w)(hl:σ.src τ w=some l'){st:Bool}
    (h:(∃q st' l,v = .own q/\σ.H q=some (.row e τ l st')/\VP τ e fr bt [(q,none)] st' l l' k=some r)\/(v = .bI/\ck (b9 (dN l') bt) (k (.own fr) [(fr,some (.row e τ l' st))])=some r)):dU c σ fr o k r:=by
 obtain⟨z,hA,_⟩:=pE hE;rcases h with⟨q,st',l,rfl,hq,h⟩|⟨rfl,h⟩
 .unfold VP at h
  obtain⟨hb,h⟩:=fH h;refine⟨_,_,h,rfl,λhon=>?_⟩;unfold b9 at hb;have hb:=cT hb;rw[cP]at hb;have:=aEu (P:=c.P) (fr:=fr) st' hA ho (.own (k:=q) (n:=l.length) (ts:=l.flatMap (aR τ)) (bC hσ hon hx) (by rw[dI hq];rfl)) (Ml (bC hσ hon hy) hl) (by rw[o7]) ⟨hb.1,by simp only[maxLen];omega⟩;unfold WA;simp only[eX,List.map_nil,iT,pG,XO.A,cP,List.flatMap_append];exact this
 .obtain⟨hb,h⟩:=fH h
  refine⟨_,_,h,rfl,λhon=>?_⟩;unfold b9 at hb;have hb:=cT hb;have:=aEu (P:=c.P) (fr:=fr) st hA ho (.nil (bC hσ hon hx)) (Ml (bC hσ hon hy) hl) (by rw[o7]) ⟨by rw[eD];exact hb.1,by simp only[maxLen];omega⟩;rw[eD,fR]at this;exact this
theorem wL(hσ:σ.Ok κ){x:Option Operand}{f:Option Int->O}(h:σ.kD x f=some r):∃v,f v=some r/\(σ.On->l8 σ.den x v):=by
 unfold Vw.kD at h;split at h
 .exact⟨none,h,λ_=>trivial⟩
 .obtain⟨w,hw,h⟩:=bD h
  obtain⟨ik,n,hn,h⟩:=Gt h;exact⟨some n,h,λhon=>⟨ik,by rw[bC hσ hon hw,hn]⟩⟩
theorem aWY(hσ:σ.Ok κ){t e:TypeId}{x:Operand}{lo hi:Option Operand}{v:X}{τ:Ty}{l:List τ.V}{a b:Option Int}(ho:o.op = .slice t x lo hi none)(hx:σ.ev x=some v)(ha:σ.On->l8 σ.den lo a)(hb:σ.On->l8 σ.den hi b)(hu:c.P.underlying t=some (.slice e))(hm:fL c.P e=some τ.size)(hg:σ.iJ v = .e (.sl τ) l)
    (h:TK τ (σ.g.map (·.2)) l a b (λr=>k r [])=some r):dU c σ fr o k r:=by
 unfold TK at h;obtain⟨h,hok⟩:=mS h;refine⟨_,_,h,rfl,λhon=>?_⟩;have hw:=w9 σ v;rw[hg]at hw;have:=ok_slice (P:=c.P) (fr:=fr) hu hm ho (bC hσ hon hx) (n:=l.length) (ts:=l.flatMap (aR τ)) hw (o7 l) (ha hon) (hb hon) (hok hon.g);rw[BF (λx=>dB τ x),Nk (λx=>dB τ x),<-TJ]at this;have hlen:eO l.length b-dQ a=(bW l a b).length:=by
  obtain⟨g1,g2,_,_⟩:=Mn (hok hon.g);rw[TJ,List.length_drop,fJ];omega
 rw[hlen]at this;exact this
theorem aFk(hσ:σ.Ok κ){t:TypeId}{x:Operand}{lo hi:Option Operand}{v:X}(ho:o.op = .slice t x lo hi none)(hx:σ.ev x=some v)(h:σ.kD lo (λlo=>σ.kD hi λhi=>Mm c σ t v lo hi λr=>k r [])=some r):dU c σ fr o k r:=by
 obtain⟨a,h,ha⟩:=wL hσ h;obtain⟨b,h,hb⟩:=wL hσ h;unfold Mm at h;split at h
 .rename_i e τ l hu hg
  split at h
  .rename_i m hm
   split at h
   .rename_i hs
    have hs:=bF hs;subst hs;exact aWY hσ ho hx ha hb hu hm hg h
   .cases h
  .cases h
 .rename_i l hu hg
  unfold aEN at h;obtain⟨h,hok⟩:=mS h;refine⟨_,_,h,rfl,λhon=>?_⟩;have hv:v = .e .tx l:=by
   unfold Vw.iJ at hg;split at hg
   .split at hg
    .cases hg
    .cases hg
   .exact hg
  subst hv;exact aXN (P:=c.P) (fr:=fr) hu ho (bC hσ hon hx) (ha hon) (hb hon) (hok hon.g)
 .cases h
theorem aFt:∀(l:List (Ty.V .u8))(j:Nat)(x:Ty.V .u8),l[j]?=some x->(l.flatMap (aR .u8))[j]?=some (.v (.int .u8 (UInt8.toNat x:Int)))
 |[],j,x,h=>by simp at h
 |u::l,0,x,h=>by cases h;rfl
 |u::l,j+1,x,h=>aFt l j x (by simpa using h)
theorem a0Y{P:Program}{s:St}{n:Int}(h:aZ P o s fr (.t (.v (.int .u8 (IntKind.u8.wrap n)))) []):aZ P o s fr (X.e .u8 (gH n)).D []:=by
 rw[<-aVz]at h;exact h
theorem a0X{P:Program}{s:St}{u:UInt8}(h:aZ P o s fr (.t (.v (.int .u8 (IntKind.u8.wrap (u.toNat:Int))))) []):aZ P o s fr (X.e .u8 u).D []:=by
 have h8:IntKind.u8.wrap (u.toNat:Int)=(u.toNat:Int):=by
  rw[HQ];have:=u.toNat_lt;omega
 rw[h8]at h;exact h
theorem aZ1(hσ:σ.Ok κ){s d e:TypeId}{x:Operand}{v:X}{l:List UInt8}(hs:c.P.underlying s=some (.slice e))(he:c.P.underlying e=some (.int .u8))(hd:c.P.underlying d=some .string)(ho:o.op = .convert s d x)(hx:σ.ev x=some v)(hl:σ.src .u8 v=some l)(h:k (.e .tx l) []=some r):dU c σ fr o k r:=
 ⟨_,_,h,rfl,λhon=>by
  intro E σ₁ a w hT hHH h100 hf hdst ⟨ν,G,I⟩ Q;obtain⟨ax,cp,us,hxv,hul,hrd,hnone,htr⟩:=(Ml (bC hσ hon hx) hl).rd hT hHH I;have hc:(convert s d (a.eval x)).run c.P w = .ok (.string ⟨⟨l⟩⟩) w:=by
   rw[hxv];cases ax with
   |none=>
     have hl0:l=[]:=List.eq_nil_of_length_eq_zero (hnone rfl).2;subst hl0;simp[convert,run_underlying hs,run_underlying hd,run_underlying he,Conv.bytesToString];rfl
   |some ad=>
     refine run_convert_bytes_back (P:=c.P) w s d e ad cp l hs he hd (λj hj=>?_);have hj':=aFt l j l[j] (bJ hj);have hlen:(b8 (aR .u8) l).length=l.length:=(o7 (τ:=.u8) l).trans (jZ _);have hju:j<us.length:=by rw[hul];exact hlen ▸ hj
     obtain⟨ad',e1,e2⟩:=hrd j us[j] (bJ hju);cases e1;have ht:=htr j us[j] _ (bJ hju) hj';rw[e2];generalize us[j]=u at ht;cases ht with
     |v _ _=>rfl
  unfold Oper.wp;have he:(execOp a.eval o).run c.P w = .ok (.value (.string ⟨⟨l⟩⟩)) w:=by
   unfold execOp;rw[ho];simp[hc]
  rw[he,Oper.upon_value];exact⟨put_defers ..,ν,G,I.put (.t (.v _ rfl)) hdst fr a rfl⟩⟩
theorem aZZ(hσ:σ.Ok κ){s d:TypeId}{x:Operand}{v:X}(ho:o.op = .convert s d x)(hx:σ.ev x=some v)(h:Nw c.P s d v (λr=>k r [])=some r):dU c σ fr o k r:=by
 unfold Nw at h;split at h
 .rename_i hs hd
  refine⟨_,_,h,rfl,λhon=>?_⟩;exact a0Y (NS (P:=c.P) (fr:=fr) ho (by rw[hs];rfl) hd (bC hσ hon hx))
 .rename_i hs hd
  refine⟨_,_,h,rfl,λhon=>?_⟩;exact a0X (NS (P:=c.P) (fr:=fr) ho (by rw[hs];rfl) hd (bC hσ hon hx))
 .rename_i hs hd
  refine⟨_,_,h,rfl,λhon=>?_⟩;exact NS (P:=c.P) (fr:=fr) ho (by rw[hs];rfl) hd (bC hσ hon hx)
 .rename_i hs hd
  refine⟨_,_,h,rfl,λhon=>?_⟩;exact NS (P:=c.P) (fr:=fr) ho (by rw[hs];rfl) hd (bC hσ hon hx)
 .cases h
theorem aZR(hσ:σ.Ok κ){t:TypeId}{x:Operand}{v:X}(ho:o.op = .call { callee:=.builtin .len,args:=#[x],argTypes:=#[t] })(hx:σ.ev x=some v)(h:UR c σ t v (λr=>k r [])=some r):dU c σ fr o k r:=by
 unfold UR at h;split at h
 .rename_i v' e hu
  unfold Vw.len at h;split at h
  .split at h
   .rename_i q e' τ l st hq
    refine⟨_,_,h,rfl,λhon=>?_⟩;exact Tl (P:=c.P) (fr:=fr) hu ho rfl (.own (bC hσ hon hx) (by rw[dI hq];rfl))
   .rename_i q e' e1 τ l hq
    refine⟨_,_,h,rfl,λhon=>?_⟩;have:=aXm (P:=c.P) (fr:=fr) hu ho rfl (bC hσ hon hx) (dI hq);rw[cW]at this;exact this
   .rename_i q e' e1 κ' ρ l ln hq
    refine⟨_,_,h,rfl,λhon=>?_⟩;exact aXk (P:=c.P) (fr:=fr) hu ho rfl (bC hσ hon hx) (dI hq)
   .cases h
  .split at h
   .rename_i q i e' e1 τ l hq
    obtain⟨y,hy,h⟩:=mQ h;refine⟨_,_,h,rfl,λhon=>?_⟩;exact aXl (P:=c.P) (fr:=fr) hu ho rfl (bC hσ hon hx) (dI hq) (GV hy)
   .cases h
  .refine⟨_,_,h,rfl,λhon=>?_⟩
   exact Tl (P:=c.P) (fr:=fr) hu ho rfl (.t (bC hσ hon hx))
  .refine⟨_,_,h,rfl,λhon=>?_⟩
   exact Tl (P:=c.P) (fr:=fr) hu ho rfl (.nil (bC hσ hon hx))
  .cases h
 .rename_i l hu
  refine⟨_,_,h,rfl,λhon=>?_⟩;exact aXj (P:=c.P) (fr:=fr) hu ho rfl (bC hσ hon hx)
 .cases h
theorem aG5(hσ:σ.Ok κ){b:Operand}{j:Nat}{q:Bool}(h:σ.VG b=some (j,q))(hon:σ.On):σ.den.ev b=some (B q)/\κ (2*j+1)=q/\κ (2*j)=!q:=by
 unfold Vw.VG at h;split at h
 .rename_i t
  split at h
  .rename_i ht
   cases h;exact⟨o9 ht,hσ.oZ _ _ ht⟩
  .rename_i key cc j' q' ht
   split at h
   .rename_i key' c' hg
    split at h
    .rename_i hb
     have hb:=bF hb;subst hb;cases h;obtain⟨h1,h2,h3⟩:=hσ.oZ _ _ ht;have hc:cc=true:=h1.trans ((hσ.g _ _ hg).symm.trans (hon _ _ hg));subst hc;exact⟨o9 ht,by simpa using h2,by simpa using h3⟩
    .cases h
   .cases h
  .cases h
 .cases h
theorem aFz(hσ:σ.Ok κ){key:Nat}{x:Operand}{v:X}(h:σ.D6 key x=some v):v.pl=true/\(σ.On->κ key=true->σ.den.ev x=some v.D):=by
 unfold Vw.D6 at h;split at h
 .rename_i t
  split at h
  .rename_i key' cc y ht
   split at h
   .rename_i hb
    have hb:=bF hb;subst hb;obtain⟨h1,h2⟩:=hσ.oZ _ _ ht;have hD:κ key'=true->σ.den.ev (.tmp t)=some y.D:=λhk=>by
     have e:σ.den.ev (.tmp t)=some (X.eP key' cc y).D:=o9 ht;rw[hk]at h1;subst h1;exact e
    split at h
    .cases h
     exact⟨rfl,λ_ hk=>hD hk⟩
    .cases h
    .rename_i n1 n2
     cases h;refine⟨?_,λ_ hk=>hD hk⟩;cases v with
     |bit j q=>exact absurd rfl (n1 j q)
     |eP a b c=>exact absurd rfl (n2 a b c)
     |_=>rfl
   .refine⟨So h,λhon hk=>?_⟩
    cases cc with
    |true => 
      have e:σ.den.ev (.tmp t)=some (X.eP key' true y).D:=o9 ht;rw[e,Sp (hσ.oZ t _ ht) hσ.g hon h]
    |false=>
      exfalso;unfold tA at h;split at h
      .rename_i he;cases he
      .rename_i key2 c2 y2 he
       cases he;split at h
       .rename_i key3 c3 hg
        split at h
        .rename_i hb
         have hb:=bF hb;subst hb;have:=(hσ.oZ _ _ ht).1;rw[<-hσ.g _ _ hg,hon _ _ hg]at this;cases this
        .cases h
       .cases h
      .rename_i n1 n2
       exact n2 _ _ _ rfl
  .rename_i y hy ht
   refine⟨So h,λhon hk=>?_⟩;have e:σ.den.ev (.tmp t)=some y.D:=o9 ht;rw[e,Sp (hσ.oZ t y ht) hσ.g hon h]
  .cases h
 .exact⟨xA h,λhon _=>bC hσ hon h⟩
theorem aZF(hσ:σ.Ok κ){b x y:Operand}(ho:o.op = .pick b x y)(h:Tb σ b x y (λr=>k r [])=some r):dU c σ fr o k r:=by
 unfold Tb at h;split at h
 .rename_i j q hbit
  obtain⟨v,hv,h⟩:=bD h;obtain⟨v',hv',h⟩:=bD h;obtain⟨p1,d1⟩:=aFz hσ hv;obtain⟨p2,d2⟩:=aFz hσ hv';have hT:∀d,q=true->(σ.On->v.D=d)->σ.On->aZ c.P o σ.den fr d []:=λd hq hd hon=>by
   obtain⟨h1,h2,h3⟩:=aG5 hσ hbit hon;subst hq;rw[<-hd hon];exact Tj ho h1 (d1 hon h2)
  have hF:∀d,q=false->(σ.On->v'.D=d)->σ.On->aZ c.P o σ.den fr d []:=λd hq hd hon=>by
   obtain⟨h1,h2,h3⟩:=aG5 hσ hbit hon;subst hq;rw[<-hd hon];exact Tk ho h1 (d2 hon h3)
  have hbr:br q (k v []) (k v' [])=some r->dU c σ fr o k r:=λh=>by
   rcases tK h with⟨hq,h⟩|⟨hq,h⟩
   .exact⟨_,_,h,p1,hT _ hq (λ_=>rfl)⟩
   .exact⟨_,_,h,p2,hF _ hq (λ_=>rfl)⟩
  split at h
  .rename_i a a' h0
   split at h
   .unfold aG9 at h
    refine⟨_,_,h,rfl,λhon=>?_⟩;cases q with
    |true=>exact hT _ rfl (λ_=>rfl) hon
    |false=>
      refine hF _ rfl (λ_=>?_) hon;have:(X.e .bo false) = .e .bo a':=by
       have e:σ.D6 (2*j) (.const (.bool false))=some (.e .bo false):=rfl;rw[e]at hv';exact fI hv'
      exact aY X.D this.symm
   .unfold orX at h
    refine⟨_,_,h,rfl,λhon=>?_⟩;cases q with
    |true=>
      refine hT _ rfl (λ_=>?_) hon;have:(X.e .bo true) = .e .bo a:=by
       have e:σ.D6 (2*j+1) (.const (.bool true))=some (.e .bo true):=rfl;rw[e]at hv;exact fI hv
      exact aY X.D this.symm
    |false=>exact hF _ rfl (λ_=>rfl) hon
   .exact hbr h
  .exact hbr h
 .obtain⟨v,hv,h⟩:=bD h
  split at h
  .rename_i q
   rcases tK h with⟨hq,h'⟩|⟨hq,h'⟩
   .obtain⟨w,hw,h''⟩:=bD h'
    subst hq;exact⟨_,_,h'',xA hw,λhon=>Tj ho (bC hσ hon hv) (bC hσ hon hw)⟩
   .obtain⟨w,hw,h''⟩:=bD h'
    subst hq;exact⟨_,_,h'',xA hw,λhon=>Tk ho (bC hσ hon hv) (bC hσ hon hw)⟩
  .obtain⟨w,hw,h''⟩:=bD h
   exact⟨_,_,h'',xA hw,λhon=>Tj ho (bC hσ hon hv) (bC hσ hon hw)⟩
  .obtain⟨w,hw,h''⟩:=bD h
   exact⟨_,_,h'',xA hw,λhon=>Tk ho (bC hσ hon hv) (bC hσ hon hw)⟩
  .cases h
end
end Go.Ax
