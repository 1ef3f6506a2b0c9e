/- The abstract machine, run: operations. Conditions are in the theorems. -/
import Derived.Test.YtlhdefefoaldfaaGreatDoorE5
import Derived.Laws.IdiomStrings
open Array renaming ext'->v8,getElem?_eq_getElem->p8,toList_extract->bA8
open Bool renaming and_eq_true->bM
open ByteArray renaming ext->bA3
open List renaming append_assoc->iC,append_eq_nil_iff->bAY,append_nil->rI,drop_append->bAW,drop_append_of_le_length->aMv,drop_eq_nil_of_le->oP,drop_succ_cons->bAU,flatMap->iY,flatMap_cons->jX,flatten_cons->vW,getElem?_append_left->gK,getElem?_append_right->dW,getElem?_drop->zM,getElem?_eq_getElem->dE,getElem?_eq_some_iff->dC,getElem?_map->dT,getElem?_take->iX,length->gW,length_append->dK,length_map->dR,length_replicate->aAr,length_take->kS,map_append->rG,map_cons->iB,map_drop->bAQ,map_take->bAP,mem_cons->eP,nil_append->kR,range->pX,replicate->e9,replicate_succ->rF,take_append->bAF,take_append_of_le_length->aMo,take_of_length_le->Fe,take_succ_cons->bAD,take_zero->aAn
open Nat renaming add_assoc->CT,add_mul->jW,add_zero->oO,ble_eq_true_of_le->aAl,eq_of_beq_eq_true->cA,le_of_ble_eq_true->fN,le_refl->bZ,mul_le_mul_right->nB,mul_one->Ju,one_mul->aMi,sub_self->aMh,succ_mul->aMg,zero_add->fJ
open Option renaming bind_eq_some_iff->lH,map_eq_some_iff->cV,map_none->oN,map_some->lG
open Option.some renaming inj->fV
/- Operations: parts of data, what is read, what is built. -/
namespace Go.Ax
open aA
open Go.RowKit Go.Ab
theorem Rw{P:Program}{o:Oper}{σ:St}{fr:Nat}{d d':D}(h:bI P o σ fr d [])(hw:cG σ.H d d'):bI P o σ fr d' []:=λE σ₁ a w h1 h2 h3 h4 h5 h6 Q=>Oper.wp_mono (λa' w' ⟨q1,ν,G,I⟩=>by
 refine⟨q1,ν,G,I.kept,I.eR,I.gE,I.g0,I.sz,λt x ht=>?_,I.H,I.eB⟩;simp only[St.bC]at ht;by_cases e:o.dst=some t
 .rw[aJ e]at ht
  cases ht;obtain⟨v,hv,hd⟩:=I.T t d (by simp only[St.bC];rw[aJ e]);exact⟨v,hv,hw E _ ν G w' _ (λk ob hk=>by simp only[St.bC,Ab.look];exact h2 k ob hk) I v hd⟩
 .rw[aD e]at ht
  exact I.T t x (by simp only[St.bC];rw[aD e];exact ht)) (h E σ₁ a w h1 h2 h3 h4 h5 h6 Q)
theorem Io{x:X}(h:x.val=true):x.D.val=true:=by
 cases x with
 |e τ y=>
   have h:τ.one=true:=h;rw[qZ h];rfl
 |bD xs=>cases h
 |eX a b c=>cases h
 |bit a b=>cases h
 |dY a=>cases h
 |_=>rfl
theorem R9{x:X}(h:x.val=true):x.D.cells=x.cells.map X.D:=a9H h (Io h)
theorem aAB{α:Type}:∀(n:Nat)(l:List α),yW n l=l.drop n
 |0,l=>rfl
 |n+1,[]=>by simp[yW]
 |n+1,x::l=>by simp[yW,aAB n l]
theorem YI{α:Type}:∀(n:Nat)(l:List α),u9 n l=l.take n
 |0,l=>by simp[u9]
 |n+1,[]=>by simp[u9]
 |n+1,x::l=>by simp[u9,YI n l]
theorem Qc{α:Type}:∀(l:List α)(off:Nat)(new:List α),off+new.length<=l.length->lA l off new=dG l off new
 |[],off,new,h=>by
   simp at h;obtain⟨rfl,rfl⟩:=h;rfl
 |x::l,0,[],_=>by simp[lA,dG]
 |x::l,0,y::new,h=>by
   have ih:=Qc l 0 new (by simp at h ⊢;omega);simp only[lA,ih,dG];simp
 |x::l,n+1,new,h=>by
   have ih:=Qc l n new (by simp at h ⊢;omega);simp only[lA,ih,dG,bAD,List.cons_append];rw[show n+1+new.length=(n+new.length)+1 by omega,bAU]
theorem YW{α β:Type}(f:α->β)(l:List α)(off:Nat)(new:List α):(dG l off new).map f=dG (l.map f) off (new.map f):=by
 simp[dG]
theorem aKV{α:Type}(x:α):∀n,Ew x n=e9 n x
 |0=>rfl
 |n+1=>by rw[Ew,aKV x n,rF]
theorem a5B{α:Type}(l:List α)(i:Nat)(x:α):hM x i l=l.set i x:=by
 have:=JR (λz:α=>z) l i x;simpa using this
theorem Jp:∀(τ:Ty)(x:τ.V)(j m:Nat)(k:(τ':Ty)->τ'.V->O)(r:aE),oK τ x j m k=some r->∃(τ':Ty)(y:τ'.V)(A B:List Tree),k τ' y=some r/\bH τ x=A++bH τ' y++B/\A.length=j/\m=τ'.size
 |.pr a b,x,j,m,k,r,h=>by
   unfold oK at h;split at h
   .rename_i hb
    rw[bM]at hb;exact⟨.pr a b,x,[],[],h,by simp,(cA hb.1).symm,cA hb.2⟩
   .split at h
    .obtain⟨τ',y,A,B,h1,h2,h3,h4⟩:=Jp a x.1 j m k r h
     exact⟨τ',y,A,B++bH b x.2,h1,by rw[bH,h2];simp,h3,h4⟩
    .rename_i hlt
     obtain⟨τ',y,A,B,h1,h2,h3,h4⟩:=Jp b x.2 (j-a.size) m k r h;have:¬ j<a.size:=λhj=>by
      have:Nat.blt j a.size=true:=aAl hj;rw[this]at hlt;cases hlt
     exact⟨τ',y,bH a x.1++A,B,h1,by rw[bH,h2];simp,by rw[dK,eA,h3];omega,h4⟩
 |.ex,x,j,m,k,r,h=>by
   unfold oK at h;split at h
   .exact⟨.ex,x,[],[],h,by simp,rfl,rfl⟩
   .exact⟨.i .i64,Ex.op x,[],[.v (.int .i64 (Ex.num x)),.sl (gW (Ex.kids x)) ((Ex.kids x).flatMap cH)],h,(by have:=FZ x;exact this),rfl,rfl⟩
   .exact⟨.i .i64,Ex.num x,[.v (.int .i64 (Ex.op x))],[.sl (gW (Ex.kids x)) ((Ex.kids x).flatMap cH)],h,(by have:=FZ x;exact this),rfl,rfl⟩
   .exact⟨.sl .ex,Ex.kids x,[.v (.int .i64 (Ex.op x)),.v (.int .i64 (Ex.num x))],[],h,(by have:=FZ x;exact this),rfl,rfl⟩
   .cases h
 |.i a,x,j,m,k,r,h=>by
   unfold oK at h;split at h
   .rename_i hb
    rw[bM]at hb;exact⟨.i a,x,[],[],h,by simp,(cA hb.1).symm,cA hb.2⟩
   .cases h
 |.u8,x,j,m,k,r,h=>by
   unfold oK at h;split at h
   .rename_i hb
    rw[bM]at hb;exact⟨.u8,x,[],[],h,by simp,(cA hb.1).symm,cA hb.2⟩
   .cases h
 |.bo,x,j,m,k,r,h=>by
   unfold oK at h;split at h
   .rename_i hb
    rw[bM]at hb;exact⟨.bo,x,[],[],h,by simp,(cA hb.1).symm,cA hb.2⟩
   .cases h
 |.tx,x,j,m,k,r,h=>by
   unfold oK at h;split at h
   .rename_i hb
    rw[bM]at hb;exact⟨.tx,x,[],[],h,by simp,(cA hb.1).symm,cA hb.2⟩
   .cases h
 |.sl a,x,j,m,k,r,h=>by
   unfold oK at h;split at h
   .rename_i hb
    rw[bM]at hb;exact⟨.sl a,x,[],[],h,by simp,(cA hb.1).symm,cA hb.2⟩
   .cases h
theorem CE{α:Type}{f:α->List Tree}{s:Nat}(hf:∀x,(f x).length=s):∀{l:List α}{i:Nat}{y:α},l[i]?=some y->∃A B,l.flatMap f=A++f y++B/\A.length=i*s
 |[],i,y,h=>by simp at h
 |x::l,0,y,h=>by simp at h;subst h;exact⟨[],l.flatMap f,by simp,by simp⟩
 |x::l,i+1,y,h=>by
   obtain⟨A,B,h1,h2⟩:=CE hf (l:=l) (i:=i) (y:=y) (by simpa using h);exact⟨f x++A,B,by rw[jX,h1];simp,by rw[dK,hf,h2,jW];omega⟩
theorem CI{τ:Ty}(l:List τ.V):(l.flatMap (bH τ)).length=l.length*τ.size:=a8R (λx=>eA τ x) l
theorem cG.ptr{H:Nat->Option aZ}{A ts B:List Tree}{off:Nat}(hA:A.length=off):cG H (.ptr (A++ts++B) off) (.ptr ts 0):=λ_ s ν G w _ _ _ v hv=>by
 obtain⟨b,q,us,rfl,hl,hc,ht⟩:=FA hv;have hlen:us.length=A.length+ts.length+B.length:=by rw[hl];simp;omega
 have:=DR.ptr (ν:=ν) (nm:=s.nm) (w:=w) (G:=G) (b:=b) (o:=q+off) (off:=0) (us:=(us.drop off).take ts.length) (ts:=ts) (by simp;omega) (λi u hu=>by
  rw[iX]at hu;split at hu
  .rw[zM]at hu
   have:=hc (off+i) u hu
   rwa [<-CT]at this
  .cases hu) (λi u t hu hti=>by
  rw[iX]at hu;split at hu
  .rename_i hi
   rw[zM]at hu;refine ht (off+i) u t hu ?_;rw[iC,dW (by omega),gK (by omega),show off+i-A.length=i by omega];exact hti
  .cases hu)
 exact this
theorem cG.a4o{H:Nat->Option aZ}{q off:Nat}{e:TypeId}{s n:Nat}{A ts B:List Tree}(hq:H q=some (.row e s n (A++ts++B) true))(hA:A.length=off):cG H (.ref q off) (.ptr ts 0):=λE st ν G w tm hH I v hv=>by
 obtain⟨g,hg,rfl,_⟩:=pL hv;have htr:=I.rows _ _ _ _ _ _ (hH _ _ hq) rfl;obtain⟨u,hu⟩:∃u,ν q=u:=⟨_,rfl⟩
 rw[hu]at htr hg;obtain⟨L,hL⟩:∃L,A++ts++B=L:=⟨_,rfl⟩
 rw[hL]at htr;cases htr with
 |nil h=>
   have hts:ts=[]:=(bAY.1 (bAY.1 hL).1).2;subst hts;have:=DR.ptr (ν:=ν) (nm:=st.nm) (w:=w) (G:=G) (b:=g) (o:=off) (off:=0) (us:=[]) (ts:=[]) rfl (λi u h=>by simp at h) (λi u t h=>by simp at h);exact this
 |sl b o n c us ts' hl hc hn h=>
   simp only[bQ,Option.some.injEq]at hg;subst hg
   -- a row of one's own begins at its block's first cell
   have ho:o=0:=by
    obtain⟨_,xs,r1,_⟩:=I.H _ _ (hH _ _ hq);rcases r1.2 with⟨hv,_⟩|⟨g,cap,cur,hv,_⟩
    .rw[hu]at hv;cases hv
    .rw[hu]at hv;cases hv;rfl
   subst ho;rw[<-hL]at hl h;have h0:DR ν st.nm w G (.pointer (some ⟨b,0+off,none⟩)) (.ptr (A++ts++B) off):=.ptr hl hc h;rw[fJ]at h0;exact cG.ptr (H:=H) hA E st ν G w tm hH I _ h0
end Go.Ax
/- Operations: loads and stores, addresses, what is built. -/
namespace Go.Ax
open aA
open Go.RowKit Go.Ab
abbrev eL(c:Cx)(σ:Vw)(fr:Nat)(o:Oper)(k:X->Wx->O)(r:aE):Prop:=∃x W,k x W=some r/\x.pl=true/\(σ.On->bI c.P o σ.den fr x.D (WA W))
theorem toT{τ:Ty}{y:τ.V}(h:τ.one=true):(bH τ y).map D.t=[(X.e τ y).D]:=by rw[Jf h,qZ h];rfl
section
variable{c:Cx}{σ:Vw}{κ:Nat->Bool}{fr:Nat}{o:Oper}{r:aE}
theorem Qs{τ:Ty}{l:List (List τ.V)}{i:Nat}{r:List τ.V}(h:l[i]?=some r):(l.map λr=>(gW r,iY (bH τ) r))[i]?=some (gW r,iY (bH τ) r):=by rw[dT,h];rfl
theorem a8Q{τ:Ty}(h:τ.one=true)(r:List τ.V):iY (bH τ) r=r.map (vN τ):=aLe (λy=>Jf h y) r
theorem a6u{i i' j s:Nat}(h1:1<=j)(h2:j<s):i'*s≠i*s+j:=λe=>by
 rcases Nat.lt_trichotomy i' i with h|h|h
 .have:=nB s (show i'+1<=i by omega)
  rw[jW,aMi]at this;omega
 .subst h;omega
 .have:=nB s (show i+1<=i' by omega)
  rw[jW,aMi]at this;omega
theorem a6v{κ ρ:Ty}{l:List (List κ.V×ρ.V)}{ln:Option (Int×Nat)}{i j:Nat}{y:List κ.V×ρ.V}(hy:l[i]?=some y)(h1:1<=j)(h2:j<1+ρ.size):(vF (1+ρ.size) (iY mV l) ln)[i*(1+ρ.size)+j]?=((bH ρ y.2)[j-1]?).map λt=>.q9 (.t t):=by
 have hg:=aLk (f:=mV) aMS l i j y hy h2;have:(mV y)[j]?=((bH ρ y.2)[j-1]?).map λt=>.q9 (.t t):=by
  obtain⟨j',rfl⟩:∃j',j=j'+1:=⟨j-1,by omega⟩
  unfold mV;rw[List.getElem?_cons_succ,dT];rfl
 rw[this]at hg;unfold vF;split
 .exact hg
 .rw[List.getElem?_set_ne (a6u h1 h2)];exact hg
theorem a6w{κ ρ:Ty}{l:List (List κ.V×ρ.V)}{ln:Option (Int×Nat)}{i j:Nat}{y:List κ.V×ρ.V}(hy:l[i]?=some y)(h1:1<=j){A B E:List Tree}(he:bH ρ y.2=A++E++B)(hA:A.length=j-1):
    (((vF (1+ρ.size) (iY mV l) ln).map NC.tell).drop (i*(1+ρ.size)+j)).take E.length=E.map .t:=by
 have hsz:(bH ρ y.2).length=ρ.size:=eA ρ y.2;have hl2:A.length+E.length+B.length=ρ.size:=by rw[he]at hsz;simp at hsz;omega
 apply List.ext_getElem?;intro p;rw[iX,dT];by_cases hp:p<E.length
 .rw[aJ hp,zM,dT,CT,a6v hy (by omega) (by omega),he,iC,dW (by omega),gK (by omega),show j+p-1-A.length=p by omega,Option.map_map]
  rfl
 .rw[aD hp,List.getElem?_eq_none (by omega)]
  rfl
theorem a6o{t:TypeId}{a:X}{k:X->O}(h:ZY c σ t a k=some r):∃y,k y=some r/\(a.pl=true->y.pl=true\/∃q off,a = .ref q off)/\∀{x:Operand},o.op = .load t x->σ.den.ev x=some a.D->bI c.P o σ.den fr y.D []:=by
 unfold ZY at h;split at h
 case h_2=>cases h
 rename_i rw m hrw hm;split at h
 .rename_i q off
  split at h
  .rename_i e xs hq
   have hq':=gJ hq;split at h
   .split at h
    .rename_i hb
     have hb:=cA hb;refine⟨_,h,λ_=>.inr ⟨q,off,rfl⟩,λho hx=>?_⟩;unfold X.D;rw[fO];refine Z7 hrw hm ho hx hq' ?_ (by rw[dR];exact hb);show(((xs.map X.D).drop off).take m)=_;rw[YI,aAB,bAP,bAQ]
    .cases h
   .obtain⟨y,hy,h⟩:=bL h
    refine⟨y,h,λ_=>.inr ⟨q,off,rfl⟩,λho hx=>J3 hrw ho hx hq' ?_⟩;show(xs.map X.D)[off]?=_;rw[dT,hy];rfl
  .cases h
 .rename_i q i j s
  split at h
  .rename_i e τ l st hq
   have hq':=gJ hq;split at h
   .rename_i hb
    have hb:=cA hb;subst hb;obtain⟨y,hy,h⟩:=vH h;obtain⟨τ',y',A,B,h,h2,h3,h4⟩:=Jp _ _ _ _ _ _ h;obtain⟨A',B',g1,g2⟩:=CE (f:=bH τ) (λx=>eA τ x) hy;have hcells:(XO.row e τ l st).A.cells=((A'++A)++bH τ' y'++(B++B')).map .t:=by
     show(l.flatMap (bH τ)).map D.t=_;rw[g1,h2];simp
    have hlen:(A'++A).length=i*τ.size+j:=by rw[dK,g2,h3]
    split at h
    .refine⟨_,h,λ_=>.inl rfl,λho hx=>?_⟩
     unfold X.D;rw[fO,F4];refine Z7 hrw hm ho hx hq' ?_ (by rw[dR,eA,h4]);rw[hcells,rG,rG,iC,aMv (by rw[dR];omega),oP (by rw[dR];omega),kR,aMo (by rw[dR,eA,h4];exact bZ _),Fe (by rw[dR,eA,h4];exact bZ _)]
    .have h1:Ty.one τ'=true:=by assumption
     refine⟨_,h,λ_=>.inl rfl,λho hx=>J3 hrw ho hx hq' ?_⟩;rw[hcells,rG,rG,toT h1,iC,dW (by rw[dR];omega),dR,hlen,aMh];rfl
    .cases h
   .cases h
  .rename_i e e' τ l hq
   have hq':=gJ hq;split at h
   .rename_i hb
    rw[bM]at hb;have hb1:=cA hb.1;have hb2:=cA hb.2;subst hb1 hb2;obtain⟨y,hy,h⟩:=vH h;refine⟨_,h,λ_=>.inl rfl,λho hx=>?_⟩;have hx':σ.den.ev _=some (.ref q i):=hx.trans (by show some (D.ref q (i*1+0))=_;rw[Ju,oO]);exact a5w hrw ho hx' hq' (Qs hy)
   .cases h
  .rename_i e e' κ' ρ l ln hq
   have hq':=gJ hq;split at h
   .rename_i hb
    have hb:=cA hb;subst hb;split at h
    .rename_i hj
     have hj:=cA hj;subst hj;split at h
     .rename_i i' q'
      obtain⟨hi,h⟩:=jL h;have hi:=cU hi;subst hi;obtain⟨y,hy,h⟩:=vH h;refine⟨_,h,λ_=>.inl rfl,λho hx=>J3 hrw ho hx hq' ?_⟩;have hlt:=a9I (ρ:=ρ) (l:=l) (j:=0) (dC.1 hy).1 (by omega);show((vF (1+ρ.size) (iY mV l) (some (i',q'))).map NC.tell)[i'.toNat*(1+ρ.size)+0]?=some (.own q');rw[oO]at hlt ⊢;unfold vF;rw[dT,List.getElem?_set_self hlt];rfl
     .cases h
    .rename_i hj
     have hj0:j≠0:=λe=>by subst e;cases hj
     obtain⟨y,hy,h⟩:=vH h;obtain⟨τ',y',A,B,h,h2,h3,h4⟩:=Jp _ _ _ _ _ _ h;have hcut:=a6w (ln:=ln) hy (by omega) h2 h3;rw[eA,<-h4]at hcut;split at h
     .refine⟨_,h,λ_=>.inl rfl,λho hx=>?_⟩
      unfold X.D;rw[fO,F4];exact Z7 hrw hm ho hx hq' hcut (by rw[dR,eA,h4])
     .have h1:Ty.one τ'=true:=by assumption
      refine⟨_,h,λ_=>.inl rfl,λho hx=>J3 hrw ho hx hq' ?_⟩;have:=bE (λl=>l[0]?) hcut;simp only[iX,zM,oO]at this;rw[aJ (by rw[h4];exact size_pos τ'),toT h1]at this;exact this
     .cases h
   .cases h
  .cases h
 .rename_i q i j
  split at h
  .rename_i e e' τ l hq
   have hq':=gJ hq;split at h
   .rename_i h1
    obtain⟨y,hy,h⟩:=vH h;obtain⟨z,hz,h⟩:=vH h;refine⟨_,h,λ_=>.inl rfl,λho hx=>?_⟩;rw[qZ h1];exact a5v hrw ho hx hq' (Qs hy) (by show(iY (bH τ) y)[j]?=_;rw[a8Q h1,dT,hz];rfl)
   .cases h
  .cases h
 .rename_i τ y j
  obtain⟨τ',y',A,B,h,h2,h3,h4⟩:=Jp _ _ _ _ _ _ h;split at h
  .refine⟨_,h,λ_=>.inl rfl,λho hx=>?_⟩
   unfold X.D;rw[fO,F4];refine lpn hrw hm ho hx ?_ (by rw[eA,h4]);rw[h2,iC,aMv (by omega),oP (by omega),kR,aMo (by rw[eA,h4];exact bZ _),Fe (by rw[eA,h4];exact bZ _)]
  .have h1:Ty.one τ'=true:=by assumption
   refine⟨_,h,λ_=>.inl rfl,λho hx=>?_⟩;rw[qZ h1];refine lp1 hrw ho hx ?_;rw[h2,Jf h1,iC,dW (by omega),h3,aMh];rfl
  .cases h
 .cases h
theorem YX{α:Type}{A B new:List α}{j:Nat}(h:A.length<=j):dG (A++B) j new=A++dG B (j-A.length) new:=by
 simp only[dG];rw[bAF,bAW,Fe h,oP (by omega),kR,show j+new.length-A.length=j-A.length+new.length by omega];simp
theorem YY{α:Type}{A B new:List α}{j:Nat}(h:j+new.length<=A.length):dG (A++B) j new=dG A j new++B:=by
 simp only[dG];rw[aMo (by omega),aMv h];simp
theorem Y8{H:Nat->Option aZ}:∀(τ:Ty)(x:τ.V)(j m:Nat)(xs:List X)(k:τ.V->O),setAt τ x j m xs k=some r->∃(y:τ.V)(new:List Tree),k y=some r/\eJ H (xs.map X.D) (new.map .t)/\j+new.length<=τ.size/\bH τ y=dG (bH τ x) j new
 |.pr a b,x,j,m,xs,k,h=>by
   unfold setAt at h;split at h
   .rename_i hb
    rw[bM]at hb;have hj:=cA hb.1;subst hj;obtain⟨y,hy,h⟩:=bL h;refine⟨y,bH _ y,h,sO hy,by rw[eA];omega,?_⟩;simp[dG,eA,oP]
   .split at h
    .rename_i hlt
     have hlt:j<a.size:=fN hlt;obtain⟨y,new,h1,h2,h3,h4⟩:=Y8 (H:=H) a x.1 j m xs (λy=>k (y,x.2)) h;refine⟨(y,x.2),new,h1,h2,by simp only[Ty.size];omega,?_⟩;show bH a y++bH b x.2=dG (bH a x.1++bH b x.2) j new;have hA:=eA a x.1;rw[h4,YY (by omega)]
    .rename_i hlt
     have hge:a.size<=j:=Nat.le_of_not_lt λhj=>by
      have:Nat.blt j a.size=true:=aAl hj;rw[this]at hlt;cases hlt
     obtain⟨y,new,h1,h2,h3,h4⟩:=Y8 (H:=H) b x.2 (j-a.size) m xs (λy=>k (x.1,y)) h;refine⟨(x.1,y),new,h1,h2,by simp only[Ty.size];omega,?_⟩;show bH a x.1++bH b y=dG (bH a x.1++bH b x.2) j new;have hA:=eA a x.1;rw[h4,YX (by omega),hA]
 |.ex,x,j,m,xs,k,h=>by
   unfold setAt at h;split at h
   .obtain⟨y,hy,h⟩:=bL h
    refine⟨y,bH _ y,h,sO hy,by rw[eA];omega,?_⟩;have h1:=eA .ex x;have h2:=eA .ex y;simp only[dG,aAn,kR,fJ];rw[oP (by omega),rI]
   .cases h
 |.i a,x,j,m,xs,k,h=>by
   unfold setAt at h;split at h
   .rename_i hb
    rw[bM]at hb;have hj:=cA hb.1;subst hj;obtain⟨y,hy,h⟩:=bL h;exact⟨y,bH _ y,h,sO hy,by rw[eA];omega,rfl⟩
   .cases h
 |.u8,x,j,m,xs,k,h=>by
   unfold setAt at h;split at h
   .rename_i hb
    rw[bM]at hb;have hj:=cA hb.1;subst hj;obtain⟨y,hy,h⟩:=bL h;exact⟨y,bH _ y,h,sO hy,by rw[eA];omega,rfl⟩
   .cases h
 |.bo,x,j,m,xs,k,h=>by
   unfold setAt at h;split at h
   .rename_i hb
    rw[bM]at hb;have hj:=cA hb.1;subst hj;obtain⟨y,hy,h⟩:=bL h;exact⟨y,bH _ y,h,sO hy,by rw[eA];omega,rfl⟩
   .cases h
 |.tx,x,j,m,xs,k,h=>by
   unfold setAt at h;split at h
   .rename_i hb
    rw[bM]at hb;have hj:=cA hb.1;subst hj;obtain⟨y,hy,h⟩:=bL h;exact⟨y,bH _ y,h,sO hy,by rw[eA];omega,rfl⟩
   .cases h
 |.sl a,x,j,m,xs,k,h=>by
   unfold setAt at h;split at h
   .rename_i hb
    rw[bM]at hb;have hj:=cA hb.1;subst hj;obtain⟨y,hy,h⟩:=bL h;exact⟨y,bH _ y,h,sO hy,by rw[eA];omega,rfl⟩
   .cases h
theorem aL7(σ:Vw)(q:Nat):σ.lD (.own q)=match σ.H q with|some (.row _ τ l true)=>.e (.sl τ) l|_=>.own q:=rfl
theorem a9G{x:X}{new:List Tree}(hv:x.val=true)(h:eJ σ.den.H ((σ.qW x).cells.map X.D) (new.map .t))(hl:x.cells.length=new.length):∃d,cG σ.den.H x.D d/\d.cells=new.map .t/\d.val=true:=by
 have one:x.cells=[x]->(σ.qW x).cells=[σ.lD x]->∃d,cG σ.den.H x.D d/\d.cells=new.map .t/\d.val=true:=λe1 e2=>by
  rw[e1]at hl;rw[e2]at h
  match new,hl,h with
  |[t],_,h=>cases h with|cons h _=>exact⟨.t t,(FU σ x).trans h,rfl,rfl⟩
 cases x with
 |agg xs=>
   refine⟨.agg (new.map .t),?_,rfl,rfl⟩;have e:(σ.qW (.agg xs)).cells.map X.D=(xs.map σ.lD).map X.D:=rfl;rw[e]at h;have hw:eJ σ.den.H (xs.map X.D) ((xs.map σ.lD).map X.D):=by
    rw[List.map_map];exact eJ.of_map (f:=X.D) (g:=X.D ∘ σ.lD) λx _=>FU σ x
   unfold X.D;rw[fO];exact cG.agg (hw.trans h)
 |bD xs=>cases hv
 |eX a b c=>cases hv
 |bit a b=>cases hv
 |own q=>
   refine one rfl ?_;show(σ.lD (.own q)).cells=_;rw[aL7];split <;> rfl
 |e τ y=>exact one rfl rfl
 |cC=>exact one rfl rfl
 |ref a b=>exact one rfl rfl
 |rr a b d e=>exact one rfl rfl
 |pt a b d=>exact one rfl rfl
 |fn a b=>exact one rfl rfl
 |v w=>exact one rfl rfl
 |sub a b=>exact one rfl rfl
 |jH a b d=>exact one rfl rfl
 |vw a b d e=>exact one rfl rfl
 |via a b=>exact one rfl rfl
 |dY v=>exact one rfl rfl
theorem aLf{α:Type}{f:α->List Tree}{s:Nat}(hf:∀x,(f x).length=s){l:List α}{i:Nat}{y z:α}{A B new:List Tree}{j:Nat}(hl:l.flatMap f=A++f y++B)(hA:A.length=i*s)(hi:i<l.length)(hz:f z=dG (f y) j new)(hn:j+new.length<=s):
    (l.set i z).flatMap f=dG (l.flatMap f) (i*s+j) new:=by
 have h1:=aLg hf (x:=z) (l:=l) (i:=i) hi;rw[<-h1,hl,hz];have hy:=hf y;have hs:(dG (f y) j new).length=s:=by rw[Br (by omega),hy]
 rw[iC];have e1:dG (A++(f y++B)) (i*s) (dG (f y) j new)=A++(dG (f y) 0 (dG (f y) j new)++B):=by
  rw[YX (by omega),hA,aMh,YY (by omega)]
 have e2:dG (A++(f y++B)) (i*s+j) new=A++(dG (f y) j new++B):=by
  rw[YX (by omega),hA,show i*s+j-i*s=j by omega,YY (by omega)]
 rw[e1,e2]
 congr 2
 show(f y).take 0++dG (f y) j new++(f y).drop (0+(dG (f y) j new).length)=_;rw[aAn,kR,oP (by omega),rI]
theorem a9j(l:List Tree):vQ (l.map .t)=some l:=by
 induction l with
 |nil=>rfl
 |cons x l ih=>simp[vQ,ih]
theorem a4J{t:TypeId}{a y:X}{k:X->Wx->O}(h:YK c σ t a y k=some r):∃W,k (.bD []) W=some r/\∀{x z:Operand},o.op = .store t x z->σ.den.ev x=some a.D->σ.den.ev z=some y.D->y.val=true->bI c.P o σ.den fr (.bD []) (WA W):=by
 unfold YK at h;split at h
 case h_2=>cases h
 rename_i m hm;split at h
 case h_2=>cases h
 rename_i hb;rw[bM]at hb;have hb1:=cA hb.1;have hb2:0<m:=fN hb.2;split at h
 .rename_i q off
  split at h
  .rename_i e xs hq
   have hq':=gJ hq;split at h
   .rename_i hle
    have hle:=fN hle;refine⟨_,h,λho hx hz hv=>?_⟩;have hc:=R9 hv;have hp:lA xs off y.cells=dG xs off y.cells:=Qc _ _ _ (by omega);refine Bx (d:=y.D) (ob':=(XO.box e (lA xs off y.cells)).A) ho ?_ hx (.ev hz) (Io hv) hq' ?_ ?_
    .rw[hc,dR,hb1];exact hm
    .show(if off+y.D.cells.length<=(xs.map X.D).length then _ else none)=_
     rw[hc,dR,dR,aJ (by omega),hp];simp only[XO.A,YW]
    .rw[hc,dR];omega
   .cases h
  .cases h
 .rename_i q i j s
  split at h
  .rename_i e τ l hq
   have hq':=gJ hq;split at h
   .rename_i hs
    have hs:=cA hs;subst hs;obtain⟨z0,hz0,h⟩:=vH h;obtain⟨z1,new,h,h2,h3,h4⟩:=Y8 (H:=σ.den.H) τ z0 j m (σ.qW y).cells _ h;refine⟨_,h,λho hx hz hv=>?_⟩;have hgl:(σ.qW y).cells.length=y.cells.length:=by
     have e1:=(eJ.len h2);cases y with
     |agg xs=>show(xs.map σ.lD).length=xs.length;simp
     |own q=>
       show(σ.lD (.own q)).cells.length=1;rw[aL7];split <;> rfl
     |_=>rfl
    have hnl:y.cells.length=new.length:=by
     have:=h2.len;simp only[dR]at this;omega
    obtain⟨d,hw,hdc,hdv⟩:=a9G hv h2 hnl;obtain⟨A,B,g1,g2⟩:=CE (f:=bH τ) (λx=>eA τ x) hz0;have hi:i<l.length:=(dC.1 hz0).1;have hset:=aLf (f:=bH τ) (λx=>eA τ x) (z:=z1) g1 g2 hi h4 h3;have hfl:=CI l;have hbound:i*τ.size+j+new.length<=l.length*τ.size:=by
     have:(i+1)*τ.size<=l.length*τ.size:=nB _ hi;rw[jW,aMi]at this;omega
    refine Bx (d:=d) (ob':=(XO.row e τ (l.set i z1) false).A) ho ?_ hx (.wk hz hw) hdv hq' ?_ ?_
    .rw[hdc,dR,<-hnl,hb1];exact hm
    .rw[hdc]
     show(if i*τ.size+j+(new.map D.t).length<=(l.flatMap (bH τ)).length/\false=false then(vQ (new.map D.t)).map _ else none)=_;rw[dR,aJ ⟨by omega,rfl⟩,a9j];simp only[lG,XO.A,hset,List.length_set]
    .rw[hdc,dR];omega
   .cases h
  .cases h
 .cases h
end
end Go.Ax
/- Operations: addresses, parts, rows that are made. -/
namespace Go.Ax
open aA
open Go.RowKit Go.Ab
theorem Jq{x:X}{k:Int->O}{r:aE}(h:asInt x k=some r):∃ik n,x.D = .t (.v (.int ik n))/\k n=some r:=by
 unfold asInt at h;split at h
 .exact⟨_,_,rfl,h⟩
 .exact⟨_,_,rfl,h⟩
 .cases h
theorem aLO{τ:Ty}(h1:τ.one=true):∀{xs:List X}{l:List τ.V},RC τ xs=some l->xs.length=l.length/\∀(H:Nat->Option aZ)(i:Nat)(y:τ.V),l[i]?=some y->∃x,xs[i]?=some x/\cG H x.D (X.e τ y).D
 |[],l,h=>by cases h;exact⟨rfl,λH i y h=>by simp at h⟩
 |x::r,l,h=>by
   unfold RC at h;split at h
   .rename_i y hy
    split at h
    .rename_i l' hl
     cases h;obtain⟨e1,e2⟩:=aLO h1 hl;refine⟨by simp[e1],λH i z hz=>?_⟩;cases i with
     |zero=>simp at hz;subst hz;exact⟨x,rfl,by rw[qZ h1];exact qN h1 hy⟩
     |succ i=>exact e2 H i z (by simpa using hz)
    .cases h
   .cases h
section
variable{P:Program}{o:Oper}{s:St}{fr:Nat}
theorem a5x{t e:TypeId}{x y:Operand}{m:Nat}{ds:List D}{ik:IntKind}{n:Int}{d:D}(hu:P.underlying t=some (.array m e))(he:kI P e=some false)(hs:iP P e=some 1)(ho:o.op = .index t x y)(hx:s.ev x=some (.agg ds))(hy:s.ev y=some (.t (.v (.int ik n))))(hl:ds.length=m)(h0:0<=n)(hd:ds[n.toNat]?=some d):bI P o s fr d []:=
 dV λ_ _ _ _ w a _ _ hev=>by
  have h1:=hev x _ hx;have h2:=cL (hev y _ hy);obtain⟨v,hv⟩:∃v,a.eval x=v:=⟨_,rfl⟩
  rw[hv]at h1;cases h1 with
  | @agg vs _ hsz hr h1c=>
    have hn:n.toNat<vs.size:=by rw[hsz];exact(dC.1 hd).1
    refine⟨vs[n.toNat],?_,hr _ _ d (p8 hn) hd⟩;obtain⟨dsc,g1,g2⟩:=qM he;obtain⟨inf,hinf,hsz1⟩:=cV.1 hs;have hagg:(isAgg e).run P w = .ok false w:=by
     unfold isAgg;rw[Sem.run_bind,run_underlying g1 w];cases dsc <;> simp_all [TypeDesc.isRow]
    have hlt:n<(m:Int):=by omega
    unfold execOp;rw[ho];simp[hv,h2,Instr.index,asIntOf,run_underlying hu,h0,hlt,sizeOf,typeInfo,hinf,hsz1,part,hagg,hn]
theorem a6G{t:TypeId}{x:Operand}{f:Nat}{fs:Array Field}{fl:Field}{ds:List D}{d:D}(hu:P.underlying t=some (.struct fs))(hf:fs[f]?=some fl)(he:kI P fl.type=some false)(ho:o.op = .field t x f)(hx:s.ev x=some (.agg ds))(hd:ds[fl.offset]?=some d):bI P o s fr d []:=
 dV λ_ _ _ _ w a _ _ hev=>by
  have h1:=hev x _ hx;obtain⟨v,hv⟩:∃v,a.eval x=v:=⟨_,rfl⟩
  rw[hv]at h1;cases h1 with
  | @agg vs _ hsz hr h1c=>
    have hn:fl.offset<vs.size:=by rw[hsz];exact(dC.1 hd).1
    refine⟨vs[fl.offset],?_,hr _ _ d (p8 hn) hd⟩;obtain⟨dsc,g1,g2⟩:=qM he;have hagg:(isAgg fl.type).run P w = .ok false w:=by
     unfold isAgg;rw[Sem.run_bind,run_underlying g1 w];cases dsc <;> simp_all [TypeDesc.isRow]
    unfold execOp;rw[ho];simp[hv,Instr.field,run_underlying hu,hf,part,asAgg,hagg,hn]
theorem a6F{t:TypeId}{x:Operand}{f m:Nat}{fs:Array Field}{fl:Field}{ds out:List D}(hu:P.underlying t=some (.struct fs))(hf:fs[f]?=some fl)(he:kI P fl.type=some true)(hm:iP P fl.type=some m)(ho:o.op = .field t x f)(hx:s.ev x=some (.agg ds))(hd:(ds.drop fl.offset).take m=out)(hl:out.length=m):bI P o s fr (.agg out) []:=
 dV λ_ _ ν G w a _ _ hev=>by
  have h1:=hev x _ hx;obtain⟨v,hv⟩:∃v,a.eval x=v:=⟨_,rfl⟩
  rw[hv]at h1;cases h1 with
  | @agg vs _ hsz hr h1c=>
    have hlen:fl.offset+m<=vs.size\/m=0:=by
     rw[<-hd]at hl;simp at hl;omega
    refine⟨.agg (vs.extract fl.offset (fl.offset+m)),?_,.agg ?_ (λi u d hu' hd'=>?_) (λu hu'=>?_)⟩
    .obtain⟨dsc,g1,g2⟩:=qM he
     obtain⟨inf,hinf,hsz1⟩:=cV.1 hm;have hagg:(isAgg fl.type).run P w = .ok true w:=by
      unfold isAgg;rw[Sem.run_bind,run_underlying g1 w];cases dsc <;> simp_all [TypeDesc.isRow]
     unfold execOp;rw[ho];simp[hv,Instr.field,run_underlying hu,hf,part,asAgg,hagg,sizeOf,typeInfo,hinf,hsz1]
    .rw[hl];simp;omega
    .rw[<-hd,iX]at hd'
     split at hd'
     .rename_i hi
      rw[zM]at hd';rw[Array.getElem?_extract]at hu';split at hu'
      .exact hr _ u d hu' hd'
      .cases hu'
     .cases hd'
    .refine h1c u ?_
     rw[bA8]at hu';exact List.mem_of_mem_drop (List.mem_of_mem_take (by simpa[List.extract]using hu'))
end
theorem YV{τ:Ty}:∀(n:Nat)(σ:Ty)(y:σ.V)(l:List τ.V),n5 τ n σ y=some l->bH σ y=l.flatMap (bH τ)
 |0,σ,y,l,h=>by unfold n5 at h;cases h
 |1,σ,y,l,h=>by
   unfold n5 at h;split at h
   .rename_i he _
    cases h;rw[jX,aMT,List.flatMap_nil,rI]
   .cases h
 |n+2,.pr a b,y,l,h=>by
   unfold n5 at h;split at h
   .rename_i he _
    split at h
    .rename_i l' hl
     cases h;rw[jX,aMT,<-YV (n+1) b y.2 l' hl];rfl
    .cases h
   .cases h
 |n+2,.i _,y,l,h=>by unfold n5 at h;cases h
 |n+2,.u8,y,l,h=>by unfold n5 at h;cases h
 |n+2,.bo,y,l,h=>by unfold n5 at h;cases h
 |n+2,.tx,y,l,h=>by unfold n5 at h;cases h
 |n+2,.ex,y,l,h=>by unfold n5 at h;cases h
 |n+2,.sl _,y,l,h=>by unfold n5 at h;cases h
section
variable{c:Cx}{σ:Vw}{κ:Nat->Bool}{fr:Nat}{o:Oper}{r:aE}
theorem a74{t:TypeId}{a x:X}{k:X->O}(h:Zd c σ t a x k=some r):∃y,k y=some r/\y.pl=true/\(σ.On->∀{xa xn:Operand},o.op = .indexAddr t xa xn->σ.den.ev xa=some a.D->σ.den.ev xn=some x.D->bI c.P o σ.den fr y.D []):=by
 unfold Zd at h;replace h:=Jq h;obtain⟨ik,n,hx,h⟩:=h;split at h
 .rename_i τ l
  split at h
  .rename_i s hs
   split at h
   .rename_i hb
    have hb:=cA hb;subst hb;obtain⟨y,h1,h2⟩:=FR h;refine⟨_,h1,rfl,λhon xa xn ho ha hn=>?_⟩;obtain⟨g1,g2⟩:=h2 hon.g;rw[hx]at hn;have hlt:n<(gW l:Nat):=by have:=(dC.1 g2).1;omega
    have:=a6A (P:=c.P) (fr:=fr) ho hs ha hn g1 hlt;obtain⟨A,B,e1,e2⟩:=CE (f:=bH τ) (λx=>eA τ x) g2;have e1':iY (bH τ) l=A++bH τ y++B:=e1;rw[e1']at this;exact Rw this (cG.ptr e2)
   .cases h
  .cases h
 .rename_i q
  split at h
  .rename_i e τ l st s hq hs
   split at h
   .rename_i hb
    have hb:=cA hb;subst hb;split at h
    .obtain⟨y,h1,h2⟩:=FR h
     refine⟨_,h1,rfl,λhon xa xn ho ha hn=>?_⟩;obtain⟨g1,g2⟩:=h2 hon.g;rw[hx]at hn;have hlt:n<(l.length:Nat):=by have:=(dC.1 g2).1;omega
     have hq':σ.den.H q=some (.row e τ.size l.length (l.flatMap (bH τ)) true):=gJ hq;have:=aKj (P:=c.P) (fr:=fr) ho hs ha hq' hn g1 hlt;obtain⟨A,B,e1,e2⟩:=CE (f:=bH τ) (λx=>eA τ x) g2;rw[e1]at hq';exact Rw this (cG.a4o hq' e2)
    .obtain⟨h1,h2⟩:=oG h
     refine⟨_,h1,rfl,λhon xa xn ho ha hn=>?_⟩;obtain⟨g1,g2⟩:=cU (h2 hon.g);rw[hx]at hn;have hq':σ.den.H q=some (.row e τ.size l.length (l.flatMap (bH τ)) false):=gJ hq;have:=aKj (P:=c.P) (fr:=fr) ho hs ha hq' hn g1 g2;exact this
   .cases h
  .rename_i e e' τ l s hq hs
   split at h
   .rename_i hb
    have hb:=cA hb;subst hb;obtain⟨hd,h⟩:=jL h;refine⟨_,h,rfl,λhon xa xn ho ha hn=>?_⟩;obtain⟨g1,g2⟩:=cU hd;rw[hx]at hn;have:=a6D (P:=c.P) (fr:=fr) hs ho ha (gJ hq) hn g1 (by rw[dR];exact g2);have e:(X.rr q n.toNat 0 1).D = .ref q n.toNat:=by show D.ref q (n.toNat*1+0)=_;rw[Ju,oO]
    rw[e];exact this
   .cases h
  .rename_i e e' κ' ρ l ln s hq hs
   split at h
   .rename_i hb
    have hb:=cA hb;subst hb;obtain⟨h1,h2⟩:=oG h;refine⟨_,h1,rfl,λhon xa xn ho ha hn=>?_⟩;obtain⟨g1,g2⟩:=cU (h2 hon.g);rw[hx]at hn;exact a6B (P:=c.P) (fr:=fr) hs ho ha (gJ hq) hn g1 g2
   .cases h
  .cases h
 .rename_i q i
  split at h
  .rename_i e e' τ l s hq hs
   split at h
   .rename_i hb
    have hb:=cA hb;subst hb;obtain⟨y,hy,h⟩:=vH h;obtain⟨hd,h⟩:=jL h;refine⟨_,h,rfl,λhon xa xn ho ha hn=>?_⟩;obtain⟨g1,g2⟩:=cU hd;rw[hx]at hn;exact a6C (P:=c.P) (fr:=fr) hs ho ha (gJ hq) (Qs hy) hn g1 g2
   .cases h
  .cases h
 .rename_i q off
  split at h
  .rename_i m s hs
   split at h
   .rename_i hb
    obtain⟨g1,g2⟩:=cU hb;refine⟨_,h,rfl,λhon xa xn ho ha hn=>?_⟩;rw[hx]at hn;exact aKk ho hs ha hn g1 g2
   .cases h
  .cases h
 .rename_i ρ y0
  split at h
  .rename_i m0 e m s hu hs
   split at h
   .rename_i τ _
    split at h
    .rename_i l hl
     split at h
     .rename_i hb
      rw[bM]at hb;have hb1:=cA hb.1;have hb2:=cA hb.2;subst hb1;obtain⟨y,h1,h2⟩:=FR h;refine⟨_,h1,rfl,λhon xa xn ho ha hn=>?_⟩;obtain⟨g1,g2⟩:=h2 hon.g;rw[hx]at hn;have hlt:n<(m:Nat):=by rw[<-hb2];have:=(dC.1 g2).1;omega
      have:=a5z (P:=c.P) (fr:=fr) ho hs ha hn g1 hlt;obtain⟨A,B,e1,e2⟩:=CE (f:=bH τ) (λx=>eA τ x) g2;rw[fJ,YV _ _ _ _ hl,e1]at this;exact Rw this (cG.ptr e2)
     .cases h
    .cases h
   .cases h
  .cases h
 .cases h
theorem a71{t:TypeId}{a x:X}{k:X->O}(h:Zb c t (σ.g.map (·.2)) a x k=some r):∃y,k y=some r/\y.pl=true/\(σ.On->∀{xa xn:Operand},o.op = .index t xa xn->σ.den.ev xa=some a.D->σ.den.ev xn=some x.D->bI c.P o σ.den fr y.D []):=by
 unfold Zb at h;replace h:=Jq h;obtain⟨ik,n,hx,h⟩:=h;split at h
 .rename_i l hu
  obtain⟨y,h1,h2⟩:=FR h;refine⟨_,h1,rfl,λhon xa xn ho ha hn=>?_⟩;obtain⟨g1,g2⟩:=h2 hon.g;rw[hx]at hn;exact a5y hu ho ha hn g1 g2
 .rename_i m e τ y0 rs hu
  split at h
  .rename_i hb he hs
   rw[bM]at hb;obtain⟨hb1,hb2⟩:=hb;have hb2:=cA hb2;obtain⟨l,hl,h⟩:=bL h;obtain⟨y,h1,h2⟩:=FR h;refine⟨_,h1,rfl,λhon xa xn ho ha hn=>?_⟩;obtain⟨g1,g2⟩:=h2 hon.g;rw[hx]at hn;obtain⟨e1,e2⟩:=aLO hb1 hl;obtain⟨x',hx',hw⟩:=e2 σ.den.H _ _ g2;have ha':σ.den.ev xa=some (.agg ((X.e τ y0::rs).map X.D)):=by rw[ha,X.D,fO]
   refine Rw (a5x hu he hs ho ha' hn (by simp[hb2]) g1 (d:=x'.D) (by rw[dT,hx'];rfl)) hw
  .cases h
 .cases h
theorem a8V{t:TypeId}{f:Nat}{a:X}{k:X->O}(h:Zu c t f a k=some r):∃y,k y=some r/\y.pl=true/\(∀{xa:Operand},o.op = .fieldAddr t xa f->σ.den.ev xa=some a.D->bI c.P o σ.den fr y.D []):=by
 unfold Zu at h;obtain⟨q,hq,h⟩:=bL h;split at h
 .exact⟨_,h,rfl,λho ha=>aKn ho hq ha⟩
 .refine⟨_,h,rfl,λho ha=>?_⟩
  have:=aKn (P:=c.P) (fr:=fr) ho hq ha
  rwa [CT]at this
 .exact⟨_,h,rfl,λho ha=>a6E ho hq ha⟩
 .cases h
theorem a8U{t:TypeId}{f:Nat}{a:X}{k:X->O}(h:Zt c t f a k=some r):∃y,k y=some r/\(∀{xa:Operand},o.op = .field t xa f->σ.den.ev xa=some a.D->bI c.P o σ.den fr y.D []):=by
 unfold Zt at h;split at h
 .rename_i fs xs hu
  split at h
  .rename_i fl hf
   split at h
   .rename_i rw m hr hm
    split at h
    .split at h
     .rename_i hb
      have hb:=cA hb;refine⟨_,h,λ{xa} ho ha=>?_⟩;have ha':σ.den.ev xa=some (.agg (xs.map X.D)):=by rw[ha,X.D,fO]
      rw[X.D,fO];refine a6F hu hf hr hm ho ha' ?_ (by rw[dR];exact hb);rw[YI,aAB,bAP,bAQ]
     .cases h
    .obtain⟨y,hy,h⟩:=bL h
     refine⟨y,h,λ{xa} ho ha=>?_⟩;have ha':σ.den.ev xa=some (.agg (xs.map X.D)):=by rw[ha,X.D,fO]
     exact a6G hu hf hr ho ha' (by rw[dT,hy];rfl)
   .cases h
  .cases h
 .cases h
end
end Go.Ax
/- Operations: variables, literals, rows, slices, conversions. -/
namespace Go.Ax
open aA
open Go.RowKit Go.Ab
theorem aKt(v:Value)(h1:∀vs,v≠.tuple vs)(h2:∀cs,v≠.agg cs):(oA v).D = .t (.v v):=by
 unfold oA;split
 .split
  .exact aJk _ (cU ‹_›)
  .rfl
 all_goals rfl
theorem ZC{z:Value}{x:X}(h:sJ z=some x):F3 z=true/\x.D=jI z/\x.cells.map X.D=z.cells.toList.map (λu=>D.t (.v u))/\(∀u∈z.cells.toList,u.oneCell'=true)/\(jI z).cells=x.cells.map X.D/\x.val=true:=by
 have hev:=ZB (σ:=⟨[],[],0⟩) h;unfold St.ev at hev;unfold sJ at h;split at h
 .rename_i cs
  split at h
  .rename_i ha
   cases h;have hmem:∀u∈cs.toList,u.oneCell'=true:=List.all_eq_true.1 ha
   have hc:(cs.toList.map oA).map X.D=cs.toList.map (λu=>D.t (.v u)):=by
    rw[List.map_map];refine List.map_congr_left λv hv=>aKt v (λvs e=>?_) (λcs' e=>?_)
    .have:=hmem v hv;rw[e]at this;cases this
    .have:=hmem v hv;rw[e]at this;cases this
   refine⟨ha,?_,hc,hmem,hc.symm,rfl⟩;unfold X.D;rw[fO,hc];rfl
  .cases h
 .cases h
 .rename_i h2 h3
  cases h;have hD:=aKt z (λvs e=>h3 vs e) (λcs e=>h2 cs e);have hone:z.oneCell'=true:=by
   cases z with
   |agg cs=>exact absurd rfl (h2 cs)
   |tuple vs=>exact absurd rfl (h3 vs)
   |_=>rfl
  have hcz:z.cells.toList=[z]:=by rw[aMR hone]
  have hov:jI z = .t (.v z):=by
   cases z with
   |agg cs=>exact absurd rfl (h2 cs)
   |_=>rfl
  have hxc:(oA z).cells=[oA z]:=by
   unfold oA;split
   .split <;> rfl
   all_goals rfl
  refine⟨?_,by rw[hD,hov],by rw[hxc,hcz];simp[hD],λu hu=>?_,by rw[hov,hxc];simp[hD,D.cells],?_⟩
  .cases z with
   |agg cs=>exact absurd rfl (h2 cs)
   |tuple vs=>exact absurd rfl (h3 vs)
   |_=>rfl
  .rw[hcz]at hu;rw[List.mem_singleton.1 hu];exact hone
  .unfold oA
   split
   .split <;> rfl
   all_goals rfl
theorem aBF{P:Program}{t:TypeId}{x:X}(h:wD P t=some x):∃z,(P.info? t).bind (·.zero)=some z/\sJ z=some x:=by
 unfold wD at h;split at h
 .exact⟨_,‹_›,h⟩
 .cases h
theorem aLH{α β:Type}{f:α->Option β}:∀{l:List α}{r:List β},yM f l=some r->l.mapM f=some r
 |[],r,h=>by cases h;rfl
 |x::l,r,h=>by
   unfold yM at h;split at h
   .rename_i y hy
    split at h
    .rename_i r' hr
     cases h;simp[List.mapM_cons,hy,aLH hr]
    .cases h
   .cases h
theorem a9T{P:Program}{t:TypeId}{z:Value}{x:X}{pl:List (Nat×Nat)}(hz:(P.info? t).bind (·.zero)=some z)(hx:sJ z=some x)(hp:places P t=some pl):aND P t z.cells.toList pl:=by
 obtain⟨_,_,_,h1,_⟩:=ZC hx;refine⟨h1,?_⟩;obtain⟨i,hi,hz'⟩:=lH.1 hz;unfold places at hp;split at hp
 .rename_i fs hu
  have hm:=aLH hp;have hm':fs.toList.mapM (λf=>(P.info? f.type).map λi=>(f.offset,i.size))=some pl:=by
   rw[<-hm]
   congr 1
   funext f
   unfold iP;cases P.info? f.type <;> rfl
  refine⟨λi=>pl.toArray[i]?,λi p h=>by simpa using h,λparts=>?_⟩;unfold Program.built;simp only[hi,hu,hz',hm']
 .rename_i n e hu
  split at hp
  .rename_i m hm
   cases hp;unfold iP at hm;obtain⟨ie,hie,rfl⟩:=cV.1 hm;refine⟨λi=>some (i*ie.size,ie.size),λi p h=>?_,λparts=>?_⟩
   .rw[dT]at h
    obtain⟨j,hj,rfl⟩:=cV.1 h;have:=(dC.1 hj).2;simp at this;simp[this]
   .unfold Program.built
    simp only[hi,hu,hz',hie]
  .cases hp
 .cases hp
theorem Zw{σ:Vw}:∀{l:List (Nat×Operand)}{k:List (Nat×X)->O}{r:aE},σ.CH l k=some r->∃xs,k xs=some r/\xs.length=l.length/\∀(i:Nat)(p:Nat×X),xs[i]?=some p->∃x,l[i]?=some (p.1,x)/\σ.ev x=some p.2
 |[],k,r,h=>⟨[],h,rfl,λi p h=>by simp at h⟩
 |(i0,x)::l,k,r,h=>by
   unfold Vw.CH at h;obtain⟨y,hy,h⟩:=bL h;obtain⟨xs,h1,h2,h3⟩:=Zw h;refine⟨(i0,y)::xs,h1,by simp[h2],λi p hp=>?_⟩;cases i with
   |zero=>simp at hp;subst hp;exact⟨x,rfl,hy⟩
   |succ i=>exact h3 i p (by simpa using hp)
theorem Ys{σ:Vw}{κ:Nat->Bool}(hσ:σ.Ok κ)(hon:σ.On):∀(l:List (Nat×Operand))(xs:List (Nat×X))(ds:List (Nat×D)),xs.length=l.length->(∀(i:Nat)(p:Nat×X),xs[i]?=some p->∃x,l[i]?=some (p.1,x)/\σ.ev x=some p.2)->
    xs.length=ds.length->(∀(i:Nat)(p:Nat×X)(q:Nat×D),xs[i]?=some p->ds[i]?=some q->p.1=q.1/\cG σ.den.H p.2.D q.2)->zI σ.den l ds
 |[],[],[],_,_,_,_=>.nil
 |[],[],_::_,_,_,h,_=>by cases h
 |[],_::_,_,h,_,_,_=>by cases h
 |_::_,[],_,h,_,_,_=>by cases h
 |_::_,_::_,[],_,_,h,_=>by cases h
 |(i0,x0)::l,(i1,y)::xs,(i2,d)::ds,h1,h2,h3,h4=>by
   obtain⟨x,e1,e2⟩:=h2 0 _ rfl;simp at e1;obtain⟨rfl,rfl⟩:=e1;obtain⟨e3,e4⟩:=h4 0 _ _ rfl rfl;simp only at e3 e4;subst e3;exact .cons (bV hσ hon e2) e4 (Ys hσ hon l xs ds (by simpa using h1) (λi p hp=>by simpa using h2 (i+1) p (by simpa using hp)) (by simpa using h3) (λi p q hp hq=>h4 (i+1) p q (by simpa using hp) (by simpa using hq)))
theorem aLn{pl:List (Nat×Nat)}:∀(xs:List (Nat×X))(cells:List X)(k:List X->O)(r:aE),Jb pl cells xs k=some r->∃out,k out=some r/\oE pl (cells.map X.D) (xs.map λp=>(p.1,p.2.D))=some (out.map X.D)
 |[],cells,k,r,h=>⟨cells,h,rfl⟩
 |(i,x)::rest,cells,k,r,h=>by
   unfold Jb at h;split at h
   .rename_i off m hp
    split at h
    .rename_i hb
     simp only[bM]at hb;obtain⟨⟨b1,b2⟩,b3⟩:=hb;have b2:=cA b2;have b3:=fN b3;obtain⟨out,h1,h2⟩:=aLn rest _ k r h;refine⟨out,h1,?_⟩;have hc:=R9 b1;have hv:=Io b1;simp only[iB,oE,hp];rw[aJ (by simp[hv,hc,b2];omega),hc,<-YW,<-Qc _ _ _ (by omega)];exact h2
    .cases h
   .cases h
theorem wC{τ:Ty}(h1:τ.one=true){l l':List Value}(h:rN τ l=some l'):∃pre,l=pre++l'/\jM pre (bH τ τ.zero):=by
 cases l with
 |nil=>cases h
 |cons x r=>
   simp only[rN]at h;split at h
   .rename_i hx
    cases h;refine⟨[x],rfl,?_⟩;cases τ with
    |pr a b=>cases h1
    |ex=>cases h1
    |i k=>
      simp only[CY]at hx;split at hx
      .rw[bM]at hx
       have e1:=cU hx.1;have e2:=cU hx.2;subst e1 e2;exact .v rfl .nil
      .cases hx
    |u8=>
      simp only[CY]at hx;split at hx
      .have e2:=cU hx
       subst e2;exact .v rfl .nil
      .cases hx
    |bo=>
      simp only[CY]at hx;split at hx
      .exact .v rfl .nil
      .cases hx
    |tx=>
      simp only[CY]at hx;split at hx
      .rename_i s
       split at hx
       .rename_i hs
        have:s=⟨⟨[]⟩⟩:=by
         apply bA3;apply v8;exact hs
        subst this;exact .v rfl .nil
       .cases hx
      .cases hx
    |sl e=>
      simp only[CY]at hx;split at hx
      .exact .sl .nil
      .cases hx
   .cases h
theorem SL:∀(τ:Ty)(l l':List Value),CZ τ l=some l'->∃pre,l=pre++l'/\jM pre (bH τ τ.zero)
 |.pr a b,l,l',h=>by
   simp only[CZ]at h;split at h
   .rename_i l1 h1
    obtain⟨p1,e1,z1⟩:=SL a l l1 h1;obtain⟨p2,e2,z2⟩:=SL b l1 l' h;refine⟨p1++p2,by rw[e1,e2,iC],?_⟩;have:bH (.pr a b) (Ty.zero (.pr a b))=bH a a.zero++bH b b.zero:=rfl;rw[this];exact z1.append z2
   .cases h
 |.ex,l,l',h=>by
   simp only[CZ]at h;split at h
   .rename_i l1 h1
    split at h
    .rename_i l2 h2
     obtain⟨p1,e1,z1⟩:=wC rfl h1;obtain⟨p2,e2,z2⟩:=wC rfl h2;obtain⟨p3,e3,z3⟩:=wC rfl h;exact⟨p1++(p2++p3),by rw[e1,e2,e3];simp,z1.append (z2.append z3)⟩
    .cases h
   .cases h
 |.i k,l,l',h=>wC rfl h
 |.u8,l,l',h=>wC rfl h
 |.bo,l,l',h=>wC rfl h
 |.tx,l,l',h=>wC rfl h
 |.sl e,l,l',h=>wC rfl h
theorem Jr{c:Cx}{t e:TypeId}{τ:Ty}{b:Nat}(h:oL c t=some (e,τ,b)):∃z,p9 c.P t e z τ.size b/\jM z.cells.toList (bH τ τ.zero):=by
 unfold oL at h;split at h
 .rename_i e' he
  split at h
  .rename_i τ' i hτ hi
   split at h
   .rename_i z hz
    split at h
    .rename_i hc
     split at h
     .rename_i hb
      cases h;rw[bM]at hb;have h1:=cA hb.1;have h2:=cA hb.2;obtain⟨pre,hp,hz'⟩:=SL _ _ _ hc;rw[rI]at hp;refine⟨z,⟨?_,by rw[hi];simp[hz,h1],h2,size_pos _⟩,by rw[hp];exact hz'⟩;unfold aMC at he;split at he
      .rename_i hu;cases he;exact hu
      .cases he
     .cases h
    .cases h
   .cases h
  .cases h
 .cases h
end Go.Ax
/- Operations: rows that are made, slices, conversions, calls. -/
namespace Go.Ax
open aA
open Go.RowKit Go.Ab
section
variable{P:Program}{o:Oper}{s:St}{fr:Nat}
theorem a5q{t e:TypeId}{z:Value}{sz bytes len:Nat}(st:Bool){parts:Array (Nat×Operand)}{ds:List (Nat×D)}{zt ts:List Tree}(hA:p9 P t e z sz bytes)(hz:jM z.cells.toList zt)(hl:len*sz<=2^24)(ho:o.op = .buildSlice t len parts)(hp:zI s parts.toList ds)
    (hf:oE ((pX len).map λi=>(i*sz,sz)) ((e9 len zt).flatten.map .t) ds=some (ts.map .t)):bI P o s fr (.own fr) [(fr,some (.row e sz len ts st))]:=by
 have h1:∀u∈z.cells.toList,u.oneCell'=true:=by
  clear hf hp ho hl hA;generalize z.cells.toList=l at hz
  induction hz with
  |nil=>intro u hu;cases hu
  |v h r ih=>
    intro u hu;rcases eP.1 hu with rfl|hu
    .exact h
    .exact ih u hu
  |sl r ih=>
    intro u hu;rcases eP.1 hu with rfl|hu
    .rfl
    .exact ih u hu
 have hB:=aAm.of hA h1 len hl;intro E σ₁ a w hT hHH h100 hf' hd ⟨ν,G,I⟩ Q;have hpl:∀(i:Nat)(p:Nat×Nat),((pX len).map λi=>(i*sz,sz))[i]?=some p->(λi=>some (i*sz,sz)) i=some p:=λi p h=>by
  rw[dT]at h;obtain⟨j,hj,rfl⟩:=cV.1 h;have:=(dC.1 hj).2;simp at this;simp[this]
 obtain⟨g1,g2⟩:=hp.rel (λx d d' hx hw=>hw _ _ _ _ _ _ hHH I _ (I.ev (St.fH hT hx)));have hzr:=(hz.JN len).rel w G;obtain⟨cells,hres,hsz,hrel⟩:=Zs hpl _ ds (e9 len z.cells.toList).flatten.toArray ((e9 len zt).flatten.map .t) (ts.map .t) g1 g2 (by simpa using hzr.1) (λi u d hu hdd=>by
     rw[dT]at hdd;obtain⟨t',ht',rfl⟩:=cV.1 hdd;have hu':(e9 len z.cells.toList).flatten[i]?=some u:=by simpa using hu
     have htr:=hzr.2 i u t' hu' ht';exact⟨.t htr,htr.one⟩) hf
 have hlen:ts.length=len*sz:=by
  have hfl:∀(pl:List (Nat×Nat))(ds:List (Nat×D))(cs out:List D),oE pl cs ds=some out->out.length=cs.length:=by
   intro pl ds
   induction ds with
   |nil=>intro cs out h;cases h;rfl
   |cons p r ih=>
     intro cs out h;obtain⟨i,d⟩:=p;simp only[oE]at h;split at h
     .cases h
     .split at h
      .rename_i hc
       simp only[bM,rB,gG]at hc;rw[ih _ _ h,Br hc.2]
      .cases h
  have:=hfl _ _ _ _ hf;simp only[dR]at this;rw[this,<-hzr.1];exact hB.zl
 have hr:=hB.run w (parts.map λ(i,x)=>(i,a.eval x)) cells (by rw[Array.toList_map];exact hres);unfold Oper.wp;have he:(execOp a.eval o).run P w = .ok (.value (.slice (some ⟨w.heap.size,0,none⟩) len len)) (w.alloc (.cells cells e)):=by
  unfold execOp;rw[ho];simp[hr]
 rw[he,Oper.upon_value];have hA':cS w (w.alloc (.cells cells e)):=(cS.refl w).alloc _;have hG:∀b,b<w.heap.size->(λb=>if b=w.heap.size then(if st then len*sz else 0)else G b) b=G b:=λb hb=>aD (by omega)
 have hsz':cells.size=ts.length:=by rw[hsz];simp
 refine⟨put_defers ..,_,_,I.fresh (G':=λb=>if b=w.heap.size then(if st then len*sz else 0)else G b) h100 hf' hd hA' hG (x:=.slice (some ⟨w.heap.size,0,none⟩) len len) (λg hg=>by cases hg;exact bZ _) ?_ ?_⟩
 .refine⟨cells.toList,?_,?_,λi u t hu ht=>?_,λg hg=>?_⟩
  .rw[dP]
   exact⟨by simp[hsz',hlen],.inr ⟨w.heap.size,len,cells,rfl,Nat.zero_le _,heap_alloc_new w _,bZ _,hB.ml,by rw[hsz',hlen],by rw[Fe (by simp[hsz',hlen])]⟩⟩
  .simpa using hsz'
  .have:=(hrel i u (.t t) (by simpa using hu) (by rw[dT,ht];rfl)).1
   cases this with|t h=>exact h.mono (λ_ _ _ h=>h.iK hA' hG)
  .rw[dP]at hg
   cases hg;exact⟨.inl I.kept.size,aJ rfl⟩
 .have:DR (dI ν fr (.slice (some ⟨w.heap.size,0,none⟩) len len)) (σ₁.bC o.dst .any [(fr,some (.row e sz len ts st))] fr).nm (w.alloc (.cells cells e)) (λb=>if b=w.heap.size then(if st then len*sz else 0)else G b) (dI ν fr (.slice (some ⟨w.heap.size,0,none⟩) len len) fr) (.own fr):=.own (pC ..) (by rw[dP];rfl)
  rw[dP]at this;exact this
def eG(lo:Option Int):Nat:=match lo with|some a=>a.toNat|none=>0
def eT(n:Nat)(hi:Option Int):Nat:=match hi with|some b=>b.toNat|none=>n
theorem YZ{α:Type}(l:List α)(lo hi:Option Int):c8 l lo hi=(l.take (eT l.length hi)).drop (eG lo):=by
 cases lo <;> cases hi <;> simp[c8,eG,eT]
theorem QW{n:Nat}{lo hi:Option Int}(h:dX n lo hi=true):eG lo<=eT n hi/\eT n hi<=n/\(∀a,lo=some a->0<=a)/\∀b,hi=some b->0<=b:=by
 cases lo <;> cases hi <;> simp[dX,eG,eT]at h ⊢ <;> omega
theorem zC{P:Program}{w:World}{isS:Bool}{n cap:Nat}{lo hi:Option Int}{kl kh:IntKind}(h1:eG lo<=eT n hi)(h2:eT n hi<=cap)(h3:∀a,lo=some a->0<=a)(h4:∀b,hi=some b->0<=b):
    (Instr.sliceBounds isS n cap (lo.map (.int kl)) (hi.map (.int kh)) none).run P w = .ok (eG lo,eT n hi,cap) w:=by
 have hb:∀(k:IntKind)(i:Int)(y:Nat)(code:BoundsCode),0<=i->i.toNat<=y->(Instr.sliceBound (.int k i) y code).run P w = .ok i.toNat w:=λk i y code a b=>by
  have:i<=(y:Int):=by omega
  simp[Instr.sliceBound,asIntOf,a,this]
 cases lo with
 |none=>
   cases hi with
   |none=>simp[Instr.sliceBounds,eG,eT]
   |some b=>simp only[eT]at h2;simp[Instr.sliceBounds,eG,eT,hb _ _ _ _ (h4 b rfl) h2]
 |some a=>
   cases hi with
   |none=>simp only[eG,eT]at h1;simp[Instr.sliceBounds,eG,eT,hb _ _ _ _ (h3 a rfl) h1]
   |some b=>
     simp only[eG,eT]at h1 h2;simp[Instr.sliceBounds,eG,eT,hb _ _ _ _ (h4 b rfl) h2,hb _ _ _ _ (h3 a rfl) h1]
def nE(s:St)(x:Option Operand)(v:Option Int):Prop:=match x,v with
 |none,none=>True
 |some x,some n=>∃ik,s.ev x=some (.t (.v (.int ik n)))
 |_,_=>False
theorem nE.run{s:St}{x:Option Operand}{v:Option Int}(h:nE s x v){ρ:Operand->Value}(hev:∀x d,s.ev x=some (.t (.v d))->ρ x=d):∃ik,x.map ρ=v.map (.int ik):=by
 cases x with
 |none=>cases v with
   |none=>exact⟨.i64,rfl⟩
   |some n=>exact h.elim
 |some x=>cases v with
   |none=>exact h.elim
   |some n=>obtain⟨ik,hk⟩:=h;exact⟨ik,bE some (hev x _ hk)⟩
theorem a5W{t:TypeId}{x:Operand}{lo hi:Option Operand}{l:List UInt8}{a b:Option Int}(hu:P.underlying t=some .string)(ho:o.op = .slice t x lo hi none)(hx:s.ev x=some (TS l))(hlo:nE s lo a)(hhi:nE s hi b)(hok:dX l.length a b=true):bI P o s fr (TS (c8 l a b)) []:=
 dV λ_ _ _ _ w ac _ _ hev=>by
  have h1:=cL (hev x _ hx);obtain⟨kl,e1⟩:=hlo.run (ρ:=ac.eval) (λx d h=>cL (hev x _ h));obtain⟨kh,e2⟩:=hhi.run (ρ:=ac.eval) (λx d h=>cL (hev x _ h));obtain⟨g1,g2,g3,g4⟩:=QW hok;refine⟨.string ⟨⟨c8 l a b⟩⟩,?_,.t (.v _ rfl)⟩;have hsz:(ByteArray.mk ⟨l⟩).size=l.length:=rfl;have hb:=zC (P:=P) (w:=w) (isS:=false) (n:=l.length) (cap:=l.length) (lo:=a) (hi:=b) (kl:=kl) (kh:=kh) g1 g2 g3 g4;have hex:(ByteArray.mk ⟨l⟩).extract (eG a) (eT l.length b)=⟨⟨c8 l a b⟩⟩:=by
   apply bA3;rw[ByteArray.data_extract];apply v8;rw[YZ,bA8];simp only[List.extract];rw[List.drop_take]
   try trace_state
  unfold execOp;rw[ho];simp only[h1,e1,e2,oN];simp[Instr.sliceAt,Instr.slice,run_underlying hu,hsz,hb,hex]
theorem ok_slice{t e:TypeId}{x:Operand}{lo hi:Option Operand}{sz n:Nat}{ts:List Tree}{d0:D}{a b:Option Int}(hu:P.underlying t=some (.slice e))(hs:iP P e=some sz)(ho:o.op = .slice t x lo hi none)(hx:s.ev x=some d0)(hw:cG s.H d0 (.t (.sl n ts)))(hts:ts.length=n*sz)(hlo:nE s lo a)(hhi:nE s hi b)(hok:dX n a b=true):
    bI P o s fr (.t (.sl (eT n b-eG a) ((ts.take (eT n b*sz)).drop (eG a*sz)))) []:=
 dV λE σ₁ ν G w ac hH I hev=>by
  have hd:=hw E σ₁ ν G w ac.tmps hH I _ (hev x _ hx);obtain⟨kl,e1⟩:=hlo.run (ρ:=ac.eval) (λx d h=>cL (hev x _ h));obtain⟨kh,e2⟩:=hhi.run (ρ:=ac.eval) (λx d h=>cL (hev x _ h));obtain⟨g1,g2,g3,g4⟩:=QW hok;obtain⟨inf,hinf,hsz⟩:=cV.1 hs;obtain⟨v,hv⟩:∃v,ac.eval x=v:=⟨_,rfl⟩
  rw[hv]at hd;cases hd with
  |t hd=>
    cases hd with
    | @nil ad cap h0=>
      have hb:=zC (P:=P) (w:=w) (isS:=true) (n:=0) (cap:=cap) (lo:=a) (hi:=b) (kl:=kl) (kh:=kh) g1 (by omega) g3 g4;have z1:eT 0 b=0:=by omega
      have z2:eG a=0:=by omega
      rw[z1,z2]at hb;refine⟨.slice (if cap=0 then ad else ad.map (·.add (0*sz))) (0-0) (cap-0),?_,?_⟩
      .unfold execOp
       rw[ho];simp only[hv,e1,e2,oN];simp[Instr.sliceAt,Instr.slice,run_underlying hu,hb,sizeOf,typeInfo,hinf,hsz]
      .rw[z1,z2]
       simp only[Nat.sub_zero,Nat.zero_mul,aAn,List.drop_zero];refine .t (.nil λhe=>?_);split at he
       .rename_i hc;exact hc
       .exact h0 (by cases ad with|none=>rfl|some _=>cases he)
    |sl bl q _ cap us _ hl hc hn ht=>
      have hb:=zC (P:=P) (w:=w) (isS:=true) (n:=n) (cap:=cap) (lo:=a) (hi:=b) (kl:=kl) (kh:=kh) g1 (by omega) g3 g4;refine⟨.slice (if cap=eG a then some ⟨bl,q,none⟩else some ((⟨bl,q,none⟩:Addr).add (eG a*sz))) (eT n b-eG a) (cap-eG a),?_,?_⟩
      .unfold execOp
       rw[ho];simp only[hv,e1,e2,oN];simp[Instr.sliceAt,Instr.slice,run_underlying hu,hb,sizeOf,typeInfo,hinf,hsz]
      .by_cases hz:eT n b-eG a=0
       .have hnil:(ts.take (eT n b*sz)).drop (eG a*sz)=[]:=by
         apply oP;rw[kS];have:eT n b*sz<=eG a*sz:=nB _ (by omega);omega
        rw[hz,hnil];refine .t (.nil λhe=>?_);split at he <;> cases he
       .have hne:¬ cap=eG a:=by omega
        rw[aD hne,Addr.add_mid];have hm1:eT n b*sz<=n*sz:=nB _ g2;have hm2:eG a*sz<=eT n b*sz:=nB _ g1;refine .t (.sl bl (q+eG a*sz) _ _ ((us.take (eT n b*sz)).drop (eG a*sz)) _ (by simp;omega) (λi u hi'=>?_) (by omega) (λi u t' hu' ht'=>?_))
        .rw[zM,iX]at hi'
         split at hi'
         .have:=hc _ u hi'
          rwa [<-CT]at this
         .cases hi'
        .rw[zM,iX]at hu' ht'
         split at hu'
         .rename_i hlt
          rw[aJ hlt]at ht';exact ht _ u t' hu' ht'
         .cases hu'
end
end Go.Ax
/- Operations: those that make, build and convert. -/
namespace Go.Ax
open aA
open Go.RowKit Go.Ab
theorem aLN{τ:Ty}{σ:Vw}:∀(xs:List (Nat×X))(l:List τ.V)(k:List τ.V->O)(r:aE),J1 τ σ l xs k=some r->∃(ys:List (Nat×τ.V))(out:List τ.V),k out=some r/\out.length=l.length/\xs.length=ys.length /\
    (∀(i:Nat)(p:Nat×X)(q:Nat×τ.V),xs[i]?=some p->ys[i]?=some q->p.1=q.1/\cG σ.den.H p.2.D (iO τ q.2).D) /\
    oE ((pX l.length).map λi=>(i*τ.size,τ.size)) ((l.flatMap (bH τ)).map .t) (ys.map λp=>(p.1,(iO τ p.2).D))=some ((out.flatMap (bH τ)).map .t)
 |[],l,k,r,h=>⟨[],l,h,rfl,rfl,λi p q hp=>by simp at hp,rfl⟩
 |(i0,x)::rest,l,k,r,h=>by
   unfold J1 at h;split at h
   .rename_i hi
    have hi':i0<l.length:=by simpa[Nat.blt_eq]using hi
    obtain⟨y,hy,h⟩:=bL h;obtain⟨ys,out,h1,h2,h3,h4,h5⟩:=aLN rest _ k r h;rw[a5B]at h2 h5;have hl:(l.set i0 y).length=l.length:=by simp
    rw[hl]at h2 h5;refine⟨(i0,y)::ys,out,h1,h2,by simp[h3],λi p q hp hq=>?_,?_⟩
    .cases i with
     |zero=>simp at hp hq;subst hp hq;exact⟨rfl,(Zj σ x).trans (lQ hy)⟩
     |succ i=>exact h4 i p q (by simpa using hp) (by simpa using hq)
    .have hcell:(iO τ y).D.cells=(bH τ y).map .t/\(iO τ y).D.val=true:=by
      rw[aJq];split
      .rename_i h1
       rw[Jf h1];exact⟨rfl,rfl⟩
      .exact⟨rfl,rfl⟩
     obtain⟨z,hz⟩:∃z,l[i0]?=some z:=⟨_,dE hi'⟩
     obtain⟨A,B,hf,hA⟩:=CE (f:=bH τ) (s:=τ.size) (λx=>eA τ x) hz;have hset:=aLf (f:=bH τ) (s:=τ.size) (λx=>eA τ x) (l:=l) (i:=i0) (y:=z) (z:=y) (A:=A) (B:=B) (new:=bH τ y) (j:=0) hf hA hi' (by
      have e1:=eA τ y;have e2:=eA τ z;unfold dG;rw[aAn,kR,oP (by omega),rI]) (by rw[eA];omega)
     have hle:i0*τ.size+τ.size<=l.length*τ.size:=by
      rw[<-aMg];exact nB _ hi'
     simp only[iB,oE];rw[dT,List.getElem?_range hi'];simp only[lG];rw[hcell.1,hcell.2];simp only[dR,eA,CI];rw[aJ (by simp[hle])];rw[<-YW];rw[show i0*τ.size+0=i0*τ.size by omega]at hset;rw[<-hset];exact h5
   .cases h
section
variable{c:Cx}{σ:Vw}{κ:Nat->Bool}{fr:Nat}{o:Oper}{k:X->Wx->O}{r:aE}
theorem a8G(hσ:σ.Ok κ){e:TypeId}{x:Operand}{v:X}(ho:o.op = .box e x)(hx:σ.ev x=some v)(hv:v.val=true)(h:k (.ref fr 0) [(fr,some (.box e v.cells))]=some r):eL c σ fr o k r:=
 ⟨_,_,h,rfl,λhon=>by
  have:=aKp (P:=c.P) (fr:=fr) ho (bV hσ hon hx) (Io hv);rw[R9 hv]at this;exact this⟩
theorem a6R{P:Program}{s:St}{e:TypeId}{z:Value}(ho:o.op = .alloc e)(hz:(P.info? e).bind (·.zero)=some z)(hc:z.cells = #[.pointer none,.slice none 0 0]):bI P o s fr (.ref fr 0) [(fr,some (.box e [.via fr (mO 0),.t (.v (.slice none 0 0))]))]:=by
 intro E σ₁ a w hT _ h100 hf hd ⟨ν,G,I⟩ Q;obtain⟨i,hi,hz'⟩:=lH.1 hz;unfold Oper.wp;have hr:(execOp a.eval o).run P w = .ok (.value (.pointer (some ⟨w.heap.size,0,none⟩))) (w.alloc (.cells z.cells e)):=by
  unfold execOp;rw[ho];simp[Instr.alloc,zeroValue,typeInfo,hi,hz',newVar,newRow]
 rw[hr,Oper.upon_value];have hA:cS w (w.alloc (.cells z.cells e)):=(cS.refl w).alloc _;refine⟨put_defers ..,_,_,I.fresh (G':=λb=>if b=w.heap.size then 0 else G b) h100 hf hd hA (λb hb=>aD (by omega)) (x:=.pointer (some ⟨w.heap.size,0,none⟩)) (λg hg=>by cases hg;exact bZ _) ?_ (.ref (pC ..) (by rw[dP];rfl))⟩;refine⟨w.heap.size,z.cells,dP,.inl I.kept.size,heap_alloc_new w _,aJ rfl,by rw[hc];rfl,λi u d' hu hd'=>?_⟩;rw[hc]at hu
 match i,hu,hd' with
 |0,hu,hd'=>cases hu;cases hd';exact⟨.via (pC ..) (.inl rfl) rfl,rfl⟩
 |1,hu,hd'=>cases hu;cases hd';exact⟨.t (.v _ rfl),rfl⟩
 |i+2,hu,hd'=>simp at hd'
theorem a9W(fr:Nat)(l:List X):Jm fr l=l\/(l=[.v (.pointer none),.cC]/\Jm fr l=[.via fr 0,.cC]):=by
 unfold Jm;split
 .exact .inr ⟨rfl,rfl⟩
 .exact .inl rfl
theorem a8L{e:TypeId}{z:X}(ho:o.op = .alloc e)(hz:wD c.P e=some z)(h:k (.ref fr 0) [(fr,some (.box e (Jm fr z.cells)))]=some r):eL c σ fr o k r:=
 ⟨_,_,h,rfl,λ_=>by
  obtain⟨v,h1,h2⟩:=aBF hz;obtain⟨g1,_,g3,_,g5,_⟩:=ZC h2;rcases a9W fr z.cells with e1|⟨e1,e2⟩
  .have:=a6S (P:=c.P) (σ:=σ.den) (fr:=fr) ho h1 g1
   rw[e1];rw[g5]at this;exact this
  .have g3:[D.t (.v (.pointer none)),.t (.v (.slice none 0 0))]=v.cells.toList.map (λu=>D.t (.v u)):=by rw[<-g3,e1];rfl
   have hc:v.cells = #[.pointer none,.slice none 0 0]:=by
    apply v8
    match h:v.cells.toList,g3 with
    |[a,b],g3=>cases g3;rfl
   rw[e2];exact a6R (P:=c.P) ho h1 hc⟩
theorem a8F(hσ:σ.Ok κ){t:TypeId}{ps:Array (Nat×Operand)}{z:X}{pl:List (Nat×Nat)}(ho:o.op = .build t ps)(hz:wD c.P t=some z)(hp:places c.P t=some pl)(h:σ.CH ps.toList (λxs=>Jb pl z.cells xs λcs=>k (.agg cs) [])=some r):eL c σ fr o k r:=by
 obtain⟨xs,h,hl,hev⟩:=Zw h;obtain⟨out,h,hf⟩:=aLn xs z.cells _ r h;refine⟨_,_,h,rfl,λhon=>?_⟩;obtain⟨v,h1,h2⟩:=aBF hz;obtain⟨_,_,g3,_,_,_⟩:=ZC h2;have hb:=a9T h1 h2 hp;have hpt:=Ys hσ hon ps.toList xs (xs.map λp=>(p.1,p.2.D)) hl hev (by simp) (λi p q hp hq=>by
  rw[dT,hp]at hq;cases hq;exact⟨rfl,cG.refl⟩)
 rw[g3]at hf;have:=a6N (P:=c.P) (fr:=fr) hb ho hpt hf;unfold X.D;rw[fO];exact this
theorem a7s(hσ:σ.Ok κ){t e:TypeId}{n b:Nat}{τ:Ty}{st:Bool}{ps:Array (Nat×Operand)}(ho:o.op = .buildSlice t n ps)(hE:oL c t=some (e,τ,b))(hle:n*τ.size<=16777216)(h:σ.CH ps.toList (λxs=>J1 τ σ (Ew τ.zero n) xs λl=>k (.own fr) [(fr,some (.row e τ l st))])=some r):eL c σ fr o k r:=by
 obtain⟨xs,h,hl,hev⟩:=Zw h;obtain⟨ys,out,h,h2,h3,h4,h5⟩:=aLN xs _ _ r h;refine⟨_,_,h,rfl,λhon=>?_⟩;obtain⟨z,hA,hz⟩:=Jr hE;have hpt:=Ys hσ hon ps.toList xs (ys.map λp=>(p.1,(iO τ p.2).D)) hl hev (by simp[h3]) (λi p q hp hq=>by
  rw[dT]at hq;obtain⟨y,hy,rfl⟩:=cV.1 hq;exact h4 i p y hp hy)
 rw[aKV]at h2 h5;rw[aAr]at h2 h5;have hfl:∀m:Nat,(e9 m τ.zero).flatMap (bH τ)=(e9 m (bH τ τ.zero)).flatten:=λm=>by
  induction m with
  |zero=>rfl
  |succ m ih=>rw[rF,rF,jX,vW,ih]
 rw[hfl]at h5;have:=a5q (P:=c.P) (fr:=fr) st hA hz (len:=n) (by omega) ho hpt h5;rw[<-h2]at this;exact this
theorem a7o(hσ:σ.Ok κ){t e:TypeId}{b:Nat}{τ:Ty}{x y:Operand}{z:Int}(ho:o.op = .makeSlice t x y)(he:Yw x y=true)(hx:σ.ev x=some (.e (.i .i64) z))(hE:oL c t=some (e,τ,b))(h:J0 τ e fr b false z k=some r):eL c σ fr o k r:=by
 unfold J0 at h;obtain⟨h0,h⟩:=jL h;obtain⟨hb,h⟩:=jL h;refine⟨_,_,h,rfl,λhon=>?_⟩;obtain⟨v,hA,hz⟩:=Jr hE;have h0:=cU h0;unfold cF at hb;have hb:=cU hb;have hn:((z.toNat:Nat):Int)=z:=by omega
 have hx1:σ.den.ev x=some (I (z.toNat:Nat)):=by
  rw[hn];exact bV hσ hon hx
 have hy1:σ.den.ev y=some (I (z.toNat:Nat)):=by
  unfold Yw at he;split at he
  .rw[<-cA he];exact hx1
  .rename_i k1 a k2 b'
   simp only[bM,gG,rB]at he;obtain⟨rfl,rfl⟩:=he;exact hx1
  .cases he
 have hm:z.toNat<=maxLen:=by simp only[maxLen];omega
 have:=a5l (P:=c.P) (fr:=fr) false hA hz ho hx1 hy1 ⟨by rw[Nat.mul_comm];omega,hm⟩;have hfl:∀m:Nat,(e9 m τ.zero).flatMap (bH τ)=(e9 m (bH τ τ.zero)).flatten:=λm=>by
  induction m with
  |zero=>rfl
  |succ m ih=>rw[rF,rF,jX,vW,ih]
 unfold WA;simp only[iB,List.map_nil,lG,XO.A,aAr,hfl];exact this
end
end Go.Ax
/- Operations: appends, slices, conversions and the others that only reckon. -/
namespace Go.Ax
open aA
open Go.RowKit Go.Ab
theorem Zq{α:Type}{f:α->List Tree}{s:Nat}(hf:∀x,(f x).length=s):∀(l:List α)(n:Nat),(l.flatMap f).take (n*s)=(l.take n).flatMap f
 |[],n=>by simp
 |x::l,0=>by simp
 |x::l,n+1=>by
   rw[jX,bAD,jX,<-Zq hf l n,aMg,bAF,hf,Fe (by rw[hf];omega)]
   congr 2
   omega
theorem aLh{α:Type}{f:α->List Tree}{s:Nat}(hf:∀x,(f x).length=s):∀(l:List α)(n:Nat),(l.flatMap f).drop (n*s)=(l.drop n).flatMap f
 |[],n=>by simp
 |x::l,0=>by simp
 |x::l,n+1=>by
   rw[jX,bAU,<-aLh hf l n,aMg,bAW,hf,oP (by rw[hf];omega),kR]
   congr 1
   omega
section
variable{c:Cx}{σ:Vw}{κ:Nat->Bool}{fr:Nat}{o:Oper}{k:X->Wx->O}{r:aE}
theorem a5S{τ:Ty}{x:X}{l:List τ.V}(h:one? (.sl τ) x=some l):x = .e (.sl τ) l\/(x = .cC/\l=[]):=by
 cases x with
 |e τ' y=>
   unfold one? at h;simp only at h;generalize iI τ' (.sl τ)=p at h;cases p with
   |none=>cases h
   |some q=>obtain⟨q⟩:=q;subst q;cases h;exact .inl rfl
 |cC=>unfold one? at h;cases h;exact .inr ⟨rfl,rfl⟩
 |_=>cases h
theorem a4N{τ:Ty}{xo:Operand}{x:X}{l:List τ.V}(hx:σ.den.ev xo=some x.D)(h:one? (.sl τ) x=some l):Src σ.den xo l.length (l.flatMap (bH τ)):=by
 rcases a5S h with rfl|⟨rfl,rfl⟩
 .exact .t hx
 .exact .nil hx
theorem YU{τ:Ty}{xo:Operand}{x:X}{l:List τ.V}(hx:σ.den.ev xo=some x.D)(h:σ.src τ x=some l):Src σ.den xo l.length (l.flatMap (bH τ)):=by
 cases x with
 |own q=>
   unfold Vw.src at h;simp only at h;split at h
   .rename_i e τ' l' st hq
    generalize iI τ' τ=p at h;cases p with
    |none=>cases h
    |some g=>
      obtain⟨g⟩:=g;subst g;cases h;exact .own (e:=e) (s:=τ'.size) (st:=st) hx (by rw[gJ hq];rfl)
   .cases h
 |_=>exact a4N hx h
theorem a8H(hσ:σ.Ok κ){t e:TypeId}{x y:Operand}{v w:X}{τ:Ty}{bt:Nat}{l':List τ.V}(ho:o.op = .call { callee:=.builtin .append,args:=#[x,y],argTypes:=#[t,t] })(hE:oL c t=some (e,τ,bt))(hx:σ.ev x=some v)(hy:σ.ev y=some w)(hl:σ.src τ w=some l'){st:Bool}
    (h:(∃q st' l,v = .own q/\σ.H q=some (.row e τ l st')/\aA7 τ e fr bt [(q,none)] st' l l' k=some r)\/(v = .cC/\ck (cF (gW l') bt) (k (.own fr) [(fr,some (.row e τ l' st))])=some r)):eL c σ fr o k r:=by
 obtain⟨z,hA,_⟩:=Jr hE;rcases h with⟨q,st',l,rfl,hq,h⟩|⟨rfl,h⟩
 .unfold aA7 at h
  obtain⟨hb,h⟩:=jL h;refine⟨_,_,h,rfl,λhon=>?_⟩;unfold cF at hb;have hb:=cU hb;rw[dK]at hb;have:=aKq (P:=c.P) (fr:=fr) st' hA ho (.own (k:=q) (n:=l.length) (ts:=l.flatMap (bH τ)) (bV hσ hon hx) (by rw[gJ hq];rfl)) (YU (bV hσ hon hy) hl) (by rw[CI]) ⟨hb.1,by simp only[maxLen];omega⟩;unfold WA;simp only[iB,List.map_nil,lG,oN,XO.A,dK,List.flatMap_append];exact this
 .obtain⟨hb,h⟩:=jL h
  refine⟨_,_,h,rfl,λhon=>?_⟩;unfold cF at hb;have hb:=cU hb;have:=aKq (P:=c.P) (fr:=fr) st hA ho (.nil (bV hσ hon hx)) (YU (bV hσ hon hy) hl) (by rw[CI]) ⟨by rw[fJ];exact hb.1,by simp only[maxLen];omega⟩;rw[fJ,kR]at this;exact this
theorem yD(hσ:σ.Ok κ){x:Option Operand}{f:Option Int->O}(h:σ.lB x f=some r):∃v,f v=some r/\(σ.On->nE σ.den x v):=by
 unfold Vw.lB at h;split at h
 .exact⟨none,h,λ_=>trivial⟩
 .obtain⟨w,hw,h⟩:=bL h
  obtain⟨ik,n,hn,h⟩:=Jq h;exact⟨some n,h,λhon=>⟨ik,by rw[bV hσ hon hw,hn]⟩⟩
theorem a4R(hσ:σ.Ok κ){t e:TypeId}{x:Operand}{lo hi:Option Operand}{v:X}{τ:Ty}{l:List τ.V}{a b:Option Int}(ho:o.op = .slice t x lo hi none)(hx:σ.ev x=some v)(ha:σ.On->nE σ.den lo a)(hb:σ.On->nE σ.den hi b)(hu:c.P.underlying t=some (.slice e))(hm:iP c.P e=some τ.size)(hg:σ.lD v = .e (.sl τ) l)
    (h:Y0 τ (σ.g.map (·.2)) l a b (λr=>k r [])=some r):eL c σ fr o k r:=by
 unfold Y0 at h;obtain⟨h,hok⟩:=oG h;refine⟨_,_,h,rfl,λhon=>?_⟩;have hw:=FU σ v;rw[hg]at hw;have:=ok_slice (P:=c.P) (fr:=fr) hu hm ho (bV hσ hon hx) (n:=l.length) (ts:=l.flatMap (bH τ)) hw (CI l) (ha hon) (hb hon) (hok hon.g);rw[Zq (λx=>eA τ x),aLh (λx=>eA τ x),<-YZ]at this;have hlen:eT l.length b-eG a=(c8 l a b).length:=by
  obtain⟨g1,g2,_,_⟩:=QW (hok hon.g);rw[YZ,List.length_drop,kS];omega
 rw[hlen]at this;exact this
theorem aL6(hσ:σ.Ok κ){t:TypeId}{x:Operand}{lo hi:Option Operand}{v:X}(ho:o.op = .slice t x lo hi none)(hx:σ.ev x=some v)(h:σ.lB lo (λlo=>σ.lB hi λhi=>QV c σ t v lo hi λr=>k r [])=some r):eL c σ fr o k r:=by
 obtain⟨a,h,ha⟩:=yD hσ h;obtain⟨b,h,hb⟩:=yD hσ h;unfold QV at h;split at h
 .rename_i e τ l hu hg
  split at h
  .rename_i m hm
   split at h
   .rename_i hs
    have hs:=cA hs;subst hs;exact a4R hσ ho hx ha hb hu hm hg h
   .cases h
  .cases h
 .rename_i l hu hg
  unfold aKD at h;obtain⟨h,hok⟩:=oG h;refine⟨_,_,h,rfl,λhon=>?_⟩;have hv:v = .e .tx l:=by
   unfold Vw.lD at hg;split at hg
   .split at hg
    .cases hg
    .cases hg
   .exact hg
  subst hv;exact a5W (P:=c.P) (fr:=fr) hu ho (bV hσ hon hx) (ha hon) (hb hon) (hok hon.g)
 .cases h
theorem aLi:∀(l:List (Ty.V .u8))(j:Nat)(x:Ty.V .u8),l[j]?=some x->(l.flatMap (bH .u8))[j]?=some (.v (.int .u8 (UInt8.toNat x:Int)))
 |[],j,x,h=>by simp at h
 |u::l,0,x,h=>by cases h;rfl
 |u::l,j+1,x,h=>aLi l j x (by simpa using h)
theorem a9C{P:Program}{s:St}{n:Int}(h:bI P o s fr (.t (.v (.int .u8 (IntKind.u8.wrap n)))) []):bI P o s fr (X.e .u8 (eD n)).D []:=by
 rw[<-a3w]at h;exact h
theorem a9B{P:Program}{s:St}{u:UInt8}(h:bI P o s fr (.t (.v (.int .u8 (IntKind.u8.wrap (u.toNat:Int))))) []):bI P o s fr (X.e .u8 u).D []:=by
 have h8:IntKind.u8.wrap (u.toNat:Int)=(u.toNat:Int):=by
  rw[KA];have:=u.toNat_lt;omega
 rw[h8]at h;exact h
theorem a8D(hσ:σ.Ok κ){s d e:TypeId}{x:Operand}{v:X}{l:List UInt8}(hs:c.P.underlying s=some (.slice e))(he:c.P.underlying e=some (.int .u8))(hd:c.P.underlying d=some .string)(ho:o.op = .convert s d x)(hx:σ.ev x=some v)(hl:σ.src .u8 v=some l)(h:k (.e .tx l) []=some r):eL c σ fr o k r:=
 ⟨_,_,h,rfl,λhon=>by
  intro E σ₁ a w hT hHH h100 hf hdst ⟨ν,G,I⟩ Q;obtain⟨ax,cp,us,hxv,hul,hrd,hnone,htr⟩:=(YU (bV hσ hon hx) hl).rd hT hHH I;have hc:(convert s d (a.eval x)).run c.P w = .ok (.string ⟨⟨l⟩⟩) w:=by
   rw[hxv];cases ax with
   |none=>
     have hl0:l=[]:=List.eq_nil_of_length_eq_zero (hnone rfl).2;subst hl0;simp[convert,run_underlying hs,run_underlying hd,run_underlying he,Conv.bytesToString];rfl
   |some ad=>
     refine run_convert_bytes_back (P:=c.P) w s d e ad cp l hs he hd (λj hj=>?_);have hj':=aLi l j l[j] (dE hj);have hlen:(iY (bH .u8) l).length=l.length:=(CI (τ:=.u8) l).trans (Ju _);have hju:j<us.length:=by rw[hul];exact hlen ▸ hj
     obtain⟨ad',e1,e2⟩:=hrd j us[j] (dE hju);cases e1;have ht:=htr j us[j] _ (dE hju) hj';rw[e2];generalize us[j]=u at ht;cases ht with
     |v _ _=>rfl
  unfold Oper.wp;have he:(execOp a.eval o).run c.P w = .ok (.value (.string ⟨⟨l⟩⟩)) w:=by
   unfold execOp;rw[ho];simp[hc]
  rw[he,Oper.upon_value];exact⟨put_defers ..,ν,G,I.put (.t (.v _ rfl)) hdst fr a rfl⟩⟩
theorem a8B(hσ:σ.Ok κ){s d:TypeId}{x:Operand}{v:X}(ho:o.op = .convert s d x)(hx:σ.ev x=some v)(h:R8 c.P s d v (λr=>k r [])=some r):eL c σ fr o k r:=by
 unfold R8 at h;split at h
 .rename_i hs hd
  refine⟨_,_,h,rfl,λhon=>?_⟩;exact a9C (Ql (P:=c.P) (fr:=fr) ho (by rw[hs];rfl) hd (bV hσ hon hx))
 .rename_i hs hd
  refine⟨_,_,h,rfl,λhon=>?_⟩;exact a9B (Ql (P:=c.P) (fr:=fr) ho (by rw[hs];rfl) hd (bV hσ hon hx))
 .rename_i hs hd
  refine⟨_,_,h,rfl,λhon=>?_⟩;exact Ql (P:=c.P) (fr:=fr) ho (by rw[hs];rfl) hd (bV hσ hon hx)
 .rename_i hs hd
  refine⟨_,_,h,rfl,λhon=>?_⟩;exact Ql (P:=c.P) (fr:=fr) ho (by rw[hs];rfl) hd (bV hσ hon hx)
 .cases h
theorem a7t(hσ:σ.Ok κ){t:TypeId}{x:Operand}{v:X}(ho:o.op = .call { callee:=.builtin .len,args:=#[x],argTypes:=#[t] })(hx:σ.ev x=some v)(h:Z6 c σ t v (λr=>k r [])=some r):eL c σ fr o k r:=by
 unfold Z6 at h;split at h
 .rename_i v' e hu
  unfold Vw.len at h;split at h
  .split at h
   .rename_i q e' τ l st hq
    refine⟨_,_,h,rfl,λhon=>?_⟩;exact ZA (P:=c.P) (fr:=fr) hu ho rfl (.own (bV hσ hon hx) (by rw[gJ hq];rfl))
   .rename_i q e' e1 τ l hq
    refine⟨_,_,h,rfl,λhon=>?_⟩;have:=a5u (P:=c.P) (fr:=fr) hu ho rfl (bV hσ hon hx) (gJ hq);rw[dR]at this;exact this
   .rename_i q e' e1 κ' ρ l ln hq
    refine⟨_,_,h,rfl,λhon=>?_⟩;exact a5s (P:=c.P) (fr:=fr) hu ho rfl (bV hσ hon hx) (gJ hq)
   .cases h
  .split at h
   .rename_i q i e' e1 τ l hq
    obtain⟨y,hy,h⟩:=vH h;refine⟨_,_,h,rfl,λhon=>?_⟩;exact a5t (P:=c.P) (fr:=fr) hu ho rfl (bV hσ hon hx) (gJ hq) (Qs hy)
   .cases h
  .refine⟨_,_,h,rfl,λhon=>?_⟩
   exact ZA (P:=c.P) (fr:=fr) hu ho rfl (.t (bV hσ hon hx))
  .refine⟨_,_,h,rfl,λhon=>?_⟩
   exact ZA (P:=c.P) (fr:=fr) hu ho rfl (.nil (bV hσ hon hx))
  .cases h
 .rename_i l hu
  refine⟨_,_,h,rfl,λhon=>?_⟩;exact a5r (P:=c.P) (fr:=fr) hu ho rfl (bV hσ hon hx)
 .cases h
theorem aM3(hσ:σ.Ok κ){b:Operand}{j:Nat}{q:Bool}(h:σ.aAT b=some (j,q))(hon:σ.On):σ.den.ev b=some (B q)/\κ (2*j+1)=q/\κ (2*j)=!q:=by
 unfold Vw.aAT at h;split at h
 .rename_i t
  split at h
  .rename_i ht
   cases h;exact⟨q8 ht,hσ.qV _ _ ht⟩
  .rename_i key cc j' q' ht
   split at h
   .rename_i key' c' hg
    split at h
    .rename_i hb
     have hb:=cA hb;subst hb;cases h;obtain⟨h1,h2,h3⟩:=hσ.qV _ _ ht;have hc:cc=true:=h1.trans ((hσ.g _ _ hg).symm.trans (hon _ _ hg));subst hc;exact⟨q8 ht,by simpa using h2,by simpa using h3⟩
    .cases h
   .cases h
  .cases h
 .cases h
theorem aLv(hσ:σ.Ok κ){key:Nat}{x:Operand}{v:X}(h:σ.FX key x=some v):v.pl=true/\(σ.On->κ key=true->σ.den.ev x=some v.D):=by
 unfold Vw.FX at h;split at h
 .rename_i t
  split at h
  .rename_i key' cc y ht
   split at h
   .rename_i hb
    have hb:=cA hb;subst hb;obtain⟨h1,h2⟩:=hσ.qV _ _ ht;have hD:κ key'=true->σ.den.ev (.tmp t)=some y.D:=λhk=>by
     have e:σ.den.ev (.tmp t)=some (X.eX key' cc y).D:=q8 ht;rw[hk]at h1;subst h1;exact e
    split at h
    .cases h
     exact⟨rfl,λ_ hk=>hD hk⟩
    .cases h
    .rename_i n1 n2
     cases h;refine⟨?_,λ_ hk=>hD hk⟩;cases v with
     |bit j q=>exact absurd rfl (n1 j q)
     |eX a b c=>exact absurd rfl (n2 a b c)
     |_=>rfl
   .refine⟨YD h,λhon hk=>?_⟩
    cases cc with
    |true => 
      have e:σ.den.ev (.tmp t)=some (X.eX key' true y).D:=q8 ht;rw[e,YE (hσ.qV t _ ht) hσ.g hon h]
    |false=>
      exfalso;unfold u7 at h;split at h
      .rename_i he;cases he
      .rename_i key2 c2 y2 he
       cases he;split at h
       .rename_i key3 c3 hg
        split at h
        .rename_i hb
         have hb:=cA hb;subst hb;have:=(hσ.qV _ _ ht).1;rw[<-hσ.g _ _ hg,hon _ _ hg]at this;cases this
        .cases h
       .cases h
      .rename_i n1 n2
       exact n2 _ _ _ rfl
  .rename_i y hy ht
   refine⟨YD h,λhon hk=>?_⟩;have e:σ.den.ev (.tmp t)=some y.D:=q8 ht;rw[e,YE (hσ.qV t y ht) hσ.g hon h]
  .cases h
 .exact⟨yV h,λhon _=>bV hσ hon h⟩
theorem a7i(hσ:σ.Ok κ){b x y:Operand}(ho:o.op = .pick b x y)(h:Yr σ b x y (λr=>k r [])=some r):eL c σ fr o k r:=by
 unfold Yr at h;split at h
 .rename_i j q hbit
  obtain⟨v,hv,h⟩:=bL h;obtain⟨v',hv',h⟩:=bL h;obtain⟨p1,d1⟩:=aLv hσ hv;obtain⟨p2,d2⟩:=aLv hσ hv';have hT:∀d,q=true->(σ.On->v.D=d)->σ.On->bI c.P o σ.den fr d []:=λd hq hd hon=>by
   obtain⟨h1,h2,h3⟩:=aM3 hσ hbit hon;subst hq;rw[<-hd hon];exact Yy ho h1 (d1 hon h2)
  have hF:∀d,q=false->(σ.On->v'.D=d)->σ.On->bI c.P o σ.den fr d []:=λd hq hd hon=>by
   obtain⟨h1,h2,h3⟩:=aM3 hσ hbit hon;subst hq;rw[<-hd hon];exact Yz ho h1 (d2 hon h3)
  have hbr:br q (k v []) (k v' [])=some r->eL c σ fr o k r:=λh=>by
   rcases zB h with⟨hq,h⟩|⟨hq,h⟩
   .exact⟨_,_,h,p1,hT _ hq (λ_=>rfl)⟩
   .exact⟨_,_,h,p2,hF _ hq (λ_=>rfl)⟩
  split at h
  .rename_i a a' h0
   split at h
   .unfold aM9 at h
    refine⟨_,_,h,rfl,λhon=>?_⟩;cases q with
    |true=>exact hT _ rfl (λ_=>rfl) hon
    |false=>
      refine hF _ rfl (λ_=>?_) hon;have:(X.e .bo false) = .e .bo a':=by
       have e:σ.FX (2*j) (.const (.bool false))=some (.e .bo false):=rfl;rw[e]at hv';exact fV hv'
      exact bE X.D this.symm
   .unfold orX at h
    refine⟨_,_,h,rfl,λhon=>?_⟩;cases q with
    |true=>
      refine hT _ rfl (λ_=>?_) hon;have:(X.e .bo true) = .e .bo a:=by
       have e:σ.FX (2*j+1) (.const (.bool true))=some (.e .bo true):=rfl;rw[e]at hv;exact fV hv
      exact bE X.D this.symm
    |false=>exact hF _ rfl (λ_=>rfl) hon
   .exact hbr h
  .exact hbr h
 .obtain⟨v,hv,h⟩:=bL h
  split at h
  .rename_i q
   rcases zB h with⟨hq,h'⟩|⟨hq,h'⟩
   .obtain⟨w,hw,h''⟩:=bL h'
    subst hq;exact⟨_,_,h'',yV hw,λhon=>Yy ho (bV hσ hon hv) (bV hσ hon hw)⟩
   .obtain⟨w,hw,h''⟩:=bL h'
    subst hq;exact⟨_,_,h'',yV hw,λhon=>Yz ho (bV hσ hon hv) (bV hσ hon hw)⟩
  .obtain⟨w,hw,h''⟩:=bL h
   exact⟨_,_,h'',yV hw,λhon=>Yy ho (bV hσ hon hv) (bV hσ hon hw)⟩
  .obtain⟨w,hw,h''⟩:=bL h
   exact⟨_,_,h'',yV hw,λhon=>Yz ho (bV hσ hon hv) (bV hσ hon hw)⟩
  .cases h
end
end Go.Ax
