/- The abstract machine. Conditions are in the theorems. -/
import Derived.Test.YtpfljkkcaplgeaaGreatDoorE3
import Derived.Lib.MinMax
import Derived.Laws.Strings
import Derived.Laws.Slices
import Derived.Laws.IdiomStrings
import Derived.Lib.ConvBytes
import Derived.Laws.Runes
import Derived.Laws.CopyRow
open Array renaming ext'->wX,getElem?_eq_getElem->kL,getElem?_map->a9g,toList_extract->a9d
open Bool renaming and_eq_true->aT,or_eq_true->lS
open ByteArray renaming ext->aK7
open List renaming all_eq_true->fG,any_eq_true->vH,append_assoc->bP,append_eq_nil_iff->Zo,append_nil->e9,drop_append->a9W,drop_append_of_le_length->aK3,drop_eq_nil_of_le->rR,drop_succ_cons->a9U,eq_nil_of_length_eq_zero->AH,eq_of_mem_replicate->a9S,ext_getElem?->Bg,flatMap->bR,flatMap_cons->fV,flatten_cons->E5,getElem?_append_left->dV,getElem?_append_right->dN,getElem?_cons_succ->a9Q,getElem?_drop->qQ,getElem?_eq_getElem->dC,getElem?_eq_none->oC,getElem?_eq_some_iff->bZ,getElem?_map->cZ,getElem?_take->fU,length->dR,length_append->aL,length_drop->lI,length_map->cP,length_nil->jV,length_replicate->wT,length_set->nI,length_take->iT,map_append->gH,map_congr_left->a9N,map_cons->iH,map_drop->OU,map_map->qN,map_nil->vF,map_set->aK2,map_take->OT,mem_cons->eZ,mem_cons_of_mem->fR,mem_cons_self->iB,mem_iff_getElem?->iS,mem_map->gU,mem_of_getElem?->iM,mem_of_mem_take->a9L,mem_singleton->nH,nil_append->k7,range->lR,replicate->cI,replicate_succ->pN,take_append->Zj,take_append_of_le_length->aK0,take_of_length_le->vD,take_succ_cons->a9D,take_zero->E4
open Nat renaming add_assoc->Be,add_mul->kK,add_zero->rQ,ble_eq_true_of_le->Zg,eq_of_beq_eq_true->bB,le_of_ble_eq_true->iA,le_refl->cE,min_eq_left->OP,mul_comm->aKZ,mul_eq_zero->a8w,mul_le_mul_right->mM,mul_one->lP,one_mul->aKY,sub_self->kZ,sub_zero->aKX,succ_mul->aKW,zero_add->eC
open Ne renaming symm->eN
open Option renaming bind_eq_some_iff->wP,map_eq_some_iff->cO,map_none->rP,map_some->lH
open Option.some renaming inj->gZ,injEq->iR
open UInt8 renaming toNat_inj->B9
/- What functions give back; contracts. -/
namespace Go.Ax
open aA
open Go.RowKit Go.Ab
theorem a7Z(c:Cx)(σ:Vw)(t:TypeId)(x:X):cJ σ.den.H x.D (canon c σ t x).D:=by
 unfold canon;split
 .split
  .rename_i y h
   exact(N8 σ x).trans (WV h)
  .exact N8 σ x
 .exact cJ.refl
theorem Nx(c:Cx)(σ:Vw):∀(ts:List TypeId)(xs:List X),eE σ.den.H (xs.map X.D) ((JI c σ ts xs).map X.D)
 |[],xs=>by
   have:JI c σ [] xs=xs:=by cases xs <;> rfl
   rw[this];exact eE.refl
 |t::ts,[]=>.nil
 |t::ts,x::xs=>.cons (a7Z c σ t x) (Nx c σ ts xs)
theorem aIB{α β:Type}{f:α->Option β}:∀{l:List α}{r:List β},yE f l=some r->l.length=r.length/\∀(i:Nat)(y:β),r[i]?=some y->∃x,l[i]?=some x/\f x=some y
 |[],r,h=>by cases h;exact⟨rfl,λi y h=>by simp at h⟩
 |x::l,r,h=>by
   unfold yE at h;split at h
   .rename_i y hy
    split at h
    .rename_i r' hr
     cases h;obtain⟨h1,h2⟩:=aIB hr;refine⟨by simp[h1],λi z hz=>?_⟩;cases i with
     |zero=>simp at hz;subst hz;exact⟨x,rfl,hy⟩
     |succ i=>exact h2 i z (by simpa using hz)
    .cases h
   .cases h
theorem a1l{P:Program}{σ:Sg}{rv:ResultVar}{x:X}(h:Mc P σ rv=some x):RV P (eB σ) rv x.D:=by
 cases rv with
 |tmp t=>
   simp only[Mc]at h;exact .tmp (by show(lk t σ.T).map X.D=_;rw[h];rfl)
 |cell p t=>
   simp only[Mc]at h;split at h
   .rename_i q hp
    have hp':(eB σ).T p=some (.ref q 0):=by show(lk p σ.T).map X.D=_;rw[hp];rfl
    split at h
    .rename_i e xs hq
     have hq':(eB σ).H q=some (.box e (xs.map X.D)):=by show(lk q σ.H).map XO.A=_;rw[hq];rfl
     split at h
     .rename_i m ys hr hs
      split at h
      .rename_i hb
       cases h;rw[X.D,hY];exact .row hp' hq' hr hs (by rw[cP];exact bB hb)
      .cases h
     .rename_i y hr
      cases h;exact .one hp' hq' hr
     .cases h
    .cases h
   .cases h
theorem aGw{E:Env}{σ:St}{tm:Array Value}{w:World}(ρ:Nat->Nat){d d1 r:D}{H':List (Nat×aO)}(hR:R E σ tm w){v:Value}(hv:∀ν G,Inv E σ ν G w tm->DR ν σ.nm w G v d)(hw:cJ σ.H d d1)
    (hle:eG false σ.H (λk=>decide (k<108)) ρ d1 r) (hH:∀k o',Ab.look k H'=some o'->k<108/\∃o,σ.H (ρ k)=some o/\jU false σ.H (λk=>decide (k<108)) ρ o o')
    (hinj:∀k k' o o',Ab.look k H'=some o->Ab.look k' H'=some o'->ρ k=ρ k'->k=k') (hid:∀k,50<=k->k<100->ρ k=k):R { E with m:=1 } (res r H') #[v] w:=by
 obtain⟨ν,G,I⟩:=hR;have hρ:∀k',decide (k'<108)=true->σ.nm (ρ k')=true->(λk=>ν (ρ k)) k'=ν (ρ k'):=λ_ _ _=>rfl
 refine⟨λk=>ν (ρ k),G,⟨I.kept.os,I.kept.tape,I.kept.output,I.kept.size,I.kept.block⟩,I.eJ,λk h1 h2=>?_,I.g0,rfl,λt d' h=>?_,λk o' h=>?_,λk o k' o' h h' hne g hg=>?_⟩
 .show ν (ρ k)=_
  rw[hid k h1 h2];exact I.fJ k h1 h2
 .simp only at h
  split at h
  .rename_i e;subst e;cases h
   exact⟨v,rfl,hle.rel (λ_ _ _ h=>h) I.rows hρ (hw _ _ _ _ _ _ (λ_ _ h=>h) I v (hv ν G I))⟩
  .cases h
 .obtain⟨hk,o,ho,hle⟩:=hH k o' h
  exact⟨aX hk,(I.H _ o ho).2.view hle I.rows hρ rfl (λ_ _ h=>h)⟩
 .obtain⟨_,o1,h1,l1⟩:=hH k o h
  obtain⟨_,o2,h2,l2⟩:=hH k' o' h';exact λhg'=>I.cW _ o1 _ o2 h1 h2 (λe=>hne (hinj k k' o o' h h' e)) g (l1.ft.1 hg) (l2.ft.1 hg')
theorem aGU{ν:Nat->Value}{nm:Nat->Bool}{w:World}{G:bV}{vs:List Value}{ds:List D}(hl:vs.length=ds.length)(h:∀(i:Nat)(v:Value)(d:D),vs[i]?=some v->ds[i]?=some d->DR ν nm w G v d):DR ν nm w G (.tuple vs.toArray) (.aS ds):=
 .aS (by simpa using hl) λi u d hu hd=>h i u d (by simpa using hu) hd
theorem cJ.aS{H:Nat->Option aO}{a b:List D}(h:eE H a b):cJ H (.aS a) (.aS b):=λE s ν G w tm hH I v hv=>by
 cases hv with
 |aS hl hr=>
   refine .aS (hl.trans h.len) (λi u d hu hd=>?_);obtain⟨d0,e0,hw⟩:=h.get i d hd;exact hw E s ν G w tm hH I u (hr i u d0 hu e0)
theorem a1k{P:Program}{fn:Func}{E:Env}{s:St}{tm:Array Value}{w:World}(hR:R E s tm w):∀{xs:List D},fn.results.toList.length=xs.length->xs.length<=5->(∀(i:Nat)(rv:ResultVar)(d:D),fn.results.toList[i]?=some rv->xs[i]?=some d->RV P s rv d)->
    ∃v,(results fn tm).run P w = .ok v w/\∀ν G,Inv E s ν G w tm->DR ν s.nm w G v (match xs with|[d]=>d|xs=>.aS xs):=by
 intro xs hl h3 hrv;have hres:fn.results=fn.results.toList.toArray:=by simp
 match hf:fn.results.toList,xs,hl with
 |[],[],_=>
   refine⟨.tuple #[],?_,λν G I=>.aS rfl (λi u d h=>by simp at h)⟩;rw[Df,hres,hf];simp
 |[p],[d],_=>
   obtain⟨v,hv,hd⟩:=(hrv 0 p d (by rw[hf];rfl) rfl).all hR;refine⟨v,?_,hd⟩;rw[Df,hres,hf];simp[hv]
 |[p1,p2],[d1,d2],_=>
   obtain⟨v1,hv1,lC⟩:=(hrv 0 p1 d1 (by rw[hf];rfl) rfl).all hR;obtain⟨v2,hv2,hd2⟩:=(hrv 1 p2 d2 (by rw[hf];rfl) rfl).all hR;refine⟨.tuple #[v1,v2],?_,λν G I=>aGV (lC ν G I) (hd2 ν G I)⟩;rw[Df,hres,hf];simp[hv1,hv2]
 |[p1,p2,p3],[d1,d2,d3],_=>
   obtain⟨v1,hv1,lC⟩:=(hrv 0 p1 d1 (by rw[hf];rfl) rfl).all hR;obtain⟨v2,hv2,hd2⟩:=(hrv 1 p2 d2 (by rw[hf];rfl) rfl).all hR;obtain⟨v3,hv3,hd3⟩:=(hrv 2 p3 d3 (by rw[hf];rfl) rfl).all hR;refine⟨.tuple #[v1,v2,v3],?_,λν G I=>a0a (lC ν G I) (hd2 ν G I) (hd3 ν G I)⟩;rw[Df,hres,hf];simp[hv1,hv2,hv3]
 |[p1,p2,p3,p4],[d1,d2,d3,d4],_=>
   obtain⟨v1,hv1,lC⟩:=(hrv 0 p1 d1 (by rw[hf];rfl) rfl).all hR;obtain⟨v2,hv2,hd2⟩:=(hrv 1 p2 d2 (by rw[hf];rfl) rfl).all hR;obtain⟨v3,hv3,hd3⟩:=(hrv 2 p3 d3 (by rw[hf];rfl) rfl).all hR;obtain⟨v4,hv4,hd4⟩:=(hrv 3 p4 d4 (by rw[hf];rfl) rfl).all hR;refine⟨.tuple #[v1,v2,v3,v4],?_,λν G I=>aGU (vs:=[v1,v2,v3,v4]) rfl λi v d h1 h2=>?_⟩
   .rw[Df,hres,hf]
    simp[hv1,hv2,hv3,hv4]
   .match i,h1,h2 with
    |0,h1,h2=>cases h1;cases h2;exact lC ν G I
    |1,h1,h2=>cases h1;cases h2;exact hd2 ν G I
    |2,h1,h2=>cases h1;cases h2;exact hd3 ν G I
    |3,h1,h2=>cases h1;cases h2;exact hd4 ν G I
    |i+4,h1,_=>simp at h1
 |[p1,p2,p3,p4,p5],[d1,d2,d3,d4,d5],_=>
   obtain⟨v1,hv1,lC⟩:=(hrv 0 p1 d1 (by rw[hf];rfl) rfl).all hR;obtain⟨v2,hv2,hd2⟩:=(hrv 1 p2 d2 (by rw[hf];rfl) rfl).all hR;obtain⟨v3,hv3,hd3⟩:=(hrv 2 p3 d3 (by rw[hf];rfl) rfl).all hR;obtain⟨v4,hv4,hd4⟩:=(hrv 3 p4 d4 (by rw[hf];rfl) rfl).all hR;obtain⟨v5,hv5,hd5⟩:=(hrv 4 p5 d5 (by rw[hf];rfl) rfl).all hR;refine⟨.tuple #[v1,v2,v3,v4,v5],?_,λν G I=>aGU (vs:=[v1,v2,v3,v4,v5]) rfl λi v d h1 h2=>?_⟩
   .rw[Df,hres,hf]
    simp[hv1,hv2,hv3,hv4,hv5]
   .match i,h1,h2 with
    |0,h1,h2=>cases h1;cases h2;exact lC ν G I
    |1,h1,h2=>cases h1;cases h2;exact hd2 ν G I
    |2,h1,h2=>cases h1;cases h2;exact hd3 ν G I
    |3,h1,h2=>cases h1;cases h2;exact hd4 ν G I
    |4,h1,h2=>cases h1;cases h2;exact hd5 ν G I
    |i+5,h1,_=>simp at h1
 |a::b::c::d::e::f::l,xs,hl=>simp at hl;omega
theorem aIs{c:Cx}{fn:Func}{ow:Bool}{e:Exit}{σ:Sg}{r:aF}(h:BQ c fn ow e σ=some r):(e = .normal\/e = .ret)/\∀(E:Env)(tm:Array Value)(w:World),R E (eB σ) tm w->∃v,(results fn tm).run c.P w = .ok v w/\R { E with m:=1 } (res r.1.D (HA r.2)) #[v] w:=by
 unfold BQ at h;split at h
 case h_2=>cases h
 rename_i he;refine⟨(by cases e <;> first|exact .inl rfl|exact .inr rfl|cases he),λE tm w hR=>?_⟩;clear he;have hR1:R E (eB (M0 ow σ)) tm w:=by
  cases ow
  .exact a1Q σ E tm w hR
  .exact hR
 obtain⟨σ1,hσ1⟩:∃σ1,M0 ow σ=σ1:=⟨_,rfl⟩
 rw[hσ1]at hR1;simp only[hσ1]at h;clear hR hσ1;obtain⟨xs,hxs,h⟩:=bF h;obtain⟨ys,hys⟩:∃ys,Yz c fn ow σ1 xs=ys:=⟨_,rfl⟩
 simp only[hys]at h;have hw:eE (eB σ1).H (xs.map X.D) (ys.map X.D):=by
  rw[<-hys];cases ow
  .exact Nx c σ1.vw _ xs
  .exact eE.refl
 clear hys;split at h
 case h_2=>cases h
 rename_i hrn;have F:=Ww hrn;obtain⟨zs,hzs,h⟩:=bF h;obtain⟨H',hH',h⟩:=bF h;obtain⟨m1,m2⟩:=aIB hxs;have hlen:xs.length=ys.length:=by have:=hw.len;simpa using this
 have hf:∀k k',sJ (kT 100 (reach σ1.vw.H 60 (nT ys (live σ1.H)) [])) k=some k'->decide (k'<108)=true/\k=cG (kT 100 (reach σ1.vw.H 60 (nT ys (live σ1.H)) [])) k':=λk k' hk=>by
  unfold sJ at hk;split at hk
  .rename_i hH
   cases hk;refine⟨aX (by have:=(uR.1 hH).2;omega),?_⟩;unfold cG;cases hl:Ab.look k _ with
   |none=>rfl
   |some z=>
     have:=(F.lZ _ _ (oR hl)).2.2.1;rw[hH]at this;cases this
  .obtain⟨_,b,_,d⟩:=F.lZ _ _ (I5 hk)
   exact⟨aX b,d.symm⟩
 have hren:=Aw (H:=(eB σ1).H) (nm':=λk=>decide (k<108)) hf ys zs hzs;have hzl:ys.length=zs.length:=by have:=hren.get.1;simpa[hY]using this
 -- objects
 have hHH:∀k o',Ab.look k (HA H')=some o'->k<108/\∃o,(eB σ1).H (cG (kT 100 (reach σ1.vw.H 60 (nT ys (live σ1.H)) [])) k)=some o/\jU false (eB σ1).H (λk=>decide (k<108)) (cG (kT 100 (reach σ1.vw.H 60 (nT ys (live σ1.H)) []))) o o':=λk o' hk=>by
  rw[yG]at hk;obtain⟨y,hy,rfl⟩:=cO.1 hk;obtain⟨q,o,e1,e2,e3⟩:=uH _ _ hH' k y hy;obtain⟨a1,a2⟩:=F.al k q e1;refine⟨?_,o.A,by rw[a1];exact aR (Option.map XO.A) e2,IS hf e3⟩;rcases a2 with a2|⟨q',a2⟩
  .have:=(uR.1 a2).2;omega
  .exact(F.lZ _ _ a2).2.1
 have hinj:∀k k' o o',Ab.look k (HA H')=some o->Ab.look k' (HA H')=some o'->cG (kT 100 (reach σ1.vw.H 60 (nT ys (live σ1.H)) [])) k=cG (kT 100 (reach σ1.vw.H 60 (nT ys (live σ1.H)) [])) k'->k=k':=λk k' o o' h1 h2 e=>by
  rw[yG]at h1 h2;obtain⟨y1,hy1,rfl⟩:=cO.1 h1;obtain⟨y2,hy2,rfl⟩:=cO.1 h2;obtain⟨q1,_,e1,_,_⟩:=uH _ _ hH' k y1 hy1;obtain⟨q2,_,e2,_,_⟩:=uH _ _ hH' k' y2 hy2;rw[(F.al k q1 e1).1,(F.al k' q2 e2).1]at e;subst e;exact Mz F.nd (sL e1) (sL e2)
 have hid:∀k,50<=k->k<100->cG (kT 100 (reach σ1.vw.H 60 (nT ys (live σ1.H)) [])) k=k:=λk h1 h2=>by
  unfold cG;cases hl:Ab.look k _ with
  |none=>rfl
  |some z=>
    have:=(F.lZ _ _ (oR hl)).2.2.1;rw[uR.2 ⟨h1,h2⟩]at this;cases this
 have hlen3:xs.length<=5:=by
  rw[hlen,hzl];split at h
  .simp
  .simp
  .simp
  .simp
  .simp
  .simp
  .cases h
 obtain⟨v,hv1,hv2⟩:=a1k (P:=c.P) (fn:=fn) hR1 (xs:=xs.map X.D) (by rw[cP];exact m1) (by rw[cP];exact hlen3) (λi rv d h1 h2=>by
  rw[cZ]at h2;obtain⟨x,hx,rfl⟩:=cO.1 h2;obtain⟨rv',h3,h4⟩:=m2 i x hx;rw[h1]at h3;cases h3;exact a1l h4)
 refine⟨v,hv1,?_⟩;have hdw:cJ (eB σ1).H (match xs.map X.D with|[d]=>d|xs=>.aS xs) (match ys.map X.D with|[d]=>d|xs=>.aS xs):=by
  match xs,ys,hlen,hw with
  |[],[],_,_=>exact cJ.refl
  |[x],[y],_,hw=>cases hw with|cons h _=>exact h
  |x1::x2::xs,y1::y2::ys,_,hw=>exact cJ.aS hw
 have hdl:eG false (eB σ1).H (λk=>decide (k<108)) (cG (kT 100 (reach σ1.vw.H 60 (nT ys (live σ1.H)) []))) (match ys.map X.D with|[d]=>d|xs=>.aS xs) r.1.D/\r.2=H':=by
  have hy3:ys.length<=5:=by omega
  match ys,zs,hzl,hren,h,hy3 with
  |[],[],_,hren,h,_=>cases h;exact⟨.D3 hren,rfl⟩
  |[y],[z],_,hren,h,_=>cases h;cases hren with|cons h _=>exact⟨h,rfl⟩
  |[y1,y2],[z1,z2],_,hren,h,_=>cases h;exact⟨.D3 hren,rfl⟩
  |[y1,y2,y3],[z1,z2,z3],_,hren,h,_=>cases h;exact⟨.D3 hren,rfl⟩
  |[y1,y2,y3,y4],[z1,z2,z3,z4],_,hren,h,_=>cases h;exact⟨.D3 hren,rfl⟩
  |[y1,y2,y3,y4,y5],[z1,z2,z3,z4,z5],_,hren,h,_=>cases h;exact⟨.D3 hren,rfl⟩
  |_::_::_::_::_::_::_,_,_,_,_,hy3=>simp at hy3
 rw[hdl.2];exact aGw _ hR1 hv2 hdw hdl.1 hHH hinj hid
theorem a1n{f:Nat->Option Nat}{x y:X}(h:gX f x=some y)(v:Value):y≠.kQ v:=λe=>by
 subst e;cases x <;> unfold gX at h <;> first|cases h|(split at h <;> cases h)
theorem a1o{f:Nat->Option Nat}{xs:List X}{z:X}(h:q9 f xs=some [z]):∃x,gX f x=some z:=by
 cases xs with
 |nil=>cases h
 |cons x l=>
   unfold q9 at h;split at h
   .rename_i y hy
    split at h
    .cases h;exact⟨x,hy⟩
    .cases h
   .cases h
theorem a6M{c:Cx}{fn:Func}{ow:Bool}{e:Exit}{σ:Sg}{r:aF}(h:BQ c fn ow e σ=some r)(v:Value):r.1≠.kQ v:=by
 unfold BQ at h;split at h
 case h_2=>cases h
 obtain⟨xs,hxs,h⟩:=bF h;obtain⟨ys,hys⟩:∃ys,Yz c fn ow (M0 ow σ) xs=ys:=⟨_,rfl⟩
 simp only[hys]at h;split at h
 case h_2=>cases h
 obtain⟨zs,hzs,h⟩:=bF h;obtain⟨H',hH',h⟩:=bF h;split at h
 .cases h
  obtain⟨x,hx⟩:=a1o hzs;exact a1n hx v
 all_goals first|(cases h;exact λe=>by cases e)|cases h
theorem aIt{ch:List PanicEntry}{σ:Sg}{r:aF}(h:Nd ch σ=some r):∃v,r.1 = .kQ v/\ch=[uK v]/\∀(E:Env)(tm:Array Value)(w:World),R E (eB σ) tm w->R { E with m:=1 } (res .any (HA r.2)) #[undef] w:=by
 unfold Nd at h;split at h
 case h_2=>cases h
 rename_i p;split at h
 .cases h
 rename_i hp
 dsimp only at h
 split at h
 case h_2=>cases h
 rename_i hrn;have F:=Ww hrn;obtain⟨H',hH',h⟩:=bF h;cases h;refine⟨p.v,rfl,?_,λE tm w hR=>?_⟩
 .obtain⟨v,a,b⟩:=p
  rw[Bool.or_eq_false_iff]at hp;obtain⟨h1,h2⟩:=hp;simp only at h1 h2;subst h1 h2;rfl
 have hf:∀k k',sJ (kT 100 (reach σ.vw.H 60 (handed σ.H) [])) k=some k'->decide (k'<108)=true/\k=cG (kT 100 (reach σ.vw.H 60 (handed σ.H) [])) k':=λk k' hk=>by
  unfold sJ at hk;split at hk
  .rename_i hH
   cases hk;refine⟨aX (by have:=(uR.1 hH).2;omega),?_⟩;unfold cG;cases hl:Ab.look k _ with
   |none=>rfl
   |some z=>
     have:=(F.lZ _ _ (oR hl)).2.2.1;rw[hH]at this;cases this
  .obtain⟨_,b,_,d⟩:=F.lZ _ _ (I5 hk)
   exact⟨aX b,d.symm⟩
 have hHH:∀k o',Ab.look k (HA H')=some o'->k<108/\∃o,(eB σ).H (cG (kT 100 (reach σ.vw.H 60 (handed σ.H) [])) k)=some o/\jU false (eB σ).H (λk=>decide (k<108)) (cG (kT 100 (reach σ.vw.H 60 (handed σ.H) []))) o o':=λk o' hk=>by
  rw[yG]at hk;obtain⟨y,hy,rfl⟩:=cO.1 hk;obtain⟨q,o,e1,e2,e3⟩:=uH _ _ hH' k y hy;obtain⟨a1,a2⟩:=F.al k q e1;refine⟨?_,o.A,by rw[a1];exact aR (Option.map XO.A) e2,IS hf e3⟩;rcases a2 with a2|⟨q',a2⟩
  .have:=(uR.1 a2).2;omega
  .exact(F.lZ _ _ a2).2.1
 have hinj:∀k k' o o',Ab.look k (HA H')=some o->Ab.look k' (HA H')=some o'->cG (kT 100 (reach σ.vw.H 60 (handed σ.H) [])) k=cG (kT 100 (reach σ.vw.H 60 (handed σ.H) [])) k'->k=k':=λk k' o o' h1 h2 e=>by
  rw[yG]at h1 h2;obtain⟨y1,hy1,rfl⟩:=cO.1 h1;obtain⟨y2,hy2,rfl⟩:=cO.1 h2;obtain⟨q1,_,e1,_,_⟩:=uH _ _ hH' k y1 hy1;obtain⟨q2,_,e2,_,_⟩:=uH _ _ hH' k' y2 hy2;rw[(F.al k q1 e1).1,(F.al k' q2 e2).1]at e;subst e;exact Mz F.nd (sL e1) (sL e2)
 have hid:∀k,50<=k->k<100->cG (kT 100 (reach σ.vw.H 60 (handed σ.H) [])) k=k:=λk h1 h2=>by
  unfold cG;cases hl:Ab.look k _ with
  |none=>rfl
  |some z=>
    have:=(F.lZ _ _ (oR hl)).2.2.1;rw[uR.2 ⟨h1,h2⟩]at this;cases this
 exact aGw (d:=.any) (d1:=.any) _ hR (λ_ _ _=>.any) cJ.refl .any hHH hinj hid
def wV(P:Program)(f:FuncId)(ds:List D)(H:List (Nat×aO))(r:aF):Prop:=match r.1 with
 |.kQ v=>Zw P f ds H v (HA r.2)
 |x=>jD P f ds H x.D (HA r.2)
theorem wV.of{P:Program}{f:FuncId}{ds:List D}{H:List (Nat×aO)}{r:aF}(h:∀v,r.1≠.kQ v)(k:jD P f ds H r.1.D (HA r.2)):wV P f ds H r:=by
 obtain⟨x,H'⟩:=r;unfold wV;cases x with
 |kQ v=>exact absurd rfl (h v)
 |_=>exact k
theorem aIh{c:Cx}(hc:tG c){f:FuncId}{fn:Func}{code:Code}(hf:c.P.funcs[f]?=some fn)(hb:fn.body=some code){h:Hint}(hh:jL c fn.ntmps h code){xs:List X}{H:XH}(hm:xs.length<=fn.ntmps){ow:Bool}{r:aF}
    (he:exec c fn.ntmps h code ⟨rL 0 xs,H,100⟩ (wH c fn ow)=some r):wV c.P f (xs.map X.D) (HA H) r:=by
 have key:∀E:Env,E.m=fn.ntmps->iV c.P E code _ (args (xs.map X.D) (HA H)):=λE hE=>a6w xs H ▸ Ye hc code h _ _ r he hh (cE _) E hE
 have fin:∀{e:Exit}{σ:Sg},wH c fn ow e σ=some r->(∃ch,e = .panic ch/\Nd ch σ=some r)\/BQ c fn ow e σ=some r:=λ{e σ} h=>by
  unfold wH at h;split at h
  .exact .inl ⟨_,rfl,h⟩
  .exact .inr h
 by_cases hp:∃v,r.1 = .kQ v
 .obtain⟨v,hv⟩:=hp
  have:wV c.P f (xs.map X.D) (HA H) r=Zw c.P f (xs.map X.D) (HA H) v (HA r.2):=by unfold wV;rw[hv]
  rw[this];refine a1B hf hb (by rw[cP];exact hm) λE hE=>uZ (key E hE) ?_
  rintro e s ⟨σ',⟨_,h1⟩,hent⟩;rcases fin h1 with⟨ch,rfl,h1⟩|h1
  .obtain⟨v',e1,e2,e3⟩:=aIt h1
   rw[hv]at e1;cases e1;exact⟨e2,λtm w hR=>e3 E tm w (hent tm w hR)⟩
  .exact absurd hv (a6M h1 v)
 .refine wV.of (λv hv=>hp ⟨v,hv⟩) (a1C hf hb (by rw[cP];exact hm) λE hE=>uZ (key E hE) ?_)
  rintro e s ⟨σ',⟨_,h1⟩,hent⟩;rcases fin h1 with⟨ch,rfl,h1⟩|h1
  .obtain⟨v',e1,_⟩:=aIt h1
   exact absurd ⟨v',e1⟩ hp
  .obtain⟨h2,h3⟩:=aIs h1
   rcases h2 with rfl|rfl
   .exact λtm w hR=>h3 E tm w (hent tm w hR)
   .exact λtm w hR=>h3 E tm w (hent tm w hR)
def oF(P:Program)(f:FuncId)(g:oE):Prop:=∀xs H cl,g xs H=some cl->∀a,cl.z=some a->jD P f (xs.map X.D) (HA H) (cl.R a).1.D (HA (cl.R a).2)
def sK (P : Program) (f : FuncId) : Bool := match P.funcs[f]? with | some fn => !(decide (fn.name = "runtime.NumGoroutine")) | none => true
def pQ(P:Program)(G:List (Nat×oE)):Prop:=∀f g,lk f G=some g->sK P f=true/\oF P f g
theorem pQ.nil{P:Program}:pQ P []:=λf g h=>by cases h
theorem pQ.cons{P:Program}{f:Nat}{g:oE}{G:List (Nat×oE)}(hn:sK P f=true)(h:oF P f g)(k:pQ P G):pQ P ((f,g)::G):=λf' g' h'=>by
 unfold lk at h';split at h'
 .rename_i he
  have:=bB he;subst this;cases h';exact⟨hn,h⟩
 .exact k f' g' h'
end Go.Ax
/- Operations: what a look-up is, numbers, truth values, strings. -/
namespace Go.Ax
open aA
open Go.RowKit Go.Ab
abbrev yO(g:Option Bool):Prop:=∀c,g=some c->c=true
theorem pK{g:Option Bool}{b:Bool}{k:O}{r:aF}(h:nF g b k=some r):k=some r/\(yO g->b=true):=by
 unfold nF at h;split at h
 .exact⟨(eL h).2,λ_=>(eL h).1⟩
 .rename_i c
  refine⟨(eL h).2,λhg=>?_⟩;have:=(eL h).1;rw[hg c rfl]at this;simpa using this
theorem aJX{α:Type}{z:Option α}{k:α->O}{r:aF}(h:cb z k=some r):∃y,z=some y/\k y=some r:=by
 change Nw z k=some r at h;unfold Nw at h;split at h
 .exact⟨_,rfl,h⟩
 .cases h
theorem a7W{α:Type}{g:Option Bool}{z:Option α}{d:α}{k:α->O}{r:aF}(h:Yy g z d k=some r):∃y,k y=some r/\(yO g->z=some y):=by
 unfold Yy at h;split at h
 .obtain⟨y,h1,h2⟩:=aJX h
  exact⟨y,h2,λ_=>h1⟩
 .rename_i c
  change Yv c z d k=some r at h;unfold Yv at h;split at h
  .obtain⟨y,h1,h2⟩:=aJX (k:=k) h
   exact⟨y,h2,λ_=>h1⟩
  .exact⟨d,h,λhg=>by cases hg _ rfl⟩
theorem BM{g:Option Bool}{τ:Ty}{l:List τ.V}{n:Int}{k:τ.V->O}{r:aF}(h:wE g τ l n k=some r):∃y,k y=some r/\(yO g->0<=n/\l[n.toNat]?=some y):=by
 unfold wE at h;split at h
 .obtain⟨y,h1,h2,h3⟩:=Im h
  exact⟨y,h3,λ_=>⟨h1,h2⟩⟩
 .rename_i c
  change YV c τ.zero l n k=some r at h;unfold YV at h;cases c with
  |true=>
    obtain⟨y,h1,h2,h3⟩:=Im h;exact⟨y,h3,λ_=>⟨h1,h2⟩⟩
  |false=>exact⟨_,h,λhg=>by have:=hg false rfl;cases this⟩
theorem Vw.On.g{σ:Vw}(h:σ.On):yO (σ.g.map (·.2)):=λc hc=>by
 obtain⟨p,hp,rfl⟩:=cO.1 hc;exact h p.1 p.2 hp
theorem WR{g:Option (Nat×Bool)}{x v:X}(h:vX g x=some v):v.pl=true:=by
 unfold vX at h;split at h
 .cases h;rfl
 .split at h
  .split at h
   .split at h
    .cases h;rfl
    .cases h
    .rename_i h1 h2
     cases h;cases v with
     |bit j q=>exact absurd rfl (h1 j q)
     |eX a b c=>exact absurd rfl (h2 a b c)
     |_=>rfl
   .cases h
  .cases h
 .rename_i h1 h2
  cases h;cases x with
  |bit j q=>exact absurd rfl (h1 j q)
  |eX a b c=>exact absurd rfl (h2 a b c)
  |_=>rfl
theorem WS{κ:Nat->Bool}{g:Option (Nat×Bool)}{x v:X}(hg:Good κ x)(hκ:∀key c,g=some (key,c)->c=κ key)(hon:∀key c,g=some (key,c)->c=true)(h:vX g x=some v):x.D=v.D:=by
 unfold vX at h;split at h
 .cases h;rfl
 .rename_i key c y
  split at h
  .rename_i key' c'
   split at h
   .rename_i hb
    have hb:=bB hb;subst hb;have hc:c=true:=hg.1.trans ((hκ _ _ rfl).symm.trans (hon _ _ rfl));subst hc;split at h
    .cases h;rfl
    .cases h
    .cases h;rfl
   .cases h
  .cases h
 .cases h;rfl
theorem a3c(w:Value):(p9 w).pl=true:=by
 unfold p9;split
 .split <;> rfl
 all_goals rfl
theorem a3b{w:Value}{x:X}(h:uM w=some x):x.pl=true:=by
 unfold uM at h;split at h
 .split at h
  .cases h;rfl
  .cases h
 .cases h
 .cases h;exact a3c w
theorem a5M(g:Nat):(Ip g).pl=true:=match g with
 |0=>rfl
 |1=>rfl
 |2=>rfl
 |3=>rfl
 |4=>rfl
 |g+5=>rfl
theorem yT{σ:Vw}{x:Operand}{v:X}(h:σ.ev x=some v):v.pl=true:=by
 cases x with
 |tmp t=>
   simp only[Vw.ev]at h;split at h
   .exact WR h
   .cases h
 |const w=>exact a3b h
 |func f=>
   simp only[Vw.ev]at h;split at h
   .cases h;rfl
   .cases h
 |global g=>simp only[Vw.ev]at h;cases h;exact a5M g
theorem aV{σ:Vw}{κ:Nat->Bool}(hσ:σ.Ok κ)(hon:σ.On){x:Operand}{v:X}(h:σ.ev x=some v):σ.den.ev x=some v.D:=by
 cases x with
 |tmp t=>
   simp only[Vw.ev]at h;split at h
   .rename_i y hy
    have e:σ.den.ev (.tmp t)=some y.D:=sV hy;rw[e,WS (hσ.sP t y hy) hσ.g hon h]
   .cases h
 |const w=>
   have:=XZ (σ:=⟨[],[],0⟩) h;exact this
 |func f=>
   simp only[Vw.ev]at h;split at h
   .rename_i hb
    cases h;exact aI (iA hb)
   .cases h
 |global g=>simp only[Vw.ev]at h;cases h;exact aR some (aI8 g).symm
section
variable{P:Program}{o:Oper}{σ:St}{fr:Nat}
abbrev T8(c:UInt8):D:=.t (.v (.int .u8 (UInt8.toNat c:Int)))
abbrev TS(s:List UInt8):D:=.t (.v (.string ⟨⟨s⟩⟩))
theorem Je(n:Int):IntKind.u8.wrap n=n%256:=by
 have:IntKind.u8.wrap n=n%((2:Int)^8):=by unfold IntKind.wrap;simp[IntKind.signed,IntKind.bits]
 rw[this];rfl
theorem a06(n:Int):((kP n).toNat:Int)=IntKind.u8.wrap n:=by
 rw[Je];unfold kP;rw[UInt8.toNat_ofNat'];omega
theorem a8T(a b:UInt8):IntKind.u8.wrap ((a.toNat:Int)+b.toNat)=((a+b).toNat:Int):=by
 rw[Je,UInt8.toNat_add];omega
theorem a0p(a b:UInt8):IntKind.u8.wrap ((a.toNat:Int)-b.toNat)=((a-b).toNat:Int):=by
 have h1:=a.toNat_lt;have h2:=b.toNat_lt;rw[Je,UInt8.toNat_sub];omega
theorem lt8(a b:UInt8):decide ((a.toNat:Int)<b.toNat)=decide (a<b):=by
 congr 1
 rw[UInt8.lt_iff_toNat_lt];simp
theorem le8(a b:UInt8):decide ((a.toNat:Int)<=b.toNat)=decide (a<=b):=by
 congr 1
 rw[UInt8.le_iff_toNat_le];simp
theorem eq8(a b:UInt8):decide ((a.toNat:Int)=b.toNat)=decide (a=b):=by
 congr 1
 rw[<-B9];simp only[eq_iff_iff];omega
theorem ne8(a b:UInt8):decide ((a.toNat:Int)≠b.toNat)=decide (a≠b):=by
 congr 1
 rw[ne_eq,ne_eq,<-B9];simp only[eq_iff_iff];omega
theorem a4u{g:Option Bool}{op:BinOp}{ik:IntKind}{m n:Int}{k:X->O}{r:aF}(h:YC g op ik m n k=some r):∃x,k x=some r/\x.pl=true/\(yO g->∀{xt yt:TypeId}{x' y':Operand},o.op = .binOp op xt x' y' yt->σ.ev x'=some (.t (.v (.int ik m)))->σ.ev y'=some (.t (.v (.int ik n)))->aW P o σ fr x.D []):=by
 unfold YC at h;split at h
 .exact⟨_,h,rfl,λ_ _ _ _ _ ho hx hy=>aHe ho hx hy⟩
 .exact⟨_,h,rfl,λ_ _ _ _ _ ho hx hy=>aHS ho hx hy⟩
 .exact⟨_,h,rfl,λ_ _ _ _ _ ho hx hy=>a2m ho hx hy⟩
 .obtain⟨h1,h2⟩:=pK h
  exact⟨_,h1,rfl,λhg _ _ _ _ ho hx hy=>a2f ho hx hy (bK (h2 hg))⟩
 .obtain⟨h1,h2⟩:=pK h
  exact⟨_,h1,rfl,λhg _ _ _ _ ho hx hy=>a2d ho hx hy (bK (h2 hg))⟩
 .exact⟨_,h,rfl,λ_ _ _ _ _ ho hx hy=>aHY ho hx hy⟩
 .exact⟨_,h,rfl,λ_ _ _ _ _ ho hx hy=>aH1 ho hx hy⟩
 .exact⟨_,h,rfl,λ_ _ _ _ _ ho hx hy=>aH4 ho hx hy⟩
 .exact⟨_,h,rfl,λ_ _ _ _ _ ho hx hy=>aH5 ho hx hy⟩
 .exact⟨_,h,rfl,λ_ _ _ _ _ ho hx hy=>aH7 ho hx hy⟩
 .exact⟨_,h,rfl,λ_ _ _ _ _ ho hx hy=>aHV ho hx hy⟩
 .exact⟨_,h,rfl,λ_ _ _ _ _ ho hx hy=>iY ho hx hy (λw=>by simp[eqGuard,binOp,Op.intBits,aJt]) rfl⟩
 .exact⟨_,h,rfl,λ_ _ _ _ _ ho hx hy=>iY ho hx hy (λw=>by simp[eqGuard,binOp,Op.intBits,orV]) rfl⟩
 .exact⟨_,h,rfl,λ_ _ _ _ _ ho hx hy=>iY ho hx hy (λw=>by simp[eqGuard,binOp,Op.intBits,aAM]) rfl⟩
 .exact⟨_,h,rfl,λ_ _ _ _ _ ho hx hy=>iY ho hx hy (λw=>by simp[eqGuard,binOp,Op.intBits,aHn]) rfl⟩
 .cases h
theorem a1I{g:Option Bool}{op:BinOp}{ik ik':IntKind}{m n:Int}{k:X->O}{r:aF}(h:Wn g op ik m n k=some r):∃x,k x=some r/\x.pl=true/\(yO g->∀{xt yt:TypeId}{x' y':Operand},o.op = .binOp op xt x' y' yt->σ.ev x'=some (.t (.v (.int ik m)))->σ.ev y'=some (.t (.v (.int ik' n)))->aW P o σ fr x.D []):=by
 unfold Wn at h;split at h
 .obtain⟨h1,h2⟩:=pK h
  refine⟨_,h1,rfl,λhg _ _ _ _ ho hx hy=>iY ho hx hy (λw=>?_) rfl⟩;have:=bK (h2 hg);simp[eqGuard,binOp,Op.shift,Int.not_lt.2 this]
 .obtain⟨h1,h2⟩:=pK h
  refine⟨_,h1,rfl,λhg _ _ _ _ ho hx hy=>iY ho hx hy (λw=>?_) rfl⟩;have:=bK (h2 hg);simp[eqGuard,binOp,Op.shift,Int.not_lt.2 this]
 .cases h
theorem a07{op:BinOp}{m n:UInt8}{k:X->O}{r:aF}(h:WU op m n k=some r):∃x,k x=some r/\x.pl=true/\(∀{xt yt:TypeId}{x' y':Operand},o.op = .binOp op xt x' y' yt->σ.ev x'=some (T8 m)->σ.ev y'=some (T8 n)->aW P o σ fr x.D []):=by
 unfold WU at h;split at h
 .refine⟨_,h,rfl,λho hx hy=>?_⟩
  have:=aHe (P:=P) (fr:=fr) ho hx hy
  rwa [a8T]at this
 .refine⟨_,h,rfl,λho hx hy=>?_⟩
  have:=aHS (P:=P) (fr:=fr) ho hx hy
  rwa [a0p]at this
 .refine⟨_,h,rfl,λho hx hy=>?_⟩
  have:=aHY (P:=P) (fr:=fr) ho hx hy
  rwa [lt8]at this
 .refine⟨_,h,rfl,λho hx hy=>?_⟩
  have:=aH1 (P:=P) (fr:=fr) ho hx hy
  rwa [le8]at this
 .refine⟨_,h,rfl,λho hx hy=>?_⟩
  have:=aH4 (P:=P) (fr:=fr) ho hx hy
  rwa [lt8]at this
 .refine⟨_,h,rfl,λho hx hy=>?_⟩
  have:=aH5 (P:=P) (fr:=fr) ho hx hy
  rwa [le8]at this
 .refine⟨_,h,rfl,λho hx hy=>?_⟩
  have:=aH7 (P:=P) (fr:=fr) ho hx hy
  rwa [eq8]at this
 .refine⟨_,h,rfl,λho hx hy=>?_⟩
  have:=aHV (P:=P) (fr:=fr) ho hx hy
  rwa [ne8]at this
 .cases h
theorem a4B(m n:List UInt8):ByteArray.mk ⟨m⟩++ByteArray.mk ⟨n⟩=ByteArray.mk ⟨m++n⟩:=by
 apply aK7;rw[ByteArray.data_append];simp
theorem a0t{g:Option Bool}{op:BinOp}{m n:List UInt8}{k:X->O}{r:aF}(h:WZ g op m n k=some r):∃x,k x=some r/\x.pl=true/\(yO g->∀{xt yt:TypeId}{x' y':Operand},o.op = .binOp op xt x' y' yt->σ.ev x'=some (TS m)->σ.ev y'=some (TS n)->aW P o σ fr x.D []):=by
 have tl:∀l:List UInt8,(ByteArray.mk ⟨l⟩).toList=l:=λl=>ByteArray.toList_mk l
 have be:∀m n:List UInt8,(m == n)=decide (m=n):=λm n=>by rw[Bool.eq_iff_iff];simp
 unfold WZ at h;split at h
 .obtain⟨h1,h2⟩:=pK h
  refine⟨_,h1,rfl,λhg _ _ _ _ ho hx hy=>iY ho hx hy (λw=>?_) rfl⟩;have hb:=bK (h2 hg);have hsz:¬ (((ByteArray.mk ⟨m⟩).size+(ByteArray.mk ⟨n⟩).size:Nat):Int)>IntKind.i64.max:=by
   show ¬ ((m.length+n.length:Nat):Int)>9223372036854775807;omega
  simp only[eqGuard,binOp,Op.stringOp,aE hsz,a4B];simp
 .refine⟨_,h,rfl,λhg _ _ _ _ ho hx hy=>iY ho hx hy (λw=>?_) rfl⟩
  simp[eqGuard,binOp,Op.stringOp,tl,be]
 .refine⟨_,h,rfl,λhg _ _ _ _ ho hx hy=>iY ho hx hy (λw=>?_) rfl⟩
  simp[eqGuard,binOp,Op.stringOp,tl,be]
 .cases h
theorem a7k{g:Option Bool}{op:BinOp}{xt:TypeId}{x y:X}{k:X->O}{r:aF}(h:ZE P g op xt x y k=some r):∃z,k z=some r/\z.pl=true/\(yO g->∀{yt:TypeId}{x' y':Operand},o.op = .binOp op xt x' y' yt->σ.ev x'=some x.D->σ.ev y'=some y.D->aW P o σ fr z.D []):=by
 unfold ZE at h;split at h
 .split at h
  .obtain⟨z,h1,h2,h3⟩:=a1I (P:=P) (o:=o) (σ:=σ) (fr:=fr) h
   exact⟨z,h1,h2,λhg _ _ _ ho hx hy=>h3 hg ho hx hy⟩
  .split at h
   .rename_i he
    have he:=bK he;subst he;obtain⟨z,h1,h2,h3⟩:=a4u (P:=P) (o:=o) (σ:=σ) (fr:=fr) h;exact⟨z,h1,h2,λhg _ _ _ ho hx hy=>h3 hg ho hx hy⟩
   .cases h
 .obtain⟨z,h1,h2,h3⟩:=a07 (P:=P) (o:=o) (σ:=σ) (fr:=fr) h
  exact⟨z,h1,h2,λhg _ _ _ ho hx hy=>h3 ho hx hy⟩
 .obtain⟨z,h1,h2,h3⟩:=a0t (P:=P) (o:=o) (σ:=σ) (fr:=fr) h
  exact⟨z,h1,h2,λhg _ _ _ ho hx hy=>h3 hg ho hx hy⟩
 .split at h
  .rename_i hu
   unfold aJ2 at h;split at h
   .exact⟨_,h,rfl,λhg _ _ _ ho hx hy=>a3V hu ho hx hy⟩
   .exact⟨_,h,rfl,λhg _ _ _ ho hx hy=>a2l hu ho hx hy⟩
   .cases h
  .cases h
 .cases h
theorem a2k{t:TypeId}{x:Operand}{ik:IntKind}{m:Int}(ho:o.op = .unOp .neg t x)(hx:σ.ev x=some (.t (.v (.int ik m)))):aW P o σ fr (.t (.v (.int ik (ik.wrap (-m))))) []:=
 dM λ_ _ _ _ w a _ _ hev=>by
  have h1':=bY (hev x _ hx);refine⟨.int ik (ik.wrap (-m)),?_,.t (.v _ rfl)⟩;unfold execOp;rw[ho];simp only[h1'];simp[Op.unary,Op.intArith]
theorem Mq{x:Operand}{d:D}(ho:o.op = .nilCheck x)(hx:σ.ev x=some d)(hd:(∃k off,d = .ref k off)\/(∃ts off,d = .ptr ts off)\/∃f ds,d = .fn f ds):aW P o σ fr d []:=
 dM λ_ _ _ _ w a _ _ hev=>by
  have h:=hev x _ hx;refine⟨a.eval x,?_,h⟩;unfold execOp;rw[ho];obtain⟨v,hv⟩:∃v,a.eval x=v:=⟨_,rfl⟩
  rw[hv]at h;simp only[hv];rcases hd with⟨k,off,rfl⟩|⟨ts,off,rfl⟩|⟨f,ds,rfl⟩
  .cases h with|ref _ _=>rfl
  .cases h with|ptr _ _ _=>rfl
  .cases h with
   | @fn _ vs _ _ _=>
     by_cases hf:f<1000000
     .rw[Na hf];rfl
     .rw[Y5 hf];rfl
theorem a2u{x y:Operand}{m n:Int}{tys:Array TypeId}(ho:o.op = .call { callee:=.builtin .max,args:=#[x,y],argTypes:=tys })(hx:σ.ev x=some (I m))(hy:σ.ev y=some (I n)):aW P o σ fr (I (max m n)) []:=
 dM λ_ _ _ _ w a _ _ hev=>by
  have h1:=bY (hev x _ hx);have h2:=bY (hev y _ hy);refine⟨.int .i64 (max m n),?_,.t (.v _ rfl)⟩;unfold execOp;rw[ho];simp[resolve,invoke,builtin,h1,h2,Lib.run_max_ints]
theorem a13{P:Program}(w:World)(ts:Array TypeId)(t:TypeId)(x y z:Int):(Builtin.max_ ts t #[.int .i64 x,.int .i64 y,.int .i64 z]).run P w = .ok (.int .i64 (max (max x y) z)) w:=by
 have e:∀x y:Int,(if y>x then y else x)=max x y:=λx y=>by
  rw[Int.max_def];split <;> split <;> omega
 simp[Builtin.max_,Builtin.max2,e]
theorem a2v{x y z:Operand}{m n p:Int}{tys:Array TypeId}(ho:o.op = .call { callee:=.builtin .max,args:=#[x,y,z],argTypes:=tys })(hx:σ.ev x=some (I m))(hy:σ.ev y=some (I n))(hz:σ.ev z=some (I p)):aW P o σ fr (I (max (max m n) p)) []:=
 dM λ_ _ _ _ w a _ _ hev=>by
  have h1:=bY (hev x _ hx);have h2:=bY (hev y _ hy);have h3:=bY (hev z _ hz);refine⟨.int .i64 (max (max m n) p),?_,.t (.v _ rfl)⟩;unfold execOp;rw[ho];simp[resolve,invoke,builtin,h1,h2,h3,a13]
theorem a2r{x y:Operand}{m n:Int}{tys:Array TypeId}(ho:o.op = .call { callee:=.builtin .min,args:=#[x,y],argTypes:=tys })(hx:σ.ev x=some (I m))(hy:σ.ev y=some (I n)):aW P o σ fr (I (min m n)) []:=
 dM λ_ _ _ _ w a _ _ hev=>by
  have h1:=bY (hev x _ hx);have h2:=bY (hev y _ hy);refine⟨.int .i64 (min m n),?_,.t (.v _ rfl)⟩;unfold execOp;rw[ho];simp[resolve,invoke,builtin,h1,h2,Lib.run_min_ints]
theorem a3E{t:TypeId}{x:Operand}{s:List UInt8}{tys:Array TypeId}(hu:P.underlying t=some .string)(ho:o.op = .call { callee:=.builtin .len,args:=#[x],argTypes:=tys })(ht:tys = #[t])(hx:σ.ev x=some (TS s)):aW P o σ fr (I s.length) []:=
 dM λ_ _ _ _ w a _ _ hev=>by
  have h1:=bY (hev x _ hx);refine⟨.int .i64 s.length,?_,.t (.v _ rfl)⟩;unfold execOp;rw[ho,ht];simp[resolve,invoke,builtin,h1,run_len_string _ t _ _ hu,goInt];rfl
theorem a3L{t:TypeId}{x y:Operand}{s:List UInt8}{ik:IntKind}{n:Int}{c:UInt8}(hu:P.underlying t=some .string)(ho:o.op = .index t x y)(hx:σ.ev x=some (TS s))(hy:σ.ev y=some (.t (.v (.int ik n))))(h0:0<=n)(hc:s[n.toNat]?=some c):aW P o σ fr (T8 c) []:=
 dM λ_ _ _ _ w a _ _ hev=>by
  have h1:=bY (hev x _ hx);have h2:=bY (hev y _ hy);refine⟨.int .u8 (c.toNat:Int),?_,.t (.v _ rfl)⟩;obtain⟨hlt,hcc⟩:=bZ.1 hc;have hsz:(ByteArray.mk ⟨s⟩).size=s.length:=rfl;have hi:0<=n/\n<((ByteArray.mk ⟨s⟩).size:Nat):=⟨h0,by rw[hsz];omega⟩;have:=run_index_string w t (ByteArray.mk ⟨s⟩) ik n hu;rw[dif_pos hi]at this;unfold execOp;rw[ho];simp only[h1,h2,Sem.run_bind,this,Result.andThen_ok,Sem.run_pure];have hval:((ByteArray.mk ⟨s⟩)[n.toNat]'(by omega))=c:=hcc;rw[hval]
theorem a2x{f:FuncId}{caps:Array Operand}{ds:List D}(hf:f<1000000)(ho:o.op = .makeFunc (.func f) #[] caps)(hl:caps.size=ds.length)(hc:∀(i:Nat)(x:Operand)(d:D),caps[i]?=some x->ds[i]?=some d->σ.ev x=some d):aW P o σ fr (.fn f ds) []:=
 dM λ_ _ _ _ w a _ _ hev=>by
  refine⟨uU f (caps.map a.eval),?_,.fn (by simp[hl]) (λi u d hu hd=>?_)⟩
  .unfold execOp
   rw[ho,Na hf];simp[Instr.makeFunc]
  .simp only[a9g]at hu
   obtain⟨x,hx,rfl⟩:=cO.1 hu;exact hev x d (hc i x d hx hd)
theorem a2w{f:FuncId}{first:Array Operand}{ds:List D}(ho:o.op = .makeFunc (.func f) first #[])(hl:first.size=ds.length)(hc:∀(i:Nat)(x:Operand)(d:D),first[i]?=some x->ds[i]?=some d->σ.ev x=some d):aW P o σ fr (.fn (f+1000000) ds) []:=
 dM λ_ _ _ _ w a _ _ hev=>by
  refine⟨uU (f+1000000) (first.map a.eval),?_,.fn (by simp[hl]) (λi u d hu hd=>?_)⟩
  .unfold execOp
   rw[ho,Y5 (Nat.not_lt.2 (Nat.le_add_left _ _)),Nat.add_sub_cancel];simp[Instr.makeFunc]
  .simp only[a9g]at hu
   obtain⟨x,hx,rfl⟩:=cO.1 hu;exact hev x d (hc i x d hx hd)
end
end Go.Ax
/- Operations: parts of data, what is read, what is built. -/
namespace Go.Ax
open aA
open Go.RowKit Go.Ab
theorem OO{P:Program}{o:Oper}{σ:St}{fr:Nat}{d d':D}(h:aW P o σ fr d [])(hw:cJ σ.H d d'):aW P o σ fr d' []:=λE σ₁ a w h1 h2 h3 h4 h5 h6 Q=>Oper.wp_mono (λa' w' ⟨q1,ν,G,I⟩=>by
 refine⟨q1,ν,G,I.kept,I.eJ,I.fJ,I.g0,I.sz,λt x ht=>?_,I.H,I.cW⟩;simp only[St.aP]at ht;by_cases e:o.dst=some t
 .rw[aI e]at ht
  cases ht;obtain⟨v,hv,hd⟩:=I.T t d (by simp only[St.aP];rw[aI e]);exact⟨v,hv,hw E _ ν G w' _ (λk ob hk=>by simp only[St.aP,Ab.look];exact h2 k ob hk) I v hd⟩
 .rw[aE e]at ht
  exact I.T t x (by simp only[St.aP];rw[aE e];exact ht)) (h E σ₁ a w h1 h2 h3 h4 h5 h6 Q)
theorem DW{x:X}(h:x.val=true):x.D.val=true:=by
 cases x with
 |e τ y=>
   have h:τ.one=true:=h;rw[pJ h];rfl
 |aS xs=>cases h
 |eX a b c=>cases h
 |bit a b=>cases h
 |kQ a=>cases h
 |_=>rfl
theorem JF{x:X}(h:x.val=true):x.D.cells=x.cells.map X.D:=a7Q h (DW h)
theorem Iz{α:Type}:∀(n:Nat)(l:List α),rH n l=l.drop n
 |0,l=>rfl
 |n+1,[]=>by simp[rH]
 |n+1,x::l=>by simp[rH,Iz n l]
theorem Hz{α:Type}:∀(n:Nat)(l:List α),pZ n l=l.take n
 |0,l=>by simp[pZ]
 |n+1,[]=>by simp[pZ]
 |n+1,x::l=>by simp[pZ,Hz n l]
theorem Mi{α:Type}:∀(l:List α)(off:Nat)(new:List α),off+new.length<=l.length->rC l off new=dL l off new
 |[],off,new,h=>by
   simp at h;obtain⟨rfl,rfl⟩:=h;rfl
 |x::l,0,[],_=>by simp[rC,dL]
 |x::l,0,y::new,h=>by
   have ih:=Mi l 0 new (by simp at h ⊢;omega);simp only[rC,ih,dL];simp
 |x::l,n+1,new,h=>by
   have ih:=Mi l n new (by simp at h ⊢;omega);simp only[rC,ih,dL,a9D,List.cons_append];rw[show n+1+new.length=(n+new.length)+1 by omega,a9U]
theorem We{α β:Type}(f:α->β)(l:List α)(off:Nat)(new:List α):(dL l off new).map f=dL (l.map f) off (new.map f):=by
 simp[dL]
theorem aGx{α:Type}(x:α):∀n,oM x n=cI n x
 |0=>rfl
 |n+1=>by rw[oM,aGx x n,pN]
theorem a1w{α:Type}(l:List α)(i:Nat)(x:α):jG x i l=l.set i x:=by
 have:=IT (λz:α=>z) l i x;simpa using this
theorem JP:∀(τ:Ty)(x:τ.V)(j m:Nat)(k:(τ':Ty)->τ'.V->O)(r:aF),pL τ x j m k=some r->∃(τ':Ty)(y:τ'.V)(A B:List Tree),k τ' y=some r/\aM τ x=A++aM τ' y++B/\A.length=j/\m=τ'.size
 |.pr a b,x,j,m,k,r,h=>by
   unfold pL at h;split at h
   .rename_i hb
    rw[aT]at hb;exact⟨.pr a b,x,[],[],h,by simp,(bB hb.1).symm,bB hb.2⟩
   .split at h
    .obtain⟨τ',y,A,B,h1,h2,h3,h4⟩:=JP a x.1 j m k r h
     exact⟨τ',y,A,B++aM b x.2,h1,by rw[aM,h2];simp,h3,h4⟩
    .rename_i hlt
     obtain⟨τ',y,A,B,h1,h2,h3,h4⟩:=JP b x.2 (j-a.size) m k r h;have:¬ j<a.size:=λhj=>by
      have:Nat.blt j a.size=true:=Zg hj;rw[this]at hlt;cases hlt
     exact⟨τ',y,aM a x.1++A,B,h1,by rw[aM,h2];simp,by rw[aL,dJ,h3];omega,h4⟩
 |.un,x,j,m,k,r,h=>by unfold pL at h;cases h
 |.ex,x,j,m,k,r,h=>by
   unfold pL at h;split at h
   .exact⟨.ex,x,[],[],h,by simp,rfl,rfl⟩
   .exact⟨.i .i64,Ex.op x,[],[.v (.int .i64 (Ex.num x)),.sl (dR (Ex.kids x)) ((Ex.kids x).flatMap wI)],h,(by have:=EK x;exact this),rfl,rfl⟩
   .exact⟨.i .i64,Ex.num x,[.v (.int .i64 (Ex.op x))],[.sl (dR (Ex.kids x)) ((Ex.kids x).flatMap wI)],h,(by have:=EK x;exact this),rfl,rfl⟩
   .exact⟨.sl .ex,Ex.kids x,[.v (.int .i64 (Ex.op x)),.v (.int .i64 (Ex.num x))],[],h,(by have:=EK x;exact this),rfl,rfl⟩
   .cases h
 |.i a,x,j,m,k,r,h=>by
   unfold pL at h;split at h
   .rename_i hb
    rw[aT]at hb;exact⟨.i a,x,[],[],h,by simp,(bB hb.1).symm,bB hb.2⟩
   .cases h
 |.u8,x,j,m,k,r,h=>by
   unfold pL at h;split at h
   .rename_i hb
    rw[aT]at hb;exact⟨.u8,x,[],[],h,by simp,(bB hb.1).symm,bB hb.2⟩
   .cases h
 |.bo,x,j,m,k,r,h=>by
   unfold pL at h;split at h
   .rename_i hb
    rw[aT]at hb;exact⟨.bo,x,[],[],h,by simp,(bB hb.1).symm,bB hb.2⟩
   .cases h
 |.tx,x,j,m,k,r,h=>by
   unfold pL at h;split at h
   .rename_i hb
    rw[aT]at hb;exact⟨.tx,x,[],[],h,by simp,(bB hb.1).symm,bB hb.2⟩
   .cases h
 |.sl a,x,j,m,k,r,h=>by
   unfold pL at h;split at h
   .rename_i hb
    rw[aT]at hb;exact⟨.sl a,x,[],[],h,by simp,(bB hb.1).symm,bB hb.2⟩
   .cases h
theorem BO{α:Type}{f:α->List Tree}{s:Nat}(hf:∀x,(f x).length=s):∀{l:List α}{i:Nat}{y:α},l[i]?=some y->∃A B,l.flatMap f=A++f y++B/\A.length=i*s
 |[],i,y,h=>by simp at h
 |x::l,0,y,h=>by simp at h;subst h;exact⟨[],l.flatMap f,by simp,by simp⟩
 |x::l,i+1,y,h=>by
   obtain⟨A,B,h1,h2⟩:=BO hf (l:=l) (i:=i) (y:=y) (by simpa using h);exact⟨f x++A,B,by rw[fV,h1];simp,by rw[aL,hf,h2,kK];omega⟩
theorem sU{τ:Ty}(l:List τ.V):(l.flatMap (aM τ)).length=l.length*τ.size:=mD (λx=>dJ τ x) l
theorem cJ.ptr{H:Nat->Option aO}{A ts B:List Tree}{off:Nat}(hA:A.length=off):cJ H (.ptr (A++ts++B) off) (.ptr ts 0):=λ_ s ν G w _ _ _ v hv=>by
 obtain⟨b,q,us,rfl,hl,hc,ht⟩:=Di hv;have hlen:us.length=A.length+ts.length+B.length:=by rw[hl];simp;omega
 have:=DR.ptr (ν:=ν) (nm:=s.nm) (w:=w) (G:=G) (b:=b) (o:=q+off) (off:=0) (us:=(us.drop off).take ts.length) (ts:=ts) (by simp;omega) (λi u hu=>by
  rw[fU]at hu;split at hu
  .rw[qQ]at hu
   have:=hc (off+i) u hu
   rwa [<-Be]at this
  .cases hu) (λi u t hu hti=>by
  rw[fU]at hu;split at hu
  .rename_i hi
   rw[qQ]at hu;refine ht (off+i) u t hu ?_;rw[bP,dN (by omega),dV (by omega),show off+i-A.length=i by omega];exact hti
  .cases hu)
 exact this
theorem cJ.a1p{H:Nat->Option aO}{q off:Nat}{e:TypeId}{s n:Nat}{A ts B:List Tree}(hq:H q=some (.row e s n (A++ts++B) true))(hA:A.length=off):cJ H (.ref q off) (.ptr ts 0):=λE st ν G w tm hH I v hv=>by
 obtain⟨g,hg,rfl,_⟩:=mZ hv;have htr:=I.rows _ _ _ _ _ _ (hH _ _ hq) rfl;obtain⟨u,hu⟩:∃u,ν q=u:=⟨_,rfl⟩
 rw[hu]at htr hg;obtain⟨L,hL⟩:∃L,A++ts++B=L:=⟨_,rfl⟩
 rw[hL]at htr;cases htr with
 |nil h=>
   have hts:ts=[]:=(Zo.1 (Zo.1 hL).1).2;subst hts;have:=DR.ptr (ν:=ν) (nm:=st.nm) (w:=w) (G:=G) (b:=g) (o:=off) (off:=0) (us:=[]) (ts:=[]) rfl (λi u h=>by simp at h) (λi u t h=>by simp at h);exact this
 |sl b o n c us ts' hl hc hn h=>
   simp only[aU,iR]at hg;subst hg
   -- a row of one's own begins at its block's first cell
   have ho:o=0:=by
    obtain⟨_,xs,r1,_⟩:=I.H _ _ (hH _ _ hq);rcases r1.2 with⟨hv,_⟩|⟨g,cap,cur,hv,_⟩
    .rw[hu]at hv;cases hv
    .rw[hu]at hv;cases hv;rfl
   subst ho;rw[<-hL]at hl h;have h0:DR ν st.nm w G (.pointer (some ⟨b,0+off,none⟩)) (.ptr (A++ts++B) off):=.ptr hl hc h;rw[eC]at h0;exact cJ.ptr (H:=H) hA E st ν G w tm hH I _ h0
end Go.Ax
/- Operations: loads and stores, addresses, what is built. -/
namespace Go.Ax
open aA
open Go.RowKit Go.Ab
abbrev dG(c:Cx)(σ:Vw)(fr:Nat)(o:Oper)(k:X->Wx->O)(r:aF):Prop:=∃x W,k x W=some r/\x.pl=true/\(σ.On->aW c.P o σ.den fr x.D (WA W))
theorem toT{τ:Ty}{y:τ.V}(h:τ.one=true):(aM τ y).map D.t=[(X.e τ y).D]:=by rw[EJ h,pJ h];rfl
section
variable{c:Cx}{σ:Vw}{κ:Nat->Bool}{fr:Nat}{o:Oper}{r:aF}
theorem I9{τ:Ty}{l:List (List τ.V)}{i:Nat}{r:List τ.V}(h:l[i]?=some r):(l.map λr=>(dR r,bR (aM τ) r))[i]?=some (dR r,bR (aM τ) r):=by rw[cZ,h];rfl
theorem Nb{τ:Ty}(h:τ.one=true)(r:List τ.V):bR (aM τ) r=r.map (nD τ):=Y6 (λy=>EJ h y) r
theorem aIL{i i' j s:Nat}(h2:j<s):i'*(s+1)+s≠i*(s+1)+j:=λe=>by
 rcases Nat.lt_trichotomy i' i with h|h|h
 .have:=mM (s+1) (show i'+1<=i by omega)
  rw[kK,aKY]at this;omega
 .subst h;omega
 .have:=mM (s+1) (show i+1<=i' by omega)
  rw[kK,aKY]at this;omega
theorem a7U{κ ρ:Ty}(y:ρ.V×List κ.V){j:Nat}(h:j<ρ.size):(dY y)[j]?=((aM ρ y.1)[j]?).map λt=>.fK (.t t):=by
 unfold dY;rw[dV (by rw[cP,dJ];exact h),cZ]
theorem a4T{κ ρ:Ty}{l:List (ρ.V×List κ.V)}{ln:Option (Int×Nat)}{i j:Nat}{y:ρ.V×List κ.V}(hy:l[i]?=some y)(h2:j<ρ.size):(mC (ρ.size+1) (bR dY l) ln)[i*(ρ.size+1)+j]?=((aM ρ y.1)[j]?).map λt=>.fK (.t t):=by
 have hg:=Ya (f:=dY) JH l i j y hy (by omega);rw[a7U y h2]at hg;unfold mC;split
 .exact hg
 .rw[show ∀a:Nat,a*(ρ.size+1)+(ρ.size+1-1)=a*(ρ.size+1)+ρ.size from λ_=>rfl,List.getElem?_set_ne (aIL h2)];exact hg
theorem a4U{κ ρ:Ty}{l:List (ρ.V×List κ.V)}{ln:Option (Int×Nat)}{i j:Nat}{y:ρ.V×List κ.V}(hy:l[i]?=some y){A B E:List Tree}(he:aM ρ y.1=A++E++B)(hA:A.length=j):
    (((mC (ρ.size+1) (bR dY l) ln).map NC.tell).drop (i*(ρ.size+1)+j)).take E.length=E.map .t:=by
 have hsz:(aM ρ y.1).length=ρ.size:=dJ ρ y.1;have hl2:A.length+E.length+B.length=ρ.size:=by rw[he]at hsz;simp at hsz;omega
 apply Bg;intro p;rw[fU,cZ];by_cases hp:p<E.length
 .rw[aI hp,qQ,cZ,Be,a4T hy (by omega),he,bP,dN (by omega),dV (by omega),show j+p-A.length=p by omega,Option.map_map]
  rfl
 .rw[aE hp,oC (by omega)]
  rfl
theorem a4M{t:TypeId}{a:X}{k:X->O}(h:Xp c σ t a k=some r):∃y,k y=some r/\(a.pl=true->y.pl=true\/∃q off,a = .ref q off)/\∀{x:Operand},o.op = .load t x->σ.den.ev x=some a.D->aW c.P o σ.den fr y.D []:=by
 unfold Xp at h;split at h
 case h_2=>cases h
 rename_i rw m hrw hm;split at h
 .rename_i q off
  split at h
  .rename_i e xs hq
   have hq':=dI hq;split at h
   .split at h
    .rename_i hb
     have hb:=bB hb;refine⟨_,h,λ_=>.inr ⟨q,off,rfl⟩,λho hx=>?_⟩;unfold X.D;rw[hY];refine Xw hrw hm ho hx hq' ?_ (by rw[cP];exact hb);show(((xs.map X.D).drop off).take m)=_;rw[Hz,Iz,OT,OU]
    .cases h
   .obtain⟨y,hy,h⟩:=bF h
    refine⟨y,h,λ_=>.inr ⟨q,off,rfl⟩,λho hx=>yI hrw ho hx hq' ?_⟩;show(xs.map X.D)[off]?=_;rw[cZ,hy];rfl
  .cases h
 .rename_i q i j s
  split at h
  .rename_i e τ l st hq
   have hq':=dI hq;split at h
   .rename_i hb
    have hb:=bB hb;subst hb;obtain⟨y,hy,h⟩:=oX h;obtain⟨τ',y',A,B,h,h2,h3,h4⟩:=JP _ _ _ _ _ _ h;obtain⟨A',B',g1,g2⟩:=BO (f:=aM τ) (λx=>dJ τ x) hy;have hcells:(XO.row e τ l st).A.cells=((A'++A)++aM τ' y'++(B++B')).map .t:=by
     show(l.flatMap (aM τ)).map D.t=_;rw[g1,h2];simp
    have hlen:(A'++A).length=i*τ.size+j:=by rw[aL,g2,h3]
    split at h
    .refine⟨_,h,λ_=>.inl rfl,λho hx=>?_⟩
     unfold X.D;rw[hY,ER];refine Xw hrw hm ho hx hq' ?_ (by rw[cP,dJ,h4]);rw[hcells,gH,gH,bP,aK3 (by rw[cP];omega),rR (by rw[cP];omega),k7,aK0 (by rw[cP,dJ,h4];exact cE _),vD (by rw[cP,dJ,h4];exact cE _)]
    .have h1:Ty.one τ'=true:=by assumption
     refine⟨_,h,λ_=>.inl rfl,λho hx=>yI hrw ho hx hq' ?_⟩;rw[hcells,gH,gH,toT h1,bP,dN (by rw[cP];omega),cP,hlen,kZ];rfl
    .cases h
   .cases h
  .rename_i e e' τ l hq
   have hq':=dI hq;split at h
   .rename_i hb
    rw[aT]at hb;have hb1:=bB hb.1;have hb2:=bB hb.2;subst hb1 hb2;obtain⟨y,hy,h⟩:=oX h;refine⟨_,h,λ_=>.inl rfl,λho hx=>?_⟩;have hx':σ.den.ev _=some (.ref q i):=hx.trans (by show some (D.ref q (i*1+0))=_;rw[lP,rQ]);exact a3J hrw ho hx' hq' (I9 hy)
   .cases h
  .rename_i e e' κ' ρ l ln hq
   have hq':=dI hq;split at h
   .rename_i hb
    have hb:=bB hb;subst hb;split at h
    .rename_i hj
     have hj:=bB hj;subst hj;split at h
     .rename_i i' q'
      obtain⟨hi,h⟩:=eL h;have hi:=bK hi;subst hi;obtain⟨y,hy,h⟩:=oX h;refine⟨_,h,λ_=>.inl rfl,λho hx=>yI hrw ho hx hq' ?_⟩;have hlt:=Nv (ρ:=ρ) (l:=l) (j:=ρ.size) (bZ.1 hy).1 (by omega);show(((bR dY l).set (i'.toNat*(ρ.size+1)+ρ.size) (.fK (.own q'))).map NC.tell)[i'.toNat*(ρ.size+1)+ρ.size]?=some (.own q');rw[cZ,List.getElem?_set_self hlt];rfl
     .cases h
    .obtain⟨y,hy,h⟩:=oX h
     obtain⟨τ',y',A,B,h,h2,h3,h4⟩:=JP _ _ _ _ _ _ h;have hcut:=a4U (ln:=ln) hy h2 h3;rw[dJ,<-h4]at hcut;split at h
     .refine⟨_,h,λ_=>.inl rfl,λho hx=>?_⟩
      unfold X.D;rw[hY,ER];exact Xw hrw hm ho hx hq' hcut (by rw[cP,dJ,h4])
     .have h1:Ty.one τ'=true:=by assumption
      refine⟨_,h,λ_=>.inl rfl,λho hx=>yI hrw ho hx hq' ?_⟩;have:=aR (λl=>l[0]?) hcut;simp only[fU,qQ,rQ]at this;rw[aI (by rw[h4,a1G h1];omega),toT h1]at this;exact this
     .cases h
   .cases h
  .cases h
 .rename_i q i j
  split at h
  .rename_i e e' τ l hq
   have hq':=dI hq;split at h
   .rename_i h1
    obtain⟨y,hy,h⟩:=oX h;obtain⟨z,hz,h⟩:=oX h;refine⟨_,h,λ_=>.inl rfl,λho hx=>?_⟩;rw[pJ h1];exact a3I hrw ho hx hq' (I9 hy) (by show(bR (aM τ) y)[j]?=_;rw[Nb h1,cZ,hz];rfl)
   .cases h
  .cases h
 .rename_i τ y j
  obtain⟨τ',y',A,B,h,h2,h3,h4⟩:=JP _ _ _ _ _ _ h;split at h
  .refine⟨_,h,λ_=>.inl rfl,λho hx=>?_⟩
   unfold X.D;rw[hY,ER];refine lpn hrw hm ho hx ?_ (by rw[dJ,h4]);rw[h2,bP,aK3 (by omega),rR (by omega),k7,aK0 (by rw[dJ,h4];exact cE _),vD (by rw[dJ,h4];exact cE _)]
  .have h1:Ty.one τ'=true:=by assumption
   refine⟨_,h,λ_=>.inl rfl,λho hx=>?_⟩;rw[pJ h1];refine lp1 hrw ho hx ?_;rw[h2,EJ h1,bP,dN (by omega),h3,kZ];rfl
  .cases h
 .cases h
theorem Wf{α:Type}{A B new:List α}{j:Nat}(h:A.length<=j):dL (A++B) j new=A++dL B (j-A.length) new:=by
 simp only[dL];rw[Zj,a9W,vD h,rR (by omega),k7,show j+new.length-A.length=j-A.length+new.length by omega];simp
theorem Wg{α:Type}{A B new:List α}{j:Nat}(h:j+new.length<=A.length):dL (A++B) j new=dL A j new++B:=by
 simp only[dL];rw[aK0 (by omega),aK3 h];simp
theorem MZ{H:Nat->Option aO}:∀(τ:Ty)(x:τ.V)(j m:Nat)(xs:List X)(k:τ.V->O),setAt τ x j m xs k=some r->∃(y:τ.V)(new:List Tree),k y=some r/\eE H (xs.map X.D) (new.map .t)/\j+new.length<=τ.size/\aM τ y=dL (aM τ x) j new
 |.pr a b,x,j,m,xs,k,h=>by
   unfold setAt at h;split at h
   .rename_i hb
    rw[aT]at hb;have hj:=bB hb.1;subst hj;obtain⟨y,hy,h⟩:=bF h;refine⟨y,aM _ y,h,sN hy,by rw[dJ];omega,?_⟩;simp[dL,dJ,rR]
   .split at h
    .rename_i hlt
     have hlt:j<a.size:=iA hlt;obtain⟨y,new,h1,h2,h3,h4⟩:=MZ (H:=H) a x.1 j m xs (λy=>k (y,x.2)) h;refine⟨(y,x.2),new,h1,h2,by simp only[Ty.size];omega,?_⟩;show aM a y++aM b x.2=dL (aM a x.1++aM b x.2) j new;have hA:=dJ a x.1;rw[h4,Wg (by omega)]
    .rename_i hlt
     have hge:a.size<=j:=Nat.le_of_not_lt λhj=>by
      have:Nat.blt j a.size=true:=Zg hj;rw[this]at hlt;cases hlt
     obtain⟨y,new,h1,h2,h3,h4⟩:=MZ (H:=H) b x.2 (j-a.size) m xs (λy=>k (x.1,y)) h;refine⟨(x.1,y),new,h1,h2,by simp only[Ty.size];omega,?_⟩;show aM a x.1++aM b y=dL (aM a x.1++aM b x.2) j new;have hA:=dJ a x.1;rw[h4,Wf (by omega),hA]
 |.ex,x,j,m,xs,k,h=>by
   unfold setAt at h;split at h
   .obtain⟨y,hy,h⟩:=bF h
    refine⟨y,aM _ y,h,sN hy,by rw[dJ];omega,?_⟩;have h1:=dJ .ex x;have h2:=dJ .ex y;simp only[dL,E4,k7,eC];rw[rR (by omega),e9]
   .cases h
 |.i a,x,j,m,xs,k,h=>by
   unfold setAt at h;split at h
   .rename_i hb
    rw[aT]at hb;have hj:=bB hb.1;subst hj;obtain⟨y,hy,h⟩:=bF h;exact⟨y,aM _ y,h,sN hy,by rw[dJ];omega,rfl⟩
   .cases h
 |.un,x,j,m,xs,k,h=>by unfold setAt at h;cases h
 |.u8,x,j,m,xs,k,h=>by
   unfold setAt at h;split at h
   .rename_i hb
    rw[aT]at hb;have hj:=bB hb.1;subst hj;obtain⟨y,hy,h⟩:=bF h;exact⟨y,aM _ y,h,sN hy,by rw[dJ];omega,rfl⟩
   .cases h
 |.bo,x,j,m,xs,k,h=>by
   unfold setAt at h;split at h
   .rename_i hb
    rw[aT]at hb;have hj:=bB hb.1;subst hj;obtain⟨y,hy,h⟩:=bF h;exact⟨y,aM _ y,h,sN hy,by rw[dJ];omega,rfl⟩
   .cases h
 |.tx,x,j,m,xs,k,h=>by
   unfold setAt at h;split at h
   .rename_i hb
    rw[aT]at hb;have hj:=bB hb.1;subst hj;obtain⟨y,hy,h⟩:=bF h;exact⟨y,aM _ y,h,sN hy,by rw[dJ];omega,rfl⟩
   .cases h
 |.sl a,x,j,m,xs,k,h=>by
   unfold setAt at h;split at h
   .rename_i hb
    rw[aT]at hb;have hj:=bB hb.1;subst hj;obtain⟨y,hy,h⟩:=bF h;exact⟨y,aM _ y,h,sN hy,by rw[dJ];omega,rfl⟩
   .cases h
theorem YU(σ:Vw)(q:Nat):σ.kI (.own q)=match σ.H q with|some (.row _ τ l true)=>.e (.sl τ) l|_=>.own q:=rfl
theorem a7O{x:X}{new:List Tree}(hv:x.val=true)(h:eE σ.den.H ((σ.nW x).cells.map X.D) (new.map .t))(hl:x.cells.length=new.length):∃d,cJ σ.den.H x.D d/\d.cells=new.map .t/\d.val=true:=by
 have one:x.cells=[x]->(σ.nW x).cells=[σ.kI x]->∃d,cJ σ.den.H x.D d/\d.cells=new.map .t/\d.val=true:=λe1 e2=>by
  rw[e1]at hl;rw[e2]at h
  match new,hl,h with
  |[t],_,h=>cases h with|cons h _=>exact⟨.t t,(yN σ x).trans h,rfl,rfl⟩
 cases x with
 |agg xs=>
   refine⟨.agg (new.map .t),?_,rfl,rfl⟩;have e:(σ.nW (.agg xs)).cells.map X.D=(xs.map σ.kI).map X.D:=rfl;rw[e]at h;have hw:eE σ.den.H (xs.map X.D) ((xs.map σ.kI).map X.D):=by
    rw[qN];exact eE.of_map (f:=X.D) (g:=X.D ∘ σ.kI) λx _=>yN σ x
   unfold X.D;rw[hY];exact cJ.agg (hw.trans h)
 |aS xs=>cases hv
 |eX a b c=>cases hv
 |bit a b=>cases hv
 |own q=>
   refine one rfl ?_;show(σ.kI (.own q)).cells=_;rw[YU];split <;> rfl
 |e τ y=>exact one rfl rfl
 |bW=>exact one rfl rfl
 |ref a b=>exact one rfl rfl
 |rr a b d e=>exact one rfl rfl
 |pt a b d=>exact one rfl rfl
 |fn a b=>exact one rfl rfl
 |v w=>exact one rfl rfl
 |sub a b=>exact one rfl rfl
 |jE a b d=>exact one rfl rfl
 |vw a b d e=>exact one rfl rfl
 |via a b=>exact one rfl rfl
 |jI a b=>exact one rfl rfl
 |ag τ l=>cases hv
 |kQ v=>exact one rfl rfl
theorem aIm{α:Type}{f:α->List Tree}{s:Nat}(hf:∀x,(f x).length=s){l:List α}{i:Nat}{y z:α}{A B new:List Tree}{j:Nat}(hl:l.flatMap f=A++f y++B)(hA:A.length=i*s)(hi:i<l.length)(hz:f z=dL (f y) j new)(hn:j+new.length<=s):
    (l.set i z).flatMap f=dL (l.flatMap f) (i*s+j) new:=by
 have h1:=aIn hf (x:=z) (l:=l) (i:=i) hi;rw[<-h1,hl,hz];have hy:=hf y;have hs:(dL (f y) j new).length=s:=by rw[xN (by omega),hy]
 rw[bP];have e1:dL (A++(f y++B)) (i*s) (dL (f y) j new)=A++(dL (f y) 0 (dL (f y) j new)++B):=by
  rw[Wf (by omega),hA,kZ,Wg (by omega)]
 have e2:dL (A++(f y++B)) (i*s+j) new=A++(dL (f y) j new++B):=by
  rw[Wf (by omega),hA,show i*s+j-i*s=j by omega,Wg (by omega)]
 rw[e1,e2]
 congr 2
 show(f y).take 0++dL (f y) j new++(f y).drop (0+(dL (f y) j new).length)=_;rw[E4,k7,rR (by omega),e9]
theorem a8M(l:List Tree):zH (l.map .t)=some l:=by
 induction l with
 |nil=>rfl
 |cons x l ih=>simp[zH,ih]
theorem a2O{x:X}{new:List Tree}(hv:x.val=true)(hna:∀xs,x≠.agg xs)(h:eE σ.den.H ((σ.nW x).cells.map X.D) (new.map .t)):∃t,new=[t]/\cJ σ.den.H x.D (.t t):=by
 have one:(σ.nW x).cells=[σ.kI x]->∃t,new=[t]/\cJ σ.den.H x.D (.t t):=λe2=>by
  rw[e2]at h
  match new,h with
  |[t],h=>cases h with|cons h _=>exact⟨t,rfl,(yN σ x).trans h⟩
  |[],h=>cases h
  |_::_::_,h=>cases h with|cons _ r=>cases r
 cases x with
 |agg xs=>exact absurd rfl (hna xs)
 |aS xs=>cases hv
 |eX a b c=>cases hv
 |bit a b=>cases hv
 |own q=>
   refine one ?_;show(σ.kI (.own q)).cells=_;rw[YU];split <;> rfl
 |e τ y=>exact one rfl
 |bW=>exact one rfl
 |ref a b=>exact one rfl
 |rr a b d e=>exact one rfl
 |pt a b d=>exact one rfl
 |fn a b=>exact one rfl
 |v w=>exact one rfl
 |sub a b=>exact one rfl
 |jE a b d=>exact one rfl
 |vw a b d e=>exact one rfl
 |via a b=>exact one rfl
 |jI a b=>exact one rfl
 |ag τ l=>cases hv
 |kQ v=>exact one rfl
theorem aGa{α:Type}{l:List α}{j:Nat}{x:α}(h:j<l.length):dL l j [x]=l.set j x:=by
 rw[List.set_eq_take_append_cons_drop,aI h];simp[dL]
theorem a0u{t:TypeId}{a y:X}{k:X->Wx->O}(h:W0 c σ t a y k=some r):∃W,k (.aS []) W=some r/\∀{x z:Operand},o.op = .store t x z->σ.den.ev x=some a.D->σ.den.ev z=some y.D->y.val=true->aW c.P o σ.den fr (.aS []) (WA W):=by
 unfold W0 at h;split at h
 case h_2=>cases h
 rename_i m hm;split at h
 case h_2=>cases h
 rename_i hb;rw[aT]at hb;have hb1:=bB hb.1;have hb2:0<m:=iA hb.2;split at h
 .rename_i q off
  split at h
  .rename_i e xs hq
   have hq':=dI hq;split at h
   .rename_i hle
    have hle:=iA hle;refine⟨_,h,λho hx hz hv=>?_⟩;have hc:=JF hv;have hp:rC xs off y.cells=dL xs off y.cells:=Mi _ _ _ (by omega);refine Dl (d:=y.D) (ob':=(XO.box e (rC xs off y.cells)).A) ho ?_ hx (.ev hz) (DW hv) hq' ?_ ?_
    .rw[hc,cP,hb1];exact hm
    .show(if off+y.D.cells.length<=(xs.map X.D).length then _ else none)=_
     rw[hc,cP,cP,aI (by omega),hp];simp only[XO.A,We]
    .rw[hc,cP];omega
   .cases h
  .cases h
 .rename_i q i j s
  split at h
  .rename_i e τ l hq
   have hq':=dI hq;split at h
   .rename_i hs
    have hs:=bB hs;subst hs;obtain⟨z0,hz0,h⟩:=oX h;obtain⟨z1,new,h,h2,h3,h4⟩:=MZ (H:=σ.den.H) τ z0 j m (σ.nW y).cells _ h;refine⟨_,h,λho hx hz hv=>?_⟩;have hgl:(σ.nW y).cells.length=y.cells.length:=by
     have e1:=(eE.len h2);cases y with
     |agg xs=>show(xs.map σ.kI).length=xs.length;simp
     |own q=>
       show(σ.kI (.own q)).cells.length=1;rw[YU];split <;> rfl
     |_=>rfl
    have hnl:y.cells.length=new.length:=by
     have:=h2.len;simp only[cP]at this;omega
    obtain⟨d,hw,hdc,hdv⟩:=a7O hv h2 hnl;obtain⟨A,B,g1,g2⟩:=BO (f:=aM τ) (λx=>dJ τ x) hz0;have hi:i<l.length:=(bZ.1 hz0).1;have hset:=aIm (f:=aM τ) (λx=>dJ τ x) (z:=z1) g1 g2 hi h4 h3;have hfl:=sU l;have hbound:i*τ.size+j+new.length<=l.length*τ.size:=by
     have:(i+1)*τ.size<=l.length*τ.size:=mM _ hi;rw[kK,aKY]at this;omega
    refine Dl (d:=d) (ob':=(XO.row e τ (l.set i z1) false).A) ho ?_ hx (.wk hz hw) hdv hq' ?_ ?_
    .rw[hdc,cP,<-hnl,hb1];exact hm
    .rw[hdc]
     show(if i*τ.size+j+(new.map D.t).length<=(l.flatMap (aM τ)).length/\false=false then(zH (new.map D.t)).map _ else none)=_;rw[cP,aI ⟨by omega,rfl⟩,a8M];simp only[lH,XO.A,hset,nI]
    .rw[hdc,cP];omega
   .cases h
  .rename_i e e' κ' ρ l ln hq
   have hq':=dI hq;split at h
   .rename_i hs
    rw[aT]at hs;have hs1:=bB hs.1;have hs2:=bB hs.2;subst hs1 hs2;split at h
    .rename_i hj
     have hj:=bB hj;subst hj;split at h
     .rename_i q' i' q0
      obtain⟨hi,h⟩:=eL h;have hi:=bK hi;subst hi;obtain⟨z0,hz0,h⟩:=oX h;refine⟨_,h,λho hx hz hv=>?_⟩;have hlt:=Nv (ρ:=ρ) (l:=l) (j:=ρ.size) (bZ.1 hz0).1 (by omega);have:=aHT (P:=c.P) (fr:=fr) hm ho hx hz cJ.refl (λν nm w G v h=>h.XQ rfl) hq' (by show _<(mC _ _ _).length;rw[NS];exact hlt);have hA:(XO.bC e e' κ' ρ l (some (i',q'))).A = .bC e e' (ρ.size+1) κ'.size l.length ((mC (ρ.size+1) (bR dY l) (some (i',q0))).set (i'.toNat*(ρ.size+1)+ρ.size) (.fK (.own q'))):=by
       show aO.bC _ _ _ _ _ ((bR dY l).set (i'.toNat*(ρ.size+1)+ρ.size) _)=aO.bC _ _ _ _ _ (((bR dY l).set (i'.toNat*(ρ.size+1)+ρ.size) _).set _ _);rw[List.set_set]
      show aW c.P o σ.den fr (.aS []) [(q,some (XO.bC e e' κ' ρ l (some (i',q'))).A)];rw[hA];exact this
     .cases h
    .rename_i hj
     split at h
     .cases h
     .rename_i hna
      obtain⟨z0,hz0,h⟩:=oX h;obtain⟨z1,new,h,h2,h3,h4⟩:=MZ (H:=σ.den.H) ρ z0.1 j 1 (σ.nW y).cells _ h;refine⟨_,h,λho hx hz hv=>?_⟩;obtain⟨t,rfl,hw⟩:=a2O hv (λxs e=>hna xs e) h2;have hj4:j<ρ.size:=by simp at h3;omega
      have hj3:j<ρ.size+1:=by omega
      have hi:i<l.length:=(bZ.1 hz0).1;have hlt:=Nv (ρ:=ρ) (l:=l) (j:=j) hi hj3;have:=aHT (P:=c.P) (fr:=fr) hm ho hx hz hw (λν nm w G v h=>h.XQ rfl) hq' (by show _<(mC _ _ _).length;rw[NS];exact hlt);have hset:=Y9 (f:=dY) JH l i j z0 (z1,z0.2) (.fK (.t t)) hz0 hj3 (by
       unfold dY;rw[List.set_append_left _ _ (by rw[cP,dJ];exact hj4)]
       congr 1
       rw[h4,aGa (by rw[dJ];omega),aK2])
      have hA:(XO.bC e e' κ' ρ (l.set i (z1,z0.2)) ln).A = .bC e e' (ρ.size+1) κ'.size l.length ((mC (ρ.size+1) (bR dY l) ln).set (i*(ρ.size+1)+j) (.fK (.t t))):=by
       show aO.bC _ _ _ _ (l.set i (z1,z0.2)).length (mC _ (bR dY (l.set i (z1,z0.2))) ln)=_;rw[nI,hset]
       congr 1
       unfold mC;split
       .rfl
       .exact List.set_comm _ _ (λe=>aIL hj4 e.symm)
      show aW c.P o σ.den fr (.aS []) [(q,some (XO.bC e e' κ' ρ (l.set i (z1,z0.2)) ln).A)];rw[hA];exact this
   .cases h
  .cases h
 .rename_i q i j
  split at h
  .rename_i e e' τ l hq
   have hq':=dI hq;split at h
   .rename_i τ' z
    split at h
    .rename_i he _
     have he':=he;subst he';split at h
     .rename_i h1
      obtain⟨y,hy,h⟩:=oX h;obtain⟨z0,hz0,h⟩:=oX h;refine⟨_,h,λho hx hz hv=>?_⟩;rw[pJ h1]at hz;have hm1:m=1:=hb1.symm;subst hm1;have:=a23 (P:=c.P) (fr:=fr) hm ho hx hz hq' (I9 hy) (by show j<(bR (aM τ') y).length;rw[Nb h1,cP];exact(bZ.1 hz0).1);have hA:(XO.nest e e' τ' (l.set i (y.set j (j6 he z)))).A = .nest e e' τ'.size ((l.map λr=>(dR r,bR (aM τ') r)).set i (dR y,(bR (aM τ') y).set j (nD τ' z))):=by
       show aO.nest e e' τ'.size ((l.set i (y.set j z)).map λr=>(dR r,bR (aM τ') r))=_;rw[aK2,nI,Nb h1,Nb h1,aK2]
      show aW c.P o σ.den fr (.aS []) [(q,some (XO.nest e e' τ' (l.set i (y.set j (j6 he z)))).A)];rw[hA];exact this
     .cases h
    .cases h
   .cases h
  .cases h
 .cases h
end
end Go.Ax
/- Operations: addresses, parts, rows that are made. -/
namespace Go.Ax
open aA
open Go.RowKit Go.Ab
theorem B7{x:X}{k:Int->O}{r:aF}(h:asInt x k=some r):∃ik n,x.D = .t (.v (.int ik n))/\k n=some r:=by
 unfold asInt at h;split at h
 .exact⟨_,_,rfl,h⟩
 .exact⟨_,_,rfl,h⟩
 .cases h
theorem aII{τ:Ty}(h1:τ.one=true):∀{xs:List X}{l:List τ.V},NP τ xs=some l->xs.length=l.length/\∀(H:Nat->Option aO)(i:Nat)(y:τ.V),l[i]?=some y->∃x,xs[i]?=some x/\cJ H x.D (X.e τ y).D
 |[],l,h=>by cases h;exact⟨rfl,λH i y h=>by simp at h⟩
 |x::r,l,h=>by
   unfold NP at h;split at h
   .rename_i y hy
    split at h
    .rename_i l' hl
     cases h;obtain⟨e1,e2⟩:=aII h1 hl;refine⟨by simp[e1],λH i z hz=>?_⟩;cases i with
     |zero=>simp at hz;subst hz;exact⟨x,rfl,by rw[pJ h1];exact sI h1 hy⟩
     |succ i=>exact e2 H i z (by simpa using hz)
    .cases h
   .cases h
section
variable{P:Program}{o:Oper}{s:St}{fr:Nat}
theorem aH2{t e:TypeId}{x y:Operand}{m:Nat}{ds:List D}{ik:IntKind}{n:Int}{d:D}(hu:P.underlying t=some (.array m e))(he:kF P e=some false)(hs:fP P e=some 1)(ho:o.op = .index t x y)(hx:s.ev x=some (.agg ds))(hy:s.ev y=some (.t (.v (.int ik n))))(hl:ds.length=m)(h0:0<=n)(hd:ds[n.toNat]?=some d):aW P o s fr d []:=
 dM λ_ _ _ _ w a _ _ hev=>by
  have h1:=hev x _ hx;have h2:=bY (hev y _ hy);obtain⟨v,hv⟩:∃v,a.eval x=v:=⟨_,rfl⟩
  rw[hv]at h1;cases h1 with
  | @agg vs _ hsz hr h1c=>
    have hn:n.toNat<vs.size:=by rw[hsz];exact(bZ.1 hd).1
    refine⟨vs[n.toNat],?_,hr _ _ d (kL hn) hd⟩;obtain⟨dsc,g1,g2⟩:=pD he;obtain⟨inf,hinf,hsz1⟩:=cO.1 hs;have hagg:(isAgg e).run P w = .ok false w:=by
     unfold isAgg;rw[Sem.run_bind,run_underlying g1 w];cases dsc <;> simp_all [TypeDesc.isRow]
    have hlt:n<(m:Int):=by omega
    unfold execOp;rw[ho];simp[hv,h2,Instr.index,asIntOf,run_underlying hu,h0,hlt,sizeOf,typeInfo,hinf,hsz1,part,hagg,hn]
theorem a3T{t:TypeId}{x:Operand}{f:Nat}{fs:Array Field}{fl:Field}{ds:List D}{d:D}(hu:P.underlying t=some (.struct fs))(hf:fs[f]?=some fl)(he:kF P fl.type=some false)(ho:o.op = .field t x f)(hx:s.ev x=some (.agg ds))(hd:ds[fl.offset]?=some d):aW P o s fr d []:=
 dM λ_ _ _ _ w a _ _ hev=>by
  have h1:=hev x _ hx;obtain⟨v,hv⟩:∃v,a.eval x=v:=⟨_,rfl⟩
  rw[hv]at h1;cases h1 with
  | @agg vs _ hsz hr h1c=>
    have hn:fl.offset<vs.size:=by rw[hsz];exact(bZ.1 hd).1
    refine⟨vs[fl.offset],?_,hr _ _ d (kL hn) hd⟩;obtain⟨dsc,g1,g2⟩:=pD he;have hagg:(isAgg fl.type).run P w = .ok false w:=by
     unfold isAgg;rw[Sem.run_bind,run_underlying g1 w];cases dsc <;> simp_all [TypeDesc.isRow]
    unfold execOp;rw[ho];simp[hv,Instr.field,run_underlying hu,hf,part,asAgg,hagg,hn]
theorem a3S{t:TypeId}{x:Operand}{f m:Nat}{fs:Array Field}{fl:Field}{ds out:List D}(hu:P.underlying t=some (.struct fs))(hf:fs[f]?=some fl)(he:kF P fl.type=some true)(hm:fP P fl.type=some m)(ho:o.op = .field t x f)(hx:s.ev x=some (.agg ds))(hd:(ds.drop fl.offset).take m=out)(hl:out.length=m):aW P o s fr (.agg out) []:=
 dM λ_ _ ν G w a _ _ hev=>by
  have h1:=hev x _ hx;obtain⟨v,hv⟩:∃v,a.eval x=v:=⟨_,rfl⟩
  rw[hv]at h1;cases h1 with
  | @agg vs _ hsz hr h1c=>
    have hlen:fl.offset+m<=vs.size\/m=0:=by
     rw[<-hd]at hl;simp at hl;omega
    refine⟨.agg (vs.extract fl.offset (fl.offset+m)),?_,.agg ?_ (λi u d hu' hd'=>?_) (λu hu'=>?_)⟩
    .obtain⟨dsc,g1,g2⟩:=pD he
     obtain⟨inf,hinf,hsz1⟩:=cO.1 hm;have hagg:(isAgg fl.type).run P w = .ok true w:=by
      unfold isAgg;rw[Sem.run_bind,run_underlying g1 w];cases dsc <;> simp_all [TypeDesc.isRow]
     unfold execOp;rw[ho];simp[hv,Instr.field,run_underlying hu,hf,part,asAgg,hagg,sizeOf,typeInfo,hinf,hsz1]
    .rw[hl];simp;omega
    .rw[<-hd,fU]at hd'
     split at hd'
     .rename_i hi
      rw[qQ]at hd';rw[Array.getElem?_extract]at hu';split at hu'
      .exact hr _ u d hu' hd'
      .cases hu'
     .cases hd'
    .refine h1c u ?_
     rw[a9d]at hu';exact List.mem_of_mem_drop (a9L (by simpa[List.extract]using hu'))
end
theorem Wd{τ:Ty}:∀(n:Nat)(σ:Ty)(y:σ.V)(l:List τ.V),p6 τ n σ y=some l->aM σ y=l.flatMap (aM τ)
 |0,σ,y,l,h=>by unfold p6 at h;cases h
 |1,σ,y,l,h=>by
   unfold p6 at h;split at h
   .rename_i he _
    cases h;rw[fV,aJY,List.flatMap_nil,e9]
   .cases h
 |n+2,.pr a b,y,l,h=>by
   unfold p6 at h;split at h
   .rename_i he _
    split at h
    .rename_i l' hl
     cases h;rw[fV,aJY,<-Wd (n+1) b y.2 l' hl];rfl
    .cases h
   .cases h
 |n+2,.i _,y,l,h=>by unfold p6 at h;cases h
 |n+2,.u8,y,l,h=>by unfold p6 at h;cases h
 |n+2,.bo,y,l,h=>by unfold p6 at h;cases h
 |n+2,.tx,y,l,h=>by unfold p6 at h;cases h
 |n+2,.ex,y,l,h=>by unfold p6 at h;cases h
 |n+2,.sl _,y,l,h=>by unfold p6 at h;cases h
section
variable{c:Cx}{σ:Vw}{κ:Nat->Bool}{fr:Nat}{o:Oper}{r:aF}
theorem a4z{t:TypeId}{a x:X}{k:X->O}(h:YG c σ t a x k=some r):∃y,k y=some r/\y.pl=true/\(σ.On->∀{xa xn:Operand},o.op = .indexAddr t xa xn->σ.den.ev xa=some a.D->σ.den.ev xn=some x.D->aW c.P o σ.den fr y.D []):=by
 unfold YG at h;replace h:=B7 h;obtain⟨ik,n,hx,h⟩:=h;split at h
 .rename_i τ l
  split at h
  .rename_i s hs
   split at h
   .rename_i hb
    have hb:=bB hb;subst hb;obtain⟨y,h1,h2⟩:=BM h;refine⟨_,h1,rfl,λhon xa xn ho ha hn=>?_⟩;obtain⟨g1,g2⟩:=h2 hon.g;rw[hx]at hn;have hlt:n<(dR l:Nat):=by have:=(bZ.1 g2).1;omega
    have:=a3N (P:=c.P) (fr:=fr) ho hs ha hn g1 hlt;obtain⟨A,B,e1,e2⟩:=BO (f:=aM τ) (λx=>dJ τ x) g2;have e1':bR (aM τ) l=A++aM τ y++B:=e1;rw[e1']at this;exact OO this (cJ.ptr e2)
   .cases h
  .cases h
 .rename_i q
  split at h
  .rename_i e τ l st s hq hs
   split at h
   .rename_i hb
    have hb:=bB hb;subst hb;split at h
    .obtain⟨y,h1,h2⟩:=BM h
     refine⟨_,h1,rfl,λhon xa xn ho ha hn=>?_⟩;obtain⟨g1,g2⟩:=h2 hon.g;rw[hx]at hn;have hlt:n<(l.length:Nat):=by have:=(bZ.1 g2).1;omega
     have hq':σ.den.H q=some (.row e τ.size l.length (l.flatMap (aM τ)) true):=dI hq;have:=aH3 (P:=c.P) (fr:=fr) ho hs ha hq' hn g1 hlt;obtain⟨A,B,e1,e2⟩:=BO (f:=aM τ) (λx=>dJ τ x) g2;rw[e1]at hq';exact OO this (cJ.a1p hq' e2)
    .obtain⟨h1,h2⟩:=pK h
     refine⟨_,h1,rfl,λhon xa xn ho ha hn=>?_⟩;obtain⟨g1,g2⟩:=bK (h2 hon.g);rw[hx]at hn;have hq':σ.den.H q=some (.row e τ.size l.length (l.flatMap (aM τ)) false):=dI hq;have:=aH3 (P:=c.P) (fr:=fr) ho hs ha hq' hn g1 g2;exact this
   .cases h
  .rename_i e e' τ l s hq hs
   split at h
   .rename_i hb
    have hb:=bB hb;subst hb;obtain⟨hd,h⟩:=eL h;refine⟨_,h,rfl,λhon xa xn ho ha hn=>?_⟩;obtain⟨g1,g2⟩:=bK hd;rw[hx]at hn;have:=a3Q (P:=c.P) (fr:=fr) hs ho ha (dI hq) hn g1 (by rw[cP];exact g2);have e:(X.rr q n.toNat 0 1).D = .ref q n.toNat:=by show D.ref q (n.toNat*1+0)=_;rw[lP,rQ]
    rw[e];exact this
   .cases h
  .rename_i e e' κ' ρ l ln s hq hs
   split at h
   .rename_i hb
    have hb:=bB hb;subst hb;obtain⟨h1,h2⟩:=pK h;refine⟨_,h1,rfl,λhon xa xn ho ha hn=>?_⟩;obtain⟨g1,g2⟩:=bK (h2 hon.g);rw[hx]at hn;exact a3O (P:=c.P) (fr:=fr) hs ho ha (dI hq) hn g1 g2
   .cases h
  .cases h
 .rename_i q i
  split at h
  .rename_i e e' τ l s hq hs
   split at h
   .rename_i hb
    have hb:=bB hb;subst hb;obtain⟨y,hy,h⟩:=oX h;obtain⟨hd,h⟩:=eL h;refine⟨_,h,rfl,λhon xa xn ho ha hn=>?_⟩;obtain⟨g1,g2⟩:=bK hd;rw[hx]at hn;exact a3P (P:=c.P) (fr:=fr) hs ho ha (dI hq) (I9 hy) hn g1 g2
   .cases h
  .cases h
 .rename_i q off
  split at h
  .rename_i m s hs
   split at h
   .rename_i hb
    obtain⟨g1,g2⟩:=bK hb;refine⟨_,h,rfl,λhon xa xn ho ha hn=>?_⟩;rw[hx]at hn;exact XW ho hs ha hn g1 g2
   .cases h
  .cases h
 .rename_i ρ y0
  split at h
  .rename_i m0 e m s hu hs
   split at h
   .rename_i τ _
    split at h
    .rename_i l hl
     split at h
     .rename_i hb
      rw[aT]at hb;have hb1:=bB hb.1;have hb2:=bB hb.2;subst hb1;obtain⟨y,h1,h2⟩:=BM h;refine⟨_,h1,rfl,λhon xa xn ho ha hn=>?_⟩;obtain⟨g1,g2⟩:=h2 hon.g;rw[hx]at hn;have hlt:n<(m:Nat):=by rw[<-hb2];have:=(bZ.1 g2).1;omega
      have:=a3M (P:=c.P) (fr:=fr) ho hs ha hn g1 hlt;obtain⟨A,B,e1,e2⟩:=BO (f:=aM τ) (λx=>dJ τ x) g2;rw[eC,Wd _ _ _ _ hl,e1]at this;exact OO this (cJ.ptr e2)
     .cases h
    .cases h
   .cases h
  .cases h
 .cases h
theorem a4x{t:TypeId}{a x:X}{k:X->O}(h:YE c t (σ.g.map (·.2)) a x k=some r):∃y,k y=some r/\y.pl=true/\(σ.On->∀{xa xn:Operand},o.op = .index t xa xn->σ.den.ev xa=some a.D->σ.den.ev xn=some x.D->aW c.P o σ.den fr y.D []):=by
 unfold YE at h;replace h:=B7 h;obtain⟨ik,n,hx,h⟩:=h;split at h
 .rename_i l hu
  obtain⟨y,h1,h2⟩:=BM h;refine⟨_,h1,rfl,λhon xa xn ho ha hn=>?_⟩;obtain⟨g1,g2⟩:=h2 hon.g;rw[hx]at hn;exact a3L hu ho ha hn g1 g2
 .rename_i m e τ y0 rs hu
  split at h
  .rename_i hb he hs
   rw[aT]at hb;obtain⟨hb1,hb2⟩:=hb;have hb2:=bB hb2;obtain⟨l,hl,h⟩:=bF h;obtain⟨y,h1,h2⟩:=BM h;refine⟨_,h1,rfl,λhon xa xn ho ha hn=>?_⟩;obtain⟨g1,g2⟩:=h2 hon.g;rw[hx]at hn;obtain⟨e1,e2⟩:=aII hb1 hl;obtain⟨x',hx',hw⟩:=e2 σ.den.H _ _ g2;have ha':σ.den.ev xa=some (.agg ((X.e τ y0::rs).map X.D)):=by rw[ha,X.D,hY]
   refine OO (aH2 hu he hs ho ha' hn (by simp[hb2]) g1 (d:=x'.D) (by rw[cZ,hx'];rfl)) hw
  .cases h
 .cases h
theorem a6P{t:TypeId}{f:Nat}{a:X}{k:X->O}(h:Yd c t f a k=some r):∃y,k y=some r/\y.pl=true/\(∀{xa:Operand},o.op = .fieldAddr t xa f->σ.den.ev xa=some a.D->aW c.P o σ.den fr y.D []):=by
 unfold Yd at h;obtain⟨q,hq,h⟩:=bF h;split at h
 .exact⟨_,h,rfl,λho ha=>aH6 ho hq ha⟩
 .refine⟨_,h,rfl,λho ha=>?_⟩
  have:=aH6 (P:=c.P) (fr:=fr) ho hq ha
  rwa [Be]at this
 .exact⟨_,h,rfl,λho ha=>a3R ho hq ha⟩
 .cases h
theorem a6O{t:TypeId}{f:Nat}{a:X}{k:X->O}(h:Yc c t f a k=some r):∃y,k y=some r/\(∀{xa:Operand},o.op = .field t xa f->σ.den.ev xa=some a.D->aW c.P o σ.den fr y.D []):=by
 unfold Yc at h;split at h
 .rename_i fs xs hu
  split at h
  .rename_i fl hf
   split at h
   .rename_i rw m hr hm
    split at h
    .split at h
     .rename_i hb
      have hb:=bB hb;refine⟨_,h,λ{xa} ho ha=>?_⟩;have ha':σ.den.ev xa=some (.agg (xs.map X.D)):=by rw[ha,X.D,hY]
      rw[X.D,hY];refine a3S hu hf hr hm ho ha' ?_ (by rw[cP];exact hb);rw[Hz,Iz,OT,OU]
     .cases h
    .obtain⟨y,hy,h⟩:=bF h
     refine⟨y,h,λ{xa} ho ha=>?_⟩;have ha':σ.den.ev xa=some (.agg (xs.map X.D)):=by rw[ha,X.D,hY]
     exact a3T hu hf hr ho ha' (by rw[cZ,hy];rfl)
   .cases h
  .cases h
 .cases h
end
end Go.Ax
/- Operations: variables, literals, rows, slices, conversions. -/
namespace Go.Ax
open aA
open Go.RowKit Go.Ab
theorem aHi(v:Value)(h1:∀vs,v≠.tuple vs)(h2:∀cs,v≠.agg cs):(p9 v).D = .t (.v v):=by
 unfold p9;split
 .split
  .exact aGT _ (bK ‹_›)
  .rfl
 all_goals rfl
theorem I6{z:Value}{x:X}(h:uM z=some x):rI z=true/\x.D=oO z/\x.cells.map X.D=z.cells.toList.map (λu=>D.t (.v u))/\(∀u∈z.cells.toList,u.oneCell'=true)/\(oO z).cells=x.cells.map X.D/\x.val=true:=by
 have hev:=XZ (σ:=⟨[],[],0⟩) h;unfold St.ev at hev;unfold uM at h;split at h
 .rename_i cs
  split at h
  .rename_i ha
   cases h;have hmem:∀u∈cs.toList,u.oneCell'=true:=fG.1 ha
   have hc:(cs.toList.map p9).map X.D=cs.toList.map (λu=>D.t (.v u)):=by
    rw[qN];refine a9N λv hv=>aHi v (λvs e=>?_) (λcs' e=>?_)
    .have:=hmem v hv;rw[e]at this;cases this
    .have:=hmem v hv;rw[e]at this;cases this
   refine⟨ha,?_,hc,hmem,hc.symm,rfl⟩;unfold X.D;rw[hY,hc];rfl
  .cases h
 .cases h
 .rename_i h2 h3
  cases h;have hD:=aHi z (λvs e=>h3 vs e) (λcs e=>h2 cs e);have hone:z.oneCell'=true:=by
   cases z with
   |agg cs=>exact absurd rfl (h2 cs)
   |tuple vs=>exact absurd rfl (h3 vs)
   |_=>rfl
  have hcz:z.cells.toList=[z]:=by rw[JG hone]
  have hov:oO z = .t (.v z):=by
   cases z with
   |agg cs=>exact absurd rfl (h2 cs)
   |_=>rfl
  have hxc:(p9 z).cells=[p9 z]:=by
   unfold p9;split
   .split <;> rfl
   all_goals rfl
  refine⟨?_,by rw[hD,hov],by rw[hxc,hcz];simp[hD],λu hu=>?_,by rw[hov,hxc];simp[hD,D.cells],?_⟩
  .cases z with
   |agg cs=>exact absurd rfl (h2 cs)
   |tuple vs=>exact absurd rfl (h3 vs)
   |_=>rfl
  .rw[hcz]at hu;rw[nH.1 hu];exact hone
  .unfold p9
   split
   .split <;> rfl
   all_goals rfl
theorem aAG{P:Program}{t:TypeId}{x:X}(h:vK P t=some x):∃z,(P.info? t).bind (·.zero)=some z/\uM z=some x:=by
 unfold vK at h;split at h
 .exact⟨_,‹_›,h⟩
 .cases h
theorem aIA{α β:Type}{f:α->Option β}:∀{l:List α}{r:List β},yE f l=some r->l.mapM f=some r
 |[],r,h=>by cases h;rfl
 |x::l,r,h=>by
   unfold yE at h;split at h
   .rename_i y hy
    split at h
    .rename_i r' hr
     cases h;simp[List.mapM_cons,hy,aIA hr]
    .cases h
   .cases h
theorem aJ0{P:Program}{t:TypeId}{z:Value}{pl:List (Nat×Nat)}(hz:(P.info? t).bind (·.zero)=some z)(h1:∀u∈z.cells.toList,u.oneCell'=true)(hp:places P t=some pl):Zz P t z.cells.toList pl:=by
 refine⟨h1,?_⟩;obtain⟨i,hi,hz'⟩:=wP.1 hz;unfold places at hp;split at hp
 .rename_i fs hu
  have hm:=aIA hp;have hm':fs.toList.mapM (λf=>(P.info? f.type).map λi=>(f.offset,i.size))=some pl:=by
   rw[<-hm]
   congr 1
   funext f
   unfold fP;cases P.info? f.type <;> rfl
  refine⟨λi=>pl.toArray[i]?,λi p h=>by simpa using h,λparts=>?_⟩;unfold Program.built;simp only[hi,hu,hz',hm']
 .rename_i n e hu
  split at hp
  .rename_i m hm
   cases hp;unfold fP at hm;obtain⟨ie,hie,rfl⟩:=cO.1 hm;refine⟨λi=>some (i*ie.size,ie.size),λi p h=>?_,λparts=>?_⟩
   .rw[cZ]at h
    obtain⟨j,hj,rfl⟩:=cO.1 h;have:=(bZ.1 hj).2;simp at this;simp[this]
   .unfold Program.built
    simp only[hi,hu,hz',hie]
  .cases hp
 .cases hp
theorem a77{P:Program}{t:TypeId}{z:Value}{x:X}{pl:List (Nat×Nat)}(hz:(P.info? t).bind (·.zero)=some z)(hx:uM z=some x)(hp:places P t=some pl):Zz P t z.cells.toList pl:=by
 obtain⟨_,_,_,h1,_⟩:=I6 hx;exact aJ0 hz h1 hp
theorem Yj{σ:Vw}:∀{l:List (Nat×Operand)}{k:List (Nat×X)->O}{r:aF},σ.BS l k=some r->∃xs,k xs=some r/\xs.length=l.length/\∀(i:Nat)(p:Nat×X),xs[i]?=some p->∃x,l[i]?=some (p.1,x)/\σ.ev x=some p.2
 |[],k,r,h=>⟨[],h,rfl,λi p h=>by simp at h⟩
 |(i0,x)::l,k,r,h=>by
   unfold Vw.BS at h;obtain⟨y,hy,h⟩:=bF h;obtain⟨xs,h1,h2,h3⟩:=Yj h;refine⟨(i0,y)::xs,h1,by simp[h2],λi p hp=>?_⟩;cases i with
   |zero=>simp at hp;subst hp;exact⟨x,rfl,hy⟩
   |succ i=>exact h3 i p (by simpa using hp)
theorem XI{σ:Vw}{κ:Nat->Bool}(hσ:σ.Ok κ)(hon:σ.On):∀(l:List (Nat×Operand))(xs:List (Nat×X))(ds:List (Nat×D)),xs.length=l.length->(∀(i:Nat)(p:Nat×X),xs[i]?=some p->∃x,l[i]?=some (p.1,x)/\σ.ev x=some p.2)->
    xs.length=ds.length->(∀(i:Nat)(p:Nat×X)(q:Nat×D),xs[i]?=some p->ds[i]?=some q->p.1=q.1/\cJ σ.den.H p.2.D q.2)->tA σ.den l ds
 |[],[],[],_,_,_,_=>.nil
 |[],[],_::_,_,_,h,_=>by cases h
 |[],_::_,_,h,_,_,_=>by cases h
 |_::_,[],_,h,_,_,_=>by cases h
 |_::_,_::_,[],_,_,h,_=>by cases h
 |(i0,x0)::l,(i1,y)::xs,(i2,d)::ds,h1,h2,h3,h4=>by
   obtain⟨x,e1,e2⟩:=h2 0 _ rfl;simp at e1;obtain⟨rfl,rfl⟩:=e1;obtain⟨e3,e4⟩:=h4 0 _ _ rfl rfl;simp only at e3 e4;subst e3;exact .cons (aV hσ hon e2) e4 (XI hσ hon l xs ds (by simpa using h1) (λi p hp=>by simpa using h2 (i+1) p (by simpa using hp)) (by simpa using h3) (λi p q hp hq=>h4 (i+1) p q (by simpa using hp) (by simpa using hq)))
theorem aIu{pl:List (Nat×Nat)}:∀(xs:List (Nat×X))(cells:List X)(k:List X->O)(r:aF),Is pl cells xs k=some r->∃out,k out=some r/\lE pl (cells.map X.D) (xs.map λp=>(p.1,p.2.D))=some (out.map X.D)
 |[],cells,k,r,h=>⟨cells,h,rfl⟩
 |(i,x)::rest,cells,k,r,h=>by
   unfold Is at h;split at h
   .rename_i off m hp
    split at h
    .rename_i hb
     simp only[aT]at hb;obtain⟨⟨b1,b2⟩,b3⟩:=hb;have b2:=bB b2;have b3:=iA b3;obtain⟨out,h1,h2⟩:=aIu rest _ k r h;refine⟨out,h1,?_⟩;have hc:=JF b1;have hv:=DW b1;simp only[iH,lE,hp];rw[aI (by simp[hv,hc,b2];omega),hc,<-We,<-Mi _ _ _ (by omega)];exact h2
    .cases h
   .cases h
theorem wZ{τ:Ty}(h1:τ.one=true){l l':List Value}(h:tK τ l=some l'):∃pre,l=pre++l'/\jT pre (aM τ τ.zero):=by
 cases l with
 |nil=>cases h
 |cons x r=>
   simp only[tK]at h;split at h
   .rename_i hx
    cases h;refine⟨[x],rfl,?_⟩;cases τ with
    |pr a b=>cases h1
    |ex=>cases h1
    |un=>cases h1
    |i k=>
      simp only[Bq]at hx;split at hx
      .rw[aT]at hx
       have e1:=bK hx.1;have e2:=bK hx.2;subst e1 e2;exact .v rfl .nil
      .cases hx
    |u8=>
      simp only[Bq]at hx;split at hx
      .have e2:=bK hx
       subst e2;exact .v rfl .nil
      .cases hx
    |bo=>
      simp only[Bq]at hx;split at hx
      .exact .v rfl .nil
      .cases hx
    |tx=>
      simp only[Bq]at hx;split at hx
      .rename_i s
       split at hx
       .rename_i hs
        have:s=⟨⟨[]⟩⟩:=by
         apply aK7;apply wX;exact hs
        subst this;exact .v rfl .nil
       .cases hx
      .cases hx
    |sl e=>
      simp only[Bq]at hx;split at hx
      .exact .sl .nil
      .cases hx
   .cases h
theorem O6:∀(τ:Ty)(l l':List Value),Br τ l=some l'->∃pre,l=pre++l'/\jT pre (aM τ τ.zero)
 |.pr a b,l,l',h=>by
   simp only[Br]at h;split at h
   .rename_i l1 h1
    obtain⟨p1,e1,z1⟩:=O6 a l l1 h1;obtain⟨p2,e2,z2⟩:=O6 b l1 l' h;refine⟨p1++p2,by rw[e1,e2,bP],?_⟩;have:aM (.pr a b) (Ty.zero (.pr a b))=aM a a.zero++aM b b.zero:=rfl;rw[this];exact z1.append z2
   .cases h
 |.ex,l,l',h=>by
   simp only[Br]at h;split at h
   .rename_i l1 h1
    split at h
    .rename_i l2 h2
     obtain⟨p1,e1,z1⟩:=wZ rfl h1;obtain⟨p2,e2,z2⟩:=wZ rfl h2;obtain⟨p3,e3,z3⟩:=wZ rfl h;exact⟨p1++(p2++p3),by rw[e1,e2,e3];simp,z1.append (z2.append z3)⟩
    .cases h
   .cases h
 |.un,l,l',h=>by cases h;exact⟨[],rfl,.nil⟩
 |.i k,l,l',h=>wZ rfl h
 |.u8,l,l',h=>wZ rfl h
 |.bo,l,l',h=>wZ rfl h
 |.tx,l,l',h=>wZ rfl h
 |.sl e,l,l',h=>wZ rfl h
theorem o4{c:Cx}{t e:TypeId}{τ:Ty}{b:Nat}(h:mJ c t=some (e,τ,b)):∃z,mQ c.P t e z τ.size b/\jT z.cells.toList (aM τ τ.zero):=by
 unfold mJ at h;split at h
 .rename_i e' he
  split at h
  .rename_i τ' i hτ hi
   split at h
   .rename_i z hz
    split at h
    .rename_i hc
     split at h
     .rename_i hb
      cases h;rw[aT]at hb;have h1:=bB hb.1;have hb2:=hb.2;rw[aT]at hb2;have h2:=bB hb2.1;have h3:=iA hb2.2;obtain⟨pre,hp,hz'⟩:=O6 _ _ _ hc;rw[e9]at hp;refine⟨z,⟨?_,by rw[hi];simp[hz,h1],h2,h3⟩,by rw[hp];exact hz'⟩;unfold Iw at he;split at he
      .rename_i hu;cases he;exact hu
      .cases he
     .cases h
    .cases h
   .cases h
  .cases h
 .cases h
end Go.Ax
/- Operations: rows that are made, slices, conversions, calls. -/
namespace Go.Ax
open aA
open Go.RowKit Go.Ab
section
variable{P:Program}{o:Oper}{s:St}{fr:Nat}
theorem a3D{t e:TypeId}{z:Value}{sz bytes len:Nat}(st:Bool){parts:Array (Nat×Operand)}{ds:List (Nat×D)}{zt ts:List Tree}(hA:mQ P t e z sz bytes)(hz:jT z.cells.toList zt)(hl:len*sz<=2^24)(ho:o.op = .buildSlice t len parts)(hp:tA s parts.toList ds)
    (hf:lE ((lR len).map λi=>(i*sz,sz)) ((cI len zt).flatten.map .t) ds=some (ts.map .t)):aW P o s fr (.own fr) [(fr,some (.row e sz len ts st))]:=by
 have h1:∀u∈z.cells.toList,u.oneCell'=true:=by
  clear hf hp ho hl hA;generalize z.cells.toList=l at hz
  induction hz with
  |nil=>intro u hu;cases hu
  |v h r ih=>
    intro u hu;rcases eZ.1 hu with rfl|hu
    .exact h
    .exact ih u hu
  |sl r ih=>
    intro u hu;rcases eZ.1 hu with rfl|hu
    .rfl
    .exact ih u hu
 have hB:=AG.of hA h1 len hl;intro E σ₁ a w hT hHH h100 hf' hd ⟨ν,G,I⟩ Q;have hpl:∀(i:Nat)(p:Nat×Nat),((lR len).map λi=>(i*sz,sz))[i]?=some p->(λi=>some (i*sz,sz)) i=some p:=λi p h=>by
  rw[cZ]at h;obtain⟨j,hj,rfl⟩:=cO.1 h;have:=(bZ.1 hj).2;simp at this;simp[this]
 obtain⟨g1,g2⟩:=hp.rel (λx d d' hx hw=>hw _ _ _ _ _ _ hHH I _ (I.ev (St.dE hT hx)));have hzr:=(hz.IP len).rel w G;obtain⟨cells,hres,hsz,hrel⟩:=Nf hpl _ ds (cI len z.cells.toList).flatten.toArray ((cI len zt).flatten.map .t) (ts.map .t) g1 g2 (by simpa using hzr.1) (λi u d hu hdd=>by
     rw[cZ]at hdd;obtain⟨t',ht',rfl⟩:=cO.1 hdd;have hu':(cI len z.cells.toList).flatten[i]?=some u:=by simpa using hu
     have htr:=hzr.2 i u t' hu' ht';exact⟨.t htr,htr.one⟩) hf
 have hlen:ts.length=len*sz:=by
  have hfl:∀(pl:List (Nat×Nat))(ds:List (Nat×D))(cs out:List D),lE pl cs ds=some out->out.length=cs.length:=by
   intro pl ds
   induction ds with
   |nil=>intro cs out h;cases h;rfl
   |cons p r ih=>
     intro cs out h;obtain⟨i,d⟩:=p;simp only[lE]at h;split at h
     .cases h
     .split at h
      .rename_i hc
       simp only[aT,sY,kJ]at hc;rw[ih _ _ h,xN hc.2]
      .cases h
  have:=hfl _ _ _ _ hf;simp only[cP]at this;rw[this,<-hzr.1];exact hB.zl
 have hr:=hB.run w (parts.map λ(i,x)=>(i,a.eval x)) cells (by rw[Array.toList_map];exact hres);unfold Oper.wp;have he:(execOp a.eval o).run P w = .ok (.value (.slice (some ⟨w.heap.size,0,none⟩) len len)) (w.alloc (.cells cells e)):=by
  unfold execOp;rw[ho];simp[hr]
 rw[he,Oper.upon_value];have hA':cU w (w.alloc (.cells cells e)):=(cU.refl w).alloc _;have hG:∀b,b<w.heap.size->(λb=>if b=w.heap.size then(if st then len*sz else 0)else G b) b=G b:=λb hb=>aE (by omega)
 have hsz':cells.size=ts.length:=by rw[hsz];simp
 refine⟨put_defers ..,_,_,I.fresh (G':=λb=>if b=w.heap.size then(if st then len*sz else 0)else G b) h100 hf' hd hA' hG (x:=.slice (some ⟨w.heap.size,0,none⟩) len len) (λg hg=>by cases hg;exact cE _) ?_ ?_⟩
 .refine⟨cells.toList,?_,?_,λi u t hu ht=>?_,λg hg=>?_⟩
  .rw[cB]
   exact⟨by simp[hsz',hlen],.inr ⟨w.heap.size,len,cells,rfl,Nat.zero_le _,heap_alloc_new w _,cE _,hB.ml,by rw[hsz',hlen],by rw[vD (by simp[hsz',hlen])]⟩⟩
  .simpa using hsz'
  .have:=(hrel i u (.t t) (by simpa using hu) (by rw[cZ,ht];rfl)).1
   cases this with|t h=>exact h.mono (λ_ _ _ h=>h.iG hA' hG)
  .rw[cB]at hg
   cases hg;exact⟨.inl I.kept.size,aI rfl⟩
 .have:DR (cD ν fr (.slice (some ⟨w.heap.size,0,none⟩) len len)) (σ₁.aP o.dst .any [(fr,some (.row e sz len ts st))] fr).nm (w.alloc (.cells cells e)) (λb=>if b=w.heap.size then(if st then len*sz else 0)else G b) (cD ν fr (.slice (some ⟨w.heap.size,0,none⟩) len len) fr) (.own fr):=.own (kN ..) (by rw[cB];rfl)
  rw[cB]at this;exact this
def eI(lo:Option Int):Nat:=match lo with|some a=>a.toNat|none=>0
def fD(n:Nat)(hi:Option Int):Nat:=match hi with|some b=>b.toNat|none=>n
theorem Wh{α:Type}(l:List α)(lo hi:Option Int):iE l lo hi=(l.take (fD l.length hi)).drop (eI lo):=by
 cases lo <;> cases hi <;> simp[iE,eI,fD]
theorem MW{n:Nat}{lo hi:Option Int}(h:iX n lo hi=true):eI lo<=fD n hi/\fD n hi<=n/\(∀a,lo=some a->0<=a)/\∀b,hi=some b->0<=b:=by
 cases lo <;> cases hi <;> simp[iX,eI,fD]at h ⊢ <;> omega
theorem zC{P:Program}{w:World}{isS:Bool}{n cap:Nat}{lo hi:Option Int}{kl kh:IntKind}(h1:eI lo<=fD n hi)(h2:fD n hi<=cap)(h3:∀a,lo=some a->0<=a)(h4:∀b,hi=some b->0<=b):
    (Instr.sliceBounds isS n cap (lo.map (.int kl)) (hi.map (.int kh)) none).run P w = .ok (eI lo,fD n hi,cap) w:=by
 have hb:∀(k:IntKind)(i:Int)(y:Nat)(code:BoundsCode),0<=i->i.toNat<=y->(Instr.sliceBound (.int k i) y code).run P w = .ok i.toNat w:=λk i y code a b=>by
  have:i<=(y:Int):=by omega
  simp[Instr.sliceBound,asIntOf,a,this]
 cases lo with
 |none=>
   cases hi with
   |none=>simp[Instr.sliceBounds,eI,fD]
   |some b=>simp only[fD]at h2;simp[Instr.sliceBounds,eI,fD,hb _ _ _ _ (h4 b rfl) h2]
 |some a=>
   cases hi with
   |none=>simp only[eI,fD]at h1;simp[Instr.sliceBounds,eI,fD,hb _ _ _ _ (h3 a rfl) h1]
   |some b=>
     simp only[eI,fD]at h1 h2;simp[Instr.sliceBounds,eI,fD,hb _ _ _ _ (h4 b rfl) h2,hb _ _ _ _ (h3 a rfl) h1]
def pS(s:St)(x:Option Operand)(v:Option Int):Prop:=match x,v with
 |none,none=>True
 |some x,some n=>∃ik,s.ev x=some (.t (.v (.int ik n)))
 |_,_=>False
theorem pS.run{s:St}{x:Option Operand}{v:Option Int}(h:pS s x v){ρ:Operand->Value}(hev:∀x d,s.ev x=some (.t (.v d))->ρ x=d):∃ik,x.map ρ=v.map (.int ik):=by
 cases x with
 |none=>cases v with
   |none=>exact⟨.i64,rfl⟩
   |some n=>exact h.elim
 |some x=>cases v with
   |none=>exact h.elim
   |some n=>obtain⟨ik,hk⟩:=h;exact⟨ik,aR some (hev x _ hk)⟩
theorem a26{t:TypeId}{x:Operand}{lo hi:Option Operand}{l:List UInt8}{a b:Option Int}(hu:P.underlying t=some .string)(ho:o.op = .slice t x lo hi none)(hx:s.ev x=some (TS l))(hlo:pS s lo a)(hhi:pS s hi b)(hok:iX l.length a b=true):aW P o s fr (TS (iE l a b)) []:=
 dM λ_ _ _ _ w ac _ _ hev=>by
  have h1:=bY (hev x _ hx);obtain⟨kl,e1⟩:=hlo.run (ρ:=ac.eval) (λx d h=>bY (hev x _ h));obtain⟨kh,e2⟩:=hhi.run (ρ:=ac.eval) (λx d h=>bY (hev x _ h));obtain⟨g1,g2,g3,g4⟩:=MW hok;refine⟨.string ⟨⟨iE l a b⟩⟩,?_,.t (.v _ rfl)⟩;have hsz:(ByteArray.mk ⟨l⟩).size=l.length:=rfl;have hb:=zC (P:=P) (w:=w) (isS:=false) (n:=l.length) (cap:=l.length) (lo:=a) (hi:=b) (kl:=kl) (kh:=kh) g1 g2 g3 g4;have hex:(ByteArray.mk ⟨l⟩).extract (eI a) (fD l.length b)=⟨⟨iE l a b⟩⟩:=by
   apply aK7;rw[ByteArray.data_extract];apply wX;rw[Wh,a9d];simp only[List.extract];rw[List.drop_take]
   try trace_state
  unfold execOp;rw[ho];simp only[h1,e1,e2,rP];simp[Instr.sliceAt,Instr.slice,run_underlying hu,hsz,hb,hex]
theorem ok_slice{t e:TypeId}{x:Operand}{lo hi:Option Operand}{sz n:Nat}{ts:List Tree}{d0:D}{a b:Option Int}(hu:P.underlying t=some (.slice e))(hs:fP P e=some sz)(ho:o.op = .slice t x lo hi none)(hx:s.ev x=some d0)(hw:cJ s.H d0 (.t (.sl n ts)))(hts:ts.length=n*sz)(hlo:pS s lo a)(hhi:pS s hi b)(hok:iX n a b=true):
    aW P o s fr (.t (.sl (fD n b-eI a) ((ts.take (fD n b*sz)).drop (eI a*sz)))) []:=
 dM λE σ₁ ν G w ac hH I hev=>by
  have hd:=hw E σ₁ ν G w ac.tmps hH I _ (hev x _ hx);obtain⟨kl,e1⟩:=hlo.run (ρ:=ac.eval) (λx d h=>bY (hev x _ h));obtain⟨kh,e2⟩:=hhi.run (ρ:=ac.eval) (λx d h=>bY (hev x _ h));obtain⟨g1,g2,g3,g4⟩:=MW hok;obtain⟨inf,hinf,hsz⟩:=cO.1 hs;obtain⟨v,hv⟩:∃v,ac.eval x=v:=⟨_,rfl⟩
  rw[hv]at hd;cases hd with
  |t hd=>
    cases hd with
    | @nil ad cap h0=>
      have hb:=zC (P:=P) (w:=w) (isS:=true) (n:=0) (cap:=cap) (lo:=a) (hi:=b) (kl:=kl) (kh:=kh) g1 (by omega) g3 g4;have z1:fD 0 b=0:=by omega
      have z2:eI a=0:=by omega
      rw[z1,z2]at hb;refine⟨.slice (if cap=0 then ad else ad.map (·.add (0*sz))) (0-0) (cap-0),?_,?_⟩
      .unfold execOp
       rw[ho];simp only[hv,e1,e2,rP];simp[Instr.sliceAt,Instr.slice,run_underlying hu,hb,sizeOf,typeInfo,hinf,hsz]
      .rw[z1,z2]
       simp only[aKX,Nat.zero_mul,E4,List.drop_zero];refine .t (.nil λhe=>?_);split at he
       .rename_i hc;exact hc
       .exact h0 (by cases ad with|none=>rfl|some _=>cases he)
    |sl bl q _ cap us _ hl hc hn ht=>
      have hb:=zC (P:=P) (w:=w) (isS:=true) (n:=n) (cap:=cap) (lo:=a) (hi:=b) (kl:=kl) (kh:=kh) g1 (by omega) g3 g4;refine⟨.slice (if cap=eI a then some ⟨bl,q,none⟩else some ((⟨bl,q,none⟩:Addr).add (eI a*sz))) (fD n b-eI a) (cap-eI a),?_,?_⟩
      .unfold execOp
       rw[ho];simp only[hv,e1,e2,rP];simp[Instr.sliceAt,Instr.slice,run_underlying hu,hb,sizeOf,typeInfo,hinf,hsz]
      .by_cases hz:fD n b-eI a=0
       .have hnil:(ts.take (fD n b*sz)).drop (eI a*sz)=[]:=by
         apply rR;rw[iT];have:fD n b*sz<=eI a*sz:=mM _ (by omega);omega
        rw[hz,hnil];refine .t (.nil λhe=>?_);split at he <;> cases he
       .have hne:¬ cap=eI a:=by omega
        rw[aE hne,Addr.add_mid];have hm1:fD n b*sz<=n*sz:=mM _ g2;have hm2:eI a*sz<=fD n b*sz:=mM _ g1;refine .t (.sl bl (q+eI a*sz) _ _ ((us.take (fD n b*sz)).drop (eI a*sz)) _ (by simp;omega) (λi u hi'=>?_) (by omega) (λi u t' hu' ht'=>?_))
        .rw[qQ,fU]at hi'
         split at hi'
         .have:=hc _ u hi'
          rwa [<-Be]at this
         .cases hi'
        .rw[qQ,fU]at hu' ht'
         split at hu'
         .rename_i hlt
          rw[aI hlt]at ht';exact ht _ u t' hu' ht'
         .cases hu'
end
end Go.Ax
/- Operations: those that make, build and convert. -/
namespace Go.Ax
open aA
open Go.RowKit Go.Ab
theorem aIH{τ:Ty}{σ:Vw}:∀(xs:List (Nat×X))(l:List τ.V)(k:List τ.V->O)(r:aF),Ih τ σ l xs k=some r->∃(ys:List (Nat×τ.V))(out:List τ.V),k out=some r/\out.length=l.length/\xs.length=ys.length /\
    (∀(i:Nat)(p:Nat×X)(q:Nat×τ.V),xs[i]?=some p->ys[i]?=some q->p.1=q.1/\cJ σ.den.H p.2.D (uC τ q.2).D) /\
    lE ((lR l.length).map λi=>(i*τ.size,τ.size)) ((l.flatMap (aM τ)).map .t) (ys.map λp=>(p.1,(uC τ p.2).D))=some ((out.flatMap (aM τ)).map .t)
 |[],l,k,r,h=>⟨[],l,h,rfl,rfl,λi p q hp=>by simp at hp,rfl⟩
 |(i0,x)::rest,l,k,r,h=>by
   unfold Ih at h;split at h
   .rename_i hi
    have hi':i0<l.length:=by simpa[Nat.blt_eq]using hi
    obtain⟨y,hy,h⟩:=bF h;obtain⟨ys,out,h1,h2,h3,h4,h5⟩:=aIH rest _ k r h;rw[a1w]at h2 h5;have hl:(l.set i0 y).length=l.length:=by simp
    rw[hl]at h2 h5;refine⟨(i0,y)::ys,out,h1,h2,by simp[h3],λi p q hp hq=>?_,?_⟩
    .cases i with
     |zero=>simp at hp hq;subst hp hq;exact⟨rfl,(N8 σ x).trans (WV hy)⟩
     |succ i=>exact h4 i p q (by simpa using hp) (by simpa using hq)
    .have hcell:(uC τ y).D.cells=(aM τ y).map .t/\(uC τ y).D.val=true:=by
      rw[aGX];split
      .rename_i h1
       rw[EJ h1];exact⟨rfl,rfl⟩
      .exact⟨rfl,rfl⟩
     obtain⟨z,hz⟩:∃z,l[i0]?=some z:=⟨_,dC hi'⟩
     obtain⟨A,B,hf,hA⟩:=BO (f:=aM τ) (s:=τ.size) (λx=>dJ τ x) hz;have hset:=aIm (f:=aM τ) (s:=τ.size) (λx=>dJ τ x) (l:=l) (i:=i0) (y:=z) (z:=y) (A:=A) (B:=B) (new:=aM τ y) (j:=0) hf hA hi' (by
      have e1:=dJ τ y;have e2:=dJ τ z;unfold dL;rw[E4,k7,rR (by omega),e9]) (by rw[dJ];omega)
     have hle:i0*τ.size+τ.size<=l.length*τ.size:=by
      rw[<-aKW];exact mM _ hi'
     simp only[iH,lE];rw[cZ,List.getElem?_range hi'];simp only[lH];rw[hcell.1,hcell.2];simp only[cP,dJ,sU];rw[aI (by simp[hle])];rw[<-We];rw[show i0*τ.size+0=i0*τ.size by omega]at hset;rw[<-hset];exact h5
   .cases h
section
variable{c:Cx}{σ:Vw}{κ:Nat->Bool}{fr:Nat}{o:Oper}{k:X->Wx->O}{r:aF}
theorem aJ9(fr:Nat)(l:List X):B2 fr l=l\/(l=[.v (.pointer none),.bW]/\B2 fr l=[.via fr 0,.bW]):=by
 unfold B2;split
 .exact .inr ⟨rfl,rfl⟩
 .exact .inl rfl
theorem a32{P:Program}{s:St}{e:TypeId}{x:Operand}{d:D}(ho:o.op = .box e x)(hx:s.ev x=some d)(hv:d.val=true)(hc:d.cells=[.t (.v (.pointer none)),.t (.v (.slice none 0 0))]):aW P o s fr (.ref fr 0) [(fr,some (.box e [.via fr (iN 0),.t (.v (.slice none 0 0))]))]:=by
 intro E σ₁ a w hT _ h100 hf hd ⟨ν,G,I⟩ Q;have hdx:=I.ev (St.dE hT hx);unfold Oper.wp;have hr:(execOp a.eval o).run P w = .ok (.value (.pointer (some ⟨w.heap.size,0,none⟩))) (w.alloc (.cells (a.eval x).cells e)):=by
  unfold execOp;rw[ho];simp[Instr.box,newVar,newRow]
 rw[hr,Oper.upon_value];have hA:cU w (w.alloc (.cells (a.eval x).cells e)):=(cU.refl w).alloc _;refine⟨put_defers ..,_,_,I.fresh (G':=λb=>if b=w.heap.size then 0 else G b) h100 hf hd hA (λb hb=>aE (by omega)) (x:=.pointer (some ⟨w.heap.size,0,none⟩)) (λg hg=>by cases hg;exact cE _) ?_ (.ref (kN ..) (by rw[cB];rfl))⟩;obtain⟨hc1,hc2⟩:=hdx.cells hv;rw[hc]at hc1 hc2;refine⟨w.heap.size,(a.eval x).cells,cB,.inl I.kept.size,heap_alloc_new w _,aI rfl,hc1,λi u d' hu hd'=>?_⟩
 match i,hu,hd' with
 |0,hu,hd'=>
   have:=bY (hc2 0 u _ hu rfl).1;subst this;cases hd';exact⟨.via (kN ..) (.inl rfl) rfl,rfl⟩
 |1,hu,hd'=>
   have:=bY (hc2 1 u _ hu rfl).1;subst this;cases hd';exact⟨.t (.v _ rfl),rfl⟩
 |i+2,hu,hd'=>simp at hd'
theorem a5w(hσ:σ.Ok κ){e:TypeId}{x:Operand}{v:X}(ho:o.op = .box e x)(hx:σ.ev x=some v)(hv:v.val=true)(h:k (.ref fr 0) [(fr,some (.box e (B2 fr v.cells)))]=some r):dG c σ fr o k r:=
 ⟨_,_,h,rfl,λhon=>by
  rcases aJ9 fr v.cells with e1|⟨e1,e2⟩
  .have:=XX (P:=c.P) (fr:=fr) ho (aV hσ hon hx) (DW hv)
   rw[JF hv]at this;rw[e1];exact this
  .rw[e2]
   exact a32 (P:=c.P) ho (aV hσ hon hx) (DW hv) (by rw[JF hv,e1];rfl)⟩
theorem a38{P:Program}{s:St}{e:TypeId}{z:Value}(ho:o.op = .alloc e)(hz:(P.info? e).bind (·.zero)=some z)(hc:z.cells = #[.pointer none,.slice none 0 0]):aW P o s fr (.ref fr 0) [(fr,some (.box e [.via fr (iN 0),.t (.v (.slice none 0 0))]))]:=by
 intro E σ₁ a w hT _ h100 hf hd ⟨ν,G,I⟩ Q;obtain⟨i,hi,hz'⟩:=wP.1 hz;unfold Oper.wp;have hr:(execOp a.eval o).run P w = .ok (.value (.pointer (some ⟨w.heap.size,0,none⟩))) (w.alloc (.cells z.cells e)):=by
  unfold execOp;rw[ho];simp[Instr.alloc,zeroValue,typeInfo,hi,hz',newVar,newRow]
 rw[hr,Oper.upon_value];have hA:cU w (w.alloc (.cells z.cells e)):=(cU.refl w).alloc _;refine⟨put_defers ..,_,_,I.fresh (G':=λb=>if b=w.heap.size then 0 else G b) h100 hf hd hA (λb hb=>aE (by omega)) (x:=.pointer (some ⟨w.heap.size,0,none⟩)) (λg hg=>by cases hg;exact cE _) ?_ (.ref (kN ..) (by rw[cB];rfl))⟩;refine⟨w.heap.size,z.cells,cB,.inl I.kept.size,heap_alloc_new w _,aI rfl,by rw[hc];rfl,λi u d' hu hd'=>?_⟩;rw[hc]at hu
 match i,hu,hd' with
 |0,hu,hd'=>cases hu;cases hd';exact⟨.via (kN ..) (.inl rfl) rfl,rfl⟩
 |1,hu,hd'=>cases hu;cases hd';exact⟨.t (.v _ rfl),rfl⟩
 |i+2,hu,hd'=>simp at hd'
theorem a6D{e:TypeId}{z:X}(ho:o.op = .alloc e)(hz:vK c.P e=some z)(h:k (.ref fr 0) [(fr,some (.box e (B2 fr z.cells)))]=some r):dG c σ fr o k r:=
 ⟨_,_,h,rfl,λ_=>by
  obtain⟨v,h1,h2⟩:=aAG hz;obtain⟨g1,_,g3,_,g5,_⟩:=I6 h2;rcases aJ9 fr z.cells with e1|⟨e1,e2⟩
  .have:=aHd (P:=c.P) (σ:=σ.den) (fr:=fr) ho h1 g1
   rw[e1];rw[g5]at this;exact this
  .have g3:[D.t (.v (.pointer none)),.t (.v (.slice none 0 0))]=v.cells.toList.map (λu=>D.t (.v u)):=by rw[<-g3,e1];rfl
   have hc:v.cells = #[.pointer none,.slice none 0 0]:=by
    apply wX
    match h:v.cells.toList,g3 with
    |[a,b],g3=>cases g3;rfl
   rw[e2];exact a38 (P:=c.P) ho h1 hc⟩
theorem a5u(hσ:σ.Ok κ){t:TypeId}{ps:Array (Nat×Operand)}{z:X}{pl:List (Nat×Nat)}(ho:o.op = .build t ps)(hz:vK c.P t=some z)(hp:places c.P t=some pl)(h:σ.BS ps.toList (λxs=>Is pl z.cells xs λcs=>k (.agg cs) [])=some r):dG c σ fr o k r:=by
 obtain⟨xs,h,hl,hev⟩:=Yj h;obtain⟨out,h,hf⟩:=aIu xs z.cells _ r h;refine⟨_,_,h,rfl,λhon=>?_⟩;obtain⟨v,h1,h2⟩:=aAG hz;obtain⟨_,_,g3,_,_,_⟩:=I6 h2;have hb:=a77 h1 h2 hp;have hpt:=XI hσ hon ps.toList xs (xs.map λp=>(p.1,p.2.D)) hl hev (by simp) (λi p q hp hq=>by
  rw[cZ,hp]at hq;cases hq;exact⟨rfl,cJ.refl⟩)
 rw[g3]at hf;have:=aH8 (P:=c.P) (fr:=fr) hb ho hpt hf;unfold X.D;rw[hY];exact this
theorem a5d(hσ:σ.Ok κ){t e:TypeId}{n b:Nat}{τ:Ty}{st:Bool}{ps:Array (Nat×Operand)}(ho:o.op = .buildSlice t n ps)(hE:mJ c t=some (e,τ,b))(hle:n*τ.size<=16777216)(h:σ.BS ps.toList (λxs=>Ih τ σ (oM τ.zero n) xs λl=>k (.own fr) [(fr,some (.row e τ l st))])=some r):dG c σ fr o k r:=by
 obtain⟨xs,h,hl,hev⟩:=Yj h;obtain⟨ys,out,h,h2,h3,h4,h5⟩:=aIH xs _ _ r h;refine⟨_,_,h,rfl,λhon=>?_⟩;obtain⟨z,hA,hz⟩:=o4 hE;have hpt:=XI hσ hon ps.toList xs (ys.map λp=>(p.1,(uC τ p.2).D)) hl hev (by simp[h3]) (λi p q hp hq=>by
  rw[cZ]at hq;obtain⟨y,hy,rfl⟩:=cO.1 hq;exact h4 i p y hp hy)
 rw[aGx]at h2 h5;rw[wT]at h2 h5;have hfl:∀m:Nat,(cI m τ.zero).flatMap (aM τ)=(cI m (aM τ τ.zero)).flatten:=λm=>by
  induction m with
  |zero=>rfl
  |succ m ih=>rw[pN,pN,fV,E5,ih]
 rw[hfl]at h5;have:=a3D (P:=c.P) (fr:=fr) st hA hz (len:=n) (by omega) ho hpt h5;rw[<-h2]at this;exact this
theorem a8X{E:Env}{σ σ':St}(hT:σ'.T=σ.T)(hn:σ'.nm=σ.nm){k:Nat}{o o':aO}(hk:σ.H k=some o)(hH:∀j,σ'.H j=if j=k then some o' else σ.H j)(ho:∀ν nm w G,eT E ν nm w G k o->eT E ν nm w G k o'/\∀g,bO w (ν k) o' g->bO w (ν k) o g)
    {tm:Array Value} {w:World} (h:R E σ tm w):R E σ' tm w:=by
 obtain⟨T',H',n'⟩:=σ';obtain⟨T,H,n⟩:=σ;simp only at hT hn hH hk;subst hT hn;obtain⟨ν,G,I⟩:=h;have back:∀j o1,H' j=some o1->∃o2,H j=some o2/\∀g,bO w (ν j) o1 g->bO w (ν j) o2 g:=λj o1 hj=>by
  rw[hH]at hj;split at hj
  .rename_i e
   subst e;cases hj;exact⟨o,hk,(ho _ _ _ _ (I.H _ _ hk).2).2⟩
  .exact⟨o1,hj,λ_ h=>h⟩
 refine⟨ν,G,I.kept,I.eJ,I.fJ,I.g0,I.sz,I.T,λj o1 hj=>?_,λj1 o1 j2 o2 h1 h2 hne=>?_⟩
 .simp only at hj
  rw[hH]at hj;split at hj
  .rename_i e
   subst e;cases hj;exact⟨(I.H _ _ hk).1,(ho _ _ _ _ (I.H _ _ hk).2).1⟩
  .exact I.H j o1 hj
 .obtain⟨p1,hp1,f1⟩:=back j1 o1 h1
  obtain⟨p2,hp2,f2⟩:=back j2 o2 h2;exact λg hg hg'=>I.cW j1 p1 j2 p2 hp1 hp2 hne g (f1 g hg) (f2 g hg')
theorem a3n{n i:Nat}{x:Tree}(h:(cI n [Tree.v (.slice none 0 0)]).flatten[i]?=some x):x = .v (.slice none 0 0):=by
 have hm:=iM h;obtain⟨l,hl,hx⟩:=List.mem_flatten.1 hm;rw[a9S hl]at hx;exact nH.1 hx
theorem aW.a3o{P:Program}{o:Oper}{σ:St}{fr n:Nat}{e e':TypeId}{s:Nat}(h:aW P o σ fr (.own fr) [(fr,some (.row e 1 n (cI n [Tree.v (.slice none 0 0)]).flatten false))]):
    aW P o σ fr (.own fr) [(fr,some (.bC e e' 1 s n (cI n (NC.cX 0 []))))]:=λE σ₁ a w h1 h2 h3 h4 h5 h6 Q=>
 Oper.wp_mono (λa' w' ⟨q1,q2⟩=>⟨q1,by
  refine a8X (σ:=σ₁.aP o.dst (.own fr) [(fr,some (.row e 1 n (cI n [Tree.v (.slice none 0 0)]).flatten false))] fr) (σ':=σ₁.aP o.dst (.own fr) [(fr,some (.bC e e' 1 s n (cI n (NC.cX 0 []))))] fr) (k:=fr) (o:=.row e 1 n (cI n [Tree.v (.slice none 0 0)]).flatten false) (o':=.bC e e' 1 s n (cI n (NC.cX 0 []))) rfl rfl (by simp[St.aP,Ab.look]) (λj=>?_) (λν nm w G hob=>?_) q2
  .simp only[St.aP,Ab.look]
   by_cases hej:fr=j
   .subst hej;simp
   .rw[aE hej,aE hej,aE (λh=>hej h.symm)]
  .obtain⟨xs,r1,r2,r3,r4⟩:=hob
   have hl:(cI n [Tree.v (.slice none 0 0)]).flatten.length=n:=by simp
   have hnil:∀(i:Nat)(x:Value),xs[i]?=some x->x=Value.slice none 0 0:=λi x hx=>by
    have hi:i<n:=by have:=(bZ.1 hx).1;omega
    have ht:(cI n [Tree.v (.slice none 0 0)]).flatten[i]?=some (cI n [Tree.v (.slice none 0 0)]).flatten[i]:=dC (by rw[hl];exact hi);have hr:=r3 i x _ hx ht;rw[a3n ht]at hr;cases hr with
    |v=>rfl
   have hc:∀(i:Nat)(c:NC),(cI n (NC.cX 0 []))[i]?=some c->c = .cX 0 []:=λi c h=>a9S (iM h)
   refine⟨⟨xs,r1,by rw[r2,hl,wT],λi x d _ h=>(by have:=hc i _ h;cases this),λi x q ts hx h=>?_,λi j x y q q' ts ts' _ hx _ _ _ g hg=>?_,λi x q ts hx _ g hg=>?_,λg hg=>⟨(r4 g hg).1,by simpa using(r4 g hg).2⟩⟩,λg hg=>?_⟩
   .have:=hc i _ h
    cases this;rw[hnil i x hx];exact⟨[],World.ownsRow_nil w 0 e' s,rfl,λi u t h=>by simp at h,λg hg=>by cases hg⟩
   .rw[hnil i x hx]at hg;cases hg
   .rw[hnil i x hx]at hg;cases hg
   .rcases hg with hg|⟨g0,i,x,q,ts,a1,a2,a3,a4⟩
    .exact hg
    .have hi:i<xs.length:=by have:=(bZ.1 a2).1;rw[wT]at this;omega
     rw[mY r1 a1 hi]at a3;rw[hnil i x a3]at a4;cases a4⟩) (h E σ₁ a w h1 h2 h3 h4 h5 h6 Q)
theorem a56(hσ:σ.Ok κ){t e:TypeId}{b:Nat}{τ:Ty}{x y:Operand}{z:Int}{st:Bool}(ho:o.op = .makeSlice t x y)(he:I4 x y=true)(hx:σ.ev x=some (.e (.i .i64) z))(hE:mJ c t=some (e,τ,b))(h:If τ e fr b st z k=some r):dG c σ fr o k r:=by
 unfold If at h;obtain⟨h0,h⟩:=eL h;obtain⟨hb,h⟩:=eL h;refine⟨_,_,h,rfl,λhon=>?_⟩;obtain⟨v,hA,hz⟩:=o4 hE;have h0:=bK h0;unfold bE at hb;have hb:=bK hb;have hn:((z.toNat:Nat):Int)=z:=by omega
 have hx1:σ.den.ev x=some (I (z.toNat:Nat)):=by
  rw[hn];exact aV hσ hon hx
 have hy1:σ.den.ev y=some (I (z.toNat:Nat)):=by
  unfold I4 at he;split at he
  .rw[<-bB he];exact hx1
  .rename_i k1 a k2 b'
   simp only[aT,kJ,sY]at he;obtain⟨rfl,rfl⟩:=he;exact hx1
  .cases he
 have hm:z.toNat<=maxLen:=by simp only[maxLen];omega
 have:=aHX (P:=c.P) (fr:=fr) st hA hz ho hx1 hy1 ⟨by rw[aKZ];omega,hm⟩;have hfl:∀m:Nat,(cI m τ.zero).flatMap (aM τ)=(cI m (aM τ τ.zero)).flatten:=λm=>by
  induction m with
  |zero=>rfl
  |succ m ih=>rw[pN,pN,fV,E5,ih]
 unfold WA;simp only[iH,vF,lH,XO.A,wT,hfl];exact this
theorem a55(hσ:σ.Ok κ){t e:TypeId}{b:Nat}{τ:Ty}{y:Operand}{z:Int}{st:Bool}(ho:o.op = .makeSlice t (.const (.int .i64 (.ofNat 0))) y)(hy:σ.ev y=some (.e (.i .i64) z))(hE:mJ c t=some (e,τ,b))(h:Xg τ e fr b st z k=some r):dG c σ fr o k r:=by
 unfold Xg at h;obtain⟨h0,h⟩:=eL h;obtain⟨hb,h⟩:=eL h;refine⟨_,_,h,rfl,λhon=>?_⟩;obtain⟨v,hA,hz⟩:=o4 hE;have h0:=bK h0;unfold bE at hb;have hb:=bK hb;have hn:((z.toNat:Nat):Int)=z:=by omega
 have hy1:σ.den.ev y=some (I (z.toNat:Nat)):=by
  rw[hn];exact aV hσ hon hy
 have hm:z.toNat<=maxLen:=by simp only[maxLen];omega
 exact a2y (P:=c.P) (fr:=fr) st hA ho rfl hy1 ⟨by rw[aKZ];omega,hm⟩
theorem a54(hσ:σ.Ok κ){t e e':TypeId}{b:Nat}{τ:Ty}{x y:Operand}{z:Int}(ho:o.op = .makeSlice t x y)(he:I4 x y=true)(hx:σ.ev x=some (.e (.i .i64) z))(hE:mJ c t=some (e,.sl τ,b))(h:Xf τ e e' fr b z k=some r):dG c σ fr o k r:=by
 unfold Xf at h;obtain⟨h0,h⟩:=eL h;obtain⟨hb,h⟩:=eL h;refine⟨_,_,h,rfl,λhon=>?_⟩;obtain⟨v,hA,hz⟩:=o4 hE;have h0:=bK h0;unfold bE at hb;have hb:=bK hb;have hn:((z.toNat:Nat):Int)=z:=by omega
 have hx1:σ.den.ev x=some (I (z.toNat:Nat)):=by
  rw[hn];exact aV hσ hon hx
 have hy1:σ.den.ev y=some (I (z.toNat:Nat)):=by
  unfold I4 at he;split at he
  .rw[<-bB he];exact hx1
  .rename_i k1 a k2 b'
   simp only[aT,kJ,sY]at he;obtain⟨rfl,rfl⟩:=he;exact hx1
  .cases he
 have hm:z.toNat<=maxLen:=by simp only[maxLen];omega
 have hz2:jT v.cells.toList [.v (.slice none 0 0)]:=by
  have hz:jT v.cells.toList [.sl 0 []]:=hz;generalize v.cells.toList=l at hz;cases hz with
  |sl r=>cases r;exact .v rfl .nil
 have:=aHX (P:=c.P) (fr:=fr) false hA hz2 ho hx1 hy1 ⟨by rw[aKZ];omega,hm⟩;have:=aW.a3o (e':=e') (s:=τ.size) this;unfold WA;have hfl:∀m:Nat,(cI m (((),[]):Ty.un.V×List τ.V)).flatMap dY=cI m (NC.cX 0 []):=λm=>by
  induction m with
  |zero=>rfl
  |succ m ih=>rw[pN,pN,fV,ih];rfl
 simp only[iH,vF,lH,XO.A,wT,mC,hfl];exact this
end
end Go.Ax
/- Operations: appends, slices, conversions and the others that only reckon. -/
namespace Go.Ax
open aA
open Go.RowKit Go.Ab
theorem BN{α:Type}{f:α->List Tree}{s:Nat}(hf:∀x,(f x).length=s):∀(l:List α)(n:Nat),(l.flatMap f).take (n*s)=(l.take n).flatMap f
 |[],n=>by simp
 |x::l,0=>by simp
 |x::l,n+1=>by
   rw[fV,a9D,fV,<-BN hf l n,aKW,Zj,hf,vD (by rw[hf];omega)]
   congr 2
   omega
theorem Nc{α:Type}{f:α->List Tree}{s:Nat}(hf:∀x,(f x).length=s):∀(l:List α)(n:Nat),(l.flatMap f).drop (n*s)=(l.drop n).flatMap f
 |[],n=>by simp
 |x::l,0=>by simp
 |x::l,n+1=>by
   rw[fV,a9U,<-Nc hf l n,aKW,a9W,hf,rR (by rw[hf];omega),k7]
   congr 1
   omega
section
variable{c:Cx}{σ:Vw}{κ:Nat->Bool}{fr:Nat}{o:Oper}{k:X->Wx->O}{r:aF}
theorem a2P{τ:Ty}{x:X}{l:List τ.V}(h:one? (.sl τ) x=some l):x = .e (.sl τ) l\/(x = .bW/\l=[]):=by
 cases x with
 |e τ' y=>
   unfold one? at h;simp only at h;generalize eV τ' (.sl τ)=p at h;cases p with
   |none=>cases h
   |some q=>obtain⟨q⟩:=q;subst q;cases h;exact .inl rfl
 |bW=>unfold one? at h;cases h;exact .inr ⟨rfl,rfl⟩
 |_=>cases h
theorem a0y{τ:Ty}{xo:Operand}{x:X}{l:List τ.V}(hx:σ.den.ev xo=some x.D)(h:one? (.sl τ) x=some l):Src σ.den xo l.length (l.flatMap (aM τ)):=by
 rcases a2P h with rfl|⟨rfl,rfl⟩
 .exact .t hx
 .exact .nil hx
theorem MU{τ:Ty}{xo:Operand}{x:X}{l:List τ.V}(hx:σ.den.ev xo=some x.D)(h:σ.src τ x=some l):Src σ.den xo l.length (l.flatMap (aM τ)):=by
 cases x with
 |own q=>
   unfold Vw.src at h;simp only at h;split at h
   .rename_i e τ' l' st hq
    generalize eV τ' τ=p at h;cases p with
    |none=>cases h
    |some g=>
      obtain⟨g⟩:=g;subst g;cases h;exact .own (e:=e) (s:=τ'.size) (st:=st) hx (by rw[dI hq];rfl)
   .cases h
 |_=>exact a0y hx h
theorem a5x(hσ:σ.Ok κ){t e:TypeId}{x y:Operand}{v w:X}{τ:Ty}{bt:Nat}{l':List τ.V}(ho:o.op = .call { callee:=.builtin .append,args:=#[x,y],argTypes:=#[t,t] })(hE:mJ c t=some (e,τ,bt))(hx:σ.ev x=some v)(hy:σ.ev y=some w)(hl:σ.src τ w=some l'){st:Bool}
    (h:(∃q st' l,v = .own q/\σ.H q=some (.row e τ l st')/\ZS τ e fr bt [(q,none)] st' l l' k=some r)\/(v = .bW/\ck (bE (dR l') bt) (k (.own fr) [(fr,some (.row e τ l' st))])=some r)):dG c σ fr o k r:=by
 obtain⟨z,hA,_⟩:=o4 hE;rcases h with⟨q,st',l,rfl,hq,h⟩|⟨rfl,h⟩
 .unfold ZS at h
  obtain⟨hb,h⟩:=eL h;refine⟨_,_,h,rfl,λhon=>?_⟩;unfold bE at hb;have hb:=bK hb;rw[aL]at hb;have:=aH9 (P:=c.P) (fr:=fr) st' hA ho (.own (k:=q) (n:=l.length) (ts:=l.flatMap (aM τ)) (aV hσ hon hx) (by rw[dI hq];rfl)) (MU (aV hσ hon hy) hl) (by rw[sU]) ⟨hb.1,by simp only[maxLen];omega⟩;unfold WA;simp only[iH,vF,lH,rP,XO.A,aL,List.flatMap_append];exact this
 .obtain⟨hb,h⟩:=eL h
  refine⟨_,_,h,rfl,λhon=>?_⟩;unfold bE at hb;have hb:=bK hb;have:=aH9 (P:=c.P) (fr:=fr) st hA ho (.nil (aV hσ hon hx)) (MU (aV hσ hon hy) hl) (by rw[sU]) ⟨by rw[eC];exact hb.1,by simp only[maxLen];omega⟩;rw[eC,k7]at this;exact this
theorem xZ(hσ:σ.Ok κ){x:Option Operand}{f:Option Int->O}(h:σ.nA x f=some r):∃v,f v=some r/\(σ.On->pS σ.den x v):=by
 unfold Vw.nA at h;split at h
 .exact⟨none,h,λ_=>trivial⟩
 .obtain⟨w,hw,h⟩:=bF h
  obtain⟨ik,n,hn,h⟩:=B7 h;exact⟨some n,h,λhon=>⟨ik,by rw[aV hσ hon hw,hn]⟩⟩
theorem a1F(hσ:σ.Ok κ){t e:TypeId}{x:Operand}{lo hi:Option Operand}{v:X}{τ:Ty}{l:List τ.V}{a b:Option Int}(ho:o.op = .slice t x lo hi none)(hx:σ.ev x=some v)(ha:σ.On->pS σ.den lo a)(hb:σ.On->pS σ.den hi b)(hu:c.P.underlying t=some (.slice e))(hm:fP c.P e=some τ.size)(hg:σ.kI v = .e (.sl τ) l)
    (h:Wi τ (σ.g.map (·.2)) l a b (λr=>k r [])=some r):dG c σ fr o k r:=by
 unfold Wi at h;obtain⟨h,hok⟩:=pK h;refine⟨_,_,h,rfl,λhon=>?_⟩;have hw:=yN σ v;rw[hg]at hw;have:=ok_slice (P:=c.P) (fr:=fr) hu hm ho (aV hσ hon hx) (n:=l.length) (ts:=l.flatMap (aM τ)) hw (sU l) (ha hon) (hb hon) (hok hon.g);rw[BN (λx=>dJ τ x),Nc (λx=>dJ τ x),<-Wh]at this;have hlen:fD l.length b-eI a=(iE l a b).length:=by
  obtain⟨g1,g2,_,_⟩:=MW (hok hon.g);rw[Wh,lI,iT];omega
 rw[hlen]at this;exact this
theorem aI9(hσ:σ.Ok κ){t:TypeId}{x:Operand}{lo hi:Option Operand}{v:X}(ho:o.op = .slice t x lo hi none)(hx:σ.ev x=some v)(h:σ.nA lo (λlo=>σ.nA hi λhi=>MV c σ t v lo hi λr=>k r [])=some r):dG c σ fr o k r:=by
 obtain⟨a,h,ha⟩:=xZ hσ h;obtain⟨b,h,hb⟩:=xZ hσ h;unfold MV at h;split at h
 .rename_i e τ l hu hg
  split at h
  .rename_i m hm
   split at h
   .rename_i hs
    have hs:=bB hs;subst hs;exact a1F hσ ho hx ha hb hu hm hg h
   .cases h
  .cases h
 .rename_i l hu hg
  unfold aGb at h;obtain⟨h,hok⟩:=pK h;refine⟨_,_,h,rfl,λhon=>?_⟩;have hv:v = .e .tx l:=by
   unfold Vw.kI at hg;split at hg
   .split at hg
    .cases hg
    .cases hg
   .exact hg
  subst hv;exact a26 (P:=c.P) (fr:=fr) hu ho (aV hσ hon hx) (ha hon) (hb hon) (hok hon.g)
 .cases h
theorem Y8:∀(l:List (Ty.V .u8))(j:Nat)(x:Ty.V .u8),l[j]?=some x->(l.flatMap (aM .u8))[j]?=some (.v (.int .u8 (UInt8.toNat x:Int)))
 |[],j,x,h=>by simp at h
 |u::l,0,x,h=>by cases h;rfl
 |u::l,j+1,x,h=>Y8 l j x (by simpa using h)
theorem a7L{P:Program}{s:St}{n:Int}(h:aW P o s fr (.t (.v (.int .u8 (IntKind.u8.wrap n)))) []):aW P o s fr (X.e .u8 (kP n)).D []:=by
 rw[<-a06]at h;exact h
theorem a7K{P:Program}{s:St}{u:UInt8}(h:aW P o s fr (.t (.v (.int .u8 (IntKind.u8.wrap (u.toNat:Int))))) []):aW P o s fr (X.e .u8 u).D []:=by
 have h8:IntKind.u8.wrap (u.toNat:Int)=(u.toNat:Int):=by
  rw[Je];have:=u.toNat_lt;omega
 rw[h8]at h;exact h
theorem a5P(hσ:σ.Ok κ){s d e:TypeId}{x:Operand}{l:List UInt8}(hs:c.P.underlying s=some .string)(hd:c.P.underlying d=some (.slice e))(he:c.P.underlying e=some (.int .u8))(ho:o.op = .convert s d x)(hx:σ.ev x=some (.e .tx l))(h:k (.e (.sl .u8) l) []=some r):dG c σ fr o k r:=
 ⟨_,_,h,rfl,λhon=>by
  intro E σ₁ a w hT hHH h100 hf hdst ⟨ν,G,I⟩ Q;have hv:a.eval x = .string ⟨⟨l⟩⟩:=bY (I.ev (St.dE hT (show σ.den.ev x=some (.t (.v (.string ⟨⟨l⟩⟩)))from aV hσ hon hx)));have hc:=Lib.run_convert_string_bytes (P:=c.P) w s d e ⟨⟨l⟩⟩ hs hd he;have hrun:(execOp a.eval o).run c.P w = .ok (.value (.slice (some ⟨w.heap.size,0,none⟩) l.length (grownCap w l.length 0 e))) (Lib.bytesWorld w e ⟨⟨l⟩⟩):=by
   unfold execOp;rw[ho];simp only[hv];simp only[Sem.run_bind,hc];rfl
  have hA:cU w (Lib.bytesWorld w e ⟨⟨l⟩⟩):=⟨rfl,rfl,rfl,by rw[Lib.bytesWorld_size];omega,λj hj=>Lib.bytesWorld_at_old w e _ j hj⟩;unfold Oper.wp;rw[hrun,Oper.upon_value];refine⟨put_defers ..,ν,λb=>if b<w.heap.size then G b else l.length,(I.iG hA (λb hb=>aI hb)).put ?_ hdst fr a rfl⟩;refine .t ?_;show TR _ _ _ (.sl l.length (bR (aM .u8) l));cases hl:l with
  |nil=>exact .nil (λh=>by cases h)
  |cons b0 l0=>
    rw[<-hl];refine .sl w.heap.size 0 l.length _ (l.map λb=>Value.int .u8 (b.toNat:Int)) _ (by rw[cP];exact((sU (τ:=.u8) l).trans (lP _)).symm) (λi u hu=>?_) (grownCap_ge _ _ _ _) (λi u t hu ht=>?_)
    .rw[cZ]at hu
     obtain⟨b,hb,rfl⟩:=cO.1 hu;have hi:=(bZ.1 hb).1;refine⟨?_,by show 0+i<if w.heap.size<w.heap.size then G w.heap.size else l.length;rw[aE (by omega),eC];exact hi⟩;rw[eC];have:=Lib.bytesWorld_cell w e ⟨⟨l⟩⟩ i hi;rw[this];have hb':l.getD i 0=b:=by rw[List.getD_eq_getElem?_getD,hb];rfl
     show some (Value.int .u8 (((l.getD i 0).toNat:Nat):Int))=_;rw[hb']
    .rw[cZ]at hu
     obtain⟨b,hb,rfl⟩:=cO.1 hu;have:=Y8 l i b hb;rw[this]at ht;cases ht;exact .v _ rfl⟩
theorem a5r(hσ:σ.Ok κ){s d e:TypeId}{x:Operand}{v:X}{l:List UInt8}(hs:c.P.underlying s=some (.slice e))(he:c.P.underlying e=some (.int .u8))(hd:c.P.underlying d=some .string)(ho:o.op = .convert s d x)(hx:σ.ev x=some v)(hl:σ.src .u8 v=some l)(h:k (.e .tx l) []=some r):dG c σ fr o k r:=
 ⟨_,_,h,rfl,λhon=>by
  intro E σ₁ a w hT hHH h100 hf hdst ⟨ν,G,I⟩ Q;obtain⟨ax,cp,us,hxv,hul,hrd,hnone,htr⟩:=(MU (aV hσ hon hx) hl).rd hT hHH I;have hc:(convert s d (a.eval x)).run c.P w = .ok (.string ⟨⟨l⟩⟩) w:=by
   rw[hxv];cases ax with
   |none=>
     have hl0:l=[]:=AH (hnone rfl).2;subst hl0;simp[convert,run_underlying hs,run_underlying hd,run_underlying he,Conv.bytesToString];rfl
   |some ad=>
     refine run_convert_bytes_back (P:=c.P) w s d e ad cp l hs he hd (λj hj=>?_);have hj':=Y8 l j l[j] (dC hj);have hlen:(bR (aM .u8) l).length=l.length:=(sU (τ:=.u8) l).trans (lP _);have hju:j<us.length:=by rw[hul];exact hlen ▸ hj
     obtain⟨ad',e1,e2⟩:=hrd j us[j] (dC hju);cases e1;have ht:=htr j us[j] _ (dC hju) hj';rw[e2];generalize us[j]=u at ht;cases ht with
     |v _ _=>rfl
  unfold Oper.wp;have he:(execOp a.eval o).run c.P w = .ok (.value (.string ⟨⟨l⟩⟩)) w:=by
   unfold execOp;rw[ho];simp[hc]
  rw[he,Oper.upon_value];exact⟨put_defers ..,ν,G,I.put (.t (.v _ rfl)) hdst fr a rfl⟩⟩
theorem a6o(m:Int)(h0:0<=m)(h1:m<128):Utf8.encode m=⟨⟨[kP m]⟩⟩:=by
 have hv:Utf8.valid m=true:=by rw[validRune_eq];unfold validRune;rw[aX];exact .inl ⟨h0,by omega⟩
 have e:m.toNat<128:=by omega
 unfold Utf8.encode;simp only[hv,iO,e];unfold kP;rw[show m%256=m by omega]
theorem a1X{m:Int}{k:X->O}{r:aF}(h:aGm m k=some r):(0<=m/\m<128)/\k (.e .tx ([kP m]:List UInt8))=some r:=by
 obtain⟨hc,h⟩:=eL h;exact⟨bK hc,h⟩
theorem a5o(hσ:σ.Ok κ){s d:TypeId}{x:Operand}{v:X}(ho:o.op = .convert s d x)(hx:σ.ev x=some v)(h:Nt c.P s d v (λr=>k r [])=some r):dG c σ fr o k r:=by
 unfold Nt at h;split at h
 .rename_i hs hd
  refine⟨_,_,h,rfl,λhon=>?_⟩;exact a7L (Mr (P:=c.P) (fr:=fr) ho (by rw[hs];rfl) hd (aV hσ hon hx))
 .rename_i hs hd
  refine⟨_,_,h,rfl,λhon=>?_⟩;exact a7K (Mr (P:=c.P) (fr:=fr) ho (by rw[hs];rfl) hd (aV hσ hon hx))
 .rename_i hs hd
  refine⟨_,_,h,rfl,λhon=>?_⟩;exact Mr (P:=c.P) (fr:=fr) ho (by rw[hs];rfl) hd (aV hσ hon hx)
 .rename_i hs hd
  refine⟨_,_,h,rfl,λhon=>?_⟩;exact Mr (P:=c.P) (fr:=fr) ho (by rw[hs];rfl) hd (aV hσ hon hx)
 .rename_i k0 m hs hd
  obtain⟨hc,h⟩:=a1X h;refine⟨_,_,h,rfl,λhon=>?_⟩;have:=a3Y (P:=c.P) (fr:=fr) ho (by rw[hs];rfl) hd (aV hσ hon hx);rw[a6o m hc.1 hc.2]at this;exact this
 .cases h
theorem a5e(hσ:σ.Ok κ){t:TypeId}{x:Operand}{v:X}(ho:o.op = .call { callee:=.builtin .len,args:=#[x],argTypes:=#[t] })(hx:σ.ev x=some v)(h:Xv c σ t v (λr=>k r [])=some r):dG c σ fr o k r:=by
 unfold Xv at h;split at h
 .rename_i v' e hu
  unfold Vw.len at h;split at h
  .split at h
   .rename_i q e' τ l st hq
    refine⟨_,_,h,rfl,λhon=>?_⟩;exact XV (P:=c.P) (fr:=fr) hu ho rfl (.own (aV hσ hon hx) (by rw[dI hq];rfl))
   .rename_i q e' e1 τ l hq
    refine⟨_,_,h,rfl,λhon=>?_⟩;have:=a3H (P:=c.P) (fr:=fr) hu ho rfl (aV hσ hon hx) (dI hq);rw[cP]at this;exact this
   .rename_i q e' e1 κ' ρ l ln hq
    refine⟨_,_,h,rfl,λhon=>?_⟩;exact a3F (P:=c.P) (fr:=fr) hu ho rfl (aV hσ hon hx) (dI hq)
   .cases h
  .split at h
   .rename_i q i e' e1 τ l hq
    obtain⟨y,hy,h⟩:=oX h;refine⟨_,_,h,rfl,λhon=>?_⟩;exact a3G (P:=c.P) (fr:=fr) hu ho rfl (aV hσ hon hx) (dI hq) (I9 hy)
   .cases h
  .refine⟨_,_,h,rfl,λhon=>?_⟩
   exact XV (P:=c.P) (fr:=fr) hu ho rfl (.t (aV hσ hon hx))
  .refine⟨_,_,h,rfl,λhon=>?_⟩
   exact XV (P:=c.P) (fr:=fr) hu ho rfl (.nil (aV hσ hon hx))
  .cases h
 .rename_i l hu
  refine⟨_,_,h,rfl,λhon=>?_⟩;exact a3E (P:=c.P) (fr:=fr) hu ho rfl (aV hσ hon hx)
 .cases h
theorem aJ8(hσ:σ.Ok κ){b:Operand}{j:Nat}{q:Bool}(h:σ.ZD b=some (j,q))(hon:σ.On):σ.den.ev b=some (B q)/\κ (2*j+1)=q/\κ (2*j)=!q:=by
 unfold Vw.ZD at h;split at h
 .rename_i t
  split at h
  .rename_i ht
   cases h;exact⟨sV ht,hσ.sP _ _ ht⟩
  .rename_i key cc j' q' ht
   split at h
   .rename_i key' c' hg
    split at h
    .rename_i hb
     have hb:=bB hb;subst hb;cases h;obtain⟨h1,h2,h3⟩:=hσ.sP _ _ ht;have hc:cc=true:=h1.trans ((hσ.g _ _ hg).symm.trans (hon _ _ hg));subst hc;exact⟨sV ht,by simpa using h2,by simpa using h3⟩
    .cases h
   .cases h
  .cases h
 .cases h
theorem aJA(hσ:σ.Ok κ){key:Nat}{x:Operand}{v:X}(h:σ.EH key x=some v):v.pl=true/\(σ.On->κ key=true->σ.den.ev x=some v.D):=by
 unfold Vw.EH at h;split at h
 .rename_i t
  split at h
  .rename_i key' cc y ht
   split at h
   .rename_i hb
    have hb:=bB hb;subst hb;obtain⟨h1,h2⟩:=hσ.sP _ _ ht;have hD:κ key'=true->σ.den.ev (.tmp t)=some y.D:=λhk=>by
     have e:σ.den.ev (.tmp t)=some (X.eX key' cc y).D:=sV ht;rw[hk]at h1;subst h1;exact e
    split at h
    .cases h
     exact⟨rfl,λ_ hk=>hD hk⟩
    .cases h
    .rename_i n1 n2
     cases h;refine⟨?_,λ_ hk=>hD hk⟩;cases v with
     |bit j q=>exact absurd rfl (n1 j q)
     |eX a b c=>exact absurd rfl (n2 a b c)
     |_=>rfl
   .refine⟨WR h,λhon hk=>?_⟩
    cases cc with
    |true => 
      have e:σ.den.ev (.tmp t)=some (X.eX key' true y).D:=sV ht;rw[e,WS (hσ.sP t _ ht) hσ.g hon h]
    |false=>
      exfalso;unfold vX at h;split at h
      .rename_i he;cases he
      .rename_i key2 c2 y2 he
       cases he;split at h
       .rename_i key3 c3 hg
        split at h
        .rename_i hb
         have hb:=bB hb;subst hb;have:=(hσ.sP _ _ ht).1;rw[<-hσ.g _ _ hg,hon _ _ hg]at this;cases this
        .cases h
       .cases h
      .rename_i n1 n2
       exact n2 _ _ _ rfl
  .rename_i y hy ht
   refine⟨WR h,λhon hk=>?_⟩;have e:σ.den.ev (.tmp t)=some y.D:=sV ht;rw[e,WS (hσ.sP t y ht) hσ.g hon h]
  .cases h
 .exact⟨yT h,λhon _=>aV hσ hon h⟩
theorem a5W(hσ:σ.Ok κ){b x y:Operand}(ho:o.op = .pick b x y)(h:XG σ b x y (λr=>k r [])=some r):dG c σ fr o k r:=by
 unfold XG at h;split at h
 .rename_i j q hbit
  obtain⟨v,hv,h⟩:=bF h;obtain⟨v',hv',h⟩:=bF h;obtain⟨p1,d1⟩:=aJA hσ hv;obtain⟨p2,d2⟩:=aJA hσ hv';have hT:∀d,q=true->(σ.On->v.D=d)->σ.On->aW c.P o σ.den fr d []:=λd hq hd hon=>by
   obtain⟨h1,h2,h3⟩:=aJ8 hσ hbit hon;subst hq;rw[<-hd hon];exact XR ho h1 (d1 hon h2)
  have hF:∀d,q=false->(σ.On->v'.D=d)->σ.On->aW c.P o σ.den fr d []:=λd hq hd hon=>by
   obtain⟨h1,h2,h3⟩:=aJ8 hσ hbit hon;subst hq;rw[<-hd hon];exact XU ho h1 (d2 hon h3)
  have hbr:br q (k v []) (k v' [])=some r->dG c σ fr o k r:=λh=>by
   rcases wJ h with⟨hq,h⟩|⟨hq,h⟩
   .exact⟨_,_,h,p1,hT _ hq (λ_=>rfl)⟩
   .exact⟨_,_,h,p2,hF _ hq (λ_=>rfl)⟩
  split at h
  .rename_i a a' h0
   split at h
   .unfold aJs at h
    refine⟨_,_,h,rfl,λhon=>?_⟩;cases q with
    |true=>exact hT _ rfl (λ_=>rfl) hon
    |false=>
      refine hF _ rfl (λ_=>?_) hon;have:(X.e .bo false) = .e .bo a':=by
       have e:σ.EH (2*j) (.const (.bool false))=some (.e .bo false):=rfl;rw[e]at hv';exact gZ hv'
      exact aR X.D this.symm
   .unfold orX at h
    refine⟨_,_,h,rfl,λhon=>?_⟩;cases q with
    |true=>
      refine hT _ rfl (λ_=>?_) hon;have:(X.e .bo true) = .e .bo a:=by
       have e:σ.EH (2*j+1) (.const (.bool true))=some (.e .bo true):=rfl;rw[e]at hv;exact gZ hv
      exact aR X.D this.symm
    |false=>exact hF _ rfl (λ_=>rfl) hon
   .exact hbr h
  .exact hbr h
 .obtain⟨v,hv,h⟩:=bF h
  split at h
  .rename_i q
   rcases wJ h with⟨hq,h'⟩|⟨hq,h'⟩
   .obtain⟨w,hw,h''⟩:=bF h'
    subst hq;exact⟨_,_,h'',yT hw,λhon=>XR ho (aV hσ hon hv) (aV hσ hon hw)⟩
   .obtain⟨w,hw,h''⟩:=bF h'
    subst hq;exact⟨_,_,h'',yT hw,λhon=>XU ho (aV hσ hon hv) (aV hσ hon hw)⟩
  .obtain⟨w,hw,h''⟩:=bF h
   exact⟨_,_,h'',yT hw,λhon=>XR ho (aV hσ hon hv) (aV hσ hon hw)⟩
  .obtain⟨w,hw,h''⟩:=bF h
   exact⟨_,_,h'',yT hw,λhon=>XU ho (aV hσ hon hv) (aV hσ hon hw)⟩
  .cases h
end
end Go.Ax
/- Operations: calls; every operation. -/
namespace Go.Ax
open aA
open Go.RowKit Go.Ab
theorem a1m{f:Nat->Option Nat}{x y:X}(h:gX f x=some y):y.pl=true:=by
 cases x <;> simp only[gX]at h <;> first|(split at h <;> cases h <;> rfl)|(cases h <;> rfl)|cases h
theorem aGz{f:Nat->Option Nat}{H:Nat->Option XO}:∀{al:List (Nat×Nat)}{H':XH},sE f H al=some H'->H'.map (·.1)=al.map (·.1)
 |[],H',h=>by cases h;rfl
 |(new,q)::l,H',h=>by
   unfold sE at h;split at h
   .split at h
    .split at h
     .rename_i r hr
      cases h;rw[iH,iH,aGz hr]
     .cases h
    .cases h
   .cases h
theorem aJw{σ:Vw}{nm':Nat->Bool}{ρ:Nat->Nat}{f:Nat->Option Nat}(hf:∀k k',f k=some k'->nm' k'=true/\k=ρ k'):∀{al:List (Nat×Nat)}{H':XH},(∀p∈al,ρ p.1=p.2)->sE f σ.H al=some H'->Bo false σ.den nm' ρ (HA H')
 |[],H',_,h=>by cases h;exact .nil
 |(new,q)::l,H',hp,h=>by
   unfold sE at h;split at h
   .rename_i o ho
    split at h
    .rename_i o' ho'
     split at h
     .rename_i r hr
      cases h;have e:=hp (new,q) (iB ..);simp only at e;exact .cons (by rw[e];exact dI ho) (IS hf ho') (aJw hf (λp hm=>hp p (fR _ hm)) hr)
     .cases h
    .cases h
   .cases h
theorem aJv{H2:List (Nat×aO)}{nm':Nat->Bool}{ρ:Nat->Nat}{f:Nat->Option Nat}(hf:∀k k',f k=some k'->nm' k'=true/\k=ρ k'){R:Wr}(hR:rW H2 nm' ρ R):∀{l:XH}{W:Wx},(∀p∈l,Ab.look p.1 H2=some p.2.A)->zG f l=some W->rW H2 nm' ρ (WA W++R)
 |[],W,_,h=>by cases h;exact hR
 |(k,o)::l,W,hp,h=>by
   unfold zG at h;split at h
   .rename_i k' hk
    split at h
    .rename_i o' ho'
     split at h
     .rename_i r hr
      cases h;have e:=hp (k,o) (iB ..);simp only at e;have:=aJv hf hR (λp hm=>hp p (fR _ hm)) hr;exact .cons (by rw[<-(hf k k' hk).2];exact e) (IS hf ho') this
     .cases h
    .cases h
   .cases h
theorem ZX{H2:List (Nat×aO)}{nm':Nat->Bool}{ρ:Nat->Nat}{H':XH}:∀(rn:List (Nat×Nat)),rW H2 nm' ρ (WA (gone H' rn))
 |[]=>.nil
 |(new,q)::l=>by
   unfold gone;split
   .exact ZX l
   .exact .gone (ZX l)
theorem YR{H':XH}{new q:Nat}:∀{rn:List (Nat×Nat)},(new,q)∈rn->lk new H'=none->(q,none)∈gone H' rn
 |(n,q')::l,h,hn=>by
   unfold gone;rcases eZ.1 h with e|h
   .cases e
    rw[hn];exact iB ..
   .split
    .exact YR h hn
    .exact fR _ (YR h hn)
theorem YS{H':XH}{q:Nat}{x:Option XO}:∀{rn:List (Nat×Nat)},(q,x)∈gone H' rn->∃new,(new,q)∈rn
 |(n,q')::l,h=>by
   unfold gone at h;split at h
   .obtain⟨new,hm⟩:=YS h
    exact⟨new,fR _ hm⟩
   .rcases eZ.1 h with e|h
    .cases e;exact⟨n,iB ..⟩
    .obtain⟨new,hm⟩:=YS h
     exact⟨new,fR _ hm⟩
theorem aJd{f:Nat->Option Nat}{k':Nat}{x:Option XO}:∀{l:XH}{W:Wx},zG f l=some W->(k',x)∈W->∃k,f k=some k'
 |[],W,h,hm=>by cases h;cases hm
 |(k,o)::l,W,h,hm=>by
   unfold zG at h;split at h
   .rename_i k2 hk
    split at h
    .split at h
     .rename_i r hr
      cases h;rcases eZ.1 hm with e|hm
      .cases e;exact⟨k,hk⟩
      .exact aJd hr hm
     .cases h
    .cases h
   .cases h
theorem aJc{f:Nat->Option Nat}{k k':Nat}(hk:f k=some k'):∀{l:XH}{W:Wx}{o:XO},zG f l=some W->lk k l=some o->∃x,(k',x)∈W
 |[],W,o,h,hm=>by cases hm
 |(k1,o1)::l,W,o,h,hm=>by
   unfold zG at h;split at h
   .rename_i k2 hk2
    split at h
    .split at h
     .rename_i r hr
      cases h;unfold lk at hm;split at hm
      .rename_i he
       have:=bB he;subst this;rw[hk]at hk2;cases hk2;exact⟨_,iB ..⟩
      .obtain⟨x,hx⟩:=aJc hk hr hm
       exact⟨x,fR _ hx⟩
     .cases h
    .cases h
   .cases h
structure RbF(fr:Nat)(rn:List (Nat×Nat)):Prop where
 lZ:∀new q,(new,q)∈rn->50<=new/\new<100/\¬ (fr<=q/\q<fr+8)/\lk new rn=some q
 nd:(rn.map (·.2)).Nodup
theorem a1q{fr:Nat}{rn:List (Nat×Nat)}(h:Wz fr rn=true):RbF fr rn:=by
 unfold Wz at h;rw[aT]at h;refine⟨λnew q hm=>?_,NA h.2⟩;have:=fG.1 h.1 _ hm;simp only[aT,lS]at this;obtain⟨⟨⟨a,b⟩,c⟩,d⟩:=this;have a:=iA a;have b:new<100:=iA b;refine⟨a,b,λ⟨c1,c2⟩=>?_,?_⟩
 .rcases c with c|c
  .have c:q<fr:=iA c
   omega
  .have c:=iA c
   omega
 .split at d
  .rename_i z hz;rw[hz,bB d]
  .cases d
def Ap(p:Nat×Nat):Nat×Nat:=(p.2,p.1)
theorem aHC{fr:Nat}{rn:List (Nat×Nat)}(F:RbF fr rn){new q:Nat}(h:(new,q)∈rn):Ab.look q (rn.map Ap)=some new:=by
 obtain⟨x,hx⟩:=NN (l:=rn.map Ap) (k:=q) (gU.2 ⟨(q,new),gU.2 ⟨_,h,rfl⟩,rfl⟩);obtain⟨p,hp,he⟩:=gU.1 (oR hx);cases he;rw[hx,Mz F.nd h hp]
theorem EG{σ:Vw}{r:aF}:∀{l:List Operand}{k:List X->O},σ.nC l k=some r->∃xs,k xs=some r/\xs.length=l.length/\∀(i:Nat)(x:X),xs[i]?=some x->∃p,l[i]?=some p/\σ.ev p=some x
 |[],k,h=>⟨[],h,rfl,λi p h=>by simp at h⟩
 |x::l,k,h=>by
   unfold Vw.nC at h;obtain⟨y,hy,h⟩:=bF h;obtain⟨xs,h1,h2,h3⟩:=EG h;refine⟨y::xs,h1,by simp[h2],λi p hp=>?_⟩;cases i with
   |zero=>simp at hp;subst hp;exact⟨x,rfl,hy⟩
   |succ i=>exact h3 i p (by simpa using hp)
theorem E3.ok{P:Program}{o:Oper}{σ:St}{fr:Nat}{d:D}{W:Wr}(h:E3 P o σ fr (λ_:Unit=>True) (λ_=>d) (λ_=>W)):aW P o σ fr d W:=λE σ₁ a w h1 h2 h3 h4 h5 h6 Q=>Oper.wp_mono (λ_ _ ⟨q1,_,_,q2⟩=>⟨q1,q2⟩) (h E σ₁ a w h1 h2 h3 h4 h5 h6 Q)
theorem aHp:∀{l:XH},nodupB (l.map (·.1))=true->∀p∈l,lk p.1 l=some p.2
 |[],_,p,hp=>by cases hp
 |(k,o)::l,h,p,hp=>by
   rcases eZ.1 hp with e|hm
   .subst e
    unfold lk;rw[show Nat.beq k k=true from Nat.beq_refl k]
   .have hnd:=NA h
    rw[iH,List.nodup_cons]at hnd;have hne:k≠p.1:=λe=>hnd.1 (gU.2 ⟨p,hm,e.symm⟩)
    unfold lk;rw[qA hne];unfold nodupB at h;simp only[iH]at h;split at h
    .cases h
    .exact aHp h p hm
section
variable{c:Cx}{σ:Vw}{κ:Nat->Bool}{fr:Nat}{o:Oper}{k:X->Wx->O}{r:aF}
def Enters(c:Cx)(σ:Vw)(o:Oper)(f:FuncId)(xs:List X):Prop:=∀(E:Env)(σ₁:St)(ν:Nat->Value)(G:bV)(w:World)(a:Act),(∀t d,σ.den.T t=some d->σ₁.T t=some d)->(∀k o,σ.den.H k=some o->σ₁.H k=some o)->Inv E σ₁ ν G w a.tmps->
 ∃vals:List Value,(execOp a.eval o).run c.P w = .ok (.enter f vals.toArray) w/\vals.length=xs.length/\∀(t:Nat)(x0:X),xs[t]?=some x0->∃u,vals[t]?=some u/\DR ν σ₁.nm w G u x0.D
theorem YT(hG:pQ c.P c.G){f:FuncId}{xs ys:List X}{g:oE}{els:O}(hrun:σ.On->Enters c σ o f xs)(hg:lk f c.G=some g)(hD:eE σ.den.H (xs.map X.D) (ys.map X.D))(h:JJ σ fr g ys els k=some r):els=some r\/dG c σ fr o k r:=by
 unfold JJ at h;obtain⟨rn,hrn⟩:∃rn,X0 50 (reach σ.H 40 (nT ys []) [])=rn:=⟨_,rfl⟩
 simp only[hrn]at h;split at h
 .exact .inl h
 rename_i hrb;have F:=a1q hrb;split at h
 .exact .inl h
 rename_i zs hzs;split at h
 .exact .inl h
 rename_i H' hH';split at h
 case h_2=>exact .inl h
 rename_i cl hres;obtain⟨a0,h',hpre⟩:=a7W h;clear h;obtain⟨res,hres'⟩:∃res,cl.R a0=res:=⟨_,rfl⟩
 rw[hres']at h';split at h'
 case h_2=>cases h'
 rename_i hnd;obtain⟨x,hx,h6⟩:=bF h';clear h';obtain⟨W,hW,h8⟩:=bF h6;clear h6;refine .inr ⟨x,_,h8,a1m hx,λhon=>?_⟩;obtain⟨hname,hE⟩:=hG f g hg;have hDoes:=hE zs H' cl hres a0 (hpre hon.g);rw[hres']at hDoes;have hf1:∀k k',old rn k=some k'->decide (k'<100)=true/\k=cG rn k':=λk k' hk=>by
  obtain⟨_,b,_,d⟩:=F.lZ _ _ (I5 hk);exact⟨aX b,(Mb d).symm⟩
 have hf2:∀k k',B5 fr rn k=some k'->kY fr (rn.map Ap) k'=true/\k=back fr (rn.map Ap) k':=λk k' hk=>by
  unfold B5 at hk;split at hk
  .rename_i hle
   have hle:=iA hle;split at hk
   .rename_i hlt
    have hlt:k<108:=iA hlt;cases hk;refine⟨?_,?_⟩
    .unfold kY
     rw[lS,aT];exact .inl ⟨aX (by omega),aX (by omega)⟩
    .unfold back
     rw[aI ⟨by omega,by omega⟩];omega
   .cases hk
  .have hm:=sL hk
   obtain⟨_,_,c3,_⟩:=F.lZ _ _ hm;have hlook:=aHC F hm;refine⟨?_,?_⟩
   .unfold kY
    rw[lS,hlook];exact .inr rfl
   .unfold back
    rw[aE c3];unfold cG;rw[hlook]
 have hkeys:(HA H').map (·.1)=rn.map (·.1):=by
  rw[<-aGz hH'];unfold HA;rw[qN];rfl
 have hkey:∀{p:Nat×aO},p∈HA H'->∃q,(p.1,q)∈rn:=λ{p} hp=>by
  have:p.1∈rn.map (·.1):=hkeys ▸ gU.2 ⟨p,hp,rfl⟩;obtain⟨⟨a,b⟩,hm,e⟩:=gU.1 this;simp only at e;subst e;exact⟨b,hm⟩
 have hkey':∀{new q:Nat},(new,q)∈rn->∃p∈HA H',p.1=new:=λ{new q} hm=>by
  have:new∈(HA H').map (·.1):=hkeys ▸ gU.2 ⟨_,hm,rfl⟩;obtain⟨p,hp,e⟩:=gU.1 this;exact⟨p,hp,e⟩
 have hrnm:∀{new q:Nat},(new,q)∈rn->cG rn new=q:=λhm=>Mb (F.lZ _ _ hm).2.2.2
 refine E3.ok (a30 (ds:=zs.map X.D) (H:=HA H') (r':=λ_=>res.1.D) (H'':=λ_=>HA res.2) rn (rn.map Ap) ?_ hDoes.n (aJw hf1 (λp hp=>hrnm hp) hH') (λ_ _=>IQ hf2 _ _ hx) (λ_ _=>?_) (λ_ _=>?_) ?_)
 .intro E σ₁ ν G w a hT hHH I
  obtain⟨vals,hr,hvl,hval⟩:=hrun hon E σ₁ ν G w a hT hHH I;have hL:=(Aw hf1 ys zs hzs (H:=σ.den.H)).get;rw[hY,hY]at hL;have hlen:xs.length=zs.length:=by
   have e1:=hD.len;have e2:=hL.1;simp only[cP]at e1 e2;omega
  refine⟨vals,hr,by rw[cP];omega,λt d' ht=>?_⟩;have htl:t<zs.length:=by have:=(bZ.1 ht).1;simpa using this
  obtain⟨dy,hdy⟩:∃dy,(ys.map X.D)[t]?=some dy:=⟨_,dC (by rw[hL.1,cP];exact htl)⟩
  obtain⟨d0,hd0,hwk⟩:=hD.get t dy hdy;have hle:=hL.2 t dy d' hdy ht;rw[cZ]at hd0;obtain⟨x0,hx0,rfl⟩:=cO.1 hd0;obtain⟨u,hu,hdr⟩:=hval t x0 hx0;exact⟨u,dy,hu,hwk E σ₁ ν G w a.tmps hHH I u hdr,hle⟩
 .have hlk:∀p∈res.2,Ab.look p.1 (HA res.2)=some p.2.A:=λp hp=>by
   rw[yG,aHp hnd p hp];rfl
  have:=aJv hf2 (ZX (H2:=HA res.2) (nm':=kY fr (rn.map Ap)) (ρ:=back fr (rn.map Ap)) (H':=res.2) rn) hlk hW;unfold WA at this ⊢;rw[gH];exact this
 .unfold Ny
  rw[aT];refine⟨fG.2 λp hp=>?_,fG.2 λp hp=>?_⟩
  .obtain⟨q,hm⟩:=hkey hp
   rw[hrnm hm];have hq:∃x,(q,x)∈W++gone res.2 rn:=by
    cases hlk:lk p.1 res.2 with
    |none=>exact⟨none,List.mem_append_right _ (YR hm hlk)⟩
    |some o=>
      obtain⟨_,b,_,d⟩:=F.lZ _ _ hm;have hbk:B5 fr rn p.1=some q:=by
       unfold B5;rw[show Nat.ble 100 p.1=false by
        cases hble:Nat.ble 100 p.1 with
        |false=>rfl
        |true=>have:=iA hble;omega]
       exact d
      obtain⟨x,hx⟩:=aJc hbk hW hlk;exact⟨x,List.mem_append_left _ hx⟩
   obtain⟨x,hx⟩:=hq;obtain⟨y,hy⟩:=NN (l:=WA (W++gone res.2 rn)) (k:=q) (gU.2 ⟨(q,x.map XO.A),gU.2 ⟨_,hx,rfl⟩,rfl⟩);rw[hy];rfl
  .obtain⟨⟨q,x⟩,hm,rfl⟩:=gU.1 hp
   rw[lS];have hin:(∃new,(new,q)∈rn)->(HA H').any (λz=>cG rn z.1 == q)=true:=λ⟨new,hn⟩=>by
    obtain⟨p,hp,e⟩:=hkey' hn;exact vH.2 ⟨p,hp,by rw[e,hrnm hn];exact beq_self_eq_true _⟩
   rcases List.mem_append.1 hm with hm|hm
   .obtain⟨k0,hk0⟩:=aJd hW hm
    unfold B5 at hk0;split at hk0
    .rename_i hle
     have hle:=iA hle;split at hk0
     .rename_i hlt
      have hlt:k0<108:=iA hlt;cases hk0;left;rw[aT];exact⟨aX (Nat.le_add_right ..),aX (by simp only;omega)⟩
     .cases hk0
    .exact .inr (hin ⟨k0,sL hk0⟩)
   .exact .inr (hin (YS hm))
 .unfold ES
  simp only[aT];refine⟨⟨⟨fG.2 λp hp=>?_,aX ?_⟩,fG.2 λp hp=>?_⟩,fG.2 λp hp=>?_⟩
  .obtain⟨q,hm⟩:=hkey hp
   obtain⟨a,b,_,_⟩:=F.lZ _ _ hm;rw[aT];exact⟨aX a,aX b⟩
  .have:(HA H').map (λp=>cG rn p.1)=rn.map (·.2):=by
    have e:(HA H').map (λp=>cG rn p.1)=((HA H').map (·.1)).map (cG rn):=by rw[qN];rfl
    rw[e,hkeys,qN];exact a9N λp hp=>hrnm hp
   rw[this];exact F.nd
  .obtain⟨q,hm⟩:=hkey hp
   rw[hrnm hm,aHC F hm];exact beq_self_eq_true _
  .obtain⟨⟨new,q⟩,hm,rfl⟩:=gU.1 hp
   obtain⟨p,hp',e⟩:=hkey' hm;refine vH.2 ⟨p,hp',?_⟩;rw[aT,e,hrnm hm];exact⟨beq_self_eq_true _,beq_self_eq_true _⟩
theorem aJC(hσ:σ.Ok κ){fo:Operand}{args:Array Operand}{tys:Array TypeId}{f f':FuncId}{caps asL:List X}{fn:Func}{code:Code}(ho:o.op = .call { callee:=.value fo,args:=args,argTypes:=tys })(hfo:σ.ev fo=some (.fn f' caps))(hl:asL.length=args.toList.length)
    (hev : ∀ (i : Nat) (x : X), asL[i]? = some x → ∃ p, args.toList[i]? = some p ∧ σ.ev p = some x) (hfn : c.P.funcs[f]? = some fn) (hname' : fn.name ≠ "runtime.NumGoroutine") (hb : fn.body = some code) {ord : {α : Type} → List α → List α → List α} (hord : (∀ (vs : Array Value), uU f' vs = .func (.func f) #[] vs) ∧ (∀ {α : Type} (x y : List α), ord x y = x ++ y) ∨ (∀ (vs : Array Value), uU f' vs = .func (.func f) vs #[]) ∧ ∀ {α : Type} (x y : List α), ord x y = y ++ x) (hon : σ.On) : Enters c σ o f (ord asL caps) := by
 intro E σ₁ ν G w a hT hHH I;have hfv:=I.ev (St.dE hT (aV hσ hon hfo));obtain⟨v,hv⟩:∃v,a.eval fo=v:=⟨_,rfl⟩
 rw[hv]at hfv;unfold X.D at hfv;cases hfv with
 | @fn _ vs _ hvl hvd=>
   have hvl':vs.size=caps.length:=by rw[hvl,hY,cP]
   have part:∀(t:Nat)(x0:X),asL[t]?=some x0->∃u,(args.toList.map a.eval)[t]?=some u/\DR ν σ₁.nm w G u x0.D:=λt x0 hx0=>by
    obtain⟨p,hp,hpv⟩:=hev t x0 hx0;exact⟨a.eval p,by rw[cZ,hp];rfl,I.ev (St.dE hT (aV hσ hon hpv))⟩
   have part':∀(t:Nat)(x0:X),caps[t]?=some x0->∃u,vs.toList[t]?=some u/\DR ν σ₁.nm w G u x0.D:=λt x0 hx0=>by
    have hi:t<vs.size:=by rw[hvl'];exact(bZ.1 hx0).1
    exact⟨vs[t],by rw[Array.getElem?_toList,kL hi],hvd _ _ _ (kL hi) (by rw[hY,cZ,hx0];rfl)⟩
   have app:∀(us us':List Value)(xs xs':List X),us.length=xs.length->(∀(t:Nat)(x0:X),xs[t]?=some x0->∃u,us[t]?=some u/\DR ν σ₁.nm w G u x0.D)->(∀(t:Nat)(x0:X),xs'[t]?=some x0->∃u,us'[t]?=some u/\DR ν σ₁.nm w G u x0.D)->
       ∀(t:Nat)(x0:X),(xs++xs')[t]?=some x0->∃u,(us++us')[t]?=some u/\DR ν σ₁.nm w G u x0.D:=λus us' xs xs' hlen h1 h2 t x0 hx0=>by
    by_cases hlt:t<xs.length
    .rw[dV hlt]at hx0
     rw[dV (by omega)];exact h1 t x0 hx0
    .rw[dN (by omega)]at hx0
     rw[dN (by omega),hlen];exact h2 _ x0 hx0
   have ha:(args.toList.map a.eval).length=asL.length:=by rw[cP,hl]
   have hc:vs.toList.length=caps.length:=by rw[Array.length_toList,hvl']
   rcases hord with⟨e,eo⟩|⟨e,eo⟩
   .rw[e]at hv
    rw[eo];refine⟨args.toList.map a.eval++vs.toList,?_,by rw[aL,aL,ha,hc],app _ _ _ _ ha part part'⟩;unfold execOp;rw[ho];rw[show(args.toList.map a.eval++vs.toList).toArray=args.map a.eval++vs from by apply wX;simp];simp only[resolve,hv,Deferred.ofValue,invoke,Sem.run_bind,Sem.run_pure,Result.andThen_ok,Array.empty_append];exact M6 hfn hname' (by rw[hb];exact λe=>by cases e) _ w
   .rw[e]at hv
    rw[eo];refine⟨vs.toList++args.toList.map a.eval,?_,by rw[aL,aL,ha,hc],app _ _ _ _ hc part' part⟩;unfold execOp;rw[ho];rw[show(vs.toList++args.toList.map a.eval).toArray=vs++args.map a.eval from by apply wX;simp];simp only[resolve,hv,Deferred.ofValue,invoke,Sem.run_bind,Sem.run_pure,Result.andThen_ok,Array.append_empty];exact M6 hfn hname' (by rw[hb];exact λe=>by cases e) _ w
theorem aIc (hG : pQ c.P c.G) {f : FuncId} {xs ys : List X} {g : oE} {fn : Func} {els : O} (hrun : fn.name ≠ "runtime.NumGoroutine" → σ.On → Enters c σ o f xs) (hg : lk f c.G = some g) (hfn : c.P.funcs[f]? = some fn) (hD : eE σ.den.H (xs.map X.D) (ys.map X.D)) (h : JJ σ fr g ys els k = some r) : els = some r ∨ dG c σ fr o k r := by
 obtain ⟨hname,hE⟩:=hG f g hg;have hname' : fn.name ≠ "runtime.NumGoroutine" := by
  unfold sK at hname;rw[hfn]at hname;simpa using hname
 exact YT hG (hrun hname') hg hD h
theorem aId (hG : pQ c.P c.G) {f : FuncId} {xs : List X} (hrun : ∀ {fn : Func} {code : Code}, c.P.funcs[f]? = some fn → fn.body = some code → fn.name ≠ "runtime.NumGoroutine" → σ.On → Enters c σ o f xs) (h1 : uY c σ fr f xs k = some r) : dG c σ fr o k r := by
 unfold uY at h1;obtain⟨g,hg,h2⟩:=bF h1;clear h1;obtain⟨fn,hfn,h3⟩:=bF h2;clear h2;split at h3
 .cases h3
 rename_i code hb;rcases aIc hG (hrun hfn hb) hg hfn (Nx c σ _ _) h3 with h|h
 .rcases aIc hG (hrun hfn hb) hg hfn eE.refl h with h|h
  .cases h
  .exact h
 .exact h
theorem a5q(hG:pQ c.P c.G)(hσ:σ.Ok κ){fo:Operand}{args:Array Operand}{tys:Array TypeId}{f:FuncId}{caps:List X}(hf:f<1000000)(ho:o.op = .call { callee:=.value fo,args:=args,argTypes:=tys })(hfo:σ.ev fo=some (.fn f caps))(h:σ.nC args.toList (λxs=>uY c σ fr f (xs++caps) k)=some r):dG c σ fr o k r:=by
 obtain⟨asL,h1,hl,hev⟩:=EG h;exact aId hG (λhfn hb hn hon=>aJC hσ ho hfo hl hev hfn hn hb (ord:=λx y=>x++y) (.inl ⟨Na hf,λ_ _=>rfl⟩) hon) h1
theorem a5p(hG:pQ c.P c.G)(hσ:σ.Ok κ){fo:Operand}{args:Array Operand}{tys:Array TypeId}{f:FuncId}{caps:List X}(hf:¬ f<1000000)(ho:o.op = .call { callee:=.value fo,args:=args,argTypes:=tys })(hfo:σ.ev fo=some (.fn f caps))(h:σ.nC args.toList (λxs=>uY c σ fr (f-1000000) (caps++xs) k)=some r):dG c σ fr o k r:=by
 obtain⟨asL,h1,hl,hev⟩:=EG h;exact aId hG (λhfn hb hn hon=>aJC hσ ho hfo hl hev hfn hn hb (ord:=λx y=>y++x) (.inr ⟨Y5 hf,λ_ _=>rfl⟩) hon) h1
theorem aHW{P:Program}{s:St}{t el:TypeId}{x:Operand}{q:Nat}{e:TypeId}{ds:List D}(ho:o.op = .makeInterface t x)(hu:P.underlying t=some (.pointer el))(hx:s.ev x=some (.ref q 0))(hq:s.H q=some (.box e ds)):aW P o s fr (.via q λp v=>v = .iface t p) []:=
 dM λE σ₁ ν G w a hH I hev=>by
  obtain⟨hn,g,cur,h1,_⟩:=I.H q _ (hH q _ hq);have hv:=hev x _ hx;obtain⟨v,he⟩:∃v,a.eval x=v:=⟨_,rfl⟩
  rw[he]at hv;cases hv with
  | @ref _ _ g' hk hg=>
    rw[h1]at hg;have hgg:g=g':=by simpa[aU]using hg
    subst hgg;refine⟨.iface t (ν q),?_,.via hk rfl rfl⟩;unfold execOp;rw[ho];simp[Instr.makeInterface,run_underlying hu,he,h1]
theorem a4C{P:Program}{te:TypeId}{name:String}{f:FuncId}{off:Nat}(h:Dt P te name=some (f,off))(w:World)(g n:Nat):(Go.method (n+1) te (.pointer (some ⟨g,0,none⟩)) name).run P w = .ok (f,.pointer (some ⟨g,off,none⟩)) w:=by
 unfold Dt at h;split at h
 .cases h
 rename_i ti hti;split at h
 .cases h
 rename_i m hm;rw[Array.find?_toList]at hm;unfold Go.method;split at h
 case h_2=>cases h
 rename_i f' hf;split at h
 .rename_i hpath
  split at h
  .rename_i hu
   cases h;simp[typeInfo,hti,hm,hpath,hf,Go.follow,Go.receiverAt,run_underlying hu,Go.Place.get]
  .cases h
 .rename_i s hpath
  split at h
  .rename_i fs hd hus
   split at h
   .rename_i fl hfl
    split at h
    .rename_i hut hit
     split at h
     .cases h
     .rename_i hsz
      cases h;rename_i ti' _;have hsz':¬ ti'.size=0:=hsz;simp[typeInfo,hti,hm,hpath,hf,Go.follow,Go.receiverAt,run_underlying hus,run_underlying hut,Go.Place.get,hfl,hd,asAddr,fieldPlace,sizeOf,hit,aE hsz',Addr.add];exact λh=>h.symm
    .cases h
   .cases h
  .cases h
 .cases h
theorem lC{α:Type}(V:α)(l:Array α):(#[V]++l)[0]?=some V:=by rw[Array.getElem?_append_left (Nat.zero_lt_one)];rfl
theorem a6V{α:Type}(V:α)(l:Array α):(#[V]++l).extract 1=l:=by simp[Array.extract_append]
theorem toA{α β:Type}(V:β)(f:α->β)(l:Array α):(V::l.toList.map f).toArray = #[V]++l.map f:=by simp
theorem a6a(hσ:σ.Ok κ){rv:Operand}{name:String}{args:Array Operand}{tys:Array TypeId}{f:FuncId}{off q te:Nat}{e:TypeId}{xs:List D}{asL:List X}{fn:Func}{code:Code}(ho:o.op = .call { callee:=.invoke rv name,args:=args,argTypes:=tys })(hrv:σ.ev rv=some (.jI q te))(hq:σ.den.H q=some (.box e xs))(hm:Dt c.P te name=some (f,off))(hl:asL.length=args.toList.length)
    (hev : ∀ (i : Nat) (x : X), asL[i]? = some x → ∃ p, args.toList[i]? = some p ∧ σ.ev p = some x) (hfn : c.P.funcs[f]? = some fn) (hname' : fn.name ≠ "runtime.NumGoroutine") (hb : fn.body = some code) (hon : σ.On) : Enters c σ o f (.ref q off :: asL) := by
 intro E σ₁ ν G w a hT hHH I;have hrv':=I.ev (St.dE hT (aV hσ hon hrv));obtain⟨v,hv⟩:∃v,a.eval rv=v:=⟨_,rfl⟩
 rw[hv]at hrv';unfold X.D at hrv';obtain⟨hn,g,cur,h1,_⟩:=I.H q _ (hHH q _ hq);cases hrv' with
 |via hk hr h1'=>
   subst hr;refine⟨.pointer (some ⟨g,off,none⟩)::args.toList.map a.eval,?_,by simp[hl],λt x0 hx0=>?_⟩
   .unfold execOp
    rw[ho];have hmr:=a4C hm w g (c.P.types.size+99);rw[h1]at hv;simp only[resolve,invoke,callMethod,hv,Sem.run_bind,Sem.run_pure,Result.andThen_ok];have hV:∀V:Value,(#[V]++args.map a.eval)[0]?=some V/\(#[V]++args.map a.eval).extract 1=args.map a.eval/\(V::args.toList.map a.eval).toArray = #[V]++args.map a.eval:=λV=>⟨lC V _,a6V V _,toA V _ _⟩
    rw[(hV _).1,(hV _).2.2];simp only[Sem.run_bind,run_program,Result.andThen_ok];rw[(hV _).2.1,show c.P.types.size+Made.depth=c.P.types.size+99+1 from rfl,hmr];simp only[Result.andThen_ok];exact M6 hfn hname' (by rw[hb];exact λe=>by cases e) _ w
   .cases t with
    |zero=>
      simp only[List.getElem?_cons_zero,iR]at hx0;subst hx0;exact⟨_,rfl,.ref hk (by rw[h1];rfl)⟩
    |succ t=>
      rw[a9Q]at hx0;obtain⟨p,hp,hpv⟩:=hev t x0 hx0;refine⟨a.eval p,?_,I.ev (St.dE hT (aV hσ hon hpv))⟩;rw[a9Q,cZ,hp];rfl
theorem aIa(hG:pQ c.P c.G)(hσ:σ.Ok κ){rv:Operand}{name:String}{args:Array Operand}{tys:Array TypeId}{q te:Nat}{e:TypeId}{xs:List D}(ho:o.op = .call { callee:=.invoke rv name,args:=args,argTypes:=tys })(hrv:σ.ev rv=some (.jI q te))(hq:σ.den.H q=some (.box e xs))
    (h:(ob (Dt c.P te name) λm=>σ.nC args.toList λxs=>uY c σ fr m.1 (.ref q m.2::xs) k)=some r):dG c σ fr o k r:=by
 obtain⟨⟨f,off⟩,hm,h⟩:=bF h;obtain⟨asL,h1,hl,hev⟩:=EG h;clear h;unfold uY at h1;obtain⟨g,hg,h2⟩:=bF h1;clear h1;obtain⟨fn,hfn,h3⟩:=bF h2;clear h2;split at h3
 .cases h3
 rename_i code hb;have hname' : fn.name ≠ "runtime.NumGoroutine" := by
  obtain⟨hname,_⟩:=hG f g hg;unfold sK at hname;rw[hfn]at hname;simpa using hname
 have hen:=a6a (c:=c) hσ ho hrv hq hm hl hev hfn hname' hb;rcases YT hG hen hg (Nx c σ _ _) h3 with h|h
 .rcases YT hG hen hg eE.refl h with h|h
  .cases h
  .exact h
 .exact h
end
end Go.Ax
/- Parts of rows of the walk's own, and copy. -/
namespace Go.Ax
open aA
open Go.RowKit Go.Ab
theorem M8{E:Env}{σ₁:St}{ν:Nat->Value}{G:bV}{w w':World}{a:Act}(I:Inv E σ₁ ν G w a.tmps){k fr g:Nat}{ob ob':aO}(hk:σ₁.H k=some ob)(hg:aU (ν k)=some g)(hG0:G g=0)(hf1:∀w v g,bO w v ob g ↔ aU v=some g)(hf2:∀w v g,bO w v ob' g ↔ aU v=some g)
    (s1:w'.os=w.os) (s2:w'.tape=w.tape) (s3:w'.output=w.output) (s4:w'.heap.size=w.heap.size) (s5:∀b,b≠g->w'.heap[b]?=w.heap[b]?) (hcell:∀b i u,Cell w G b i u->Cell w' G b i u)
    (hnew:eT E ν σ₁.nm w' G k ob') {dst:Option Tmp} {v:Value} {d:D} (hd:∀t,dst=some t->t<E.m) (hv:DR ν σ₁.nm w' G v d):Inv E (σ₁.aP dst d [(k,some ob')] fr) ν G w' (a.put dst v).tmps:=by
 have hob:=(I.H k ob hk).2;have hmay:E.may g:=hob.Xe hg;have hnm:∀j,σ₁.nm j=true->(σ₁.aP dst d [(k,some ob')] fr).nm j=true/\ν j=ν j:=λj hj=>⟨by simp[St.aP,hj],rfl⟩
 refine⟨⟨s1.trans I.kept.os,s2.trans I.kept.tape,s3.trans I.kept.output,by rw[s4];exact I.kept.size,λb hb hX=>?_⟩,λb i u h=>hcell b i u (I.eJ b i u h),I.fJ,I.g0,?_,λt' d' h=>?_,λj oj h=>?_,λj1 o1 j2 o2 h1 h2 hne=>?_⟩
 .refine(s5 b (λe=>?_)).trans (I.kept.block b hb hX)
  subst e;rcases hmay with h|h
  .omega
  .exact hX h
 .cases dst <;> simp[Act.put,I.sz]
 .simp only[St.aP]at h
  split at h
  .rename_i he'
   cases h;have:=hd t' he';exact⟨v,by simp[he',Act.put,I.sz,this],hv.mono hnm (λ_ _ _ h=>h)⟩
  .rename_i he'
   obtain⟨u,hu,hdu⟩:=I.T t' d' h;refine⟨u,?_,hdu.mono hnm hcell⟩;cases dst with
   |none=>simpa[Act.put]using hu
   |some t''=>
     have hne:t''≠t':=λe=>he' (by rw[e])
     simp only[Act.put];rw[Array.getElem?_setIfInBounds_ne hne];exact hu
 .by_cases hj:j=k
  .subst hj
   simp[St.aP,Ab.look]at h;subst h;have h1:=(I.H j ob hk).1;exact⟨(hnm j h1).1,eT.mono h1 hnm (λ_ _ _ h=>h) (λ_ _=>⟨rfl,rfl⟩) hnew⟩
  .have h':σ₁.H j=some oj:=by simpa[St.aP,Ab.look,eN hj]using h
   obtain⟨h1,h2⟩:=I.H j oj h';refine⟨(hnm j h1).1,h2.mono h1 hnm hcell (λg' hg'=>⟨s5 g' (λe=>?_),rfl⟩)⟩;subst e;exact I.cW j oj k ob h' hk hj g' hg' (eK hg)
 .have back:∀j oj,(σ₁.aP dst d [(k,some ob')] fr).H j=some oj->∃oj',σ₁.H j=some oj'/\∀g',bO w' (ν j) oj g'->bO w (ν j) oj' g':=λj oj h=>by
   by_cases hj:j=k
   .subst hj
    simp[St.aP,Ab.look]at h;subst h;exact⟨ob,hk,λg' hg'=>(hf1 _ _ _).2 ((hf2 _ _ _).1 hg')⟩
   .have h':σ₁.H j=some oj:=by simpa[St.aP,Ab.look,eN hj]using h
    refine⟨oj,h',λg' hg'=>(uT λb hb=>s5 b λe=>?_).1 hg'⟩;subst e;exact I.cW j oj k ob h' hk hj b (eK hb) (eK hg)
  obtain⟨o1',h1',f1⟩:=back j1 o1 h1;obtain⟨o2',h2',f2⟩:=back j2 o2 h2;exact λg' hg1 hg2=>I.cW j1 o1' j2 o2' h1' h2' hne g' (f1 g' hg1) (f2 g' hg2)
section
variable{P:Program}{o:Oper}{s:St}{fr:Nat}
theorem a27{t e e0:TypeId}{x:Operand}{lo hi:Option Operand}{sz n q:Nat}{ts:List Tree}{st:Bool}{a b:Option Int}(hs0:0<sz)(hu:P.underlying t=some (.slice e))(hs:fP P e=some sz)(ho:o.op = .slice t x lo hi none)(hx:s.ev x=some (.own q))(hq:s.H q=some (.row e0 sz n ts st))
    (hlo:pS s lo a) (hhi:pS s hi b) (hok:iX n a b=true):aW P o s fr (.vw q (eI a*sz) (fD n b-eI a)) []:=
 dM λE σ₁ ν G w ac hH I hev=>by
  have hd:=hev x _ hx;obtain⟨kl,e1⟩:=hlo.run (ρ:=ac.eval) (λx d h=>bY (hev x _ h));obtain⟨kh,e2⟩:=hhi.run (ρ:=ac.eval) (λx d h=>bY (hev x _ h));obtain⟨g1,g2,g3,g4⟩:=MW hok;obtain⟨inf,hinf,hsz⟩:=cO.1 hs;obtain⟨hv,hk⟩:=uO hd;obtain⟨xs,r1,_⟩:=(I.H q _ (hH q _ hq)).2;rcases r1.2 with⟨hz,h0⟩|⟨g,cap,cur,hz,_,_,hcap,_⟩
  .subst h0
   have hb:=zC (P:=P) (w:=w) (isS:=true) (n:=0) (cap:=0) (lo:=a) (hi:=b) (kl:=kl) (kh:=kh) g1 (by omega) g3 g4;have z1:fD 0 b=0:=by omega
   have z2:eI a=0:=by omega
   rw[z1,z2]at hb;refine⟨.slice none 0 0,?_,?_⟩
   .unfold execOp
    rw[ho];simp only[hv,hz,e1,e2,rP];simp[Instr.sliceAt,Instr.slice,run_underlying hu,hb,sizeOf,typeInfo,hinf]
   .rw[z1,z2]
    exact .Ah hk rfl hz
  .have hb:=zC (P:=P) (w:=w) (isS:=true) (n:=n) (cap:=cap) (lo:=a) (hi:=b) (kl:=kl) (kh:=kh) g1 (by omega) g3 g4
   refine⟨.slice (if cap=eI a then some ⟨g,0,none⟩else some ((⟨g,0,none⟩:Addr).add (eI a*sz))) (fD n b-eI a) (cap-eI a),?_,?_⟩
   .unfold execOp
    rw[ho];simp only[hv,hz,e1,e2,rP];simp[Instr.sliceAt,Instr.slice,run_underlying hu,hb,sizeOf,typeInfo,hinf,hsz]
   .by_cases hc:cap=eI a
    .rw[aI hc]
     exact .vw hk (by rw[hz];rfl) (λh=>by omega) (by omega) (λh=>⟨n,by
      have h0:eI a=0:=(a8w.1 h).resolve_right (by omega);rw[hz,h0,aKX]⟩)
    .rw[aE hc,Addr.add_mid,eC]
     exact .vw hk (by rw[hz];rfl) (λ_=>rfl) (by omega) (λh=>⟨n,by
      have h0:eI a=0:=(a8w.1 h).resolve_right (by omega);rw[hz,h0,aKX,Nat.zero_mul]⟩)
inductive vJ (s:St) (x:Operand) (sz:Nat):Nat->List Tree->Prop
 |src {n:Nat} {ts:List Tree} (h:Src s x n ts) (hl:ts.length=n*sz):vJ s x sz n ts
 |vw {k off n N:Nat} {ts:List Tree} {e:TypeId} {st:Bool} (h:s.ev x=some (.vw k off n)) (hk:s.H k=some (.row e sz N ts st)) (hb:off+n*sz<=ts.length):vJ s x sz n ((ts.drop off).take (n*sz))
theorem vJ.rd{s σ₁:St}{x:Operand}{sz n:Nat}{ts:List Tree}(h:vJ s x sz n ts){E:Env}{ν:Nat->Value}{G:bV}{w:World}{a:Act}(hT:∀t d,s.T t=some d->σ₁.T t=some d)(hH:∀k o,s.H k=some o->σ₁.H k=some o)(I:Inv E σ₁ ν G w a.tmps):
    ∃ax c us,a.eval x = .slice ax n c/\us.length=n*sz/\ts.length=n*sz/\Rd w ax us/\(ax=none->c=0/\n=0)/\∀(i:Nat)(u:Value)(t:Tree),us[i]?=some u->ts[i]?=some t->TR w G u t:=by
 cases h with
 |src h hl=>
   obtain⟨ax,c,us,h1,h2,h3,h4,h5⟩:=h.rd hT hH I;exact⟨ax,c,us,h1,h2.trans hl,hl,h3,h4,h5⟩
 | @vw k off _ N ts e st h hk hb=>
   have hv:=I.ev (St.dE hT h);obtain⟨v,he⟩:∃v,a.eval x=v:=⟨_,rfl⟩
   rw[he]at hv ⊢;have hlen:((ts.drop off).take (n*sz)).length=n*sz:=by rw[iT,lI];omega
   cases hv with
   |Ah hkn hc _=>exact⟨none,_,[],rfl,by simp,hlen,Rd.nil,λ_=>⟨hc,rfl⟩,λi u t h=>by simp at h⟩
   | @vw _ _ _ o c g hkn hg ho hn _=>
     obtain⟨xs,r1,r2,r3,r4⟩:=(I.H _ _ (hH _ _ hk)).2;by_cases hn0:n=0
     .subst hn0
      exact⟨some ⟨g,o,none⟩,c,[],rfl,by simp,hlen,λj u hj=>by simp at hj,(λe=>by cases e),λi u t h=>by simp at h⟩
     .have ho':=ho (by omega)
      subst ho';refine⟨some ⟨g,o,none⟩,c,(xs.drop o).take (n*sz),rfl,by rw[iT,lI];omega,hlen,λj u hj=>⟨_,rfl,?_⟩,(λe=>by cases e),λi u t hu ht=>?_⟩
      .rw[fU]at hj
       split at hj
       .rw[qQ]at hj
        have:=r1.cells (g:=g) (by rw[<-kR r1];exact hg) _ u hj;rw[Addr.add_mid]at this ⊢;rw[eC]at this;exact this
       .cases hj
      .rw[fU]at hu ht
       split at hu
       .rename_i hi
        rw[aI hi]at ht;rw[qQ]at hu ht;exact r3 _ u t hu ht
       .cases hu
theorem a2H{w:World}{e s N cap n g:Nat}{xs:List Value}(h:w.ownsRow 0 e s (.slice (some ⟨g,0,none⟩) N cap) N xs)(hn:n<=N):w.ownsRow 0 e s (.slice (some ⟨g,0,none⟩) n cap) n (xs.take (n*s)):=by
 rcases h.2 with⟨h1,_⟩|⟨g',cap',cur,h1,h2,h3,h4,h5,h6,h7⟩
 .cases h1
 .cases h1
  refine⟨by rw[iT,h.1];exact OP (mM _ hn),.inr ⟨g,cap,cur,rfl,h2,h3,Nat.le_trans hn h4,h5,h6,?_⟩⟩;rw[<-h7,List.take_take,OP (mM _ hn)]
theorem a36{t e:TypeId}{z:Value}{size bytes:Nat}{x y:Operand}{k n N m:Nat}{ts ys:List Tree}(hT:mQ P t e z size bytes)(ho:o.op = .call { callee:=.builtin .append,args:=#[x,y],argTypes:=#[t,t] })
    (hs:s.ev x=some (.vw k 0 n)) (hk:s.H k=some (.row e size N ts false)) (hn:n<=N) (hx:vJ s y size m ys) (hb:(n+m)*bytes<=140737488355328/\n+m<=maxLen):aW P o s fr (.own fr) [(fr,some (.row e size (n+m) (ts.take (n*size)++ys) false)),(k,none)]:=by
 intro E σ₁ a w hTT hHH h100 hf hd ⟨ν,G,I⟩ Q;obtain⟨ax,c,us,hxv,hul,hyl,hrd,hnone,htr⟩:=hx.rd hTT hHH I;have hone:∀u∈us,u.oneCell'=true:=λu hu=>by
  obtain⟨i,hi⟩:=iS.1 hu;have hlt:i<ys.length:=by rw[hyl,<-hul];exact(bZ.1 hi).1
  exact(htr i u _ hi (dC hlt)).one
 have hrow:∃v xs,a.eval x=v/\w.ownsRow 0 e size v n xs/\xs.length=(ts.take (n*size)).length/\(∀(i:Nat)(u:Value)(t:Tree),xs[i]?=some u->(ts.take (n*size))[i]?=some t->TR w G u t)/\aU (ν k)=v.ownBlock /\
     (∀g,v.ownBlock=some g->E.may g/\G g=0):=by
  have hv:=I.ev (St.dE hTT hs);obtain⟨v,he⟩:∃v,a.eval x=v:=⟨_,rfl⟩
  rw[he]at hv;obtain⟨xs,r1,r2,r3,r4⟩:=(I.H _ _ (hHH _ _ hk)).2;have tk:∀(i:Nat)(u:Value)(t:Tree),(xs.take (n*size))[i]?=some u->(ts.take (n*size))[i]?=some t->TR w G u t:=λi u t hu ht=>by
   rw[fU]at hu ht;split at hu
   .rename_i hi
    rw[aI hi]at ht;exact r3 i u t hu ht
   .cases hu
  cases hv with
  |Ah hkn hc hz=>
    subst hc;exact⟨_,[],he,World.ownsRow_nil w 0 e size,by simp,(λi u t h=>by simp at h),by rw[hz];rfl,λg hg=>by cases hg⟩
  | @vw _ _ _ o1 c1 g hkn hg h1 h2 hp=>
    obtain⟨N',hz⟩:=hp rfl;rw[hz]at r1;rcases r1.2 with⟨h3,_⟩|⟨g',cap,cur,h3,hr⟩
    .cases h3
    .cases h3
     have own1:w.ownsRow 0 e size (.slice (some ⟨g,0,none⟩) N c1) N xs:=⟨r1.1,.inr ⟨g,c1,cur,rfl,hr⟩⟩;exact⟨_,xs.take (n*size),he,a2H own1 hn,by rw[iT,iT,r2],tk,by rw[hz];rfl,λg' hg'=>by
      cases hg';exact r4 g hg⟩
 obtain⟨v,xs,hsv,hown,hxl,hxt,hkb,hmay⟩:=hrow;obtain⟨v',w',hr,r2,q1,q2,q3,q4,q5,q6,q7⟩:=M7 (ty:=o.type) hT hown (m:=m) (c:=c) hul hrd (λe=>(hnone e).1) hone hb.2 hb.1;unfold Oper.wp;have he:(execOp a.eval o).run P w = .ok (.value v') w':=by
  unfold execOp;rw[ho];simp[resolve,invoke,builtin,hsv,hxv,hr]
 rw[he,Oper.upon_value];have hcell:∀b i u,Cell w G b i u->Cell w' (λb=>if v'.ownBlock=some b then 0 else G b) b i u:=λb i u h=>by
  by_cases hb':v.ownBlock=some b
  .have hG:=(hmay b hb').2
   have h2:=h.2;rw[hG]at h2;omega
  .refine⟨(World.cell?_of_block (a:=⟨b,i,none⟩) (q5 b h.lt hb')).trans h.1,?_⟩
   have:v'.ownBlock≠some b:=λe=>by
    rcases q7 b e with h'|h'
    .have:=h.lt;omega
    .exact hb' h'
   simp only[aE this];exact h.2
 have hblkv:∀g,aU v'=some g->v'.ownBlock=some g:=λg hg=>by rw[<-kR r2];exact hg
 have hwr:jB (some k) fr (.row e size (n+m) (ts.take (n*size)++ys) false)=[(fr,some (.row e size (n+m) (ts.take (n*size)++ys) false)),(k,none)]:=rfl;rw[<-hwr];refine⟨put_defers ..,cD ν fr v',_,I.new h100 hf hd (some k) (o:=.row e size (n+m) (ts.take (n*size)++ys) false) (λj'=>?_) q1 q2 q3 q4 (λb hb hnk=>?_) hcell (λj hj=>by cases hj;exact⟨_,hHH _ _ hk⟩) (x:=v') (λg hg=>?_) ?_ ?_⟩
 .by_cases h:j'=fr
  .subst h;simp[jB,Ab.look]
  .by_cases h':j'=k
   .subst h';simp[jB,Ab.look,h,eN h]
   .simp[jB,Ab.look,h,eN h,h',eN h']
 .have hne:v.ownBlock≠some b:=λe=>hnk k rfl (by rw[hkb];exact e)
  refine⟨q5 b hb hne,aE (λe=>?_)⟩;rcases q7 b e with h|h
  .omega
  .exact hne h
 .rcases q7 g (hblkv g hg)with h|h
  .exact .inl h
  .exact .inr ⟨k,rfl,by rw[hkb];exact h⟩
 .refine⟨xs++us,by rw[cB];exact r2,by rw[aL,aL,hxl,hul,hyl],λi u t hu ht=>?_,λg hg=>?_⟩
  .by_cases hi:i<xs.length
   .rw[dV hi]at hu
    rw[dV (by omega)]at ht;exact(hxt i u t hu ht).mono hcell
   .rw[dN (by omega)]at hu
    rw[dN (by omega)]at ht;exact(htr _ u t hu (by rw[hxl];exact ht)).mono hcell
  .rw[cB]at hg
   have hg':=hblkv g hg;refine⟨?_,aI hg'⟩;rcases q7 g hg' with h|h
   .exact .inl (Nat.le_trans I.kept.size h)
   .exact(hmay g h).1
 .have:DR (cD ν fr v') (σ₁.aP o.dst .any (jB (some k) fr (.row e size (n+m) (ts.take (n*size)++ys) false)) fr).nm w' (λb=>if v'.ownBlock=some b then 0 else G b) (cD ν fr v' fr) (.own fr):=.own (kN ..) (by rw[cB];exact pF r2)
  rw[cB]at this;exact this
theorem a3X{t t' e e0:TypeId}{x y:Operand}{q off n m N:Nat}{ts us:List Tree}(hu:P.underlying t=some (.slice e))(hs:fP P e=some 1)(ho:o.op = .call { callee:=.builtin .copy,args:=#[x,y],argTypes:=#[t,t'] })
    (hx:(s.ev x=some (.own q)/\off=0/\n=N)\/s.ev x=some (.vw q off n)) (hq:s.H q=some (.row e0 1 N ts false)) (hy:vJ s y 1 m us) (hb:off+n<=ts.length):
    aW P o s fr (I (min m n:Nat)) [(q,some (.row e0 1 N (ts.take off++us.take n++ts.drop (off+min m n)) false))]:=by
 intro E σ₁ a w hT hH h100 hf hd ⟨ν,G,I⟩ Q;obtain⟨ax,c,cs,hyv,hcl,hul,hrd,hnone,htr⟩:=hy.rd hT hH I;rw[lP]at hcl hul;have hob:=(I.H q _ (hH q _ hq)).2;obtain⟨xs,r1,r2,r3,r4⟩:=id hob;have hone:∀v∈cs,v.oneCell'=true:=λv hv=>by
  obtain⟨i,hi⟩:=iS.1 hv;have hlt:i<us.length:=by rw[hul,<-hcl];exact(bZ.1 hi).1
  exact(htr i v _ hi (dC hlt)).one
 -- the destination
 have hdst:∃base cap,a.eval x = .slice base n cap/\((base=none/\n=0)\/∃g o',base=some ⟨g,o',none⟩/\aU (ν q)=some g/\(0<n->o'=off)):=by
  rcases hx with⟨hx,h0,hn⟩|hx
  .obtain⟨hv,_⟩:=uO (I.ev (St.dE hT hx))
   subst h0 hn;rcases r1.2 with⟨hz,h0⟩|⟨g,cap,cur,hz,_⟩
   .exact⟨none,0,by rw[hv,hz,h0],.inl ⟨rfl,h0⟩⟩
   .exact⟨_,cap,by rw[hv,hz],.inr ⟨g,0,rfl,by rw[hz];rfl,λ_=>rfl⟩⟩
  .have hv:=I.ev (St.dE hT hx)
   obtain⟨v,he⟩:∃v,a.eval x=v:=⟨_,rfl⟩
   rw[he]at hv ⊢;cases hv with
   |vw hk hg ho hn _=>exact⟨_,_,rfl,.inr ⟨_,_,rfl,hg,ho⟩⟩
   |Ah hk hc _=>exact⟨none,_,rfl,.inl ⟨rfl,rfl⟩⟩
 obtain⟨base,cap,hxv,hbase⟩:=hdst;obtain⟨inf,hinf,hsz⟩:=cO.1 hs;have hmin:(cs.take n).length=min m n:=by rw[iT,hcl,Nat.min_comm]
 have key:∃w',(Builtin.copy_ #[t,t'] o.type #[.slice base n cap,.slice ax m c]).run P w = .ok (.int .i64 (min m n:Nat)) w' /\
     ((w'=w/\min m n=0)\/∃g cur et,aU (ν q)=some g/\w.heap[g]?=some (.cells cur et (0,0))/\off+min m n<=cur.size/\(∀i,i<N->cur.toList[i]?=xs[i]?)/\w'=w.setRow g (cur.toList.take off++cs.take n++cur.toList.drop (off+min m n)).toArray):=by
  by_cases h0:min m n=0
  .refine⟨w,?_,.inl ⟨rfl,h0⟩⟩
   have hN:Nat.min m n=0:=h0;cases base with
   |none=>
     cases ax with
     |none=>simp[Builtin.copy_,run_underlying hu,Builtin.lenOf,Builtin.firstCells,sizeOf,typeInfo,hinf,hN,goInt]
     |some ad=>
       have hl0:=run_loadCells_list (P:=P) w ad [] (by simp);simp only[jV]at hl0;simp[Builtin.copy_,run_underlying hu,Builtin.lenOf,Builtin.firstCells,sizeOf,typeInfo,hinf,hN,goInt,hl0]
   |some ab=>
     cases ax with
     |none=>simp[Builtin.copy_,run_underlying hu,Builtin.lenOf,Builtin.firstCells,sizeOf,typeInfo,hinf,hN,goInt,storeCells]
     |some ad=>
       have hl0:=run_loadCells_list (P:=P) w ad [] (by simp);simp only[jV]at hl0;simp[Builtin.copy_,run_underlying hu,Builtin.lenOf,Builtin.firstCells,sizeOf,typeInfo,hinf,hN,goInt,storeCells,hl0]
  .rcases hbase with⟨_,hn⟩|⟨g,o',rfl,hg,ho'⟩
   .omega
   .have ho'':=ho' (by omega)
    subst ho'';have hax:∃ad,ax=some ad:=by
     cases ax with
     |none=>have:=(hnone rfl).2;omega
     |some ad=>exact⟨ad,rfl⟩
    obtain⟨ad,rfl⟩:=hax;rcases r1.2 with⟨hz,_⟩|⟨g',cap',cur,hz,_,z2,z3,z4,z5,z6⟩
    .rw[hz]at hg;cases hg
    .rw[hz]at hg
     cases hg;have hxl:xs.length=N:=by rw[r1.1,lP]
     have hfit:o'+(cs.take n).length<=cur.size:=by rw[hmin,z5];omega
     refine⟨_,?_,.inr ⟨_,cur,_,by rw[hz];rfl,z2,by rw[<-hmin];exact hfit,λi hi=>?_,rfl⟩⟩
     .have:=run_copy_row (P:=P) w t t' o.type e _ o' n cap ad m c cur _ (cs.take n) hu (by rw[hinf];simp[hsz]) z2 (by rw[hmin]) (λj v hj=>by
       rw[fU]at hj;split at hj
       .obtain⟨ad',he',hc'⟩:=hrd j v hj
        cases he';exact hc'
       .cases hj) hfit (λv hv=>hone v (a9L hv))
      rw[hmin]at this;exact this
     .rw[<-z6,fU,aI (by omega)]
 obtain⟨w',hr,hw'⟩:=key;unfold Oper.wp;have he:(execOp a.eval o).run P w = .ok (.value (.int .i64 (min m n:Nat))) w':=by
  unfold execOp;rw[ho];simp[resolve,invoke,builtin,hxv,hyv,hr]
 rw[he,Oper.upon_value];have hxl:xs.length=N:=by rw[r1.1,lP]
 rcases hw' with⟨rfl,h0⟩|⟨g,cur,et,hg,hcur,hfit,hsame,rfl⟩
 .have hts:ts.take off++us.take n++ts.drop (off+min m n)=ts:=by
   have:us.take n=[]:=by
    apply AH;rw[iT,hul,Nat.min_comm];exact h0
   rw[this,h0,e9,rQ,List.take_append_drop]
  rw[hts];refine⟨put_defers ..,ν,G,?_⟩;have:=I.put (dst:=o.dst) (v:=.int .i64 (min m n:Nat)) (d:=Go.Ab.I (min m n:Nat)) (.t (.v _ rfl)) hd fr a rfl;refine⟨this.kept,this.eJ,this.fJ,this.g0,this.sz,this.T,λk ok hk=>?_,λk ok k' ok' h1 h2=>?_⟩
  .by_cases hkq:q=k
   .subst hkq
    simp[St.aP,Ab.look]at hk;subst hk;exact this.H q _ (by simp[St.aP,Ab.look];exact hH q _ hq)
   .exact this.H k ok (by simpa[St.aP,Ab.look,hkq]using hk)
  .have conv:∀k ok,(σ₁.aP o.dst (Go.Ab.I (min m n:Nat)) [(q,some (.row e0 1 N ts false))] fr).H k=some ok->(σ₁.aP o.dst (Go.Ab.I (min m n:Nat)) [] fr).H k=some ok:=λk ok h=>by
    by_cases hkq:q=k
    .subst hkq
     simp[St.aP,Ab.look]at h;subst h;simp[St.aP,Ab.look];exact hH q _ hq
    .simpa[St.aP,Ab.look,hkq]using h
   exact this.cW k ok k' ok' (conv k ok h1) (conv k' ok' h2)
 .have hG0:G g=0:=by simpa using(r4 g hg).2
  have hsz':cur.size=cur.toList.length:=by simp
  have s5:∀b,b≠g->(w.setRow g (cur.toList.take off++cs.take n++cur.toList.drop (off+min m n)).toArray).heap[b]?=w.heap[b]?:=λb hb=>setRow_other w g b _ hb
  have hcell:∀b i u,Cell w G b i u->Cell (w.setRow g (cur.toList.take off++cs.take n++cur.toList.drop (off+min m n)).toArray) G b i u:=λb i u h=>by
   have hne:b≠g:=λe=>by have:=h.2;rw[e,hG0]at this;omega
   exact⟨(World.cell?_of_block (a:=⟨b,i,none⟩) (s5 b hne)).trans h.1,h.2⟩
  have hcslen:(cur.toList.take off++cs.take n++cur.toList.drop (off+min m n)).length=cur.size:=by
   simp only[aL,iT,lI,hcl,hsz'];rw[hsz']at hfit;omega
  have hnewrow:(w.setRow g (cur.toList.take off++cs.take n++cur.toList.drop (off+min m n)).toArray).ownsRow 0 e0 1 (ν q) N (xs.take off++cs.take n++xs.drop (off+min m n)):=by
   have hxs':xs=cur.toList.take N:=by
    apply Bg;intro i;rw[fU];by_cases hi:i<N
    .rw[aI hi,hsame i hi]
    .rw[aE hi,oC (by omega)]
   have hoN:off+min m n<=N:=by rw[<-r2,hxl]at hb;omega
   refine⟨by simp only[aL,iT,lI,hxl,hcl];omega,?_⟩;rcases r1.2 with⟨hz,_⟩|⟨g',cap',cur',hz,z1,z2,z3,z4,z5,z6⟩
   .rw[hz]at hg;cases hg
   .rw[hz]at hg
    cases hg;rw[hcur]at z2;cases z2;refine .inr ⟨_,cap',_,hz,z1,setRow_heap w _ cur _ _ (0,0) hcur,z3,z4,by rw[List.size_toArray,hcslen];exact z5,?_⟩;rw[lP];apply Bg;intro i;rw[fU];have hl1:(cur.toList.take off).length=off:=by rw[iT];rw[hsz']at hfit;omega
    have hl2:(xs.take off).length=off:=by rw[iT,hxl];omega
    by_cases hi:i<N
    .rw[aI hi]
     by_cases h1:i<off
     .rw[bP,bP,dV (by omega),dV (by omega),fU,fU,aI h1,aI h1,hsame i hi]
     .have h4:(cur.toList.take off).length<=i:=by omega
      have h5:(xs.take off).length<=i:=by omega
      rw[bP,bP,dN h4,dN h5,hl1,hl2];by_cases h2:i-off<min m n
      .rw[dV (by rw[hmin];exact h2),dV (by rw[hmin];exact h2)]
      .have h3:(cs.take n).length<=i-off:=by rw[hmin];omega
       rw[dN h3,dN h3,hmin,qQ,qQ,show off+min m n+(i-off-min m n)=i by omega,hsame i hi]
    .rw[aE hi,oC]
     simp only[aL,iT,lI,hxl,hcl];omega
  refine⟨put_defers ..,ν,G,M8 (w':=w.setRow g (cur.toList.take off++cs.take n++cur.toList.drop (off+min m n)).toArray) (ob':=.row e0 1 N (ts.take off++us.take n++ts.drop (off+min m n)) false) I (hH q _ hq) hg hG0 (λ_ _ _=>Iff.rfl) (λ_ _ _=>Iff.rfl) rfl rfl rfl (setRow_size w g (cur.toList.take off++cs.take n++cur.toList.drop (off+min m n)).toArray) s5 hcell ⟨_,hnewrow,?_,λi u tr hu' htr'=>?_,r4⟩ hd (.t (.v _ rfl))⟩
  .simp only[aL,iT,lI,hcl,hul,r2]
  .have hl1:(xs.take off).length=(ts.take off).length:=by simp[r2]
   have hl2:(cs.take n).length=(us.take n).length:=by simp[hcl,hul]
   rw[bP]at hu' htr';by_cases h1:i<(xs.take off).length
   .rw[dV h1]at hu'
    rw[dV (by omega)]at htr';rw[fU]at hu' htr';split at hu'
    .rename_i hi
     rw[aI hi]at htr';exact(r3 i u tr hu' htr').mono hcell
    .cases hu'
   .rw[dN (by omega)]at hu'
    rw[dN (by omega),<-hl1]at htr';by_cases h2:i-(xs.take off).length<(cs.take n).length
    .rw[dV h2]at hu'
     rw[dV (by omega)]at htr';rw[fU]at hu' htr';split at hu'
     .rename_i hi
      rw[aI hi]at htr';exact(htr _ u tr hu' htr').mono hcell
     .cases hu'
    .rw[dN (by omega)]at hu'
     rw[dN (by omega),<-hl2]at htr';rw[qQ]at hu' htr';exact(r3 _ u tr hu' htr').mono hcell
end
end Go.Ax
