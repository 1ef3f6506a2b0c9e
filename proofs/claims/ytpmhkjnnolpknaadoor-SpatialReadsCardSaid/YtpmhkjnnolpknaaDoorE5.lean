/- The abstract machine, run: code, loops, functions, contracts. Conditions are in the theorems. -/
import Derived.Test.YtpmhkjnnolpknaaDoorE4
import Derived.Lib.MinMax
import Derived.Laws.Strings
import Derived.Laws.Slices
open Bool renaming and_eq_true->bM,not_eq_true'->Vg
open List renaming all_eq_true->eG,flatMap->b8,flatMap_cons->gO,getElem?_eq_some_iff->bU,getElem?_map->cY,getElem?_set_ne->nA,getElem?_set_self->l7,length->dN,length_cons->iG,length_map->cW,length_set->gF,map->Dq,map_append->fO,map_cons->eX,map_map->mZ,mem_cons->dT,mem_cons_of_mem->mY,mem_iff_getElem?->iA,mem_map->dM,nodup_cons->a1f,set_cons_succ->a1e
open Nat renaming add_mul->iL,add_zero->iU,ble_eq_true_of_le->V3,eq_of_beq_eq_true->bF,le_of_ble_eq_true->fQ,le_refl->cQ,zero_add->eD
open Option renaming map->aGf,map_eq_some_iff->cR,map_some->iT
open Option.some renaming inj->fI,injEq->hY
open UInt8 renaming ofNat->dV,toNat_inj->VV,toNat_ofNat'->a1L
/- States told otherwise. -/
namespace Go.Ax
open aB
open Go.RowKit Go.Ab
def dS(σ:Sg):St:=mk (λt=>(lk t σ.T).map X.D) (λk=>(lk k σ.H).map XO.A) σ.N
theorem dC.trans'{E:Env}{a b c:St}(h:dC E a b)(k:dC E b c):dC E a c:=λtm w hR=>k tm w (h tm w hR)
theorem dC.qS{E:Env}{a:St}:dC E a a:=λ_ _ h=>h
theorem mk_eq{T T':Nat->Option D}{H H':Nat->Option aQ}{N N':Nat}(hT:∀t,T t=T' t)(hH:∀k,H k=H' k)(hN:N=N'):mk T H N=mk T' H' N':=by
 rw[funext hT,funext hH,hN]
theorem aZv{E:Env}{T T':Nat->Option D}{H H':Nat->Option aQ}{N:Nat}(hT:∀t d,T' t=some d->T t=some d)(hH:∀k o,H' k=some o->H k=some o):dC E (mk T H N) (mk T' H' N):=λ_ _ ⟨ν,G,I⟩=>
 ⟨ν,G,I.kept,I.dY,I.fA,I.g0,I.sz,λt d h=>I.T t d (hT t d h),λk o h=>I.H k o (hH k o h),λk o k' o' h h'=>I.cK k o k' o' (hH k o h) (hH k' o' h')⟩
theorem a0G{E:Env}{T T':Nat->Option D}{H:Nat->Option aQ}{N:Nat}(hT:∀t d',T' t=some d'->∃d,T t=some d/\bV H d d'):dC E (mk T H N) (mk T' H N):=λtm w ⟨ν,G,I⟩=>
 ⟨ν,G,I.kept,I.dY,I.fA,I.g0,I.sz,λt d' h=>by
  obtain⟨d,h1,h2⟩:=hT t d' h;obtain⟨v,hv,hd⟩:=I.T t d h1;exact⟨v,hv,h2 E _ ν G w tm (λk o h=>h) I v hd⟩,I.H,I.cK⟩
theorem aFu{α β:Type}{f:α->List β}{m:Nat}(hf:∀x,(f x).length=m):∀l:List α,(l.flatMap f).length=l.length*m
 |[]=>by simp
 |a::l=>by rw[gO,List.length_append,hf,aFu hf l,iG,iL,Nat.one_mul,Nat.add_comm]
theorem Ui{α β:Type}{f:α->List β}{m:Nat}(hf:∀x,(f x).length=m):∀(l:List α)(i j:Nat)(x:α),l[i]?=some x->j<m->(l.flatMap f)[i*m+j]?=(f x)[j]?
 |[],i,j,x,h,_=>by simp at h
 |a::l,0,j,x,h,hj=>by
   simp at h;subst h;rw[gO,Nat.zero_mul,eD,List.getElem?_append_left (by rw[hf];exact hj)]
 |a::l,i+1,j,x,h,hj=>by
   have h':l[i]?=some x:=by simpa using h
   rw[gO,List.getElem?_append_right (by rw[hf,iL];omega),hf,<-Ui hf l i j x h' hj]
   congr 1
   rw[iL];omega
theorem Uh{α β:Type}{f:α->List β}{m:Nat}(hf:∀x,(f x).length=m):∀(l:List α)(i j:Nat)(x z:α)(b:β),l[i]?=some x->j<m->f z=(f x).set j b->(l.set i z).flatMap f=(l.flatMap f).set (i*m+j) b
 |[],i,j,x,z,b,h,_,_=>by simp at h
 |a::l,0,j,x,z,b,h,hj,hz=>by
   simp at h;subst h;rw[List.set_cons_zero,gO,gO,Nat.zero_mul,eD,List.set_append_left _ _ (by rw[hf];exact hj),hz]
 |a::l,i+1,j,x,z,b,h,hj,hz=>by
   have h':l[i]?=some x:=by simpa using h
   rw[a1e,gO,gO,List.set_append_right _ _ (by rw[hf,iL];omega),Uh hf l i j x z b h' hj hz,hf]
   congr 2
   rw[iL];omega
theorem Gm{κ ρ:Ty}(x:List κ.V×ρ.V):(eQ x).length=1+ρ.size:=by
 unfold eQ;rw[iG,cW,dB,Nat.add_comm]
theorem aGU{κ ρ:Ty}(l:List (List κ.V×ρ.V))(c:NC)(h:c∈b8 eQ l):(∃n ts,c = .cM n ts)\/∃t,c = .eZ (.t t):=by
 obtain⟨x,_,hx⟩:=List.mem_flatMap.1 h;unfold eQ at hx;rcases dT.1 hx with rfl|hx
 .exact .inl ⟨_,_,rfl⟩
 .obtain⟨t,_,rfl⟩:=dM.1 hx
  exact .inr ⟨t,rfl⟩
theorem VA{κ ρ:Ty}(l:List (List κ.V×ρ.V)):V1 (b8 eQ l):=λi d h=>by
 rcases aGU l _ (iA.2 ⟨i,h⟩)with⟨n,ts,h⟩|⟨t,h⟩
 .cases h
 .cases h;exact⟨t,rfl⟩
theorem aGT{κ ρ:Ty}:∀l:List (List κ.V×ρ.V),(b8 eQ l).map NC.qP=(b8 (aR (.pr (.sl κ) ρ)) l).map some
 |[]=>rfl
 |x::l=>by
   show(eQ x++b8 eQ l).map NC.qP=(aR (.pr (.sl κ) ρ) x++b8 (aR (.pr (.sl κ) ρ)) l).map some;rw[fO,fO,aGT l]
   congr 1
   show NC.qP _::((aR ρ x.2).map λt=>NC.eZ (.t t)).map NC.qP=some _::(aR ρ x.2).map some;rw[mZ];rfl
theorem a05{κ ρ:Ty}{l:List (List κ.V×ρ.V)}{i:Nat}{x:List κ.V×ρ.V}(h:l[i]?=some x):(b8 eQ l)[i*(1+ρ.size)]?=some (.cM (dN x.1) (b8 (aR κ) x.1)):=by
 have:=Ui (f:=eQ) Gm l i 0 x h (by omega);rw[iU]at this;rw[this];rfl
theorem Ny{κ ρ:Ty}{l:List (List κ.V×ρ.V)}{i j:Nat}(h:i<l.length)(hj:j<1+ρ.size):i*(1+ρ.size)+j<(b8 eQ l).length:=by
 rw[aFu (f:=eQ) Gm];have:(i+1)*(1+ρ.size)<=l.length*(1+ρ.size):=Nat.mul_le_mul_right _ h;rw[iL,Nat.one_mul]at this;omega
theorem N5{m:Nat}{cs:List NC}{ln:Option (Int×Nat)}:(jB m cs ln).length=cs.length:=by
 unfold jB;split
 .rfl
 .rw[gF]
theorem aGD{o:XO}(h:Nr o=true):nD o.A:=by
 unfold Nr at h;split at h
 .exact .row
 .exact .nest
 .exact .bE
 .cases h
theorem GI{α β:Type}(f:α->β):∀(l:List α)(i:Nat)(x:α),(gR x i l).map f=(l.map f).set i (f x)
 |[],i,x=>by rw[T5];rfl
 |y::l,0,x=>rfl
 |y::l,i+1,x=>by simp only[gR,eX,a1e];rw[GI f l i x]
theorem Ug{β:Type}{f:β->List Tree}{g:β->Tree}(h:∀r,f r=[g r]):∀l:List β,l.flatMap f=l.map g
 |[]=>rfl
 |a::l=>by rw[gO,h,Ug h l];rfl
theorem a0H{τ:Ty}(l:List (List τ.V)):(b8 (aR (.sl τ)) l)=(l.map λr=>(dN r,b8 (aR τ) r)).map λp=>.sl p.1 p.2:=
 (Ug (β:=List τ.V) (f:=aR (.sl τ)) (g:=λr=>.sl (dN r) (b8 (aR τ) r)) (λ_=>rfl) l).trans (by rw[mZ];rfl)
def rJ(σ:Sg)(k:Sg->O)(r:aM):Prop:=∃σ',k σ'=some r/\(100<=σ.N->100<=σ'.N)/\(100<=σ.N->∀E,dC E (dS σ) (dS σ'))
theorem rJ.same{σ:Sg}{k:Sg->O}{r:aM}(h:k σ=some r):rJ σ k r:=⟨σ,h,id,λ_ _=>dC.qS⟩
theorem aFp{κ:Ty}:∀l:List (List κ.V×Unit),b8 (aR (.sl κ)) (Dq (α:=List κ.V×Unit) (β:=(Ty.sl κ).V) (λx=>x.1) l)=b8 (aR (.pr (.sl κ) .un)) l
 |[]=>rfl
 |x::l=>by
   show aR (.sl κ) x.1++b8 (aR (.sl κ)) (Dq (α:=List κ.V×Unit) (β:=(Ty.sl κ).V) (λx=>x.1) l)=(aR (.sl κ) x.1++[])++b8 (aR (.pr (.sl κ) .un)) l;rw[List.append_nil,aFp l]
theorem aET{q:Nat}{e e':TypeId}{κ ρ:Ty}{l:List (List κ.V×ρ.V)}{E:Env}{T:Nat->Option D}{H:Nat->Option aQ}{N:Nat}(hq:H q=some (XO.bE e e' κ ρ l none).A):dC E (mk T H N) (mk T (λj=>if q=j then some (XO.row e (.pr (.sl κ) ρ) l true).A else H j) N):=by
 have h1:=aZw (E:=E) (T:=T) (N:=N) q hq (ts:=b8 (aR (.pr (.sl κ) ρ)) l) (aGT l);have h2:=aGB (E:=E) (T:=T) (H:=λj=>if q=j then some (.row e (1+ρ.size) l.length (b8 (aR (.pr (.sl κ) ρ)) l) false)else H j) (N:=N) q (by rw[aJ rfl]);refine dC.trans' h1 ?_;rw[show(λj=>if q=j then some (XO.row e (.pr (.sl κ) ρ) l true).A else H j)=λj=>if q=j then some (.row e (1+ρ.size) l.length (b8 (aR (.pr (.sl κ) ρ)) l) true)else if q=j then some (.row e (1+ρ.size) l.length (b8 (aR (.pr (.sl κ) ρ)) l) false)else H j from ?_]
 .exact h2
 .funext j
  split
  .rfl
  .rfl
theorem aES{q:Nat}{o o':XO}(h:Fx o=some o'){E:Env}{T:Nat->Option D}{H:Nat->Option aQ}{N:Nat}(hq:H q=some o.A):dC E (mk T H N) (mk T (λj=>if q=j then some o'.A else H j) N):=by
 unfold Fx at h;split at h
 .cases h;exact aGB q hq
 .rename_i e e' τ l
  split at h
  .rename_i h1
   cases h;have:=aZx (E:=E) (T:=T) (N:=N) q hq;have hA:(XO.row e (.sl τ) l true).A=aQ.row e 1 (l.map λr=>(dN r,b8 (aR τ) r)).length ((l.map λr=>(dN r,b8 (aR τ) r)).map λp=>.sl p.1 p.2) true:=
    congr (aY (λn ts=>aQ.row e 1 n ts true) (cW ..).symm) (a0H l)
   rw[hA];exact this
  .cases h
 .rename_i e e' κ ρ l
  cases h;cases ρ with
  |un=>
    show dC E _ (mk T (λj=>if q=j then some (XO.row e (.sl κ) (l.map λx=>x.1) true).A else H j) N);have key:(XO.row e (.sl κ) (l.map λx=>x.1) true).A=(XO.row e (.pr (.sl κ) .un) l true).A:=by
     show aQ.row e 1 (l.map λx=>x.1).length (b8 (aR (.sl κ)) (Dq (α:=List κ.V×Unit) (β:=(Ty.sl κ).V) (λx=>x.1) l)) true=aQ.row e 1 l.length (b8 (aR (.pr (.sl κ) .un)) l) true;rw[cW];exact aY (λts=>aQ.row e 1 l.length ts true) (aFp l)
    rw[key];exact aET hq
  |_=>exact aET hq
 .cases h
theorem aEU{q:Nat}{σ:Sg}{k:Sg->O}{r:aM}(h:Mu q σ k=some r):rJ σ k r:=by
 unfold Mu at h;split at h
 .rename_i o ho
  split at h
  .rename_i o' ho'
   obtain⟨H1,h,hH1⟩:=jO h;refine⟨_,h,id,λ_ E=>?_⟩;have:=aES (q:=q) ho' (E:=E) (T:=λt=>(lk t σ.T).map X.D) (H:=λk=>(lk k σ.H).map XO.A) (N:=σ.N) (by rw[ho];rfl);unfold dS;rw[show mk (λt=>(lk t σ.T).map X.D) (λk=>(lk k H1).map XO.A) σ.N=_ from mk_eq (λt'=>rfl) (λk'=>?_) rfl]
   .exact this
   .rw[hH1];split <;> rfl
  .exact .same h
 .exact .same h
theorem aYS{q i:Nat}{o:XO}(ho:nD o.A){σ:Sg}{k:Sg->O}{r:aM}(h:Tu q i o σ k=some r):rJ σ k r:=by
 unfold Tu at h;split at h
 .rename_i e' xs hq
  split at h
  .rename_i hx
   obtain⟨H1,h,hH1⟩:=jO h;obtain⟨H2,h,hH2⟩:=jO h;refine⟨_,h,λh=>(by show 100<=σ.N+8;omega),λhN E=>?_⟩;have:=a0A (E:=E) (T:=λt=>(lk t σ.T).map X.D) (H:=λk=>(lk k σ.H).map XO.A) q i ho (e':=e') (ds:=xs.map X.D) (by rw[hq];rfl) (by rw[cY,hx];rfl) hN;unfold dS;rw[show mk (λt=>(lk t σ.T).map X.D) (λk=>(lk k H2).map XO.A) (σ.N+8)=_ from mk_eq (λt'=>rfl) (λk'=>?_) rfl]
   .exact this
   .rw[hH2,hH1]
    split
    .rfl
    .split
     .simp only[iT,XO.A,GI];rfl
     .rfl
  .exact .same h
 .exact .same h
theorem aYq{τ:Ty}{xs:List X}{y:τ.V}(h:tE τ xs=some y):xs.length=(aR τ y).length:=by
 have:=(oY (H:=λ_=>none) h).len;simpa using this
theorem a0E{E:Env}{T:Nat->Option D}{H:Nat->Option aQ}{N:Nat}(k i:Nat){e:TypeId}{ds:List D}{d d':D}(hk:H k=some (.box e ds))(hi:ds[i]?=some d)(hw:bV H d d'):dC E (mk T H N) (mk T (λj=>if k=j then some (.box e (ds.set i d'))else H j) N):=by
 refine rD λa w ⟨ν,G,I⟩=>⟨ν,G,I.kept,I.dY,I.fA,I.g0,I.sz,I.T,λj oj hj=>?_,λj1 o1 j2 o2 e1 e2 hne=>?_⟩
 .by_cases hjk:k=j
  .subst hjk
   simp only[fY,hY]at hj;subst hj;obtain⟨hn,g,cur,z1,z2,z3,z4,z5,z6⟩:=I.H k _ hk;refine⟨hn,g,cur,z1,z2,z3,z4,by rw[gF];exact z5,λm u dm hu hd=>?_⟩;by_cases hm:i=m
   .subst hm
    have hlt:i<ds.length:=(bU.1 hi).1;rw[l7 hlt]at hd;cases hd;obtain⟨y1,y2⟩:=z6 i u _ hu hi;exact⟨hw E _ ν G w a.tmps (λ_ _ h=>h) I u y1,y2⟩
   .rw[nA hm]at hd
    exact z6 m u dm hu hd
  .simp only[aH hjk]at hj
   exact I.H j oj hj
 .have back:∀j o,(if k=j then some (.box e (ds.set i d'))else H j)=some o->∃o',H j=some o'/\∀g,bN w (ν j) o g->bN w (ν j) o' g:=λj o h=>by
   by_cases hj:k=j
   .subst hj;simp only[fY,hY]at h;subst h;exact⟨_,hk,λ_ h=>h⟩
   .rw[aH hj]at h;exact⟨o,h,λ_ h=>h⟩
  obtain⟨p1,hp1,f1⟩:=back j1 o1 e1;obtain⟨p2,hp2,f2⟩:=back j2 o2 e2;exact λg hg hg'=>I.cK j1 p1 j2 p2 hp1 hp2 hne g (f1 g hg) (f2 g hg')
theorem aWC{H:Nat->Option aQ}{τ:Ty}{x:X}{y:τ.V}(h1:τ.one=true)(h:iO τ x=some y):bV H x.D (.t (n9 τ y)):=by
 unfold iO at h;rw[h1]at h;exact oU h1 h
theorem a0U{q i:Nat}{τ:Ty}{σ:Sg}{k:Sg->O}{r:aM}(h:Uv q i τ σ k=some r):rJ σ k r:=by
 unfold Uv at h;split at h
 .rename_i e xs hq
  split at h
  .rename_i x hx
   split at h
   .rename_i h1
    split at h
    .rename_i y hy
     obtain⟨H1,h,hH1⟩:=jO h;refine⟨_,h,id,λ_ E=>?_⟩;have hg:=w9 (⟨λt=>lk t σ.T,λk=>lk k σ.H,none⟩:Vw) x;have:=a0E (E:=E) (T:=λt=>(lk t σ.T).map X.D) (H:=λk=>(lk k σ.H).map XO.A) (N:=σ.N) q i (e:=e) (ds:=xs.map X.D) (d:=x.D) (d':=.t (n9 τ y)) (by rw[hq];rfl) (by rw[cY,hx];rfl) (hg.trans (aWC h1 hy));unfold dS;rw[show mk (λt=>(lk t σ.T).map X.D) (λk=>(lk k H1).map XO.A) σ.N=_ from mk_eq (λt'=>rfl) (λk'=>?_) rfl]
     .exact this
     .rw[hH1]
      split
      .simp only[iT,XO.A,GI,o8 h1]
      .rfl
    .exact .same h
   .exact .same h
  .exact .same h
 .exact .same h
theorem a1T{E:Env}{ν:Nat->Value}{nm:Nat->Bool}{w:World}{G:bT}{k k':Nat}{o:aQ}(h:eR E ν nm w G k o)(e:ν k'=ν k):eR E ν nm w G k' o:=by
 cases o <;> (unfold eR at h ⊢;rw[e];exact h)
theorem aZy{E:Env}{T:Nat->Option D}{H:Nat->Option aQ}{N:Nat}(k i q:Nat){e':TypeId}{ds:List D}{o0:aQ}(hk:H k=some (.box e' ds))(hi:ds[i]?=some (.own q))(hq:H q=some o0)(hne:q≠k)(hN:100<=N):
    dC E (mk T H N) (mk T (λj=>if N=j then some o0 else if q=j then none else if k=j then some (.box e' (ds.set i (.own N)))else H j) (N+8)):=by
 refine rD λa w ⟨ν,G,I⟩=>?_
 have lt:∀j,(mk T H N).nm j=true->j<N:=λj hj=>by simpa using hj
 have ne:∀j,(mk T H N).nm j=true->bZ ν N (ν q) j=ν j:=λj hj=>k8 (by have:=lt j hj;omega)
 have hn:∀j,(mk T H N).nm j=true->decide (j<N+8)=true/\bZ ν N (ν q) j=ν j:=λj hj=>⟨by have:=lt j hj;simp;omega,ne j hj⟩
 have old:∀j o,H j=some o->j<N:=λj o hj=>lt j (I.H j o hj).1
 have hqN:=old q o0 hq;have hkN:=old k _ hk;have back:∀j o,(if N=j then some o0 else if q=j then none else if k=j then some (.box e' (ds.set i (.own N)))else H j)=some o->(j=N/\o=o0)\/(j=k/\j≠q/\j<N/\o = .box e' (ds.set i (.own N)))\/(j≠k/\j≠q/\j<N/\H j=some o):=λj o h=>by
  by_cases h1:N=j
  .rw[aJ h1]at h;exact .inl ⟨h1.symm,(fI h).symm⟩
  .rw[aH h1]at h
   by_cases h3:q=j
   .rw[aJ h3]at h;cases h
   .rw[aH h3]at h
    by_cases h2:k=j
    .rw[aJ h2]at h;exact .inr (.inl ⟨h2.symm,Ne.symm h3,by omega,(fI h).symm⟩)
    .rw[aH h2]at h;exact .inr (.inr ⟨Ne.symm h2,Ne.symm h3,old _ _ h,h⟩)
 have hfoot:∀j o,(if N=j then some o0 else if q=j then none else if k=j then some (.box e' (ds.set i (.own N)))else H j)=some o->∃j' o',H j'=some o'/\(∀g,bN w (bZ ν N (ν q) j) o g->bN w (ν j') o' g)/\j'=(if j=N then q else j):=λj o h=>by
  rcases back j o h with⟨rfl,rfl⟩|⟨rfl,h2,h3,rfl⟩|⟨h1,h2,h3,h4⟩
  .exact⟨q,_,hq,λg hg=>by rw[b7]at hg;exact hg,by rw[aJ rfl]⟩
  .exact⟨_,_,hk,λg hg=>by rw[k8 (by omega)]at hg;exact hg,by rw[aH (by omega)]⟩
  .exact⟨_,_,h4,λg hg=>by rw[k8 (by omega)]at hg;exact hg,by rw[aH (by omega)]⟩
 refine⟨bZ ν N (ν q),G,I.kept,I.dY,λj h1 h2=>?_,I.g0,I.sz,λt d ht=>?_,λj o hj=>?_,λj1 o1 j2 o2 h1 h2 hne12 g hg=>?_⟩
 .rw[k8 (by omega)];exact I.fA j h1 h2
 .obtain⟨v,hv,hdv⟩:=I.T t d ht
  exact⟨v,hv,hdv.mono hn (λ_ _ _ h=>h)⟩
 .have mono:∀j o,H j=some o->eR E (bZ ν N (ν q)) (λj=>decide (j<N+8)) w G j o:=λj o hj=>
   let⟨q1,q2⟩:=I.H j o hj
   q2.mono (ν':=bZ ν N (ν q)) (nm':=λj=>decide (j<N+8)) q1 hn (λ_ _ _ h=>h) (λg _=>⟨rfl,rfl⟩)
  rcases back j o hj with⟨rfl,rfl⟩|⟨rfl,h2,h3,rfl⟩|⟨h1,h2,h3,h4⟩
  .refine⟨by simp,a1T (mono q _ hq) ?_⟩
   rw[b7,k8 (by omega)]
  .refine⟨by simp;omega,?_⟩
   obtain⟨g,cur,z1,z2,z3,z4,z5,z6⟩:=mono _ _ hk;refine⟨g,cur,z1,z2,z3,z4,by rw[gF];exact z5,λm u d hu hd=>?_⟩;by_cases hm:i=m
   .subst hm
    have hlt2:i<ds.length:=(bU.1 hi).1;rw[l7 hlt2]at hd;cases hd;obtain⟨y1,y2⟩:=z6 i u _ hu hi;obtain⟨e1,_⟩:=qZ y1;refine⟨?_,y2⟩;have e2:u=bZ ν N (ν q) N:=by rw[e1,b7,k8 (by omega)]
    have hown:DR (bZ ν N (ν q)) (λj=>decide (j<N+8)) w G (bZ ν N (ν q) N) (.own N):=.own (by simp) (by rw[<-e2];exact y2);rw[<-e2]at hown;exact hown
   .rw[nA hm]at hd
    exact z6 m u d hu hd
  .exact⟨by simp;omega,mono j o h4⟩
 .obtain⟨j1',o1',a1,a2,a3⟩:=hfoot j1 o1 h1
  obtain⟨j2',o2',b1,b2,b3⟩:=hfoot j2 o2 h2;have hne':j1'≠j2':=by
   rw[a3,b3];rcases back j1 o1 h1 with⟨c1,_⟩|⟨_,c2,c3,_⟩|⟨_,c2,c3,_⟩ <;> rcases back j2 o2 h2 with⟨d1,_⟩|⟨_,d2,d3,_⟩|⟨_,d2,d3,_⟩
   .exact absurd (c1.trans d1.symm) hne12
   .rw[aJ c1,aH (by omega)];exact λe=>d2 e.symm
   .rw[aJ c1,aH (by omega)];exact λe=>d2 e.symm
   .rw[aH (by omega),aJ d1];exact c2
   .rw[aH (by omega),aH (by omega)];exact hne12
   .rw[aH (by omega),aH (by omega)];exact hne12
   .rw[aH (by omega),aJ d1];exact c2
   .rw[aH (by omega),aH (by omega)];exact hne12
   .rw[aH (by omega),aH (by omega)];exact hne12
  exact λhg'=>I.cK j1' o1' j2' o2' a1 b1 hne' g (a2 g hg) (b2 g hg')
theorem aWe{q i:Nat}{σ:Sg}{k:Sg->O}{r:aM}(h:T0 q i σ k=some r):rJ σ k r:=by
 unfold T0 at h;split at h
 .rename_i e xs hq
  split at h
  .rename_i q' hx
   split at h
   .rename_i o ho
    split at h
    .rename_i hc
     simp only[bM,Vg]at hc;have hne:q'≠q:=λe=>by rw[e,Nat.beq_refl]at hc;exact absurd hc.2 (by decide)
     obtain⟨H1,h,hH1⟩:=jO h;obtain⟨H2,h,hH2⟩:=Db h;obtain⟨H3,h,hH3⟩:=jO h;refine⟨_,h,λh=>(by show 100<=σ.N+8;omega),λhN E=>?_⟩;have:=aZy (E:=E) (T:=λt=>(lk t σ.T).map X.D) (H:=λk=>(lk k σ.H).map XO.A) (N:=σ.N) q i q' (e':=e) (ds:=xs.map X.D) (o0:=o.A) (by rw[hq];rfl) (by rw[cY,hx];rfl) (by rw[ho];rfl) hne hN;unfold dS;rw[show mk (λt=>(lk t σ.T).map X.D) (λk=>(lk k H3).map XO.A) (σ.N+8)=_ from mk_eq (λt'=>rfl) (λk'=>?_) rfl]
     .exact this
     .rw[hH3,hH2,hH1]
      split
      .rfl
      .split
       .rfl
       .split
        .simp only[iT,XO.A,GI];rfl
        .rfl
    .exact .same h
   .exact .same h
  .exact .same h
 .exact .same h
theorem aYd{q:Nat}{n:Int}{σ:Sg}{k:Sg->O}{r:aM}(h:UP q n σ k=some r):rJ σ k r:=by
 unfold UP at h;split at h
 .rename_i e e' κ ρ l hq
  obtain⟨y,hn,hy,h⟩:=G4 h;obtain⟨H1,h,hH1⟩:=jO h;obtain⟨H2,h,hH2⟩:=jO h;refine⟨_,h,λh=>(by show 100<=σ.N+8;omega),λhN E=>?_⟩;have:=a0B (E:=E) (T:=λt=>(lk t σ.T).map X.D) (H:=λk=>(lk k σ.H).map XO.A) (N:=σ.N) q (n.toNat*(1+ρ.size)) (cs:=b8 eQ l) (by rw[hq];rfl) (a05 hy) hN;unfold dS;rw[show mk (λt=>(lk t σ.T).map X.D) (λk=>(lk k H2).map XO.A) (σ.N+8)=_ from mk_eq (λt'=>rfl) (λk'=>?_) rfl]
  .exact this
  .rw[hH2,hH1]
   split
   .rfl
   .split
    .rfl
    .rfl
 .exact .same h
theorem a0o{q:Nat}{σ:Sg}{k:Sg->O}{r:aM}(h:VK q σ k=some r):rJ σ k r:=by
 unfold VK at h;split at h
 .rename_i e e' κ ρ l n f hq
  split at h
  .rename_i e1 κ1 xs hf
   split at h
   .rename_i hκ _
    split at h
    .rename_i hc
     rw[bM]at hc;have he:=bF hc.1;subst he;have hκ':=hκ;subst hκ';obtain⟨y,hn,hy,h⟩:=G4 h;obtain⟨H1,h,hH1⟩:=jO h;obtain⟨H2,h,hH2⟩:=Db h;refine⟨_,h,id,λhN E=>?_⟩;have hlt:n.toNat<l.length:=(bU.1 hy).1;have hb:=Ny (ρ:=ρ) (l:=l) (j:=0) hlt (by omega);rw[iU]at hb;have:=a0F (E:=E) (T:=λt=>(lk t σ.T).map X.D) (H:=λk=>(lk k σ.H).map XO.A) (N:=σ.N) q (n.toNat*(1+ρ.size)) f (cs:=(b8 eQ l).set (n.toNat*(1+ρ.size)) (.eZ (.own f))) (by rw[hq];rfl) (l7 hb) (by rw[hf];rfl);have hs:=Uh (f:=eQ) Gm l n.toNat 0 y (xs,y.2) (.cM (dN xs) (b8 (aR κ1) xs)) hy (by omega) rfl;rw[iU]at hs;rw[List.set_set,<-hs]at this;unfold dS;rw[show mk (λt=>(lk t σ.T).map X.D) (λk=>(lk k H2).map XO.A) σ.N=_ from mk_eq (λt'=>rfl) (λk'=>?_) rfl]
     .exact this
     .rw[hH2,hH1]
      split
      .rfl
      .split
       .simp only[iT,XO.A,jB]
        rw[gF];rfl
       .rfl
    .exact .same h
   .exact .same h
  .exact .same h
 .exact .same h
theorem aY0{m:Mv}{σ:Sg}{k:Sg->O}{r:aM}(h:UA m σ k=some r):rJ σ k r:=by
 unfold UA at h;split at h
 .split at h
  .exact aEU h
  .split at h
   .exact aEU h
   .exact .same h
  .exact .same h
 .rename_i t o
  split at h
  .rename_i ht he
   obtain⟨T',h,hT⟩:=jO h;obtain⟨H',h,hH⟩:=jO h;refine⟨_,h,λh=>(by show 100<=σ.N+8;omega),λhN E=>?_⟩;have:=aZz (E:=E) (T:=λt=>(lk t σ.T).map X.D) (H:=λk=>(lk k σ.H).map XO.A) t (aGD he) (by rw[ht];rfl) hN;unfold dS;rw[show mk (λt=>(lk t T').map X.D) (λk=>(lk k H').map XO.A) (σ.N+8)=_ from mk_eq (λt'=>?_) (λk'=>?_) rfl]
   .exact this
   .rw[hT];split <;> rfl
   .rw[hH];split <;> rfl
  .exact .same h
 .split at h
  .rename_i he
   exact aYS (aGD he) h
  .exact .same h
 .rename_i t τ
  split at h
  .rename_i q ht
   split at h
   .rename_i e xs hq
    split at h
    .rename_i y hy
     obtain⟨T',h,hT⟩:=jO h;obtain⟨H',h,hH⟩:=Db h;refine⟨_,h,id,λhN E=>?_⟩;have:=a0C (E:=E) (T:=λt=>(lk t σ.T).map X.D) (H:=λk=>(lk k σ.H).map XO.A) (N:=σ.N) t q (e:=e) (ds:=xs.map X.D) (ts:=aR τ y) (by rw[ht];rfl) (by rw[hq];rfl) (by rw[cW];exact aYq hy) (λi tr hi=>by
      obtain⟨d0,h1,h2⟩:=(oY hy).get i (.t tr) (by rw[cY,hi];rfl);exact⟨d0,h1,h2⟩)
     unfold dS;rw[show mk (λt=>(lk t T').map X.D) (λk=>(lk k H').map XO.A) σ.N=_ from mk_eq (λt'=>?_) (λk'=>?_) rfl]
     .exact this
     .rw[hT];split <;> rfl
     .rw[hH];split <;> rfl
    .exact .same h
   .exact .same h
  .exact .same h
 .split at h
  .exact a0U h
  .exact .same h
 .split at h
  .exact aWe h
  .exact .same h
 .split at h
  .exact aYd h
  .exact .same h
 .split at h
  .exact a0o h
  .exact .same h
theorem Tz:∀(l:List Mv)(σ:Sg)(k:Sg->O)(r:aM),NZ l σ k=some r->rJ σ k r
 |[],σ,k,r,h=>.same h
 |m::l,σ,k,r,h=>by
   obtain⟨σ1,h1,h2,h3⟩:=aY0 (m:=m) h;obtain⟨σ2,e1,e2,e3⟩:=Tz l σ1 k r h1;exact⟨σ2,e1,λh=>e2 (h2 h),λhN E=>dC.trans' (h3 hN E) (e3 (h2 hN) E)⟩
theorem aEA{τ:Ty}{y:τ.V}:(iE τ y).D=if τ.one then .t (n9 τ y)else .agg ((aR τ y).map .t):=by
 unfold iE;cases h:τ.one with
 |true=>simp only[o8 h];rfl
 |false=>simp only[X.D,fC,Df];rfl
theorem kO{H:Nat->Option aQ}{τ:Ty}{x:X}{y:τ.V}(h:iO τ x=some y):bV H x.D (iE τ y).D:=by
 rw[aEA];unfold iO at h;split at h
 .rename_i h1
  rw[aJ h1];exact oU h1 h
 .rename_i h1
  rw[aH (by rw[h1];simp)];split at h
  .unfold X.D
   rw[fC];exact bV.agg (oY h)
  .cases h
theorem a1B(σ:Vw)(τ:Ty)(x:X):bV σ.den.H x.D (VM σ τ x).D:=by
 unfold VM;split
 .rename_i y h
  exact(U8 σ x).trans (kO h)
 .exact bV.refl
theorem aEb{σ:Sg}{gv:List (Nat×Ty)}:∀(ts:List Nat)(T':XT),NM σ gv ts=some T'->∀t x',lk t T'=some x'->∃x,lk t σ.T=some x/\bV σ.vw.den.H x.D x'.D
 |[],T',h,t,x',ht=>by cases h;cases ht
 |t0::l,T',h,t,x',ht=>by
   unfold NM at h;split at h
   .rename_i x hx
    split at h
    .rename_i r hr
     cases h;unfold lk at ht;split at ht
     .rename_i he
      have he:=bF he;subst he;cases ht;refine⟨x,hx,?_⟩;split
      .exact a1B _ _ _
      .exact bV.refl
     .exact aEb l r hr t x' ht
    .cases h
   .cases h
mutual
theorem GG{H:Nat->Option aQ}{nm':Nat->Bool}{ρ:Nat->Nat}{f:Nat->Option Nat}(hf:∀k k',f k=some k'->nm' k'=true/\k=ρ k'):∀(x y:X),fG f x=some y->dW false H nm' ρ x.D y.D
 |.own q,y,h=>by
   unfold fG at h;split at h
   .rename_i q' hq;cases h;exact .own (hf _ _ hq).1 (hf _ _ hq).2
   .cases h
 |.ref q off,y,h=>by
   unfold fG at h;split at h
   .rename_i q' hq;cases h;exact .ref (hf _ _ hq).1 (hf _ _ hq).2
   .cases h
 |.rr q i j s,y,h=>by
   unfold fG at h;split at h
   .rename_i q' hq;cases h;exact .ref (hf _ _ hq).1 (hf _ _ hq).2
   .cases h
 |.agg xs,y,h=>by
   unfold fG at h;split at h
   .rename_i ys hy;cases h;exact .a1G (wJ hf xs ys hy)
   .cases h
 |.aU xs,y,h=>by
   unfold fG at h;split at h
   .rename_i ys hy;cases h;exact .Cu (wJ hf xs ys hy)
   .cases h
 |.fn g xs,y,h=>by
   unfold fG at h;split at h
   .rename_i ys hy;cases h;exact .fn' (wJ hf xs ys hy)
   .cases h
 |.e τ x,y,h=>by
   unfold fG at h;cases h;unfold X.D;split
   .exact .t rfl
   .exact .any
 |.bI,y,h=>by unfold fG at h;cases h;exact .t rfl
 |.pt τ x j,y,h=>by unfold fG at h;cases h;exact .ptr
 |.v w,y,h=>by unfold fG at h;cases h;exact .t rfl
 |.bit j q,y,h=>by unfold fG at h;cases h
 |.eP k c x,y,h=>by unfold fG at h;cases h
 |.sub _ _,y,h=>by unfold fG at h;cases h
 |.gY _ _ _,y,h=>by unfold fG at h;cases h
 |.vw _ _ _ _,y,h=>by unfold fG at h;cases h
 |.via k j,y,h=>by
   unfold fG at h;split at h
   .rename_i q' hq;cases h;exact .via (hf _ _ hq).1 (hf _ _ hq).2
   .cases h
 |.iP _,y,h=>by unfold fG at h;cases h
theorem wJ{H:Nat->Option aQ}{nm':Nat->Bool}{ρ:Nat->Nat}{f:Nat->Option Nat}(hf:∀k k',f k=some k'->nm' k'=true/\k=ρ k'):∀(xs ys:List X),mI f xs=some ys->rK false H nm' ρ (Ds xs) (Ds ys)
 |[],ys,h=>by unfold mI at h;cases h;exact .nil
 |x::l,ys,h=>by
   unfold mI at h;split at h
   .rename_i y hy
    split at h
    .rename_i r hr
     cases h;exact .cons (GG hf x y hy) (wJ hf l r hr)
    .cases h
   .cases h
end
theorem GH{H:Nat->Option aQ}{nm':Nat->Bool}{ρ:Nat->Nat}{f:Nat->Option Nat}(hf:∀k k',f k=some k'->nm' k'=true/\k=ρ k'){o o':XO}(h:qQ f o=some o'):hZ false H nm' ρ o.A o'.A:=by
 cases o with
 |box e xs=>
   simp only[qQ]at h;split at h
   .rename_i ys hy
    cases h;have:=wJ (H:=H) hf xs ys hy;rw[fC,fC]at this;exact .a0j this
   .cases h
 |row e τ l st=>simp only[qQ]at h;cases h;exact .row rfl rfl
 |nest e e' τ l=>simp only[qQ]at h;cases h;exact .nest rfl
 |bE e e' κ ρ' l ln=>
   have key:∀c∈b8 (eQ (κ:=κ) (ρ:=ρ')) l,ON false H nm' ρ c c:=λc hc=>by
    rcases aGU l c hc with⟨n,ts,rfl⟩|⟨t,rfl⟩
    .exact .cM
    .exact .d (.t rfl)
   simp only[qQ]at h;split at h
   .cases h
    exact .bE rfl (λi c c' h h'=>by
     have e:=fI (h.symm.trans h');subst e;exact key c (iA.2 ⟨i,h⟩))
   .rename_i i q
    split at h
    .rename_i q' hq
     cases h;refine .bE (by rw[N5,N5]) (λj c c' h h'=>?_);unfold jB at h h';by_cases hj:i.toNat*(1+ρ'.size)=j
     .subst hj
      have hlt:=(bU.1 h).1;rw[gF]at hlt;rw[l7 hlt]at h h';cases h;cases h';exact .d (GG (H:=H) hf (.own q) (.own q') (by unfold fG;rw[hq]))
     .rw[nA hj]at h h'
      have e:=fI (h.symm.trans h');subst e;exact key c (iA.2 ⟨j,h⟩)
    .cases h
 |it s pos=>
   simp only[qQ]at h;cases h;exact .it
 |mp τ l=>
   simp only[qQ]at h;split at h
   .rename_i r hr
    cases h;have key:∀(l r:List (τ.V×X)),NA f l=some r->l.length=r.length/\∀(i:Nat)(p p':τ.V×X),l[i]?=some p->r[i]?=some p'->p.1=p'.1/\dW false H nm' ρ p.2.D p'.2.D:=by
     intro l
     induction l with
     |nil=>intro r h;cases h;exact⟨rfl,λi p p' h=>by simp at h⟩
     |cons a l ih=>
       intro r h;obtain⟨k,x⟩:=a;unfold NA at h;split at h
       .rename_i y hy
        split at h
        .rename_i r' hr'
         cases h;obtain⟨h1,h2⟩:=ih r' hr';refine⟨by simp[h1],λi p p' hp hp'=>?_⟩;cases i with
         |zero=>simp at hp hp';subst hp hp';exact⟨rfl,GG hf _ _ hy⟩
         |succ i=>exact h2 i p p' (by simpa using hp) (by simpa using hp')
        .cases h
       .cases h
    obtain⟨h1,h2⟩:=key l r hr;refine .mp (by simp[h1]) (λi p p' hp hp'=>?_);rw[cY]at hp hp';obtain⟨a,ha,rfl⟩:=cR.1 hp;obtain⟨b,hb,rfl⟩:=cR.1 hp';obtain⟨e1,e2⟩:=h2 i a b ha hb;exact⟨by rw[e1],e2⟩
   .cases h
theorem aE4{f:Nat->Option Nat}:∀(T T':XT),Mz f T=some T'->∀t y,lk t T'=some y->∃x,lk t T=some x/\fG f x=some y
 |[],T',h,t,y,ht=>by cases h;cases ht
 |(t0,x0)::l,T',h,t,y,ht=>by
   unfold Mz at h;split at h
   .rename_i y0 hy
    split at h
    .rename_i r hr
     cases h;unfold lk at ht ⊢;split at ht
     .cases ht;exact⟨x0,rfl,hy⟩
     .exact aE4 l r hr t y ht
    .cases h
   .cases h
theorem qR{f:Nat->Option Nat}{H:Nat->Option XO}:∀(al:List (Nat×Nat))(H':XH),nZ f H al=some H'->∀k o',lk k H'=some o'->∃q o,lk k al=some q/\H q=some o/\qQ f o=some o'
 |[],H',h,k,o',hk=>by cases h;cases hk
 |(new,q)::l,H',h,k,o',hk=>by
   unfold nZ at h;split at h
   .rename_i o ho
    split at h
    .rename_i o1 h1
     split at h
     .rename_i r hr
      cases h;unfold lk at hk ⊢;split at hk
      .cases hk;exact⟨q,o,rfl,ho,h1⟩
      .exact qR l r hr k o' hk
     .cases h
    .cases h
   .cases h
theorem DJ{k new:Nat}:∀{rn:List (Nat×Nat)},old rn k=some new->(new,k)∈rn
 |[],h=>by cases h
 |(n,o)::l,h=>by
   unfold old at h;split at h
   .rename_i he
    have he:=bF he;subst he;cases h;exact List.mem_cons_self ..
   .exact mY _ (DJ h)
theorem mN{α:Type}{k:Nat}{x:α}{l:List (Nat×α)}(h:lk k l=some x):(k,x)∈l:=kS (by rw[<-N3];exact h)
theorem NW:∀{l:List Nat},qY l=true->l.Nodup
 |[],_=>List.nodup_nil
 |k::l,h=>by
   unfold qY at h;split at h
   .cases h
   .rename_i hc
    exact a1f.2 ⟨(λhm=>by rw[List.contains_iff_mem.2 hm]at hc;cases hc),NW h⟩
structure VX(rn al:List (Nat×Nat))(lo hi:Nat):Prop where
 iF:∀new q,(new,q)∈rn->lo<=new/\new<hi/\rB new=false/\bL rn new=q
 nd:(al.map (·.2)).Nodup
 al:∀k q,lk k al=some q->bL rn k=q/\(rB k=true\/∃q',(k,q')∈rn)
theorem DB{rn:List (Nat×Nat)}{k q:Nat}(h:lk k rn=some q):bL rn k=q:=by
 unfold bL;rw[<-N3,h]
theorem rA{k:Nat}:rB k=true ↔ 50<=k/\k<100:=by
 unfold rB;rw[bM];exact⟨λ⟨a,b⟩=>⟨fQ a,fQ b⟩,λ⟨a,b⟩=>⟨V3 a,V3 b⟩⟩
theorem TZ{rn al:List (Nat×Nat)}{lo hi:Nat}(h:GD rn al lo hi=true):VX rn al lo hi:=by
 unfold GD at h;simp only[bM]at h;obtain⟨⟨h1,h2⟩,h3⟩:=h;have hlk:∀{p:Nat×Nat},(match lk p.1 rn with|some q=>Nat.beq q p.2|none=>false)=true->lk p.1 rn=some p.2:=λ{p} h=>by
  split at h
  .rename_i q hq;rw[hq,bF h]
  .cases h
 have h1':∀p∈rn,lo<=p.1/\p.1<hi/\rB p.1=false/\lk p.1 rn=some p.2:=λp hp=>by
  have:=eG.1 h1 p hp;simp only[bM,Vg]at this;obtain⟨⟨⟨a,b⟩,c⟩,d⟩:=this;exact⟨fQ a,fQ b,c,hlk d⟩
 refine⟨λnew q hm=>?_,NW h2,λk q hk=>?_⟩
 .obtain⟨a,b,c,d⟩:=h1' _ hm
  exact⟨a,b,c,DB d⟩
 .have:=eG.1 h3 _ (mN hk)
  simp only[Bool.or_eq_true,bM]at this;rcases this with⟨a,b⟩|c
  .have hb:=bF b
   have hkH:=rA.1 a;refine⟨?_,.inl a⟩;rw[<-hb];unfold bL;cases hl:Ab.look k rn with
   |none=>rfl
   |some z=>
     have:=(h1' _ (kS hl)).2.2.1;simp only at this;rw[a]at this;cases this
  .have:=hlk (p:=(k,q)) c
   exact⟨DB this,.inr ⟨_,mN this⟩⟩
theorem VX.f{rn al:List (Nat×Nat)}{lo hi:Nat}(F:VX rn al lo hi)(hhi:hi<=100):∀k k',oV rn k=some k'->decide (k'<100)=true/\k=bL rn k':=λk k' h=>by
 unfold oV at h;split at h
 .rename_i hH
  cases h;refine⟨aO (rA.1 hH).2,?_⟩;unfold bL;cases hl:Ab.look k rn with
  |none=>rfl
  |some z=>
    have:=(F.iF _ _ (kS hl)).2.2.1;rw[hH]at this;cases this
 .obtain⟨a,b,c,d⟩:=F.iF _ _ (DJ h)
  exact⟨aO (by omega),d.symm⟩
theorem NV{al:List (Nat×Nat)}(h:(al.map (·.2)).Nodup):∀{a b q:Nat},(a,q)∈al->(b,q)∈al->a=b:=by
 induction al with
 |nil=>intro a b q ha;cases ha
 |cons p l ih=>
   intro a b q ha hb;rw[eX,a1f]at h;rcases dT.1 ha with e1|h1
   .rcases dT.1 hb with e2|h2
    .rw[<-e1]at e2;cases e2;rfl
    .exact absurd (dM.2 ⟨_,h2,by rw[<-e1]⟩) h.1
   .rcases dT.1 hb with e2|h2
    .exact absurd (dM.2 ⟨_,h1,by rw[<-e2]⟩) h.1
    .exact ih h.2 h1 h2
theorem a0D{E:Env}{T T':Nat->Option D}{H H':Nat->Option aQ}{N N':Nat}(ρ:Nat->Nat)(hT:∀t d',T' t=some d'->∃d,T t=some d/\dW false H (λk=>decide (k<N')) ρ d d')
    (hH:∀k o',H' k=some o'->k<N'/\∃o,H (ρ k)=some o/\hZ false H (λk=>decide (k<N')) ρ o o') (hinj:∀k k' o o',H' k=some o->H' k'=some o'->ρ k=ρ k'->k=k') (hid:∀k,50<=k->k<100->ρ k=k):dC E (mk T H N) (mk T' H' N'):=by
 intro tm w ⟨ν,G,I⟩;have hρ:∀k',decide (k'<N')=true->(mk T H N).nm (ρ k')=true->(λk=>ν (ρ k)) k'=ν (ρ k'):=λ_ _ _=>rfl
 refine⟨λk=>ν (ρ k),G,I.kept,I.dY,λk h1 h2=>?_,I.g0,I.sz,λt d' h=>?_,λk o' h=>?_,λk o k' o' h h' hne g hg=>?_⟩
 .show ν (ρ k)=_
  rw[hid k h1 h2];exact I.fA k h1 h2
 .obtain⟨d,hd,hle⟩:=hT t d' h
  obtain⟨v,hv,hvd⟩:=I.T t d hd;exact⟨v,hv,hle.rel (λ_ _ _ h=>h) I.rows hρ hvd⟩
 .obtain⟨hk,o,ho,hle⟩:=hH k o' h
  exact⟨aO hk,(I.H _ o ho).2.view hle I.rows hρ rfl (λ_ _ h=>h)⟩
 .obtain⟨_,o1,h1,l1⟩:=hH k o h
  obtain⟨_,o2,h2,l2⟩:=hH k' o' h';exact λhg'=>I.cK _ o1 _ o2 h1 h2 (λe=>hne (hinj k k' o o' h h' e)) g (l1.ft.1 hg) (l2.ft.1 hg')
theorem NU{nm:Nm}{σ:Sg}{k:Sg->O}{r:aM}(h:BA nm σ k=some r)(hN:100<=σ.N):∃σ',k σ'=some r/\σ'.N=100/\∀E,dC E (dS σ) (dS σ'):=by
 unfold BA at h;obtain⟨σ2,h,hN2,hE2⟩:=Tz _ _ _ _ h;obtain⟨T1,hp,h⟩:=bD h;simp only at h;split at h
 case h_2=>cases h
 rename_i hrn;have F:=TZ hrn;obtain⟨T2,hT2,h⟩:=bD h;obtain⟨H2,hH2,h⟩:=bD h;refine⟨_,h,rfl,λE=>(dC.trans' (hE2 hN E) (dC.trans' (b:=mk (λt=>(lk t T1).map X.D) (λk=>(lk k σ2.H).map XO.A) σ2.N) (a0G λt d' ht=>?_) ?_))⟩
 .obtain⟨x',hx',rfl⟩:=cR.1 ht
  obtain⟨x,e1,e2⟩:=aEb _ _ hp t x' hx';exact⟨x.D,by rw[e1];rfl,e2⟩
 .have hf:=F.f (by omega)
  refine a0D (bL (iQ 0 (reach σ2.vw.H 60 (Tx T1 (mP σ2.H)) []))) (λt d' ht=>?_) (λk o' hk=>?_) (λk k' o o' h1 h2 e=>?_) (λk h1 h2=>?_)
  .obtain⟨y,hy,rfl⟩:=cR.1 ht
   obtain⟨x,e1,e2⟩:=aE4 _ _ hT2 t y hy;exact⟨x.D,by rw[e1];rfl,GG hf x y e2⟩
  .obtain⟨y,hy,rfl⟩:=cR.1 hk
   obtain⟨q,o,e1,e2,e3⟩:=qR _ _ hH2 k y hy;obtain⟨a1,a2⟩:=F.al k q e1;refine⟨?_,o.A,by rw[a1];exact aY (aGf XO.A) e2,GH hf e3⟩;rcases a2 with a2|⟨q',a2⟩
   .exact(rA.1 a2).2
   .have:=(F.iF _ _ a2).2.1;show k<100;omega
  .obtain⟨y1,hy1,rfl⟩:=cR.1 h1
   obtain⟨y2,hy2,rfl⟩:=cR.1 h2;obtain⟨q1,_,e1,_,_⟩:=qR _ _ hH2 k y1 hy1;obtain⟨q2,_,e2,_,_⟩:=qR _ _ hH2 k' y2 hy2;rw[(F.al k q1 e1).1,(F.al k' q2 e2).1]at e;subst e;exact NV F.nd (mN e1) (mN e2)
  .unfold bL
   cases hl:Ab.look k _ with
   |none=>rfl
   |some z=>
     have:=(F.iF _ _ (kS hl)).2.2.1;rw[rA.2 ⟨h1,h2⟩]at this;cases this
end Go.Ax
/- Code, loops, functions. -/
namespace Go.Ax
open aB
open Go.RowKit Go.Ab
def tR(c:Cx)(M:Nat)(code:Code)(σ:Sg)(Post:Exit->Sg->Prop):Prop:=∀E:Env,E.m=M->gW c.P E code (λe s=>∃σ',Post e σ'/\dC E s (dS σ')) (dS σ)
def cF(c:Cx)(M:Nat)(code:Code){Y1 Y2 Y3:Type}(I1:Y1->Exit×Sg)(I2:Y2->Exit×Sg)(I3:Y3->Exit×Sg)(L:Sg->(Y1->O)->(Y2->O)->(Y3->O)->O):Prop:=∀σ k1 k2 k3 r,L σ k1 k2 k3=some r->σ.N=100->
 tR c M code σ λe σ'=>100<=σ'.N/\((∃y,k1 y=some r/\I1 y=(e,σ'))\/(∃y,k2 y=some r/\I2 y=(e,σ'))\/∃y,k3 y=some r/\I3 y=(e,σ'))
def bH(c:Cx)(M:Nat)(h:Hint)(code:Code):Prop:=match h with
 |.sub _ _ _ _ I1 I2 I3 L=>cF c M code I1 I2 I3 L
 |h=>match code with
   |.seq a b=>bH c M (match h with|.seq x _=>x|_=>.d) a/\bH c M (match h with|.seq _ y=>y|_=>.d) b
   |.cond _ a b=>bH c M (match h with|.cond x _=>x|_=>.d) a/\bH c M (match h with|.cond _ y=>y|_=>.d) b
   |.block _ a=>bH c M (match h with|.block x=>x|_=>.d) a
   |_=>True
termination_by structural code
theorem cX{c:Cx}{M:Nat}:∀code:Code,bH c M .d code
 |.skip=>trivial
 |.region ..=>trivial
 |.seq a b=>⟨cX a,cX b⟩
 |.cond _ a b=>⟨cX a,cX b⟩
 |.block _ a=>cX a
 |.loop _=>trivial
 |.rangeFunc ..=>trivial
 |.exit _=>trivial
 |.scope _=>trivial
 |.label _=>trivial
 |.goto _=>trivial
 |.ret=>trivial
 |.refuse _=>trivial
theorem Us{σ:Sg}{s:St}(h:fV σ.T σ.H s){E:Env}:dC E (mk s.T s.H σ.N) (dS σ):=aZv (λt d ht=>by
    obtain⟨x,hx,rfl⟩:=cR.1 ht;exact h.T t x hx) (λk o hk=>by
    obtain⟨x,hx,rfl⟩:=cR.1 hk;exact h.H k x hx)
theorem fV.den(σ:Sg):fV σ.T σ.H (dS σ):=⟨λt x h=>by show(lk t σ.T).map X.D=_;rw[h];rfl,λk o h=>by show(lk k σ.H).map XO.A=_;rw[h];rfl⟩
theorem Up{M:Nat}:∀{l:List Oper},Gf M l=true->(l.all λo=>match o.dst with|none=>true|some t=>decide (t<M))=true
 |[],_=>rfl
 |o::l,h=>by
   unfold Gf at h;rw[List.all_cons,bM];split at h
   .rename_i t ht
    split at h
    .rename_i hb
     exact⟨by rw[ht];exact aO (fQ hb),Up h⟩
    .cases h
   .rename_i ht
    exact⟨by rw[ht],Up h⟩
theorem aDv(n:Int)(h:0<=n/\n<256):(X.e .u8 (dV n.toNat)).D = .t (.v (.int .u8 n)):=by
 have:((dV n.toNat).toNat:Int)=n:=by
  rw[a1L];omega
 show D.t (.v (.int .u8 ((dV n.toNat).toNat:Int)))=_;rw[this]
theorem Tn{σ:Sg}{w:Value}{x:X}(h:qX w=some x):(dS σ).ev (.const w)=some x.D:=by
 have h1:∀v:Value,(∀vs,v≠.tuple vs)->(∀cs,v≠.agg cs)->(mK v).D = .t (.v v):=λv h1 h2=>by
  unfold mK;split
  .split
   .exact aDv _ (cT ‹_›)
   .rfl
  .rfl
  .rfl
  .rfl
  .rfl
  .rfl
 unfold qX at h;unfold St.ev;split at h
 .rename_i cs
  split at h
  .rename_i ha
   cases h;show(if xE (.agg cs)=true then some (oW (.agg cs))else none)=_;rw[aJ (show xE (.agg cs)=true from ha)];simp only[oW,X.D,fC,mZ]
   congr 2
   refine List.map_congr_left λv hv=>(h1 v (λvs e=>?_) (λcs' e=>?_)).symm
   .have:=eG.1 ha v hv;rw[e]at this;cases this
   .have:=eG.1 ha v hv;rw[e]at this;cases this
  .cases h
 .cases h
 .rename_i h2 h3
  cases h;rw[h1 w (λvs e=>h3 vs e) (λcs e=>h2 cs e)];cases w with
  |agg cs=>exact absurd rfl (h2 cs)
  |tuple vs=>exact absurd rfl (h3 vs)
  |_=>rfl
theorem aZs{σ:Sg}{x:Operand}{v:X}(h:σ.vw.ev x=some v):(dS σ).ev x=some v.D:=by
 cases x with
 |tmp t=>
   simp only[Vw.ev,Sg.vw]at h;split at h
   .rename_i y hy
    have e:(dS σ).ev (.tmp t)=some y.D:=by show(lk t σ.T).map X.D=_;rw[hy];rfl
    rw[e];unfold tA at h;split at h
    .cases h;rfl
    .cases h
    .cases h;rfl
   .cases h
 |const w=>exact Tn h
 |func f=>simp only[Vw.ev]at h;cases h;rfl
 |global g=>simp only[Vw.ev]at h;cases h;exact aY some (aFj g).symm
structure aK(c:Cx):Prop where
 mix:c.P.follows .mixedOrders=true
 step:OH c
 iP:OJ c
theorem UU{k:Exit->Sg->O}{e:Exit}{σ:Sg}{r:aM}(h:kk k (e,σ)=some r):k e σ=some r:=by
 unfold kk at h;split at h
 .cases h
 .exact h
theorem Ul{c:Cx}(hc:aK c){M:Nat}:∀(code:Code)(h:Hint)(σ:Sg)(k:Exit->Sg->O)(r:aM),exec c M h code σ k=some r->bH c M h code->100<=σ.N->tR c M code σ λe σ'=>100<=σ'.N/\k e σ'=some r:=by
 have sub:∀(code:Code) nm (Y1 Y2 Y3:Type) (I1:Y1->Exit×Sg) (I2:Y2->Exit×Sg) (I3:Y3->Exit×Sg) (L:Sg->(Y1->O)->(Y2->O)->(Y3->O)->O) (σ:Sg) (k:Exit->Sg->O) (r:aM),
     BA nm σ (λσ'=>L σ' (λy=>kk k (I1 y)) (λy=>kk k (I2 y)) (λy=>kk k (I3 y)))=some r->cF c M code I1 I2 I3 L->100<=σ.N->tR c M code σ λe σ'=>100<=σ'.N/\k e σ'=some r:=by
  intro code nm Y1 Y2 Y3 I1 I2 I3 L σ k r h hs hN E hE;obtain⟨σ1,h1,h2,h3⟩:=NU h hN;refine VL (h3 E) (tL (hs σ1 _ _ _ r h1 h2 E hE) ?_);rintro e s ⟨σ',⟨hN',hy⟩,hent⟩;refine⟨σ',⟨hN',?_⟩,hent⟩;rcases hy with⟨y,a,b⟩|⟨y,a,b⟩|⟨y,a,b⟩
  .rw[b]at a;exact UU a
  .rw[b]at a;exact UU a
  .rw[b]at a;exact UU a
 intro code
 induction code with
 |skip=>
   intro h σ k r he hh hN;cases h with
   |sub=>exact sub _ _ _ _ _ _ _ _ _ _ _ _ he hh hN
   |_=>exact λE hE=>a0p ⟨σ,⟨hN,he⟩,dC.qS⟩
 |label l=>
   intro h σ k r he hh hN;cases h with
   |sub=>exact sub _ _ _ _ _ _ _ _ _ _ _ _ he hh hN
   |_=>exact λE hE=>a0u ⟨σ,⟨hN,he⟩,dC.qS⟩
 |exit id=>
   intro h σ k r he hh hN;cases h with
   |sub=>exact sub _ _ _ _ _ _ _ _ _ _ _ _ he hh hN
   |_=>exact λE hE=>a0v ⟨σ,⟨hN,he⟩,dC.qS⟩
 |ret=>
   intro h σ k r he hh hN;cases h with
   |sub=>exact sub _ _ _ _ _ _ _ _ _ _ _ _ he hh hN
   |_=>exact λE hE=>a0r ⟨σ,⟨hN,he⟩,dC.qS⟩
 |loop a _=>
   intro h σ k r he hh hN;cases h with
   |sub=>exact sub _ _ _ _ _ _ _ _ _ _ _ _ he hh hN
   |_=>cases he
 |goto l=>
   intro h σ k r he hh hN;cases h with
   |sub=>exact sub _ _ _ _ _ _ _ _ _ _ _ _ he hh hN
   |_=>cases he
 |scope a _=>
   intro h σ k r he hh hN;cases h with
   |sub=>exact sub _ _ _ _ _ _ _ _ _ _ _ _ he hh hN
   |_=>cases he
 |refuse a=>
   intro h σ k r he hh hN;cases h with
   |sub=>exact sub _ _ _ _ _ _ _ _ _ _ _ _ he hh hN
   |_=>cases he
 |rangeFunc a b x y _ _=>
   intro h σ k r he hh hN;cases h with
   |sub=>exact sub _ _ _ _ _ _ _ _ _ _ _ _ he hh hN
   |_=>cases he
 |block id a ih=>
   intro h σ k r he hh hN;have go:∀x:Hint,bH c M x a->exec c M x a σ (λe σ'=>match e with
    |.exit id'=>match Nat.beq id' id with|true=>k .normal σ'|false=>k (.exit id') σ'
    |e=>k e σ')=some r->tR c M (.block id a) σ λe σ'=>100<=σ'.N/\k e σ'=some r:=λx hx hex E hE=>by
    refine a0z (tL (ih x σ _ r hex hx hN E hE) ?_);rintro e s ⟨σ',⟨hN',hk⟩,hent⟩;cases e with
    |exit id'=>
      simp only[Vh];simp only at hk;split at hk
      .rename_i hb
       rw[aJ (bF hb)];exact⟨σ',⟨hN',hk⟩,hent⟩
      .rename_i hb
       rw[aH (mT hb)];exact⟨σ',⟨hN',hk⟩,hent⟩
    |_=>exact⟨σ',⟨hN',hk⟩,hent⟩
   cases h with
   |sub=>exact sub _ _ _ _ _ _ _ _ _ _ _ _ he hh hN
   |block x=>exact go x hh he
   |_=>exact go .d hh he
 |cond z a b iha ihb=>
   intro h σ k r he hh hN;have go:∀x y:Hint,bH c M x a->bH c M y b->(ob (σ.vw.ev z) λv=>match v with
    |.e .bo q=>br q (exec c M x a σ k) (exec c M y b σ k)
    |_=>none)=some r->tR c M (.cond z a b) σ λe σ'=>100<=σ'.N/\k e σ'=some r:=λx y hx hy hex E hE=>by
    obtain⟨v,hv,hex⟩:=bD hex;split at hex
    case h_2=>cases hex
    rename_i q;have hev:=aZs hv;refine a0y (b:=q) hev (λhq=>?_) (λhq=>?_)
    .subst hq;exact iha x σ k r hex hx hN E hE
    .subst hq;exact ihb y σ k r hex hy hN E hE
   cases h with
   |sub=>exact sub _ _ _ _ _ _ _ _ _ _ _ _ he hh hN
   |cond x y=>exact go x y hh.1 hh.2 he
   |_=>exact go .d .d hh.1 hh.2 he
 |seq a b iha ihb=>
   intro h σ k r he hh hN;have go:∀x y:Hint,bH c M x a->bH c M y b->exec c M x a σ (λe σ'=>match e with
    |.normal=>exec c M y b σ' k
    |e=>k e σ')=some r->tR c M (.seq a b) σ λe σ'=>100<=σ'.N/\k e σ'=some r:=λx y hx hy hex E hE=>by
    refine a0q (tL (iha x σ _ r hex hx hN E hE) ?_);rintro e s ⟨σ',⟨hN',hk⟩,hent⟩;cases e with
    |normal=>exact VL hent (ihb y σ' k r hk hy hN' E hE)
    |_=>exact⟨σ',⟨hN',hk⟩,hent⟩
   cases h with
   |sub=>exact sub _ _ _ _ _ _ _ _ _ _ _ _ he hh hN
   |seq x y=>exact go x y hh.1 hh.2 he
   |_=>exact go .d .d hh.1 hh.2 he
 |region id ops draw=>
   intro h σ k r he hh hN;have go:∀(stF:List Nat)(sl:List Mv)(kl:List (List Nat)),NF c M stF sl kl ops draw σ k=some r->tR c M (.region id ops draw) σ λe σ'=>100<=σ'.N/\k e σ'=some r:=λstF sl kl hex E hE=>by
    unfold NF at hex;obtain⟨σ1,hex,hN1,hent⟩:=Tz _ _ _ _ hex
    dsimp only at hex
    refine VL (hent hN E) ?_;have hN':100<=σ1.N:=hN1 hN;clear hent;split at hex
    .cases hex
    rename_i hpl;obtain⟨l⟩:=ops;simp only at hex;split at hex
    .split at hex
     case h_2=>cases hex
     rename_i hd;obtain⟨ex,σ2,e1,e2,e3,e4⟩:=DG hc.step hc.iP l 0 σ1 _ r (dS σ1) (λ_=>false) hex (fV.den σ1) (λt x ht=>DI (Ta hpl t x ht));refine a0s (σ1.N+8*l.length) hE hN' rfl (Up hd) ?_;have:∀(Post Post':Exit->St->Prop)(hp:∀e s,Post e s->Post' e s)(ops:Array Oper)(l:List Oper)(fr:Nat)(s:St),l5 c.P ops Post l fr s->l5 c.P ops Post' l fr s:=by
      intro Post Post' hp ops l
      induction l with
      |nil=>intro fr s h;exact hp _ s h
      |cons o l ih=>
        intro fr s h;rcases h with⟨d,W,h1,h2⟩|⟨ι,C,d,W,h0,h1,h2⟩|⟨v,W,h0,h1,h2⟩
        .exact .inl ⟨d,W,h1,ih _ _ h2⟩
        .exact .inr (.inl ⟨ι,C,d,W,h0,h1,λi hi=>ih _ _ (h2 i hi)⟩)
        .exact .inr (.inr ⟨v,W,h0,h1,hp _ _ h2⟩)
     refine this _ _ (λe' s hs=>?_) _ _ _ _ e4;obtain⟨rfl,hs⟩:=hs;refine⟨σ2,⟨by rw[e2];omega,e1⟩,?_⟩;rw[<-e2];exact Us hs
    .split at hex
     case h_2=>cases hex
     rename_i ha;have e3:=Da (ops:=l.toArray) (pre:=GJ l []) (kl:=kl) (fr:=σ1.N) hc.step hc.iP (s:=dS σ1) (fV.den σ1).T (fV.den σ1).H (λt x ht=>Ta hpl t x ht) (fV.den σ1).H (n:=l.length) l 0 [] _ r (λ_=>false) hex rfl (by simp) (λp hp=>by cases hp);refine a0w (GJ l []) kl hc.mix hE hN' ha ?_;have:∀(Post Post':Exit->St->Prop)(hp:∀e s,Post e s->Post' e s)(ops:Array Oper)(pre kl:List (List Nat))(fr:Nat)(s:St)(l:List Oper)(i:Nat)(rs:Rs),oH c.P ops pre kl fr s Post l i rs->oH c.P ops pre kl fr s Post' l i rs:=by
      intro Post Post' hp ops pre kl fr s l
      induction l with
      |nil=>intro i rs h;exact hp _ _ h
      |cons o l ih=>
        intro i rs h;rcases h with⟨d,W,h1,h2,h3⟩|⟨v,W,h1,h2,h3,h4,h5⟩
        .exact .inl ⟨d,W,h1,h2,ih _ _ h3⟩
        .exact .inr ⟨v,W,h1,h2,h3,h4,hp _ _ h5⟩
     refine this _ _ (λe' s hs=>?_) _ _ _ _ _ _ _ _ e3;rcases hs with⟨rfl,rs,e1,e2,rfl⟩|⟨σ',e1,e2,e3⟩
     .obtain⟨T2,H2,e4,e5⟩:=aFo (ops:=l.toArray) (fr:=σ1.N) l 0 rs σ1.T σ1.H _ r (dS σ1) (λq o ho=>by rw[eD];simp[Region.fB,ho]) (by omega) e1 (fV.den σ1)
      obtain⟨T3,e6,e7,e8⟩:=GL e4;refine⟨⟨T3,H2,σ1.N+8*l.length⟩,⟨by show 100<=σ1.N+8*l.length;omega,e6⟩,?_⟩;exact Us (σ:=⟨T3,H2,σ1.N+8*l.length⟩) (e5.T' e7)
     .have e2':σ'.N=σ1.N+8*l.length:=by rw[e2];simp
      refine⟨σ',⟨by omega,e1⟩,?_⟩;rw[<-e2'];exact Us e3
   cases h with
   |sub=>exact sub _ _ _ _ _ _ _ _ _ _ _ _ he hh hN
   |fT a b d=>exact go a b d he
   |_=>exact go [] [] [] he
end Go.Ax
/- Loops and parts of the code as declarations of their own; functions. -/
namespace Go.Ax
open aB
open Go.RowKit Go.Ab
theorem aY6{c:Cx}(hc:aK c){M:Nat}{hb:Hint}{body:Code}(hh:bH c M hb body){nm:Nm}{out:List (Exit×Nm)}{n:Nat}{σ:Sg}{K:Exit->Sg->O}{r:aM}(h:n5 c M hb body nm out n σ K=some r)(hN:100<=σ.N):
    tR c M (.loop body) σ λe σ'=>100<=σ'.N/\K e σ'=some r:=by
 intro E hE;refine a0t (ι:=Nat×Sg) (λp=>dS p.2) (λp=>n5 c M hb body nm out p.1 p.2 K=some r/\100<=p.2.N) (λp=>p.1) (n,σ) dC.qS ⟨h,hN⟩ ?_;rintro⟨m,σ0⟩ ⟨h0,hN0⟩;simp only at h0 hN0;cases m with
 |zero=>cases h0
 |succ m=>
   unfold n5 at h0;refine tL (Ul hc body hb σ0 _ r h0 hh hN0 E hE) ?_;rintro e s ⟨σ1,⟨hN1,h1⟩,hent⟩;cases e with
   |normal=>
     obtain⟨σ2,e1,e2,e3⟩:=NU (k:=λσ'=>n5 c M hb body nm out m σ' K) h1 hN1;exact⟨(m,σ2),⟨e1,by rw[e2];exact cQ _⟩,Nat.lt_succ_self m,dC.trans' hent (e3 E)⟩
   |_=>
     unfold cZ at h1;obtain⟨nm',_,h1⟩:=bD h1;obtain⟨σ2,e1,e2,e3⟩:=NU h1 hN1;exact⟨σ2,⟨by rw[e2];exact cQ _,e1⟩,dC.trans' hent (e3 E)⟩
theorem aWz{c:Cx}(hc:aK c){M:Nat}{hb:Hint}{code:Code}(hh:bH c M hb code){out:List (Exit×Nm)}{σ:Sg}{K:Exit->Sg->O}{r:aM}(h:exec c M hb code σ (kR out K)=some r)(hN:100<=σ.N):
    tR c M code σ λe σ'=>100<=σ'.N/\K e σ'=some r:=by
 intro E hE;refine tL (Ul hc code hb σ _ r h hh hN E hE) ?_;rintro e s ⟨σ1,⟨hN1,h1⟩,hent⟩;unfold kR at h1;obtain⟨nm',_,h1⟩:=bD h1;obtain⟨σ2,e1,e2,e3⟩:=NU h1 hN1;exact⟨σ2,⟨by rw[e2];exact cQ _,e1⟩,dC.trans' hent (e3 E)⟩
section
variable{ι Y1 Y2 Y3:Type}{I:ι->Sg}{un:Sg->ι}{I1:Y1->Exit×Sg}{I2:Y2->Exit×Sg}{I3:Y3->Exit×Sg}
theorem cL{L:ι->(Y1->O)->(Y2->O)->(Y3->O)->O}(h:∀x,un (I x)=x)(x:ι)(k1:Y1->O)(k2:Y2->O)(k3:Y3->O):aP I un L (I x) k1 k2 k3=L x k1 k2 k3:=by
 unfold aP;rw[aJ (by rw[h]),h]
open Classical in
noncomputable def q8(u1:Exit->Sg->Y1)(u2:Exit->Sg->Y2)(u3:Exit->Sg->Y3)(I1:Y1->Exit×Sg)(I2:Y2->Exit×Sg)(I3:Y3->Exit×Sg)(k1:Y1->O)(k2:Y2->O)(k3:Y3->O)(e:Exit)(σ:Sg):O:=
 if I1 (u1 e σ)=(e,σ)then k1 (u1 e σ)else if I2 (u2 e σ)=(e,σ)then k2 (u2 e σ)else if I3 (u3 e σ)=(e,σ)then k3 (u3 e σ)else none
def gD:Exit->Nat
 |.normal=>0
 |.ret=>1
 |.panic _=>2
 |.outgrown=>3
 |.exit n=>4+2*n
 |.goto n=>5+2*n
structure xM(u1:Exit->Sg->Y1)(u2:Exit->Sg->Y2)(u3:Exit->Sg->Y3)(I1:Y1->Exit×Sg)(I2:Y2->Exit×Sg)(I3:Y3->Exit×Sg)(e1 e2 e3:Nat):Prop where
 h1:∀y,u1 (I1 y).1 (I1 y).2=y
 h2:∀y,u2 (I2 y).1 (I2 y).2=y
 h3:∀y,u3 (I3 y).1 (I3 y).2=y
 x1:∀y,gD (I1 y).1=e1
 x2:∀y,gD (I2 y).1=e2
 x3:∀y,gD (I3 y).1=e3
 n12:e1≠e2
 n13:e1≠e3
 n23:e2≠e3
theorem aFe{u1:Exit->Sg->Y1}{u2:Exit->Sg->Y2}{u3:Exit->Sg->Y3}{e1 e2 e3:Nat}(h:xM u1 u2 u3 I1 I2 I3 e1 e2 e3)(k1:Y1->O)(k2:Y2->O)(k3:Y3->O):(λy=>q8 u1 u2 u3 I1 I2 I3 k1 k2 k3 (I1 y).1 (I1 y).2)=k1:=by
 funext y
 unfold q8;rw[aJ (by rw[h.h1]),h.h1]
theorem aFd{u1:Exit->Sg->Y1}{u2:Exit->Sg->Y2}{u3:Exit->Sg->Y3}{e1 e2 e3:Nat}(h:xM u1 u2 u3 I1 I2 I3 e1 e2 e3)(k1:Y1->O)(k2:Y2->O)(k3:Y3->O):(λy=>q8 u1 u2 u3 I1 I2 I3 k1 k2 k3 (I2 y).1 (I2 y).2)=k2:=by
 funext y
 unfold q8;rw[aH (λe=>h.n12 (by have:=aY (λp=>gD p.1) e;simp only[h.x1]at this;rw[this];exact h.x2 y)),aJ (by rw[h.h2]),h.h2]
theorem aFc{u1:Exit->Sg->Y1}{u2:Exit->Sg->Y2}{u3:Exit->Sg->Y3}{e1 e2 e3:Nat}(h:xM u1 u2 u3 I1 I2 I3 e1 e2 e3)(k1:Y1->O)(k2:Y2->O)(k3:Y3->O):(λy=>q8 u1 u2 u3 I1 I2 I3 k1 k2 k3 (I3 y).1 (I3 y).2)=k3:=by
 funext y
 unfold q8;rw[aH (λe=>h.n13 (by have:=aY (λp=>gD p.1) e;simp only[h.x1]at this;rw[this];exact h.x3 y)),aH (λe=>h.n23 (by have:=aY (λp=>gD p.1) e;simp only[h.x2]at this;rw[this];exact h.x3 y)),aJ (by rw[h.h3]),h.h3]
theorem aFb{u1:Exit->Sg->Y1}{u2:Exit->Sg->Y2}{u3:Exit->Sg->Y3}{k1:Y1->O}{k2:Y2->O}{k3:Y3->O}{e:Exit}{σ:Sg}{r:aM}(h:q8 u1 u2 u3 I1 I2 I3 k1 k2 k3 e σ=some r):
    (∃y,k1 y=some r/\I1 y=(e,σ))\/(∃y,k2 y=some r/\I2 y=(e,σ))\/∃y,k3 y=some r/\I3 y=(e,σ):=by
 unfold q8 at h;split at h
 .exact .inl ⟨_,h,‹_›⟩
 .split at h
  .exact .inr (.inl ⟨_,h,‹_›⟩)
  .split at h
   .exact .inr (.inr ⟨_,h,‹_›⟩)
   .cases h
theorem dD{c:Cx}(hc:aK c){M:Nat}{hb:Hint}{body:Code}{nm:Nm}{out:List (Exit×Nm)}(hh:bH c M hb body){u1:Exit->Sg->Y1}{u2:Exit->Sg->Y2}{u3:Exit->Sg->Y3}{e1 e2 e3:Nat}(hO:xM u1 u2 u3 I1 I2 I3 e1 e2 e3)
    {L:ι->(Y1->O)->(Y2->O)->(Y3->O)->O} {n:Nat} (hL:∀x K,L x (λy=>K (I1 y).1 (I1 y).2) (λy=>K (I2 y).1 (I2 y).2) (λy=>K (I3 y).1 (I3 y).2)=n5 c M hb body nm out n (I x) K):
    cF c M (.loop body) I1 I2 I3 (aP I un L):=by
 intro σ k1 k2 k3 r h hN;unfold aP at h;split at h
 case isFalse=>cases h
 rename_i hσ;have:=hL (un σ) (q8 u1 u2 u3 I1 I2 I3 k1 k2 k3);rw[aFe hO,aFd hO,aFc hO,h,<-hσ]at this;intro E hE;refine tL (aY6 hc hh this.symm (by omega) E hE) ?_;rintro e s ⟨σ1,⟨h1,h2⟩,h3⟩;exact⟨σ1,⟨h1,aFb h2⟩,h3⟩
theorem mG{c:Cx}(hc:aK c){M:Nat}{hb:Hint}{code:Code}{out:List (Exit×Nm)}(hh:bH c M hb code){u1:Exit->Sg->Y1}{u2:Exit->Sg->Y2}{u3:Exit->Sg->Y3}{e1 e2 e3:Nat}(hO:xM u1 u2 u3 I1 I2 I3 e1 e2 e3)
    {L:ι->(Y1->O)->(Y2->O)->(Y3->O)->O} (hL:∀x K,L x (λy=>K (I1 y).1 (I1 y).2) (λy=>K (I2 y).1 (I2 y).2) (λy=>K (I3 y).1 (I3 y).2)=exec c M hb code (I x) (kR out K)):
    cF c M code I1 I2 I3 (aP I un L):=by
 intro σ k1 k2 k3 r h hN;unfold aP at h;split at h
 case isFalse=>cases h
 rename_i hσ;have:=hL (un σ) (q8 u1 u2 u3 I1 I2 I3 k1 k2 k3);rw[aFe hO,aFd hO,aFc hO,h,<-hσ]at this;intro E hE;refine tL (aWz hc hh this.symm (by omega) E hE) ?_;rintro e s ⟨σ1,⟨h1,h2⟩,h3⟩;exact⟨σ1,⟨h1,aFb h2⟩,h3⟩
theorem dE{c:Cx}{M:Nat}{hb:Hint}{body:Code}{nm:Nm}{out:List (Exit×Nm)}(l:Nat->ι->(Y1->O)->(Y2->O)->(Y3->O)->O)(h0:∀x k1 k2 k3,l 0 x k1 k2 k3=none)
    (hs:∀n (K:Exit->Sg->O),(∀x,l n x (λy=>K (I1 y).1 (I1 y).2) (λy=>K (I2 y).1 (I2 y).2) (λy=>K (I3 y).1 (I3 y).2)=n5 c M hb body nm out n (I x) K)->
     ∀x,l (n+1) x (λy=>K (I1 y).1 (I1 y).2) (λy=>K (I2 y).1 (I2 y).2) (λy=>K (I3 y).1 (I3 y).2)=exec c M hb body (I x) (cZ nm out (λσ=>n5 c M hb body nm out n σ K) K)):
    ∀n x (K:Exit->Sg->O),l n x (λy=>K (I1 y).1 (I1 y).2) (λy=>K (I2 y).1 (I2 y).2) (λy=>K (I3 y).1 (I3 y).2)=n5 c M hb body nm out n (I x) K:=by
 intro n
 induction n with
 |zero=>intro x K;exact h0 ..
 |succ n ih=>intro x K;exact hs n K (λx=>ih x K) x
end
def HA(H:XH):List (Nat×aQ):=H.map λp=>(p.1,p.2.A)
theorem wN{k:Nat}:∀{H:XH},Ab.look k (HA H)=(lk k H).map XO.A
 |[]=>rfl
 |(k',o)::H=>by
   have ih:=wN (k:=k) (H:=H);unfold HA at ih ⊢;simp only[eX];unfold Ab.look lk;by_cases e:k'=k
   .subst e;simp
   .rw[aH e,mM e];exact ih
theorem aFV:∀(l:List X)(t0 t:Nat),lk t (cA t0 l)=if t0<=t then l[t-t0]? else none
 |[],t0,t=>by simp[cA,lk]
 |x::l,t0,t=>by
   unfold cA lk;by_cases e:t0=t
   .subst e;simp
   .rw[mM e,]
    simp only;rw[aFV l (t0+1) t];by_cases h:t0<=t
    .rw[aJ h,aJ (by omega),show t-t0=(t-(t0+1))+1 by omega];simp
    .rw[aH h,aH (by omega)]
theorem a0M(xs:List X)(H:XH):dS ⟨cA 0 xs,H,100⟩=args (xs.map X.D) (HA H):=by
 unfold dS args;refine mk_eq (λt=>?_) (λk=>?_) rfl
 .simp[aFV]
 .exact wN.symm
def kC(o:XO):XO:=match o with
 |.row e τ l _=>.row e τ l true
 |.nest e e' τ l=>match τ.one with|true=>.row e (.sl τ) l true|false=>.nest e e' τ l
 |.bE e _ κ ρ l none=>TT e κ ρ l
 |o=>o
theorem wI:∀(H:XH)(k:Nat),lk k (k9 H)=(lk k H).map kC
 |[],k=>rfl
 |(k',o)::H,k=>by
   cases o with
   |row e τ l st=>
     unfold k9 lk;split
     .rfl
     .exact wI H k
   |box e xs=>
     unfold k9 lk;split
     .rfl
     .exact wI H k
   |nest e e' τ l=>
     unfold k9 lk;split
     .rfl
     .exact wI H k
   |it s pos=>
     unfold k9 lk;split
     .rfl
     .exact wI H k
   |mp τ l=>
     unfold k9 lk;split
     .rfl
     .exact wI H k
   |bE e e' κ ρ l ln=>
     cases ln with
     |none=>
       unfold k9 lk;split
       .rfl
       .exact wI H k
     |some p=>
       unfold k9 lk;split
       .rfl
       .exact wI H k
theorem aW7(o:XO):kC o=o\/Fx o=some (kC o):=by
 cases o with
 |row e τ l st=>
   cases st with
   |true=>exact .inl rfl
   |false=>exact .inr rfl
 |box e xs=>exact .inl rfl
 |mp τ l=>exact .inl rfl
 |it s pos=>exact .inl rfl
 |bE e e' κ ρ l ln=>
   cases ln with
   |none=>exact .inr rfl
   |some p=>exact .inl rfl
 |nest e e' τ l=>
   cases h:τ.one with
   |true=>exact .inr (by simp only[kC,Fx,h])
   |false=>exact .inl (by simp only[kC,h])
theorem aGA{E:Env}{σ:Sg}:∀(l:List Nat),dC E (dS σ) (mk (λt=>(lk t σ.T).map X.D) (λk=>((lk k σ.H).map λo=>if k∈l then kC o else o).map XO.A) σ.N)
 |[]=>by
   unfold dS;rw[mk_eq (T':=λt=>(lk t σ.T).map X.D) (H':=λk=>((lk k σ.H).map λo=>if k∈([]:List Nat)then kC o else o).map XO.A) (λ_=>rfl) (λk=>?_) rfl]
   .exact dC.qS
   .cases lk k σ.H <;> simp
 |q::l=>by
   refine dC.trans' (aGA l) ?_;by_cases hq:q∈l
   .rw[mk_eq (T':=λt=>(lk t σ.T).map X.D) (H':=λk=>((lk k σ.H).map λo=>if k∈q::l then kC o else o).map XO.A) (λ_=>rfl) (λk=>?_) rfl]
    .exact dC.qS
    .congr 2
     funext o
     by_cases hk:k∈l
     .rw[aJ hk,aJ (mY _ hk)]
     .rw[aH hk,aH (λh=>by rcases dT.1 h with h|h;exact hk (h ▸ hq);exact hk h)]
   .cases ho:lk q σ.H with
    |none=>
      rw[mk_eq (T':=λt=>(lk t σ.T).map X.D) (H':=λk=>((lk k σ.H).map λo=>if k∈q::l then kC o else o).map XO.A) (λ_=>rfl) (λk=>?_) rfl]
      .exact dC.qS
      .by_cases e:k=q
       .subst e;rw[ho];rfl
       .congr 2
        funext o
        by_cases hk:k∈l
        .rw[aJ hk,aJ (mY _ hk)]
        .rw[aH hk,aH (λh=>by rcases dT.1 h with h|h;exact e h;exact hk h)]
    |some o=>
      have other:∀k,k≠q->((lk k σ.H).map λo=>if k∈l then kC o else o)=((lk k σ.H).map λo=>if k∈q::l then kC o else o):=λk e=>by
       congr 1
       funext o
       by_cases hk:k∈l
       .rw[aJ hk,aJ (mY _ hk)]
       .rw[aH hk,aH (λh=>by rcases dT.1 h with h|h;exact e h;exact hk h)]
      rcases aW7 o with h|h
      .rw[mk_eq (T':=λt=>(lk t σ.T).map X.D) (H':=λk=>((lk k σ.H).map λo=>if k∈q::l then kC o else o).map XO.A) (λ_=>rfl) (λk=>?_) rfl]
       .exact dC.qS
       .by_cases e:k=q
        .subst e
         rw[ho];simp[hq,h]
        .rw[other k e]
      .have:=aES (q:=q) h (E:=E) (T:=λt=>(lk t σ.T).map X.D) (H:=λk=>((lk k σ.H).map λo=>if k∈l then kC o else o).map XO.A) (N:=σ.N) (by rw[ho];simp[hq])
       rw[mk_eq (T':=λt=>(lk t σ.T).map X.D) (H:=λj=>if q=j then some (kC o).A else((lk j σ.H).map λo=>if j∈l then kC o else o).map XO.A) (H':=λk=>((lk k σ.H).map λo=>if k∈q::l then kC o else o).map XO.A) (N:=σ.N) (λ_=>rfl) (λk=>?_) rfl]at this
       .exact this
       .by_cases e:q=k
        .subst e
         rw[aJ rfl,ho];simp
        .rw[aH e,other k (λh=>e h.symm)]
theorem aW6(σ:Sg)(E:Env):dC E (dS σ) (dS ⟨σ.T,k9 σ.H,σ.N⟩):=by
 have:=aGA (E:=E) (σ:=σ) (σ.H.map (·.1));unfold dS at this ⊢;rw[show(λk=>(lk k (k9 σ.H)).map XO.A)=λk=>((lk k σ.H).map λo=>if k∈σ.H.map (·.1)then kC o else o).map XO.A from ?_]
 .exact this
 funext k
 rw[wI];cases hk:lk k σ.H with
 |none=>rfl
 |some o=>
   have hm:k∈σ.H.map (·.1):=dM.2 ⟨_,mN hk,rfl⟩;simp[hm]
end Go.Ax
/- What functions give back; contracts. -/
namespace Go.Ax
open aB
open Go.RowKit Go.Ab
theorem a0f(c:Cx)(σ:Vw)(t:TypeId)(x:X):bV σ.den.H x.D (canon c σ t x).D:=by
 unfold canon;split
 .split
  .rename_i y h
   exact(U8 σ x).trans (kO h)
  .exact bV.refl
 .exact bV.refl
theorem OA(c:Cx)(σ:Vw):∀(ts:List TypeId)(xs:List X),dL σ.den.H (xs.map X.D) ((Di c σ ts xs).map X.D)
 |[],xs=>by
   have:Di c σ [] xs=xs:=by cases xs <;> rfl
   rw[this];exact dL.refl
 |t::ts,[]=>.nil
 |t::ts,x::xs=>.cons (a0f c σ t x) (OA c σ ts xs)
theorem aFR{α β:Type}{f:α->Option β}:∀{l:List α}{r:List β},wM f l=some r->l.length=r.length/\∀(i:Nat)(y:β),r[i]?=some y->∃x,l[i]?=some x/\f x=some y
 |[],r,h=>by cases h;exact⟨rfl,λi y h=>by simp at h⟩
 |x::l,r,h=>by
   unfold wM at h;split at h
   .rename_i y hy
    split at h
    .rename_i r' hr
     cases h;obtain⟨h1,h2⟩:=aFR hr;refine⟨by simp[h1],λi z hz=>?_⟩;cases i with
     |zero=>simp at hz;subst hz;exact⟨x,rfl,hy⟩
     |succ i=>exact h2 i z (by simpa using hz)
    .cases h
   .cases h
theorem aWg{P:Program}{σ:Sg}{rv:ResultVar}{x:X}(h:My P σ rv=some x):RV P (dS σ) rv x.D:=by
 cases rv with
 |tmp t=>
   simp only[My]at h;exact .tmp (by show(lk t σ.T).map X.D=_;rw[h];rfl)
 |cell p t=>
   simp only[My]at h;split at h
   .rename_i q hp
    have hp':(dS σ).T p=some (.ref q 0):=by show(lk p σ.T).map X.D=_;rw[hp];rfl
    split at h
    .rename_i e xs hq
     have hq':(dS σ).H q=some (.box e (xs.map X.D)):=by show(lk q σ.H).map XO.A=_;rw[hq];rfl
     split at h
     .rename_i m ys hr hs
      split at h
      .rename_i hb
       cases h;rw[X.D,fC];exact .row hp' hq' hr hs (by rw[cW];exact bF hb)
      .cases h
     .rename_i y hr
      cases h;exact .one hp' hq' hr
     .cases h
    .cases h
   .cases h
theorem aE2{E:Env}{σ:St}{tm:Array Value}{w:World}(ρ:Nat->Nat){d d1 r:D}{H':List (Nat×aQ)}(hR:R E σ tm w){v:Value}(hv:∀ν G,Inv E σ ν G w tm->DR ν σ.nm w G v d)(hw:bV σ.H d d1)
    (hle:dW false σ.H (λk=>decide (k<108)) ρ d1 r) (hH:∀k o',Ab.look k H'=some o'->k<108/\∃o,σ.H (ρ k)=some o/\hZ false σ.H (λk=>decide (k<108)) ρ o o')
    (hinj:∀k k' o o',Ab.look k H'=some o->Ab.look k' H'=some o'->ρ k=ρ k'->k=k') (hid:∀k,50<=k->k<100->ρ k=k):R { E with m:=1 } (res r H') #[v] w:=by
 obtain⟨ν,G,I⟩:=hR;have hρ:∀k',decide (k'<108)=true->σ.nm (ρ k')=true->(λk=>ν (ρ k)) k'=ν (ρ k'):=λ_ _ _=>rfl
 refine⟨λk=>ν (ρ k),G,⟨I.kept.os,I.kept.tape,I.kept.output,I.kept.size,I.kept.block⟩,I.dY,λk h1 h2=>?_,I.g0,rfl,λt d' h=>?_,λk o' h=>?_,λk o k' o' h h' hne g hg=>?_⟩
 .show ν (ρ k)=_
  rw[hid k h1 h2];exact I.fA k h1 h2
 .simp only at h
  split at h
  .rename_i e;subst e;cases h
   exact⟨v,rfl,hle.rel (λ_ _ _ h=>h) I.rows hρ (hw _ _ _ _ _ _ (λ_ _ h=>h) I v (hv ν G I))⟩
  .cases h
 .obtain⟨hk,o,ho,hle⟩:=hH k o' h
  exact⟨aO hk,(I.H _ o ho).2.view hle I.rows hρ rfl (λ_ _ h=>h)⟩
 .obtain⟨_,o1,h1,l1⟩:=hH k o h
  obtain⟨_,o2,h2,l2⟩:=hH k' o' h';exact λhg'=>I.cK _ o1 _ o2 h1 h2 (λe=>hne (hinj k k' o o' h h' e)) g (l1.ft.1 hg) (l2.ft.1 hg')
theorem aDw{ν:Nat->Value}{nm:Nat->Bool}{w:World}{G:bT}{vs:List Value}{ds:List D}(hl:vs.length=ds.length)(h:∀(i:Nat)(v:Value)(d:D),vs[i]?=some v->ds[i]?=some d->DR ν nm w G v d):DR ν nm w G (.tuple vs.toArray) (.aU ds):=
 .aU (by simpa using hl) λi u d hu hd=>h i u d (by simpa using hu) hd
theorem bV.aU{H:Nat->Option aQ}{a b:List D}(h:dL H a b):bV H (.aU a) (.aU b):=λE s ν G w tm hH I v hv=>by
 cases hv with
 |aU hl hr=>
   refine .aU (hl.trans h.len) (λi u d hu hd=>?_);obtain⟨d0,e0,hw⟩:=h.get i d hd;exact hw E s ν G w tm hH I u (hr i u d0 hu e0)
theorem aWf{P:Program}{fn:Func}{E:Env}{s:St}{tm:Array Value}{w:World}(hR:R E s tm w):∀{xs:List D},fn.results.toList.length=xs.length->xs.length<=5->(∀(i:Nat)(rv:ResultVar)(d:D),fn.results.toList[i]?=some rv->xs[i]?=some d->RV P s rv d)->
    ∃v,(results fn tm).run P w = .ok v w/\∀ν G,Inv E s ν G w tm->DR ν s.nm w G v (match xs with|[d]=>d|xs=>.aU xs):=by
 intro xs hl h3 hrv;have hres:fn.results=fn.results.toList.toArray:=by simp
 match hf:fn.results.toList,xs,hl with
 |[],[],_=>
   refine⟨.tuple #[],?_,λν G I=>.aU rfl (λi u d h=>by simp at h)⟩;rw[DC,hres,hf];simp
 |[p],[d],_=>
   obtain⟨v,hv,hd⟩:=(hrv 0 p d (by rw[hf];rfl) rfl).all hR;refine⟨v,?_,hd⟩;rw[DC,hres,hf];simp[hv]
 |[p1,p2],[d1,d2],_=>
   obtain⟨v1,hv1,hd1⟩:=(hrv 0 p1 d1 (by rw[hf];rfl) rfl).all hR;obtain⟨v2,hv2,hd2⟩:=(hrv 1 p2 d2 (by rw[hf];rfl) rfl).all hR;refine⟨.tuple #[v1,v2],?_,λν G I=>Mg (hd1 ν G I) (hd2 ν G I)⟩;rw[DC,hres,hf];simp[hv1,hv2]
 |[p1,p2,p3],[d1,d2,d3],_=>
   obtain⟨v1,hv1,hd1⟩:=(hrv 0 p1 d1 (by rw[hf];rfl) rfl).all hR;obtain⟨v2,hv2,hd2⟩:=(hrv 1 p2 d2 (by rw[hf];rfl) rfl).all hR;obtain⟨v3,hv3,hd3⟩:=(hrv 2 p3 d3 (by rw[hf];rfl) rfl).all hR;refine⟨.tuple #[v1,v2,v3],?_,λν G I=>aWE (hd1 ν G I) (hd2 ν G I) (hd3 ν G I)⟩;rw[DC,hres,hf];simp[hv1,hv2,hv3]
 |[p1,p2,p3,p4],[d1,d2,d3,d4],_=>
   obtain⟨v1,hv1,hd1⟩:=(hrv 0 p1 d1 (by rw[hf];rfl) rfl).all hR;obtain⟨v2,hv2,hd2⟩:=(hrv 1 p2 d2 (by rw[hf];rfl) rfl).all hR;obtain⟨v3,hv3,hd3⟩:=(hrv 2 p3 d3 (by rw[hf];rfl) rfl).all hR;obtain⟨v4,hv4,hd4⟩:=(hrv 3 p4 d4 (by rw[hf];rfl) rfl).all hR;refine⟨.tuple #[v1,v2,v3,v4],?_,λν G I=>aDw (vs:=[v1,v2,v3,v4]) rfl λi v d h1 h2=>?_⟩
   .rw[DC,hres,hf]
    simp[hv1,hv2,hv3,hv4]
   .match i,h1,h2 with
    |0,h1,h2=>cases h1;cases h2;exact hd1 ν G I
    |1,h1,h2=>cases h1;cases h2;exact hd2 ν G I
    |2,h1,h2=>cases h1;cases h2;exact hd3 ν G I
    |3,h1,h2=>cases h1;cases h2;exact hd4 ν G I
    |i+4,h1,_=>simp at h1
 |[p1,p2,p3,p4,p5],[d1,d2,d3,d4,d5],_=>
   obtain⟨v1,hv1,hd1⟩:=(hrv 0 p1 d1 (by rw[hf];rfl) rfl).all hR;obtain⟨v2,hv2,hd2⟩:=(hrv 1 p2 d2 (by rw[hf];rfl) rfl).all hR;obtain⟨v3,hv3,hd3⟩:=(hrv 2 p3 d3 (by rw[hf];rfl) rfl).all hR;obtain⟨v4,hv4,hd4⟩:=(hrv 3 p4 d4 (by rw[hf];rfl) rfl).all hR;obtain⟨v5,hv5,hd5⟩:=(hrv 4 p5 d5 (by rw[hf];rfl) rfl).all hR;refine⟨.tuple #[v1,v2,v3,v4,v5],?_,λν G I=>aDw (vs:=[v1,v2,v3,v4,v5]) rfl λi v d h1 h2=>?_⟩
   .rw[DC,hres,hf]
    simp[hv1,hv2,hv3,hv4,hv5]
   .match i,h1,h2 with
    |0,h1,h2=>cases h1;cases h2;exact hd1 ν G I
    |1,h1,h2=>cases h1;cases h2;exact hd2 ν G I
    |2,h1,h2=>cases h1;cases h2;exact hd3 ν G I
    |3,h1,h2=>cases h1;cases h2;exact hd4 ν G I
    |4,h1,h2=>cases h1;cases h2;exact hd5 ν G I
    |i+5,h1,_=>simp at h1
 |a::b::c::d::e::f::l,xs,hl=>simp at hl;omega
theorem aZm{c:Cx}{fn:Func}{ow:Bool}{e:Exit}{σ:Sg}{r:aM}(h:D5 c fn ow e σ=some r):(e = .normal\/e = .ret)/\∀(E:Env)(tm:Array Value)(w:World),R E (dS σ) tm w->∃v,(results fn tm).run c.P w = .ok v w/\R { E with m:=1 } (res r.1.D (HA r.2)) #[v] w:=by
 unfold D5 at h;split at h
 case h_2=>cases h
 rename_i he;refine⟨(by cases e <;> first|exact .inl rfl|exact .inr rfl|cases he),λE tm w hR=>?_⟩;clear he;have hR1:R E (dS (Mt ow σ)) tm w:=by
  cases ow
  .exact aW6 σ E tm w hR
  .exact hR
 obtain⟨σ1,hσ1⟩:∃σ1,Mt ow σ=σ1:=⟨_,rfl⟩
 rw[hσ1]at hR1;simp only[hσ1]at h;clear hR hσ1;obtain⟨xs,hxs,h⟩:=bD h;obtain⟨ys,hys⟩:∃ys,VD c fn ow σ1 xs=ys:=⟨_,rfl⟩
 simp only[hys]at h;have hw:dL (dS σ1).H (xs.map X.D) (ys.map X.D):=by
  rw[<-hys];cases ow
  .exact OA c σ1.vw _ xs
  .exact dL.refl
 clear hys;split at h
 case h_2=>cases h
 rename_i hrn;have F:=TZ hrn;obtain⟨zs,hzs,h⟩:=bD h;obtain⟨H',hH',h⟩:=bD h;obtain⟨m1,m2⟩:=aFR hxs;have hlen:xs.length=ys.length:=by have:=hw.len;simpa using this
 have hf:∀k k',oV (iQ 100 (reach σ1.vw.H 60 (jU ys (live σ1.H)) [])) k=some k'->decide (k'<108)=true/\k=bL (iQ 100 (reach σ1.vw.H 60 (jU ys (live σ1.H)) [])) k':=λk k' hk=>by
  unfold oV at hk;split at hk
  .rename_i hH
   cases hk;refine⟨aO (by have:=(rA.1 hH).2;omega),?_⟩;unfold bL;cases hl:Ab.look k _ with
   |none=>rfl
   |some z=>
     have:=(F.iF _ _ (kS hl)).2.2.1;rw[hH]at this;cases this
  .obtain⟨_,b,_,d⟩:=F.iF _ _ (DJ hk)
   exact⟨aO b,d.symm⟩
 have hren:=wJ (H:=(dS σ1).H) (nm':=λk=>decide (k<108)) hf ys zs hzs;have hzl:ys.length=zs.length:=by have:=hren.get.1;simpa[fC]using this
 -- objects
 have hHH:∀k o',Ab.look k (HA H')=some o'->k<108/\∃o,(dS σ1).H (bL (iQ 100 (reach σ1.vw.H 60 (jU ys (live σ1.H)) [])) k)=some o/\hZ false (dS σ1).H (λk=>decide (k<108)) (bL (iQ 100 (reach σ1.vw.H 60 (jU ys (live σ1.H)) []))) o o':=λk o' hk=>by
  rw[wN]at hk;obtain⟨y,hy,rfl⟩:=cR.1 hk;obtain⟨q,o,e1,e2,e3⟩:=qR _ _ hH' k y hy;obtain⟨a1,a2⟩:=F.al k q e1;refine⟨?_,o.A,by rw[a1];exact aY (aGf XO.A) e2,GH hf e3⟩;rcases a2 with a2|⟨q',a2⟩
  .have:=(rA.1 a2).2;omega
  .exact(F.iF _ _ a2).2.1
 have hinj:∀k k' o o',Ab.look k (HA H')=some o->Ab.look k' (HA H')=some o'->bL (iQ 100 (reach σ1.vw.H 60 (jU ys (live σ1.H)) [])) k=bL (iQ 100 (reach σ1.vw.H 60 (jU ys (live σ1.H)) [])) k'->k=k':=λk k' o o' h1 h2 e=>by
  rw[wN]at h1 h2;obtain⟨y1,hy1,rfl⟩:=cR.1 h1;obtain⟨y2,hy2,rfl⟩:=cR.1 h2;obtain⟨q1,_,e1,_,_⟩:=qR _ _ hH' k y1 hy1;obtain⟨q2,_,e2,_,_⟩:=qR _ _ hH' k' y2 hy2;rw[(F.al k q1 e1).1,(F.al k' q2 e2).1]at e;subst e;exact NV F.nd (mN e1) (mN e2)
 have hid:∀k,50<=k->k<100->bL (iQ 100 (reach σ1.vw.H 60 (jU ys (live σ1.H)) [])) k=k:=λk h1 h2=>by
  unfold bL;cases hl:Ab.look k _ with
  |none=>rfl
  |some z=>
    have:=(F.iF _ _ (kS hl)).2.2.1;rw[rA.2 ⟨h1,h2⟩]at this;cases this
 have hlen3:xs.length<=5:=by
  rw[hlen,hzl];split at h
  .simp
  .simp
  .simp
  .simp
  .simp
  .simp
  .cases h
 obtain⟨v,hv1,hv2⟩:=aWf (P:=c.P) (fn:=fn) hR1 (xs:=xs.map X.D) (by rw[cW];exact m1) (by rw[cW];exact hlen3) (λi rv d h1 h2=>by
  rw[cY]at h2;obtain⟨x,hx,rfl⟩:=cR.1 h2;obtain⟨rv',h3,h4⟩:=m2 i x hx;rw[h1]at h3;cases h3;exact aWg h4)
 refine⟨v,hv1,?_⟩;have hdw:bV (dS σ1).H (match xs.map X.D with|[d]=>d|xs=>.aU xs) (match ys.map X.D with|[d]=>d|xs=>.aU xs):=by
  match xs,ys,hlen,hw with
  |[],[],_,_=>exact bV.refl
  |[x],[y],_,hw=>cases hw with|cons h _=>exact h
  |x1::x2::xs,y1::y2::ys,_,hw=>exact bV.aU hw
 have hdl:dW false (dS σ1).H (λk=>decide (k<108)) (bL (iQ 100 (reach σ1.vw.H 60 (jU ys (live σ1.H)) []))) (match ys.map X.D with|[d]=>d|xs=>.aU xs) r.1.D/\r.2=H':=by
  have hy3:ys.length<=5:=by omega
  match ys,zs,hzl,hren,h,hy3 with
  |[],[],_,hren,h,_=>cases h;exact⟨.Cu hren,rfl⟩
  |[y],[z],_,hren,h,_=>cases h;cases hren with|cons h _=>exact⟨h,rfl⟩
  |[y1,y2],[z1,z2],_,hren,h,_=>cases h;exact⟨.Cu hren,rfl⟩
  |[y1,y2,y3],[z1,z2,z3],_,hren,h,_=>cases h;exact⟨.Cu hren,rfl⟩
  |[y1,y2,y3,y4],[z1,z2,z3,z4],_,hren,h,_=>cases h;exact⟨.Cu hren,rfl⟩
  |[y1,y2,y3,y4,y5],[z1,z2,z3,z4,z5],_,hren,h,_=>cases h;exact⟨.Cu hren,rfl⟩
  |_::_::_::_::_::_::_,_,_,_,_,hy3=>simp at hy3
 rw[hdl.2];exact aE2 _ hR1 hv2 hdw hdl.1 hHH hinj hid
theorem aWi{f:Nat->Option Nat}{x y:X}(h:fG f x=some y)(v:Value):y≠.iP v:=λe=>by
 subst e;cases x <;> unfold fG at h <;> first|cases h|(split at h <;> cases h)
theorem aWj{f:Nat->Option Nat}{xs:List X}{z:X}(h:mI f xs=some [z]):∃x,fG f x=some z:=by
 cases xs with
 |nil=>cases h
 |cons x l=>
   unfold mI at h;split at h
   .rename_i y hy
    split at h
    .cases h;exact⟨x,hy⟩
    .cases h
   .cases h
theorem aZn{c:Cx}{fn:Func}{ow:Bool}{e:Exit}{σ:Sg}{r:aM}(h:D5 c fn ow e σ=some r)(v:Value):r.1≠.iP v:=by
 unfold D5 at h;split at h
 case h_2=>cases h
 obtain⟨xs,hxs,h⟩:=bD h;obtain⟨ys,hys⟩:∃ys,VD c fn ow (Mt ow σ) xs=ys:=⟨_,rfl⟩
 simp only[hys]at h;split at h
 case h_2=>cases h
 obtain⟨zs,hzs,h⟩:=bD h;obtain⟨H',hH',h⟩:=bD h;split at h
 .cases h
  obtain⟨x,hx⟩:=aWj hzs;exact aWi hx v
 all_goals first|(cases h;exact λe=>by cases e)|cases h
theorem aFx{ch:List PanicEntry}{σ:Sg}{r:aM}(h:Nl ch σ=some r):∃v,r.1 = .iP v/\ch=[qW v]/\∀(E:Env)(tm:Array Value)(w:World),R E (dS σ) tm w->R { E with m:=1 } (res .any (HA r.2)) #[undef] w:=by
 unfold Nl at h;split at h
 case h_2=>cases h
 rename_i p;split at h
 .cases h
 rename_i hp
 dsimp only at h
 split at h
 case h_2=>cases h
 rename_i hrn;have F:=TZ hrn;obtain⟨H',hH',h⟩:=bD h;cases h;refine⟨p.v,rfl,?_,λE tm w hR=>?_⟩
 .obtain⟨v,a,b⟩:=p
  rw[Bool.or_eq_false_iff]at hp;obtain⟨h1,h2⟩:=hp;simp only at h1 h2;subst h1 h2;rfl
 have hf:∀k k',oV (iQ 100 (reach σ.vw.H 60 (mP σ.H) [])) k=some k'->decide (k'<108)=true/\k=bL (iQ 100 (reach σ.vw.H 60 (mP σ.H) [])) k':=λk k' hk=>by
  unfold oV at hk;split at hk
  .rename_i hH
   cases hk;refine⟨aO (by have:=(rA.1 hH).2;omega),?_⟩;unfold bL;cases hl:Ab.look k _ with
   |none=>rfl
   |some z=>
     have:=(F.iF _ _ (kS hl)).2.2.1;rw[hH]at this;cases this
  .obtain⟨_,b,_,d⟩:=F.iF _ _ (DJ hk)
   exact⟨aO b,d.symm⟩
 have hHH:∀k o',Ab.look k (HA H')=some o'->k<108/\∃o,(dS σ).H (bL (iQ 100 (reach σ.vw.H 60 (mP σ.H) [])) k)=some o/\hZ false (dS σ).H (λk=>decide (k<108)) (bL (iQ 100 (reach σ.vw.H 60 (mP σ.H) []))) o o':=λk o' hk=>by
  rw[wN]at hk;obtain⟨y,hy,rfl⟩:=cR.1 hk;obtain⟨q,o,e1,e2,e3⟩:=qR _ _ hH' k y hy;obtain⟨a1,a2⟩:=F.al k q e1;refine⟨?_,o.A,by rw[a1];exact aY (aGf XO.A) e2,GH hf e3⟩;rcases a2 with a2|⟨q',a2⟩
  .have:=(rA.1 a2).2;omega
  .exact(F.iF _ _ a2).2.1
 have hinj:∀k k' o o',Ab.look k (HA H')=some o->Ab.look k' (HA H')=some o'->bL (iQ 100 (reach σ.vw.H 60 (mP σ.H) [])) k=bL (iQ 100 (reach σ.vw.H 60 (mP σ.H) [])) k'->k=k':=λk k' o o' h1 h2 e=>by
  rw[wN]at h1 h2;obtain⟨y1,hy1,rfl⟩:=cR.1 h1;obtain⟨y2,hy2,rfl⟩:=cR.1 h2;obtain⟨q1,_,e1,_,_⟩:=qR _ _ hH' k y1 hy1;obtain⟨q2,_,e2,_,_⟩:=qR _ _ hH' k' y2 hy2;rw[(F.al k q1 e1).1,(F.al k' q2 e2).1]at e;subst e;exact NV F.nd (mN e1) (mN e2)
 have hid:∀k,50<=k->k<100->bL (iQ 100 (reach σ.vw.H 60 (mP σ.H) [])) k=k:=λk h1 h2=>by
  unfold bL;cases hl:Ab.look k _ with
  |none=>rfl
  |some z=>
    have:=(F.iF _ _ (kS hl)).2.2.1;rw[rA.2 ⟨h1,h2⟩]at this;cases this
 exact aE2 (d:=.any) (d1:=.any) _ hR (λ_ _ _=>.any) bV.refl .any hHH hinj hid
def tW(P:Program)(f:FuncId)(ds:List D)(H:List (Nat×aQ))(r:aM):Prop:=match r.1 with
 |.iP v=>HN P f ds H v (HA r.2)
 |x=>dO P f ds H x.D (HA r.2)
theorem tW.of{P:Program}{f:FuncId}{ds:List D}{H:List (Nat×aQ)}{r:aM}(h:∀v,r.1≠.iP v)(k:dO P f ds H r.1.D (HA r.2)):tW P f ds H r:=by
 obtain⟨x,H'⟩:=r;unfold tW;cases x with
 |iP v=>exact absurd rfl (h v)
 |_=>exact k
theorem aFm{c:Cx}(hc:aK c){f:FuncId}{fn:Func}{code:Code}(hf:c.P.funcs[f]?=some fn)(hb:fn.body=some code){h:Hint}(hh:bH c fn.ntmps h code){xs:List X}{H:XH}(hm:xs.length<=fn.ntmps){ow:Bool}{r:aM}
    (he:exec c fn.ntmps h code ⟨cA 0 xs,H,100⟩ (cD c fn ow)=some r):tW c.P f (xs.map X.D) (HA H) r:=by
 have key:∀E:Env,E.m=fn.ntmps->gW c.P E code _ (args (xs.map X.D) (HA H)):=λE hE=>a0M xs H ▸ Ul hc code h _ _ r he hh (cQ _) E hE
 have fin:∀{e:Exit}{σ:Sg},cD c fn ow e σ=some r->(∃ch,e = .panic ch/\Nl ch σ=some r)\/D5 c fn ow e σ=some r:=λ{e σ} h=>by
  unfold cD at h;split at h
  .exact .inl ⟨_,rfl,h⟩
  .exact .inr h
 by_cases hp:∃v,r.1 = .iP v
 .obtain⟨v,hv⟩:=hp
  have:tW c.P f (xs.map X.D) (HA H) r=HN c.P f (xs.map X.D) (HA H) v (HA r.2):=by unfold tW;rw[hv]
  rw[this];refine aWW hf hb (by rw[cW];exact hm) λE hE=>tL (key E hE) ?_
  rintro e s ⟨σ',⟨_,h1⟩,hent⟩;rcases fin h1 with⟨ch,rfl,h1⟩|h1
  .obtain⟨v',e1,e2,e3⟩:=aFx h1
   rw[hv]at e1;cases e1;exact⟨e2,λtm w hR=>e3 E tm w (hent tm w hR)⟩
  .exact absurd hv (aZn h1 v)
 .refine tW.of (λv hv=>hp ⟨v,hv⟩) (aWX hf hb (by rw[cW];exact hm) λE hE=>tL (key E hE) ?_)
  rintro e s ⟨σ',⟨_,h1⟩,hent⟩;rcases fin h1 with⟨ch,rfl,h1⟩|h1
  .obtain⟨v',e1,_⟩:=aFx h1
   exact absurd ⟨v',e1⟩ hp
  .obtain⟨h2,h3⟩:=aZm h1
   rcases h2 with rfl|rfl
   .exact λtm w hR=>h3 E tm w (hent tm w hR)
   .exact λtm w hR=>h3 E tm w (hent tm w hR)
def aX(P:Program)(f:FuncId)(g:bR):Prop:=∀xs H pre r,g xs H=some (pre,r)->pre=true->dO P f (xs.map X.D) (HA H) r.1.D (HA r.2)
def aHE(P:Program)(f:FuncId)(g:tV):Prop:=∀xs H pre b r rp,g xs H=some (pre,b,r,rp)->pre=true->(b=some true->dO P f (xs.map X.D) (HA H) r.1.D (HA r.2))/\(b≠some true->∀v,rp.1 = .iP v->HN P f (xs.map X.D) (HA H) v (HA rp.2))
def DL (P : Program) (f : FuncId) : Bool := match P.funcs[f]? with | some fn => !(decide (fn.name = "runtime.NumGoroutine")) | none => true
def oF(P:Program)(G:List (Nat×bR)):Prop:=∀f g,lk f G=some g->DL P f=true/\aX P f g
theorem oF.nil{P:Program}:oF P []:=λf g h=>by cases h
theorem oF.cons{P:Program}{f:Nat}{g:bR}{G:List (Nat×bR)}(hn:DL P f=true)(h:aX P f g)(k:oF P G):oF P ((f,g)::G):=λf' g' h'=>by
 unfold lk at h';split at h'
 .rename_i he
  have:=bF he;subst this;cases h';exact⟨hn,h⟩
 .exact k f' g' h'
end Go.Ax
/- Operations: what a look-up is, numbers, truth values, strings. -/
namespace Go.Ax
open aB
open Go.RowKit Go.Ab
abbrev BD(g:Option Bool):Prop:=∀c,g=some c->c=true
theorem mS{g:Option Bool}{b:Bool}{k:O}{r:aM}(h:kI g b k=some r):k=some r/\(BD g->b=true):=by
 unfold kI at h;split at h
 .exact⟨(fH h).2,λ_=>(fH h).1⟩
 .rename_i c
  refine⟨(fH h).2,λhg=>?_⟩;have:=(fH h).1;rw[hg c rfl]at this;simpa using this
theorem D2{g:Option Bool}{τ:Ty}{l:List τ.V}{n:Int}{k:τ.V->O}{r:aM}(h:w6 g τ l n k=some r):∃y,k y=some r/\(BD g->0<=n/\l[n.toNat]?=some y):=by
 unfold w6 at h;split at h
 .obtain⟨y,h1,h2,h3⟩:=G4 h
  exact⟨y,h3,λ_=>⟨h1,h2⟩⟩
 .rename_i c
  change U9 c τ.zero l n k=some r at h;unfold U9 at h;cases c with
  |true=>
    obtain⟨y,h1,h2,h3⟩:=G4 h;exact⟨y,h3,λ_=>⟨h1,h2⟩⟩
  |false=>exact⟨_,h,λhg=>by have:=hg false rfl;cases this⟩
theorem Vw.On.g{σ:Vw}(h:σ.On):BD (σ.g.map (·.2)):=λc hc=>by
 obtain⟨p,hp,rfl⟩:=cR.1 hc;exact h p.1 p.2 hp
theorem So{g:Option (Nat×Bool)}{x v:X}(h:tA g x=some v):v.pl=true:=by
 unfold tA at h;split at h
 .cases h;rfl
 .split at h
  .split at h
   .split at h
    .cases h;rfl
    .cases h
    .rename_i h1 h2
     cases h;cases v with
     |bit j q=>exact absurd rfl (h1 j q)
     |eP a b c=>exact absurd rfl (h2 a b c)
     |_=>rfl
   .cases h
  .cases h
 .rename_i h1 h2
  cases h;cases x with
  |bit j q=>exact absurd rfl (h1 j q)
  |eP a b c=>exact absurd rfl (h2 a b c)
  |_=>rfl
theorem Sp{κ:Nat->Bool}{g:Option (Nat×Bool)}{x v:X}(hg:Good κ x)(hκ:∀key c,g=some (key,c)->c=κ key)(hon:∀key c,g=some (key,c)->c=true)(h:tA g x=some v):x.D=v.D:=by
 unfold tA at h;split at h
 .cases h;rfl
 .rename_i key c y
  split at h
  .rename_i key' c'
   split at h
   .rename_i hb
    have hb:=bF hb;subst hb;have hc:c=true:=hg.1.trans ((hκ _ _ rfl).symm.trans (hon _ _ rfl));subst hc;split at h
    .cases h;rfl
    .cases h
    .cases h;rfl
   .cases h
  .cases h
 .cases h;rfl
theorem aYP(w:Value):(mK w).pl=true:=by
 unfold mK;split
 .split <;> rfl
 all_goals rfl
theorem aYO{w:Value}{x:X}(h:qX w=some x):x.pl=true:=by
 unfold qX at h;split at h
 .split at h
  .cases h;rfl
  .cases h
 .cases h
 .cases h;exact aYP w
theorem aYy(g:Nat):(G6 g).pl=true:=rfl
theorem xA{σ:Vw}{x:Operand}{v:X}(h:σ.ev x=some v):v.pl=true:=by
 cases x with
 |tmp t=>
   simp only[Vw.ev]at h;split at h
   .exact So h
   .cases h
 |const w=>exact aYO h
 |func f=>simp only[Vw.ev]at h;cases h;rfl
 |global g=>simp only[Vw.ev]at h;cases h;exact aYy g
theorem bC{σ:Vw}{κ:Nat->Bool}(hσ:σ.Ok κ)(hon:σ.On){x:Operand}{v:X}(h:σ.ev x=some v):σ.den.ev x=some v.D:=by
 cases x with
 |tmp t=>
   simp only[Vw.ev]at h;split at h
   .rename_i y hy
    have e:σ.den.ev (.tmp t)=some y.D:=o9 hy;rw[e,Sp (hσ.oZ t y hy) hσ.g hon h]
   .cases h
 |const w=>
   have:=Tn (σ:=⟨[],[],0⟩) h;exact this
 |func f=>simp only[Vw.ev]at h;cases h;rfl
 |global g=>simp only[Vw.ev]at h;cases h;exact aY some (aFj g).symm
section
variable{P:Program}{o:Oper}{σ:St}{fr:Nat}
abbrev T8(c:UInt8):D:=.t (.v (.int .u8 (UInt8.toNat c:Int)))
abbrev TS(s:List UInt8):D:=.t (.v (.string ⟨⟨s⟩⟩))
theorem HQ(n:Int):IntKind.u8.wrap n=n%256:=by
 have:IntKind.u8.wrap n=n%((2:Int)^8):=by unfold IntKind.wrap;simp[IntKind.signed,IntKind.bits]
 rw[this];rfl
theorem aVz(n:Int):((gH n).toNat:Int)=IntKind.u8.wrap n:=by
 rw[HQ];unfold gH;rw[a1L];omega
theorem a1H(a b:UInt8):IntKind.u8.wrap ((a.toNat:Int)+b.toNat)=((a+b).toNat:Int):=by
 rw[HQ,UInt8.toNat_add];omega
theorem aWO(a b:UInt8):IntKind.u8.wrap ((a.toNat:Int)-b.toNat)=((a-b).toNat:Int):=by
 have h1:=a.toNat_lt;have h2:=b.toNat_lt;rw[HQ,UInt8.toNat_sub];omega
theorem lt8(a b:UInt8):decide ((a.toNat:Int)<b.toNat)=decide (a<b):=by
 congr 1
 rw[UInt8.lt_iff_toNat_lt];simp
theorem le8(a b:UInt8):decide ((a.toNat:Int)<=b.toNat)=decide (a<=b):=by
 congr 1
 rw[UInt8.le_iff_toNat_le];simp
theorem eq8(a b:UInt8):decide ((a.toNat:Int)=b.toNat)=decide (a=b):=by
 congr 1
 rw[<-VV];simp only[eq_iff_iff];omega
theorem ne8(a b:UInt8):decide ((a.toNat:Int)≠b.toNat)=decide (a≠b):=by
 congr 1
 rw[ne_eq,ne_eq,<-VV];simp only[eq_iff_iff];omega
theorem aYs{g:Option Bool}{op:BinOp}{ik:IntKind}{m n:Int}{k:X->O}{r:aM}(h:UY g op ik m n k=some r):∃x,k x=some r/\x.pl=true/\(BD g->∀{xt yt:TypeId}{x' y':Operand},o.op = .binOp op xt x' y' yt->σ.ev x'=some (.t (.v (.int ik m)))->σ.ev y'=some (.t (.v (.int ik n)))->aZ P o σ fr x.D []):=by
 unfold UY at h;split at h
 .exact⟨_,h,rfl,λ_ _ _ _ _ ho hx hy=>aEx ho hx hy⟩
 .exact⟨_,h,rfl,λ_ _ _ _ _ ho hx hy=>aEh ho hx hy⟩
 .exact⟨_,h,rfl,λ_ _ _ _ _ ho hx hy=>aX1 ho hx hy⟩
 .obtain⟨h1,h2⟩:=mS h
  exact⟨_,h1,rfl,λhg _ _ _ _ ho hx hy=>aXU ho hx hy (cT (h2 hg))⟩
 .obtain⟨h1,h2⟩:=mS h
  exact⟨_,h1,rfl,λhg _ _ _ _ ho hx hy=>aXS ho hx hy (cT (h2 hg))⟩
 .exact⟨_,h,rfl,λ_ _ _ _ _ ho hx hy=>aEk ho hx hy⟩
 .exact⟨_,h,rfl,λ_ _ _ _ _ ho hx hy=>aEm ho hx hy⟩
 .exact⟨_,h,rfl,λ_ _ _ _ _ ho hx hy=>aEp ho hx hy⟩
 .exact⟨_,h,rfl,λ_ _ _ _ _ ho hx hy=>aEq ho hx hy⟩
 .exact⟨_,h,rfl,λ_ _ _ _ _ ho hx hy=>aEs ho hx hy⟩
 .exact⟨_,h,rfl,λ_ _ _ _ _ ho hx hy=>aEj ho hx hy⟩
 .cases h
theorem aW1{g:Option Bool}{op:BinOp}{ik ik':IntKind}{m n:Int}{k:X->O}{r:aM}(h:TN g op ik m n k=some r):∃x,k x=some r/\x.pl=true/\(BD g->∀{xt yt:TypeId}{x' y':Operand},o.op = .binOp op xt x' y' yt->σ.ev x'=some (.t (.v (.int ik m)))->σ.ev y'=some (.t (.v (.int ik' n)))->aZ P o σ fr x.D []):=by
 unfold TN at h;split at h
 .obtain⟨h1,h2⟩:=mS h
  refine⟨_,h1,rfl,λhg _ _ _ _ ho hx hy=>iZ ho hx hy (λw=>?_) rfl⟩;have:=cT (h2 hg);simp[eqGuard,binOp,Op.shift,Int.not_lt.2 this]
 .obtain⟨h1,h2⟩:=mS h
  refine⟨_,h1,rfl,λhg _ _ _ _ ho hx hy=>iZ ho hx hy (λw=>?_) rfl⟩;have:=cT (h2 hg);simp[eqGuard,binOp,Op.shift,Int.not_lt.2 this]
 .cases h
theorem aWB{op:BinOp}{m n:UInt8}{k:X->O}{r:aM}(h:Sr op m n k=some r):∃x,k x=some r/\x.pl=true/\(∀{xt yt:TypeId}{x' y':Operand},o.op = .binOp op xt x' y' yt->σ.ev x'=some (T8 m)->σ.ev y'=some (T8 n)->aZ P o σ fr x.D []):=by
 unfold Sr at h;split at h
 .refine⟨_,h,rfl,λho hx hy=>?_⟩
  have:=aEx (P:=P) (fr:=fr) ho hx hy
  rwa [a1H]at this
 .refine⟨_,h,rfl,λho hx hy=>?_⟩
  have:=aEh (P:=P) (fr:=fr) ho hx hy
  rwa [aWO]at this
 .refine⟨_,h,rfl,λho hx hy=>?_⟩
  have:=aEk (P:=P) (fr:=fr) ho hx hy
  rwa [lt8]at this
 .refine⟨_,h,rfl,λho hx hy=>?_⟩
  have:=aEm (P:=P) (fr:=fr) ho hx hy
  rwa [le8]at this
 .refine⟨_,h,rfl,λho hx hy=>?_⟩
  have:=aEp (P:=P) (fr:=fr) ho hx hy
  rwa [lt8]at this
 .refine⟨_,h,rfl,λho hx hy=>?_⟩
  have:=aEq (P:=P) (fr:=fr) ho hx hy
  rwa [le8]at this
 .refine⟨_,h,rfl,λho hx hy=>?_⟩
  have:=aEs (P:=P) (fr:=fr) ho hx hy
  rwa [eq8]at this
 .refine⟨_,h,rfl,λho hx hy=>?_⟩
  have:=aEj (P:=P) (fr:=fr) ho hx hy
  rwa [ne8]at this
 .cases h
theorem aY2(m n:List UInt8):ByteArray.mk ⟨m⟩++ByteArray.mk ⟨n⟩=ByteArray.mk ⟨m++n⟩:=by
 apply ByteArray.ext;rw[ByteArray.data_append];simp
theorem aWP{g:Option Bool}{op:BinOp}{m n:List UInt8}{k:X->O}{r:aM}(h:Su g op m n k=some r):∃x,k x=some r/\x.pl=true/\(BD g->∀{xt yt:TypeId}{x' y':Operand},o.op = .binOp op xt x' y' yt->σ.ev x'=some (TS m)->σ.ev y'=some (TS n)->aZ P o σ fr x.D []):=by
 have tl:∀l:List UInt8,(ByteArray.mk ⟨l⟩).toList=l:=λl=>ByteArray.toList_mk l
 have be:∀m n:List UInt8,(m == n)=decide (m=n):=λm n=>by rw[Bool.eq_iff_iff];simp
 unfold Su at h;split at h
 .obtain⟨h1,h2⟩:=mS h
  refine⟨_,h1,rfl,λhg _ _ _ _ ho hx hy=>iZ ho hx hy (λw=>?_) rfl⟩;have hb:=cT (h2 hg);have hsz:¬ (((ByteArray.mk ⟨m⟩).size+(ByteArray.mk ⟨n⟩).size:Nat):Int)>IntKind.i64.max:=by
   show ¬ ((m.length+n.length:Nat):Int)>9223372036854775807;omega
  simp only[eqGuard,binOp,Op.stringOp,aH hsz,aY2];simp
 .refine⟨_,h,rfl,λhg _ _ _ _ ho hx hy=>iZ ho hx hy (λw=>?_) rfl⟩
  simp[eqGuard,binOp,Op.stringOp,tl,be]
 .refine⟨_,h,rfl,λhg _ _ _ _ ho hx hy=>iZ ho hx hy (λw=>?_) rfl⟩
  simp[eqGuard,binOp,Op.stringOp,tl,be]
 .cases h
theorem a0k{g:Option Bool}{op:BinOp}{xt:TypeId}{x y:X}{k:X->O}{r:aM}(h:VH P g op xt x y k=some r):∃z,k z=some r/\z.pl=true/\(BD g->∀{yt:TypeId}{x' y':Operand},o.op = .binOp op xt x' y' yt->σ.ev x'=some x.D->σ.ev y'=some y.D->aZ P o σ fr z.D []):=by
 unfold VH at h;split at h
 .split at h
  .obtain⟨z,h1,h2,h3⟩:=aW1 (P:=P) (o:=o) (σ:=σ) (fr:=fr) h
   exact⟨z,h1,h2,λhg _ _ _ ho hx hy=>h3 hg ho hx hy⟩
  .split at h
   .rename_i he
    have he:=cT he;subst he;obtain⟨z,h1,h2,h3⟩:=aYs (P:=P) (o:=o) (σ:=σ) (fr:=fr) h;exact⟨z,h1,h2,λhg _ _ _ ho hx hy=>h3 hg ho hx hy⟩
   .cases h
 .obtain⟨z,h1,h2,h3⟩:=aWB (P:=P) (o:=o) (σ:=σ) (fr:=fr) h
  exact⟨z,h1,h2,λhg _ _ _ ho hx hy=>h3 ho hx hy⟩
 .obtain⟨z,h1,h2,h3⟩:=aWP (P:=P) (o:=o) (σ:=σ) (fr:=fr) h
  exact⟨z,h1,h2,λhg _ _ _ ho hx hy=>h3 hg ho hx hy⟩
 .split at h
  .rename_i hu
   unfold aG1 at h;split at h
   .exact⟨_,h,rfl,λhg _ _ _ ho hx hy=>aYA hu ho hx hy⟩
   .exact⟨_,h,rfl,λhg _ _ _ ho hx hy=>aX0 hu ho hx hy⟩
   .cases h
  .cases h
 .cases h
theorem aXZ{t:TypeId}{x:Operand}{ik:IntKind}{m:Int}(ho:o.op = .unOp .neg t x)(hx:σ.ev x=some (.t (.v (.int ik m)))):aZ P o σ fr (.t (.v (.int ik (ik.wrap (-m))))) []:=
 dF λ_ _ _ _ w a _ _ hev=>by
  have h1':=cC (hev x _ hx);refine⟨.int ik (ik.wrap (-m)),?_,.t (.v _ rfl)⟩;unfold execOp;rw[ho];simp only[h1'];simp[Op.unary,Op.intArith]
theorem NR{x:Operand}{d:D}(ho:o.op = .nilCheck x)(hx:σ.ev x=some d)(hd:(∃k off,d = .ref k off)\/(∃ts off,d = .ptr ts off)\/∃f ds,d = .fn f ds):aZ P o σ fr d []:=
 dF λ_ _ _ _ w a _ _ hev=>by
  have h:=hev x _ hx;refine⟨a.eval x,?_,h⟩;unfold execOp;rw[ho];obtain⟨v,hv⟩:∃v,a.eval x=v:=⟨_,rfl⟩
  rw[hv]at h;simp only[hv];rcases hd with⟨k,off,rfl⟩|⟨ts,off,rfl⟩|⟨f,ds,rfl⟩
  .cases h with|ref _ _=>rfl
  .cases h with|ptr _ _ _=>rfl
  .cases h with|fn _ _=>rfl
theorem aX9{x y:Operand}{m n:Int}{tys:Array TypeId}(ho:o.op = .call { callee:=.builtin .max,args:=#[x,y],argTypes:=tys })(hx:σ.ev x=some (I m))(hy:σ.ev y=some (I n)):aZ P o σ fr (I (max m n)) []:=
 dF λ_ _ _ _ w a _ _ hev=>by
  have h1:=cC (hev x _ hx);have h2:=cC (hev y _ hy);refine⟨.int .i64 (max m n),?_,.t (.v _ rfl)⟩;unfold execOp;rw[ho];simp[resolve,invoke,builtin,h1,h2,Lib.run_max_ints]
theorem aW8{P:Program}(w:World)(ts:Array TypeId)(t:TypeId)(x y z:Int):(Builtin.max_ ts t #[.int .i64 x,.int .i64 y,.int .i64 z]).run P w = .ok (.int .i64 (max (max x y) z)) w:=by
 have e:∀x y:Int,(if y>x then y else x)=max x y:=λx y=>by
  rw[Int.max_def];split <;> split <;> omega
 simp[Builtin.max_,Builtin.max2,e]
theorem aXa{x y z:Operand}{m n p:Int}{tys:Array TypeId}(ho:o.op = .call { callee:=.builtin .max,args:=#[x,y,z],argTypes:=tys })(hx:σ.ev x=some (I m))(hy:σ.ev y=some (I n))(hz:σ.ev z=some (I p)):aZ P o σ fr (I (max (max m n) p)) []:=
 dF λ_ _ _ _ w a _ _ hev=>by
  have h1:=cC (hev x _ hx);have h2:=cC (hev y _ hy);have h3:=cC (hev z _ hz);refine⟨.int .i64 (max (max m n) p),?_,.t (.v _ rfl)⟩;unfold execOp;rw[ho];simp[resolve,invoke,builtin,h1,h2,h3,aW8]
theorem aX6{x y:Operand}{m n:Int}{tys:Array TypeId}(ho:o.op = .call { callee:=.builtin .min,args:=#[x,y],argTypes:=tys })(hx:σ.ev x=some (I m))(hy:σ.ev y=some (I n)):aZ P o σ fr (I (min m n)) []:=
 dF λ_ _ _ _ w a _ _ hev=>by
  have h1:=cC (hev x _ hx);have h2:=cC (hev y _ hy);refine⟨.int .i64 (min m n),?_,.t (.v _ rfl)⟩;unfold execOp;rw[ho];simp[resolve,invoke,builtin,h1,h2,Lib.run_min_ints]
theorem aXj{t:TypeId}{x:Operand}{s:List UInt8}{tys:Array TypeId}(hu:P.underlying t=some .string)(ho:o.op = .call { callee:=.builtin .len,args:=#[x],argTypes:=tys })(ht:tys = #[t])(hx:σ.ev x=some (TS s)):aZ P o σ fr (I s.length) []:=
 dF λ_ _ _ _ w a _ _ hev=>by
  have h1:=cC (hev x _ hx);refine⟨.int .i64 s.length,?_,.t (.v _ rfl)⟩;unfold execOp;rw[ho,ht];simp[resolve,invoke,builtin,h1,run_len_string _ t _ _ hu,goInt];rfl
theorem aXq{t:TypeId}{x y:Operand}{s:List UInt8}{ik:IntKind}{n:Int}{c:UInt8}(hu:P.underlying t=some .string)(ho:o.op = .index t x y)(hx:σ.ev x=some (TS s))(hy:σ.ev y=some (.t (.v (.int ik n))))(h0:0<=n)(hc:s[n.toNat]?=some c):aZ P o σ fr (T8 c) []:=
 dF λ_ _ _ _ w a _ _ hev=>by
  have h1:=cC (hev x _ hx);have h2:=cC (hev y _ hy);refine⟨.int .u8 (c.toNat:Int),?_,.t (.v _ rfl)⟩;obtain⟨hlt,hcc⟩:=bU.1 hc;have hsz:(ByteArray.mk ⟨s⟩).size=s.length:=rfl;have hi:0<=n/\n<((ByteArray.mk ⟨s⟩).size:Nat):=⟨h0,by rw[hsz];omega⟩;have:=run_index_string w t (ByteArray.mk ⟨s⟩) ik n hu;rw[dif_pos hi]at this;unfold execOp;rw[ho];simp only[h1,h2,Sem.run_bind,this,Result.andThen_ok,Sem.run_pure];have hval:((ByteArray.mk ⟨s⟩)[n.toNat]'(by omega))=c:=hcc;rw[hval]
theorem aXb{f:FuncId}{caps:Array Operand}{ds:List D}(ho:o.op = .makeFunc (.func f) #[] caps)(hl:caps.size=ds.length)(hc:∀(i:Nat)(x:Operand)(d:D),caps[i]?=some x->ds[i]?=some d->σ.ev x=some d):aZ P o σ fr (.fn f ds) []:=
 dF λ_ _ _ _ w a _ _ hev=>by
  refine⟨.func (.func f) #[] (caps.map a.eval),?_,.fn (by simp[hl]) (λi u d hu hd=>?_)⟩
  .unfold execOp
   rw[ho];simp[Instr.makeFunc]
  .simp only[Array.getElem?_map]at hu
   obtain⟨x,hx,rfl⟩:=cR.1 hu;exact hev x d (hc i x d hx hd)
end
end Go.Ax
