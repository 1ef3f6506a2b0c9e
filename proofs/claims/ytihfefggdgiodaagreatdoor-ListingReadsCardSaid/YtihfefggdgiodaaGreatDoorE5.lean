/- The abstract machine, run: code, loops, functions, contracts. Conditions are in the theorems. -/
import Derived.Test.YtihfefggdgiodaaGreatDoorE4
import Derived.Lib.MinMax
import Derived.Laws.Strings
import Derived.Laws.Slices
open Bool renaming and_eq_true->bA,not_eq_true'->GB
open List renaming all_eq_true->cT,flatMap->bZ,flatMap_cons->fS,getElem?_eq_some_iff->bP,getElem?_map->cD,getElem?_set_ne->nH,getElem?_set_self->l8,length->dX,length_cons->dK,length_map->cQ,length_set->iI,map->aDu,map_append->l7,map_cons->gL,map_map->nG,mem_cons->eD,mem_cons_of_mem->gF,mem_iff_getElem?->gK,mem_map->eK,nodup_cons->aXJ,set_cons_succ->aXH
open Nat renaming add_mul->iH,add_zero->hZ,ble_eq_true_of_le->Tf,eq_of_beq_eq_true->bH,le_of_ble_eq_true->eJ,le_refl->bX,zero_add->cY
open Option renaming map->aDf,map_eq_some_iff->b9,map_some->jE
open Option.some renaming inj->eX,injEq->gD
open UInt8 renaming ofNat->gP,toNat_inj->Cl,toNat_ofNat'->T5
/- States told otherwise. -/
namespace Go.Ax
open aA
open Go.RowKit Go.Ab
def dU(σ:Sg):St:=mk (λt=>(lk t σ.T).map X.D) (λk=>(lk k σ.H).map XO.A) σ.N
theorem cV.trans'{E:Env}{a b c:St}(h:cV E a b)(k:cV E b c):cV E a c:=λtm w hR=>k tm w (h tm w hR)
theorem cV.qL{E:Env}{a:St}:cV E a a:=λ_ _ h=>h
theorem mk_eq{T T':Nat->Option D}{H H':Nat->Option aM}{N N':Nat}(hT:∀t,T t=T' t)(hH:∀k,H k=H' k)(hN:N=N'):mk T H N=mk T' H' N':=by
 rw[funext hT,funext hH,hN]
theorem aV7{E:Env}{T T':Nat->Option D}{H H':Nat->Option aM}{N:Nat}(hT:∀t d,T' t=some d->T t=some d)(hH:∀k o,H' k=some o->H k=some o):cV E (mk T H N) (mk T' H' N):=λ_ _ ⟨ν,G,I⟩=>
 ⟨ν,G,I.kept,I.cS,I.eL,I.g0,I.sz,λt d h=>I.T t d (hT t d h),λk o h=>I.H k o (hH k o h),λk o k' o' h h'=>I.cF k o k' o' (hH k o h) (hH k' o' h')⟩
theorem aVh{E:Env}{T T':Nat->Option D}{H:Nat->Option aM}{N:Nat}(hT:∀t d',T' t=some d'->∃d,T t=some d/\bR H d d'):cV E (mk T H N) (mk T' H N):=λtm w ⟨ν,G,I⟩=>
 ⟨ν,G,I.kept,I.cS,I.eL,I.g0,I.sz,λt d' h=>by
  obtain⟨d,h1,h2⟩:=hT t d' h;obtain⟨v,hv,hd⟩:=I.T t d h1;exact⟨v,hv,h2 E _ ν G w tm (λk o h=>h) I v hd⟩,I.H,I.cF⟩
theorem aCf{α β:Type}{f:α->List β}{m:Nat}(hf:∀x,(f x).length=m):∀l:List α,(l.flatMap f).length=l.length*m
 |[]=>by simp
 |a::l=>by rw[fS,List.length_append,hf,aCf hf l,dK,iH,Nat.one_mul,Nat.add_comm]
theorem S3{α β:Type}{f:α->List β}{m:Nat}(hf:∀x,(f x).length=m):∀(l:List α)(i j:Nat)(x:α),l[i]?=some x->j<m->(l.flatMap f)[i*m+j]?=(f x)[j]?
 |[],i,j,x,h,_=>by simp at h
 |a::l,0,j,x,h,hj=>by
   simp at h;subst h;rw[fS,Nat.zero_mul,cY,List.getElem?_append_left (by rw[hf];exact hj)]
 |a::l,i+1,j,x,h,hj=>by
   have h':l[i]?=some x:=by simpa using h
   rw[fS,List.getElem?_append_right (by rw[hf,iH];omega),hf,<-S3 hf l i j x h' hj]
   congr 1
   rw[iH];omega
theorem S2{α β:Type}{f:α->List β}{m:Nat}(hf:∀x,(f x).length=m):∀(l:List α)(i j:Nat)(x z:α)(b:β),l[i]?=some x->j<m->f z=(f x).set j b->(l.set i z).flatMap f=(l.flatMap f).set (i*m+j) b
 |[],i,j,x,z,b,h,_,_=>by simp at h
 |a::l,0,j,x,z,b,h,hj,hz=>by
   simp at h;subst h;rw[List.set_cons_zero,fS,fS,Nat.zero_mul,cY,List.set_append_left _ _ (by rw[hf];exact hj),hz]
 |a::l,i+1,j,x,z,b,h,hj,hz=>by
   have h':l[i]?=some x:=by simpa using h
   rw[aXH,fS,fS,List.set_append_right _ _ (by rw[hf,iH];omega),S2 hf l i j x z b h' hj hz,hf]
   congr 2
   rw[iH];omega
theorem Fe{κ ρ:Ty}(x:List κ.V×ρ.V):(eQ x).length=1+ρ.size:=by
 unfold eQ;rw[dK,cQ,cW,Nat.add_comm]
theorem aDQ{κ ρ:Ty}(l:List (List κ.V×ρ.V))(c:NC)(h:c∈bZ eQ l):(∃n ts,c = .cE n ts)\/∃t,c = .dH (.t t):=by
 obtain⟨x,_,hx⟩:=List.mem_flatMap.1 h;unfold eQ at hx;rcases eD.1 hx with rfl|hx
 .exact .inl ⟨_,_,rfl⟩
 .obtain⟨t,_,rfl⟩:=eK.1 hx
  exact .inr ⟨t,rfl⟩
theorem Sx{κ ρ:Ty}(l:List (List κ.V×ρ.V)):Td (bZ eQ l):=λi d h=>by
 rcases aDQ l _ (gK.2 ⟨i,h⟩)with⟨n,ts,h⟩|⟨t,h⟩
 .cases h
 .cases h;exact⟨t,rfl⟩
theorem aDP{κ ρ:Ty}:∀l:List (List κ.V×ρ.V),(bZ eQ l).map NC.lZ=(bZ (aI (.pr (.sl κ) ρ)) l).map some
 |[]=>rfl
 |x::l=>by
   show(eQ x++bZ eQ l).map NC.lZ=(aI (.pr (.sl κ) ρ) x++bZ (aI (.pr (.sl κ) ρ)) l).map some;rw[l7,l7,aDP l]
   congr 1
   show NC.lZ _::((aI ρ x.2).map λt=>NC.dH (.t t)).map NC.lZ=some _::(aI ρ x.2).map some;rw[nG];rfl
theorem aWV{κ ρ:Ty}{l:List (List κ.V×ρ.V)}{i:Nat}{x:List κ.V×ρ.V}(h:l[i]?=some x):(bZ eQ l)[i*(1+ρ.size)]?=some (.cE (dX x.1) (bZ (aI κ) x.1)):=by
 have:=S3 (f:=eQ) Fe l i 0 x h (by omega);rw[hZ]at this;rw[this];rfl
theorem Lr{κ ρ:Ty}{l:List (List κ.V×ρ.V)}{i j:Nat}(h:i<l.length)(hj:j<1+ρ.size):i*(1+ρ.size)+j<(bZ eQ l).length:=by
 rw[aCf (f:=eQ) Fe];have:(i+1)*(1+ρ.size)<=l.length*(1+ρ.size):=Nat.mul_le_mul_right _ h;rw[iH,Nat.one_mul]at this;omega
theorem LU{m:Nat}{cs:List NC}{ln:Option (Int×Nat)}:(jA m cs ln).length=cs.length:=by
 unfold jA;split
 .rfl
 .rw[iI]
theorem aCw{o:XO}(h:Li o=true):nJ o.A:=by
 unfold Li at h;split at h
 .exact .row
 .exact .nest
 .exact .bI
 .cases h
theorem Er{α β:Type}(f:α->β):∀(l:List α)(i:Nat)(x:α),(gJ x i l).map f=(l.map f).set i (f x)
 |[],i,x=>by rw[RA];rfl
 |y::l,0,x=>rfl
 |y::l,i+1,x=>by simp only[gJ,gL,aXH];rw[Er f l i x]
theorem S0{β:Type}{f:β->List Tree}{g:β->Tree}(h:∀r,f r=[g r]):∀l:List β,l.flatMap f=l.map g
 |[]=>rfl
 |a::l=>by rw[fS,h,S0 h l];rfl
theorem aVj{τ:Ty}(l:List (List τ.V)):(bZ (aI (.sl τ)) l)=(l.map λr=>(dX r,bZ (aI τ) r)).map λp=>.sl p.1 p.2:=
 (S0 (β:=List τ.V) (f:=aI (.sl τ)) (g:=λr=>.sl (dX r) (bZ (aI τ) r)) (λ_=>rfl) l).trans (by rw[nG];rfl)
def rH(σ:Sg)(k:Sg->O)(r:aH):Prop:=∃σ',k σ'=some r/\(100<=σ.N->100<=σ'.N)/\(100<=σ.N->∀E,cV E (dU σ) (dU σ'))
theorem rH.same{σ:Sg}{k:Sg->O}{r:aH}(h:k σ=some r):rH σ k r:=⟨σ,h,id,λ_ _=>cV.qL⟩
theorem aCc{κ:Ty}:∀l:List (List κ.V×Unit),bZ (aI (.sl κ)) (aDu (α:=List κ.V×Unit) (β:=(Ty.sl κ).V) (λx=>x.1) l)=bZ (aI (.pr (.sl κ) .un)) l
 |[]=>rfl
 |x::l=>by
   show aI (.sl κ) x.1++bZ (aI (.sl κ)) (aDu (α:=List κ.V×Unit) (β:=(Ty.sl κ).V) (λx=>x.1) l)=(aI (.sl κ) x.1++[])++bZ (aI (.pr (.sl κ) .un)) l;rw[List.append_nil,aCc l]
theorem aAv{q:Nat}{e e':TypeId}{κ ρ:Ty}{l:List (List κ.V×ρ.V)}{E:Env}{T:Nat->Option D}{H:Nat->Option aM}{N:Nat}(hq:H q=some (XO.bI e e' κ ρ l none).A):cV E (mk T H N) (mk T (λj=>if q=j then some (XO.row e (.pr (.sl κ) ρ) l true).A else H j) N):=by
 have h1:=Sb (E:=E) (T:=T) (N:=N) q hq (ts:=bZ (aI (.pr (.sl κ) ρ)) l) (aDP l);have h2:=Lg (E:=E) (T:=T) (H:=λj=>if q=j then some (.row e (1+ρ.size) l.length (bZ (aI (.pr (.sl κ) ρ)) l) false)else H j) (N:=N) q (by rw[aE rfl]);refine cV.trans' h1 ?_;rw[show(λj=>if q=j then some (XO.row e (.pr (.sl κ) ρ) l true).A else H j)=λj=>if q=j then some (.row e (1+ρ.size) l.length (bZ (aI (.pr (.sl κ) ρ)) l) true)else if q=j then some (.row e (1+ρ.size) l.length (bZ (aI (.pr (.sl κ) ρ)) l) false)else H j from ?_]
 .exact h2
 .funext j
  split
  .rfl
  .rfl
theorem aAu{q:Nat}{o o':XO}(h:Ef o=some o'){E:Env}{T:Nat->Option D}{H:Nat->Option aM}{N:Nat}(hq:H q=some o.A):cV E (mk T H N) (mk T (λj=>if q=j then some o'.A else H j) N):=by
 unfold Ef at h;split at h
 .cases h;exact Lg q hq
 .rename_i e e' τ l
  split at h
  .rename_i h1
   cases h;have:=aV8 (E:=E) (T:=T) (N:=N) q hq;have hA:(XO.row e (.sl τ) l true).A=aM.row e 1 (l.map λr=>(dX r,bZ (aI τ) r)).length ((l.map λr=>(dX r,bZ (aI τ) r)).map λp=>.sl p.1 p.2) true:=
    congr (aO (λn ts=>aM.row e 1 n ts true) (cQ ..).symm) (aVj l)
   rw[hA];exact this
  .cases h
 .rename_i e e' κ ρ l
  cases h;cases ρ with
  |un=>
    show cV E _ (mk T (λj=>if q=j then some (XO.row e (.sl κ) (l.map λx=>x.1) true).A else H j) N);have key:(XO.row e (.sl κ) (l.map λx=>x.1) true).A=(XO.row e (.pr (.sl κ) .un) l true).A:=by
     show aM.row e 1 (l.map λx=>x.1).length (bZ (aI (.sl κ)) (aDu (α:=List κ.V×Unit) (β:=(Ty.sl κ).V) (λx=>x.1) l)) true=aM.row e 1 l.length (bZ (aI (.pr (.sl κ) .un)) l) true;rw[cQ];exact aO (λts=>aM.row e 1 l.length ts true) (aCc l)
    rw[key];exact aAv hq
  |_=>exact aAv hq
 .cases h
theorem aAw{q:Nat}{σ:Sg}{k:Sg->O}{r:aH}(h:Kf q σ k=some r):rH σ k r:=by
 unfold Kf at h;split at h
 .rename_i o ho
  split at h
  .rename_i o' ho'
   obtain⟨H1,h,hH1⟩:=jQ h;refine⟨_,h,id,λ_ E=>?_⟩;have:=aAu (q:=q) ho' (E:=E) (T:=λt=>(lk t σ.T).map X.D) (H:=λk=>(lk k σ.H).map XO.A) (N:=σ.N) (by rw[ho];rfl);unfold dU;rw[show mk (λt=>(lk t σ.T).map X.D) (λk=>(lk k H1).map XO.A) σ.N=_ from mk_eq (λt'=>rfl) (λk'=>?_) rfl]
   .exact this
   .rw[hH1];split <;> rfl
  .exact .same h
 .exact .same h
theorem aT5{q i:Nat}{o:XO}(ho:nJ o.A){σ:Sg}{k:Sg->O}{r:aH}(h:R9 q i o σ k=some r):rH σ k r:=by
 unfold R9 at h;split at h
 .rename_i e' xs hq
  split at h
  .rename_i hx
   obtain⟨H1,h,hH1⟩:=jQ h;obtain⟨H2,h,hH2⟩:=jQ h;refine⟨_,h,λh=>(by show 100<=σ.N+8;omega),λhN E=>?_⟩;have:=aVc (E:=E) (T:=λt=>(lk t σ.T).map X.D) (H:=λk=>(lk k σ.H).map XO.A) q i ho (e':=e') (ds:=xs.map X.D) (by rw[hq];rfl) (by rw[cD,hx];rfl) hN;unfold dU;rw[show mk (λt=>(lk t σ.T).map X.D) (λk=>(lk k H2).map XO.A) (σ.N+8)=_ from mk_eq (λt'=>rfl) (λk'=>?_) rfl]
   .exact this
   .rw[hH2,hH1]
    split
    .rfl
    .split
     .simp only[jE,XO.A,Er];rfl
     .rfl
  .exact .same h
 .exact .same h
theorem aUM{τ:Ty}{xs:List X}{y:τ.V}(h:tH τ xs=some y):xs.length=(aI τ y).length:=by
 have:=(pG (H:=λ_=>none) h).len;simpa using this
theorem aVg{E:Env}{T:Nat->Option D}{H:Nat->Option aM}{N:Nat}(k i:Nat){e:TypeId}{ds:List D}{d d':D}(hk:H k=some (.box e ds))(hi:ds[i]?=some d)(hw:bR H d d'):cV E (mk T H N) (mk T (λj=>if k=j then some (.box e (ds.set i d'))else H j) N):=by
 refine pJ λa w ⟨ν,G,I⟩=>⟨ν,G,I.kept,I.cS,I.eL,I.g0,I.sz,I.T,λj oj hj=>?_,λj1 o1 j2 o2 e1 e2 hne=>?_⟩
 .by_cases hjk:k=j
  .subst hjk
   simp only[fH,gD]at hj;subst hj;obtain⟨hn,g,cur,z1,z2,z3,z4,z5,z6⟩:=I.H k _ hk;refine⟨hn,g,cur,z1,z2,z3,z4,by rw[iI];exact z5,λm u dm hu hd=>?_⟩;by_cases hm:i=m
   .subst hm
    have hlt:i<ds.length:=(bP.1 hi).1;rw[l8 hlt]at hd;cases hd;obtain⟨y1,y2⟩:=z6 i u _ hu hi;exact⟨hw E _ ν G w a.tmps (λ_ _ h=>h) I u y1,y2⟩
   .rw[nH hm]at hd
    exact z6 m u dm hu hd
  .simp only[aC hjk]at hj
   exact I.H j oj hj
 .have back:∀j o,(if k=j then some (.box e (ds.set i d'))else H j)=some o->∃o',H j=some o'/\∀g,bK w (ν j) o g->bK w (ν j) o' g:=λj o h=>by
   by_cases hj:k=j
   .subst hj;simp only[fH,gD]at h;subst h;exact⟨_,hk,λ_ h=>h⟩
   .rw[aC hj]at h;exact⟨o,h,λ_ h=>h⟩
  obtain⟨p1,hp1,f1⟩:=back j1 o1 e1;obtain⟨p2,hp2,f2⟩:=back j2 o2 e2;exact λg hg hg'=>I.cF j1 p1 j2 p2 hp1 hp2 hne g (f1 g hg) (f2 g hg')
theorem aQG{H:Nat->Option aM}{τ:Ty}{x:X}{y:τ.V}(h1:τ.one=true)(h:iN τ x=some y):bR H x.D (.t (oF τ y)):=by
 unfold iN at h;rw[h1]at h;exact pA h1 h
theorem aWD{q i:Nat}{τ:Ty}{σ:Sg}{k:Sg->O}{r:aH}(h:Sm q i τ σ k=some r):rH σ k r:=by
 unfold Sm at h;split at h
 .rename_i e xs hq
  split at h
  .rename_i x hx
   split at h
   .rename_i h1
    split at h
    .rename_i y hy
     obtain⟨H1,h,hH1⟩:=jQ h;refine⟨_,h,id,λ_ E=>?_⟩;have hg:=vL (⟨λt=>lk t σ.T,λk=>lk k σ.H,none⟩:Vw) x;have:=aVg (E:=E) (T:=λt=>(lk t σ.T).map X.D) (H:=λk=>(lk k σ.H).map XO.A) (N:=σ.N) q i (e:=e) (ds:=xs.map X.D) (d:=x.D) (d':=.t (oF τ y)) (by rw[hq];rfl) (by rw[cD,hx];rfl) (hg.trans (aQG h1 hy));unfold dU;rw[show mk (λt=>(lk t σ.T).map X.D) (λk=>(lk k H1).map XO.A) σ.N=_ from mk_eq (λt'=>rfl) (λk'=>?_) rfl]
     .exact this
     .rw[hH1]
      split
      .simp only[jE,XO.A,Er,pK h1]
      .rfl
    .exact .same h
   .exact .same h
  .exact .same h
 .exact .same h
theorem aWy{E:Env}{ν:Nat->Value}{nm:Nat->Bool}{w:World}{G:bQ}{k k':Nat}{o:aM}(h:eR E ν nm w G k o)(e:ν k'=ν k):eR E ν nm w G k' o:=by
 cases o <;> (unfold eR at h ⊢;rw[e];exact h)
theorem aVa{E:Env}{T:Nat->Option D}{H:Nat->Option aM}{N:Nat}(k i q:Nat){e':TypeId}{ds:List D}{o0:aM}(hk:H k=some (.box e' ds))(hi:ds[i]?=some (.own q))(hq:H q=some o0)(hne:q≠k)(hN:100<=N):
    cV E (mk T H N) (mk T (λj=>if N=j then some o0 else if q=j then none else if k=j then some (.box e' (ds.set i (.own N)))else H j) (N+8)):=by
 refine pJ λa w ⟨ν,G,I⟩=>?_
 have lt:∀j,(mk T H N).nm j=true->j<N:=λj hj=>by simpa using hj
 have ne:∀j,(mk T H N).nm j=true->bU ν N (ν q) j=ν j:=λj hj=>lE (by have:=lt j hj;omega)
 have hn:∀j,(mk T H N).nm j=true->decide (j<N+8)=true/\bU ν N (ν q) j=ν j:=λj hj=>⟨by have:=lt j hj;simp;omega,ne j hj⟩
 have old:∀j o,H j=some o->j<N:=λj o hj=>lt j (I.H j o hj).1
 have hqN:=old q o0 hq;have hkN:=old k _ hk;have back:∀j o,(if N=j then some o0 else if q=j then none else if k=j then some (.box e' (ds.set i (.own N)))else H j)=some o->(j=N/\o=o0)\/(j=k/\j≠q/\j<N/\o = .box e' (ds.set i (.own N)))\/(j≠k/\j≠q/\j<N/\H j=some o):=λj o h=>by
  by_cases h1:N=j
  .rw[aE h1]at h;exact .inl ⟨h1.symm,(eX h).symm⟩
  .rw[aC h1]at h
   by_cases h3:q=j
   .rw[aE h3]at h;cases h
   .rw[aC h3]at h
    by_cases h2:k=j
    .rw[aE h2]at h;exact .inr (.inl ⟨h2.symm,Ne.symm h3,by omega,(eX h).symm⟩)
    .rw[aC h2]at h;exact .inr (.inr ⟨Ne.symm h2,Ne.symm h3,old _ _ h,h⟩)
 have hfoot:∀j o,(if N=j then some o0 else if q=j then none else if k=j then some (.box e' (ds.set i (.own N)))else H j)=some o->∃j' o',H j'=some o'/\(∀g,bK w (bU ν N (ν q) j) o g->bK w (ν j') o' g)/\j'=(if j=N then q else j):=λj o h=>by
  rcases back j o h with⟨rfl,rfl⟩|⟨rfl,h2,h3,rfl⟩|⟨h1,h2,h3,h4⟩
  .exact⟨q,_,hq,λg hg=>by rw[bT]at hg;exact hg,by rw[aE rfl]⟩
  .exact⟨_,_,hk,λg hg=>by rw[lE (by omega)]at hg;exact hg,by rw[aC (by omega)]⟩
  .exact⟨_,_,h4,λg hg=>by rw[lE (by omega)]at hg;exact hg,by rw[aC (by omega)]⟩
 refine⟨bU ν N (ν q),G,I.kept,I.cS,λj h1 h2=>?_,I.g0,I.sz,λt d ht=>?_,λj o hj=>?_,λj1 o1 j2 o2 h1 h2 hne12 g hg=>?_⟩
 .rw[lE (by omega)];exact I.eL j h1 h2
 .obtain⟨v,hv,hdv⟩:=I.T t d ht
  exact⟨v,hv,hdv.mono hn (λ_ _ _ h=>h)⟩
 .have mono:∀j o,H j=some o->eR E (bU ν N (ν q)) (λj=>decide (j<N+8)) w G j o:=λj o hj=>
   let⟨q1,q2⟩:=I.H j o hj
   q2.mono (ν':=bU ν N (ν q)) (nm':=λj=>decide (j<N+8)) q1 hn (λ_ _ _ h=>h) (λg _=>⟨rfl,rfl⟩)
  rcases back j o hj with⟨rfl,rfl⟩|⟨rfl,h2,h3,rfl⟩|⟨h1,h2,h3,h4⟩
  .refine⟨by simp,aWy (mono q _ hq) ?_⟩
   rw[bT,lE (by omega)]
  .refine⟨by simp;omega,?_⟩
   obtain⟨g,cur,z1,z2,z3,z4,z5,z6⟩:=mono _ _ hk;refine⟨g,cur,z1,z2,z3,z4,by rw[iI];exact z5,λm u d hu hd=>?_⟩;by_cases hm:i=m
   .subst hm
    have hlt2:i<ds.length:=(bP.1 hi).1;rw[l8 hlt2]at hd;cases hd;obtain⟨y1,y2⟩:=z6 i u _ hu hi;obtain⟨e1,_⟩:=qR y1;refine⟨?_,y2⟩;have e2:u=bU ν N (ν q) N:=by rw[e1,bT,lE (by omega)]
    have hown:DR (bU ν N (ν q)) (λj=>decide (j<N+8)) w G (bU ν N (ν q) N) (.own N):=.own (by simp) (by rw[<-e2];exact y2);rw[<-e2]at hown;exact hown
   .rw[nH hm]at hd
    exact z6 m u d hu hd
  .exact⟨by simp;omega,mono j o h4⟩
 .obtain⟨j1',o1',a1,a2,a3⟩:=hfoot j1 o1 h1
  obtain⟨j2',o2',b1,b2,b3⟩:=hfoot j2 o2 h2;have hne':j1'≠j2':=by
   rw[a3,b3];rcases back j1 o1 h1 with⟨c1,_⟩|⟨_,c2,c3,_⟩|⟨_,c2,c3,_⟩ <;> rcases back j2 o2 h2 with⟨d1,_⟩|⟨_,d2,d3,_⟩|⟨_,d2,d3,_⟩
   .exact absurd (c1.trans d1.symm) hne12
   .rw[aE c1,aC (by omega)];exact λe=>d2 e.symm
   .rw[aE c1,aC (by omega)];exact λe=>d2 e.symm
   .rw[aC (by omega),aE d1];exact c2
   .rw[aC (by omega),aC (by omega)];exact hne12
   .rw[aC (by omega),aC (by omega)];exact hne12
   .rw[aC (by omega),aE d1];exact c2
   .rw[aC (by omega),aC (by omega)];exact hne12
   .rw[aC (by omega),aC (by omega)];exact hne12
  exact λhg'=>I.cF j1' o1' j2' o2' a1 b1 hne' g (a2 g hg) (b2 g hg')
theorem aQs{q i:Nat}{σ:Sg}{k:Sg->O}{r:aH}(h:Qx q i σ k=some r):rH σ k r:=by
 unfold Qx at h;split at h
 .rename_i e xs hq
  split at h
  .rename_i q' hx
   split at h
   .rename_i o ho
    split at h
    .rename_i hc
     simp only[bA,GB]at hc;have hne:q'≠q:=λe=>by rw[e,Nat.beq_refl]at hc;exact absurd hc.2 (by decide)
     obtain⟨H1,h,hH1⟩:=jQ h;obtain⟨H2,h,hH2⟩:=Ce h;obtain⟨H3,h,hH3⟩:=jQ h;refine⟨_,h,λh=>(by show 100<=σ.N+8;omega),λhN E=>?_⟩;have:=aVa (E:=E) (T:=λt=>(lk t σ.T).map X.D) (H:=λk=>(lk k σ.H).map XO.A) (N:=σ.N) q i q' (e':=e) (ds:=xs.map X.D) (o0:=o.A) (by rw[hq];rfl) (by rw[cD,hx];rfl) (by rw[ho];rfl) hne hN;unfold dU;rw[show mk (λt=>(lk t σ.T).map X.D) (λk=>(lk k H3).map XO.A) (σ.N+8)=_ from mk_eq (λt'=>rfl) (λk'=>?_) rfl]
     .exact this
     .rw[hH3,hH2,hH1]
      split
      .rfl
      .split
       .rfl
       .split
        .simp only[jE,XO.A,Er];rfl
        .rfl
    .exact .same h
   .exact .same h
  .exact .same h
 .exact .same h
theorem aTx{q:Nat}{n:Int}{σ:Sg}{k:Sg->O}{r:aH}(h:Ry q n σ k=some r):rH σ k r:=by
 unfold Ry at h;split at h
 .rename_i e e' κ ρ l hq
  obtain⟨y,hn,hy,h⟩:=FT h;obtain⟨H1,h,hH1⟩:=jQ h;obtain⟨H2,h,hH2⟩:=jQ h;refine⟨_,h,λh=>(by show 100<=σ.N+8;omega),λhN E=>?_⟩;have:=aVd (E:=E) (T:=λt=>(lk t σ.T).map X.D) (H:=λk=>(lk k σ.H).map XO.A) (N:=σ.N) q (n.toNat*(1+ρ.size)) (cs:=bZ eQ l) (by rw[hq];rfl) (aWV hy) hN;unfold dU;rw[show mk (λt=>(lk t σ.T).map X.D) (λk=>(lk k H2).map XO.A) (σ.N+8)=_ from mk_eq (λt'=>rfl) (λk'=>?_) rfl]
  .exact this
  .rw[hH2,hH1]
   split
   .rfl
   .split
    .rfl
    .rfl
 .exact .same h
theorem aW7{q:Nat}{σ:Sg}{k:Sg->O}{r:aH}(h:TL q σ k=some r):rH σ k r:=by
 unfold TL at h;split at h
 .rename_i e e' κ ρ l n f hq
  split at h
  .rename_i e1 κ1 xs hf
   split at h
   .rename_i hκ _
    split at h
    .rename_i hc
     rw[bA]at hc;have he:=bH hc.1;subst he;have hκ':=hκ;subst hκ';obtain⟨y,hn,hy,h⟩:=FT h;obtain⟨H1,h,hH1⟩:=jQ h;obtain⟨H2,h,hH2⟩:=Ce h;refine⟨_,h,id,λhN E=>?_⟩;have hlt:n.toNat<l.length:=(bP.1 hy).1;have hb:=Lr (ρ:=ρ) (l:=l) (j:=0) hlt (by omega);rw[hZ]at hb;have:=Sc (E:=E) (T:=λt=>(lk t σ.T).map X.D) (H:=λk=>(lk k σ.H).map XO.A) (N:=σ.N) q (n.toNat*(1+ρ.size)) f (cs:=(bZ eQ l).set (n.toNat*(1+ρ.size)) (.dH (.own f))) (by rw[hq];rfl) (l8 hb) (by rw[hf];rfl);have hs:=S2 (f:=eQ) Fe l n.toNat 0 y (xs,y.2) (.cE (dX xs) (bZ (aI κ1) xs)) hy (by omega) rfl;rw[hZ]at hs;rw[List.set_set,<-hs]at this;unfold dU;rw[show mk (λt=>(lk t σ.T).map X.D) (λk=>(lk k H2).map XO.A) σ.N=_ from mk_eq (λt'=>rfl) (λk'=>?_) rfl]
     .exact this
     .rw[hH2,hH1]
      split
      .rfl
      .split
       .simp only[jE,XO.A,jA]
        rw[iI];rfl
       .rfl
    .exact .same h
   .exact .same h
  .exact .same h
 .exact .same h
theorem aTc{m:Mv}{σ:Sg}{k:Sg->O}{r:aH}(h:Ri m σ k=some r):rH σ k r:=by
 unfold Ri at h;split at h
 .split at h
  .exact aAw h
  .split at h
   .exact aAw h
   .exact .same h
  .exact .same h
 .rename_i t o
  split at h
  .rename_i ht he
   obtain⟨T',h,hT⟩:=jQ h;obtain⟨H',h,hH⟩:=jQ h;refine⟨_,h,λh=>(by show 100<=σ.N+8;omega),λhN E=>?_⟩;have:=aVb (E:=E) (T:=λt=>(lk t σ.T).map X.D) (H:=λk=>(lk k σ.H).map XO.A) t (aCw he) (by rw[ht];rfl) hN;unfold dU;rw[show mk (λt=>(lk t T').map X.D) (λk=>(lk k H').map XO.A) (σ.N+8)=_ from mk_eq (λt'=>?_) (λk'=>?_) rfl]
   .exact this
   .rw[hT];split <;> rfl
   .rw[hH];split <;> rfl
  .exact .same h
 .split at h
  .rename_i he
   exact aT5 (aCw he) h
  .exact .same h
 .rename_i t τ
  split at h
  .rename_i q ht
   split at h
   .rename_i e xs hq
    split at h
    .rename_i y hy
     obtain⟨T',h,hT⟩:=jQ h;obtain⟨H',h,hH⟩:=Ce h;refine⟨_,h,id,λhN E=>?_⟩;have:=aVe (E:=E) (T:=λt=>(lk t σ.T).map X.D) (H:=λk=>(lk k σ.H).map XO.A) (N:=σ.N) t q (e:=e) (ds:=xs.map X.D) (ts:=aI τ y) (by rw[ht];rfl) (by rw[hq];rfl) (by rw[cQ];exact aUM hy) (λi tr hi=>by
      obtain⟨d0,h1,h2⟩:=(pG hy).get i (.t tr) (by rw[cD,hi];rfl);exact⟨d0,h1,h2⟩)
     unfold dU;rw[show mk (λt=>(lk t T').map X.D) (λk=>(lk k H').map XO.A) σ.N=_ from mk_eq (λt'=>?_) (λk'=>?_) rfl]
     .exact this
     .rw[hT];split <;> rfl
     .rw[hH];split <;> rfl
    .exact .same h
   .exact .same h
  .exact .same h
 .split at h
  .exact aWD h
  .exact .same h
 .split at h
  .exact aQs h
  .exact .same h
 .split at h
  .exact aTx h
  .exact .same h
 .split at h
  .exact aW7 h
  .exact .same h
theorem Rh:∀(l:List Mv)(σ:Sg)(k:Sg->O)(r:aH),LN l σ k=some r->rH σ k r
 |[],σ,k,r,h=>.same h
 |m::l,σ,k,r,h=>by
   obtain⟨σ1,h1,h2,h3⟩:=aTc (m:=m) h;obtain⟨σ2,e1,e2,e3⟩:=Rh l σ1 k r h1;exact⟨σ2,e1,λh=>e2 (h2 h),λhN E=>cV.trans' (h3 hN E) (e3 (h2 hN) E)⟩
theorem aA9{τ:Ty}{y:τ.V}:(gT τ y).D=if τ.one then .t (oF τ y)else .agg ((aI τ y).map .t):=by
 unfold gT;cases h:τ.one with
 |true=>simp only[pK h];rfl
 |false=>simp only[X.D,fA,Cg];rfl
theorem kQ{H:Nat->Option aM}{τ:Ty}{x:X}{y:τ.V}(h:iN τ x=some y):bR H x.D (gT τ y).D:=by
 rw[aA9];unfold iN at h;split at h
 .rename_i h1
  rw[aE h1];exact pA h1 h
 .rename_i h1
  rw[aC (by rw[h1];simp)];split at h
  .unfold X.D
   rw[fA];exact bR.agg (pG h)
  .cases h
theorem aWi(σ:Vw)(τ:Ty)(x:X):bR σ.den.H x.D (TP σ τ x).D:=by
 unfold TP;split
 .rename_i y h
  exact(SS σ x).trans (kQ h)
 .exact bR.refl
theorem aBU{σ:Sg}{gv:List (Nat×Ty)}:∀(ts:List Nat)(T':XT),Kt σ gv ts=some T'->∀t x',lk t T'=some x'->∃x,lk t σ.T=some x/\bR σ.vw.den.H x.D x'.D
 |[],T',h,t,x',ht=>by cases h;cases ht
 |t0::l,T',h,t,x',ht=>by
   unfold Kt at h;split at h
   .rename_i x hx
    split at h
    .rename_i r hr
     cases h;unfold lk at ht;split at ht
     .rename_i he
      have he:=bH he;subst he;cases ht;refine⟨x,hx,?_⟩;split
      .exact aWi _ _ _
      .exact bR.refl
     .exact aBU l r hr t x' ht
    .cases h
   .cases h
mutual
theorem Em{H:Nat->Option aM}{nm':Nat->Bool}{ρ:Nat->Nat}{f:Nat->Option Nat}(hf:∀k k',f k=some k'->nm' k'=true/\k=ρ k'):∀(x y:X),fG f x=some y->dN false H nm' ρ x.D y.D
 |.own q,y,h=>by
   unfold fG at h;split at h
   .rename_i q' hq;cases h;exact .own (hf _ _ hq).1 (hf _ _ hq).2
   .cases h
 |.ref q off,y,h=>by
   unfold fG at h;split at h
   .rename_i q' hq;cases h;exact .ref (hf _ _ hq).1 (hf _ _ hq).2
   .cases h
 |.rr q i j s,y,h=>by
   unfold fG at h;split at h
   .rename_i q' hq;cases h;exact .ref (hf _ _ hq).1 (hf _ _ hq).2
   .cases h
 |.agg xs,y,h=>by
   unfold fG at h;split at h
   .rename_i ys hy;cases h;exact .aWp (u6 hf xs ys hy)
   .cases h
 |.aT xs,y,h=>by
   unfold fG at h;split at h
   .rename_i ys hy;cases h;exact .CB (u6 hf xs ys hy)
   .cases h
 |.fn g xs,y,h=>by
   unfold fG at h;split at h
   .rename_i ys hy;cases h;exact .fn' (u6 hf xs ys hy)
   .cases h
 |.e τ x,y,h=>by
   unfold fG at h;cases h;unfold X.D;split
   .exact .t rfl
   .exact .any
 |.dE,y,h=>by unfold fG at h;cases h;exact .t rfl
 |.pt τ x j,y,h=>by unfold fG at h;cases h;exact .ptr
 |.v w,y,h=>by unfold fG at h;cases h;exact .t rfl
 |.bit j q,y,h=>by unfold fG at h;cases h
 |.eO k c x,y,h=>by unfold fG at h;cases h
 |.sub _ _,y,h=>by unfold fG at h;cases h
 |.gM _ _ _,y,h=>by unfold fG at h;cases h
 |.vw _ _ _ _,y,h=>by unfold fG at h;cases h
 |.via k j,y,h=>by
   unfold fG at h;split at h
   .rename_i q' hq;cases h;exact .via (hf _ _ hq).1 (hf _ _ hq).2
   .cases h
 |.iO _,y,h=>by unfold fG at h;cases h
theorem u6{H:Nat->Option aM}{nm':Nat->Bool}{ρ:Nat->Nat}{f:Nat->Option Nat}(hf:∀k k',f k=some k'->nm' k'=true/\k=ρ k'):∀(xs ys:List X),mM f xs=some ys->rK false H nm' ρ (Ds xs) (Ds ys)
 |[],ys,h=>by unfold mM at h;cases h;exact .nil
 |x::l,ys,h=>by
   unfold mM at h;split at h
   .rename_i y hy
    split at h
    .rename_i r hr
     cases h;exact .cons (Em hf x y hy) (u6 hf l r hr)
    .cases h
   .cases h
end
theorem En{H:Nat->Option aM}{nm':Nat->Bool}{ρ:Nat->Nat}{f:Nat->Option Nat}(hf:∀k k',f k=some k'->nm' k'=true/\k=ρ k'){o o':XO}(h:qJ f o=some o'):gQ false H nm' ρ o.A o'.A:=by
 cases o with
 |box e xs=>
   simp only[qJ]at h;split at h
   .rename_i ys hy
    cases h;have:=u6 (H:=H) hf xs ys hy;rw[fA,fA]at this;exact .aW3 this
   .cases h
 |row e τ l st=>simp only[qJ]at h;cases h;exact .row rfl rfl
 |nest e e' τ l=>simp only[qJ]at h;cases h;exact .nest rfl
 |bI e e' κ ρ' l ln=>
   have key:∀c∈bZ (eQ (κ:=κ) (ρ:=ρ')) l,MF false H nm' ρ c c:=λc hc=>by
    rcases aDQ l c hc with⟨n,ts,rfl⟩|⟨t,rfl⟩
    .exact .cE
    .exact .d (.t rfl)
   simp only[qJ]at h;split at h
   .cases h
    exact .bI rfl (λi c c' h h'=>by
     have e:=eX (h.symm.trans h');subst e;exact key c (gK.2 ⟨i,h⟩))
   .rename_i i q
    split at h
    .rename_i q' hq
     cases h;refine .bI (by rw[LU,LU]) (λj c c' h h'=>?_);unfold jA at h h';by_cases hj:i.toNat*(1+ρ'.size)=j
     .subst hj
      have hlt:=(bP.1 h).1;rw[iI]at hlt;rw[l8 hlt]at h h';cases h;cases h';exact .d (Em (H:=H) hf (.own q) (.own q') (by unfold fG;rw[hq]))
     .rw[nH hj]at h h'
      have e:=eX (h.symm.trans h');subst e;exact key c (gK.2 ⟨j,h⟩)
    .cases h
 |it s pos=>
   simp only[qJ]at h;cases h;exact .it
 |mp τ l=>
   simp only[qJ]at h;split at h
   .rename_i r hr
    cases h;have key:∀(l r:List (τ.V×X)),Kl f l=some r->l.length=r.length/\∀(i:Nat)(p p':τ.V×X),l[i]?=some p->r[i]?=some p'->p.1=p'.1/\dN false H nm' ρ p.2.D p'.2.D:=by
     intro l
     induction l with
     |nil=>intro r h;cases h;exact⟨rfl,λi p p' h=>by simp at h⟩
     |cons a l ih=>
       intro r h;obtain⟨k,x⟩:=a;unfold Kl at h;split at h
       .rename_i y hy
        split at h
        .rename_i r' hr'
         cases h;obtain⟨h1,h2⟩:=ih r' hr';refine⟨by simp[h1],λi p p' hp hp'=>?_⟩;cases i with
         |zero=>simp at hp hp';subst hp hp';exact⟨rfl,Em hf _ _ hy⟩
         |succ i=>exact h2 i p p' (by simpa using hp) (by simpa using hp')
        .cases h
       .cases h
    obtain⟨h1,h2⟩:=key l r hr;refine .mp (by simp[h1]) (λi p p' hp hp'=>?_);rw[cD]at hp hp';obtain⟨a,ha,rfl⟩:=b9.1 hp;obtain⟨b,hb,rfl⟩:=b9.1 hp';obtain⟨e1,e2⟩:=h2 i a b ha hb;exact⟨by rw[e1],e2⟩
   .cases h
theorem aBL{f:Nat->Option Nat}:∀(T T':XT),Kk f T=some T'->∀t y,lk t T'=some y->∃x,lk t T=some x/\fG f x=some y
 |[],T',h,t,y,ht=>by cases h;cases ht
 |(t0,x0)::l,T',h,t,y,ht=>by
   unfold Kk at h;split at h
   .rename_i y0 hy
    split at h
    .rename_i r hr
     cases h;unfold lk at ht ⊢;split at ht
     .cases ht;exact⟨x0,rfl,hy⟩
     .exact aBL l r hr t y ht
    .cases h
   .cases h
theorem qK{f:Nat->Option Nat}{H:Nat->Option XO}:∀(al:List (Nat×Nat))(H':XH),nY f H al=some H'->∀k o',lk k H'=some o'->∃q o,lk k al=some q/\H q=some o/\qJ f o=some o'
 |[],H',h,k,o',hk=>by cases h;cases hk
 |(new,q)::l,H',h,k,o',hk=>by
   unfold nY at h;split at h
   .rename_i o ho
    split at h
    .rename_i o1 h1
     split at h
     .rename_i r hr
      cases h;unfold lk at hk ⊢;split at hk
      .cases hk;exact⟨q,o,rfl,ho,h1⟩
      .exact qK l r hr k o' hk
     .cases h
    .cases h
   .cases h
theorem CR{k new:Nat}:∀{rn:List (Nat×Nat)},old rn k=some new->(new,k)∈rn
 |[],h=>by cases h
 |(n,o)::l,h=>by
   unfold old at h;split at h
   .rename_i he
    have he:=bH he;subst he;cases h;exact List.mem_cons_self ..
   .exact gF _ (CR h)
theorem mR{α:Type}{k:Nat}{x:α}{l:List (Nat×α)}(h:lk k l=some x):(k,x)∈l:=jW (by rw[<-LR];exact h)
theorem LK:∀{l:List Nat},nodupB l=true->l.Nodup
 |[],_=>List.nodup_nil
 |k::l,h=>by
   unfold nodupB at h;split at h
   .cases h
   .rename_i hc
    exact aXJ.2 ⟨(λhm=>by rw[List.contains_iff_mem.2 hm]at hc;cases hc),LK h⟩
structure T9(rn al:List (Nat×Nat))(lo hi:Nat):Prop where
 gV:∀new q,(new,q)∈rn->lo<=new/\new<hi/\qW new=false/\bC rn new=q
 nd:(al.map (·.2)).Nodup
 al:∀k q,lk k al=some q->bC rn k=q/\(qW k=true\/∃q',(k,q')∈rn)
theorem CL{rn:List (Nat×Nat)}{k q:Nat}(h:lk k rn=some q):bC rn k=q:=by
 unfold bC;rw[<-LR,h]
theorem qV{k:Nat}:qW k=true ↔ 50<=k/\k<100:=by
 unfold qW;rw[bA];exact⟨λ⟨a,b⟩=>⟨eJ a,eJ b⟩,λ⟨a,b⟩=>⟨Tf a,Tf b⟩⟩
theorem Qw{rn al:List (Nat×Nat)}{lo hi:Nat}(h:Ek rn al lo hi=true):T9 rn al lo hi:=by
 unfold Ek at h;simp only[bA]at h;obtain⟨⟨h1,h2⟩,h3⟩:=h;have hlk:∀{p:Nat×Nat},(match lk p.1 rn with|some q=>Nat.beq q p.2|none=>false)=true->lk p.1 rn=some p.2:=λ{p} h=>by
  split at h
  .rename_i q hq;rw[hq,bH h]
  .cases h
 have h1':∀p∈rn,lo<=p.1/\p.1<hi/\qW p.1=false/\lk p.1 rn=some p.2:=λp hp=>by
  have:=cT.1 h1 p hp;simp only[bA,GB]at this;obtain⟨⟨⟨a,b⟩,c⟩,d⟩:=this;exact⟨eJ a,eJ b,c,hlk d⟩
 refine⟨λnew q hm=>?_,LK h2,λk q hk=>?_⟩
 .obtain⟨a,b,c,d⟩:=h1' _ hm
  exact⟨a,b,c,CL d⟩
 .have:=cT.1 h3 _ (mR hk)
  simp only[Bool.or_eq_true,bA]at this;rcases this with⟨a,b⟩|c
  .have hb:=bH b
   have hkH:=qV.1 a;refine⟨?_,.inl a⟩;rw[<-hb];unfold bC;cases hl:Ab.look k rn with
   |none=>rfl
   |some z=>
     have:=(h1' _ (jW hl)).2.2.1;simp only at this;rw[a]at this;cases this
  .have:=hlk (p:=(k,q)) c
   exact⟨CL this,.inr ⟨_,mR this⟩⟩
theorem T9.f{rn al:List (Nat×Nat)}{lo hi:Nat}(F:T9 rn al lo hi)(hhi:hi<=100):∀k k',pB rn k=some k'->decide (k'<100)=true/\k=bC rn k':=λk k' h=>by
 unfold pB at h;split at h
 .rename_i hH
  cases h;refine⟨aL (qV.1 hH).2,?_⟩;unfold bC;cases hl:Ab.look k rn with
  |none=>rfl
  |some z=>
    have:=(F.gV _ _ (jW hl)).2.2.1;rw[hH]at this;cases this
 .obtain⟨a,b,c,d⟩:=F.gV _ _ (CR h)
  exact⟨aL (by omega),d.symm⟩
theorem LI{al:List (Nat×Nat)}(h:(al.map (·.2)).Nodup):∀{a b q:Nat},(a,q)∈al->(b,q)∈al->a=b:=by
 induction al with
 |nil=>intro a b q ha;cases ha
 |cons p l ih=>
   intro a b q ha hb;rw[gL,aXJ]at h;rcases eD.1 ha with e1|h1
   .rcases eD.1 hb with e2|h2
    .rw[<-e1]at e2;cases e2;rfl
    .exact absurd (eK.2 ⟨_,h2,by rw[<-e1]⟩) h.1
   .rcases eD.1 hb with e2|h2
    .exact absurd (eK.2 ⟨_,h1,by rw[<-e2]⟩) h.1
    .exact ih h.2 h1 h2
theorem aVf{E:Env}{T T':Nat->Option D}{H H':Nat->Option aM}{N N':Nat}(ρ:Nat->Nat)(hT:∀t d',T' t=some d'->∃d,T t=some d/\dN false H (λk=>decide (k<N')) ρ d d')
    (hH:∀k o',H' k=some o'->k<N'/\∃o,H (ρ k)=some o/\gQ false H (λk=>decide (k<N')) ρ o o') (hinj:∀k k' o o',H' k=some o->H' k'=some o'->ρ k=ρ k'->k=k') (hid:∀k,50<=k->k<100->ρ k=k):cV E (mk T H N) (mk T' H' N'):=by
 intro tm w ⟨ν,G,I⟩;have hρ:∀k',decide (k'<N')=true->(mk T H N).nm (ρ k')=true->(λk=>ν (ρ k)) k'=ν (ρ k'):=λ_ _ _=>rfl
 refine⟨λk=>ν (ρ k),G,I.kept,I.cS,λk h1 h2=>?_,I.g0,I.sz,λt d' h=>?_,λk o' h=>?_,λk o k' o' h h' hne g hg=>?_⟩
 .show ν (ρ k)=_
  rw[hid k h1 h2];exact I.eL k h1 h2
 .obtain⟨d,hd,hle⟩:=hT t d' h
  obtain⟨v,hv,hvd⟩:=I.T t d hd;exact⟨v,hv,hle.rel (λ_ _ _ h=>h) I.rows hρ hvd⟩
 .obtain⟨hk,o,ho,hle⟩:=hH k o' h
  exact⟨aL hk,(I.H _ o ho).2.view hle I.rows hρ rfl (λ_ _ h=>h)⟩
 .obtain⟨_,o1,h1,l1⟩:=hH k o h
  obtain⟨_,o2,h2,l2⟩:=hH k' o' h';exact λhg'=>I.cF _ o1 _ o2 h1 h2 (λe=>hne (hinj k k' o o' h h' e)) g (l1.ft.1 hg) (l2.ft.1 hg')
theorem LH{nm:Nm}{σ:Sg}{k:Sg->O}{r:aH}(h:AM nm σ k=some r)(hN:100<=σ.N):∃σ',k σ'=some r/\σ'.N=100/\∀E,cV E (dU σ) (dU σ'):=by
 unfold AM at h;obtain⟨σ2,h,hN2,hE2⟩:=Rh _ _ _ _ h;obtain⟨T1,hp,h⟩:=bG h;simp only at h;split at h
 case h_2=>cases h
 rename_i hrn;have F:=Qw hrn;obtain⟨T2,hT2,h⟩:=bG h;obtain⟨H2,hH2,h⟩:=bG h;refine⟨_,h,rfl,λE=>(cV.trans' (hE2 hN E) (cV.trans' (b:=mk (λt=>(lk t T1).map X.D) (λk=>(lk k σ2.H).map XO.A) σ2.N) (aVh λt d' ht=>?_) ?_))⟩
 .obtain⟨x',hx',rfl⟩:=b9.1 ht
  obtain⟨x,e1,e2⟩:=aBU _ _ hp t x' hx';exact⟨x.D,by rw[e1];rfl,e2⟩
 .have hf:=F.f (by omega)
  refine aVf (bC (iP 0 (reach σ2.vw.H 60 (Rg T1 (handed σ2.H)) []))) (λt d' ht=>?_) (λk o' hk=>?_) (λk k' o o' h1 h2 e=>?_) (λk h1 h2=>?_)
  .obtain⟨y,hy,rfl⟩:=b9.1 ht
   obtain⟨x,e1,e2⟩:=aBL _ _ hT2 t y hy;exact⟨x.D,by rw[e1];rfl,Em hf x y e2⟩
  .obtain⟨y,hy,rfl⟩:=b9.1 hk
   obtain⟨q,o,e1,e2,e3⟩:=qK _ _ hH2 k y hy;obtain⟨a1,a2⟩:=F.al k q e1;refine⟨?_,o.A,by rw[a1];exact aO (aDf XO.A) e2,En hf e3⟩;rcases a2 with a2|⟨q',a2⟩
   .exact(qV.1 a2).2
   .have:=(F.gV _ _ a2).2.1;show k<100;omega
  .obtain⟨y1,hy1,rfl⟩:=b9.1 h1
   obtain⟨y2,hy2,rfl⟩:=b9.1 h2;obtain⟨q1,_,e1,_,_⟩:=qK _ _ hH2 k y1 hy1;obtain⟨q2,_,e2,_,_⟩:=qK _ _ hH2 k' y2 hy2;rw[(F.al k q1 e1).1,(F.al k' q2 e2).1]at e;subst e;exact LI F.nd (mR e1) (mR e2)
  .unfold bC
   cases hl:Ab.look k _ with
   |none=>rfl
   |some z=>
     have:=(F.gV _ _ (jW hl)).2.2.1;rw[qV.2 ⟨h1,h2⟩]at this;cases this
end Go.Ax
/- Code, loops, functions. -/
namespace Go.Ax
open aA
open Go.RowKit Go.Ab
def rD(c:Cx)(M:Nat)(code:Code)(σ:Sg)(Post:Exit->Sg->Prop):Prop:=∀E:Env,E.m=M->fX c.P E code (λe s=>∃σ',Post e σ'/\cV E s (dU σ')) (dU σ)
def dB(c:Cx)(M:Nat)(code:Code){Y1 Y2 Y3:Type}(I1:Y1->Exit×Sg)(I2:Y2->Exit×Sg)(I3:Y3->Exit×Sg)(L:Sg->(Y1->O)->(Y2->O)->(Y3->O)->O):Prop:=∀σ k1 k2 k3 r,L σ k1 k2 k3=some r->σ.N=100->
 rD c M code σ λe σ'=>100<=σ'.N/\((∃y,k1 y=some r/\I1 y=(e,σ'))\/(∃y,k2 y=some r/\I2 y=(e,σ'))\/∃y,k3 y=some r/\I3 y=(e,σ'))
def bN(c:Cx)(M:Nat)(h:Hint)(code:Code):Prop:=match h with
 |.sub _ _ _ _ I1 I2 I3 L=>dB c M code I1 I2 I3 L
 |h=>match code with
   |.seq a b=>bN c M (match h with|.seq x _=>x|_=>.d) a/\bN c M (match h with|.seq _ y=>y|_=>.d) b
   |.cond _ a b=>bN c M (match h with|.cond x _=>x|_=>.d) a/\bN c M (match h with|.cond _ y=>y|_=>.d) b
   |.block _ a=>bN c M (match h with|.block x=>x|_=>.d) a
   |.scope a=>bN c M (match h with|.block x=>x|_=>.d) a
   |_=>True
termination_by structural code
theorem dS{c:Cx}{M:Nat}:∀code:Code,bN c M .d code
 |.skip=>trivial
 |.region ..=>trivial
 |.seq a b=>⟨dS a,dS b⟩
 |.cond _ a b=>⟨dS a,dS b⟩
 |.block _ a=>dS a
 |.loop _=>trivial
 |.rangeFunc ..=>trivial
 |.exit _=>trivial
 |.scope a=>dS a
 |.label _=>trivial
 |.goto _=>trivial
 |.ret=>trivial
 |.refuse _=>trivial
theorem Si{σ:Sg}{s:St}(h:fW σ.T σ.H s){E:Env}:cV E (mk s.T s.H σ.N) (dU σ):=aV7 (λt d ht=>by
    obtain⟨x,hx,rfl⟩:=b9.1 ht;exact h.T t x hx) (λk o hk=>by
    obtain⟨x,hx,rfl⟩:=b9.1 hk;exact h.H k x hx)
theorem fW.den(σ:Sg):fW σ.T σ.H (dU σ):=⟨λt x h=>by show(lk t σ.T).map X.D=_;rw[h];rfl,λk o h=>by show(lk k σ.H).map XO.A=_;rw[h];rfl⟩
theorem Sf{M:Nat}:∀{l:List Oper},F4 M l=true->(l.all λo=>match o.dst with|none=>true|some t=>decide (t<M))=true
 |[],_=>rfl
 |o::l,h=>by
   unfold F4 at h;rw[List.all_cons,bA];split at h
   .rename_i t ht
    split at h
    .rename_i hb
     exact⟨by rw[ht];exact aL (eJ hb),Sf h⟩
    .cases h
   .rename_i ht
    exact⟨by rw[ht],Sf h⟩
theorem aA3(n:Int)(h:0<=n/\n<256):(X.e .u8 (gP n.toNat)).D = .t (.v (.int .u8 n)):=by
 have:((gP n.toNat).toNat:Int)=n:=by
  rw[T5];omega
 show D.t (.v (.int .u8 ((gP n.toNat).toNat:Int)))=_;rw[this]
theorem RW{σ:Sg}{w:Value}{x:X}(h:qQ w=some x):(dU σ).ev (.const w)=some x.D:=by
 have h1:∀v:Value,(∀vs,v≠.tuple vs)->(∀cs,v≠.agg cs)->(mP v).D = .t (.v v):=λv h1 h2=>by
  unfold mP;split
  .split
   .exact aA3 _ (cH ‹_›)
   .rfl
  .rfl
  .rfl
  .rfl
  .rfl
  .rfl
 unfold qQ at h;unfold St.ev;split at h
 .rename_i cs
  split at h
  .rename_i ha
   cases h;show(if vQ (.agg cs)=true then some (pC (.agg cs))else none)=_;rw[aE (show vQ (.agg cs)=true from ha)];simp only[pC,X.D,fA,nG]
   congr 2
   refine List.map_congr_left λv hv=>(h1 v (λvs e=>?_) (λcs' e=>?_)).symm
   .have:=cT.1 ha v hv;rw[e]at this;cases this
   .have:=cT.1 ha v hv;rw[e]at this;cases this
  .cases h
 .cases h
 .rename_i h2 h3
  cases h;rw[h1 w (λvs e=>h3 vs e) (λcs e=>h2 cs e)];cases w with
  |agg cs=>exact absurd rfl (h2 cs)
  |tuple vs=>exact absurd rfl (h3 vs)
  |_=>rfl
theorem aV4{σ:Sg}{x:Operand}{v:X}(h:σ.vw.ev x=some v):(dU σ).ev x=some v.D:=by
 cases x with
 |tmp t=>
   simp only[Vw.ev,Sg.vw]at h;split at h
   .rename_i y hy
    have e:(dU σ).ev (.tmp t)=some y.D:=by show(lk t σ.T).map X.D=_;rw[hy];rfl
    rw[e];unfold tA at h;split at h
    .cases h;rfl
    .cases h
    .cases h;rfl
   .cases h
 |const w=>exact RW h
 |func f=>simp only[Vw.ev]at h;cases h;rfl
 |global g=>simp only[Vw.ev]at h;cases h;exact aO some (aC6 g).symm
structure aJ(c:Cx):Prop where
 mix:c.P.follows .mixedOrders=true
 step:Ly c
 iO:MA c
theorem SE{k:Exit->Sg->O}{e:Exit}{σ:Sg}{r:aH}(h:kk k (e,σ)=some r):k e σ=some r:=by
 unfold kk at h;split at h
 .cases h
 .exact h
theorem S7{c:Cx}(hc:aJ c){M:Nat}:∀(code:Code)(h:Hint)(σ:Sg)(k:Exit->Sg->O)(r:aH),exec c M h code σ k=some r->bN c M h code->100<=σ.N->rD c M code σ λe σ'=>100<=σ'.N/\k e σ'=some r:=by
 have sub:∀(code:Code) nm (Y1 Y2 Y3:Type) (I1:Y1->Exit×Sg) (I2:Y2->Exit×Sg) (I3:Y3->Exit×Sg) (L:Sg->(Y1->O)->(Y2->O)->(Y3->O)->O) (σ:Sg) (k:Exit->Sg->O) (r:aH),
     AM nm σ (λσ'=>L σ' (λy=>kk k (I1 y)) (λy=>kk k (I2 y)) (λy=>kk k (I3 y)))=some r->dB c M code I1 I2 I3 L->100<=σ.N->rD c M code σ λe σ'=>100<=σ'.N/\k e σ'=some r:=by
  intro code nm Y1 Y2 Y3 I1 I2 I3 L σ k r h hs hN E hE;obtain⟨σ1,h1,h2,h3⟩:=LH h hN;refine rA (h3 E) (q8 (hs σ1 _ _ _ r h1 h2 E hE) ?_);rintro e s ⟨σ',⟨hN',hy⟩,hent⟩;refine⟨σ',⟨hN',?_⟩,hent⟩;rcases hy with⟨y,a,b⟩|⟨y,a,b⟩|⟨y,a,b⟩
  .rw[b]at a;exact SE a
  .rw[b]at a;exact SE a
  .rw[b]at a;exact SE a
 intro code
 induction code with
 |skip=>
   intro h σ k r he hh hN;cases h with
   |sub=>exact sub _ _ _ _ _ _ _ _ _ _ _ _ he hh hN
   |_=>exact λE hE=>TM ⟨σ,⟨hN,he⟩,cV.qL⟩
 |label l=>
   intro h σ k r he hh hN;cases h with
   |sub=>exact sub _ _ _ _ _ _ _ _ _ _ _ _ he hh hN
   |_=>exact λE hE=>aWf ⟨σ,⟨hN,he⟩,cV.qL⟩
 |exit id=>
   intro h σ k r he hh hN;cases h with
   |sub=>exact sub _ _ _ _ _ _ _ _ _ _ _ _ he hh hN
   |_=>exact λE hE=>aWg ⟨σ,⟨hN,he⟩,cV.qL⟩
 |ret=>
   intro h σ k r he hh hN;cases h with
   |sub=>exact sub _ _ _ _ _ _ _ _ _ _ _ _ he hh hN
   |_=>exact λE hE=>TN ⟨σ,⟨hN,he⟩,cV.qL⟩
 |loop a _=>
   intro h σ k r he hh hN;cases h with
   |sub=>exact sub _ _ _ _ _ _ _ _ _ _ _ _ he hh hN
   |_=>cases he
 |goto l=>
   intro h σ k r he hh hN;cases h with
   |sub=>exact sub _ _ _ _ _ _ _ _ _ _ _ _ he hh hN
   |_=>cases he
 |scope a ih=>
   intro h σ k r he hh hN;have go:∀x:Hint,bN c M x a->exec c M x a σ (λe σ'=>match e with
    |.goto _=>none
    |e=>k e σ')=some r->rD c M (.scope a) σ λe σ'=>100<=σ'.N/\k e σ'=some r:=λx hx hex E hE=>by
    refine aWd (q8 (ih x σ _ r hex hx hN E hE) ?_);rintro e s ⟨σ',⟨hN',hk⟩,hent⟩;cases e with
    |goto l=>cases hk
    |_=>exact⟨σ',⟨hN',hk⟩,hent⟩
   cases h with
   |sub=>exact sub _ _ _ _ _ _ _ _ _ _ _ _ he hh hN
   |block x=>exact go x hh he
   |_=>exact go .d hh he
 |refuse a=>
   intro h σ k r he hh hN;cases h with
   |sub=>exact sub _ _ _ _ _ _ _ _ _ _ _ _ he hh hN
   |_=>cases he
 |rangeFunc a b x y _ _=>
   intro h σ k r he hh hN;cases h with
   |sub=>exact sub _ _ _ _ _ _ _ _ _ _ _ _ he hh hN
   |_=>cases he
 |block id a ih=>
   intro h σ k r he hh hN;have go:∀x:Hint,bN c M x a->exec c M x a σ (λe σ'=>match e with
    |.exit id'=>match Nat.beq id' id with|true=>k .normal σ'|false=>k (.exit id') σ'
    |e=>k e σ')=some r->rD c M (.block id a) σ λe σ'=>100<=σ'.N/\k e σ'=some r:=λx hx hex E hE=>by
    refine aD4 (q8 (ih x σ _ r hex hx hN E hE) ?_);rintro e s ⟨σ',⟨hN',hk⟩,hent⟩;cases e with
    |exit id'=>
      simp only[Tu];simp only at hk;split at hk
      .rename_i hb
       rw[aE (bH hb)];exact⟨σ',⟨hN',hk⟩,hent⟩
      .rename_i hb
       rw[aC (mY hb)];exact⟨σ',⟨hN',hk⟩,hent⟩
    |_=>exact⟨σ',⟨hN',hk⟩,hent⟩
   cases h with
   |sub=>exact sub _ _ _ _ _ _ _ _ _ _ _ _ he hh hN
   |block x=>exact go x hh he
   |_=>exact go .d hh he
 |cond z a b iha ihb=>
   intro h σ k r he hh hN;have go:∀x y:Hint,bN c M x a->bN c M y b->(ob (σ.vw.ev z) λv=>match v with
    |.e .bo q=>br q (exec c M x a σ k) (exec c M y b σ k)
    |_=>none)=some r->rD c M (.cond z a b) σ λe σ'=>100<=σ'.N/\k e σ'=some r:=λx y hx hy hex E hE=>by
    obtain⟨v,hv,hex⟩:=bG hex;split at hex
    case h_2=>cases hex
    rename_i q;have hev:=aV4 hv;refine AZ (b:=q) hev (λhq=>?_) (λhq=>?_)
    .subst hq;exact iha x σ k r hex hx hN E hE
    .subst hq;exact ihb y σ k r hex hy hN E hE
   cases h with
   |sub=>exact sub _ _ _ _ _ _ _ _ _ _ _ _ he hh hN
   |cond x y=>exact go x y hh.1 hh.2 he
   |_=>exact go .d .d hh.1 hh.2 he
 |seq a b iha ihb=>
   intro h σ k r he hh hN;have go:∀x y:Hint,bN c M x a->bN c M y b->exec c M x a σ (λe σ'=>match e with
    |.normal=>exec c M y b σ' k
    |e=>k e σ')=some r->rD c M (.seq a b) σ λe σ'=>100<=σ'.N/\k e σ'=some r:=λx y hx hy hex E hE=>by
    refine kY (q8 (iha x σ _ r hex hx hN E hE) ?_);rintro e s ⟨σ',⟨hN',hk⟩,hent⟩;cases e with
    |normal=>exact rA hent (ihb y σ' k r hk hy hN' E hE)
    |_=>exact⟨σ',⟨hN',hk⟩,hent⟩
   cases h with
   |sub=>exact sub _ _ _ _ _ _ _ _ _ _ _ _ he hh hN
   |seq x y=>exact go x y hh.1 hh.2 he
   |_=>exact go .d .d hh.1 hh.2 he
 |region id ops draw=>
   intro h σ k r he hh hN;have go:∀(stF:List Nat)(sl:List Mv)(kl:List (List Nat)),Km c M stF sl kl ops draw σ k=some r->rD c M (.region id ops draw) σ λe σ'=>100<=σ'.N/\k e σ'=some r:=λstF sl kl hex E hE=>by
    unfold Km at hex;obtain⟨σ1,hex,hN1,hent⟩:=Rh _ _ _ _ hex
    dsimp only at hex
    refine rA (hent hN E) ?_;have hN':100<=σ1.N:=hN1 hN;clear hent;split at hex
    .cases hex
    rename_i hpl;obtain⟨l⟩:=ops;simp only at hex;split at hex
    .split at hex
     case h_2=>cases hex
     rename_i hd;obtain⟨ex,σ2,e1,e2,e3,e4⟩:=CO hc.step hc.iO l 0 σ1 _ r (dU σ1) (λ_=>false) hex (fW.den σ1) (λt x ht=>CQ (RE hpl t x ht));refine nA (σ1.N+8*l.length) hE hN' rfl (Sf hd) ?_;have:∀(Post Post':Exit->St->Prop)(hp:∀e s,Post e s->Post' e s)(ops:Array Oper)(l:List Oper)(fr:Nat)(s:St),kJ c.P ops Post l fr s->kJ c.P ops Post' l fr s:=by
      intro Post Post' hp ops l
      induction l with
      |nil=>intro fr s h;exact hp _ s h
      |cons o l ih=>
        intro fr s h;rcases h with⟨d,W,h1,h2⟩|⟨ι,C,d,W,h0,h1,h2⟩|⟨v,W,h0,h1,h2⟩
        .exact .inl ⟨d,W,h1,ih _ _ h2⟩
        .exact .inr (.inl ⟨ι,C,d,W,h0,h1,λi hi=>ih _ _ (h2 i hi)⟩)
        .exact .inr (.inr ⟨v,W,h0,h1,hp _ _ h2⟩)
     refine this _ _ (λe' s hs=>?_) _ _ _ _ e4;obtain⟨rfl,hs⟩:=hs;refine⟨σ2,⟨by rw[e2];omega,e1⟩,?_⟩;rw[<-e2];exact Si hs
    .split at hex
     case h_2=>cases hex
     rename_i ha;have e3:=Cd (ops:=l.toArray) (pre:=Et l []) (kl:=kl) (fr:=σ1.N) hc.step hc.iO (s:=dU σ1) (fW.den σ1).T (fW.den σ1).H (λt x ht=>RE hpl t x ht) (fW.den σ1).H (n:=l.length) l 0 [] _ r (λ_=>false) hex rfl (by simp) (λp hp=>by cases hp);refine aWh (Et l []) kl hc.mix hE hN' ha ?_;have:∀(Post Post':Exit->St->Prop)(hp:∀e s,Post e s->Post' e s)(ops:Array Oper)(pre kl:List (List Nat))(fr:Nat)(s:St)(l:List Oper)(i:Nat)(rs:Rs),oR c.P ops pre kl fr s Post l i rs->oR c.P ops pre kl fr s Post' l i rs:=by
      intro Post Post' hp ops pre kl fr s l
      induction l with
      |nil=>intro i rs h;exact hp _ _ h
      |cons o l ih=>
        intro i rs h;rcases h with⟨d,W,h1,h2,h3⟩|⟨v,W,h1,h2,h3,h4,h5⟩
        .exact .inl ⟨d,W,h1,h2,ih _ _ h3⟩
        .exact .inr ⟨v,W,h1,h2,h3,h4,hp _ _ h5⟩
     refine this _ _ (λe' s hs=>?_) _ _ _ _ _ _ _ _ e3;rcases hs with⟨rfl,rs,e1,e2,rfl⟩|⟨σ',e1,e2,e3⟩
     .obtain⟨T2,H2,e4,e5⟩:=aCb (ops:=l.toArray) (fr:=σ1.N) l 0 rs σ1.T σ1.H _ r (dU σ1) (λq o ho=>by rw[cY];simp[Region.dP,ho]) (by omega) e1 (fW.den σ1)
      obtain⟨T3,e6,e7,e8⟩:=Eu e4;refine⟨⟨T3,H2,σ1.N+8*l.length⟩,⟨by show 100<=σ1.N+8*l.length;omega,e6⟩,?_⟩;exact Si (σ:=⟨T3,H2,σ1.N+8*l.length⟩) (e5.T' e7)
     .have e2':σ'.N=σ1.N+8*l.length:=by rw[e2];simp
      refine⟨σ',⟨by omega,e1⟩,?_⟩;rw[<-e2'];exact Si e3
   cases h with
   |sub=>exact sub _ _ _ _ _ _ _ _ _ _ _ _ he hh hN
   |jS a b d=>exact go a b d he
   |_=>exact go [] [] [] he
end Go.Ax
/- Loops and parts of the code as declarations of their own; functions. -/
namespace Go.Ax
open aA
open Go.RowKit Go.Ab
theorem aTh{c:Cx}(hc:aJ c){M:Nat}{hb:Hint}{body:Code}(hh:bN c M hb body){nm:Nm}{out:List (Exit×Nm)}{n:Nat}{σ:Sg}{K:Exit->Sg->O}{r:aH}(h:iQ c M hb body nm out n σ K=some r)(hN:100<=σ.N):
    rD c M (.loop body) σ λe σ'=>100<=σ'.N/\K e σ'=some r:=by
 intro E hE;refine aWe (ι:=Nat×Sg) (λp=>dU p.2) (λp=>iQ c M hb body nm out p.1 p.2 K=some r/\100<=p.2.N) (λp=>p.1) (n,σ) cV.qL ⟨h,hN⟩ ?_;rintro⟨m,σ0⟩ ⟨h0,hN0⟩;simp only at h0 hN0;cases m with
 |zero=>cases h0
 |succ m=>
   unfold iQ at h0;refine q8 (S7 hc body hb σ0 _ r h0 hh hN0 E hE) ?_;rintro e s ⟨σ1,⟨hN1,h1⟩,hent⟩;cases e with
   |normal=>
     obtain⟨σ2,e1,e2,e3⟩:=LH (k:=λσ'=>iQ c M hb body nm out m σ' K) h1 hN1;exact⟨(m,σ2),⟨e1,by rw[e2];exact bX _⟩,Nat.lt_succ_self m,cV.trans' hent (e3 E)⟩
   |_=>
     unfold dQ at h1;obtain⟨nm',_,h1⟩:=bG h1;obtain⟨σ2,e1,e2,e3⟩:=LH h1 hN1;exact⟨σ2,⟨by rw[e2];exact bX _,e1⟩,cV.trans' hent (e3 E)⟩
theorem aRL{c:Cx}(hc:aJ c){M:Nat}{hb:Hint}{code:Code}(hh:bN c M hb code){out:List (Exit×Nm)}{σ:Sg}{K:Exit->Sg->O}{r:aH}(h:exec c M hb code σ (Ew out K)=some r)(hN:100<=σ.N):
    rD c M code σ λe σ'=>100<=σ'.N/\K e σ'=some r:=by
 intro E hE;refine q8 (S7 hc code hb σ _ r h hh hN E hE) ?_;rintro e s ⟨σ1,⟨hN1,h1⟩,hent⟩;unfold Ew at h1;obtain⟨nm',_,h1⟩:=bG h1;obtain⟨σ2,e1,e2,e3⟩:=LH h1 hN1;exact⟨σ2,⟨by rw[e2];exact bX _,e1⟩,cV.trans' hent (e3 E)⟩
section
variable{ι Y1 Y2 Y3:Type}{I:ι->Sg}{un:Sg->ι}{I1:Y1->Exit×Sg}{I2:Y2->Exit×Sg}{I3:Y3->Exit×Sg}
theorem dY{L:ι->(Y1->O)->(Y2->O)->(Y3->O)->O}(h:∀x,un (I x)=x)(x:ι)(k1:Y1->O)(k2:Y2->O)(k3:Y3->O):aW I un L (I x) k1 k2 k3=L x k1 k2 k3:=by
 unfold aW;rw[aE (by rw[h]),h]
open Classical in
noncomputable def qU(u1:Exit->Sg->Y1)(u2:Exit->Sg->Y2)(u3:Exit->Sg->Y3)(I1:Y1->Exit×Sg)(I2:Y2->Exit×Sg)(I3:Y3->Exit×Sg)(k1:Y1->O)(k2:Y2->O)(k3:Y3->O)(e:Exit)(σ:Sg):O:=
 if I1 (u1 e σ)=(e,σ)then k1 (u1 e σ)else if I2 (u2 e σ)=(e,σ)then k2 (u2 e σ)else if I3 (u3 e σ)=(e,σ)then k3 (u3 e σ)else none
def eU:Exit->Nat
 |.normal=>0
 |.ret=>1
 |.panic _=>2
 |.outgrown=>3
 |.exit n=>4+2*n
 |.goto n=>5+2*n
structure pQ(u1:Exit->Sg->Y1)(u2:Exit->Sg->Y2)(u3:Exit->Sg->Y3)(I1:Y1->Exit×Sg)(I2:Y2->Exit×Sg)(I3:Y3->Exit×Sg)(e1 e2 e3:Nat):Prop where
 h1:∀y,u1 (I1 y).1 (I1 y).2=y
 h2:∀y,u2 (I2 y).1 (I2 y).2=y
 h3:∀y,u3 (I3 y).1 (I3 y).2=y
 x1:∀y,eU (I1 y).1=e1
 x2:∀y,eU (I2 y).1=e2
 x3:∀y,eU (I3 y).1=e3
 n12:e1≠e2
 n13:e1≠e3
 n23:e2≠e3
theorem aC0{u1:Exit->Sg->Y1}{u2:Exit->Sg->Y2}{u3:Exit->Sg->Y3}{e1 e2 e3:Nat}(h:pQ u1 u2 u3 I1 I2 I3 e1 e2 e3)(k1:Y1->O)(k2:Y2->O)(k3:Y3->O):(λy=>qU u1 u2 u3 I1 I2 I3 k1 k2 k3 (I1 y).1 (I1 y).2)=k1:=by
 funext y
 unfold qU;rw[aE (by rw[h.h1]),h.h1]
theorem aCZ{u1:Exit->Sg->Y1}{u2:Exit->Sg->Y2}{u3:Exit->Sg->Y3}{e1 e2 e3:Nat}(h:pQ u1 u2 u3 I1 I2 I3 e1 e2 e3)(k1:Y1->O)(k2:Y2->O)(k3:Y3->O):(λy=>qU u1 u2 u3 I1 I2 I3 k1 k2 k3 (I2 y).1 (I2 y).2)=k2:=by
 funext y
 unfold qU;rw[aC (λe=>h.n12 (by have:=aO (λp=>eU p.1) e;simp only[h.x1]at this;rw[this];exact h.x2 y)),aE (by rw[h.h2]),h.h2]
theorem aCY{u1:Exit->Sg->Y1}{u2:Exit->Sg->Y2}{u3:Exit->Sg->Y3}{e1 e2 e3:Nat}(h:pQ u1 u2 u3 I1 I2 I3 e1 e2 e3)(k1:Y1->O)(k2:Y2->O)(k3:Y3->O):(λy=>qU u1 u2 u3 I1 I2 I3 k1 k2 k3 (I3 y).1 (I3 y).2)=k3:=by
 funext y
 unfold qU;rw[aC (λe=>h.n13 (by have:=aO (λp=>eU p.1) e;simp only[h.x1]at this;rw[this];exact h.x3 y)),aC (λe=>h.n23 (by have:=aO (λp=>eU p.1) e;simp only[h.x2]at this;rw[this];exact h.x3 y)),aE (by rw[h.h3]),h.h3]
theorem aCX{u1:Exit->Sg->Y1}{u2:Exit->Sg->Y2}{u3:Exit->Sg->Y3}{k1:Y1->O}{k2:Y2->O}{k3:Y3->O}{e:Exit}{σ:Sg}{r:aH}(h:qU u1 u2 u3 I1 I2 I3 k1 k2 k3 e σ=some r):
    (∃y,k1 y=some r/\I1 y=(e,σ))\/(∃y,k2 y=some r/\I2 y=(e,σ))\/∃y,k3 y=some r/\I3 y=(e,σ):=by
 unfold qU at h;split at h
 .exact .inl ⟨_,h,‹_›⟩
 .split at h
  .exact .inr (.inl ⟨_,h,‹_›⟩)
  .split at h
   .exact .inr (.inr ⟨_,h,‹_›⟩)
   .cases h
theorem eG{c:Cx}(hc:aJ c){M:Nat}{hb:Hint}{body:Code}{nm:Nm}{out:List (Exit×Nm)}(hh:bN c M hb body){u1:Exit->Sg->Y1}{u2:Exit->Sg->Y2}{u3:Exit->Sg->Y3}{e1 e2 e3:Nat}(hO:pQ u1 u2 u3 I1 I2 I3 e1 e2 e3)
    {L:ι->(Y1->O)->(Y2->O)->(Y3->O)->O} {n:Nat} (hL:∀x K,L x (λy=>K (I1 y).1 (I1 y).2) (λy=>K (I2 y).1 (I2 y).2) (λy=>K (I3 y).1 (I3 y).2)=iQ c M hb body nm out n (I x) K):
    dB c M (.loop body) I1 I2 I3 (aW I un L):=by
 intro σ k1 k2 k3 r h hN;unfold aW at h;split at h
 case isFalse=>cases h
 rename_i hσ;have:=hL (un σ) (qU u1 u2 u3 I1 I2 I3 k1 k2 k3);rw[aC0 hO,aCZ hO,aCY hO,h,<-hσ]at this;intro E hE;refine q8 (aTh hc hh this.symm (by omega) E hE) ?_;rintro e s ⟨σ1,⟨h1,h2⟩,h3⟩;exact⟨σ1,⟨h1,aCX h2⟩,h3⟩
theorem aAf{c:Cx}(hc:aJ c){M:Nat}{hb:Hint}{code:Code}{out:List (Exit×Nm)}(hh:bN c M hb code){u1:Exit->Sg->Y1}{u2:Exit->Sg->Y2}{u3:Exit->Sg->Y3}{e1 e2 e3:Nat}(hO:pQ u1 u2 u3 I1 I2 I3 e1 e2 e3)
    {L:ι->(Y1->O)->(Y2->O)->(Y3->O)->O} (hL:∀x K,L x (λy=>K (I1 y).1 (I1 y).2) (λy=>K (I2 y).1 (I2 y).2) (λy=>K (I3 y).1 (I3 y).2)=exec c M hb code (I x) (Ew out K)):
    dB c M code I1 I2 I3 (aW I un L):=by
 intro σ k1 k2 k3 r h hN;unfold aW at h;split at h
 case isFalse=>cases h
 rename_i hσ;have:=hL (un σ) (qU u1 u2 u3 I1 I2 I3 k1 k2 k3);rw[aC0 hO,aCZ hO,aCY hO,h,<-hσ]at this;intro E hE;refine q8 (aRL hc hh this.symm (by omega) E hE) ?_;rintro e s ⟨σ1,⟨h1,h2⟩,h3⟩;exact⟨σ1,⟨h1,aCX h2⟩,h3⟩
theorem eH{c:Cx}{M:Nat}{hb:Hint}{body:Code}{nm:Nm}{out:List (Exit×Nm)}(l:Nat->ι->(Y1->O)->(Y2->O)->(Y3->O)->O)(h0:∀x k1 k2 k3,l 0 x k1 k2 k3=none)
    (hs:∀n (K:Exit->Sg->O),(∀x,l n x (λy=>K (I1 y).1 (I1 y).2) (λy=>K (I2 y).1 (I2 y).2) (λy=>K (I3 y).1 (I3 y).2)=iQ c M hb body nm out n (I x) K)->
     ∀x,l (n+1) x (λy=>K (I1 y).1 (I1 y).2) (λy=>K (I2 y).1 (I2 y).2) (λy=>K (I3 y).1 (I3 y).2)=exec c M hb body (I x) (dQ nm out (λσ=>iQ c M hb body nm out n σ K) K)):
    ∀n x (K:Exit->Sg->O),l n x (λy=>K (I1 y).1 (I1 y).2) (λy=>K (I2 y).1 (I2 y).2) (λy=>K (I3 y).1 (I3 y).2)=iQ c M hb body nm out n (I x) K:=by
 intro n
 induction n with
 |zero=>intro x K;exact h0 ..
 |succ n ih=>intro x K;exact hs n K (λx=>ih x K) x
end
def HA(H:XH):List (Nat×aM):=H.map λp=>(p.1,p.2.A)
theorem vE{k:Nat}:∀{H:XH},Ab.look k (HA H)=(lk k H).map XO.A
 |[]=>rfl
 |(k',o)::H=>by
   have ih:=vE (k:=k) (H:=H);unfold HA at ih ⊢;simp only[gL];unfold Ab.look lk;by_cases e:k'=k
   .subst e;simp
   .rw[aC e,mQ e];exact ih
theorem aCG:∀(l:List X)(t0 t:Nat),lk t (cC t0 l)=if t0<=t then l[t-t0]? else none
 |[],t0,t=>by simp[cC,lk]
 |x::l,t0,t=>by
   unfold cC lk;by_cases e:t0=t
   .subst e;simp
   .rw[mQ e,]
    simp only;rw[aCG l (t0+1) t];by_cases h:t0<=t
    .rw[aE h,aE (by omega),show t-t0=(t-(t0+1))+1 by omega];simp
    .rw[aC h,aC (by omega)]
theorem aVx(xs:List X)(H:XH):dU ⟨cC 0 xs,H,100⟩=args (xs.map X.D) (HA H):=by
 unfold dU args;refine mk_eq (λt=>?_) (λk=>?_) rfl
 .simp[aCG]
 .exact vE.symm
def kD(o:XO):XO:=match o with
 |.row e τ l _=>.row e τ l true
 |.nest e e' τ l=>match τ.one with|true=>.row e (.sl τ) l true|false=>.nest e e' τ l
 |.bI e _ κ ρ l none=>Qt e κ ρ l
 |o=>o
theorem uZ:∀(H:XH)(k:Nat),lk k (lF H)=(lk k H).map kD
 |[],k=>rfl
 |(k',o)::H,k=>by
   cases o with
   |row e τ l st=>
     unfold lF lk;split
     .rfl
     .exact uZ H k
   |box e xs=>
     unfold lF lk;split
     .rfl
     .exact uZ H k
   |nest e e' τ l=>
     unfold lF lk;split
     .rfl
     .exact uZ H k
   |it s pos=>
     unfold lF lk;split
     .rfl
     .exact uZ H k
   |mp τ l=>
     unfold lF lk;split
     .rfl
     .exact uZ H k
   |bI e e' κ ρ l ln=>
     cases ln with
     |none=>
       unfold lF lk;split
       .rfl
       .exact uZ H k
     |some p=>
       unfold lF lk;split
       .rfl
       .exact uZ H k
theorem aQe(o:XO):kD o=o\/Ef o=some (kD o):=by
 cases o with
 |row e τ l st=>
   cases st with
   |true=>exact .inl rfl
   |false=>exact .inr rfl
 |box e xs=>exact .inl rfl
 |mp τ l=>exact .inl rfl
 |it s pos=>exact .inl rfl
 |bI e e' κ ρ l ln=>
   cases ln with
   |none=>exact .inr rfl
   |some p=>exact .inl rfl
 |nest e e' τ l=>
   cases h:τ.one with
   |true=>exact .inr (by simp only[kD,Ef,h])
   |false=>exact .inl (by simp only[kD,h])
theorem aCq{E:Env}{σ:Sg}:∀(l:List Nat),cV E (dU σ) (mk (λt=>(lk t σ.T).map X.D) (λk=>((lk k σ.H).map λo=>if k∈l then kD o else o).map XO.A) σ.N)
 |[]=>by
   unfold dU;rw[mk_eq (T':=λt=>(lk t σ.T).map X.D) (H':=λk=>((lk k σ.H).map λo=>if k∈([]:List Nat)then kD o else o).map XO.A) (λ_=>rfl) (λk=>?_) rfl]
   .exact cV.qL
   .cases lk k σ.H <;> simp
 |q::l=>by
   refine cV.trans' (aCq l) ?_;by_cases hq:q∈l
   .rw[mk_eq (T':=λt=>(lk t σ.T).map X.D) (H':=λk=>((lk k σ.H).map λo=>if k∈q::l then kD o else o).map XO.A) (λ_=>rfl) (λk=>?_) rfl]
    .exact cV.qL
    .congr 2
     funext o
     by_cases hk:k∈l
     .rw[aE hk,aE (gF _ hk)]
     .rw[aC hk,aC (λh=>by rcases eD.1 h with h|h;exact hk (h ▸ hq);exact hk h)]
   .cases ho:lk q σ.H with
    |none=>
      rw[mk_eq (T':=λt=>(lk t σ.T).map X.D) (H':=λk=>((lk k σ.H).map λo=>if k∈q::l then kD o else o).map XO.A) (λ_=>rfl) (λk=>?_) rfl]
      .exact cV.qL
      .by_cases e:k=q
       .subst e;rw[ho];rfl
       .congr 2
        funext o
        by_cases hk:k∈l
        .rw[aE hk,aE (gF _ hk)]
        .rw[aC hk,aC (λh=>by rcases eD.1 h with h|h;exact e h;exact hk h)]
    |some o=>
      have other:∀k,k≠q->((lk k σ.H).map λo=>if k∈l then kD o else o)=((lk k σ.H).map λo=>if k∈q::l then kD o else o):=λk e=>by
       congr 1
       funext o
       by_cases hk:k∈l
       .rw[aE hk,aE (gF _ hk)]
       .rw[aC hk,aC (λh=>by rcases eD.1 h with h|h;exact e h;exact hk h)]
      rcases aQe o with h|h
      .rw[mk_eq (T':=λt=>(lk t σ.T).map X.D) (H':=λk=>((lk k σ.H).map λo=>if k∈q::l then kD o else o).map XO.A) (λ_=>rfl) (λk=>?_) rfl]
       .exact cV.qL
       .by_cases e:k=q
        .subst e
         rw[ho];simp[hq,h]
        .rw[other k e]
      .have:=aAu (q:=q) h (E:=E) (T:=λt=>(lk t σ.T).map X.D) (H:=λk=>((lk k σ.H).map λo=>if k∈l then kD o else o).map XO.A) (N:=σ.N) (by rw[ho];simp[hq])
       rw[mk_eq (T':=λt=>(lk t σ.T).map X.D) (H:=λj=>if q=j then some (kD o).A else((lk j σ.H).map λo=>if j∈l then kD o else o).map XO.A) (H':=λk=>((lk k σ.H).map λo=>if k∈q::l then kD o else o).map XO.A) (N:=σ.N) (λ_=>rfl) (λk=>?_) rfl]at this
       .exact this
       .by_cases e:q=k
        .subst e
         rw[aE rfl,ho];simp
        .rw[aC e,other k (λh=>e h.symm)]
theorem aQd(σ:Sg)(E:Env):cV E (dU σ) (dU ⟨σ.T,lF σ.H,σ.N⟩):=by
 have:=aCq (E:=E) (σ:=σ) (σ.H.map (·.1));unfold dU at this ⊢;rw[show(λk=>(lk k (lF σ.H)).map XO.A)=λk=>((lk k σ.H).map λo=>if k∈σ.H.map (·.1)then kD o else o).map XO.A from ?_]
 .exact this
 funext k
 rw[uZ];cases hk:lk k σ.H with
 |none=>rfl
 |some o=>
   have hm:k∈σ.H.map (·.1):=eK.2 ⟨_,mR hk,rfl⟩;simp[hm]
end Go.Ax
/- What functions give back; contracts. -/
namespace Go.Ax
open aA
open Go.RowKit Go.Ab
theorem aWX(c:Cx)(σ:Vw)(t:TypeId)(x:X):bR σ.den.H x.D (canon c σ t x).D:=by
 unfold canon;split
 .split
  .rename_i y h
   exact(SS σ x).trans (kQ h)
  .exact bR.refl
 .exact bR.refl
theorem Ls(c:Cx)(σ:Vw):∀(ts:List TypeId)(xs:List X),dM σ.den.H (xs.map X.D) ((Ch c σ ts xs).map X.D)
 |[],xs=>by
   have:Ch c σ [] xs=xs:=by cases xs <;> rfl
   rw[this];exact dM.refl
 |t::ts,[]=>.nil
 |t::ts,x::xs=>.cons (aWX c σ t x) (Ls c σ ts xs)
theorem aCD{α β:Type}{f:α->Option β}:∀{l:List α}{r:List β},vC f l=some r->l.length=r.length/\∀(i:Nat)(y:β),r[i]?=some y->∃x,l[i]?=some x/\f x=some y
 |[],r,h=>by cases h;exact⟨rfl,λi y h=>by simp at h⟩
 |x::l,r,h=>by
   unfold vC at h;split at h
   .rename_i y hy
    split at h
    .rename_i r' hr
     cases h;obtain⟨h1,h2⟩:=aCD hr;refine⟨by simp[h1],λi z hz=>?_⟩;cases i with
     |zero=>simp at hz;subst hz;exact⟨x,rfl,hy⟩
     |succ i=>exact h2 i z (by simpa using hz)
    .cases h
   .cases h
theorem aQv{P:Program}{σ:Sg}{rv:ResultVar}{x:X}(h:Kj P σ rv=some x):RV P (dU σ) rv x.D:=by
 cases rv with
 |tmp t=>
   simp only[Kj]at h;exact .tmp (by show(lk t σ.T).map X.D=_;rw[h];rfl)
 |cell p t=>
   simp only[Kj]at h;split at h
   .rename_i q hp
    have hp':(dU σ).T p=some (.ref q 0):=by show(lk p σ.T).map X.D=_;rw[hp];rfl
    split at h
    .rename_i e xs hq
     have hq':(dU σ).H q=some (.box e (xs.map X.D)):=by show(lk q σ.H).map XO.A=_;rw[hq];rfl
     split at h
     .rename_i m ys hr hs
      split at h
      .rename_i hb
       cases h;rw[X.D,fA];exact .row hp' hq' hr hs (by rw[cQ];exact bH hb)
      .cases h
     .rename_i y hr
      cases h;exact .one hp' hq' hr
     .cases h
    .cases h
   .cases h
theorem aBI{E:Env}{σ:St}{tm:Array Value}{w:World}(ρ:Nat->Nat){d d1 r:D}{H':List (Nat×aM)}(hR:R E σ tm w){v:Value}(hv:∀ν G,Inv E σ ν G w tm->DR ν σ.nm w G v d)(hw:bR σ.H d d1)
    (hle:dN false σ.H (λk=>decide (k<108)) ρ d1 r) (hH:∀k o',Ab.look k H'=some o'->k<108/\∃o,σ.H (ρ k)=some o/\gQ false σ.H (λk=>decide (k<108)) ρ o o')
    (hinj:∀k k' o o',Ab.look k H'=some o->Ab.look k' H'=some o'->ρ k=ρ k'->k=k') (hid:∀k,50<=k->k<100->ρ k=k):R { E with m:=1 } (res r H') #[v] w:=by
 obtain⟨ν,G,I⟩:=hR;have hρ:∀k',decide (k'<108)=true->σ.nm (ρ k')=true->(λk=>ν (ρ k)) k'=ν (ρ k'):=λ_ _ _=>rfl
 refine⟨λk=>ν (ρ k),G,⟨I.kept.os,I.kept.tape,I.kept.output,I.kept.size,I.kept.block⟩,I.cS,λk h1 h2=>?_,I.g0,rfl,λt d' h=>?_,λk o' h=>?_,λk o k' o' h h' hne g hg=>?_⟩
 .show ν (ρ k)=_
  rw[hid k h1 h2];exact I.eL k h1 h2
 .simp only at h
  split at h
  .rename_i e;subst e;cases h
   exact⟨v,rfl,hle.rel (λ_ _ _ h=>h) I.rows hρ (hw _ _ _ _ _ _ (λ_ _ h=>h) I v (hv ν G I))⟩
  .cases h
 .obtain⟨hk,o,ho,hle⟩:=hH k o' h
  exact⟨aL hk,(I.H _ o ho).2.view hle I.rows hρ rfl (λ_ _ h=>h)⟩
 .obtain⟨_,o1,h1,l1⟩:=hH k o h
  obtain⟨_,o2,h2,l2⟩:=hH k' o' h';exact λhg'=>I.cF _ o1 _ o2 h1 h2 (λe=>hne (hinj k k' o o' h h' e)) g (l1.ft.1 hg) (l2.ft.1 hg')
theorem aA7{ν:Nat->Value}{nm:Nat->Bool}{w:World}{G:bQ}{vs:List Value}{ds:List D}(hl:vs.length=ds.length)(h:∀(i:Nat)(v:Value)(d:D),vs[i]?=some v->ds[i]?=some d->DR ν nm w G v d):DR ν nm w G (.tuple vs.toArray) (.aT ds):=
 .aT (by simpa using hl) λi u d hu hd=>h i u d (by simpa using hu) hd
theorem bR.aT{H:Nat->Option aM}{a b:List D}(h:dM H a b):bR H (.aT a) (.aT b):=λE s ν G w tm hH I v hv=>by
 cases hv with
 |aT hl hr=>
   refine .aT (hl.trans h.len) (λi u d hu hd=>?_);obtain⟨d0,e0,hw⟩:=h.get i d hd;exact hw E s ν G w tm hH I u (hr i u d0 hu e0)
theorem aQt{P:Program}{fn:Func}{E:Env}{s:St}{tm:Array Value}{w:World}(hR:R E s tm w):∀{xs:List D},fn.results.toList.length=xs.length->xs.length<=5->(∀(i:Nat)(rv:ResultVar)(d:D),fn.results.toList[i]?=some rv->xs[i]?=some d->RV P s rv d)->
    ∃v,(results fn tm).run P w = .ok v w/\∀ν G,Inv E s ν G w tm->DR ν s.nm w G v (match xs with|[d]=>d|xs=>.aT xs):=by
 intro xs hl h3 hrv;have hres:fn.results=fn.results.toList.toArray:=by simp
 match hf:fn.results.toList,xs,hl with
 |[],[],_=>
   refine⟨.tuple #[],?_,λν G I=>.aT rfl (λi u d h=>by simp at h)⟩;rw[CM,hres,hf];simp
 |[p],[d],_=>
   obtain⟨v,hv,hd⟩:=(hrv 0 p d (by rw[hf];rfl) rfl).all hR;refine⟨v,?_,hd⟩;rw[CM,hres,hf];simp[hv]
 |[p1,p2],[d1,d2],_=>
   obtain⟨v1,hv1,hd1⟩:=(hrv 0 p1 d1 (by rw[hf];rfl) rfl).all hR;obtain⟨v2,hv2,hd2⟩:=(hrv 1 p2 d2 (by rw[hf];rfl) rfl).all hR;refine⟨.tuple #[v1,v2],?_,λν G I=>aA8 (hd1 ν G I) (hd2 ν G I)⟩;rw[CM,hres,hf];simp[hv1,hv2]
 |[p1,p2,p3],[d1,d2,d3],_=>
   obtain⟨v1,hv1,hd1⟩:=(hrv 0 p1 d1 (by rw[hf];rfl) rfl).all hR;obtain⟨v2,hv2,hd2⟩:=(hrv 1 p2 d2 (by rw[hf];rfl) rfl).all hR;obtain⟨v3,hv3,hd3⟩:=(hrv 2 p3 d3 (by rw[hf];rfl) rfl).all hR;refine⟨.tuple #[v1,v2,v3],?_,λν G I=>aQI (hd1 ν G I) (hd2 ν G I) (hd3 ν G I)⟩;rw[CM,hres,hf];simp[hv1,hv2,hv3]
 |[p1,p2,p3,p4],[d1,d2,d3,d4],_=>
   obtain⟨v1,hv1,hd1⟩:=(hrv 0 p1 d1 (by rw[hf];rfl) rfl).all hR;obtain⟨v2,hv2,hd2⟩:=(hrv 1 p2 d2 (by rw[hf];rfl) rfl).all hR;obtain⟨v3,hv3,hd3⟩:=(hrv 2 p3 d3 (by rw[hf];rfl) rfl).all hR;obtain⟨v4,hv4,hd4⟩:=(hrv 3 p4 d4 (by rw[hf];rfl) rfl).all hR;refine⟨.tuple #[v1,v2,v3,v4],?_,λν G I=>aA7 (vs:=[v1,v2,v3,v4]) rfl λi v d h1 h2=>?_⟩
   .rw[CM,hres,hf]
    simp[hv1,hv2,hv3,hv4]
   .match i,h1,h2 with
    |0,h1,h2=>cases h1;cases h2;exact hd1 ν G I
    |1,h1,h2=>cases h1;cases h2;exact hd2 ν G I
    |2,h1,h2=>cases h1;cases h2;exact hd3 ν G I
    |3,h1,h2=>cases h1;cases h2;exact hd4 ν G I
    |i+4,h1,_=>simp at h1
 |[p1,p2,p3,p4,p5],[d1,d2,d3,d4,d5],_=>
   obtain⟨v1,hv1,hd1⟩:=(hrv 0 p1 d1 (by rw[hf];rfl) rfl).all hR;obtain⟨v2,hv2,hd2⟩:=(hrv 1 p2 d2 (by rw[hf];rfl) rfl).all hR;obtain⟨v3,hv3,hd3⟩:=(hrv 2 p3 d3 (by rw[hf];rfl) rfl).all hR;obtain⟨v4,hv4,hd4⟩:=(hrv 3 p4 d4 (by rw[hf];rfl) rfl).all hR;obtain⟨v5,hv5,hd5⟩:=(hrv 4 p5 d5 (by rw[hf];rfl) rfl).all hR;refine⟨.tuple #[v1,v2,v3,v4,v5],?_,λν G I=>aA7 (vs:=[v1,v2,v3,v4,v5]) rfl λi v d h1 h2=>?_⟩
   .rw[CM,hres,hf]
    simp[hv1,hv2,hv3,hv4,hv5]
   .match i,h1,h2 with
    |0,h1,h2=>cases h1;cases h2;exact hd1 ν G I
    |1,h1,h2=>cases h1;cases h2;exact hd2 ν G I
    |2,h1,h2=>cases h1;cases h2;exact hd3 ν G I
    |3,h1,h2=>cases h1;cases h2;exact hd4 ν G I
    |4,h1,h2=>cases h1;cases h2;exact hd5 ν G I
    |i+5,h1,_=>simp at h1
 |a::b::c::d::e::f::l,xs,hl=>simp at hl;omega
theorem aVT{c:Cx}{fn:Func}{ow:Bool}{e:Exit}{σ:Sg}{r:aH}(h:C7 c fn ow e σ=some r):(e = .normal\/e = .ret)/\∀(E:Env)(tm:Array Value)(w:World),R E (dU σ) tm w->∃v,(results fn tm).run c.P w = .ok v w/\R { E with m:=1 } (res r.1.D (HA r.2)) #[v] w:=by
 unfold C7 at h;split at h
 case h_2=>cases h
 rename_i he;refine⟨(by cases e <;> first|exact .inl rfl|exact .inr rfl|cases he),λE tm w hR=>?_⟩;clear he;have hR1:R E (dU (Ke ow σ)) tm w:=by
  cases ow
  .exact aQd σ E tm w hR
  .exact hR
 obtain⟨σ1,hσ1⟩:∃σ1,Ke ow σ=σ1:=⟨_,rfl⟩
 rw[hσ1]at hR1;simp only[hσ1]at h;clear hR hσ1;obtain⟨xs,hxs,h⟩:=bG h;obtain⟨ys,hys⟩:∃ys,TB c fn ow σ1 xs=ys:=⟨_,rfl⟩
 simp only[hys]at h;have hw:dM (dU σ1).H (xs.map X.D) (ys.map X.D):=by
  rw[<-hys];cases ow
  .exact Ls c σ1.vw _ xs
  .exact dM.refl
 clear hys;split at h
 case h_2=>cases h
 rename_i hrn;have F:=Qw hrn;obtain⟨zs,hzs,h⟩:=bG h;obtain⟨H',hH',h⟩:=bG h;obtain⟨m1,m2⟩:=aCD hxs;have hlen:xs.length=ys.length:=by have:=hw.len;simpa using this
 have hf:∀k k',pB (iP 100 (reach σ1.vw.H 60 (jV ys (live σ1.H)) [])) k=some k'->decide (k'<108)=true/\k=bC (iP 100 (reach σ1.vw.H 60 (jV ys (live σ1.H)) [])) k':=λk k' hk=>by
  unfold pB at hk;split at hk
  .rename_i hH
   cases hk;refine⟨aL (by have:=(qV.1 hH).2;omega),?_⟩;unfold bC;cases hl:Ab.look k _ with
   |none=>rfl
   |some z=>
     have:=(F.gV _ _ (jW hl)).2.2.1;rw[hH]at this;cases this
  .obtain⟨_,b,_,d⟩:=F.gV _ _ (CR hk)
   exact⟨aL b,d.symm⟩
 have hren:=u6 (H:=(dU σ1).H) (nm':=λk=>decide (k<108)) hf ys zs hzs;have hzl:ys.length=zs.length:=by have:=hren.get.1;simpa[fA]using this
 -- objects
 have hHH:∀k o',Ab.look k (HA H')=some o'->k<108/\∃o,(dU σ1).H (bC (iP 100 (reach σ1.vw.H 60 (jV ys (live σ1.H)) [])) k)=some o/\gQ false (dU σ1).H (λk=>decide (k<108)) (bC (iP 100 (reach σ1.vw.H 60 (jV ys (live σ1.H)) []))) o o':=λk o' hk=>by
  rw[vE]at hk;obtain⟨y,hy,rfl⟩:=b9.1 hk;obtain⟨q,o,e1,e2,e3⟩:=qK _ _ hH' k y hy;obtain⟨a1,a2⟩:=F.al k q e1;refine⟨?_,o.A,by rw[a1];exact aO (aDf XO.A) e2,En hf e3⟩;rcases a2 with a2|⟨q',a2⟩
  .have:=(qV.1 a2).2;omega
  .exact(F.gV _ _ a2).2.1
 have hinj:∀k k' o o',Ab.look k (HA H')=some o->Ab.look k' (HA H')=some o'->bC (iP 100 (reach σ1.vw.H 60 (jV ys (live σ1.H)) [])) k=bC (iP 100 (reach σ1.vw.H 60 (jV ys (live σ1.H)) [])) k'->k=k':=λk k' o o' h1 h2 e=>by
  rw[vE]at h1 h2;obtain⟨y1,hy1,rfl⟩:=b9.1 h1;obtain⟨y2,hy2,rfl⟩:=b9.1 h2;obtain⟨q1,_,e1,_,_⟩:=qK _ _ hH' k y1 hy1;obtain⟨q2,_,e2,_,_⟩:=qK _ _ hH' k' y2 hy2;rw[(F.al k q1 e1).1,(F.al k' q2 e2).1]at e;subst e;exact LI F.nd (mR e1) (mR e2)
 have hid:∀k,50<=k->k<100->bC (iP 100 (reach σ1.vw.H 60 (jV ys (live σ1.H)) [])) k=k:=λk h1 h2=>by
  unfold bC;cases hl:Ab.look k _ with
  |none=>rfl
  |some z=>
    have:=(F.gV _ _ (jW hl)).2.2.1;rw[qV.2 ⟨h1,h2⟩]at this;cases this
 have hlen3:xs.length<=5:=by
  rw[hlen,hzl];split at h
  .simp
  .simp
  .simp
  .simp
  .simp
  .simp
  .cases h
 obtain⟨v,hv1,hv2⟩:=aQt (P:=c.P) (fn:=fn) hR1 (xs:=xs.map X.D) (by rw[cQ];exact m1) (by rw[cQ];exact hlen3) (λi rv d h1 h2=>by
  rw[cD]at h2;obtain⟨x,hx,rfl⟩:=b9.1 h2;obtain⟨rv',h3,h4⟩:=m2 i x hx;rw[h1]at h3;cases h3;exact aQv h4)
 refine⟨v,hv1,?_⟩;have hdw:bR (dU σ1).H (match xs.map X.D with|[d]=>d|xs=>.aT xs) (match ys.map X.D with|[d]=>d|xs=>.aT xs):=by
  match xs,ys,hlen,hw with
  |[],[],_,_=>exact bR.refl
  |[x],[y],_,hw=>cases hw with|cons h _=>exact h
  |x1::x2::xs,y1::y2::ys,_,hw=>exact bR.aT hw
 have hdl:dN false (dU σ1).H (λk=>decide (k<108)) (bC (iP 100 (reach σ1.vw.H 60 (jV ys (live σ1.H)) []))) (match ys.map X.D with|[d]=>d|xs=>.aT xs) r.1.D/\r.2=H':=by
  have hy3:ys.length<=5:=by omega
  match ys,zs,hzl,hren,h,hy3 with
  |[],[],_,hren,h,_=>cases h;exact⟨.CB hren,rfl⟩
  |[y],[z],_,hren,h,_=>cases h;cases hren with|cons h _=>exact⟨h,rfl⟩
  |[y1,y2],[z1,z2],_,hren,h,_=>cases h;exact⟨.CB hren,rfl⟩
  |[y1,y2,y3],[z1,z2,z3],_,hren,h,_=>cases h;exact⟨.CB hren,rfl⟩
  |[y1,y2,y3,y4],[z1,z2,z3,z4],_,hren,h,_=>cases h;exact⟨.CB hren,rfl⟩
  |[y1,y2,y3,y4,y5],[z1,z2,z3,z4,z5],_,hren,h,_=>cases h;exact⟨.CB hren,rfl⟩
  |_::_::_::_::_::_::_,_,_,_,_,hy3=>simp at hy3
 rw[hdl.2];exact aBI _ hR1 hv2 hdw hdl.1 hHH hinj hid
theorem aQy{f:Nat->Option Nat}{x y:X}(h:fG f x=some y)(v:Value):y≠.iO v:=λe=>by
 subst e;cases x <;> unfold fG at h <;> first|cases h|(split at h <;> cases h)
theorem aQz{f:Nat->Option Nat}{xs:List X}{z:X}(h:mM f xs=some [z]):∃x,fG f x=some z:=by
 cases xs with
 |nil=>cases h
 |cons x l=>
   unfold mM at h;split at h
   .rename_i y hy
    split at h
    .cases h;exact⟨x,hy⟩
    .cases h
   .cases h
theorem aVU{c:Cx}{fn:Func}{ow:Bool}{e:Exit}{σ:Sg}{r:aH}(h:C7 c fn ow e σ=some r)(v:Value):r.1≠.iO v:=by
 unfold C7 at h;split at h
 case h_2=>cases h
 obtain⟨xs,hxs,h⟩:=bG h;obtain⟨ys,hys⟩:∃ys,TB c fn ow (Ke ow σ) xs=ys:=⟨_,rfl⟩
 simp only[hys]at h;split at h
 case h_2=>cases h
 obtain⟨zs,hzs,h⟩:=bG h;obtain⟨H',hH',h⟩:=bG h;split at h
 .cases h
  obtain⟨x,hx⟩:=aQz hzs;exact aQy hx v
 all_goals first|(cases h;exact λe=>by cases e)|cases h
theorem aCi{ch:List PanicEntry}{σ:Sg}{r:aH}(h:Ld ch σ=some r):∃v,r.1 = .iO v/\ch=[qN v]/\∀(E:Env)(tm:Array Value)(w:World),R E (dU σ) tm w->R { E with m:=1 } (res .any (HA r.2)) #[undef] w:=by
 unfold Ld at h;split at h
 case h_2=>cases h
 rename_i p;split at h
 .cases h
 rename_i hp
 dsimp only at h
 split at h
 case h_2=>cases h
 rename_i hrn;have F:=Qw hrn;obtain⟨H',hH',h⟩:=bG h;cases h;refine⟨p.v,rfl,?_,λE tm w hR=>?_⟩
 .obtain⟨v,a,b⟩:=p
  rw[Bool.or_eq_false_iff]at hp;obtain⟨h1,h2⟩:=hp;simp only at h1 h2;subst h1 h2;rfl
 have hf:∀k k',pB (iP 100 (reach σ.vw.H 60 (handed σ.H) [])) k=some k'->decide (k'<108)=true/\k=bC (iP 100 (reach σ.vw.H 60 (handed σ.H) [])) k':=λk k' hk=>by
  unfold pB at hk;split at hk
  .rename_i hH
   cases hk;refine⟨aL (by have:=(qV.1 hH).2;omega),?_⟩;unfold bC;cases hl:Ab.look k _ with
   |none=>rfl
   |some z=>
     have:=(F.gV _ _ (jW hl)).2.2.1;rw[hH]at this;cases this
  .obtain⟨_,b,_,d⟩:=F.gV _ _ (CR hk)
   exact⟨aL b,d.symm⟩
 have hHH:∀k o',Ab.look k (HA H')=some o'->k<108/\∃o,(dU σ).H (bC (iP 100 (reach σ.vw.H 60 (handed σ.H) [])) k)=some o/\gQ false (dU σ).H (λk=>decide (k<108)) (bC (iP 100 (reach σ.vw.H 60 (handed σ.H) []))) o o':=λk o' hk=>by
  rw[vE]at hk;obtain⟨y,hy,rfl⟩:=b9.1 hk;obtain⟨q,o,e1,e2,e3⟩:=qK _ _ hH' k y hy;obtain⟨a1,a2⟩:=F.al k q e1;refine⟨?_,o.A,by rw[a1];exact aO (aDf XO.A) e2,En hf e3⟩;rcases a2 with a2|⟨q',a2⟩
  .have:=(qV.1 a2).2;omega
  .exact(F.gV _ _ a2).2.1
 have hinj:∀k k' o o',Ab.look k (HA H')=some o->Ab.look k' (HA H')=some o'->bC (iP 100 (reach σ.vw.H 60 (handed σ.H) [])) k=bC (iP 100 (reach σ.vw.H 60 (handed σ.H) [])) k'->k=k':=λk k' o o' h1 h2 e=>by
  rw[vE]at h1 h2;obtain⟨y1,hy1,rfl⟩:=b9.1 h1;obtain⟨y2,hy2,rfl⟩:=b9.1 h2;obtain⟨q1,_,e1,_,_⟩:=qK _ _ hH' k y1 hy1;obtain⟨q2,_,e2,_,_⟩:=qK _ _ hH' k' y2 hy2;rw[(F.al k q1 e1).1,(F.al k' q2 e2).1]at e;subst e;exact LI F.nd (mR e1) (mR e2)
 have hid:∀k,50<=k->k<100->bC (iP 100 (reach σ.vw.H 60 (handed σ.H) [])) k=k:=λk h1 h2=>by
  unfold bC;cases hl:Ab.look k _ with
  |none=>rfl
  |some z=>
    have:=(F.gV _ _ (jW hl)).2.2.1;rw[qV.2 ⟨h1,h2⟩]at this;cases this
 exact aBI (d:=.any) (d1:=.any) _ hR (λ_ _ _=>.any) bR.refl .any hHH hinj hid
def jO(P:Program)(f:FuncId)(ds:List D)(H:List (Nat×aM))(r:aH):Prop:=match r.1 with
 |.iO v=>GA P f ds H v (HA r.2)
 |x=>cN P f ds H x.D (HA r.2)
theorem jO.of{P:Program}{f:FuncId}{ds:List D}{H:List (Nat×aM)}{r:aH}(h:∀v,r.1≠.iO v)(k:cN P f ds H r.1.D (HA r.2)):jO P f ds H r:=by
 obtain⟨x,H'⟩:=r;unfold jO;cases x with
 |iO v=>exact absurd rfl (h v)
 |_=>exact k
theorem oC{c:Cx}(hc:aJ c){f:FuncId}{fn:Func}{code:Code}(hf:c.P.funcs[f]?=some fn)(hb:fn.body=some code){h:Hint}(hh:bN c fn.ntmps h code){xs:List X}{H:XH}(hm:xs.length<=fn.ntmps){ow:Bool}{r:aH}
    (he:exec c fn.ntmps h code ⟨cC 0 xs,H,100⟩ (cJ c fn ow)=some r):jO c.P f (xs.map X.D) (HA H) r:=by
 have key:∀E:Env,E.m=fn.ntmps->fX c.P E code _ (args (xs.map X.D) (HA H)):=λE hE=>aVx xs H ▸ S7 hc code h _ _ r he hh (bX _) E hE
 have fin:∀{e:Exit}{σ:Sg},cJ c fn ow e σ=some r->(∃ch,e = .panic ch/\Ld ch σ=some r)\/C7 c fn ow e σ=some r:=λ{e σ} h=>by
  unfold cJ at h;split at h
  .exact .inl ⟨_,rfl,h⟩
  .exact .inr h
 by_cases hp:∃v,r.1 = .iO v
 .obtain⟨v,hv⟩:=hp
  have:jO c.P f (xs.map X.D) (HA H) r=GA c.P f (xs.map X.D) (HA H) v (HA r.2):=by unfold jO;rw[hv]
  rw[this];refine aQ6 hf hb (by rw[cQ];exact hm) λE hE=>q8 (key E hE) ?_
  rintro e s ⟨σ',⟨_,h1⟩,hent⟩;rcases fin h1 with⟨ch,rfl,h1⟩|h1
  .obtain⟨v',e1,e2,e3⟩:=aCi h1
   rw[hv]at e1;cases e1;exact⟨e2,λtm w hR=>e3 E tm w (hent tm w hR)⟩
  .exact absurd hv (aVU h1 v)
 .refine jO.of (λv hv=>hp ⟨v,hv⟩) (aAp hf hb (by rw[cQ];exact hm) λE hE=>q8 (key E hE) ?_)
  rintro e s ⟨σ',⟨_,h1⟩,hent⟩;rcases fin h1 with⟨ch,rfl,h1⟩|h1
  .obtain⟨v',e1,_⟩:=aCi h1
   exact absurd ⟨v',e1⟩ hp
  .obtain⟨h2,h3⟩:=aVT h1
   rcases h2 with rfl|rfl
   .exact λtm w hR=>h3 E tm w (hent tm w hR)
   .exact λtm w hR=>h3 E tm w (hent tm w hR)
def aV(P:Program)(f:FuncId)(g:bO):Prop:=∀xs H pre r,g xs H=some (pre,r)->pre=true->cN P f (xs.map X.D) (HA H) r.1.D (HA r.2)
def aDy(P:Program)(f:FuncId)(g:tW):Prop:=∀xs H pre b r rp,g xs H=some (pre,b,r,rp)->pre=true->(b=some true->cN P f (xs.map X.D) (HA H) r.1.D (HA r.2))/\(b≠some true->∀v,rp.1 = .iO v->GA P f (xs.map X.D) (HA H) v (HA rp.2))
def CX (P : Program) (f : FuncId) : Bool := match P.funcs[f]? with | some fn => !(decide (fn.name = "runtime.NumGoroutine")) | none => true
def oM(P:Program)(G:List (Nat×bO)):Prop:=∀f g,lk f G=some g->CX P f=true/\aV P f g
theorem oM.nil{P:Program}:oM P []:=λf g h=>by cases h
theorem oM.cons{P:Program}{f:Nat}{g:bO}{G:List (Nat×bO)}(hn:CX P f=true)(h:aV P f g)(k:oM P G):oM P ((f,g)::G):=λf' g' h'=>by
 unfold lk at h';split at h'
 .rename_i he
  have:=bH he;subst this;cases h';exact⟨hn,h⟩
 .exact k f' g' h'
end Go.Ax
/- Operations: what a look-up is, numbers, truth values, strings. -/
namespace Go.Ax
open aA
open Go.RowKit Go.Ab
abbrev AP(g:Option Bool):Prop:=∀c,g=some c->c=true
theorem mW{g:Option Bool}{b:Bool}{k:O}{r:aH}(h:kI g b k=some r):k=some r/\(AP g->b=true):=by
 unfold kI at h;split at h
 .exact⟨(fF h).2,λ_=>(fF h).1⟩
 .rename_i c
  refine⟨(fF h).2,λhg=>?_⟩;have:=(fF h).1;rw[hg c rfl]at this;simpa using this
theorem C4{g:Option Bool}{τ:Ty}{l:List τ.V}{n:Int}{k:τ.V->O}{r:aH}(h:vJ g τ l n k=some r):∃y,k y=some r/\(AP g->0<=n/\l[n.toNat]?=some y):=by
 unfold vJ at h;split at h
 .obtain⟨y,h1,h2,h3⟩:=FT h
  exact⟨y,h3,λ_=>⟨h1,h2⟩⟩
 .rename_i c
  change SU c τ.zero l n k=some r at h;unfold SU at h;cases c with
  |true=>
    obtain⟨y,h1,h2,h3⟩:=FT h;exact⟨y,h3,λ_=>⟨h1,h2⟩⟩
  |false=>exact⟨_,h,λhg=>by have:=hg false rfl;cases this⟩
theorem Vw.On.g{σ:Vw}(h:σ.On):AP (σ.g.map (·.2)):=λc hc=>by
 obtain⟨p,hp,rfl⟩:=b9.1 hc;exact h p.1 p.2 hp
theorem Q0{g:Option (Nat×Bool)}{x v:X}(h:tA g x=some v):v.pl=true:=by
 unfold tA at h;split at h
 .cases h;rfl
 .split at h
  .split at h
   .split at h
    .cases h;rfl
    .cases h
    .rename_i h1 h2
     cases h;cases v with
     |bit j q=>exact absurd rfl (h1 j q)
     |eO a b c=>exact absurd rfl (h2 a b c)
     |_=>rfl
   .cases h
  .cases h
 .rename_i h1 h2
  cases h;cases x with
  |bit j q=>exact absurd rfl (h1 j q)
  |eO a b c=>exact absurd rfl (h2 a b c)
  |_=>rfl
theorem Q1{κ:Nat->Bool}{g:Option (Nat×Bool)}{x v:X}(hg:Good κ x)(hκ:∀key c,g=some (key,c)->c=κ key)(hon:∀key c,g=some (key,c)->c=true)(h:tA g x=some v):x.D=v.D:=by
 unfold tA at h;split at h
 .cases h;rfl
 .rename_i key c y
  split at h
  .rename_i key' c'
   split at h
   .rename_i hb
    have hb:=bH hb;subst hb;have hc:c=true:=hg.1.trans ((hκ _ _ rfl).symm.trans (hon _ _ rfl));subst hc;split at h
    .cases h;rfl
    .cases h
    .cases h;rfl
   .cases h
  .cases h
 .cases h;rfl
theorem aS9(w:Value):(mP w).pl=true:=by
 unfold mP;split
 .split <;> rfl
 all_goals rfl
theorem aS8{w:Value}{x:X}(h:qQ w=some x):x.pl=true:=by
 unfold qQ at h;split at h
 .split at h
  .cases h;rfl
  .cases h
 .cases h
 .cases h;exact aS9 w
theorem aU4(g:Nat):(FW g).pl=true:=rfl
theorem vN{σ:Vw}{x:Operand}{v:X}(h:σ.ev x=some v):v.pl=true:=by
 cases x with
 |tmp t=>
   simp only[Vw.ev]at h;split at h
   .exact Q0 h
   .cases h
 |const w=>exact aS8 h
 |func f=>simp only[Vw.ev]at h;cases h;rfl
 |global g=>simp only[Vw.ev]at h;cases h;exact aU4 g
theorem aY{σ:Vw}{κ:Nat->Bool}(hσ:σ.Ok κ)(hon:σ.On){x:Operand}{v:X}(h:σ.ev x=some v):σ.den.ev x=some v.D:=by
 cases x with
 |tmp t=>
   simp only[Vw.ev]at h;split at h
   .rename_i y hy
    have e:σ.den.ev (.tmp t)=some y.D:=pL hy;rw[e,Q1 (hσ.pH t y hy) hσ.g hon h]
   .cases h
 |const w=>
   have:=RW (σ:=⟨[],[],0⟩) h;exact this
 |func f=>simp only[Vw.ev]at h;cases h;rfl
 |global g=>simp only[Vw.ev]at h;cases h;exact aO some (aC6 g).symm
section
variable{P:Program}{o:Oper}{σ:St}{fr:Nat}
abbrev T8(c:UInt8):D:=.t (.v (.int .u8 (UInt8.toNat c:Int)))
abbrev TS(s:List UInt8):D:=.t (.v (.string ⟨⟨s⟩⟩))
theorem GG(n:Int):IntKind.u8.wrap n=n%256:=by
 have:IntKind.u8.wrap n=n%((2:Int)^8):=by unfold IntKind.wrap;simp[IntKind.signed,IntKind.bits]
 rw[this];rfl
theorem aPu(n:Int):((nU n).toNat:Int)=IntKind.u8.wrap n:=by
 rw[GG];unfold nU;rw[T5];omega
theorem aWq(a b:UInt8):IntKind.u8.wrap ((a.toNat:Int)+b.toNat)=((a+b).toNat:Int):=by
 rw[GG,UInt8.toNat_add];omega
theorem aQU(a b:UInt8):IntKind.u8.wrap ((a.toNat:Int)-b.toNat)=((a-b).toNat:Int):=by
 have h1:=a.toNat_lt;have h2:=b.toNat_lt;rw[GG,UInt8.toNat_sub];omega
theorem lt8(a b:UInt8):decide ((a.toNat:Int)<b.toNat)=decide (a<b):=by
 congr 1
 rw[UInt8.lt_iff_toNat_lt];simp
theorem le8(a b:UInt8):decide ((a.toNat:Int)<=b.toNat)=decide (a<=b):=by
 congr 1
 rw[UInt8.le_iff_toNat_le];simp
theorem eq8(a b:UInt8):decide ((a.toNat:Int)=b.toNat)=decide (a=b):=by
 congr 1
 rw[<-Cl];simp only[eq_iff_iff];omega
theorem ne8(a b:UInt8):decide ((a.toNat:Int)≠b.toNat)=decide (a≠b):=by
 congr 1
 rw[ne_eq,ne_eq,<-Cl];simp only[eq_iff_iff];omega
theorem aUP{g:Option Bool}{op:BinOp}{ik:IntKind}{m n:Int}{k:X->O}{r:aH}(h:SJ g op ik m n k=some r):∃x,k x=some r/\x.pl=true/\(AP g->∀{xt yt:TypeId}{x' y':Operand},o.op = .binOp op xt x' y' yt->σ.ev x'=some (.t (.v (.int ik m)))->σ.ev y'=some (.t (.v (.int ik n)))->aU P o σ fr x.D []):=by
 unfold SJ at h;split at h
 .exact⟨_,h,rfl,λ_ _ _ _ _ ho hx hy=>aBj ho hx hy⟩
 .exact⟨_,h,rfl,λ_ _ _ _ _ ho hx hy=>aB5 ho hx hy⟩
 .exact⟨_,h,rfl,λ_ _ _ _ _ ho hx hy=>aRn ho hx hy⟩
 .obtain⟨h1,h2⟩:=mW h
  exact⟨_,h1,rfl,λhg _ _ _ _ ho hx hy=>aB6 ho hx hy (cH (h2 hg))⟩
 .obtain⟨h1,h2⟩:=mW h
  exact⟨_,h1,rfl,λhg _ _ _ _ ho hx hy=>aRe ho hx hy (cH (h2 hg))⟩
 .exact⟨_,h,rfl,λ_ _ _ _ _ ho hx hy=>aB8 ho hx hy⟩
 .exact⟨_,h,rfl,λ_ _ _ _ _ ho hx hy=>aBa ho hx hy⟩
 .exact⟨_,h,rfl,λ_ _ _ _ _ ho hx hy=>RR ho hx hy⟩
 .exact⟨_,h,rfl,λ_ _ _ _ _ ho hx hy=>aBd ho hx hy⟩
 .exact⟨_,h,rfl,λ_ _ _ _ _ ho hx hy=>AG ho hx hy⟩
 .exact⟨_,h,rfl,λ_ _ _ _ _ ho hx hy=>aB7 ho hx hy⟩
 .cases h
theorem aQa{g:Option Bool}{op:BinOp}{ik ik':IntKind}{m n:Int}{k:X->O}{r:aH}(h:Qr g op ik m n k=some r):∃x,k x=some r/\x.pl=true/\(AP g->∀{xt yt:TypeId}{x' y':Operand},o.op = .binOp op xt x' y' yt->σ.ev x'=some (.t (.v (.int ik m)))->σ.ev y'=some (.t (.v (.int ik' n)))->aU P o σ fr x.D []):=by
 unfold Qr at h;split at h
 .obtain⟨h1,h2⟩:=mW h
  refine⟨_,h1,rfl,λhg _ _ _ _ ho hx hy=>iY ho hx hy (λw=>?_) rfl⟩;have:=cH (h2 hg);simp[eqGuard,binOp,Op.shift,Int.not_lt.2 this]
 .obtain⟨h1,h2⟩:=mW h
  refine⟨_,h1,rfl,λhg _ _ _ _ ho hx hy=>iY ho hx hy (λw=>?_) rfl⟩;have:=cH (h2 hg);simp[eqGuard,binOp,Op.shift,Int.not_lt.2 this]
 .cases h
theorem aPw{op:BinOp}{m n:UInt8}{k:X->O}{r:aH}(h:Q3 op m n k=some r):∃x,k x=some r/\x.pl=true/\(∀{xt yt:TypeId}{x' y':Operand},o.op = .binOp op xt x' y' yt->σ.ev x'=some (T8 m)->σ.ev y'=some (T8 n)->aU P o σ fr x.D []):=by
 unfold Q3 at h;split at h
 .refine⟨_,h,rfl,λho hx hy=>?_⟩
  have:=aBj (P:=P) (fr:=fr) ho hx hy
  rwa [aWq]at this
 .refine⟨_,h,rfl,λho hx hy=>?_⟩
  have:=aB5 (P:=P) (fr:=fr) ho hx hy
  rwa [aQU]at this
 .refine⟨_,h,rfl,λho hx hy=>?_⟩
  have:=aB8 (P:=P) (fr:=fr) ho hx hy
  rwa [lt8]at this
 .refine⟨_,h,rfl,λho hx hy=>?_⟩
  have:=aBa (P:=P) (fr:=fr) ho hx hy
  rwa [le8]at this
 .refine⟨_,h,rfl,λho hx hy=>?_⟩
  have:=RR (P:=P) (fr:=fr) ho hx hy
  rwa [lt8]at this
 .refine⟨_,h,rfl,λho hx hy=>?_⟩
  have:=aBd (P:=P) (fr:=fr) ho hx hy
  rwa [le8]at this
 .refine⟨_,h,rfl,λho hx hy=>?_⟩
  have:=AG (P:=P) (fr:=fr) ho hx hy
  rwa [eq8]at this
 .refine⟨_,h,rfl,λho hx hy=>?_⟩
  have:=aB7 (P:=P) (fr:=fr) ho hx hy
  rwa [ne8]at this
 .cases h
theorem aTe(m n:List UInt8):ByteArray.mk ⟨m⟩++ByteArray.mk ⟨n⟩=ByteArray.mk ⟨m++n⟩:=by
 apply ByteArray.ext;rw[ByteArray.data_append];simp
theorem aQV{g:Option Bool}{op:BinOp}{m n:List UInt8}{k:X->O}{r:aH}(h:Q9 g op m n k=some r):∃x,k x=some r/\x.pl=true/\(AP g->∀{xt yt:TypeId}{x' y':Operand},o.op = .binOp op xt x' y' yt->σ.ev x'=some (TS m)->σ.ev y'=some (TS n)->aU P o σ fr x.D []):=by
 have tl:∀l:List UInt8,(ByteArray.mk ⟨l⟩).toList=l:=λl=>ByteArray.toList_mk l
 have be:∀m n:List UInt8,(m == n)=decide (m=n):=λm n=>by rw[Bool.eq_iff_iff];simp
 unfold Q9 at h;split at h
 .obtain⟨h1,h2⟩:=mW h
  refine⟨_,h1,rfl,λhg _ _ _ _ ho hx hy=>iY ho hx hy (λw=>?_) rfl⟩;have hb:=cH (h2 hg);have hsz:¬ (((ByteArray.mk ⟨m⟩).size+(ByteArray.mk ⟨n⟩).size:Nat):Int)>IntKind.i64.max:=by
   show ¬ ((m.length+n.length:Nat):Int)>9223372036854775807;omega
  simp only[eqGuard,binOp,Op.stringOp,aC hsz,aTe];simp
 .refine⟨_,h,rfl,λhg _ _ _ _ ho hx hy=>iY ho hx hy (λw=>?_) rfl⟩
  simp[eqGuard,binOp,Op.stringOp,tl,be]
 .refine⟨_,h,rfl,λhg _ _ _ _ ho hx hy=>iY ho hx hy (λw=>?_) rfl⟩
  simp[eqGuard,binOp,Op.stringOp,tl,be]
 .cases h
theorem aW4{g:Option Bool}{op:BinOp}{xt:TypeId}{x y:X}{k:X->O}{r:aH}(h:TI P g op xt x y k=some r):∃z,k z=some r/\z.pl=true/\(AP g->∀{yt:TypeId}{x' y':Operand},o.op = .binOp op xt x' y' yt->σ.ev x'=some x.D->σ.ev y'=some y.D->aU P o σ fr z.D []):=by
 unfold TI at h;split at h
 .split at h
  .obtain⟨z,h1,h2,h3⟩:=aQa (P:=P) (o:=o) (σ:=σ) (fr:=fr) h
   exact⟨z,h1,h2,λhg _ _ _ ho hx hy=>h3 hg ho hx hy⟩
  .split at h
   .rename_i he
    have he:=cH he;subst he;obtain⟨z,h1,h2,h3⟩:=aUP (P:=P) (o:=o) (σ:=σ) (fr:=fr) h;exact⟨z,h1,h2,λhg _ _ _ ho hx hy=>h3 hg ho hx hy⟩
   .cases h
 .obtain⟨z,h1,h2,h3⟩:=aPw (P:=P) (o:=o) (σ:=σ) (fr:=fr) h
  exact⟨z,h1,h2,λhg _ _ _ ho hx hy=>h3 ho hx hy⟩
 .obtain⟨z,h1,h2,h3⟩:=aQV (P:=P) (o:=o) (σ:=σ) (fr:=fr) h
  exact⟨z,h1,h2,λhg _ _ _ ho hx hy=>h3 hg ho hx hy⟩
 .split at h
  .rename_i hu
   unfold aDZ at h;split at h
   .exact⟨_,h,rfl,λhg _ _ _ ho hx hy=>aSU hu ho hx hy⟩
   .exact⟨_,h,rfl,λhg _ _ _ ho hx hy=>aRm hu ho hx hy⟩
   .cases h
  .cases h
 .cases h
theorem aRl{t:TypeId}{x:Operand}{ik:IntKind}{m:Int}(ho:o.op = .unOp .neg t x)(hx:σ.ev x=some (.t (.v (.int ik m)))):aU P o σ fr (.t (.v (.int ik (ik.wrap (-m))))) []:=
 c7 λ_ _ _ _ w a _ _ hev=>by
  have h1':=bY (hev x _ hx);refine⟨.int ik (ik.wrap (-m)),?_,.t (.v _ rfl)⟩;unfold execOp;rw[ho];simp only[h1'];simp[Op.unary,Op.intArith]
theorem LC{x:Operand}{d:D}(ho:o.op = .nilCheck x)(hx:σ.ev x=some d)(hd:(∃k off,d = .ref k off)\/(∃ts off,d = .ptr ts off)\/∃f ds,d = .fn f ds):aU P o σ fr d []:=
 c7 λ_ _ _ _ w a _ _ hev=>by
  have h:=hev x _ hx;refine⟨a.eval x,?_,h⟩;unfold execOp;rw[ho];obtain⟨v,hv⟩:∃v,a.eval x=v:=⟨_,rfl⟩
  rw[hv]at h;simp only[hv];rcases hd with⟨k,off,rfl⟩|⟨ts,off,rfl⟩|⟨f,ds,rfl⟩
  .cases h with|ref _ _=>rfl
  .cases h with|ptr _ _ _=>rfl
  .cases h with|fn _ _=>rfl
theorem aRu{x y:Operand}{m n:Int}{tys:Array TypeId}(ho:o.op = .call { callee:=.builtin .max,args:=#[x,y],argTypes:=tys })(hx:σ.ev x=some (I m))(hy:σ.ev y=some (I n)):aU P o σ fr (I (max m n)) []:=
 c7 λ_ _ _ _ w a _ _ hev=>by
  have h1:=bY (hev x _ hx);have h2:=bY (hev y _ hy);refine⟨.int .i64 (max m n),?_,.t (.v _ rfl)⟩;unfold execOp;rw[ho];simp[resolve,invoke,builtin,h1,h2,Lib.run_max_ints]
theorem aQh{P:Program}(w:World)(ts:Array TypeId)(t:TypeId)(x y z:Int):(Builtin.max_ ts t #[.int .i64 x,.int .i64 y,.int .i64 z]).run P w = .ok (.int .i64 (max (max x y) z)) w:=by
 have e:∀x y:Int,(if y>x then y else x)=max x y:=λx y=>by
  rw[Int.max_def];split <;> split <;> omega
 simp[Builtin.max_,Builtin.max2,e]
theorem aRv{x y z:Operand}{m n p:Int}{tys:Array TypeId}(ho:o.op = .call { callee:=.builtin .max,args:=#[x,y,z],argTypes:=tys })(hx:σ.ev x=some (I m))(hy:σ.ev y=some (I n))(hz:σ.ev z=some (I p)):aU P o σ fr (I (max (max m n) p)) []:=
 c7 λ_ _ _ _ w a _ _ hev=>by
  have h1:=bY (hev x _ hx);have h2:=bY (hev y _ hy);have h3:=bY (hev z _ hz);refine⟨.int .i64 (max (max m n) p),?_,.t (.v _ rfl)⟩;unfold execOp;rw[ho];simp[resolve,invoke,builtin,h1,h2,h3,aQh]
theorem aRr{x y:Operand}{m n:Int}{tys:Array TypeId}(ho:o.op = .call { callee:=.builtin .min,args:=#[x,y],argTypes:=tys })(hx:σ.ev x=some (I m))(hy:σ.ev y=some (I n)):aU P o σ fr (I (min m n)) []:=
 c7 λ_ _ _ _ w a _ _ hev=>by
  have h1:=bY (hev x _ hx);have h2:=bY (hev y _ hy);refine⟨.int .i64 (min m n),?_,.t (.v _ rfl)⟩;unfold execOp;rw[ho];simp[resolve,invoke,builtin,h1,h2,Lib.run_min_ints]
theorem aSF{t:TypeId}{x:Operand}{s:List UInt8}{tys:Array TypeId}(hu:P.underlying t=some .string)(ho:o.op = .call { callee:=.builtin .len,args:=#[x],argTypes:=tys })(ht:tys = #[t])(hx:σ.ev x=some (TS s)):aU P o σ fr (I s.length) []:=
 c7 λ_ _ _ _ w a _ _ hev=>by
  have h1:=bY (hev x _ hx);refine⟨.int .i64 s.length,?_,.t (.v _ rfl)⟩;unfold execOp;rw[ho,ht];simp[resolve,invoke,builtin,h1,run_len_string _ t _ _ hu,goInt];rfl
theorem aSM{t:TypeId}{x y:Operand}{s:List UInt8}{ik:IntKind}{n:Int}{c:UInt8}(hu:P.underlying t=some .string)(ho:o.op = .index t x y)(hx:σ.ev x=some (TS s))(hy:σ.ev y=some (.t (.v (.int ik n))))(h0:0<=n)(hc:s[n.toNat]?=some c):aU P o σ fr (T8 c) []:=
 c7 λ_ _ _ _ w a _ _ hev=>by
  have h1:=bY (hev x _ hx);have h2:=bY (hev y _ hy);refine⟨.int .u8 (c.toNat:Int),?_,.t (.v _ rfl)⟩;obtain⟨hlt,hcc⟩:=bP.1 hc;have hsz:(ByteArray.mk ⟨s⟩).size=s.length:=rfl;have hi:0<=n/\n<((ByteArray.mk ⟨s⟩).size:Nat):=⟨h0,by rw[hsz];omega⟩;have:=run_index_string w t (ByteArray.mk ⟨s⟩) ik n hu;rw[dif_pos hi]at this;unfold execOp;rw[ho];simp only[h1,h2,Sem.run_bind,this,Result.andThen_ok,Sem.run_pure];have hval:((ByteArray.mk ⟨s⟩)[n.toNat]'(by omega))=c:=hcc;rw[hval]
theorem aRw{f:FuncId}{caps:Array Operand}{ds:List D}(ho:o.op = .makeFunc (.func f) #[] caps)(hl:caps.size=ds.length)(hc:∀(i:Nat)(x:Operand)(d:D),caps[i]?=some x->ds[i]?=some d->σ.ev x=some d):aU P o σ fr (.fn f ds) []:=
 c7 λ_ _ _ _ w a _ _ hev=>by
  refine⟨.func (.func f) #[] (caps.map a.eval),?_,.fn (by simp[hl]) (λi u d hu hd=>?_)⟩
  .unfold execOp
   rw[ho];simp[Instr.makeFunc]
  .simp only[Array.getElem?_map]at hu
   obtain⟨x,hx,rfl⟩:=b9.1 hu;exact hev x d (hc i x d hx hd)
end
end Go.Ax
