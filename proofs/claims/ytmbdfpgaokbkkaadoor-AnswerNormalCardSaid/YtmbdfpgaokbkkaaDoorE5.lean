/- The abstract machine, run: code, loops, functions, contracts. Conditions are in the theorems. -/
import Derived.Test.YtmbdfpgaokbkkaaDoorE4
import Derived.Lib.MinMax
import Derived.Laws.Strings
import Derived.Laws.Slices
/- States told otherwise. -/
namespace Go.Ax
open Alg
open Go.RowKit Go.Ab
def denS (σ:Sg):St:=mk (fun t=>(lk t σ.T).map X.D) (fun k=>(lk k σ.H).map XO.A) σ.N
theorem Ent.trans' {E:Env} {a b c:St} (h:Ent E a b) (k:Ent E b c):Ent E a c:=fun tm w hR=>k tm w (h tm w hR)
theorem Ent.refl' {E:Env} {a:St}:Ent E a a:=fun _ _ h=>h
theorem mk_eq {T T':Nat->Option D} {H H':Nat->Option AObj} {N N':Nat} (hT:∀ t,T t=T' t) (hH:∀ k,H k=H' k) (hN:N=N'):mk T H N=mk T' H' N':=by
 rw [funext hT,funext hH,hN]
theorem ent_sub {E:Env} {T T':Nat->Option D} {H H':Nat->Option AObj} {N:Nat} (hT:∀ t d,T' t=some d->T t=some d) (hH:∀ k o,H' k=some o->H k=some o):Ent E (mk T H N) (mk T' H' N):=fun _ _ ⟨ν,G,I⟩=>
 ⟨ν,G,I.kept,I.keep,I.pin,I.g0,I.sz,fun t d h=>I.T t d (hT t d h),fun k o h=>I.H k o (hH k o h),fun k o k' o' h h'=>I.dis k o k' o' (hH k o h) (hH k' o' h')⟩
theorem ent_T {E:Env} {T T':Nat->Option D} {H:Nat->Option AObj} {N:Nat} (hT:∀ t d',T' t=some d'->∃ d,T t=some d/\DWk H d d'):Ent E (mk T H N) (mk T' H N):=fun tm w ⟨ν,G,I⟩=>
 ⟨ν,G,I.kept,I.keep,I.pin,I.g0,I.sz,fun t d' h=>by
  obtain ⟨d,h1,h2⟩:=hT t d' h;obtain ⟨v,hv,hd⟩:=I.T t d h1;exact ⟨v,hv,h2 E _ ν G w tm (fun k o h=>h) I v hd⟩,I.H,I.dis⟩
theorem fl_len {α β:Type} {f:α->List β} {m:Nat} (hf:∀ x,(f x).length=m):∀ l:List α,(l.flatMap f).length=l.length * m
 | []=>by simp
 | a::l=>by rw [List.flatMap_cons,List.length_append,hf,fl_len hf l,List.length_cons,Nat.add_mul,Nat.one_mul,Nat.add_comm]
theorem fl_get {α β:Type} {f:α->List β} {m:Nat} (hf:∀ x,(f x).length=m):∀ (l:List α) (i j:Nat) (x:α),l[i]?=some x->j < m->(l.flatMap f)[i * m+j]?=(f x)[j]?
 | [],i,j,x,h,_=>by simp at h
 | a::l,0,j,x,h,hj=>by
   simp at h;subst h;rw [List.flatMap_cons,Nat.zero_mul,Nat.zero_add,List.getElem?_append_left (by rw [hf];exact hj)]
 | a::l,i+1,j,x,h,hj=>by
   have h':l[i]?=some x:=by simpa using h
   rw [List.flatMap_cons,List.getElem?_append_right (by rw [hf,Nat.add_mul];omega),hf,← fl_get hf l i j x h' hj]
   congr 1
   rw [Nat.add_mul];omega
theorem fl_set {α β:Type} {f:α->List β} {m:Nat} (hf:∀ x,(f x).length=m):∀ (l:List α) (i j:Nat) (x z:α) (b:β),l[i]?=some x->j < m->f z=(f x).set j b->(l.set i z).flatMap f=(l.flatMap f).set (i * m+j) b
 | [],i,j,x,z,b,h,_,_=>by simp at h
 | a::l,0,j,x,z,b,h,hj,hz=>by
   simp at h;subst h;rw [List.set_cons_zero,List.flatMap_cons,List.flatMap_cons,Nat.zero_mul,Nat.zero_add,List.set_append_left _ _ (by rw [hf];exact hj),hz]
 | a::l,i+1,j,x,z,b,h,hj,hz=>by
   have h':l[i]?=some x:=by simpa using h
   rw [List.set_cons_succ,List.flatMap_cons,List.flatMap_cons,List.set_append_right _ _ (by rw [hf,Nat.add_mul];omega),fl_set hf l i j x z b h' hj hz,hf]
   congr 2
   rw [Nat.add_mul];omega
theorem cellsN_len {κ ρ:Ty} (x:List κ.V×ρ.V):(cellsN x).length=1+ρ.size:=by
 unfold cellsN;rw [List.length_cons,List.length_map,encs_len,Nat.add_comm]
theorem cellsN_all {κ ρ:Ty} (l:List (List κ.V×ρ.V)) (c:NC) (h:c ∈ List.flatMap cellsN l):(∃ n ts,c = .inn n ts)\/∃ t,c = .dat (.t t):=by
 obtain ⟨x,_,hx⟩:=List.mem_flatMap.1 h;unfold cellsN at hx;rcases List.mem_cons.1 hx with rfl | hx
 ·exact .inl ⟨_,_,rfl⟩
 ·obtain ⟨t,_,rfl⟩:=List.mem_map.1 hx
  exact .inr ⟨t,rfl⟩
theorem cellsN_noLent {κ ρ:Ty} (l:List (List κ.V×ρ.V)):NoLent (List.flatMap cellsN l):=fun i d h=>by
 rcases cellsN_all l _ (List.mem_iff_getElem?.2 ⟨i,h⟩) with ⟨n,ts,h⟩ | ⟨t,h⟩
 ·cases h
 ·cases h;exact ⟨t,rfl⟩
theorem cellsN_slr {κ ρ:Ty}:∀ l:List (List κ.V×ρ.V),(List.flatMap cellsN l).map NC.slr=(List.flatMap (encs (.pr (.sl κ) ρ)) l).map some
 | []=>rfl
 | x::l=>by
   show (cellsN x++List.flatMap cellsN l).map NC.slr=(encs (.pr (.sl κ) ρ) x++List.flatMap (encs (.pr (.sl κ) ρ)) l).map some;rw [List.map_append,List.map_append,cellsN_slr l]
   congr 1
   show NC.slr _::((encs ρ x.2).map fun t=>NC.dat (.t t)).map NC.slr=some _::(encs ρ x.2).map some;rw [List.map_map];rfl
theorem cellsN_get {κ ρ:Ty} {l:List (List κ.V×ρ.V)} {i:Nat} {x:List κ.V×ρ.V} (h:l[i]?=some x):(List.flatMap cellsN l)[i * (1+ρ.size)]?=some (.inn (List.length x.1) (List.flatMap (encs κ) x.1)):=by
 have:=fl_get (f:=cellsN) cellsN_len l i 0 x h (by omega);rw [Nat.add_zero] at this;rw [this];rfl
theorem cellsN_lt {κ ρ:Ty} {l:List (List κ.V×ρ.V)} {i j:Nat} (h:i < l.length) (hj:j < 1+ρ.size):i * (1+ρ.size)+j < (List.flatMap cellsN l).length:=by
 rw [fl_len (f:=cellsN) cellsN_len];have:(i+1) * (1+ρ.size)<=l.length * (1+ρ.size):=Nat.mul_le_mul_right _ h;rw [Nat.add_mul,Nat.one_mul] at this;omega
theorem lentN_len {m:Nat} {cs:List NC} {ln:Option (Int×Nat)}:(lentN m cs ln).length=cs.length:=by
 unfold lentN;split
 ·rfl
 ·rw [List.length_set]
theorem emptyO_ok {o:XO} (h:emptyO o=true):Empt o.A:=by
 unfold emptyO at h;split at h
 ·exact .row
 ·exact .nest
 ·exact .nst
 ·cases h
theorem putL_set {α β:Type} (f:α->β):∀ (l:List α) (i:Nat) (x:α),(putL x i l).map f=(l.map f).set i (f x)
 | [],i,x=>by rw [putL_nil];rfl
 | y::l,0,x=>rfl
 | y::l,i+1,x=>by simp only [putL,List.map_cons,List.set_cons_succ];rw [putL_set f l i x]
theorem flat_single {β:Type} {f:β->List Tree} {g:β->Tree} (h:∀ r,f r=[g r]):∀ l:List β,l.flatMap f=l.map g
 | []=>rfl
 | a::l=>by rw [List.flatMap_cons,h,flat_single h l];rfl
theorem encs_nest {τ:Ty} (l:List (List τ.V)):(List.flatMap (encs (.sl τ)) l)=(l.map fun r=>(List.length r,List.flatMap (encs τ) r)).map fun p=>.sl p.1 p.2:=
 (flat_single (β:=List τ.V) (f:=encs (.sl τ)) (g:=fun r=>.sl (List.length r) (List.flatMap (encs τ) r)) (fun _=>rfl) l).trans (by rw [List.map_map];rfl)
def MvOk (σ:Sg) (k:Sg->O) (r:Res):Prop:=∃ σ',k σ'=some r/\(100<=σ.N->100<=σ'.N)/\(100<=σ.N->∀ E,Ent E (denS σ) (denS σ'))
theorem MvOk.same {σ:Sg} {k:Sg->O} {r:Res} (h:k σ=some r):MvOk σ k r:=⟨σ,h,id,fun _ _=>Ent.refl'⟩
theorem flat_un {κ:Ty}:∀ l:List (List κ.V×Unit),List.flatMap (encs (.sl κ)) (List.map (α:=List κ.V×Unit) (β:=(Ty.sl κ).V) (fun x=>x.1) l)=List.flatMap (encs (.pr (.sl κ) .un)) l
 | []=>rfl
 | x::l=>by
   show encs (.sl κ) x.1++List.flatMap (encs (.sl κ)) (List.map (α:=List κ.V×Unit) (β:=(Ty.sl κ).V) (fun x=>x.1) l)=(encs (.sl κ) x.1++[])++List.flatMap (encs (.pr (.sl κ) .un)) l;rw [List.append_nil,flat_un l]
theorem sealNst_ok {q:Nat} {e e':TypeId} {κ ρ:Ty} {l:List (List κ.V×ρ.V)} {E:Env} {T:Nat->Option D} {H:Nat->Option AObj} {N:Nat} (hq:H q=some (XO.nst e e' κ ρ l none).A):Ent E (mk T H N) (mk T (fun j=>if q=j then some (XO.row e (.pr (.sl κ) ρ) l true).A else H j) N):=by
 have h1:=ent_sealT (E:=E) (T:=T) (N:=N) q hq (ts:=List.flatMap (encs (.pr (.sl κ) ρ)) l) (cellsN_slr l);have h2:=ent_seal (E:=E) (T:=T) (H:=fun j=>if q=j then some (.row e (1+ρ.size) l.length (List.flatMap (encs (.pr (.sl κ) ρ)) l) false) else H j) (N:=N) q (by rw [if_pos rfl]);refine Ent.trans' h1 ?_;rw [show (fun j=>if q=j then some (XO.row e (.pr (.sl κ) ρ) l true).A else H j)=fun j=>if q=j then some (.row e (1+ρ.size) l.length (List.flatMap (encs (.pr (.sl κ) ρ)) l) true) else if q=j then some (.row e (1+ρ.size) l.length (List.flatMap (encs (.pr (.sl κ) ρ)) l) false) else H j from ?_]
 ·exact h2
 ·funext j
  split
  ·rfl
  ·rfl
theorem sealO_ok {q:Nat} {o o':XO} (h:sealO o=some o') {E:Env} {T:Nat->Option D} {H:Nat->Option AObj} {N:Nat} (hq:H q=some o.A):Ent E (mk T H N) (mk T (fun j=>if q=j then some o'.A else H j) N):=by
 unfold sealO at h;split at h
 ·cases h;exact ent_seal q hq
 ·rename_i e e' τ l
  split at h
  ·rename_i h1
   cases h;have:=ent_sealN (E:=E) (T:=T) (N:=N) q hq;have hA:(XO.row e (.sl τ) l true).A=AObj.row e 1 (l.map fun r=>(List.length r,List.flatMap (encs τ) r)).length ((l.map fun r=>(List.length r,List.flatMap (encs τ) r)).map fun p=>.sl p.1 p.2) true:=
    congr (congrArg (fun n ts=>AObj.row e 1 n ts true) (List.length_map ..).symm) (encs_nest l)
   rw [hA];exact this
  ·cases h
 ·rename_i e e' κ ρ l
  cases h;cases ρ with
  | un=>
    show Ent E _ (mk T (fun j=>if q=j then some (XO.row e (.sl κ) (l.map fun x=>x.1) true).A else H j) N);have key:(XO.row e (.sl κ) (l.map fun x=>x.1) true).A=(XO.row e (.pr (.sl κ) .un) l true).A:=by
     show AObj.row e 1 (l.map fun x=>x.1).length (List.flatMap (encs (.sl κ)) (List.map (α:=List κ.V×Unit) (β:=(Ty.sl κ).V) (fun x=>x.1) l)) true=AObj.row e 1 l.length (List.flatMap (encs (.pr (.sl κ) .un)) l) true;rw [List.length_map];exact congrArg (fun ts=>AObj.row e 1 l.length ts true) (flat_un l)
    rw [key];exact sealNst_ok hq
  | _=>exact sealNst_ok hq
 ·cases h
theorem sealAt_ok {q:Nat} {σ:Sg} {k:Sg->O} {r:Res} (h:sealAt q σ k=some r):MvOk σ k r:=by
 unfold sealAt at h;split at h
 ·rename_i o ho
  split at h
  ·rename_i o' ho'
   obtain ⟨H1,h,hH1⟩:=setK_some h;refine ⟨_,h,id,fun _ E=>?_⟩;have:=sealO_ok (q:=q) ho' (E:=E) (T:=fun t=>(lk t σ.T).map X.D) (H:=fun k=>(lk k σ.H).map XO.A) (N:=σ.N) (by rw [ho];rfl);unfold denS;rw [show mk (fun t=>(lk t σ.T).map X.D) (fun k=>(lk k H1).map XO.A) σ.N=_ from mk_eq (fun t'=>rfl) (fun k'=>?_) rfl]
   ·exact this
   ·rw [hH1];split <;> rfl
  ·exact .same h
 ·exact .same h
theorem nilAt_ok {q i:Nat} {o:XO} (ho:Empt o.A) {σ:Sg} {k:Sg->O} {r:Res} (h:nilAt q i o σ k=some r):MvOk σ k r:=by
 unfold nilAt at h;split at h
 ·rename_i e' xs hq
  split at h
  ·rename_i hx
   obtain ⟨H1,h,hH1⟩:=setK_some h;obtain ⟨H2,h,hH2⟩:=setK_some h;refine ⟨_,h,fun h=>(by show 100<=σ.N+8;omega),fun hN E=>?_⟩;have:=ent_nilcello (E:=E) (T:=fun t=>(lk t σ.T).map X.D) (H:=fun k=>(lk k σ.H).map XO.A) q i ho (e':=e') (ds:=xs.map X.D) (by rw [hq];rfl) (by rw [List.getElem?_map,hx];rfl) hN;unfold denS;rw [show mk (fun t=>(lk t σ.T).map X.D) (fun k=>(lk k H2).map XO.A) (σ.N+8)=_ from mk_eq (fun t'=>rfl) (fun k'=>?_) rfl]
   ·exact this
   ·rw [hH2,hH1]
    split
    ·rfl
    ·split
     ·simp only [Option.map_some,XO.A,putL_set];rfl
     ·rfl
  ·exact .same h
 ·exact .same h
theorem joinAll_len' {τ:Ty} {xs:List X} {y:τ.V} (h:joinAll τ xs=some y):xs.length=(encs τ y).length:=by
 have:=(joinAll_ok (H:=fun _=>none) h).len;simpa using this
theorem ent_cell {E:Env} {T:Nat->Option D} {H:Nat->Option AObj} {N:Nat} (k i:Nat) {e:TypeId} {ds:List D} {d d':D} (hk:H k=some (.box e ds)) (hi:ds[i]?=some d) (hw:DWk H d d'):Ent E (mk T H N) (mk T (fun j=>if k=j then some (.box e (ds.set i d')) else H j) N):=by
 refine ent_of_act fun a w ⟨ν,G,I⟩=>⟨ν,G,I.kept,I.keep,I.pin,I.g0,I.sz,I.T,fun j oj hj=>?_,fun j1 o1 j2 o2 e1 e2 hne=>?_⟩
 ·by_cases hjk:k=j
  ·subst hjk
   simp only [if_true,Option.some.injEq] at hj;subst hj;obtain ⟨hn,g,cur,z1,z2,z3,z4,z5,z6⟩:=I.H k _ hk;refine ⟨hn,g,cur,z1,z2,z3,z4,by rw [List.length_set];exact z5,fun m u dm hu hd=>?_⟩;by_cases hm:i=m
   ·subst hm
    have hlt:i < ds.length:=(List.getElem?_eq_some_iff.1 hi).1;rw [List.getElem?_set_self hlt] at hd;cases hd;obtain ⟨y1,y2⟩:=z6 i u _ hu hi;exact ⟨hw E _ ν G w a.tmps (fun _ _ h=>h) I u y1,y2⟩
   ·rw [List.getElem?_set_ne hm] at hd
    exact z6 m u dm hu hd
  ·simp only [if_neg hjk] at hj
   exact I.H j oj hj
 ·have back:∀ j o,(if k=j then some (.box e (ds.set i d')) else H j)=some o->∃ o',H j=some o'/\∀ g,foot w (ν j) o g->foot w (ν j) o' g:=fun j o h=>by
   by_cases hj:k=j
   ·subst hj;simp only [if_true,Option.some.injEq] at h;subst h;exact ⟨_,hk,fun _ h=>h⟩
   ·rw [if_neg hj] at h;exact ⟨o,h,fun _ h=>h⟩
  obtain ⟨p1,hp1,f1⟩:=back j1 o1 e1;obtain ⟨p2,hp2,f2⟩:=back j2 o2 e2;exact fun g hg hg'=>I.dis j1 p1 j2 p2 hp1 hp2 hne g (f1 g hg) (f2 g hg')
theorem tyX_one {H:Nat->Option AObj} {τ:Ty} {x:X} {y:τ.V} (h1:τ.one=true) (h:tyX τ x=some y):DWk H x.D (.t (enc1 τ y)):=by
 unfold tyX at h;rw [h1] at h;exact one?_ok h1 h
theorem cvAt_ok {q i:Nat} {τ:Ty} {σ:Sg} {k:Sg->O} {r:Res} (h:cvAt q i τ σ k=some r):MvOk σ k r:=by
 unfold cvAt at h;split at h
 ·rename_i e xs hq
  split at h
  ·rename_i x hx
   split at h
   ·rename_i h1
    split at h
    ·rename_i y hy
     obtain ⟨H1,h,hH1⟩:=setK_some h;refine ⟨_,h,id,fun _ E=>?_⟩;have hg:=give_ok (⟨fun t=>lk t σ.T,fun k=>lk k σ.H,none⟩:Vw) x;have:=ent_cell (E:=E) (T:=fun t=>(lk t σ.T).map X.D) (H:=fun k=>(lk k σ.H).map XO.A) (N:=σ.N) q i (e:=e) (ds:=xs.map X.D) (d:=x.D) (d':=.t (enc1 τ y)) (by rw [hq];rfl) (by rw [List.getElem?_map,hx];rfl) (hg.trans (tyX_one h1 hy));unfold denS;rw [show mk (fun t=>(lk t σ.T).map X.D) (fun k=>(lk k H1).map XO.A) σ.N=_ from mk_eq (fun t'=>rfl) (fun k'=>?_) rfl]
     ·exact this
     ·rw [hH1]
      split
      ·simp only [Option.map_some,XO.A,putL_set,e_D h1]
      ·rfl
    ·exact .same h
   ·exact .same h
  ·exact .same h
 ·exact .same h
theorem ObjOk_at {E:Env} {ν:Nat->Value} {nm:Nat->Bool} {w:World} {G:Lim} {k k':Nat} {o:AObj} (h:ObjOk E ν nm w G k o) (e:ν k'=ν k):ObjOk E ν nm w G k' o:=by
 cases o <;> (unfold ObjOk at h ⊢;rw [e];exact h)
theorem ent_rn {E:Env} {T:Nat->Option D} {H:Nat->Option AObj} {N:Nat} (k i q:Nat) {e':TypeId} {ds:List D} {o0:AObj} (hk:H k=some (.box e' ds)) (hi:ds[i]?=some (.own q)) (hq:H q=some o0) (hne:q≠k) (hN:100<=N):
    Ent E (mk T H N) (mk T (fun j=>if N=j then some o0 else if q=j then none else if k=j then some (.box e' (ds.set i (.own N))) else H j) (N+8)):=by
 refine ent_of_act fun a w ⟨ν,G,I⟩=>?_
 have lt:∀ j,(mk T H N).nm j=true->j < N:=fun j hj=>by simpa using hj
 have ne:∀ j,(mk T H N).nm j=true->setν ν N (ν q) j=ν j:=fun j hj=>setν_ne (by have:=lt j hj;omega)
 have hn:∀ j,(mk T H N).nm j=true->decide (j < N+8)=true/\setν ν N (ν q) j=ν j:=fun j hj=>⟨by have:=lt j hj;simp;omega,ne j hj⟩
 have old:∀ j o,H j=some o->j < N:=fun j o hj=>lt j (I.H j o hj).1
 have hqN:=old q o0 hq;have hkN:=old k _ hk;have back:∀ j o,(if N=j then some o0 else if q=j then none else if k=j then some (.box e' (ds.set i (.own N))) else H j)=some o->(j=N/\o=o0)\/(j=k/\j≠q/\j < N/\o = .box e' (ds.set i (.own N)))\/(j≠k/\j≠q/\j < N/\H j=some o):=fun j o h=>by
  by_cases h1:N=j
  ·rw [if_pos h1] at h;exact .inl ⟨h1.symm,(Option.some.inj h).symm⟩
  ·rw [if_neg h1] at h
   by_cases h3:q=j
   ·rw [if_pos h3] at h;cases h
   ·rw [if_neg h3] at h
    by_cases h2:k=j
    ·rw [if_pos h2] at h;exact .inr (.inl ⟨h2.symm,Ne.symm h3,by omega,(Option.some.inj h).symm⟩)
    ·rw [if_neg h2] at h;exact .inr (.inr ⟨Ne.symm h2,Ne.symm h3,old _ _ h,h⟩)
 have hfoot:∀ j o,(if N=j then some o0 else if q=j then none else if k=j then some (.box e' (ds.set i (.own N))) else H j)=some o->∃ j' o',H j'=some o'/\(∀ g,foot w (setν ν N (ν q) j) o g->foot w (ν j') o' g)/\j'=(if j=N then q else j):=fun j o h=>by
  rcases back j o h with ⟨rfl,rfl⟩ | ⟨rfl,h2,h3,rfl⟩ | ⟨h1,h2,h3,h4⟩
  ·exact ⟨q,_,hq,fun g hg=>by rw [setν_same] at hg;exact hg,by rw [if_pos rfl]⟩
  ·exact ⟨_,_,hk,fun g hg=>by rw [setν_ne (by omega)] at hg;exact hg,by rw [if_neg (by omega)]⟩
  ·exact ⟨_,_,h4,fun g hg=>by rw [setν_ne (by omega)] at hg;exact hg,by rw [if_neg (by omega)]⟩
 refine ⟨setν ν N (ν q),G,I.kept,I.keep,fun j h1 h2=>?_,I.g0,I.sz,fun t d ht=>?_,fun j o hj=>?_,fun j1 o1 j2 o2 h1 h2 hne12 g hg=>?_⟩
 ·rw [setν_ne (by omega)];exact I.pin j h1 h2
 ·obtain ⟨v,hv,hdv⟩:=I.T t d ht
  exact ⟨v,hv,hdv.mono hn (fun _ _ _ h=>h)⟩
 ·have mono:∀ j o,H j=some o->ObjOk E (setν ν N (ν q)) (fun j=>decide (j < N+8)) w G j o:=fun j o hj=>
   let ⟨q1,q2⟩:=I.H j o hj
   q2.mono (ν':=setν ν N (ν q)) (nm':=fun j=>decide (j < N+8)) q1 hn (fun _ _ _ h=>h) (fun g _=>⟨rfl,rfl⟩)
  rcases back j o hj with ⟨rfl,rfl⟩ | ⟨rfl,h2,h3,rfl⟩ | ⟨h1,h2,h3,h4⟩
  ·refine ⟨by simp,ObjOk_at (mono q _ hq) ?_⟩
   rw [setν_same,setν_ne (by omega)]
  ·refine ⟨by simp;omega,?_⟩
   obtain ⟨g,cur,z1,z2,z3,z4,z5,z6⟩:=mono _ _ hk;refine ⟨g,cur,z1,z2,z3,z4,by rw [List.length_set];exact z5,fun m u d hu hd=>?_⟩;by_cases hm:i=m
   ·subst hm
    have hlt2:i < ds.length:=(List.getElem?_eq_some_iff.1 hi).1;rw [List.getElem?_set_self hlt2] at hd;cases hd;obtain ⟨y1,y2⟩:=z6 i u _ hu hi;obtain ⟨e1,_⟩:=mp_of y1;refine ⟨?_,y2⟩;have e2:u=setν ν N (ν q) N:=by rw [e1,setν_same,setν_ne (by omega)]
    have hown:DR (setν ν N (ν q)) (fun j=>decide (j < N+8)) w G (setν ν N (ν q) N) (.own N):=.own (by simp) (by rw [← e2];exact y2);rw [← e2] at hown;exact hown
   ·rw [List.getElem?_set_ne hm] at hd
    exact z6 m u d hu hd
  ·exact ⟨by simp;omega,mono j o h4⟩
 ·obtain ⟨j1',o1',a1,a2,a3⟩:=hfoot j1 o1 h1
  obtain ⟨j2',o2',b1,b2,b3⟩:=hfoot j2 o2 h2;have hne':j1'≠j2':=by
   rw [a3,b3];rcases back j1 o1 h1 with ⟨c1,_⟩ | ⟨_,c2,c3,_⟩ | ⟨_,c2,c3,_⟩ <;> rcases back j2 o2 h2 with ⟨d1,_⟩ | ⟨_,d2,d3,_⟩ | ⟨_,d2,d3,_⟩
   ·exact absurd (c1.trans d1.symm) hne12
   ·rw [if_pos c1,if_neg (by omega)];exact fun e=>d2 e.symm
   ·rw [if_pos c1,if_neg (by omega)];exact fun e=>d2 e.symm
   ·rw [if_neg (by omega),if_pos d1];exact c2
   ·rw [if_neg (by omega),if_neg (by omega)];exact hne12
   ·rw [if_neg (by omega),if_neg (by omega)];exact hne12
   ·rw [if_neg (by omega),if_pos d1];exact c2
   ·rw [if_neg (by omega),if_neg (by omega)];exact hne12
   ·rw [if_neg (by omega),if_neg (by omega)];exact hne12
  exact fun hg'=>I.dis j1' o1' j2' o2' a1 b1 hne' g (a2 g hg) (b2 g hg')
theorem rnAt_ok {q i:Nat} {σ:Sg} {k:Sg->O} {r:Res} (h:rnAt q i σ k=some r):MvOk σ k r:=by
 unfold rnAt at h;split at h
 ·rename_i e xs hq
  split at h
  ·rename_i q' hx
   split at h
   ·rename_i o ho
    split at h
    ·rename_i hc
     simp only [Bool.and_eq_true,Bool.not_eq_true'] at hc;have hne:q'≠q:=fun e=>by rw [e,Nat.beq_refl] at hc;exact absurd hc.2 (by decide)
     obtain ⟨H1,h,hH1⟩:=setK_some h;obtain ⟨H2,h,hH2⟩:=delK_some h;obtain ⟨H3,h,hH3⟩:=setK_some h;refine ⟨_,h,fun h=>(by show 100<=σ.N+8;omega),fun hN E=>?_⟩;have:=ent_rn (E:=E) (T:=fun t=>(lk t σ.T).map X.D) (H:=fun k=>(lk k σ.H).map XO.A) (N:=σ.N) q i q' (e':=e) (ds:=xs.map X.D) (o0:=o.A) (by rw [hq];rfl) (by rw [List.getElem?_map,hx];rfl) (by rw [ho];rfl) hne hN;unfold denS;rw [show mk (fun t=>(lk t σ.T).map X.D) (fun k=>(lk k H3).map XO.A) (σ.N+8)=_ from mk_eq (fun t'=>rfl) (fun k'=>?_) rfl]
     ·exact this
     ·rw [hH3,hH2,hH1]
      split
      ·rfl
      ·split
       ·rfl
       ·split
        ·simp only [Option.map_some,XO.A,putL_set];rfl
        ·rfl
    ·exact .same h
   ·exact .same h
  ·exact .same h
 ·exact .same h
theorem lendAt_ok {q:Nat} {n:Int} {σ:Sg} {k:Sg->O} {r:Res} (h:lendAt q n σ k=some r):MvOk σ k r:=by
 unfold lendAt at h;split at h
 ·rename_i e e' κ ρ l hq
  obtain ⟨y,hn,hy,h⟩:=gx_some h;obtain ⟨H1,h,hH1⟩:=setK_some h;obtain ⟨H2,h,hH2⟩:=setK_some h;refine ⟨_,h,fun h=>(by show 100<=σ.N+8;omega),fun hN E=>?_⟩;have:=ent_lend (E:=E) (T:=fun t=>(lk t σ.T).map X.D) (H:=fun k=>(lk k σ.H).map XO.A) (N:=σ.N) q (n.toNat * (1+ρ.size)) (cs:=List.flatMap cellsN l) (by rw [hq];rfl) (cellsN_get hy) hN;unfold denS;rw [show mk (fun t=>(lk t σ.T).map X.D) (fun k=>(lk k H2).map XO.A) (σ.N+8)=_ from mk_eq (fun t'=>rfl) (fun k'=>?_) rfl]
  ·exact this
  ·rw [hH2,hH1]
   split
   ·rfl
   ·split
    ·rfl
    ·rfl
 ·exact .same h
theorem backAt_ok {q:Nat} {σ:Sg} {k:Sg->O} {r:Res} (h:backAt q σ k=some r):MvOk σ k r:=by
 unfold backAt at h;split at h
 ·rename_i e e' κ ρ l n f hq
  split at h
  ·rename_i e1 κ1 xs hf
   split at h
   ·rename_i hκ _
    split at h
    ·rename_i hc
     rw [Bool.and_eq_true] at hc;have he:=Nat.eq_of_beq_eq_true hc.1;subst he;have hκ':=hκ;subst hκ';obtain ⟨y,hn,hy,h⟩:=gx_some h;obtain ⟨H1,h,hH1⟩:=setK_some h;obtain ⟨H2,h,hH2⟩:=delK_some h;refine ⟨_,h,id,fun hN E=>?_⟩;have hlt:n.toNat < l.length:=(List.getElem?_eq_some_iff.1 hy).1;have hb:=cellsN_lt (ρ:=ρ) (l:=l) (j:=0) hlt (by omega);rw [Nat.add_zero] at hb;have:=ent_back (E:=E) (T:=fun t=>(lk t σ.T).map X.D) (H:=fun k=>(lk k σ.H).map XO.A) (N:=σ.N) q (n.toNat * (1+ρ.size)) f (cs:=(List.flatMap cellsN l).set (n.toNat * (1+ρ.size)) (.dat (.own f))) (by rw [hq];rfl) (List.getElem?_set_self hb) (by rw [hf];rfl);have hs:=fl_set (f:=cellsN) cellsN_len l n.toNat 0 y (xs,y.2) (.inn (List.length xs) (List.flatMap (encs κ1) xs)) hy (by omega) rfl;rw [Nat.add_zero] at hs;rw [List.set_set,← hs] at this;unfold denS;rw [show mk (fun t=>(lk t σ.T).map X.D) (fun k=>(lk k H2).map XO.A) σ.N=_ from mk_eq (fun t'=>rfl) (fun k'=>?_) rfl]
     ·exact this
     ·rw [hH2,hH1]
      split
      ·rfl
      ·split
       ·simp only [Option.map_some,XO.A,lentN]
        rw [List.length_set];rfl
       ·rfl
    ·exact .same h
   ·exact .same h
  ·exact .same h
 ·exact .same h
theorem mv1_ok {m:Mv} {σ:Sg} {k:Sg->O} {r:Res} (h:mv1 m σ k=some r):MvOk σ k r:=by
 unfold mv1 at h;split at h
 ·split at h
  ·exact sealAt_ok h
  ·split at h
   ·exact sealAt_ok h
   ·exact .same h
  ·exact .same h
 ·rename_i t o
  split at h
  ·rename_i ht he
   obtain ⟨T',h,hT⟩:=setK_some h;obtain ⟨H',h,hH⟩:=setK_some h;refine ⟨_,h,fun h=>(by show 100<=σ.N+8;omega),fun hN E=>?_⟩;have:=ent_nilobj (E:=E) (T:=fun t=>(lk t σ.T).map X.D) (H:=fun k=>(lk k σ.H).map XO.A) t (emptyO_ok he) (by rw [ht];rfl) hN;unfold denS;rw [show mk (fun t=>(lk t T').map X.D) (fun k=>(lk k H').map XO.A) (σ.N+8)=_ from mk_eq (fun t'=>?_) (fun k'=>?_) rfl]
   ·exact this
   ·rw [hT];split <;> rfl
   ·rw [hH];split <;> rfl
  ·exact .same h
 ·split at h
  ·rename_i he
   exact nilAt_ok (emptyO_ok he) h
  ·rename_i he
   exact nilAt_ok (emptyO_ok he) h
  ·exact .same h
 ·rename_i t τ
  split at h
  ·rename_i q ht
   split at h
   ·rename_i e xs hq
    split at h
    ·rename_i y hy
     obtain ⟨T',h,hT⟩:=setK_some h;obtain ⟨H',h,hH⟩:=delK_some h;refine ⟨_,h,id,fun hN E=>?_⟩;have:=ent_freeze (E:=E) (T:=fun t=>(lk t σ.T).map X.D) (H:=fun k=>(lk k σ.H).map XO.A) (N:=σ.N) t q (e:=e) (ds:=xs.map X.D) (ts:=encs τ y) (by rw [ht];rfl) (by rw [hq];rfl) (by rw [List.length_map];exact joinAll_len' hy) (fun i tr hi=>by
      obtain ⟨d0,h1,h2⟩:=(joinAll_ok hy).get i (.t tr) (by rw [List.getElem?_map,hi];rfl);exact ⟨d0,h1,h2⟩)
     unfold denS;rw [show mk (fun t=>(lk t T').map X.D) (fun k=>(lk k H').map XO.A) σ.N=_ from mk_eq (fun t'=>?_) (fun k'=>?_) rfl]
     ·exact this
     ·rw [hT];split <;> rfl
     ·rw [hH];split <;> rfl
    ·exact .same h
   ·exact .same h
  ·exact .same h
 ·split at h
  ·exact cvAt_ok h
  ·exact .same h
 ·split at h
  ·exact rnAt_ok h
  ·exact .same h
 ·split at h
  ·exact lendAt_ok h
  ·exact .same h
 ·split at h
  ·exact backAt_ok h
  ·exact .same h
theorem mvX_ok:∀ (l:List Mv) (σ:Sg) (k:Sg->O) (r:Res),mvX l σ k=some r->MvOk σ k r
 | [],σ,k,r,h=>.same h
 | m::l,σ,k,r,h=>by
   obtain ⟨σ1,h1,h2,h3⟩:=mv1_ok (m:=m) h;obtain ⟨σ2,e1,e2,e3⟩:=mvX_ok l σ1 k r h1;exact ⟨σ2,e1,fun h=>e2 (h2 h),fun hN E=>Ent.trans' (h3 hN E) (e3 (h2 hN) E)⟩
theorem toX_D {τ:Ty} {y:τ.V}:(toX τ y).D=if τ.one then .t (enc1 τ y) else .agg ((encs τ y).map .t):=by
 unfold toX;cases h:τ.one with
 | true=>simp only [e_D h];rfl
 | false=>simp only [X.D,Ds_map,cellsX_D];rfl
theorem tyX_ok {H:Nat->Option AObj} {τ:Ty} {x:X} {y:τ.V} (h:tyX τ x=some y):DWk H x.D (toX τ y).D:=by
 rw [toX_D];unfold tyX at h;split at h
 ·rename_i h1
  rw [if_pos h1];exact one?_ok h1 h
 ·rename_i h1
  rw [if_neg (by rw [h1];simp)];split at h
  ·unfold X.D
   rw [Ds_map];exact DWk.agg (joinAll_ok h)
  ·cases h
theorem asTy_ok (σ:Vw) (τ:Ty) (x:X):DWk σ.den.H x.D (asTy σ τ x).D:=by
 unfold asTy;split
 ·rename_i y h
  exact (giveC_ok σ x).trans (tyX_ok h)
 ·exact DWk.refl
theorem pickT_ok {σ:Sg} {gv:List (Nat×Ty)}:∀ (ts:List Nat) (T':XT),pickT σ gv ts=some T'->∀ t x',lk t T'=some x'->∃ x,lk t σ.T=some x/\DWk σ.vw.den.H x.D x'.D
 | [],T',h,t,x',ht=>by cases h;cases ht
 | t0::l,T',h,t,x',ht=>by
   unfold pickT at h;split at h
   ·rename_i x hx
    split at h
    ·rename_i r hr
     cases h;unfold lk at ht;split at ht
     ·rename_i he
      have he:=Nat.eq_of_beq_eq_true he;subst he;cases ht;refine ⟨x,hx,?_⟩;split
      ·exact asTy_ok _ _ _
      ·exact DWk.refl
     ·exact pickT_ok l r hr t x' ht
    ·cases h
   ·cases h
theorem DLe.trees {H:Nat->Option AObj} {nm':Nat->Bool} {ρ:Nat->Nat} (l:List Tree):DLe false H nm' ρ (.agg (l.map .t)) (.agg (l.map .t)):=.agg rfl fun i d d' h1 h2=>by
 rw [h1] at h2;cases h2;obtain ⟨t,_,rfl⟩:=List.mem_map.1 (List.mem_of_getElem? h1);exact .t rfl
mutual
theorem renX_ok {H:Nat->Option AObj} {nm':Nat->Bool} {ρ:Nat->Nat} {f:Nat->Option Nat} (hf:∀ k k',f k=some k'->nm' k'=true/\k=ρ k'):∀ (x y:X),renX f x=some y->DLe false H nm' ρ x.D y.D
 | .own q,y,h=>by
   unfold renX at h;split at h
   ·rename_i q' hq;cases h;exact .own (hf _ _ hq).1 (hf _ _ hq).2
   ·cases h
 | .ref q off,y,h=>by
   unfold renX at h;split at h
   ·rename_i q' hq;cases h;exact .ref (hf _ _ hq).1 (hf _ _ hq).2
   ·cases h
 | .rr q i j s,y,h=>by
   unfold renX at h;split at h
   ·rename_i q' hq;cases h;exact .ref (hf _ _ hq).1 (hf _ _ hq).2
   ·cases h
 | .agg xs,y,h=>by
   unfold renX at h;split at h
   ·rename_i ys hy;cases h;exact .agg' (renL_ok hf xs ys hy)
   ·cases h
 | .tup xs,y,h=>by
   unfold renX at h;split at h
   ·rename_i ys hy;cases h;exact .tup' (renL_ok hf xs ys hy)
   ·cases h
 | .fn g xs,y,h=>by
   unfold renX at h;split at h
   ·rename_i ys hy;cases h;exact .fn' (renL_ok hf xs ys hy)
   ·cases h
 | .e τ x,y,h=>by
   unfold renX at h;cases h;unfold X.D;split
   ·exact .t rfl
   ·exact .any
 | .nilS,y,h=>by unfold renX at h;cases h;exact .t rfl
 | .pt τ x j,y,h=>by unfold renX at h;cases h;exact .ptr
 | .v w,y,h=>by unfold renX at h;cases h;exact .t rfl
 | .bit j q,y,h=>by unfold renX at h;cases h
 | .cnd k c x,y,h=>by unfold renX at h;cases h
 | .sub _ _,y,h=>by unfold renX at h;cases h
 | .sref _ _ _,y,h=>by unfold renX at h;cases h
 | .vw _ _ _ _,y,h=>by unfold renX at h;cases h
 | .via k j,y,h=>by
   unfold renX at h;split at h
   ·rename_i q' hq;cases h;exact .via (hf _ _ hq).1 (hf _ _ hq).2
   ·cases h
 | .ifc k j,y,h=>by
   unfold renX at h;split at h
   ·rename_i q' hq;cases h;exact .via (hf _ _ hq).1 (hf _ _ hq).2
   ·cases h
 | .ag τ l,y,h=>by
   unfold renX at h;cases h;unfold X.D;exact DLe.trees _
 | .pan _,y,h=>by unfold renX at h;cases h
theorem renL_ok {H:Nat->Option AObj} {nm':Nat->Bool} {ρ:Nat->Nat} {f:Nat->Option Nat} (hf:∀ k k',f k=some k'->nm' k'=true/\k=ρ k'):∀ (xs ys:List X),renL f xs=some ys->DLeL false H nm' ρ (Ds xs) (Ds ys)
 | [],ys,h=>by unfold renL at h;cases h;exact .nil
 | x::l,ys,h=>by
   unfold renL at h;split at h
   ·rename_i y hy
    split at h
    ·rename_i r hr
     cases h;exact .cons (renX_ok hf x y hy) (renL_ok hf l r hr)
    ·cases h
   ·cases h
end
theorem renO_ok {H:Nat->Option AObj} {nm':Nat->Bool} {ρ:Nat->Nat} {f:Nat->Option Nat} (hf:∀ k k',f k=some k'->nm' k'=true/\k=ρ k') {o o':XO} (h:renO f o=some o'):OLe false H nm' ρ o.A o'.A:=by
 cases o with
 | box e xs=>
   simp only [renO] at h;split at h
   ·rename_i ys hy
    cases h;have:=renL_ok (H:=H) hf xs ys hy;rw [Ds_map,Ds_map] at this;exact .box' this
   ·cases h
 | row e τ l st=>simp only [renO] at h;cases h;exact .row rfl rfl
 | arr e τ l=>
   simp only [renO] at h;cases h;refine .box rfl fun i d d' h1 h2=>?_
   rw [h1] at h2;cases h2;obtain ⟨t,_,rfl⟩:=List.mem_map.1 (List.mem_of_getElem? h1);exact .t rfl
 | nest e e' τ l=>simp only [renO] at h;cases h;exact .nest rfl
 | nst e e' κ ρ' l ln=>
   have key:∀ c ∈ List.flatMap (cellsN (κ:=κ) (ρ:=ρ')) l,NLe false H nm' ρ c c:=fun c hc=>by
    rcases cellsN_all l c hc with ⟨n,ts,rfl⟩ | ⟨t,rfl⟩
    ·exact .inn
    ·exact .d (.t rfl)
   simp only [renO] at h;split at h
   ·cases h
    exact .nst rfl (fun i c c' h h'=>by
     have e:=Option.some.inj (h.symm.trans h');subst e;exact key c (List.mem_iff_getElem?.2 ⟨i,h⟩))
   ·rename_i i q
    split at h
    ·rename_i q' hq
     cases h;refine .nst (by rw [lentN_len,lentN_len]) (fun j c c' h h'=>?_);unfold lentN at h h';by_cases hj:i.toNat * (1+ρ'.size)=j
     ·subst hj
      have hlt:=(List.getElem?_eq_some_iff.1 h).1;rw [List.length_set] at hlt;rw [List.getElem?_set_self hlt] at h h';cases h;cases h';exact .d (renX_ok (H:=H) hf (.own q) (.own q') (by unfold renX;rw [hq]))
     ·rw [List.getElem?_set_ne hj] at h h'
      have e:=Option.some.inj (h.symm.trans h');subst e;exact key c (List.mem_iff_getElem?.2 ⟨j,h⟩)
    ·cases h
 | it s pos=>
   simp only [renO] at h;cases h;exact .it
 | mp τ l=>
   simp only [renO] at h;split at h
   ·rename_i r hr
    cases h;have key:∀ (l r:List (τ.V×X)),renM f l=some r->l.length=r.length/\∀ (i:Nat) (p p':τ.V×X),l[i]?=some p->r[i]?=some p'->p.1=p'.1/\DLe false H nm' ρ p.2.D p'.2.D:=by
     intro l
     induction l with
     | nil=>intro r h;cases h;exact ⟨rfl,fun i p p' h=>by simp at h⟩
     | cons a l ih=>
       intro r h;obtain ⟨k,x⟩:=a;unfold renM at h;split at h
       ·rename_i y hy
        split at h
        ·rename_i r' hr'
         cases h;obtain ⟨h1,h2⟩:=ih r' hr';refine ⟨by simp [h1],fun i p p' hp hp'=>?_⟩;cases i with
         | zero=>simp at hp hp';subst hp hp';exact ⟨rfl,renX_ok hf _ _ hy⟩
         | succ i=>exact h2 i p p' (by simpa using hp) (by simpa using hp')
        ·cases h
       ·cases h
    obtain ⟨h1,h2⟩:=key l r hr;refine .mp (by simp [h1]) (fun i p p' hp hp'=>?_);rw [List.getElem?_map] at hp hp';obtain ⟨a,ha,rfl⟩:=Option.map_eq_some_iff.1 hp;obtain ⟨b,hb,rfl⟩:=Option.map_eq_some_iff.1 hp';obtain ⟨e1,e2⟩:=h2 i a b ha hb;exact ⟨by rw [e1],e2⟩
   ·cases h
theorem renT_ok {f:Nat->Option Nat}:∀ (T T':XT),renT f T=some T'->∀ t y,lk t T'=some y->∃ x,lk t T=some x/\renX f x=some y
 | [],T',h,t,y,ht=>by cases h;cases ht
 | (t0,x0)::l,T',h,t,y,ht=>by
   unfold renT at h;split at h
   ·rename_i y0 hy
    split at h
    ·rename_i r hr
     cases h;unfold lk at ht ⊢;split at ht
     ·cases ht;exact ⟨x0,rfl,hy⟩
     ·exact renT_ok l r hr t y ht
    ·cases h
   ·cases h
theorem renH_ok {f:Nat->Option Nat} {H:Nat->Option XO}:∀ (al:List (Nat×Nat)) (H':XH),renH f H al=some H'->∀ k o',lk k H'=some o'->∃ q o,lk k al=some q/\H q=some o/\renO f o=some o'
 | [],H',h,k,o',hk=>by cases h;cases hk
 | (new,q)::l,H',h,k,o',hk=>by
   unfold renH at h;split at h
   ·rename_i o ho
    split at h
    ·rename_i o1 h1
     split at h
     ·rename_i r hr
      cases h;unfold lk at hk ⊢;split at hk
      ·cases hk;exact ⟨q,o,rfl,ho,h1⟩
      ·exact renH_ok l r hr k o' hk
     ·cases h
    ·cases h
   ·cases h
theorem old_mem {k new:Nat}:∀ {rn:List (Nat×Nat)},old rn k=some new->(new,k) ∈ rn
 | [],h=>by cases h
 | (n,o)::l,h=>by
   unfold old at h;split at h
   ·rename_i he
    have he:=Nat.eq_of_beq_eq_true he;subst he;cases h;exact List.mem_cons_self ..
   ·exact List.mem_cons_of_mem _ (old_mem h)
theorem lk_mem {α:Type} {k:Nat} {x:α} {l:List (Nat×α)} (h:lk k l=some x):(k,x) ∈ l:=look_mem (by rw [← lk_eq];exact h)
theorem nodupB_ok:∀ {l:List Nat},nodupB l=true->l.Nodup
 | [],_=>List.nodup_nil
 | k::l,h=>by
   unfold nodupB at h;split at h
   ·cases h
   ·rename_i hc
    exact List.nodup_cons.2 ⟨(fun hm=>by rw [List.contains_iff_mem.2 hm] at hc;cases hc),nodupB_ok h⟩
structure RnF (rn al:List (Nat×Nat)) (lo hi:Nat):Prop where
 ren:∀ new q,(new,q) ∈ rn->lo<=new/\new < hi/\isH new=false/\rnm rn new=q
 nd:(al.map (·.2)).Nodup
 al:∀ k q,lk k al=some q->rnm rn k=q/\(isH k=true\/∃ q',(k,q') ∈ rn)
theorem rnm_lk {rn:List (Nat×Nat)} {k q:Nat} (h:lk k rn=some q):rnm rn k=q:=by
 unfold rnm;rw [← lk_eq,h]
theorem isH_iff {k:Nat}:isH k=true ↔ 50<=k/\k < 100:=by
 unfold isH;rw [Bool.and_eq_true];exact ⟨fun ⟨a,b⟩=>⟨Nat.le_of_ble_eq_true a,Nat.le_of_ble_eq_true b⟩,fun ⟨a,b⟩=>⟨Nat.ble_eq_true_of_le a,Nat.ble_eq_true_of_le b⟩⟩
theorem rnOk_ok {rn al:List (Nat×Nat)} {lo hi:Nat} (h:rnOk rn al lo hi=true):RnF rn al lo hi:=by
 unfold rnOk at h;simp only [Bool.and_eq_true] at h;obtain ⟨⟨h1,h2⟩,h3⟩:=h;have hlk:∀ {p:Nat×Nat},(match lk p.1 rn with | some q=>Nat.beq q p.2 | none=>false)=true->lk p.1 rn=some p.2:=fun {p} h=>by
  split at h
  ·rename_i q hq;rw [hq,Nat.eq_of_beq_eq_true h]
  ·cases h
 have h1':∀ p ∈ rn,lo<=p.1/\p.1 < hi/\isH p.1=false/\lk p.1 rn=some p.2:=fun p hp=>by
  have:=List.all_eq_true.1 h1 p hp;simp only [Bool.and_eq_true,Bool.not_eq_true'] at this;obtain ⟨⟨⟨a,b⟩,c⟩,d⟩:=this;exact ⟨Nat.le_of_ble_eq_true a,Nat.le_of_ble_eq_true b,c,hlk d⟩
 refine ⟨fun new q hm=>?_,nodupB_ok h2,fun k q hk=>?_⟩
 ·obtain ⟨a,b,c,d⟩:=h1' _ hm
  exact ⟨a,b,c,rnm_lk d⟩
 ·have:=List.all_eq_true.1 h3 _ (lk_mem hk)
  simp only [Bool.or_eq_true,Bool.and_eq_true] at this;rcases this with ⟨a,b⟩ | c
  ·have hb:=Nat.eq_of_beq_eq_true b
   have hkH:=isH_iff.1 a;refine ⟨?_,.inl a⟩;rw [← hb];unfold rnm;cases hl:Ab.look k rn with
   | none=>rfl
   | some z=>
     have:=(h1' _ (look_mem hl)).2.2.1;simp only at this;rw [a] at this;cases this
  ·have:=hlk (p:=(k,q)) c
   exact ⟨rnm_lk this,.inr ⟨_,lk_mem this⟩⟩
theorem RnF.f {rn al:List (Nat×Nat)} {lo hi:Nat} (F:RnF rn al lo hi) (hhi:hi<=100):∀ k k',oldH rn k=some k'->decide (k' < 100)=true/\k=rnm rn k':=fun k k' h=>by
 unfold oldH at h;split at h
 ·rename_i hH
  cases h;refine ⟨decide_eq_true (isH_iff.1 hH).2,?_⟩;unfold rnm;cases hl:Ab.look k rn with
  | none=>rfl
  | some z=>
    have:=(F.ren _ _ (look_mem hl)).2.2.1;rw [hH] at this;cases this
 ·obtain ⟨a,b,c,d⟩:=F.ren _ _ (old_mem h)
  exact ⟨decide_eq_true (by omega),d.symm⟩
theorem nodup_snd {al:List (Nat×Nat)} (h:(al.map (·.2)).Nodup):∀ {a b q:Nat},(a,q) ∈ al->(b,q) ∈ al->a=b:=by
 induction al with
 | nil=>intro a b q ha;cases ha
 | cons p l ih=>
   intro a b q ha hb;rw [List.map_cons,List.nodup_cons] at h;rcases List.mem_cons.1 ha with e1 | h1
   ·rcases List.mem_cons.1 hb with e2 | h2
    ·rw [← e1] at e2;cases e2;rfl
    ·exact absurd (List.mem_map.2 ⟨_,h2,by rw [← e1]⟩) h.1
   ·rcases List.mem_cons.1 hb with e2 | h2
    ·exact absurd (List.mem_map.2 ⟨_,h1,by rw [← e2]⟩) h.1
    ·exact ih h.2 h1 h2
theorem ent_fn {E:Env} {T T':Nat->Option D} {H H':Nat->Option AObj} {N N':Nat} (ρ:Nat->Nat) (hT:∀ t d',T' t=some d'->∃ d,T t=some d/\DLe false H (fun k=>decide (k < N')) ρ d d')
    (hH:∀ k o',H' k=some o'->k < N'/\∃ o,H (ρ k)=some o/\OLe false H (fun k=>decide (k < N')) ρ o o') (hinj:∀ k k' o o',H' k=some o->H' k'=some o'->ρ k=ρ k'->k=k') (hid:∀ k,50<=k->k < 100->ρ k=k):Ent E (mk T H N) (mk T' H' N'):=by
 intro tm w ⟨ν,G,I⟩;have hρ:∀ k',decide (k' < N')=true->(mk T H N).nm (ρ k')=true->(fun k=>ν (ρ k)) k'=ν (ρ k'):=fun _ _ _=>rfl
 refine ⟨fun k=>ν (ρ k),G,I.kept,I.keep,fun k h1 h2=>?_,I.g0,I.sz,fun t d' h=>?_,fun k o' h=>?_,fun k o k' o' h h' hne g hg=>?_⟩
 ·show ν (ρ k)=_
  rw [hid k h1 h2];exact I.pin k h1 h2
 ·obtain ⟨d,hd,hle⟩:=hT t d' h
  obtain ⟨v,hv,hvd⟩:=I.T t d hd;exact ⟨v,hv,hle.rel (fun _ _ _ h=>h) I.rows hρ hvd⟩
 ·obtain ⟨hk,o,ho,hle⟩:=hH k o' h
  exact ⟨decide_eq_true hk,(I.H _ o ho).2.view hle I.rows hρ rfl (fun _ _ h=>h)⟩
 ·obtain ⟨_,o1,h1,l1⟩:=hH k o h
  obtain ⟨_,o2,h2,l2⟩:=hH k' o' h';exact fun hg'=>I.dis _ o1 _ o2 h1 h2 (fun e=>hne (hinj k k' o o' h h' e)) g (l1.ft.1 hg) (l2.ft.1 hg')
theorem normX_ok {nm:Nm} {σ:Sg} {k:Sg->O} {r:Res} (h:normX nm σ k=some r) (hN:100<=σ.N):∃ σ',k σ'=some r/\σ'.N=100/\∀ E,Ent E (denS σ) (denS σ'):=by
 unfold normX at h;obtain ⟨σ2,h,hN2,hE2⟩:=mvX_ok _ _ _ _ h;obtain ⟨T1,hp,h⟩:=ob_some h;simp only at h;split at h
 case h_2=>cases h
 rename_i hrn;have F:=rnOk_ok hrn;obtain ⟨T2,hT2,h⟩:=ob_some h;obtain ⟨H2,hH2,h⟩:=ob_some h;refine ⟨_,h,rfl,fun E=>(Ent.trans' (hE2 hN E) (Ent.trans' (b:=mk (fun t=>(lk t T1).map X.D) (fun k=>(lk k σ2.H).map XO.A) σ2.N) (ent_T fun t d' ht=>?_) ?_))⟩
 ·obtain ⟨x',hx',rfl⟩:=Option.map_eq_some_iff.1 ht
  obtain ⟨x,e1,e2⟩:=pickT_ok _ _ hp t x' hx';exact ⟨x.D,by rw [e1];rfl,e2⟩
 ·have hf:=F.f (by omega)
  refine ent_fn (rnm (numb' 0 (reach σ2.vw.H 60 (namesT T1 (handed σ2.H)) []))) (fun t d' ht=>?_) (fun k o' hk=>?_) (fun k k' o o' h1 h2 e=>?_) (fun k h1 h2=>?_)
  ·obtain ⟨y,hy,rfl⟩:=Option.map_eq_some_iff.1 ht
   obtain ⟨x,e1,e2⟩:=renT_ok _ _ hT2 t y hy;exact ⟨x.D,by rw [e1];rfl,renX_ok hf x y e2⟩
  ·obtain ⟨y,hy,rfl⟩:=Option.map_eq_some_iff.1 hk
   obtain ⟨q,o,e1,e2,e3⟩:=renH_ok _ _ hH2 k y hy;obtain ⟨a1,a2⟩:=F.al k q e1;refine ⟨?_,o.A,by rw [a1];exact congrArg (Option.map XO.A) e2,renO_ok hf e3⟩;rcases a2 with a2 | ⟨q',a2⟩
   ·exact (isH_iff.1 a2).2
   ·have:=(F.ren _ _ a2).2.1;show k < 100;omega
  ·obtain ⟨y1,hy1,rfl⟩:=Option.map_eq_some_iff.1 h1
   obtain ⟨y2,hy2,rfl⟩:=Option.map_eq_some_iff.1 h2;obtain ⟨q1,_,e1,_,_⟩:=renH_ok _ _ hH2 k y1 hy1;obtain ⟨q2,_,e2,_,_⟩:=renH_ok _ _ hH2 k' y2 hy2;rw [(F.al k q1 e1).1,(F.al k' q2 e2).1] at e;subst e;exact nodup_snd F.nd (lk_mem e1) (lk_mem e2)
  ·unfold rnm
   cases hl:Ab.look k _ with
   | none=>rfl
   | some z=>
     have:=(F.ren _ _ (look_mem hl)).2.2.1;rw [isH_iff.2 ⟨h1,h2⟩] at this;cases this
end Go.Ax
/- Code, loops, functions. -/
namespace Go.Ax
open Alg
open Go.RowKit Go.Ab
def Runs (c:Cx) (M:Nat) (code:Code) (σ:Sg) (Post:Exit->Sg->Prop):Prop:=∀ E:Env,E.m=M->AWp c.P E code (fun e s=>∃ σ',Post e σ'/\Ent E s (denS σ')) (denS σ)
def SubOk (c:Cx) (M:Nat) (code:Code) {Y1 Y2 Y3:Type} (I1:Y1->Exit×Sg) (I2:Y2->Exit×Sg) (I3:Y3->Exit×Sg) (L:Sg->(Y1->O)->(Y2->O)->(Y3->O)->O):Prop:=∀ σ k1 k2 k3 r,L σ k1 k2 k3=some r->σ.N=100->
 Runs c M code σ fun e σ'=>100<=σ'.N/\((∃ y,k1 y=some r/\I1 y=(e,σ'))\/(∃ y,k2 y=some r/\I2 y=(e,σ'))\/∃ y,k3 y=some r/\I3 y=(e,σ'))
def HintOk (c:Cx) (M:Nat) (h:Hint) (code:Code):Prop:=match h with
 | .sub _ _ _ _ I1 I2 I3 L=>SubOk c M code I1 I2 I3 L
 | h=>match code with
   | .seq a b=>HintOk c M (match h with | .seq x _=>x | _=>.d) a/\HintOk c M (match h with | .seq _ y=>y | _=>.d) b
   | .cond _ a b=>HintOk c M (match h with | .cond x _=>x | _=>.d) a/\HintOk c M (match h with | .cond _ y=>y | _=>.d) b
   | .block _ a=>HintOk c M (match h with | .block x=>x | _=>.d) a
   | .scope a=>HintOk c M (match h with | .block x=>x | _=>.d) a
   | _=>True
termination_by structural code
theorem hk_d {c:Cx} {M:Nat}:∀ code:Code,HintOk c M .d code
 | .skip=>trivial
 | .region ..=>trivial
 | .seq a b=>⟨hk_d a,hk_d b⟩
 | .cond _ a b=>⟨hk_d a,hk_d b⟩
 | .block _ a=>hk_d a
 | .loop _=>trivial
 | .rangeFunc ..=>trivial
 | .exit _=>trivial
 | .scope a=>hk_d a
 | .label _=>trivial
 | .goto _=>trivial
 | .ret=>trivial
 | .refuse _=>trivial
theorem denS_le {σ:Sg} {s:St} (h:LeX σ.T σ.H s) {E:Env}:Ent E (mk s.T s.H σ.N) (denS σ):=ent_sub (fun t d ht=>by
    obtain ⟨x,hx,rfl⟩:=Option.map_eq_some_iff.1 ht;exact h.T t x hx) (fun k o hk=>by
    obtain ⟨x,hx,rfl⟩:=Option.map_eq_some_iff.1 hk;exact h.H k x hx)
theorem LeX.den (σ:Sg):LeX σ.T σ.H (denS σ):=⟨fun t x h=>by show (lk t σ.T).map X.D=_;rw [h];rfl,fun k o h=>by show (lk k σ.H).map XO.A=_;rw [h];rfl⟩
theorem dstB_ok {M:Nat}:∀ {l:List Oper},dstB M l=true->(l.all fun o=>match o.dst with | none=>true | some t=>decide (t < M))=true
 | [],_=>rfl
 | o::l,h=>by
   unfold dstB at h;rw [List.all_cons,Bool.and_eq_true];split at h
   ·rename_i t ht
    split at h
    ·rename_i hb
     exact ⟨by rw [ht];exact decide_eq_true (Nat.le_of_ble_eq_true hb),dstB_ok h⟩
    ·cases h
   ·rename_i ht
    exact ⟨by rw [ht],dstB_ok h⟩
theorem u8_D (n:Int) (h:0<=n/\n < 256):(X.e .u8 (UInt8.ofNat n.toNat)).D = .t (.v (.int .u8 n)):=by
 have:((UInt8.ofNat n.toNat).toNat:Int)=n:=by
  rw [UInt8.toNat_ofNat'];omega
 show D.t (.v (.int .u8 ((UInt8.ofNat n.toNat).toNat:Int)))=_;rw [this]
theorem ofVX_ev {σ:Sg} {w:Value} {x:X} (h:ofVX w=some x):(denS σ).ev (.const w)=some x.D:=by
 have h1:∀ v:Value,(∀ vs,v ≠ .tuple vs)->(∀ cs,v ≠ .agg cs)->(ofV1 v).D = .t (.v v):=fun v h1 h2=>by
  unfold ofV1;split
  ·split
   ·exact u8_D _ (of_decide_eq_true ‹_›)
   ·rfl
  ·rfl
  ·rfl
  ·rfl
  ·rfl
  ·rfl
 unfold ofVX at h;unfold St.ev;split at h
 ·rename_i cs
  split at h
  ·rename_i ha
   cases h;show (if constOk (.agg cs)=true then some (ofVal (.agg cs)) else none)=_;rw [if_pos (show constOk (.agg cs)=true from ha)];simp only [ofVal,X.D,Ds_map,List.map_map]
   congr 2
   refine List.map_congr_left fun v hv=>(h1 v (fun vs e=>?_) (fun cs' e=>?_)).symm
   ·have:=List.all_eq_true.1 ha v hv;rw [e] at this;cases this
   ·have:=List.all_eq_true.1 ha v hv;rw [e] at this;cases this
  ·cases h
 ·cases h
 ·rename_i h2 h3
  cases h;rw [h1 w (fun vs e=>h3 vs e) (fun cs e=>h2 cs e)];cases w with
  | agg cs=>exact absurd rfl (h2 cs)
  | tuple vs=>exact absurd rfl (h3 vs)
  | _=>rfl
theorem ev_D {σ:Sg} {x:Operand} {v:X} (h:σ.vw.ev x=some v):(denS σ).ev x=some v.D:=by
 cases x with
 | tmp t=>
   simp only [Vw.ev,Sg.vw] at h;split at h
   ·rename_i y hy
    have e:(denS σ).ev (.tmp t)=some y.D:=by show (lk t σ.T).map X.D=_;rw [hy];rfl
    rw [e];unfold unC at h;split at h
    ·cases h;rfl
    ·cases h
    ·cases h;rfl
   ·cases h
 | const w=>exact ofVX_ev h
 | func f=>simp only [Vw.ev] at h;cases h;rfl
 | global g=>simp only [Vw.ev] at h;cases h;exact congrArg some (glob_D g).symm
structure CxOk (c:Cx):Prop where
 mix:c.P.follows .mixedOrders=true
 step:StepX c
 pan:PanOk c
theorem kk_some {k:Exit->Sg->O} {e:Exit} {σ:Sg} {r:Res} (h:kk k (e,σ)=some r):k e σ=some r:=by
 unfold kk at h;split at h
 ·cases h
 ·exact h
theorem exec_ok {c:Cx} (hc:CxOk c) {M:Nat}:∀ (code:Code) (h:Hint) (σ:Sg) (k:Exit->Sg->O) (r:Res),exec c M h code σ k=some r->HintOk c M h code->100<=σ.N->Runs c M code σ fun e σ'=>100<=σ'.N/\k e σ'=some r:=by
 have sub:∀ (code:Code) nm (Y1 Y2 Y3:Type) (I1:Y1->Exit×Sg) (I2:Y2->Exit×Sg) (I3:Y3->Exit×Sg) (L:Sg->(Y1->O)->(Y2->O)->(Y3->O)->O) (σ:Sg) (k:Exit->Sg->O) (r:Res),
     normX nm σ (fun σ'=>L σ' (fun y=>kk k (I1 y)) (fun y=>kk k (I2 y)) (fun y=>kk k (I3 y)))=some r->SubOk c M code I1 I2 I3 L->100<=σ.N->Runs c M code σ fun e σ'=>100<=σ'.N/\k e σ'=some r:=by
  intro code nm Y1 Y2 Y3 I1 I2 I3 L σ k r h hs hN E hE;obtain ⟨σ1,h1,h2,h3⟩:=normX_ok h hN;refine aw_ent (h3 E) (aw_mono (hs σ1 _ _ _ r h1 h2 E hE) ?_);rintro e s ⟨σ',⟨hN',hy⟩,hent⟩;refine ⟨σ',⟨hN',?_⟩,hent⟩;rcases hy with ⟨y,a,b⟩ | ⟨y,a,b⟩ | ⟨y,a,b⟩
  ·rw [b] at a;exact kk_some a
  ·rw [b] at a;exact kk_some a
  ·rw [b] at a;exact kk_some a
 intro code
 induction code with
 | skip=>
   intro h σ k r he hh hN;cases h with
   | sub=>exact sub _ _ _ _ _ _ _ _ _ _ _ _ he hh hN
   | _=>exact fun E hE=>aw_skip ⟨σ,⟨hN,he⟩,Ent.refl'⟩
 | label l=>
   intro h σ k r he hh hN;cases h with
   | sub=>exact sub _ _ _ _ _ _ _ _ _ _ _ _ he hh hN
   | _=>exact fun E hE=>aw_label ⟨σ,⟨hN,he⟩,Ent.refl'⟩
 | exit id=>
   intro h σ k r he hh hN;cases h with
   | sub=>exact sub _ _ _ _ _ _ _ _ _ _ _ _ he hh hN
   | _=>exact fun E hE=>aw_exit ⟨σ,⟨hN,he⟩,Ent.refl'⟩
 | ret=>
   intro h σ k r he hh hN;cases h with
   | sub=>exact sub _ _ _ _ _ _ _ _ _ _ _ _ he hh hN
   | _=>exact fun E hE=>aw_ret ⟨σ,⟨hN,he⟩,Ent.refl'⟩
 | loop a _=>
   intro h σ k r he hh hN;cases h with
   | sub=>exact sub _ _ _ _ _ _ _ _ _ _ _ _ he hh hN
   | _=>cases he
 | goto l=>
   intro h σ k r he hh hN;cases h with
   | sub=>exact sub _ _ _ _ _ _ _ _ _ _ _ _ he hh hN
   | _=>cases he
 | scope a ih=>
   intro h σ k r he hh hN;have go:∀ x:Hint,HintOk c M x a->exec c M x a σ (fun e σ'=>match e with
    | .goto _=>none
    | e=>k e σ')=some r->Runs c M (.scope a) σ fun e σ'=>100<=σ'.N/\k e σ'=some r:=fun x hx hex E hE=>by
    refine aw_scope (aw_mono (ih x σ _ r hex hx hN E hE) ?_);rintro e s ⟨σ',⟨hN',hk⟩,hent⟩;cases e with
    | goto l=>cases hk
    | _=>exact ⟨σ',⟨hN',hk⟩,hent⟩
   cases h with
   | sub=>exact sub _ _ _ _ _ _ _ _ _ _ _ _ he hh hN
   | block x=>exact go x hh he
   | _=>exact go .d hh he
 | refuse a=>
   intro h σ k r he hh hN;cases h with
   | sub=>exact sub _ _ _ _ _ _ _ _ _ _ _ _ he hh hN
   | _=>cases he
 | rangeFunc a b x y _ _=>
   intro h σ k r he hh hN;cases h with
   | sub=>exact sub _ _ _ _ _ _ _ _ _ _ _ _ he hh hN
   | _=>cases he
 | block id a ih=>
   intro h σ k r he hh hN;have go:∀ x:Hint,HintOk c M x a->exec c M x a σ (fun e σ'=>match e with
    | .exit id'=>match Nat.beq id' id with | true=>k .normal σ' | false=>k (.exit id') σ'
    | e=>k e σ')=some r->Runs c M (.block id a) σ fun e σ'=>100<=σ'.N/\k e σ'=some r:=fun x hx hex E hE=>by
    refine aw_block (aw_mono (ih x σ _ r hex hx hN E hE) ?_);rintro e s ⟨σ',⟨hN',hk⟩,hent⟩;cases e with
    | exit id'=>
      simp only [BlockQ];simp only at hk;split at hk
      ·rename_i hb
       rw [if_pos (Nat.eq_of_beq_eq_true hb)];exact ⟨σ',⟨hN',hk⟩,hent⟩
      ·rename_i hb
       rw [if_neg (beq_ne hb)];exact ⟨σ',⟨hN',hk⟩,hent⟩
    | _=>exact ⟨σ',⟨hN',hk⟩,hent⟩
   cases h with
   | sub=>exact sub _ _ _ _ _ _ _ _ _ _ _ _ he hh hN
   | block x=>exact go x hh he
   | _=>exact go .d hh he
 | cond z a b iha ihb=>
   intro h σ k r he hh hN;have go:∀ x y:Hint,HintOk c M x a->HintOk c M y b->(ob (σ.vw.ev z) fun v=>match v with
    | .e .bo q=>br q (exec c M x a σ k) (exec c M y b σ k)
    | _=>none)=some r->Runs c M (.cond z a b) σ fun e σ'=>100<=σ'.N/\k e σ'=some r:=fun x y hx hy hex E hE=>by
    obtain ⟨v,hv,hex⟩:=ob_some hex;split at hex
    case h_2=>cases hex
    rename_i q;have hev:=ev_D hv;refine aw_cond (b:=q) hev (fun hq=>?_) (fun hq=>?_)
    ·subst hq;exact iha x σ k r hex hx hN E hE
    ·subst hq;exact ihb y σ k r hex hy hN E hE
   cases h with
   | sub=>exact sub _ _ _ _ _ _ _ _ _ _ _ _ he hh hN
   | cond x y=>exact go x y hh.1 hh.2 he
   | _=>exact go .d .d hh.1 hh.2 he
 | seq a b iha ihb=>
   intro h σ k r he hh hN;have go:∀ x y:Hint,HintOk c M x a->HintOk c M y b->exec c M x a σ (fun e σ'=>match e with
    | .normal=>exec c M y b σ' k
    | e=>k e σ')=some r->Runs c M (.seq a b) σ fun e σ'=>100<=σ'.N/\k e σ'=some r:=fun x y hx hy hex E hE=>by
    refine aw_seq (aw_mono (iha x σ _ r hex hx hN E hE) ?_);rintro e s ⟨σ',⟨hN',hk⟩,hent⟩;cases e with
    | normal=>exact aw_ent hent (ihb y σ' k r hk hy hN' E hE)
    | _=>exact ⟨σ',⟨hN',hk⟩,hent⟩
   cases h with
   | sub=>exact sub _ _ _ _ _ _ _ _ _ _ _ _ he hh hN
   | seq x y=>exact go x y hh.1 hh.2 he
   | _=>exact go .d .d hh.1 hh.2 he
 | region id ops draw=>
   intro h σ k r he hh hN;have go:∀ (stF:List Nat) (sl:List Mv) (kl:List (List Nat)),regionX c M stF sl kl ops draw σ k=some r->Runs c M (.region id ops draw) σ fun e σ'=>100<=σ'.N/\k e σ'=some r:=fun stF sl kl hex E hE=>by
    unfold regionX at hex;obtain ⟨σ1,hex,hN1,hent⟩:=mvX_ok _ _ _ _ hex
    dsimp only at hex
    refine aw_ent (hent hN E) ?_;have hN':100<=σ1.N:=hN1 hN;clear hent;split at hex
    ·cases hex
    rename_i hpl;obtain ⟨l⟩:=ops;simp only at hex;split at hex
    ·split at hex
     case h_2=>cases hex
     rename_i hd;obtain ⟨ex,σ2,e1,e2,e3,e4⟩:=regX_ok hc.step hc.pan l 0 σ1 _ r (denS σ1) (fun _=>false) hex (LeX.den σ1) (fun t x ht=>pl_good (plB_get hpl t x ht));refine aw_region (σ1.N+8 * l.length) hE hN' rfl (dstB_ok hd) ?_;have:∀ (Post Post':Exit->St->Prop) (hp:∀ e s,Post e s->Post' e s) (ops:Array Oper) (l:List Oper) (fr:Nat) (s:St),SeqGo c.P ops Post l fr s->SeqGo c.P ops Post' l fr s:=by
      intro Post Post' hp ops l
      induction l with
      | nil=>intro fr s h;exact hp _ s h
      | cons o l ih=>
        intro fr s h;rcases h with ⟨d,W,h1,h2⟩ | ⟨ι,C,d,W,h0,h1,h2⟩ | ⟨v,W,h0,h1,h2⟩
        ·exact .inl ⟨d,W,h1,ih _ _ h2⟩
        ·exact .inr (.inl ⟨ι,C,d,W,h0,h1,fun i hi=>ih _ _ (h2 i hi)⟩)
        ·exact .inr (.inr ⟨v,W,h0,h1,hp _ _ h2⟩)
     refine this _ _ (fun e' s hs=>?_) _ _ _ _ e4;obtain ⟨rfl,hs⟩:=hs;refine ⟨σ2,⟨by rw [e2];omega,e1⟩,?_⟩;rw [← e2];exact denS_le hs
    ·split at hex
     case h_2=>cases hex
     rename_i ha;have e3:=drX_ok (ops:=l.toArray) (pre:=preOf l []) (kl:=kl) (fr:=σ1.N) hc.step hc.pan (s:=denS σ1) (LeX.den σ1).T (LeX.den σ1).H (fun t x ht=>plB_get hpl t x ht) (LeX.den σ1).H (n:=l.length) l 0 [] _ r (fun _=>false) hex rfl (by simp) (fun p hp=>by cases hp);refine aw_drawnP (preOf l []) kl hc.mix hE hN' ha ?_;have:∀ (Post Post':Exit->St->Prop) (hp:∀ e s,Post e s->Post' e s) (ops:Array Oper) (pre kl:List (List Nat)) (fr:Nat) (s:St) (l:List Oper) (i:Nat) (rs:Rs),AnyGoP c.P ops pre kl fr s Post l i rs->AnyGoP c.P ops pre kl fr s Post' l i rs:=by
      intro Post Post' hp ops pre kl fr s l
      induction l with
      | nil=>intro i rs h;exact hp _ _ h
      | cons o l ih=>
        intro i rs h;rcases h with ⟨d,W,h1,h2,h3⟩ | ⟨v,W,h1,h2,h3,h4,h5⟩
        ·exact .inl ⟨d,W,h1,h2,ih _ _ h3⟩
        ·exact .inr ⟨v,W,h1,h2,h3,h4,hp _ _ h5⟩
     refine this _ _ (fun e' s hs=>?_) _ _ _ _ _ _ _ _ e3;rcases hs with ⟨rfl,rs,e1,e2,rfl⟩ | ⟨σ',e1,e2,e3⟩
     ·obtain ⟨T2,H2,e4,e5⟩:=foldRx_some (ops:=l.toArray) (fr:=σ1.N) l 0 rs σ1.T σ1.H _ r (denS σ1) (fun q o ho=>by rw [Nat.zero_add];simp [Region.dstOf,ho]) (by omega) e1 (LeX.den σ1)
      obtain ⟨T3,e6,e7,e8⟩:=plainT_some e4;refine ⟨⟨T3,H2,σ1.N+8 * l.length⟩,⟨by show 100<=σ1.N+8 * l.length;omega,e6⟩,?_⟩;exact denS_le (σ:=⟨T3,H2,σ1.N+8 * l.length⟩) (e5.T' e7)
     ·have e2':σ'.N=σ1.N+8 * l.length:=by rw [e2];simp
      refine ⟨σ',⟨by omega,e1⟩,?_⟩;rw [← e2'];exact denS_le e3
   cases h with
   | sub=>exact sub _ _ _ _ _ _ _ _ _ _ _ _ he hh hN
   | reg a b d=>exact go a b d he
   | _=>exact go [] [] [] he
end Go.Ax
/- Loops and parts of the code as declarations of their own; functions. -/
namespace Go.Ax
open Alg
open Go.RowKit Go.Ab
theorem loopX_ok {c:Cx} (hc:CxOk c) {M:Nat} {hb:Hint} {body:Code} (hh:HintOk c M hb body) {nm:Nm} {out:List (Exit×Nm)} {n:Nat} {σ:Sg} {K:Exit->Sg->O} {r:Res} (h:loopX c M hb body nm out n σ K=some r) (hN:100<=σ.N):
    Runs c M (.loop body) σ fun e σ'=>100<=σ'.N/\K e σ'=some r:=by
 intro E hE;refine aw_loop (ι:=Nat×Sg) (fun p=>denS p.2) (fun p=>loopX c M hb body nm out p.1 p.2 K=some r/\100<=p.2.N) (fun p=>p.1) (n,σ) Ent.refl' ⟨h,hN⟩ ?_;rintro ⟨m,σ0⟩ ⟨h0,hN0⟩;simp only at h0 hN0;cases m with
 | zero=>cases h0
 | succ m=>
   unfold loopX at h0;refine aw_mono (exec_ok hc body hb σ0 _ r h0 hh hN0 E hE) ?_;rintro e s ⟨σ1,⟨hN1,h1⟩,hent⟩;cases e with
   | normal=>
     obtain ⟨σ2,e1,e2,e3⟩:=normX_ok (k:=fun σ'=>loopX c M hb body nm out m σ' K) h1 hN1;exact ⟨(m,σ2),⟨e1,by rw [e2];exact Nat.le_refl _⟩,Nat.lt_succ_self m,Ent.trans' hent (e3 E)⟩
   | _=>
     unfold roundX at h1;obtain ⟨nm',_,h1⟩:=ob_some h1;obtain ⟨σ2,e1,e2,e3⟩:=normX_ok h1 hN1;exact ⟨σ2,⟨by rw [e2];exact Nat.le_refl _,e1⟩,Ent.trans' hent (e3 E)⟩
theorem partX_ok {c:Cx} (hc:CxOk c) {M:Nat} {hb:Hint} {code:Code} (hh:HintOk c M hb code) {out:List (Exit×Nm)} {σ:Sg} {K:Exit->Sg->O} {r:Res} (h:exec c M hb code σ (partX out K)=some r) (hN:100<=σ.N):
    Runs c M code σ fun e σ'=>100<=σ'.N/\K e σ'=some r:=by
 intro E hE;refine aw_mono (exec_ok hc code hb σ _ r h hh hN E hE) ?_;rintro e s ⟨σ1,⟨hN1,h1⟩,hent⟩;unfold partX at h1;obtain ⟨nm',_,h1⟩:=ob_some h1;obtain ⟨σ2,e1,e2,e3⟩:=normX_ok h1 hN1;exact ⟨σ2,⟨by rw [e2];exact Nat.le_refl _,e1⟩,Ent.trans' hent (e3 E)⟩
section
variable {ι Y1 Y2 Y3:Type} {I:ι->Sg} {un:Sg->ι} {I1:Y1->Exit×Sg} {I2:Y2->Exit×Sg} {I3:Y3->Exit×Sg}
theorem subL_I {L:ι->(Y1->O)->(Y2->O)->(Y3->O)->O} (h:∀ x,un (I x)=x) (x:ι) (k1:Y1->O) (k2:Y2->O) (k3:Y3->O):subL I un L (I x) k1 k2 k3=L x k1 k2 k3:=by
 unfold subL;rw [if_pos (by rw [h]),h]
open Classical in
noncomputable def joinK (u1:Exit->Sg->Y1) (u2:Exit->Sg->Y2) (u3:Exit->Sg->Y3) (I1:Y1->Exit×Sg) (I2:Y2->Exit×Sg) (I3:Y3->Exit×Sg) (k1:Y1->O) (k2:Y2->O) (k3:Y3->O) (e:Exit) (σ:Sg):O:=
 if I1 (u1 e σ)=(e,σ) then k1 (u1 e σ) else if I2 (u2 e σ)=(e,σ) then k2 (u2 e σ) else if I3 (u3 e σ)=(e,σ) then k3 (u3 e σ) else none
def exC:Exit->Nat
 | .normal=>0
 | .ret=>1
 | .panic _=>2
 | .outgrown=>3
 | .exit n=>4+2 * n
 | .goto n=>5+2 * n
structure Outs (u1:Exit->Sg->Y1) (u2:Exit->Sg->Y2) (u3:Exit->Sg->Y3) (I1:Y1->Exit×Sg) (I2:Y2->Exit×Sg) (I3:Y3->Exit×Sg) (e1 e2 e3:Nat):Prop where
 h1:∀ y,u1 (I1 y).1 (I1 y).2=y
 h2:∀ y,u2 (I2 y).1 (I2 y).2=y
 h3:∀ y,u3 (I3 y).1 (I3 y).2=y
 x1:∀ y,exC (I1 y).1=e1
 x2:∀ y,exC (I2 y).1=e2
 x3:∀ y,exC (I3 y).1=e3
 n12:e1≠e2
 n13:e1≠e3
 n23:e2≠e3
theorem joinK_1 {u1:Exit->Sg->Y1} {u2:Exit->Sg->Y2} {u3:Exit->Sg->Y3} {e1 e2 e3:Nat} (h:Outs u1 u2 u3 I1 I2 I3 e1 e2 e3) (k1:Y1->O) (k2:Y2->O) (k3:Y3->O):(fun y=>joinK u1 u2 u3 I1 I2 I3 k1 k2 k3 (I1 y).1 (I1 y).2)=k1:=by
 funext y
 unfold joinK;rw [if_pos (by rw [h.h1]),h.h1]
theorem joinK_2 {u1:Exit->Sg->Y1} {u2:Exit->Sg->Y2} {u3:Exit->Sg->Y3} {e1 e2 e3:Nat} (h:Outs u1 u2 u3 I1 I2 I3 e1 e2 e3) (k1:Y1->O) (k2:Y2->O) (k3:Y3->O):(fun y=>joinK u1 u2 u3 I1 I2 I3 k1 k2 k3 (I2 y).1 (I2 y).2)=k2:=by
 funext y
 unfold joinK;rw [if_neg (fun e=>h.n12 (by have:=congrArg (fun p=>exC p.1) e;simp only [h.x1] at this;rw [this];exact h.x2 y)),if_pos (by rw [h.h2]),h.h2]
theorem joinK_3 {u1:Exit->Sg->Y1} {u2:Exit->Sg->Y2} {u3:Exit->Sg->Y3} {e1 e2 e3:Nat} (h:Outs u1 u2 u3 I1 I2 I3 e1 e2 e3) (k1:Y1->O) (k2:Y2->O) (k3:Y3->O):(fun y=>joinK u1 u2 u3 I1 I2 I3 k1 k2 k3 (I3 y).1 (I3 y).2)=k3:=by
 funext y
 unfold joinK;rw [if_neg (fun e=>h.n13 (by have:=congrArg (fun p=>exC p.1) e;simp only [h.x1] at this;rw [this];exact h.x3 y)),if_neg (fun e=>h.n23 (by have:=congrArg (fun p=>exC p.1) e;simp only [h.x2] at this;rw [this];exact h.x3 y)),if_pos (by rw [h.h3]),h.h3]
theorem joinK_back {u1:Exit->Sg->Y1} {u2:Exit->Sg->Y2} {u3:Exit->Sg->Y3} {k1:Y1->O} {k2:Y2->O} {k3:Y3->O} {e:Exit} {σ:Sg} {r:Res} (h:joinK u1 u2 u3 I1 I2 I3 k1 k2 k3 e σ=some r):
    (∃ y,k1 y=some r/\I1 y=(e,σ))\/(∃ y,k2 y=some r/\I2 y=(e,σ))\/∃ y,k3 y=some r/\I3 y=(e,σ):=by
 unfold joinK at h;split at h
 ·exact .inl ⟨_,h,‹_›⟩
 ·split at h
  ·exact .inr (.inl ⟨_,h,‹_›⟩)
  ·split at h
   ·exact .inr (.inr ⟨_,h,‹_›⟩)
   ·cases h
theorem sub_loop {c:Cx} (hc:CxOk c) {M:Nat} {hb:Hint} {body:Code} {nm:Nm} {out:List (Exit×Nm)} (hh:HintOk c M hb body) {u1:Exit->Sg->Y1} {u2:Exit->Sg->Y2} {u3:Exit->Sg->Y3} {e1 e2 e3:Nat} (hO:Outs u1 u2 u3 I1 I2 I3 e1 e2 e3)
    {L:ι->(Y1->O)->(Y2->O)->(Y3->O)->O} {n:Nat} (hL:∀ x K,L x (fun y=>K (I1 y).1 (I1 y).2) (fun y=>K (I2 y).1 (I2 y).2) (fun y=>K (I3 y).1 (I3 y).2)=loopX c M hb body nm out n (I x) K):
    SubOk c M (.loop body) I1 I2 I3 (subL I un L):=by
 intro σ k1 k2 k3 r h hN;unfold subL at h;split at h
 case isFalse=>cases h
 rename_i hσ;have:=hL (un σ) (joinK u1 u2 u3 I1 I2 I3 k1 k2 k3);rw [joinK_1 hO,joinK_2 hO,joinK_3 hO,h,← hσ] at this;intro E hE;refine aw_mono (loopX_ok hc hh this.symm (by omega) E hE) ?_;rintro e s ⟨σ1,⟨h1,h2⟩,h3⟩;exact ⟨σ1,⟨h1,joinK_back h2⟩,h3⟩
theorem sub_part {c:Cx} (hc:CxOk c) {M:Nat} {hb:Hint} {code:Code} {out:List (Exit×Nm)} (hh:HintOk c M hb code) {u1:Exit->Sg->Y1} {u2:Exit->Sg->Y2} {u3:Exit->Sg->Y3} {e1 e2 e3:Nat} (hO:Outs u1 u2 u3 I1 I2 I3 e1 e2 e3)
    {L:ι->(Y1->O)->(Y2->O)->(Y3->O)->O} (hL:∀ x K,L x (fun y=>K (I1 y).1 (I1 y).2) (fun y=>K (I2 y).1 (I2 y).2) (fun y=>K (I3 y).1 (I3 y).2)=exec c M hb code (I x) (partX out K)):
    SubOk c M code I1 I2 I3 (subL I un L):=by
 intro σ k1 k2 k3 r h hN;unfold subL at h;split at h
 case isFalse=>cases h
 rename_i hσ;have:=hL (un σ) (joinK u1 u2 u3 I1 I2 I3 k1 k2 k3);rw [joinK_1 hO,joinK_2 hO,joinK_3 hO,h,← hσ] at this;intro E hE;refine aw_mono (partX_ok hc hh this.symm (by omega) E hE) ?_;rintro e s ⟨σ1,⟨h1,h2⟩,h3⟩;exact ⟨σ1,⟨h1,joinK_back h2⟩,h3⟩
theorem loop_ind {c:Cx} {M:Nat} {hb:Hint} {body:Code} {nm:Nm} {out:List (Exit×Nm)} (l:Nat->ι->(Y1->O)->(Y2->O)->(Y3->O)->O) (h0:∀ x k1 k2 k3,l 0 x k1 k2 k3=none)
    (hs:∀ n (K:Exit->Sg->O),(∀ x,l n x (fun y=>K (I1 y).1 (I1 y).2) (fun y=>K (I2 y).1 (I2 y).2) (fun y=>K (I3 y).1 (I3 y).2)=loopX c M hb body nm out n (I x) K)->
     ∀ x,l (n+1) x (fun y=>K (I1 y).1 (I1 y).2) (fun y=>K (I2 y).1 (I2 y).2) (fun y=>K (I3 y).1 (I3 y).2)=exec c M hb body (I x) (roundX nm out (fun σ=>loopX c M hb body nm out n σ K) K)):
    ∀ n x (K:Exit->Sg->O),l n x (fun y=>K (I1 y).1 (I1 y).2) (fun y=>K (I2 y).1 (I2 y).2) (fun y=>K (I3 y).1 (I3 y).2)=loopX c M hb body nm out n (I x) K:=by
 intro n
 induction n with
 | zero=>intro x K;exact h0 ..
 | succ n ih=>intro x K;exact hs n K (fun x=>ih x K) x
end
def HA (H:XH):List (Nat×AObj):=H.map fun p=>(p.1,p.2.A)
theorem look_HA {k:Nat}:∀ {H:XH},Ab.look k (HA H)=(lk k H).map XO.A
 | []=>rfl
 | (k',o)::H=>by
   have ih:=look_HA (k:=k) (H:=H);unfold HA at ih ⊢;simp only [List.map_cons];unfold Ab.look lk;by_cases e:k'=k
   ·subst e;simp
   ·rw [if_neg e,ne_beq e];exact ih
theorem lk_argT:∀ (l:List X) (t0 t:Nat),lk t (argT t0 l)=if t0<=t then l[t - t0]? else none
 | [],t0,t=>by simp [argT,lk]
 | x::l,t0,t=>by
   unfold argT lk;by_cases e:t0=t
   ·subst e;simp
   ·rw [ne_beq e,]
    simp only;rw [lk_argT l (t0+1) t];by_cases h:t0<=t
    ·rw [if_pos h,if_pos (by omega),show t - t0=(t - (t0+1))+1 by omega];simp
    ·rw [if_neg h,if_neg (by omega)]
theorem den_args (xs:List X) (H:XH):denS ⟨argT 0 xs,H,100⟩=args (xs.map X.D) (HA H):=by
 unfold denS args;refine mk_eq (fun t=>?_) (fun k=>?_) rfl
 ·simp [lk_argT]
 ·exact look_HA.symm
def sealF (o:XO):XO:=match o with
 | .row e τ l _=>.row e τ l true
 | .nest e e' τ l=>match τ.one with | true=>.row e (.sl τ) l true | false=>.nest e e' τ l
 | .nst e _ κ ρ l none=>sealN e κ ρ l
 | o=>o
theorem sealAll_lk:∀ (H:XH) (k:Nat),lk k (sealAll H)=(lk k H).map sealF
 | [],k=>rfl
 | (k',o)::H,k=>by
   cases o with
   | row e τ l st=>
     unfold sealAll lk;split
     ·rfl
     ·exact sealAll_lk H k
   | box e xs=>
     unfold sealAll lk;split
     ·rfl
     ·exact sealAll_lk H k
   | nest e e' τ l=>
     unfold sealAll lk;split
     ·rfl
     ·exact sealAll_lk H k
   | it s pos=>
     unfold sealAll lk;split
     ·rfl
     ·exact sealAll_lk H k
   | arr e τ l=>
     unfold sealAll lk;split
     ·rfl
     ·exact sealAll_lk H k
   | mp τ l=>
     unfold sealAll lk;split
     ·rfl
     ·exact sealAll_lk H k
   | nst e e' κ ρ l ln=>
     cases ln with
     | none=>
       unfold sealAll lk;split
       ·rfl
       ·exact sealAll_lk H k
     | some p=>
       unfold sealAll lk;split
       ·rfl
       ·exact sealAll_lk H k
theorem sealF_cases (o:XO):sealF o=o\/sealO o=some (sealF o):=by
 cases o with
 | row e τ l st=>
   cases st with
   | true=>exact .inl rfl
   | false=>exact .inr rfl
 | box e xs=>exact .inl rfl
 | mp τ l=>exact .inl rfl
 | it s pos=>exact .inl rfl
 | arr e τ l=>exact .inl rfl
 | nst e e' κ ρ l ln=>
   cases ln with
   | none=>exact .inr rfl
   | some p=>exact .inl rfl
 | nest e e' τ l=>
   cases h:τ.one with
   | true=>exact .inr (by simp only [sealF,sealO,h])
   | false=>exact .inl (by simp only [sealF,h])
theorem ent_seals {E:Env} {σ:Sg}:∀ (l:List Nat),Ent E (denS σ) (mk (fun t=>(lk t σ.T).map X.D) (fun k=>((lk k σ.H).map fun o=>if k ∈ l then sealF o else o).map XO.A) σ.N)
 | []=>by
   unfold denS;rw [mk_eq (T':=fun t=>(lk t σ.T).map X.D) (H':=fun k=>((lk k σ.H).map fun o=>if k ∈ ([]:List Nat) then sealF o else o).map XO.A) (fun _=>rfl) (fun k=>?_) rfl]
   ·exact Ent.refl'
   ·cases lk k σ.H <;> simp
 | q::l=>by
   refine Ent.trans' (ent_seals l) ?_;by_cases hq:q ∈ l
   ·rw [mk_eq (T':=fun t=>(lk t σ.T).map X.D) (H':=fun k=>((lk k σ.H).map fun o=>if k ∈ q::l then sealF o else o).map XO.A) (fun _=>rfl) (fun k=>?_) rfl]
    ·exact Ent.refl'
    ·congr 2
     funext o
     by_cases hk:k ∈ l
     ·rw [if_pos hk,if_pos (List.mem_cons_of_mem _ hk)]
     ·rw [if_neg hk,if_neg (fun h=>by rcases List.mem_cons.1 h with h | h;exact hk (h ▸ hq);exact hk h)]
   ·cases ho:lk q σ.H with
    | none=>
      rw [mk_eq (T':=fun t=>(lk t σ.T).map X.D) (H':=fun k=>((lk k σ.H).map fun o=>if k ∈ q::l then sealF o else o).map XO.A) (fun _=>rfl) (fun k=>?_) rfl]
      ·exact Ent.refl'
      ·by_cases e:k=q
       ·subst e;rw [ho];rfl
       ·congr 2
        funext o
        by_cases hk:k ∈ l
        ·rw [if_pos hk,if_pos (List.mem_cons_of_mem _ hk)]
        ·rw [if_neg hk,if_neg (fun h=>by rcases List.mem_cons.1 h with h | h;exact e h;exact hk h)]
    | some o=>
      have other:∀ k,k≠q->((lk k σ.H).map fun o=>if k ∈ l then sealF o else o)=((lk k σ.H).map fun o=>if k ∈ q::l then sealF o else o):=fun k e=>by
       congr 1
       funext o
       by_cases hk:k ∈ l
       ·rw [if_pos hk,if_pos (List.mem_cons_of_mem _ hk)]
       ·rw [if_neg hk,if_neg (fun h=>by rcases List.mem_cons.1 h with h | h;exact e h;exact hk h)]
      rcases sealF_cases o with h | h
      ·rw [mk_eq (T':=fun t=>(lk t σ.T).map X.D) (H':=fun k=>((lk k σ.H).map fun o=>if k ∈ q::l then sealF o else o).map XO.A) (fun _=>rfl) (fun k=>?_) rfl]
       ·exact Ent.refl'
       ·by_cases e:k=q
        ·subst e
         rw [ho];simp [hq,h]
        ·rw [other k e]
      ·have:=sealO_ok (q:=q) h (E:=E) (T:=fun t=>(lk t σ.T).map X.D) (H:=fun k=>((lk k σ.H).map fun o=>if k ∈ l then sealF o else o).map XO.A) (N:=σ.N) (by rw [ho];simp [hq])
       rw [mk_eq (T':=fun t=>(lk t σ.T).map X.D) (H:=fun j=>if q=j then some (sealF o).A else ((lk j σ.H).map fun o=>if j ∈ l then sealF o else o).map XO.A) (H':=fun k=>((lk k σ.H).map fun o=>if k ∈ q::l then sealF o else o).map XO.A) (N:=σ.N) (fun _=>rfl) (fun k=>?_) rfl] at this
       ·exact this
       ·by_cases e:q=k
        ·subst e
         rw [if_pos rfl,ho];simp
        ·rw [if_neg e,other k (fun h=>e h.symm)]
theorem seal_ok (σ:Sg) (E:Env):Ent E (denS σ) (denS ⟨σ.T,sealAll σ.H,σ.N⟩):=by
 have:=ent_seals (E:=E) (σ:=σ) (σ.H.map (·.1));unfold denS at this ⊢;rw [show (fun k=>(lk k (sealAll σ.H)).map XO.A)=fun k=>((lk k σ.H).map fun o=>if k ∈ σ.H.map (·.1) then sealF o else o).map XO.A from ?_]
 ·exact this
 funext k
 rw [sealAll_lk];cases hk:lk k σ.H with
 | none=>rfl
 | some o=>
   have hm:k ∈ σ.H.map (·.1):=List.mem_map.2 ⟨_,lk_mem hk,rfl⟩;simp [hm]
end Go.Ax
/- What functions give back; contracts. -/
namespace Go.Ax
open Alg
open Go.RowKit Go.Ab
theorem canon_ok (c:Cx) (σ:Vw) (t:TypeId) (x:X):DWk σ.den.H x.D (canon c σ t x).D:=by
 unfold canon;split
 ·split
  ·rename_i y h
   exact (giveC_ok σ x).trans (tyX_ok h)
  ·exact DWk.refl
 ·exact DWk.refl
theorem canons_ok (c:Cx) (σ:Vw):∀ (ts:List TypeId) (xs:List X),DWs σ.den.H (xs.map X.D) ((canons c σ ts xs).map X.D)
 | [],xs=>by
   have:canons c σ [] xs=xs:=by cases xs <;> rfl
   rw [this];exact DWs.refl
 | t::ts,[]=>.nil
 | t::ts,x::xs=>.cons (canon_ok c σ t x) (canons_ok c σ ts xs)
theorem mapO_get {α β:Type} {f:α->Option β}:∀ {l:List α} {r:List β},mapO f l=some r->l.length=r.length/\∀ (i:Nat) (y:β),r[i]?=some y->∃ x,l[i]?=some x/\f x=some y
 | [],r,h=>by cases h;exact ⟨rfl,fun i y h=>by simp at h⟩
 | x::l,r,h=>by
   unfold mapO at h;split at h
   ·rename_i y hy
    split at h
    ·rename_i r' hr
     cases h;obtain ⟨h1,h2⟩:=mapO_get hr;refine ⟨by simp [h1],fun i z hz=>?_⟩;cases i with
     | zero=>simp at hz;subst hz;exact ⟨x,rfl,hy⟩
     | succ i=>exact h2 i z (by simpa using hz)
    ·cases h
   ·cases h
theorem resV_ok {P:Program} {σ:Sg} {rv:ResultVar} {x:X} (h:resV P σ rv=some x):RV P (denS σ) rv x.D:=by
 cases rv with
 | tmp t=>
   simp only [resV] at h;exact .tmp (by show (lk t σ.T).map X.D=_;rw [h];rfl)
 | cell p t=>
   simp only [resV] at h;split at h
   ·rename_i q hp
    have hp':(denS σ).T p=some (.ref q 0):=by show (lk p σ.T).map X.D=_;rw [hp];rfl
    split at h
    ·rename_i e xs hq
     have hq':(denS σ).H q=some (.box e (xs.map X.D)):=by show (lk q σ.H).map XO.A=_;rw [hq];rfl
     split at h
     ·rename_i m ys hr hs
      split at h
      ·rename_i hb
       cases h;rw [X.D,Ds_map];exact .row hp' hq' hr hs (by rw [List.length_map];exact Nat.eq_of_beq_eq_true hb)
      ·cases h
     ·rename_i y hr
      cases h;exact .one hp' hq' hr
     ·cases h
    ·cases h
   ·cases h
theorem res_fn {E:Env} {σ:St} {tm:Array Value} {w:World} (ρ:Nat->Nat) {d d1 r:D} {H':List (Nat×AObj)} (hR:R E σ tm w) {v:Value} (hv:∀ ν G,Inv E σ ν G w tm->DR ν σ.nm w G v d) (hw:DWk σ.H d d1)
    (hle:DLe false σ.H (fun k=>decide (k < 108)) ρ d1 r) (hH:∀ k o',Ab.look k H'=some o'->k < 108/\∃ o,σ.H (ρ k)=some o/\OLe false σ.H (fun k=>decide (k < 108)) ρ o o')
    (hinj:∀ k k' o o',Ab.look k H'=some o->Ab.look k' H'=some o'->ρ k=ρ k'->k=k') (hid:∀ k,50<=k->k < 100->ρ k=k):R { E with m:=1 } (res r H') #[v] w:=by
 obtain ⟨ν,G,I⟩:=hR;have hρ:∀ k',decide (k' < 108)=true->σ.nm (ρ k')=true->(fun k=>ν (ρ k)) k'=ν (ρ k'):=fun _ _ _=>rfl
 refine ⟨fun k=>ν (ρ k),G,⟨I.kept.os,I.kept.tape,I.kept.output,I.kept.size,I.kept.block⟩,I.keep,fun k h1 h2=>?_,I.g0,rfl,fun t d' h=>?_,fun k o' h=>?_,fun k o k' o' h h' hne g hg=>?_⟩
 ·show ν (ρ k)=_
  rw [hid k h1 h2];exact I.pin k h1 h2
 ·simp only at h
  split at h
  ·rename_i e;subst e;cases h
   exact ⟨v,rfl,hle.rel (fun _ _ _ h=>h) I.rows hρ (hw _ _ _ _ _ _ (fun _ _ h=>h) I v (hv ν G I))⟩
  ·cases h
 ·obtain ⟨hk,o,ho,hle⟩:=hH k o' h
  exact ⟨decide_eq_true hk,(I.H _ o ho).2.view hle I.rows hρ rfl (fun _ _ h=>h)⟩
 ·obtain ⟨_,o1,h1,l1⟩:=hH k o h
  obtain ⟨_,o2,h2,l2⟩:=hH k' o' h';exact fun hg'=>I.dis _ o1 _ o2 h1 h2 (fun e=>hne (hinj k k' o o' h h' e)) g (l1.ft.1 hg) (l2.ft.1 hg')
theorem tupN {ν:Nat->Value} {nm:Nat->Bool} {w:World} {G:Lim} {vs:List Value} {ds:List D} (hl:vs.length=ds.length) (h:∀ (i:Nat) (v:Value) (d:D),vs[i]?=some v->ds[i]?=some d->DR ν nm w G v d):DR ν nm w G (.tuple vs.toArray) (.tup ds):=
 .tup (by simpa using hl) fun i u d hu hd=>h i u d (by simpa using hu) hd
theorem DWk.tup {H:Nat->Option AObj} {a b:List D} (h:DWs H a b):DWk H (.tup a) (.tup b):=fun E s ν G w tm hH I v hv=>by
 cases hv with
 | tup hl hr=>
   refine .tup (hl.trans h.len) (fun i u d hu hd=>?_);obtain ⟨d0,e0,hw⟩:=h.get i d hd;exact hw E s ν G w tm hH I u (hr i u d0 hu e0)
theorem results_run {P:Program} {fn:Func} {E:Env} {s:St} {tm:Array Value} {w:World} (hR:R E s tm w):∀ {xs:List D},fn.results.toList.length=xs.length->xs.length<=5->(∀ (i:Nat) (rv:ResultVar) (d:D),fn.results.toList[i]?=some rv->xs[i]?=some d->RV P s rv d)->
    ∃ v,(results fn tm).run P w = .ok v w/\∀ ν G,Inv E s ν G w tm->DR ν s.nm w G v (match xs with | [d]=>d | xs=>.tup xs):=by
 intro xs hl h3 hrv;have hres:fn.results=fn.results.toList.toArray:=by simp
 match hf:fn.results.toList,xs,hl with
 | [],[],_=>
   refine ⟨.tuple #[],?_,fun ν G I=>.tup rfl (fun i u d h=>by simp at h)⟩;rw [results_rv,hres,hf];simp
 | [p],[d],_=>
   obtain ⟨v,hv,hd⟩:=(hrv 0 p d (by rw [hf];rfl) rfl).all hR;refine ⟨v,?_,hd⟩;rw [results_rv,hres,hf];simp [hv]
 | [p1,p2],[d1,d2],_=>
   obtain ⟨v1,hv1,hd1⟩:=(hrv 0 p1 d1 (by rw [hf];rfl) rfl).all hR;obtain ⟨v2,hv2,hd2⟩:=(hrv 1 p2 d2 (by rw [hf];rfl) rfl).all hR;refine ⟨.tuple #[v1,v2],?_,fun ν G I=>tup2 (hd1 ν G I) (hd2 ν G I)⟩;rw [results_rv,hres,hf];simp [hv1,hv2]
 | [p1,p2,p3],[d1,d2,d3],_=>
   obtain ⟨v1,hv1,hd1⟩:=(hrv 0 p1 d1 (by rw [hf];rfl) rfl).all hR;obtain ⟨v2,hv2,hd2⟩:=(hrv 1 p2 d2 (by rw [hf];rfl) rfl).all hR;obtain ⟨v3,hv3,hd3⟩:=(hrv 2 p3 d3 (by rw [hf];rfl) rfl).all hR;refine ⟨.tuple #[v1,v2,v3],?_,fun ν G I=>tup3 (hd1 ν G I) (hd2 ν G I) (hd3 ν G I)⟩;rw [results_rv,hres,hf];simp [hv1,hv2,hv3]
 | [p1,p2,p3,p4],[d1,d2,d3,d4],_=>
   obtain ⟨v1,hv1,hd1⟩:=(hrv 0 p1 d1 (by rw [hf];rfl) rfl).all hR;obtain ⟨v2,hv2,hd2⟩:=(hrv 1 p2 d2 (by rw [hf];rfl) rfl).all hR;obtain ⟨v3,hv3,hd3⟩:=(hrv 2 p3 d3 (by rw [hf];rfl) rfl).all hR;obtain ⟨v4,hv4,hd4⟩:=(hrv 3 p4 d4 (by rw [hf];rfl) rfl).all hR;refine ⟨.tuple #[v1,v2,v3,v4],?_,fun ν G I=>tupN (vs:=[v1,v2,v3,v4]) rfl fun i v d h1 h2=>?_⟩
   ·rw [results_rv,hres,hf]
    simp [hv1,hv2,hv3,hv4]
   ·match i,h1,h2 with
    | 0,h1,h2=>cases h1;cases h2;exact hd1 ν G I
    | 1,h1,h2=>cases h1;cases h2;exact hd2 ν G I
    | 2,h1,h2=>cases h1;cases h2;exact hd3 ν G I
    | 3,h1,h2=>cases h1;cases h2;exact hd4 ν G I
    | i+4,h1,_=>simp at h1
 | [p1,p2,p3,p4,p5],[d1,d2,d3,d4,d5],_=>
   obtain ⟨v1,hv1,hd1⟩:=(hrv 0 p1 d1 (by rw [hf];rfl) rfl).all hR;obtain ⟨v2,hv2,hd2⟩:=(hrv 1 p2 d2 (by rw [hf];rfl) rfl).all hR;obtain ⟨v3,hv3,hd3⟩:=(hrv 2 p3 d3 (by rw [hf];rfl) rfl).all hR;obtain ⟨v4,hv4,hd4⟩:=(hrv 3 p4 d4 (by rw [hf];rfl) rfl).all hR;obtain ⟨v5,hv5,hd5⟩:=(hrv 4 p5 d5 (by rw [hf];rfl) rfl).all hR;refine ⟨.tuple #[v1,v2,v3,v4,v5],?_,fun ν G I=>tupN (vs:=[v1,v2,v3,v4,v5]) rfl fun i v d h1 h2=>?_⟩
   ·rw [results_rv,hres,hf]
    simp [hv1,hv2,hv3,hv4,hv5]
   ·match i,h1,h2 with
    | 0,h1,h2=>cases h1;cases h2;exact hd1 ν G I
    | 1,h1,h2=>cases h1;cases h2;exact hd2 ν G I
    | 2,h1,h2=>cases h1;cases h2;exact hd3 ν G I
    | 3,h1,h2=>cases h1;cases h2;exact hd4 ν G I
    | 4,h1,h2=>cases h1;cases h2;exact hd5 ν G I
    | i+5,h1,_=>simp at h1
 | a::b::c::d::e::f::l,xs,hl=>simp at hl;omega
theorem finR_ok {c:Cx} {fn:Func} {ow:Bool} {e:Exit} {σ:Sg} {r:Res} (h:finR c fn ow e σ=some r):(e = .normal\/e = .ret)/\∀ (E:Env) (tm:Array Value) (w:World),R E (denS σ) tm w->∃ v,(results fn tm).run c.P w = .ok v w/\R { E with m:=1 } (res r.1.D (HA r.2)) #[v] w:=by
 unfold finR at h;split at h
 case h_2=>cases h
 rename_i he;refine ⟨(by cases e <;> first | exact .inl rfl | exact .inr rfl | cases he),fun E tm w hR=>?_⟩;clear he;have hR1:R E (denS (sealIf ow σ)) tm w:=by
  cases ow
  ·exact seal_ok σ E tm w hR
  ·exact hR
 obtain ⟨σ1,hσ1⟩:∃ σ1,sealIf ow σ=σ1:=⟨_,rfl⟩
 rw [hσ1] at hR1;simp only [hσ1] at h;clear hR hσ1;obtain ⟨xs,hxs,h⟩:=ob_some h;obtain ⟨ys,hys⟩:∃ ys,canIf c fn ow σ1 xs=ys:=⟨_,rfl⟩
 simp only [hys] at h;have hw:DWs (denS σ1).H (xs.map X.D) (ys.map X.D):=by
  rw [← hys];cases ow
  ·exact canons_ok c σ1.vw _ xs
  ·exact DWs.refl
 clear hys;split at h
 case h_2=>cases h
 rename_i hrn;have F:=rnOk_ok hrn;obtain ⟨zs,hzs,h⟩:=ob_some h;obtain ⟨H',hH',h⟩:=ob_some h;obtain ⟨m1,m2⟩:=mapO_get hxs;have hlen:xs.length=ys.length:=by have:=hw.len;simpa using this
 have hf:∀ k k',oldH (numb' 100 (reach σ1.vw.H 60 (namesL ys (live σ1.H)) [])) k=some k'->decide (k' < 108)=true/\k=rnm (numb' 100 (reach σ1.vw.H 60 (namesL ys (live σ1.H)) [])) k':=fun k k' hk=>by
  unfold oldH at hk;split at hk
  ·rename_i hH
   cases hk;refine ⟨decide_eq_true (by have:=(isH_iff.1 hH).2;omega),?_⟩;unfold rnm;cases hl:Ab.look k _ with
   | none=>rfl
   | some z=>
     have:=(F.ren _ _ (look_mem hl)).2.2.1;rw [hH] at this;cases this
  ·obtain ⟨_,b,_,d⟩:=F.ren _ _ (old_mem hk)
   exact ⟨decide_eq_true b,d.symm⟩
 have hren:=renL_ok (H:=(denS σ1).H) (nm':=fun k=>decide (k < 108)) hf ys zs hzs;have hzl:ys.length=zs.length:=by have:=hren.get.1;simpa [Ds_map] using this
 -- objects
 have hHH:∀ k o',Ab.look k (HA H')=some o'->k < 108/\∃ o,(denS σ1).H (rnm (numb' 100 (reach σ1.vw.H 60 (namesL ys (live σ1.H)) [])) k)=some o/\OLe false (denS σ1).H (fun k=>decide (k < 108)) (rnm (numb' 100 (reach σ1.vw.H 60 (namesL ys (live σ1.H)) []))) o o':=fun k o' hk=>by
  rw [look_HA] at hk;obtain ⟨y,hy,rfl⟩:=Option.map_eq_some_iff.1 hk;obtain ⟨q,o,e1,e2,e3⟩:=renH_ok _ _ hH' k y hy;obtain ⟨a1,a2⟩:=F.al k q e1;refine ⟨?_,o.A,by rw [a1];exact congrArg (Option.map XO.A) e2,renO_ok hf e3⟩;rcases a2 with a2 | ⟨q',a2⟩
  ·have:=(isH_iff.1 a2).2;omega
  ·exact (F.ren _ _ a2).2.1
 have hinj:∀ k k' o o',Ab.look k (HA H')=some o->Ab.look k' (HA H')=some o'->rnm (numb' 100 (reach σ1.vw.H 60 (namesL ys (live σ1.H)) [])) k=rnm (numb' 100 (reach σ1.vw.H 60 (namesL ys (live σ1.H)) [])) k'->k=k':=fun k k' o o' h1 h2 e=>by
  rw [look_HA] at h1 h2;obtain ⟨y1,hy1,rfl⟩:=Option.map_eq_some_iff.1 h1;obtain ⟨y2,hy2,rfl⟩:=Option.map_eq_some_iff.1 h2;obtain ⟨q1,_,e1,_,_⟩:=renH_ok _ _ hH' k y1 hy1;obtain ⟨q2,_,e2,_,_⟩:=renH_ok _ _ hH' k' y2 hy2;rw [(F.al k q1 e1).1,(F.al k' q2 e2).1] at e;subst e;exact nodup_snd F.nd (lk_mem e1) (lk_mem e2)
 have hid:∀ k,50<=k->k < 100->rnm (numb' 100 (reach σ1.vw.H 60 (namesL ys (live σ1.H)) [])) k=k:=fun k h1 h2=>by
  unfold rnm;cases hl:Ab.look k _ with
  | none=>rfl
  | some z=>
    have:=(F.ren _ _ (look_mem hl)).2.2.1;rw [isH_iff.2 ⟨h1,h2⟩] at this;cases this
 have hlen3:xs.length<=5:=by
  rw [hlen,hzl];split at h
  ·simp
  ·simp
  ·simp
  ·simp
  ·simp
  ·simp
  ·cases h
 obtain ⟨v,hv1,hv2⟩:=results_run (P:=c.P) (fn:=fn) hR1 (xs:=xs.map X.D) (by rw [List.length_map];exact m1) (by rw [List.length_map];exact hlen3) (fun i rv d h1 h2=>by
  rw [List.getElem?_map] at h2;obtain ⟨x,hx,rfl⟩:=Option.map_eq_some_iff.1 h2;obtain ⟨rv',h3,h4⟩:=m2 i x hx;rw [h1] at h3;cases h3;exact resV_ok h4)
 refine ⟨v,hv1,?_⟩;have hdw:DWk (denS σ1).H (match xs.map X.D with | [d]=>d | xs=>.tup xs) (match ys.map X.D with | [d]=>d | xs=>.tup xs):=by
  match xs,ys,hlen,hw with
  | [],[],_,_=>exact DWk.refl
  | [x],[y],_,hw=>cases hw with | cons h _=>exact h
  | x1::x2::xs,y1::y2::ys,_,hw=>exact DWk.tup hw
 have hdl:DLe false (denS σ1).H (fun k=>decide (k < 108)) (rnm (numb' 100 (reach σ1.vw.H 60 (namesL ys (live σ1.H)) []))) (match ys.map X.D with | [d]=>d | xs=>.tup xs) r.1.D/\r.2=H':=by
  have hy3:ys.length<=5:=by omega
  match ys,zs,hzl,hren,h,hy3 with
  | [],[],_,hren,h,_=>cases h;exact ⟨.tup' hren,rfl⟩
  | [y],[z],_,hren,h,_=>cases h;cases hren with | cons h _=>exact ⟨h,rfl⟩
  | [y1,y2],[z1,z2],_,hren,h,_=>cases h;exact ⟨.tup' hren,rfl⟩
  | [y1,y2,y3],[z1,z2,z3],_,hren,h,_=>cases h;exact ⟨.tup' hren,rfl⟩
  | [y1,y2,y3,y4],[z1,z2,z3,z4],_,hren,h,_=>cases h;exact ⟨.tup' hren,rfl⟩
  | [y1,y2,y3,y4,y5],[z1,z2,z3,z4,z5],_,hren,h,_=>cases h;exact ⟨.tup' hren,rfl⟩
  | _::_::_::_::_::_::_,_,_,_,_,hy3=>simp at hy3
 rw [hdl.2];exact res_fn _ hR1 hv2 hdw hdl.1 hHH hinj hid
theorem renX_np {f:Nat->Option Nat} {x y:X} (h:renX f x=some y) (v:Value):y ≠ .pan v:=fun e=>by
 subst e;cases x <;> unfold renX at h <;> first | cases h | (split at h <;> cases h)
theorem renL_one {f:Nat->Option Nat} {xs:List X} {z:X} (h:renL f xs=some [z]):∃ x,renX f x=some z:=by
 cases xs with
 | nil=>cases h
 | cons x l=>
   unfold renL at h;split at h
   ·rename_i y hy
    split at h
    ·cases h;exact ⟨x,hy⟩
    ·cases h
   ·cases h
theorem finR_np {c:Cx} {fn:Func} {ow:Bool} {e:Exit} {σ:Sg} {r:Res} (h:finR c fn ow e σ=some r) (v:Value):r.1 ≠ .pan v:=by
 unfold finR at h;split at h
 case h_2=>cases h
 obtain ⟨xs,hxs,h⟩:=ob_some h;obtain ⟨ys,hys⟩:∃ ys,canIf c fn ow (sealIf ow σ) xs=ys:=⟨_,rfl⟩
 simp only [hys] at h;split at h
 case h_2=>cases h
 obtain ⟨zs,hzs,h⟩:=ob_some h;obtain ⟨H',hH',h⟩:=ob_some h;split at h
 ·cases h
  obtain ⟨x,hx⟩:=renL_one hzs;exact renX_np hx v
 all_goals first | (cases h;exact fun e=>by cases e) | cases h
theorem finP_ok {ch:List PanicEntry} {σ:Sg} {r:Res} (h:finP ch σ=some r):∃ v,r.1 = .pan v/\ch=[pent v]/\∀ (E:Env) (tm:Array Value) (w:World),R E (denS σ) tm w->R { E with m:=1 } (res .any (HA r.2)) #[undef] w:=by
 unfold finP at h;split at h
 case h_2=>cases h
 rename_i p;split at h
 ·cases h
 rename_i hp
 dsimp only at h
 split at h
 case h_2=>cases h
 rename_i hrn;have F:=rnOk_ok hrn;obtain ⟨H',hH',h⟩:=ob_some h;cases h;refine ⟨p.v,rfl,?_,fun E tm w hR=>?_⟩
 ·obtain ⟨v,a,b⟩:=p
  rw [Bool.or_eq_false_iff] at hp;obtain ⟨h1,h2⟩:=hp;simp only at h1 h2;subst h1 h2;rfl
 have hf:∀ k k',oldH (numb' 100 (reach σ.vw.H 60 (handed σ.H) [])) k=some k'->decide (k' < 108)=true/\k=rnm (numb' 100 (reach σ.vw.H 60 (handed σ.H) [])) k':=fun k k' hk=>by
  unfold oldH at hk;split at hk
  ·rename_i hH
   cases hk;refine ⟨decide_eq_true (by have:=(isH_iff.1 hH).2;omega),?_⟩;unfold rnm;cases hl:Ab.look k _ with
   | none=>rfl
   | some z=>
     have:=(F.ren _ _ (look_mem hl)).2.2.1;rw [hH] at this;cases this
  ·obtain ⟨_,b,_,d⟩:=F.ren _ _ (old_mem hk)
   exact ⟨decide_eq_true b,d.symm⟩
 have hHH:∀ k o',Ab.look k (HA H')=some o'->k < 108/\∃ o,(denS σ).H (rnm (numb' 100 (reach σ.vw.H 60 (handed σ.H) [])) k)=some o/\OLe false (denS σ).H (fun k=>decide (k < 108)) (rnm (numb' 100 (reach σ.vw.H 60 (handed σ.H) []))) o o':=fun k o' hk=>by
  rw [look_HA] at hk;obtain ⟨y,hy,rfl⟩:=Option.map_eq_some_iff.1 hk;obtain ⟨q,o,e1,e2,e3⟩:=renH_ok _ _ hH' k y hy;obtain ⟨a1,a2⟩:=F.al k q e1;refine ⟨?_,o.A,by rw [a1];exact congrArg (Option.map XO.A) e2,renO_ok hf e3⟩;rcases a2 with a2 | ⟨q',a2⟩
  ·have:=(isH_iff.1 a2).2;omega
  ·exact (F.ren _ _ a2).2.1
 have hinj:∀ k k' o o',Ab.look k (HA H')=some o->Ab.look k' (HA H')=some o'->rnm (numb' 100 (reach σ.vw.H 60 (handed σ.H) [])) k=rnm (numb' 100 (reach σ.vw.H 60 (handed σ.H) [])) k'->k=k':=fun k k' o o' h1 h2 e=>by
  rw [look_HA] at h1 h2;obtain ⟨y1,hy1,rfl⟩:=Option.map_eq_some_iff.1 h1;obtain ⟨y2,hy2,rfl⟩:=Option.map_eq_some_iff.1 h2;obtain ⟨q1,_,e1,_,_⟩:=renH_ok _ _ hH' k y1 hy1;obtain ⟨q2,_,e2,_,_⟩:=renH_ok _ _ hH' k' y2 hy2;rw [(F.al k q1 e1).1,(F.al k' q2 e2).1] at e;subst e;exact nodup_snd F.nd (lk_mem e1) (lk_mem e2)
 have hid:∀ k,50<=k->k < 100->rnm (numb' 100 (reach σ.vw.H 60 (handed σ.H) [])) k=k:=fun k h1 h2=>by
  unfold rnm;cases hl:Ab.look k _ with
  | none=>rfl
  | some z=>
    have:=(F.ren _ _ (look_mem hl)).2.2.1;rw [isH_iff.2 ⟨h1,h2⟩] at this;cases this
 exact res_fn (d:=.any) (d1:=.any) _ hR (fun _ _ _=>.any) DWk.refl .any hHH hinj hid
def DoesR (P:Program) (f:FuncId) (ds:List D) (H:List (Nat×AObj)) (r:Res):Prop:=match r.1 with
 | .pan v=>DoesPan P f ds H v (HA r.2)
 | x=>Does P f ds H x.D (HA r.2)
theorem DoesR.of {P:Program} {f:FuncId} {ds:List D} {H:List (Nat×AObj)} {r:Res} (h:∀ v,r.1 ≠ .pan v) (k:Does P f ds H r.1.D (HA r.2)):DoesR P f ds H r:=by
 obtain ⟨x,H'⟩:=r;unfold DoesR;cases x with
 | pan v=>exact absurd rfl (h v)
 | _=>exact k
theorem fun_ok {c:Cx} (hc:CxOk c) {f:FuncId} {fn:Func} {code:Code} (hf:c.P.funcs[f]?=some fn) (hb:fn.body=some code) {h:Hint} (hh:HintOk c fn.ntmps h code) {xs:List X} {H:XH} (hm:xs.length<=fn.ntmps) {ow:Bool} {r:Res}
    (he:exec c fn.ntmps h code ⟨argT 0 xs,H,100⟩ (finX c fn ow)=some r):DoesR c.P f (xs.map X.D) (HA H) r:=by
 have key:∀ E:Env,E.m=fn.ntmps->AWp c.P E code _ (args (xs.map X.D) (HA H)):=fun E hE=>den_args xs H ▸ exec_ok hc code h _ _ r he hh (Nat.le_refl _) E hE
 have fin:∀ {e:Exit} {σ:Sg},finX c fn ow e σ=some r->(∃ ch,e = .panic ch/\finP ch σ=some r)\/finR c fn ow e σ=some r:=fun {e σ} h=>by
  unfold finX at h;split at h
  ·exact .inl ⟨_,rfl,h⟩
  ·exact .inr h
 by_cases hp:∃ v,r.1 = .pan v
 ·obtain ⟨v,hv⟩:=hp
  have:DoesR c.P f (xs.map X.D) (HA H) r=DoesPan c.P f (xs.map X.D) (HA H) v (HA r.2):=by unfold DoesR;rw [hv]
  rw [this];refine spec_pan hf hb (by rw [List.length_map];exact hm) fun E hE=>aw_mono (key E hE) ?_
  rintro e s ⟨σ',⟨_,h1⟩,hent⟩;rcases fin h1 with ⟨ch,rfl,h1⟩ | h1
  ·obtain ⟨v',e1,e2,e3⟩:=finP_ok h1
   rw [hv] at e1;cases e1;exact ⟨e2,fun tm w hR=>e3 E tm w (hent tm w hR)⟩
  ·exact absurd hv (finR_np h1 v)
 ·refine DoesR.of (fun v hv=>hp ⟨v,hv⟩) (spec_of hf hb (by rw [List.length_map];exact hm) fun E hE=>aw_mono (key E hE) ?_)
  rintro e s ⟨σ',⟨_,h1⟩,hent⟩;rcases fin h1 with ⟨ch,rfl,h1⟩ | h1
  ·obtain ⟨v',e1,_⟩:=finP_ok h1
   exact absurd ⟨v',e1⟩ hp
  ·obtain ⟨h2,h3⟩:=finR_ok h1
   rcases h2 with rfl | rfl
   ·exact fun tm w hR=>h3 E tm w (hent tm w hR)
   ·exact fun tm w hR=>h3 E tm w (hent tm w hR)
def EOk (P:Program) (f:FuncId) (g:Ent'):Prop:=∀ xs H pre r,g xs H=some (pre,r)->pre=true->Does P f (xs.map X.D) (HA H) r.1.D (HA r.2)
def EOkP (P:Program) (f:FuncId) (g:EntP):Prop:=∀ xs H pre b r rp,g xs H=some (pre,b,r,rp)->pre=true->(b=some true->Does P f (xs.map X.D) (HA H) r.1.D (HA r.2))/\(b≠some true->∀ v,rp.1 = .pan v->DoesPan P f (xs.map X.D) (HA H) v (HA rp.2))
def nameOk (P : Program) (f : FuncId) : Bool := match P.funcs[f]? with | some fn => !(decide (fn.name = "runtime.NumGoroutine")) | none => true
def GOk (P:Program) (G:List (Nat×Ent')):Prop:=∀ f g,lk f G=some g->nameOk P f=true/\EOk P f g
theorem GOk.nil {P:Program}:GOk P []:=fun f g h=>by cases h
theorem GOk.cons {P:Program} {f:Nat} {g:Ent'} {G:List (Nat×Ent')} (hn:nameOk P f=true) (h:EOk P f g) (k:GOk P G):GOk P ((f,g)::G):=fun f' g' h'=>by
 unfold lk at h';split at h'
 ·rename_i he
  have:=Nat.eq_of_beq_eq_true he;subst this;cases h';exact ⟨hn,h⟩
 ·exact k f' g' h'
end Go.Ax
/- Operations: what a look-up is, numbers, truth values, strings. -/
namespace Go.Ax
open Alg
open Go.RowKit Go.Ab
abbrev gOn (g:Option Bool):Prop:=∀ c,g=some c->c=true
theorem ckg_some {g:Option Bool} {b:Bool} {k:O} {r:Res} (h:ckg g b k=some r):k=some r/\(gOn g->b=true):=by
 unfold ckg at h;split at h
 ·exact ⟨(ck_some h).2,fun _=>(ck_some h).1⟩
 ·rename_i c
  refine ⟨(ck_some h).2,fun hg=>?_⟩;have:=(ck_some h).1;rw [hg c rfl] at this;simpa using this
theorem gxg_some {g:Option Bool} {τ:Ty} {l:List τ.V} {n:Int} {k:τ.V->O} {r:Res} (h:gxg g τ l n k=some r):∃ y,k y=some r/\(gOn g->0<=n/\l[n.toNat]?=some y):=by
 unfold gxg at h;split at h
 ·obtain ⟨y,h1,h2,h3⟩:=gx_some h
  exact ⟨y,h3,fun _=>⟨h1,h2⟩⟩
 ·rename_i c
  change gc0 c τ.zero l n k=some r at h;unfold gc0 at h;cases c with
  | true=>
    obtain ⟨y,h1,h2,h3⟩:=gx_some h;exact ⟨y,h3,fun _=>⟨h1,h2⟩⟩
  | false=>exact ⟨_,h,fun hg=>by have:=hg false rfl;cases this⟩
theorem Vw.On.g {σ:Vw} (h:σ.On):gOn (σ.g.map (·.2)):=fun c hc=>by
 obtain ⟨p,hp,rfl⟩:=Option.map_eq_some_iff.1 hc;exact h p.1 p.2 hp
theorem unC_pl {g:Option (Nat×Bool)} {x v:X} (h:unC g x=some v):v.pl=true:=by
 unfold unC at h;split at h
 ·cases h;rfl
 ·split at h
  ·split at h
   ·split at h
    ·cases h;rfl
    ·cases h
    ·rename_i h1 h2
     cases h;cases v with
     | bit j q=>exact absurd rfl (h1 j q)
     | cnd a b c=>exact absurd rfl (h2 a b c)
     | _=>rfl
   ·cases h
  ·cases h
 ·rename_i h1 h2
  cases h;cases x with
  | bit j q=>exact absurd rfl (h1 j q)
  | cnd a b c=>exact absurd rfl (h2 a b c)
  | _=>rfl
theorem unC_D {κ:Nat->Bool} {g:Option (Nat×Bool)} {x v:X} (hg:Good κ x) (hκ:∀ key c,g=some (key,c)->c=κ key) (hon:∀ key c,g=some (key,c)->c=true) (h:unC g x=some v):x.D=v.D:=by
 unfold unC at h;split at h
 ·cases h;rfl
 ·rename_i key c y
  split at h
  ·rename_i key' c'
   split at h
   ·rename_i hb
    have hb:=Nat.eq_of_beq_eq_true hb;subst hb;have hc:c=true:=hg.1.trans ((hκ _ _ rfl).symm.trans (hon _ _ rfl));subst hc;split at h
    ·cases h;rfl
    ·cases h
    ·cases h;rfl
   ·cases h
  ·cases h
 ·cases h;rfl
theorem ofV1_pl (w:Value):(ofV1 w).pl=true:=by
 unfold ofV1;split
 ·split <;> rfl
 all_goals rfl
theorem ofVX_pl {w:Value} {x:X} (h:ofVX w=some x):x.pl=true:=by
 unfold ofVX at h;split at h
 ·split at h
  ·cases h;rfl
  ·cases h
 ·cases h
 ·cases h;exact ofV1_pl w
theorem glob_pl (g:Nat):(glob g).pl=true:=rfl
theorem ev_pl {σ:Vw} {x:Operand} {v:X} (h:σ.ev x=some v):v.pl=true:=by
 cases x with
 | tmp t=>
   simp only [Vw.ev] at h;split at h
   ·exact unC_pl h
   ·cases h
 | const w=>exact ofVX_pl h
 | func f=>simp only [Vw.ev] at h;cases h;rfl
 | global g=>simp only [Vw.ev] at h;cases h;exact glob_pl g
theorem evV_D {σ:Vw} {κ:Nat->Bool} (hσ:σ.Ok κ) (hon:σ.On) {x:Operand} {v:X} (h:σ.ev x=some v):σ.den.ev x=some v.D:=by
 cases x with
 | tmp t=>
   simp only [Vw.ev] at h;split at h
   ·rename_i y hy
    have e:σ.den.ev (.tmp t)=some y.D:=den_T hy;rw [e,unC_D (hσ.good t y hy) hσ.g hon h]
   ·cases h
 | const w=>
   have:=ofVX_ev (σ:=⟨[],[],0⟩) h;exact this
 | func f=>simp only [Vw.ev] at h;cases h;rfl
 | global g=>simp only [Vw.ev] at h;cases h;exact congrArg some (glob_D g).symm
section
variable {P:Program} {o:Oper} {σ:St} {fr:Nat}
abbrev T8 (c:UInt8):D:=.t (.v (.int .u8 (UInt8.toNat c:Int)))
abbrev TS (s:List UInt8):D:=.t (.v (.string ⟨⟨s⟩⟩))
theorem wrap8 (n:Int):IntKind.u8.wrap n=n % 256:=by
 have:IntKind.u8.wrap n=n % ((2:Int) ^ 8):=by unfold IntKind.wrap;simp [IntKind.signed,IntKind.bits]
 rw [this];rfl
theorem u8of_toNat (n:Int):((u8of n).toNat:Int)=IntKind.u8.wrap n:=by
 rw [wrap8];unfold u8of;rw [UInt8.toNat_ofNat'];omega
theorem add8 (a b:UInt8):IntKind.u8.wrap ((a.toNat:Int)+b.toNat)=((a+b).toNat:Int):=by
 rw [wrap8,UInt8.toNat_add];omega
theorem sub8 (a b:UInt8):IntKind.u8.wrap ((a.toNat:Int) - b.toNat)=((a - b).toNat:Int):=by
 have h1:=a.toNat_lt;have h2:=b.toNat_lt;rw [wrap8,UInt8.toNat_sub];omega
theorem lt8 (a b:UInt8):decide ((a.toNat:Int) < b.toNat)=decide (a < b):=by
 congr 1
 rw [UInt8.lt_iff_toNat_lt];simp
theorem le8 (a b:UInt8):decide ((a.toNat:Int)<=b.toNat)=decide (a<=b):=by
 congr 1
 rw [UInt8.le_iff_toNat_le];simp
theorem eq8 (a b:UInt8):decide ((a.toNat:Int)=b.toNat)=decide (a=b):=by
 congr 1
 rw [← UInt8.toNat_inj];simp only [eq_iff_iff];omega
theorem ne8 (a b:UInt8):decide ((a.toNat:Int)≠b.toNat)=decide (a≠b):=by
 congr 1
 rw [ne_eq,ne_eq,← UInt8.toNat_inj];simp only [eq_iff_iff];omega
theorem intBin_ok {g:Option Bool} {op:BinOp} {ik:IntKind} {m n:Int} {k:X->O} {r:Res} (h:intBin g op ik m n k=some r):∃ x,k x=some r/\x.pl=true/\(gOn g->∀ {xt yt:TypeId} {x' y':Operand},o.op = .binOp op xt x' y' yt->σ.ev x'=some (.t (.v (.int ik m)))->σ.ev y'=some (.t (.v (.int ik n)))->OpOk P o σ fr x.D []):=by
 unfold intBin at h;split at h
 ·exact ⟨_,h,rfl,fun _ _ _ _ _ ho hx hy=>ok_addk ho hx hy⟩
 ·exact ⟨_,h,rfl,fun _ _ _ _ _ ho hx hy=>ok_subk ho hx hy⟩
 ·exact ⟨_,h,rfl,fun _ _ _ _ _ ho hx hy=>ok_mulk ho hx hy⟩
 ·obtain ⟨h1,h2⟩:=ckg_some h
  exact ⟨_,h1,rfl,fun hg _ _ _ _ ho hx hy=>ok_quok ho hx hy (of_decide_eq_true (h2 hg))⟩
 ·obtain ⟨h1,h2⟩:=ckg_some h
  exact ⟨_,h1,rfl,fun hg _ _ _ _ ho hx hy=>ok_rem ho hx hy (of_decide_eq_true (h2 hg))⟩
 ·exact ⟨_,h,rfl,fun _ _ _ _ _ ho hx hy=>ok_lss ho hx hy⟩
 ·exact ⟨_,h,rfl,fun _ _ _ _ _ ho hx hy=>ok_leq ho hx hy⟩
 ·exact ⟨_,h,rfl,fun _ _ _ _ _ ho hx hy=>ok_gtr ho hx hy⟩
 ·exact ⟨_,h,rfl,fun _ _ _ _ _ ho hx hy=>ok_geq ho hx hy⟩
 ·exact ⟨_,h,rfl,fun _ _ _ _ _ ho hx hy=>ok_eql ho hx hy⟩
 ·exact ⟨_,h,rfl,fun _ _ _ _ _ ho hx hy=>ok_neq ho hx hy⟩
 ·exact ⟨_,h,rfl,fun _ _ _ _ _ ho hx hy=>ok_bin ho hx hy (fun w=>by simp [eqGuard,binOp,Op.intBits,andV]) rfl⟩
 ·exact ⟨_,h,rfl,fun _ _ _ _ _ ho hx hy=>ok_bin ho hx hy (fun w=>by simp [eqGuard,binOp,Op.intBits,orV]) rfl⟩
 ·exact ⟨_,h,rfl,fun _ _ _ _ _ ho hx hy=>ok_bin ho hx hy (fun w=>by simp [eqGuard,binOp,Op.intBits,xorV]) rfl⟩
 ·exact ⟨_,h,rfl,fun _ _ _ _ _ ho hx hy=>ok_bin ho hx hy (fun w=>by simp [eqGuard,binOp,Op.intBits,notV]) rfl⟩
 ·cases h
theorem shiftX_ok {g:Option Bool} {op:BinOp} {ik ik':IntKind} {m n:Int} {k:X->O} {r:Res} (h:shiftX g op ik m n k=some r):∃ x,k x=some r/\x.pl=true/\(gOn g->∀ {xt yt:TypeId} {x' y':Operand},o.op = .binOp op xt x' y' yt->σ.ev x'=some (.t (.v (.int ik m)))->σ.ev y'=some (.t (.v (.int ik' n)))->OpOk P o σ fr x.D []):=by
 unfold shiftX at h;split at h
 ·obtain ⟨h1,h2⟩:=ckg_some h
  refine ⟨_,h1,rfl,fun hg _ _ _ _ ho hx hy=>ok_bin ho hx hy (fun w=>?_) rfl⟩;have:=of_decide_eq_true (h2 hg);simp [eqGuard,binOp,Op.shift,Int.not_lt.2 this]
 ·obtain ⟨h1,h2⟩:=ckg_some h
  refine ⟨_,h1,rfl,fun hg _ _ _ _ ho hx hy=>ok_bin ho hx hy (fun w=>?_) rfl⟩;have:=of_decide_eq_true (h2 hg);simp [eqGuard,binOp,Op.shift,Int.not_lt.2 this]
 ·cases h
theorem u8Bin_ok {op:BinOp} {m n:UInt8} {k:X->O} {r:Res} (h:u8Bin op m n k=some r):∃ x,k x=some r/\x.pl=true/\(∀ {xt yt:TypeId} {x' y':Operand},o.op = .binOp op xt x' y' yt->σ.ev x'=some (T8 m)->σ.ev y'=some (T8 n)->OpOk P o σ fr x.D []):=by
 unfold u8Bin at h;split at h
 ·refine ⟨_,h,rfl,fun ho hx hy=>?_⟩
  have:=ok_addk (P:=P) (fr:=fr) ho hx hy
  rwa [add8] at this
 ·refine ⟨_,h,rfl,fun ho hx hy=>?_⟩
  have:=ok_subk (P:=P) (fr:=fr) ho hx hy
  rwa [sub8] at this
 ·refine ⟨_,h,rfl,fun ho hx hy=>?_⟩
  have:=ok_lss (P:=P) (fr:=fr) ho hx hy
  rwa [lt8] at this
 ·refine ⟨_,h,rfl,fun ho hx hy=>?_⟩
  have:=ok_leq (P:=P) (fr:=fr) ho hx hy
  rwa [le8] at this
 ·refine ⟨_,h,rfl,fun ho hx hy=>?_⟩
  have:=ok_gtr (P:=P) (fr:=fr) ho hx hy
  rwa [lt8] at this
 ·refine ⟨_,h,rfl,fun ho hx hy=>?_⟩
  have:=ok_geq (P:=P) (fr:=fr) ho hx hy
  rwa [le8] at this
 ·refine ⟨_,h,rfl,fun ho hx hy=>?_⟩
  have:=ok_eql (P:=P) (fr:=fr) ho hx hy
  rwa [eq8] at this
 ·refine ⟨_,h,rfl,fun ho hx hy=>?_⟩
  have:=ok_neq (P:=P) (fr:=fr) ho hx hy
  rwa [ne8] at this
 ·cases h
theorem mk_append (m n:List UInt8):ByteArray.mk ⟨m⟩++ByteArray.mk ⟨n⟩=ByteArray.mk ⟨m++n⟩:=by
 apply ByteArray.ext;rw [ByteArray.data_append];simp
theorem strBin_ok {g:Option Bool} {op:BinOp} {m n:List UInt8} {k:X->O} {r:Res} (h:strBin g op m n k=some r):∃ x,k x=some r/\x.pl=true/\(gOn g->∀ {xt yt:TypeId} {x' y':Operand},o.op = .binOp op xt x' y' yt->σ.ev x'=some (TS m)->σ.ev y'=some (TS n)->OpOk P o σ fr x.D []):=by
 have tl:∀ l:List UInt8,(ByteArray.mk ⟨l⟩).toList=l:=fun l=>ByteArray.toList_mk l
 have be:∀ m n:List UInt8,(m == n)=decide (m=n):=fun m n=>by rw [Bool.eq_iff_iff];simp
 unfold strBin at h;split at h
 ·obtain ⟨h1,h2⟩:=ckg_some h
  refine ⟨_,h1,rfl,fun hg _ _ _ _ ho hx hy=>ok_bin ho hx hy (fun w=>?_) rfl⟩;have hb:=of_decide_eq_true (h2 hg);have hsz:¬ (((ByteArray.mk ⟨m⟩).size+(ByteArray.mk ⟨n⟩).size:Nat):Int) > IntKind.i64.max:=by
   show ¬ ((m.length+n.length:Nat):Int) > 9223372036854775807;omega
  simp only [eqGuard,binOp,Op.stringOp,if_neg hsz,mk_append];simp
 ·refine ⟨_,h,rfl,fun hg _ _ _ _ ho hx hy=>ok_bin ho hx hy (fun w=>?_) rfl⟩
  simp [eqGuard,binOp,Op.stringOp,tl,be]
 ·refine ⟨_,h,rfl,fun hg _ _ _ _ ho hx hy=>ok_bin ho hx hy (fun w=>?_) rfl⟩
  simp [eqGuard,binOp,Op.stringOp,tl,be]
 ·cases h
theorem binX_ok {g:Option Bool} {op:BinOp} {xt:TypeId} {x y:X} {k:X->O} {r:Res} (h:binX P g op xt x y k=some r):∃ z,k z=some r/\z.pl=true/\(gOn g->∀ {yt:TypeId} {x' y':Operand},o.op = .binOp op xt x' y' yt->σ.ev x'=some x.D->σ.ev y'=some y.D->OpOk P o σ fr z.D []):=by
 unfold binX at h;split at h
 ·split at h
  ·obtain ⟨z,h1,h2,h3⟩:=shiftX_ok (P:=P) (o:=o) (σ:=σ) (fr:=fr) h
   exact ⟨z,h1,h2,fun hg _ _ _ ho hx hy=>h3 hg ho hx hy⟩
  ·split at h
   ·rename_i he
    have he:=of_decide_eq_true he;subst he;obtain ⟨z,h1,h2,h3⟩:=intBin_ok (P:=P) (o:=o) (σ:=σ) (fr:=fr) h;exact ⟨z,h1,h2,fun hg _ _ _ ho hx hy=>h3 hg ho hx hy⟩
   ·cases h
 ·obtain ⟨z,h1,h2,h3⟩:=u8Bin_ok (P:=P) (o:=o) (σ:=σ) (fr:=fr) h
  exact ⟨z,h1,h2,fun hg _ _ _ ho hx hy=>h3 ho hx hy⟩
 ·obtain ⟨z,h1,h2,h3⟩:=strBin_ok (P:=P) (o:=o) (σ:=σ) (fr:=fr) h
  exact ⟨z,h1,h2,fun hg _ _ _ ho hx hy=>h3 hg ho hx hy⟩
 ·split at h
  ·rename_i hu
   unfold boolBin at h;split at h
   ·exact ⟨_,h,rfl,fun hg _ _ _ ho hx hy=>ok_eqb hu ho hx hy⟩
   ·exact ⟨_,h,rfl,fun hg _ _ _ ho hx hy=>ok_neb hu ho hx hy⟩
   ·cases h
  ·cases h
 ·cases h
theorem ok_negk {t:TypeId} {x:Operand} {ik:IntKind} {m:Int} (ho:o.op = .unOp .neg t x) (hx:σ.ev x=some (.t (.v (.int ik m)))):OpOk P o σ fr (.t (.v (.int ik (ik.wrap (-m))))) []:=
 ok_pure fun _ _ _ _ w a _ _ hev=>by
  have h1':=bool_of (hev x _ hx);refine ⟨.int ik (ik.wrap (-m)),?_,.t (.v _ rfl)⟩;unfold execOp;rw [ho];simp only [h1'];simp [Op.unary,Op.intArith]
theorem ok_nilCheck {x:Operand} {d:D} (ho:o.op = .nilCheck x) (hx:σ.ev x=some d) (hd:(∃ k off,d = .ref k off)\/(∃ ts off,d = .ptr ts off)\/∃ f ds,d = .fn f ds):OpOk P o σ fr d []:=
 ok_pure fun _ _ _ _ w a _ _ hev=>by
  have h:=hev x _ hx;refine ⟨a.eval x,?_,h⟩;unfold execOp;rw [ho];obtain ⟨v,hv⟩:∃ v,a.eval x=v:=⟨_,rfl⟩
  rw [hv] at h;simp only [hv];rcases hd with ⟨k,off,rfl⟩ | ⟨ts,off,rfl⟩ | ⟨f,ds,rfl⟩
  ·cases h with | ref _ _=>rfl
  ·cases h with | ptr _ _ _=>rfl
  ·cases h with | fn _ _=>rfl
theorem ok_maxi {x y:Operand} {m n:Int} {tys:Array TypeId} (ho:o.op = .call { callee:=.builtin .max,args:=#[x,y],argTypes:=tys }) (hx:σ.ev x=some (I m)) (hy:σ.ev y=some (I n)):OpOk P o σ fr (I (max m n)) []:=
 ok_pure fun _ _ _ _ w a _ _ hev=>by
  have h1:=bool_of (hev x _ hx);have h2:=bool_of (hev y _ hy);refine ⟨.int .i64 (max m n),?_,.t (.v _ rfl)⟩;unfold execOp;rw [ho];simp [resolve,invoke,builtin,h1,h2,Lib.run_max_ints]
theorem run_max3 {P:Program} (w:World) (ts:Array TypeId) (t:TypeId) (x y z:Int):(Builtin.max_ ts t #[.int .i64 x,.int .i64 y,.int .i64 z]).run P w = .ok (.int .i64 (max (max x y) z)) w:=by
 have e:∀ x y:Int,(if y > x then y else x)=max x y:=fun x y=>by
  rw [Int.max_def];split <;> split <;> omega
 simp [Builtin.max_,Builtin.max2,e]
theorem ok_max3 {x y z:Operand} {m n p:Int} {tys:Array TypeId} (ho:o.op = .call { callee:=.builtin .max,args:=#[x,y,z],argTypes:=tys }) (hx:σ.ev x=some (I m)) (hy:σ.ev y=some (I n)) (hz:σ.ev z=some (I p)):OpOk P o σ fr (I (max (max m n) p)) []:=
 ok_pure fun _ _ _ _ w a _ _ hev=>by
  have h1:=bool_of (hev x _ hx);have h2:=bool_of (hev y _ hy);have h3:=bool_of (hev z _ hz);refine ⟨.int .i64 (max (max m n) p),?_,.t (.v _ rfl)⟩;unfold execOp;rw [ho];simp [resolve,invoke,builtin,h1,h2,h3,run_max3]
theorem ok_mini {x y:Operand} {m n:Int} {tys:Array TypeId} (ho:o.op = .call { callee:=.builtin .min,args:=#[x,y],argTypes:=tys }) (hx:σ.ev x=some (I m)) (hy:σ.ev y=some (I n)):OpOk P o σ fr (I (min m n)) []:=
 ok_pure fun _ _ _ _ w a _ _ hev=>by
  have h1:=bool_of (hev x _ hx);have h2:=bool_of (hev y _ hy);refine ⟨.int .i64 (min m n),?_,.t (.v _ rfl)⟩;unfold execOp;rw [ho];simp [resolve,invoke,builtin,h1,h2,Lib.run_min_ints]
theorem ok_lens {t:TypeId} {x:Operand} {s:List UInt8} {tys:Array TypeId} (hu:P.underlying t=some .string) (ho:o.op = .call { callee:=.builtin .len,args:=#[x],argTypes:=tys }) (ht:tys = #[t]) (hx:σ.ev x=some (TS s)):OpOk P o σ fr (I s.length) []:=
 ok_pure fun _ _ _ _ w a _ _ hev=>by
  have h1:=bool_of (hev x _ hx);refine ⟨.int .i64 s.length,?_,.t (.v _ rfl)⟩;unfold execOp;rw [ho,ht];simp [resolve,invoke,builtin,h1,run_len_string _ t _ _ hu,goInt];rfl
theorem ok_indexs {t:TypeId} {x y:Operand} {s:List UInt8} {ik:IntKind} {n:Int} {c:UInt8} (hu:P.underlying t=some .string) (ho:o.op = .index t x y) (hx:σ.ev x=some (TS s)) (hy:σ.ev y=some (.t (.v (.int ik n)))) (h0:0<=n) (hc:s[n.toNat]?=some c):OpOk P o σ fr (T8 c) []:=
 ok_pure fun _ _ _ _ w a _ _ hev=>by
  have h1:=bool_of (hev x _ hx);have h2:=bool_of (hev y _ hy);refine ⟨.int .u8 (c.toNat:Int),?_,.t (.v _ rfl)⟩;obtain ⟨hlt,hcc⟩:=List.getElem?_eq_some_iff.1 hc;have hsz:(ByteArray.mk ⟨s⟩).size=s.length:=rfl;have hi:0<=n/\n < ((ByteArray.mk ⟨s⟩).size:Nat):=⟨h0,by rw [hsz];omega⟩;have:=run_index_string w t (ByteArray.mk ⟨s⟩) ik n hu;rw [dif_pos hi] at this;unfold execOp;rw [ho];simp only [h1,h2,Sem.run_bind,this,Result.andThen_ok,Sem.run_pure];have hval:((ByteArray.mk ⟨s⟩)[n.toNat]'(by omega))=c:=hcc;rw [hval]
theorem ok_makeFunc {f:FuncId} {caps:Array Operand} {ds:List D} (ho:o.op = .makeFunc (.func f) #[] caps) (hl:caps.size=ds.length) (hc:∀ (i:Nat) (x:Operand) (d:D),caps[i]?=some x->ds[i]?=some d->σ.ev x=some d):OpOk P o σ fr (.fn f ds) []:=
 ok_pure fun _ _ _ _ w a _ _ hev=>by
  refine ⟨.func (.func f) #[] (caps.map a.eval),?_,.fn (by simp [hl]) (fun i u d hu hd=>?_)⟩
  ·unfold execOp
   rw [ho];simp [Instr.makeFunc]
  ·simp only [Array.getElem?_map] at hu
   obtain ⟨x,hx,rfl⟩:=Option.map_eq_some_iff.1 hu;exact hev x d (hc i x d hx hd)
end
end Go.Ax
