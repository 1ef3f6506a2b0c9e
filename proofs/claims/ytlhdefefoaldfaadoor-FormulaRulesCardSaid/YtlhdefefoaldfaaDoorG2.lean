/- Trees: variables; values. Conditions are in the theorems. -/
import Derived.Test.YtlhdefefoaldfaaDoorG1
/- A tree with one node changed. -/
namespace Go.Proofs
open Go Go.Ax Go.Ax.Alg
end Go.Proofs
/- Trees: which are the same. -/
namespace Go.Proofs
open Go Go.Ax Go.Ax.Alg
section
variable {N:Nat} {e f:Ex} (h:2 * sizeE e≤N) (hB:sizeE e < 2 ^ 58) (hB':sizeE f < 2 ^ 58)
include h hB hB'
end
end Go.Proofs
/- The variables of a tree. -/
namespace Go.Proofs
open Go Go.Ax Go.Ax.Alg
abbrev T26 (b:Nat→Bool):=(b 0,b 1,b 2,b 3,b 4,b 5,b 6,b 7,b 8,b 9,b 10,b 11,b 12,b 13,b 14,b 15,b 16,b 17,b 18,b 19,b 20,b 21,b 22,b 23,b 24,b 25)
def vz (b:Nat→Bool):Nat→Nat→List Int
 | 0,_=>[]
 | m+1,i=>if b i then (i:Int)::vz b m (i+1) else vz b m (i+1)
section
variable {N:Nat} {e:Ex} (h:sizeE e < N) (h26:26 < N) (hB:sizeE e < 2 ^ 60)
include h h26 hB
end
end Go.Proofs
/- Powers modulo 9973. -/
namespace Go.Proofs
open Go Go.Ax Go.Ax.Alg
theorem pow_emod (a:Int) (m:Int):∀ n:Nat,(a % m) ^ n % m=a ^ n % m
 | 0=>by rw [Int.pow_zero,Int.pow_zero]
 | n+1=>by
   rw [Int.pow_succ,Int.pow_succ,Int.mul_emod,pow_emod a m n,Int.emod_emod,← Int.mul_emod]
theorem mul_emod_l (a b m:Int):(a % m * b) % m=(a * b) % m:=by rw [Int.mul_emod,Int.emod_emod,← Int.mul_emod]
theorem mul_emod_r (a b m:Int):(a * (b % m)) % m=(a * b) % m:=by rw [Int.mul_emod,Int.emod_emod,← Int.mul_emod]
theorem sq_pow (a:Int) (n:Nat):(a * a) ^ n=a ^ (2 * n):=by
 rw [Int.pow_mul,show a ^ 2=a * a by rw [Int.pow_succ,Int.pow_succ,Int.pow_zero,Int.one_mul]]
def V73 (x:Int):Prop:=0≤x∧x < 9973
theorem v_mul {a b:Int} (ha:V73 a) (hb:V73 b):0≤a * b∧a * b < 99460729:=by
 have h1:=Int.mul_nonneg ha.1 hb.1
 have h2:a * b≤9972 * 9972:=Int.mul_le_mul (by have:=ha.2;omega) (by have:=hb.2;omega) hb.1 (by decide)
 omega
theorem w_mul {a b:Int} (ha:V73 a) (hb:V73 b):(IntKind.i64.wrap (a * b)).tmod 9973=(a * b) % 9973:=by
 have:=v_mul ha hb
 rw [wr (by omega) (by omega),Int.tmod_eq_emod_of_nonneg this.1]
theorem v_emod (a:Int):V73 (a % 9973):=⟨Int.emod_nonneg _ (by decide),Int.emod_lt_of_pos _ (by decide)⟩
theorem w93_loop {N:Nat} {K:Int→O} {k1 k2:Unit→O}:∀ (n m:Nat) (a b out:Int),V73 a→V73 out→0≤b→b < 2 ^ n→n < m→b < 2 ^ 62→w93l0 N m (a,b,out) K k1 k2=K ((out * a ^ b.toNat) % 9973)
 | _,0,_,_,_,_,_,_,_,h,_=>by omega
 | 0,m+1,a,b,out,ha,ho,h0,hb,_,_=>by
   have:b=0:=by omega
   subst this
   show w93F0 _ _ _ _ _ _=_
   unfold w93F0
   simp only []
   rw [decide_eq_false (by omega),br_f]
   simp only [Int.toNat_zero,Int.pow_zero,Int.mul_one]
   rw [Int.emod_eq_of_lt ho.1 ho.2]
 | n+1,m+1,a,b,out,ha,ho,h0,hb,hm,h62=>by
   show w93F0 _ _ _ _ _ _=_
   unfold w93F0
   simp only []
   by_cases hz:0 < b
   case neg=>
    have:b=0:=by omega
    subst this
    rw [decide_eq_false (by omega),br_f]
    simp only [Int.toNat_zero,Int.pow_zero,Int.mul_one]
    rw [Int.emod_eq_of_lt ho.1 ho.2]
   have hpow:(2:Int) ^ (n+1)=2 * 2 ^ n:=by rw [Int.pow_succ];omega
   have htd:b.tdiv 2=b / 2:=Int.tdiv_eq_ediv_of_nonneg h0
   have htm:b.tmod 2=b % 2:=Int.tmod_eq_emod_of_nonneg h0
   rw [decide_eq_true hz,br_t]
   simp only [ck_t]
   rw [w_mul ha ha,w_mul ho ha,htd,htm,wr (x:=b / 2) (by omega) (by omega)]
   have ih:=fun out ho=>w93_loop (N:=N) (K:=K) (k1:=k1) (k2:=k2) n m (a * a % 9973) (b / 2) out (v_emod _) ho (by omega) (by omega) (by omega) (by omega)
   by_cases hodd:b % 2=1
   ·rw [decide_eq_true hodd,br_t,ih _ (v_emod _)]
    congr 1
    rw [mul_emod_l,← mul_emod_r,pow_emod,mul_emod_r,sq_pow,Int.mul_assoc]
    congr 2
    rw [show b.toNat=2 * (b / 2).toNat+1 by omega,Int.pow_succ,Int.mul_comm]
   ·rw [decide_eq_false hodd,br_f,ih _ ho]
    congr 1
    rw [← mul_emod_r,pow_emod,mul_emod_r,sq_pow]
    congr 2
    congr 1
    omega
theorem w93_z {N:Nat} (hN:20≤N) {a b:Int} (ha:V73 a) (h0:0≤b) (hb:b < 16384):w93z N a b=some (a ^ b.toNat % 9973):=by
 unfold w93z w93 w93G w93n0
 refine (congrArg (fun z:O=>z.bind w93un) (w93_loop (N:=N) (K:=fun y=>(fun z1=>some (w93r0 z1)) y) (k1:=fun _=>none) (k2:=fun _=>none) 14 N a b 1 ha ⟨by decide,by decide⟩ h0 (by omega) (by omega) (by omega))).trans ?_
 simp only [Int.one_mul]
 rfl
theorem w93_p {N:Nat} (hN:20≤N) {a b:Int} (ha:V73 a) (h0:0≤b) (hb:b < 16384):w93p N a b=true:=by unfold w93p;rw [w93_z hN ha h0 hb];rfl
theorem w93_y0 {N:Nat} (hN:20≤N) {a b:Int} (ha:V73 a) (h0:0≤b) (hb:b < 16384):w93y0 N a b=a ^ b.toNat % 9973:=by unfold w93y0;rw [w93_z hN ha h0 hb];rfl
end Go.Proofs
/- Square roots modulo 9973. -/
namespace Go.Proofs
open Go Go.Ax Go.Ax.Alg
def findR (a:Int):Nat→Nat→Option Nat
 | 0,_=>none
 | r+1,x=>if ((x:Int) * x) % 9973=a then some x else findR a r (x+1)
theorem findR_some {a:Int}:∀ (r x y:Nat),findR a r x=some y→x≤y∧y < x+r∧((y:Int) * y) % 9973=a
 | 0,_,_,h=>by cases h
 | r+1,x,y,h=>by
   unfold findR at h
   split at h
   ·rename_i e;cases h;exact ⟨Nat.le_refl _,by omega,e⟩
   ·have:=findR_some r (x+1) y h;omega
theorem w64_root {N:Nat} {rc:_} {a:Int} {K:Int×Bool→O} {k1 k2:Unit→O}:∀ (r x m:Nat),x+r=4987→r < m→w64l1 (N,rc) m (a,(x:Int)) K k1 k2=match findR a r x with | some y=>K ((y:Int),true) | none=>k1 ()
 | _,_,0,_,h=>by omega
 | 0,x,m+1,h,_=>by
   show w64F1 _ _ _ _ _ _=_
   unfold w64F1
   simp only []
   rw [decide_eq_false (by omega),br_f]
   rfl
 | r+1,x,m+1,h,hm=>by
   show w64F1 _ _ _ _ _ _=_
   unfold w64F1
   simp only []
   rw [decide_eq_true (by omega),br_t,ck_t,w_mul (a:=(x:Int)) (b:=(x:Int)) ⟨by omega,by omega⟩ ⟨by omega,by omega⟩,wr (x:=(x:Int)+1) (by omega) (by omega),show (x:Int)+1=((x+1:Nat):Int) by omega]
   unfold findR
   by_cases e:((x:Int) * x) % 9973=a
   ·rw [decide_eq_true e,br_t,if_pos e]
   ·rw [decide_eq_false e,br_f,if_neg e]
    exact w64_root r (x+1) m (by omega) (by omega)
def rootP (a:Int):Int×Bool:=match findR a 4987 0 with
 | some y=>((y:Int),true)
 | none=>(0,false)
end Go.Proofs
/- Values of trees. -/
namespace Go.Proofs
open Go Go.Ax Go.Ax.Alg
def opP (vs:List Int) (o a x y:Int):Int×Bool:=
 if o=0 then (a % 9973,true)
 else if o=1 then (match vs[a.toNat]? with | some v=>((v.tmod 9973+9973) % 9973,true) | none=>(0,false))
 else if o=2 then ((9973 - x) % 9973,true)
 else if o=3 then ((x+y) % 9973,true)
 else if o=4 then ((x+9973 - y) % 9973,true)
 else if o=5 then ((x * y) % 9973,true)
 else if o=6 then ((x * (y ^ 9971 % 9973)) % 9973,decide (y≠0))
 else if o=7 then (x ^ y.toNat % 9973,true)
 else if o=8 then rootP x
 else if o=9 then (if x=y then 1 else 0,true)
 else (if x < y then 1 else 0,true)
mutual
def valP (vs:List Int):Ex→Int×Bool
 | .mk o a ks=>match valL vs ks with
   | some l=>opP vs o a (l.getD 0 0) (l.getD 1 0)
   | none=>(0,false)
def valL (vs:List Int):List Ex→Option (List Int)
 | []=>some []
 | k::l=>match valP vs k with
   | (x,true)=>(match valL vs l with | some r=>some (x::r) | none=>none)
   | _=>none
end
theorem rootP_v {a:Int}:V73 (rootP a).1:=by
 unfold rootP
 split
 ·rename_i y h
  have:=findR_some _ _ _ h
  exact ⟨by show (0:Int)≤(y:Int);omega,by show (y:Int) < 9973;omega⟩
 ·exact ⟨by decide,by decide⟩
theorem opP_v {vs:List Int} {o a x y:Int}:V73 (opP vs o a x y).1:=by
 unfold opP
 split;· exact v_emod _
 split
 ·split
  ·exact v_emod _
  ·exact ⟨by decide,by decide⟩
 split;· exact v_emod _
 split;· exact v_emod _
 split;· exact v_emod _
 split;· exact v_emod _
 split;· exact v_emod _
 split;· exact v_emod _
 split;· exact rootP_v
 split
 ·split <;> exact ⟨by decide,by decide⟩
 ·split <;> exact ⟨by decide,by decide⟩
theorem valP_v {vs:List Int} {e:Ex}:V73 (valP vs e).1:=by
 cases e with | mk o a ks=>
 unfold valP
 split
 ·exact opP_v
 ·exact ⟨by decide,by decide⟩
end Go.Proofs
/- Values of trees: what the reference gives. -/
namespace Go.Proofs
open Go Go.Ax Go.Ax.Alg
theorem ok_shape {o a:Int} {ks:List Ex} {root:Bool} (h:okE (.mk o a ks) root=true):
    (o=0∧ks=[]∧0≤a∧a≤999999)∨(o=1∧ks=[]∧0≤a∧a≤25)∨((o=2∨o=8)∧∃ k,ks=[k]∧okE k false=true) ∨
    ((o=3∨o=4∨o=5∨o=6∨o=7∨o=9∨o=10)∧∃ k k',ks=[k,k']∧okE k false=true∧okE k' false=true):=by
 simp only [okE,here,Bool.and_eq_true,decide_eq_true_eq] at h
 obtain ⟨⟨⟨⟨h1,_⟩,h3⟩,h4⟩,h5⟩:=h
 unfold kidsI at h1
 unfold mostI at h4
 split at h1
 ·rename_i ho
  have:ks=[]:=List.eq_nil_of_length_eq_zero (by omega)
  subst this
  rcases ho with rfl | rfl
  ·exact .inl ⟨rfl,rfl,h3,by simpa using h4⟩
  ·exact .inr (.inl ⟨rfl,rfl,h3,by simpa using h4⟩)
 ·split at h1
  ·rename_i ho
   match ks,h1,h5 with
   | [k],_,h5=>
     simp only [okL,Bool.and_true] at h5
     exact .inr (.inr (.inl ⟨ho,k,rfl,h5⟩))
   | [],h1,_=>simp at h1
   | _::_::_,h1,_=>simp at h1;omega
  ·split at h1
   ·rename_i ho
    match ks,h1,h5 with
    | [k,k'],_,h5=>
      simp only [okL,Bool.and_true,Bool.and_eq_true] at h5
      exact .inr (.inr (.inr ⟨ho,k,k',rfl,h5.1,h5.2⟩))
    | [],h1,_=>simp at h1
    | [_],h1,_=>simp at h1
    | _::_::_::_,h1,_=>simp at h1;omega
   ·omega
end Go.Proofs
/- Values of trees: what the reference gives. -/
namespace Go.Proofs
open Go Go.Ax Go.Ax.Alg
theorem t73 {x:Int} (h:0≤x):x.tmod 9973=x % 9973:=Int.tmod_eq_emod_of_nonneg h
theorem var_v {v:Int} (_h:J64 v):(IntKind.i64.wrap (v.tmod 9973+9973)).tmod 9973=(v.tmod 9973+9973) % 9973:=by
 have h1:=Int.tmod_lt_of_pos v (show (0:Int) < 9973 by decide)
 have h2:-9973 < v.tmod 9973:=Int.lt_tmod_of_pos v (by decide)
 rw [wr (by omega) (by omega),t73 (by omega)]
end Go.Proofs
/- Values of trees: what the own function gives. -/
namespace Go.Proofs
open Go Go.Ax Go.Ax.Alg
section
variable {N:Nat} {rc:Int→Int→List Ex→List Int→Option (Int×Bool)} {vs:List Int} {o a:Int} {K0:Int×Bool→O} {K1:_→O} {k2:Unit→O}
theorem w64_end {ks ks':List Ex} {m:Nat} {x y:Int}:w64l0 (N,rc) (m+1) (vs,ks,(ks.length:Int),(ks.length:Int),o,a,ks',x,y) K0 K1 k2=K1 (vs,o,a,ks',x,y):=by
 show w64F0 _ _ _ _ _ _ _ _ _ _ _ _ _=_
 unfold w64F0
 simp only []
 rw [decide_eq_false (by omega),br_f]
theorem w64_k0 {k:Ex} {l ks':List Ex} {m:Nat} {x y:Int} {p:Int×Bool} (hr:rc k.op k.num k.kids vs=some p) (_hl:l.length < 2 ^ 60):
    w64l0 (N,rc) (m+1) (vs,k::l,((k::l).length:Int),0,o,a,ks',x,y) K0 K1 k2=br (!p.2) (K0 (0,false)) (w64l0 (N,rc) m (vs,k::l,((k::l).length:Int),1,o,a,ks',p.1,y) K0 K1 k2):=by
 show w64F0 _ _ _ _ _ _ _ _ _ _ _ _ _=_
 unfold w64F0
 simp only []
 rw [decide_eq_true (by simp),br_t,gx_0]
 simp only [hr,Option.isSome_some,ck_t,Option.getD_some]
 rfl
theorem w64_k1 {k k':Ex} {ks':List Ex} {m:Nat} {x y:Int} {p:Int×Bool} (hr:rc k'.op k'.num k'.kids vs=some p):
    w64l0 (N,rc) (m+1) (vs,[k,k'],2,1,o,a,ks',x,y) K0 K1 k2=br (!p.2) (K0 (0,false)) (w64l0 (N,rc) m (vs,[k,k'],2,2,o,a,ks',x,p.1) K0 K1 k2):=by
 show w64F0 _ _ _ _ _ _ _ _ _ _ _ _ _=_
 unfold w64F0
 simp only []
 rw [decide_eq_true (by decide),br_t,gx_1]
 simp only [hr,Option.isSome_some,ck_t,Option.getD_some]
 rfl
end
theorem w92_z (N:Nat) (b:Bool):w92z N b=some (if b then 1 else 0,true):=by cases b <;> rfl
theorem w92_p {N:Nat} {b:Bool}:w92p N b=true:=by unfold w92p;rw [w92_z];rfl
theorem w92_y0 {N:Nat} {b:Bool}:w92y0 N b=if b then 1 else 0:=by unfold w92y0;rw [w92_z];rfl
theorem w92_y1 {N:Nat} {b:Bool}:w92y1 N b=true:=by unfold w92y1;rw [w92_z];rfl
theorem w64_eq {N:Nat} (hN:10000≤N) {vs:List Int} (hv:∀ v ∈ vs,J64 v):∀ (n:Nat) (e:Ex) (root:Bool),okE e root=true→sizeE e≤n→w64Y N n e.op e.num e.kids vs=some (valP vs e)
 | 0,e,_,_,h=>by have:=size_pos e;omega
 | n+1,.mk o a ks,root,hok,h=>by
   show w64z (N,w64Y N n) o a ks vs=_
   unfold w64z w64 w64G w64n0
   obtain ⟨m,rfl⟩:∃ m,N=m+3:=⟨N - 3,by omega⟩
   rcases ok_shape hok with ⟨rfl,rfl,a0,a1⟩ | ⟨rfl,rfl,a0,a1⟩ | ⟨ho,k,rfl,hk⟩ | ⟨ho,k,k',rfl,hk,hk'⟩
   ·refine (congrArg (fun z:O=>z.bind w64un) (w64_end (ks:=[]))).trans ?_
    simp only [decide_true,br_t,ck_t,valP,valL,opP,if_true]
    rw [t73 a0]
    rfl
   ·refine (congrArg (fun z:O=>z.bind w64un) (w64_end (ks:=[]))).trans ?_
    simp only [Int.reduceEq,decide_true,decide_false,br_t,br_f,valP,valL,opP,if_false,if_true]
    by_cases hl:(vs.length:Int)≤a
    ·rw [decide_eq_true hl,br_t,List.getElem?_eq_none (by omega)]
     rfl
    ·have hi:a.toNat < vs.length:=by omega
     rw [decide_eq_false hl,br_f,gx_of a0 (List.getElem?_eq_getElem hi),List.getElem?_eq_getElem hi]
     simp only [ck_t]
     rw [var_v (hv _ (List.getElem_mem hi))]
     rfl
   ·simp only [sizeE,sizeL] at h
    have e1:=w64_eq hN hv n k false hk (by omega)
    have hx:V73 (valP vs k).1:=valP_v
    refine (congrArg (fun z:O=>z.bind w64un) (w64_k0 e1 (by simp))).trans ?_
    simp only [valP,valL]
    generalize valP vs k=p at hx
    obtain ⟨x,b⟩:=p
    cases b with
    | false=>rfl
    | true=>
      simp only [Bool.not_true,br_f,List.getD_cons_zero]
      refine (congrArg (fun z:O=>z.bind w64un) (w64_end (ks:=[k]))).trans ?_
      rcases ho with rfl | rfl
      ·simp only [decide_true,decide_false,br_t,br_f,ck_t,opP,Int.reduceEq,if_false,if_true]
       rw [wr (by have:=hx.1;have:=hx.2;omega) (by have:=hx.1;have:=hx.2;omega),t73 (by have:=hx.2;omega)]
       rfl
      ·simp only [Int.reduceEq,decide_true,decide_false,br_t,br_f,opP,if_false,if_true]
       unfold w64n1
       refine (congrArg (fun z:O=>z.bind w64un) (w64_root (a:=x) 4987 0 (m+3) rfl (by omega))).trans ?_
       unfold rootP
       cases findR x 4987 0 <;> rfl
   ·simp only [sizeE,sizeL] at h
    have e1:=w64_eq hN hv n k false hk (by omega)
    have e2:=w64_eq hN hv n k' false hk' (by omega)
    have hx:V73 (valP vs k).1:=valP_v
    have hy:V73 (valP vs k').1:=valP_v
    refine (congrArg (fun z:O=>z.bind w64un) (w64_k0 e1 (by simp))).trans ?_
    simp only [valP,valL]
    generalize valP vs k=p at hx
    obtain ⟨x,b⟩:=p
    cases b with
    | false=>rfl
    | true=>
      simp only [Bool.not_true,br_f]
      refine (congrArg (fun z:O=>z.bind w64un) (w64_k1 e2)).trans ?_
      generalize valP vs k'=q at hy
      obtain ⟨y,b'⟩:=q
      cases b' with
      | false=>rfl
      | true=>
        simp only [Bool.not_true,br_f,List.getD_cons_zero,List.getD_cons_succ]
        refine (congrArg (fun z:O=>z.bind w64un) (w64_end (ks:=[k,k']))).trans ?_
        have x0:=hx.1;have x1:=hx.2;have y0:=hy.1;have y1:=hy.2
        simp only at x0 x1 y0 y1
        rcases ho with rfl | rfl | rfl | rfl | rfl | rfl | rfl
        ·simp only [Int.reduceEq,decide_true,decide_false,br_t,br_f,ck_t,opP,if_false,if_true]
         rw [wr (x:=x+y) (by omega) (by omega),t73 (by omega)]
         rfl
        ·simp only [Int.reduceEq,decide_true,decide_false,br_t,br_f,ck_t,opP,if_false,if_true]
         rw [wr (x:=x+9973) (by omega) (by omega),wr (x:=x+9973 - y) (by omega) (by omega),t73 (by omega)]
         rfl
        ·simp only [Int.reduceEq,decide_true,decide_false,br_t,br_f,ck_t,opP,if_false,if_true]
         rw [w_mul hx hy]
         rfl
        ·simp only [Int.reduceEq,decide_true,decide_false,br_t,br_f,ck_t,opP,if_false,if_true]
         rw [ck_of (w93_p (by omega) hy (by decide) (by decide)),w93_y0 (by omega) hy (by decide) (by decide),w_mul hx (v_emod _)]
         rfl
        ·simp only [Int.reduceEq,decide_true,decide_false,br_t,br_f,ck_t,opP,if_false,if_true]
         rw [ck_of (w93_p (by omega) hx y0 (by omega)),w93_y0 (by omega) hx y0 (by omega)]
         rfl
        ·simp only [Int.reduceEq,decide_true,decide_false,br_t,br_f,opP,if_false,if_true]
         rw [ck_of w92_p,w92_y0,w92_y1]
         simp only [decide_eq_true_eq]
         rfl
        ·simp only [Int.reduceEq,decide_false,br_f,opP,if_false]
         rw [ck_of w92_p,w92_y0,w92_y1]
         simp only [decide_eq_true_eq]
         rfl
end Go.Proofs
/- The value of a formula: both functions agree. -/
namespace Go.Proofs
open Go Go.Ax Go.Ax.Alg
def valueP (vs:List Int) (e:Ex):Int×Bool:=if validE e=0 then (if (valP vs e).2 then ((valP vs e).1,true) else (0,false)) else (0,false)
theorem valid_ok {e:Ex} (h:validE e=0):okE e true=true:=by
 unfold validE at h
 split at h
 ·cases h
 ·split at h
  ·rename_i hb;exact hb
  ·cases h
theorem w28_z {N:Nat} (hN:10000≤N) {vs:List Int} (hv:∀ v ∈ vs,J64 v) {e:Ex} (h:4 * sizeE e < N) (hB:sizeE e < 2 ^ 60):w28z N e.op e.num e.kids vs=some (valueP vs e):=by
 cases e with | mk o a ks=>
 have p:=w17_p h hB
 have y:=w17_y0 h hB
 simp only [Ex.op,Ex.num,Ex.kids] at p y ⊢
 unfold w28z w28 w28G valueP
 simp only [p,y,ck_t]
 by_cases hz:validE (.mk o a ks)=0
 ·rw [decide_eq_false (by simpa using hz),br_f,if_pos hz]
  have e1:=w64_eq hN hv N (.mk o a ks) true (valid_ok hz) (by omega)
  have e2:w64Y N N o a ks vs=some (valP vs (.mk o a ks)):=e1
  have p1:w64p N o a ks vs=true:=by unfold w64p;rw [e2];rfl
  have y0:w64y0 N o a ks vs=(valP vs (.mk o a ks)).1:=by unfold w64y0;rw [e2];rfl
  have y1:w64y1 N o a ks vs=(valP vs (.mk o a ks)).2:=by unfold w64y1;rw [e2];rfl
  rw [ck_of p1,y0,y1]
  cases (valP vs (.mk o a ks)).2 <;> rfl
 ·rw [decide_eq_true hz,br_t,if_neg hz]
  rfl
section
variable {N:Nat} (hN:10000≤N) {vs:List Int} (hv:∀ v ∈ vs,J64 v) {e:Ex} (h:4 * sizeE e < N) (hB:sizeE e < 2 ^ 60)
include hN hv h hB
theorem w28_p:w28p N e.op e.num e.kids vs=true:=by unfold w28p;rw [w28_z hN hv h hB];rfl
theorem w28_y0:w28y0 N e.op e.num e.kids vs=(valueP vs e).1:=by unfold w28y0;rw [w28_z hN hv h hB];rfl
theorem w28_y1:w28y1 N e.op e.num e.kids vs=(valueP vs e).2:=by unfold w28y1;rw [w28_z hN hv h hB];rfl
end
end Go.Proofs
/- The first elements of a list. -/
namespace Go.Proofs
open Go Go.Ax Go.Ax.Alg
theorem w25_z {N:Nat} {l:List Int} (hl:l.length < 2 ^ 47):w25z N l 26=some (l.take 26):=by
 unfold w25z w25 w25G
 have hm:(min (l.length:Int) 26).toNat=min l.length 26:=by omega
 have ht:slc l none (some (min (l.length:Int) 26))=l.take 26:=by
  show l.take _=_
  rw [hm,Nat.min_comm]
  rw [List.take_eq_take_iff]
  omega
 rw [ck_of (by unfold slcOk;simp;omega),ht,ck_of (by unfold lim;simp;omega)]
 rfl
theorem w25_p {N:Nat} {l:List Int} (hl:l.length < 2 ^ 47):w25p N l 26=true:=by unfold w25p;rw [w25_z hl];rfl
theorem w25_y0 {N:Nat} {l:List Int} (hl:l.length < 2 ^ 47):w25y0 N l 26=l.take 26:=by unfold w25y0;rw [w25_z hl];rfl
end Go.Proofs
/- A value depends on the variables that occur. -/
namespace Go.Proofs
open Go Go.Ax Go.Ax.Alg
end Go.Proofs
