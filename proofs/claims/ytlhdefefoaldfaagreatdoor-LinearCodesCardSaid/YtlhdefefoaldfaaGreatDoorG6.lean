/- Texts of trees. Conditions are in the theorems. -/
import Derived.Test.YtlhdefefoaldfaaGreatDoorG1
import Derived.Test.YtlhdefefoaldfaaGreatDoorG5
import Derived.Test.YtlhdefefoaldfaaGreatDoorF2
/- Powers modulo 9973. -/
namespace Go.Proofs
open Go Go.Ax Go.Ax.Alg
theorem pow_emod (a:Int) (m:Int):∀ n:Nat,(a % m) ^ n % m=a ^ n % m
 | 0=>by rw [Int.pow_zero,Int.pow_zero]
 | n+1=>by
   rw [Int.pow_succ,Int.pow_succ,Int.mul_emod,pow_emod a m n,Int.emod_emod,← Int.mul_emod]
theorem mul_emod_l (a b m:Int):(a % m * b) % m=(a * b) % m:=by rw [Int.mul_emod,Int.emod_emod,← Int.mul_emod]
theorem mul_emod_r (a b m:Int):(a * (b % m)) % m=(a * b) % m:=by rw [Int.mul_emod,Int.emod_emod,← Int.mul_emod]
theorem sq_pow (a:Int) (n:Nat):(a * a) ^ n=a ^ (2 * n):=by
 rw [Int.pow_mul,show a ^ 2=a * a by rw [Int.pow_succ,Int.pow_succ,Int.pow_zero,Int.one_mul]]
def V73 (x:Int):Prop:=0≤x∧x < 9973
theorem v_mul {a b:Int} (ha:V73 a) (hb:V73 b):0≤a * b∧a * b < 99460729:=by
 have h1:=Int.mul_nonneg ha.1 hb.1
 have h2:a * b≤9972 * 9972:=Int.mul_le_mul (by have:=ha.2;omega) (by have:=hb.2;omega) hb.1 (by decide)
 omega
theorem w_mul {a b:Int} (ha:V73 a) (hb:V73 b):(IntKind.i64.wrap (a * b)).tmod 9973=(a * b) % 9973:=by
 have:=v_mul ha hb
 rw [wr (by omega) (by omega),Int.tmod_eq_emod_of_nonneg this.1]
theorem v_emod (a:Int):V73 (a % 9973):=⟨Int.emod_nonneg _ (by decide),Int.emod_lt_of_pos _ (by decide)⟩
theorem w93_loop {N:Nat} {K:Int→O} {k1 k2:Unit→O}:∀ (n m:Nat) (a b out:Int),V73 a→V73 out→0≤b→b < 2 ^ n→n < m→b < 2 ^ 62→w93l0 N m (a,b,out) K k1 k2=K ((out * a ^ b.toNat) % 9973)
 | _,0,_,_,_,_,_,_,_,h,_=>by omega
 | 0,m+1,a,b,out,ha,ho,h0,hb,_,_=>by
   have:b=0:=by omega
   subst this
   show w93F0 _ _ _ _ _ _=_
   unfold w93F0
   simp only []
   rw [decide_eq_false (by omega),br_f]
   simp only [Int.toNat_zero,Int.pow_zero,Int.mul_one]
   rw [Int.emod_eq_of_lt ho.1 ho.2]
 | n+1,m+1,a,b,out,ha,ho,h0,hb,hm,h62=>by
   show w93F0 _ _ _ _ _ _=_
   unfold w93F0
   simp only []
   by_cases hz:0 < b
   case neg=>
    have:b=0:=by omega
    subst this
    rw [decide_eq_false (by omega),br_f]
    simp only [Int.toNat_zero,Int.pow_zero,Int.mul_one]
    rw [Int.emod_eq_of_lt ho.1 ho.2]
   have hpow:(2:Int) ^ (n+1)=2 * 2 ^ n:=by rw [Int.pow_succ];omega
   have htd:b.tdiv 2=b / 2:=Int.tdiv_eq_ediv_of_nonneg h0
   have htm:b.tmod 2=b % 2:=Int.tmod_eq_emod_of_nonneg h0
   rw [decide_eq_true hz,br_t]
   simp only [ck_t]
   rw [w_mul ha ha,w_mul ho ha,htd,htm,wr (x:=b / 2) (by omega) (by omega)]
   have ih:=fun out ho=>w93_loop (N:=N) (K:=K) (k1:=k1) (k2:=k2) n m (a * a % 9973) (b / 2) out (v_emod _) ho (by omega) (by omega) (by omega) (by omega)
   by_cases hodd:b % 2=1
   ·rw [decide_eq_true hodd,br_t,ih _ (v_emod _)]
    congr 1
    rw [mul_emod_l,← mul_emod_r,pow_emod,mul_emod_r,sq_pow,Int.mul_assoc]
    congr 2
    rw [show b.toNat=2 * (b / 2).toNat+1 by omega,Int.pow_succ,Int.mul_comm]
   ·rw [decide_eq_false hodd,br_f,ih _ ho]
    congr 1
    rw [← mul_emod_r,pow_emod,mul_emod_r,sq_pow]
    congr 2
    congr 1
    omega
theorem w93_z {N:Nat} (hN:20≤N) {a b:Int} (ha:V73 a) (h0:0≤b) (hb:b < 16384):w93z N a b=some (a ^ b.toNat % 9973):=by
 unfold w93z w93 w93G w93n0
 refine (congrArg (fun z:O=>z.bind w93un) (w93_loop (N:=N) (K:=fun y=>(fun z1=>some (w93r0 z1)) y) (k1:=fun _=>none) (k2:=fun _=>none) 14 N a b 1 ha ⟨by decide,by decide⟩ h0 (by omega) (by omega) (by omega))).trans ?_
 simp only [Int.one_mul]
 rfl
theorem w93_p {N:Nat} (hN:20≤N) {a b:Int} (ha:V73 a) (h0:0≤b) (hb:b < 16384):w93p N a b=true:=by unfold w93p;rw [w93_z hN ha h0 hb];rfl
theorem w93_y0 {N:Nat} (hN:20≤N) {a b:Int} (ha:V73 a) (h0:0≤b) (hb:b < 16384):w93y0 N a b=a ^ b.toNat % 9973:=by unfold w93y0;rw [w93_z hN ha h0 hb];rfl
theorem w110_loop {N:Nat} {K:Int→O} {k1 k2:Unit→O}:∀ (n m:Nat) (a b out:Int),V73 a→V73 out→0≤b→b < 2 ^ n→n < m→b < 2 ^ 62→w110l0 N m (a,b,out) K k1 k2=K ((out * a ^ b.toNat) % 9973)
 | _,0,_,_,_,_,_,_,_,h,_=>by omega
 | 0,m+1,a,b,out,ha,ho,h0,hb,_,_=>by
   have:b=0:=by omega
   subst this
   show w110F0 _ _ _ _ _ _=_
   unfold w110F0
   simp only []
   rw [decide_eq_false (by omega),br_f]
   simp only [Int.toNat_zero,Int.pow_zero,Int.mul_one]
   rw [Int.emod_eq_of_lt ho.1 ho.2]
 | n+1,m+1,a,b,out,ha,ho,h0,hb,hm,h62=>by
   show w110F0 _ _ _ _ _ _=_
   unfold w110F0
   simp only []
   by_cases hz:0 < b
   case neg=>
    have:b=0:=by omega
    subst this
    rw [decide_eq_false (by omega),br_f]
    simp only [Int.toNat_zero,Int.pow_zero,Int.mul_one]
    rw [Int.emod_eq_of_lt ho.1 ho.2]
   have hpow:(2:Int) ^ (n+1)=2 * 2 ^ n:=by rw [Int.pow_succ];omega
   have htd:b.tdiv 2=b / 2:=Int.tdiv_eq_ediv_of_nonneg h0
   have htm:b.tmod 2=b % 2:=Int.tmod_eq_emod_of_nonneg h0
   rw [decide_eq_true hz,br_t]
   simp only [ck_t]
   rw [w_mul ha ha,w_mul ho ha,htd,htm,wr (x:=b / 2) (by omega) (by omega)]
   have ih:=fun out ho=>w110_loop (N:=N) (K:=K) (k1:=k1) (k2:=k2) n m (a * a % 9973) (b / 2) out (v_emod _) ho (by omega) (by omega) (by omega) (by omega)
   by_cases hodd:b % 2=1
   ·rw [decide_eq_true hodd,br_t,ih _ (v_emod _)]
    congr 1
    rw [mul_emod_l,← mul_emod_r,pow_emod,mul_emod_r,sq_pow,Int.mul_assoc]
    congr 2
    rw [show b.toNat=2 * (b / 2).toNat+1 by omega,Int.pow_succ,Int.mul_comm]
   ·rw [decide_eq_false hodd,br_f,ih _ ho]
    congr 1
    rw [← mul_emod_r,pow_emod,mul_emod_r,sq_pow]
    congr 2
    congr 1
    omega
theorem w110_z {N:Nat} (hN:20≤N) {a b:Int} (ha:V73 a) (h0:0≤b) (hb:b < 16384):w110z N a b=some (a ^ b.toNat % 9973):=by
 unfold w110z w110 w110G w110n0
 refine (congrArg (fun z:O=>z.bind w110un) (w110_loop (N:=N) (K:=fun y=>(fun z1=>some (w110r0 z1)) y) (k1:=fun _=>none) (k2:=fun _=>none) 14 N a b 1 ha ⟨by decide,by decide⟩ h0 (by omega) (by omega) (by omega))).trans ?_
 simp only [Int.one_mul]
 rfl
theorem w110_p {N:Nat} (hN:20≤N) {a b:Int} (ha:V73 a) (h0:0≤b) (hb:b < 16384):w110p N a b=true:=by unfold w110p;rw [w110_z hN ha h0 hb];rfl
theorem w110_y0 {N:Nat} (hN:20≤N) {a b:Int} (ha:V73 a) (h0:0≤b) (hb:b < 16384):w110y0 N a b=a ^ b.toNat % 9973:=by unfold w110y0;rw [w110_z hN ha h0 hb];rfl
end Go.Proofs
/- Square roots modulo 9973. -/
namespace Go.Proofs
open Go Go.Ax Go.Ax.Alg
def findR (a:Int):Nat→Nat→Option Nat
 | 0,_=>none
 | r+1,x=>if ((x:Int) * x) % 9973=a then some x else findR a r (x+1)
theorem findR_none {a:Int}:∀ (r x:Nat),(∀ y,x≤y→y < x+r→((y:Int) * y) % 9973≠a)→findR a r x=none
 | 0,_,_=>rfl
 | r+1,x,h=>by
   unfold findR
   rw [if_neg (h x (Nat.le_refl _) (by omega))]
   exact findR_none r (x+1) fun y h1 h2=>h y (by omega) (by omega)
theorem findR_no {a:Int}:∀ (r x:Nat),findR a r x=none→∀ y,x≤y→y < x+r→((y:Int) * y) % 9973≠a
 | 0,_,_,y,h1,h2=>by omega
 | r+1,x,h,y,h1,h2=>by
   unfold findR at h
   split at h
   ·cases h
   ·rename_i hne
    by_cases e:y=x
    ·subst e;exact hne
    ·exact findR_no r (x+1) h y (by omega) (by omega)
theorem findR_some {a:Int}:∀ (r x y:Nat),findR a r x=some y→x≤y∧y < x+r∧((y:Int) * y) % 9973=a
 | 0,_,_,h=>by cases h
 | r+1,x,y,h=>by
   unfold findR at h
   split at h
   ·rename_i e;cases h;exact ⟨Nat.le_refl _,by omega,e⟩
   ·have:=findR_some r (x+1) y h;omega
theorem findR_app {a:Int}:∀ r s x,findR a (r+s) x=match findR a r x with | some y=>some y | none=>findR a s (x+r)
 | 0,s,x=>by rw [Nat.zero_add];rfl
 | r+1,s,x=>by
   rw [show r+1+s=(r+s)+1 by omega]
   have st:∀ r,findR a (r+1) x=if ((x:Int) * x) % 9973=a then some x else findR a r (x+1):=fun _=>rfl
   rw [st,st]
   split
   ·rfl
   ·rw [findR_app r s (x+1),show x+1+r=x+(r+1) by omega]
theorem findR_half (a:Int):findR a 9973 0=findR a 4987 0:=by
 rw [show 9973=4987+4986 by rfl,findR_app]
 cases h:findR a 4987 0 with
 | some y=>rfl
 | none=>
   refine findR_none _ _ fun y h1 h2 e=>?_
   have:=findR_no _ _ h (9973 - y) (by omega) (by omega)
   refine this ?_
   rw [← e,show ((9973 - y:Nat):Int)=9973 - (y:Int) by omega]
   have:(9973 - (y:Int)) * (9973 - (y:Int))=(y:Int) * y+9973 * (9973 - 2 * (y:Int)):=by
    rw [Int.sub_mul,Int.mul_sub,Int.mul_sub,Int.mul_sub]
    have:(y:Int) * 9973=9973 * y:=Int.mul_comm _ _
    omega
   rw [this,Int.add_mul_emod_self_left]
theorem w94_loop {N:Nat} {a:Int} {K:Int×Bool→O} {k1 k2:Unit→O}:∀ (r x m:Nat),x+r=9973→r < m→w94l0 N m (a,(x:Int)) K k1 k2=match findR a r x with | some y=>K ((y:Int),true) | none=>k1 ()
 | _,_,0,_,h=>by omega
 | 0,x,m+1,h,_=>by
   show w94F0 _ _ _ _ _ _=_
   unfold w94F0
   simp only []
   rw [decide_eq_false (by omega),br_f]
   rfl
 | r+1,x,m+1,h,hm=>by
   show w94F0 _ _ _ _ _ _=_
   unfold w94F0
   simp only []
   rw [decide_eq_true (by omega),br_t,ck_t,w_mul (a:=(x:Int)) (b:=(x:Int)) ⟨by omega,by omega⟩ ⟨by omega,by omega⟩,wr (x:=(x:Int)+1) (by omega) (by omega),show (x:Int)+1=((x+1:Nat):Int) by omega]
   unfold findR
   by_cases e:((x:Int) * x) % 9973=a
   ·rw [decide_eq_true e,br_t,if_pos e]
   ·rw [decide_eq_false e,br_f,if_neg e]
    exact w94_loop r (x+1) m (by omega) (by omega)
theorem w64_root {N:Nat} {rc:_} {a:Int} {K:Int×Bool→O} {k1 k2:Unit→O}:∀ (r x m:Nat),x+r=4987→r < m→w64l1 (N,rc) m (a,(x:Int)) K k1 k2=match findR a r x with | some y=>K ((y:Int),true) | none=>k1 ()
 | _,_,0,_,h=>by omega
 | 0,x,m+1,h,_=>by
   show w64F1 _ _ _ _ _ _=_
   unfold w64F1
   simp only []
   rw [decide_eq_false (by omega),br_f]
   rfl
 | r+1,x,m+1,h,hm=>by
   show w64F1 _ _ _ _ _ _=_
   unfold w64F1
   simp only []
   rw [decide_eq_true (by omega),br_t,ck_t,w_mul (a:=(x:Int)) (b:=(x:Int)) ⟨by omega,by omega⟩ ⟨by omega,by omega⟩,wr (x:=(x:Int)+1) (by omega) (by omega),show (x:Int)+1=((x+1:Nat):Int) by omega]
   unfold findR
   by_cases e:((x:Int) * x) % 9973=a
   ·rw [decide_eq_true e,br_t,if_pos e]
   ·rw [decide_eq_false e,br_f,if_neg e]
    exact w64_root r (x+1) m (by omega) (by omega)
def rootP (a:Int):Int×Bool:=match findR a 4987 0 with
 | some y=>((y:Int),true)
 | none=>(0,false)
theorem w94_z {N:Nat} (hN:10000≤N) {a:Int}:w94z N a=some (rootP a):=by
 unfold w94z w94 w94G w94n0
 refine (congrArg (fun z:O=>z.bind w94un) (w94_loop (N:=N) (a:=a) (K:=fun y=>(fun z1 z2=>some (w94r0 z1 z2)) y.1 y.2) (k1:=fun _=>some (w94r0 0 false)) (k2:=fun _=>none) 9973 0 N rfl (by omega))).trans ?_
 rw [findR_half]
 unfold rootP
 cases findR a 4987 0 <;> rfl
theorem w94_p {N:Nat} (hN:10000≤N) {a:Int}:w94p N a=true:=by unfold w94p;rw [w94_z hN];rfl
theorem w94_y0 {N:Nat} (hN:10000≤N) {a:Int}:w94y0 N a=(rootP a).1:=by unfold w94y0;rw [w94_z hN];rfl
theorem w94_y1 {N:Nat} (hN:10000≤N) {a:Int}:w94y1 N a=(rootP a).2:=by unfold w94y1;rw [w94_z hN];rfl
end Go.Proofs
/- Values of trees. -/
namespace Go.Proofs
open Go Go.Ax Go.Ax.Alg
def opP (vs:List Int) (o a x y:Int):Int×Bool:=
 if o=0 then (a % 9973,true)
 else if o=1 then (match vs[a.toNat]? with | some v=>((v.tmod 9973+9973) % 9973,true) | none=>(0,false))
 else if o=2 then ((9973 - x) % 9973,true)
 else if o=3 then ((x+y) % 9973,true)
 else if o=4 then ((x+9973 - y) % 9973,true)
 else if o=5 then ((x * y) % 9973,true)
 else if o=6 then ((x * (y ^ 9971 % 9973)) % 9973,decide (y≠0))
 else if o=7 then (x ^ y.toNat % 9973,true)
 else if o=8 then rootP x
 else if o=9 then (if x=y then 1 else 0,true)
 else (if x < y then 1 else 0,true)
mutual
def valP (vs:List Int):Ex→Int×Bool
 | .mk o a ks=>match valL vs ks with
   | some l=>opP vs o a (l.getD 0 0) (l.getD 1 0)
   | none=>(0,false)
def valL (vs:List Int):List Ex→Option (List Int)
 | []=>some []
 | k::l=>match valP vs k with
   | (x,true)=>(match valL vs l with | some r=>some (x::r) | none=>none)
   | _=>none
end
theorem rootP_v {a:Int}:V73 (rootP a).1:=by
 unfold rootP
 split
 ·rename_i y h
  have:=findR_some _ _ _ h
  exact ⟨by show (0:Int)≤(y:Int);omega,by show (y:Int) < 9973;omega⟩
 ·exact ⟨by decide,by decide⟩
theorem opP_v {vs:List Int} {o a x y:Int}:V73 (opP vs o a x y).1:=by
 unfold opP
 split;· exact v_emod _
 split
 ·split
  ·exact v_emod _
  ·exact ⟨by decide,by decide⟩
 split;· exact v_emod _
 split;· exact v_emod _
 split;· exact v_emod _
 split;· exact v_emod _
 split;· exact v_emod _
 split;· exact v_emod _
 split;· exact rootP_v
 split
 ·split <;> exact ⟨by decide,by decide⟩
 ·split <;> exact ⟨by decide,by decide⟩
theorem valP_v {vs:List Int} {e:Ex}:V73 (valP vs e).1:=by
 cases e with | mk o a ks=>
 unfold valP
 split
 ·exact opP_v
 ·exact ⟨by decide,by decide⟩
end Go.Proofs
/- Values of trees: what the reference gives. -/
namespace Go.Proofs
open Go Go.Ax Go.Ax.Alg
theorem ok_shape {o a:Int} {ks:List Ex} {root:Bool} (h:okE (.mk o a ks) root=true):
    (o=0∧ks=[]∧0≤a∧a≤999999)∨(o=1∧ks=[]∧0≤a∧a≤25)∨((o=2∨o=8)∧∃ k,ks=[k]∧okE k false=true) ∨
    ((o=3∨o=4∨o=5∨o=6∨o=7∨o=9∨o=10)∧∃ k k',ks=[k,k']∧okE k false=true∧okE k' false=true):=by
 simp only [okE,here,Bool.and_eq_true,decide_eq_true_eq] at h
 obtain ⟨⟨⟨⟨h1,_⟩,h3⟩,h4⟩,h5⟩:=h
 unfold kidsI at h1
 unfold mostI at h4
 split at h1
 ·rename_i ho
  have:ks=[]:=List.eq_nil_of_length_eq_zero (by omega)
  subst this
  rcases ho with rfl | rfl
  ·exact .inl ⟨rfl,rfl,h3,by simpa using h4⟩
  ·exact .inr (.inl ⟨rfl,rfl,h3,by simpa using h4⟩)
 ·split at h1
  ·rename_i ho
   match ks,h1,h5 with
   | [k],_,h5=>
     simp only [okL,Bool.and_true] at h5
     exact .inr (.inr (.inl ⟨ho,k,rfl,h5⟩))
   | [],h1,_=>simp at h1
   | _::_::_,h1,_=>simp at h1;omega
  ·split at h1
   ·rename_i ho
    match ks,h1,h5 with
    | [k,k'],_,h5=>
      simp only [okL,Bool.and_true,Bool.and_eq_true] at h5
      exact .inr (.inr (.inr ⟨ho,k,k',rfl,h5.1,h5.2⟩))
    | [],h1,_=>simp at h1
    | [_],h1,_=>simp at h1
    | _::_::_::_,h1,_=>simp at h1;omega
   ·omega
end Go.Proofs
/- Texts of trees: what both print. -/
namespace Go.Proofs
open Go Go.Ax Go.Ax.Alg
theorem atE_len {k:Nat} {e:Ex}:(atE k e).length≤(txE e).length+2:=by
 by_cases h:lvlN e.op < k
 ·rw [atE_lo h];simp
 ·rw [atE_hi (by omega)];omega
theorem txE_len:∀ (n:Nat) (e:Ex) (root:Bool),sizeE e≤n→okE e root=true→(txE e).length+2≤8 * sizeE e
 | 0,e,_,h,_=>by have:=size_pos e;omega
 | n+1,.mk o a ks,root,h,ok=>by
   rcases ok_shape ok with ⟨rfl,rfl,h0,h1⟩ | ⟨rfl,rfl,h0,h1⟩ | ⟨ho,k,rfl,hk⟩ | ⟨ho,k,k',rfl,hk,hk'⟩
   ·have:=dec_len6 (u:=a.toNat) (by omega)
    rw [txE_num];simp only [sizeE,sizeL];omega
   ·rw [txE_var];simp [sizeE,sizeL]
   ·have hs:sizeE k≤n:=by simp only [sizeE,sizeL] at h;omega
    have ih:=txE_len n k false hs hk
    rcases ho with rfl | rfl
    ·have:=atE_len (k:=3) (e:=k)
     rw [txE_neg];simp only [sizeE,sizeL,List.length_cons];omega
    ·have:=atE_len (k:=1) (e:=k)
     rw [txE_root];simp only [sizeE,sizeL,List.length_cons,List.length_append,List.length_nil];omega
   ·have hs:sizeE k≤n∧sizeE k'≤n:=by simp only [sizeE,sizeL] at h;omega
    have ih:=txE_len n k false hs.1 hk
    have ih':=txE_len n k' false hs.2 hk'
    by_cases h7:o=7
    ·subst h7
     have a:=atE_len (k:=4) (e:=k)
     have b:=atE_len (k:=3) (e:=k')
     rw [txE_pow];simp only [sizeE,sizeL,List.length_cons,List.length_append];omega
    ·have a:=atE_len (k:=max 1 (lvlN o)) (e:=k)
     have b:=atE_len (k:=lvlN o+1) (e:=k')
     rw [txE_two (by omega)];simp only [sizeE,sizeL,List.length_cons,List.length_append];omega
theorem w90_z {N:Nat} {a:Int} {g:Tx} (h0:0≤a) (h1:a≤999999) (hg:g.length≤2 ^ 42):w90p N a 10 g=true∧w90y0 N a 10 g=g++Lib.decDigits a.toNat:=by
 have hu:IntKind.u64.wrap a=a:=by
  show a % 18446744073709551616=a
  omega
 have p:w109p N a 10 g=true:=by
  unfold w109p
  rw [decide_eq_true rfl,decide_eq_true (by omega),decide_eq_true (by omega)];rfl
 have z6:w104z N a 10 g=some (g++Lib.decDigits a.toNat):=by
  show (w104G _ _ _ _:O).bind w104un=_
  unfold w104G
  rw [decide_eq_false (by omega),br_f,hu,ck_of p]
  rfl
 have z:w90z N a 10 g=some (g++Lib.decDigits a.toNat):=by
  show (w90G _ _ _ _:O).bind w90un=_
  unfold w90G
  rw [ck_of (show w104p N a 10 g=true by unfold w104p;rw [z6];rfl),show w104y0 N a 10 g=g++Lib.decDigits a.toNat by unfold w104y0;rw [z6];rfl]
  rfl
 unfold w90p w90y0
 rw [z]
 exact ⟨rfl,rfl⟩
theorem u8_var {a:Int} (h0:0≤a) (h1:a≤25):u8of (IntKind.i64.wrap (97+a))=UInt8.ofNat (97+a.toNat):=by
 rw [wr (by omega) (by omega)]
 show UInt8.ofNat ((97+a) % 256).toNat=_
 congr 1
 omega
theorem lim1 {n:Nat} (h:n≤2 ^ 46):lim n 1=true:=decide_eq_true (by omega)
abbrev opR (o:Int):Int×(Int×(Int×UInt8)):=opsL.getD o.toNat (0,0,0,0)
theorem w61_ur (x:Tx):(some (w61r0 x):O).bind w61un=some x:=rfl
theorem w61_eq {N:Nat}:∀ (n:Nat) (e:Ex) (root:Bool) (k:Nat) (g:Tx),okE e root=true→((2 * sizeE e≤n∧g.length+16 * sizeE e≤2 ^ 41)∨(2 * sizeE e≤n+1∧k≤lvlN e.op∧g.length+16 * sizeE e≤2 ^ 41+1))→w61gY N n e.op e.num e.kids (k:Int) g=some (g++atE k e)
 | 0,e,_,_,_,_,h=>by have:=size_pos e;omega
 | n+1,.mk o a ks,root,k,g,ok,h=>by
   have sz:=size_pos (.mk o a ks)
   have tl:=txE_len _ _ root (Nat.le_refl _) ok
   show (w61G (N,w61gY N n) o a ks (k:Int) g:O).bind w61un=_
   unfold w61G
   simp only []
   have hop:(0≤o∧o≤10):=by rcases ok_shape ok with ⟨rfl,_⟩ | ⟨rfl,_⟩ | ⟨ho,_⟩ | ⟨ho,_⟩ <;> omega
   have row:opsL[o.toNat]?=some (opR o)∧(opR o).2.2.1=(lvlN o:Int)∧((o=3∨o=4∨o=5∨o=6∨o=9∨o=10)→(opR o).2.2.2=sgnU o):=by
    have:o=0∨o=1∨o=2∨o=3∨o=4∨o=5∨o=6∨o=7∨o=8∨o=9∨o=10:=by omega
    rcases this with rfl | rfl | rfl | rfl | rfl | rfl | rfl | rfl | rfl | rfl | rfl <;> exact ⟨rfl,rfl,fun h=>by first | rfl | (exfalso;revert h;decide)⟩
   rw [gx_of hop.1 row.1,row.2.1]
   have hgl:g.length+16 * sizeE (.mk o a ks)≤2 ^ 41+1:=by omega
   by_cases hl:lvlN o < k
   ·have hf:2 * sizeE (.mk o a ks)≤n+1∧g.length+16 * sizeE (.mk o a ks)≤2 ^ 41:=by
     rcases h with h | ⟨_,h,_⟩
     ·exact h
     ·exact absurd hl (Nat.not_lt.2 h)
    have ih:w61gY N n o a ks 0 (g++[40])=some (g++[40]++atE 0 (.mk o a ks)):=w61_eq (N:=N) n (.mk o a ks) root 0 (g++[40]) ok (.inr ⟨hf.1,Nat.zero_le _,by rw [List.length_append,List.length_singleton];omega⟩)
    have l0:(atE 0 (.mk o a ks)).length=(txE (.mk o a ks)).length:=by rw [atE_hi (Nat.zero_le _)]
    rw [decide_eq_true (by omega),br_t,ck_of (lim1 (by rw [List.length_append,List.length_singleton];omega)),ih,ck_of sm,sg,ck_of (lim1 (by simp only [List.length_append,List.length_singleton];omega)),w61_ur]
    rw [atE_lo (show lvlN (Ex.op (.mk o a ks)) < k from hl),atE_hi (Nat.zero_le _)]
    simp
   ·rw [decide_eq_false (by omega),br_f,atE_hi (show k≤lvlN (Ex.op (.mk o a ks)) from Nat.not_lt.1 hl)]
    have f1:2 * sizeE (.mk o a ks)≤n+2:=by omega
    rcases ok_shape ok with ⟨rfl,rfl,h0,h1⟩ | ⟨rfl,rfl,h0,h1⟩ | ⟨ho,q,rfl,hk⟩ | ⟨ho,q,q',rfl,hk,hk'⟩
    ·have z:=w90_z (N:=N) (a:=a) (g:=g) h0 h1 (by omega)
     rw [decide_eq_true rfl,br_t,ck_of z.1,z.2,w61_ur,txE_num]
    ·rw [decide_eq_false (by decide),br_f,decide_eq_true rfl,br_t,u8_var h0 h1,ck_of (lim1 (by rw [List.length_append,List.length_singleton];omega)),w61_ur,txE_var]
    ·have hs:sizeE (.mk o a [q])=1+sizeE q:=by simp [sizeE,sizeL]
     have hq:=txE_len _ q false (Nat.le_refl _) hk
     rcases ho with rfl | rfl
     ·have ih:w61gY N n q.op q.num q.kids 3 (g++[45])=some (g++[45]++atE 3 q):=w61_eq (N:=N) n q false 3 (g++[45]) hk (.inl ⟨by omega,by rw [List.length_append,List.length_singleton];omega⟩)
      rw [decide_eq_false (by decide),br_f,decide_eq_false (by decide),br_f,decide_eq_true rfl,br_t,ck_of (lim1 (by rw [List.length_append,List.length_singleton];omega)),gx_0,ih,ck_of sm,sg,w61_ur,txE_neg]
      simp
     ·have ih:w61gY N n q.op q.num q.kids 1 (g++[82,40])=some (g++[82,40]++atE 1 q):=w61_eq (N:=N) n q false 1 (g++[82,40]) hk (.inl ⟨by omega,by simp only [List.length_append,List.length_cons,List.length_nil];omega⟩)
      have ql:=atE_len (k:=1) (e:=q)
      rw [decide_eq_false (by decide),br_f,decide_eq_false (by decide),br_f,decide_eq_false (by decide),br_f,decide_eq_true rfl,br_t,ck_of (lim1 (by simp only [List.length_append,List.length_cons,List.length_nil];omega)),gx_0,ih,ck_of sm,sg,ck_of (lim1 (by simp only [List.length_append,List.length_cons,List.length_nil];omega)),w61_ur,txE_root]
      simp
    ·have hs:sizeE (.mk o a [q,q'])=1+(sizeE q+sizeE q'):=by simp [sizeE,sizeL]
     have hq:=txE_len _ q false (Nat.le_refl _) hk
     have hq':=txE_len _ q' false (Nat.le_refl _) hk'
     by_cases h7:o=7
     ·subst h7
      have ql:=atE_len (k:=4) (e:=q)
      have ih:w61gY N n q.op q.num q.kids 4 g=some (g++atE 4 q):=w61_eq (N:=N) n q false 4 g hk (.inl ⟨by omega,by omega⟩)
      have ih':w61gY N n q'.op q'.num q'.kids 3 (g++atE 4 q++[94])=some (g++atE 4 q++[94]++atE 3 q'):=w61_eq (N:=N) n q' false 3 _ hk' (.inl ⟨by omega,by simp only [List.length_append,List.length_singleton];omega⟩)
      rw [decide_eq_false (by decide),br_f,decide_eq_false (by decide),br_f,decide_eq_false (by decide),br_f,decide_eq_false (by decide),br_f,decide_eq_true rfl,br_t,gx_0,ih,ck_of sm,sg,ck_of (lim1 (by simp only [List.length_append,List.length_singleton];omega)),gx_1,ih',ck_of sm,sg,w61_ur,txE_pow]
      simp
     ·have ho':o=3∨o=4∨o=5∨o=6∨o=9∨o=10:=by omega
      have ql:=atE_len (k:=max 1 (lvlN o)) (e:=q)
      have hmx:max (1:Int) ((lvlN o:Nat):Int)=((max 1 (lvlN o):Nat):Int):=by omega
      have hl3:lvlN o≤2:=by rcases ho' with rfl | rfl | rfl | rfl | rfl | rfl <;> decide
      have hw:IntKind.i64.wrap (((lvlN o:Nat):Int)+1)=((lvlN o+1:Nat):Int):=by rw [wr (by omega) (by omega)];omega
      have ih:=w61_eq (N:=N) n q false (max 1 (lvlN o)) g hk (.inl ⟨by omega,by omega⟩)
      have ih':=w61_eq (N:=N) n q' false (lvlN o+1) (g++atE (max 1 (lvlN o)) q++[sgnU o]) hk' (.inl ⟨by omega,by simp only [List.length_append,List.length_singleton];omega⟩)
      rw [decide_eq_false (by omega),br_f,decide_eq_false (by omega),br_f,decide_eq_false (by omega),br_f,decide_eq_false (by omega),br_f,decide_eq_false (by omega),br_f,gx_0,hmx,ih,ck_of sm,sg,row.2.2 ho',ck_of (lim1 (by simp only [List.length_append,List.length_singleton];omega)),gx_1,hw,ih',ck_of sm,sg,w61_ur,txE_two ho']
      simp
def textE (e:Ex):Tx:=if validE e=0 then txE e else []
theorem valid_rt {e:Ex} (h:validE e=0):okE e true=true:=by
 unfold validE at h
 split at h
 ·cases h
 ·split at h
  ·assumption
  ·cases h
theorem w35_z {N:Nat} {e:Ex} (h:4 * sizeE e < N) (hB:sizeE e < 2 ^ 36):w35z N e.op e.num e.kids=some (textE e):=by
 show (w35G _ _ _ _:O).bind w35un=_
 unfold w35G textE
 rw [ck_of (w29_p h (by omega)),w29_y0 h (by omega)]
 by_cases hv:validE e=0
 ·have ih:w61gY N N e.op e.num e.kids 0 []=some ([]++atE 0 e):=w61_eq (N:=N) N e true 0 [] (valid_rt hv) (.inl ⟨by omega,by simp only [List.length_nil];omega⟩)
  rw [decide_eq_false (fun h=>h hv),br_f,if_pos hv,ck_of (show w61p N e.op e.num e.kids 0 []=true by unfold w61p;rw [ih];rfl),show w61y0 N e.op e.num e.kids 0 []=atE 0 e by unfold w61y0;rw [ih];rfl,atE_hi (Nat.zero_le _)]
  rfl
 ·rw [decide_eq_true hv,br_t,if_neg hv];rfl
section
variable {N:Nat} {e:Ex} (h:4 * sizeE e < N) (hB:sizeE e < 2 ^ 36)
include h hB
theorem w35_p:w35p N e.op e.num e.kids=true:=by unfold w35p;rw [w35_z h hB];rfl
theorem w35_y0:w35y0 N e.op e.num e.kids=textE e:=by unfold w35y0;rw [w35_z h hB];rfl
end
end Go.Proofs
/- Texts of trees: what the reference prints. -/
namespace Go.Proofs
open Go Go.Ax Go.Ax.Alg
theorem u8of_dec {d:Int} (h0:0≤d) (h1:d≤9):u8of (IntKind.i64.wrap (48+d))=UInt8.ofNat (48+d.toNat):=by
 rw [wr (by omega) (by omega)]
 show UInt8.ofNat ((48+d) % 256).toNat=_
 congr 1
 omega
theorem w92_eq (N:Nat):∀ (m:Nat) (n:Int),0≤n→n < 10 ^ m→m≤18→1≤m→∀ k,m≤k→w92Y N k n=some (Lib.decDigits n.toNat)
 | 0,n,_,_,_,h,_,_=>by omega
 | m+1,n,h0,hb,hm,_,k,hk=>by
   match k,hk with
   | k+1,hk=>
     show (w92G (N,w92Y N k) n:O).bind w92un=_
     unfold w92G
     by_cases h10:n < 10
     ·rw [decide_eq_true h10,br_t,u8of_dec h0 (by omega),Lib.decDigits,dif_pos (by omega)]
      rfl
     ·have hd:n.tdiv 10=n / 10:=Int.tdiv_eq_ediv_of_nonneg h0
      have hmo:n.tmod 10=n % 10:=Int.tmod_eq_emod_of_nonneg h0
      have hp:(10:Int) ^ (m+1)=10 ^ m * 10:=Int.pow_succ ..
      have hp18:(10:Int) ^ m≤10 ^ 17:=by
       have:=Nat.pow_le_pow_right (n:=10) (by omega) (show m≤17 by omega)
       exact_mod_cast this
      have hm1:1≤m:=by
       rcases Nat.eq_zero_or_pos m with rfl | h
       ·simp at hb;omega
       ·exact h
      have h17:(10:Int) ^ 17=100000000000000000:=by decide
      rw [decide_eq_false h10,br_f,ck_t,hd,hmo,wr (by omega) (by omega)]
      have ih:=w92_eq N m (n / 10) (by omega) (by omega) (by omega) hm1 k (by omega)
      have hlen:(Lib.decDigits (n / 10).toNat).length≤m:=by
       rw [Lib.decDigits_length]
       refine nDigits_le hm1 ?_
       have:((n / 10).toNat:Int) < ((10 ^ m:Nat):Int):=by rw [Int.toNat_of_nonneg (by omega)];push_cast;omega
       exact_mod_cast this
      have ih':(N,w92Y N k).2 (n / 10)=some (Lib.decDigits (n / 10).toNat):=ih
      rw [ih',u8of_dec (by omega) (by omega),ck_of sm,sg,ck_t,ck_of (decide_eq_true (by simp only [List.length_singleton];omega))]
      rw [Lib.decDigits.eq_def n.toNat,dif_neg (by omega),show n.toNat / 10=(n / 10).toNat by omega,show n.toNat % 10=(n % 10).toNat by omega]
      rfl
theorem w92_a {N:Nat} (hN:7≤N) {n:Int} (h0:0≤n) (h1:n≤999999):w92p N n=true∧w92y0 N n=Lib.decDigits n.toNat:=by
 have:=w92_eq N 6 n h0 (by omega) (by omega) (by omega) N (by omega)
 unfold w92p w92y0
 rw [this]
 exact ⟨rfl,rfl⟩
theorem w94_a {N:Nat} {o:Int} (h:0≤o∧o≤10):w94p N o=true∧w94y0 N o=(lvlN o:Int):=by
 have:o=0∨o=1∨o=2∨o=3∨o=4∨o=5∨o=6∨o=7∨o=8∨o=9∨o=10:=by omega
 rcases this with rfl | rfl | rfl | rfl | rfl | rfl | rfl | rfl | rfl | rfl | rfl <;> exact ⟨rfl,rfl⟩
theorem w95_a {N:Nat} {o:Int} (h:o=3∨o=4∨o=5∨o=6∨o=9∨o=10):w95p N o=true∧w95y0 N o=[sgnU o]:=by
 rcases h with rfl | rfl | rfl | rfl | rfl | rfl <;> exact ⟨rfl,rfl⟩
theorem w71_ur (x:Tx):(some (w71r0 x):O).bind w71un=some x:=rfl
theorem w93_ur (x:Tx):(some (w93r0 x):O).bind w93un=some x:=rfl
theorem le9 {x:Int} (h:x≤2 ^ 60):decide (x≤9223372036854775807)=true:=decide_eq_true (by omega)
theorem w71_eq {N:Nat} (hN:7≤N):∀ (n:Nat) (e:Ex) (root:Bool),okE e root=true→sizeE e≤2 ^ 50→
    (2 * sizeE e≤n+1→(w71gY N n).1 e.op e.num e.kids=some (txE e))∧(2 * sizeE e≤n→∀ k:Nat,(w71gY N n).2 e.op e.num e.kids (k:Int)=some (atE k e))
 | 0,e,_,_,_=>by have:=size_pos e;exact ⟨fun h=>by omega,fun h=>by omega⟩
 | n+1,.mk o a ks,root,ok,hB=>by
   have sz:=size_pos (.mk o a ks)
   have tl:=txE_len _ _ root (Nat.le_refl _) ok
   have hop:(0≤o∧o≤10):=by rcases ok_shape ok with ⟨rfl,_⟩ | ⟨rfl,_⟩ | ⟨ho,_⟩ | ⟨ho,_⟩ <;> omega
   have l83:=w94_a (N:=N) hop
   refine ⟨fun h=>?_,fun h k=>?_⟩
   ·show (w71G (N,w71gY N n) _ o a ks:O).bind w71un=_
    unfold w71G
    simp only []
    rcases ok_shape ok with ⟨rfl,rfl,h0,h1⟩ | ⟨rfl,rfl,h0,h1⟩ | ⟨ho,q,rfl,hk⟩ | ⟨ho,q,q',rfl,hk,hk'⟩
    ·have z:=w92_a (N:=N) hN h0 h1
     rw [decide_eq_true rfl,br_t,ck_of z.1,z.2,w71_ur,txE_num]
    ·rw [decide_eq_false (by decide),br_f,decide_eq_true rfl,br_t,u8_var h0 h1,w71_ur,txE_var]
    ·have hs:sizeE (.mk o a [q])=1+sizeE q:=by simp [sizeE,sizeL]
     have hq:=txE_len _ q false (Nat.le_refl _) hk
     have ih:=(w71_eq hN n q false hk (by omega)).2 (by omega)
     rcases ho with rfl | rfl
     ·have ih:(w71gY N n).2 q.op q.num q.kids 3=some (atE 3 q):=ih 3
      have ql:=atE_len (k:=3) (e:=q)
      rw [decide_eq_false (by decide),br_f,decide_eq_false (by decide),br_f,decide_eq_true rfl,br_t,gx_0,ih,ck_of sm,sg,ck_of (le9 (by omega)),w71_ur,txE_neg]
      rfl
     ·have ih:(w71gY N n).2 q.op q.num q.kids 1=some (atE 1 q):=ih 1
      have ql:=atE_len (k:=1) (e:=q)
      rw [decide_eq_false (by decide),br_f,decide_eq_false (by decide),br_f,decide_eq_false (by decide),br_f,decide_eq_true rfl,br_t,gx_0,ih,ck_of sm,sg,ck_of (le9 (by omega)),ck_of (le9 (by simp only [List.length_append,List.length_cons,List.length_nil];omega)),w71_ur,txE_root]
      rfl
    ·have hs:sizeE (.mk o a [q,q'])=1+(sizeE q+sizeE q'):=by simp [sizeE,sizeL]
     have hq:=txE_len _ q false (Nat.le_refl _) hk
     have hq':=txE_len _ q' false (Nat.le_refl _) hk'
     have ih:=(w71_eq hN n q false hk (by omega)).2 (by omega)
     have ih':=(w71_eq hN n q' false hk' (by omega)).2 (by omega)
     by_cases h7:o=7
     ·subst h7
      have ih:(w71gY N n).2 q.op q.num q.kids 4=some (atE 4 q):=ih 4
      have ih':(w71gY N n).2 q'.op q'.num q'.kids 3=some (atE 3 q'):=ih' 3
      have ql:=atE_len (k:=4) (e:=q)
      have ql':=atE_len (k:=3) (e:=q')
      rw [decide_eq_false (by decide),br_f,decide_eq_false (by decide),br_f,decide_eq_false (by decide),br_f,decide_eq_false (by decide),br_f,decide_eq_true rfl,br_t,gx_0,ih,ck_of sm,sg,ck_of (le9 (by omega)),gx_1,ih',ck_of sm,sg,ck_of (le9 (by simp only [List.length_append,List.length_cons,List.length_nil];omega)),w71_ur,txE_pow]
      simp
     ·have ho':o=3∨o=4∨o=5∨o=6∨o=9∨o=10:=by omega
      have ih:=ih (max 1 (lvlN o))
      have ih':=ih' (lvlN o+1)
      have ql:=atE_len (k:=max 1 (lvlN o)) (e:=q)
      have ql':=atE_len (k:=lvlN o+1) (e:=q')
      have s84:=w95_a (N:=N) ho'
      have hl3:lvlN o≤2:=by rcases ho' with rfl | rfl | rfl | rfl | rfl | rfl <;> decide
      have hw:IntKind.i64.wrap (((lvlN o:Nat):Int)+1)=((lvlN o+1:Nat):Int):=by rw [wr (by omega) (by omega)];omega
      rw [decide_eq_false (by omega),br_f,decide_eq_false (by omega),br_f,decide_eq_false (by omega),br_f,decide_eq_false (by omega),br_f,decide_eq_false (by omega),br_f,ck_of l83.1,l83.2]
      unfold w71n0 w71l0 w71F0
      simp only []
      have fin:∀ L:Int,L=((max 1 (lvlN o):Nat):Int)→((gx [q,q'] 0 fun y10=>ck ((w71gY N n).2 y10.op y10.num y10.kids L).isSome <| ck (w95p N o) <| ck (decide (((((w71gY N n).2 y10.op y10.num y10.kids L).getD []).length:Int)+((w95y0 N o).length:Int)≤9223372036854775807)) <|
          gx [q,q'] 1 fun y11=>ck ((w71gY N n).2 y11.op y11.num y11.kids (IntKind.i64.wrap (((lvlN o:Nat):Int)+1))).isSome <| ck (decide (((((w71gY N n).2 y10.op y10.num y10.kids L).getD []++w95y0 N o).length:Int)+((((w71gY N n).2 y11.op y11.num y11.kids (IntKind.i64.wrap (((lvlN o:Nat):Int)+1))).getD []).length:Int)≤9223372036854775807)) <|
          some (w71r0 (((w71gY N n).2 y10.op y10.num y10.kids L).getD []++w95y0 N o++((w71gY N n).2 y11.op y11.num y11.kids (IntKind.i64.wrap (((lvlN o:Nat):Int)+1))).getD [])):O)).bind w71un=some (txE (.mk o a [q,q'])):=fun L hL=>by
       subst hL
       rw [gx_0,ih,ck_of sm,sg,ck_of s84.1,s84.2,ck_of (le9 (by simp only [List.length_singleton];omega)),gx_1,hw,ih',ck_of sm,sg,ck_of (le9 (by simp only [List.length_append,List.length_singleton];omega)),w71_ur,txE_two ho']
       simp
      by_cases hl0:lvlN o=0
      ·rw [decide_eq_true (by omega),br_t]
       exact fin 1 (by omega)
      ·rw [decide_eq_false (by omega),br_f]
       exact fin _ (by omega)
   ·have ih:(w71gY N n).1 o a ks=some (txE (.mk o a ks)):=(w71_eq hN n (.mk o a ks) root ok hB).1 (by omega)
    show (w93G (N,w71gY N n) o a ks (k:Int):O).bind w93un=_
    unfold w93G
    simp only []
    rw [ih,ck_of sm,sg,ck_of l83.1,l83.2]
    by_cases hl:lvlN o < k
    ·rw [decide_eq_true (by omega),br_t,ck_of (le9 (by omega)),ck_of (le9 (by simp only [List.length_append,List.length_singleton];omega)),w93_ur,atE_lo (show lvlN (Ex.op (.mk o a ks)) < k from hl)]
     rfl
    ·rw [decide_eq_false (by omega),br_f,w93_ur,atE_hi (show k≤lvlN (Ex.op (.mk o a ks)) from Nat.not_lt.1 hl)]
theorem w38_z {N:Nat} {e:Ex} (hN:7≤N) (h:4 * sizeE e < N) (hB:sizeE e < 2 ^ 36):w38z N e.op e.num e.kids=some (textE e):=by
 show (w38G _ _ _ _:O).bind w38un=_
 unfold w38G textE
 rw [ck_of (w36_p (by omega) (by omega)),w36_y0 (by omega) (by omega)]
 by_cases hv:validE e=0
 ·have ih:(w71gY N N).1 e.op e.num e.kids=some (txE e):=(w71_eq hN N e true (valid_rt hv) (by omega)).1 (by omega)
  rw [decide_eq_false (fun h=>h hv),br_f,if_pos hv,ck_of (show w71p N e.op e.num e.kids=true by unfold w71p;rw [ih];rfl),show w71y0 N e.op e.num e.kids=txE e by unfold w71y0;rw [ih];rfl]
  rfl
 ·rw [decide_eq_true hv,br_t,if_neg hv];rfl
section
variable {N:Nat} {e:Ex} (hN:7≤N) (h:4 * sizeE e < N) (hB:sizeE e < 2 ^ 36)
include hN h hB
theorem w38_p:w38p N e.op e.num e.kids=true:=by unfold w38p;rw [w38_z hN h hB];rfl
theorem w38_y0:w38y0 N e.op e.num e.kids=textE e:=by unfold w38y0;rw [w38_z hN h hB];rfl
end
end Go.Proofs
