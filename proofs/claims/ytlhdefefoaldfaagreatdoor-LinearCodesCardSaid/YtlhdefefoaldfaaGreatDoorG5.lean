/- The own reader. Conditions are in the theorems. -/
import Derived.Test.YtlhdefefoaldfaaGreatDoorG4
import Derived.Test.YtlhdefefoaldfaaGreatDoorF1
import Derived.Test.YtlhdefefoaldfaaGreatDoorF5
import Derived.Test.YtlhdefefoaldfaaGreatDoorG1
/- The own reader: what it sees, what it needs, numerals, operations. -/
namespace Go.Proofs
open Go Go.Ax Go.Ax.Alg
def at_ (s l:Tx):Int:=((s.length - l.length:Nat):Int)
theorem at_cons {s t:Tx} {c:UInt8} (h:(c::t) <:+ s):s[s.length - (c::t).length]?=some c∧at_ s t=at_ s (c::t)+1∧at_ s (c::t) < (s.length:Int):=by
 obtain ⟨p,rfl⟩:=h
 unfold at_
 refine ⟨?_,?_,?_⟩
 ·simp
 ·simp only [List.length_append,List.length_cons];omega
 ·simp only [List.length_append,List.length_cons];omega
theorem at_nil {s:Tx}:at_ s []=(s.length:Int):=rfl
theorem at_ge {s l:Tx}:0≤at_ s l∧at_ s l≤(s.length:Int):=by unfold at_;omega
theorem suf_tl {s t:Tx} {c:UInt8} (h:(c::t) <:+ s):t <:+ s:=(List.suffix_cons c t).trans h
theorem gx_s {s t:Tx} {c:UInt8} (h:(c::t) <:+ s) (k:UInt8→O):gx s (at_ s (c::t)) k=k c:=gx_at (at_cons h).1 k
theorem wr_at {s t:Tx} {c:UInt8} (h:(c::t) <:+ s) (hs:s.length < 2 ^ 62):IntKind.i64.wrap (at_ s (c::t)+1)=at_ s t:=by
 have a:=at_cons h
 have b:=at_ge (s:=s) (l:=t)
 rw [← a.2.1]
 exact wr (by omega) (by omega)
section
variable {N:Nat} {s l:Tx} (hs:s.length < 2 ^ 62) (h:l <:+ s) (hN:s.length < N)
include hs h hN
end
section
variable {N:Nat} {s l:Tx} (hs:s.length < 2 ^ 62) (h:l <:+ s) (hN:s.length < N) {c:UInt8}
include hs h hN
end
theorem w110_loop {N:Nat} {s:Tx} {i a b:Int} {K:Int×Tx×Int×Int×Int→O} {k1 k2:Unit→O} (hs:s.length < 2 ^ 62):∀ (l:Tx) (m:Nat),l <:+ s→l.length < m→w110l0 N m (at_ s l,s,i,a,b) K k1 k2=K (at_ s (l.dropWhile dig),s,i,a,b)
 | _,0,_,h=>by omega
 | [],m+1,_,_=>by
   show w110F0 _ _ _ _ _ _ _ _=_
   unfold w110F0
   simp only []
   rw [at_nil,decide_eq_false (by omega),gc_f,Bool.false_and,gc_f,Bool.false_and,br_f]
   rfl
 | c::t,m+1,h,hm=>by
   have ha:=at_cons h
   have ih:=w110_loop (N:=N) (i:=i) (a:=a) (b:=b) (K:=K) (k1:=k1) (k2:=k2) hs t m (suf_tl h) (by simp at hm;omega)
   show w110F0 _ _ _ _ _ _ _ _=_
   unfold w110F0
   simp only []
   rw [decide_eq_true ha.2.2,gc_t,gx_s h,Bool.true_and]
   rw [List.dropWhile_cons]
   cases h1:decide (48≤c) with
   | false=>
     have hn:¬ dig c=true:=by unfold dig;rw [h1];simp
     rw [gc_f,Bool.false_and,br_f,if_neg hn]
   | true=>
     rw [gc_t,gx_s h,Bool.true_and]
     cases h2:decide (c≤57) with
     | false=>
       have hn:¬ dig c=true:=by unfold dig;rw [h2];simp
       rw [br_f,if_neg hn]
     | true=>
       have hn:dig c=true:=by unfold dig;rw [h1,h2];rfl
       rw [br_t,if_pos hn,wr_at h hs]
       exact ih
section
variable {N:Nat} {s t:Tx} {c:UInt8} (hs:s.length < 2 ^ 62) (h:(c::t) <:+ s) (hN:s.length < N) (hd:dig c=true)
include hs h hN hd
end
abbrev opsL:List (Int×(Int×(Int×UInt8))):=[(0,999999,4,0),(0,25,4,0),(1,0,3,45),(2,0,1,43),(2,0,1,45),(2,0,2,42),(2,0,2,47),(2,0,3,94),(1,0,4,82),(2,0,0,61),(2,0,0,60)]
end Go.Proofs
/- The own reader: atoms, factors, levels, round by round. -/
namespace Go.Proofs
open Go Go.Ax Go.Ax.Alg
abbrev Rs:=(Int×Int×List Ex×Tx×Int) ⊕ (Int×Tx×Int)
abbrev Rc:=(Tx→Int→Option Rs)×(Tx→Int→Option Rs)×(Int→Tx→Int→Option Rs)
def enc (s:Tx):Pr→Rs
 | .ok e t=>.inl (e.op,e.num,e.kids,s,at_ s t)
 | .bad b=>.inr (at_ s b,s,at_ s b)
section
variable {N:Nat} {c:UInt8} {s:Tx} {i j:Int}
theorem sg {α:Type} {x d:α}:(some x).getD d=x:=rfl
theorem sm {α:Type} {x:α}:(some x).isSome=true:=rfl
end
section
variable {N:Nat} {rc:Rc} {s l:Tx} (hs:s.length < 2 ^ 62) (h:l <:+ s) (hN:s.length < N)
include hs h hN
end
end Go.Proofs
/- The own reader: what it does with any text. -/
namespace Go.Proofs
open Go Go.Ax Go.Ax.Alg
section
variable {N:Nat} {rc:Rc} {s l:Tx} (hs:s.length < 2 ^ 62) (h:l <:+ s) (hN:s.length < N)
include hs h hN
end
abbrev gT (N n:Nat):Rc:=w106gY N n
end Go.Proofs
/- Parse: what it returns for any text. -/
namespace Go.Proofs
open Go Go.Ax Go.Ax.Alg
section
variable {N:Nat} {s:Tx} {d:Int×Int×List Ex×Int×Int} (h:w42v N s=some d)
include h
end
end Go.Proofs
