/- Ground of the plain laws. Conditions are in the theorems. -/
import Derived.Test.YtmbdfpgaokbkkaaDoorE7
import Derived.IntWalk
/- Small laws for what a run leaves to be shown. -/
namespace Go.Proofs
open Go Go.Ax Go.Ax.Alg
theorem br_t (x y:O):br true x y=x:=rfl
theorem br_f (x y:O):br false x y=y:=rfl
theorem ck_t (x:O):ck true x=x:=rfl
theorem ck_of {b:Bool} (h:b=true) (x:O):ck b x=x:=by rw [h];rfl
theorem gx_of {α:Type} {l:List α} {n:Int} {y:α} (h0:0<=n) (h:l[n.toNat]?=some y) (k:α->O):gx l n k=k y:=by
 show gx0 l n k=_;unfold gx0;rw [if_neg (by omega),h]
theorem gx_at {α:Type} {l:List α} {i:Nat} {y:α} (h:l[i]?=some y) (k:α->O):gx l (i:Int) k=k y:=gx_of (by omega) (by rw [Int.toNat_natCast];exact h) k
theorem gn_of {α:Type} {l:List α} {n:Nat} {y:α} (h:l[n]?=some y) (k:α->O):gn l n k=k y:=by
 show gn0 l n k=_;unfold gn0;rw [h]
theorem gx_0 {α:Type} (x:α) (l:List α) (k:α->O):gx (x::l) 0 k=k x:=rfl
theorem gx_1 {α:Type} (x y:α) (l:List α) (k:α->O):gx (x::y::l) 1 k=k y:=rfl
theorem gc_t {α:Type} (z:α) (l:List α) (n:Int) (k:α->O):gc true z l n k=gx l n k:=rfl
theorem gc_at {α:Type} {c:Bool} {z:α} {l:List α} {i:Nat} {y:α} (h:l[i]?=some y) (k:α->O):gc c z l (i:Int) k=k (if c then y else z):=by
 cases c
 ·rfl
 ·rw [gc_t,gx_at h];rfl
theorem wr {x:Int} (h1:-9223372036854775808<=x) (h2:x<=9223372036854775807):IntKind.i64.wrap x=x:=IntWalk.i64_in x ⟨h1,h2⟩
def I64 (x:Int):Prop:=-9223372036854775808<=x/\x<=9223372036854775807
theorem drop_at {α:Type} {l:List α} {i:Nat} {y:α} (h:l[i]?=some y):l.drop i=y::l.drop (i+1):=by
 obtain ⟨hi,rfl⟩:=List.getElem?_eq_some_iff.1 h;exact List.drop_eq_getElem_cons hi
end Go.Proofs
