/- Ground of the plain laws. Conditions are in the theorems. -/
import Derived.Test.YtihfefggdgiodaaGreatDoorE7
import Derived.IntWalk
/- Small laws for what a run leaves to be shown. -/
namespace Go.Proofs
open Go Go.Ax Go.Ax.aA
theorem bJ(x y:O):br true x y=x:=rfl
theorem bL(x y:O):br false x y=y:=rfl
theorem Sw(x:O):ck true x=x:=rfl
theorem aP{b:Bool}(h:b=true)(x:O):ck b x=x:=by rw[h];rfl
theorem aC4{α:Type}{l:List α}{n:Int}{y:α}(h0:0<=n)(h:l[n.toNat]?=some y)(k:α->O):gx l n k=k y:=by
 show vK l n k=_;unfold vK;rw[aC (by omega),h]
theorem cU{α:Type}{l:List α}{i:Nat}{y:α}(h:l[i]?=some y)(k:α->O):gx l (i:Int) k=k y:=aC4 (by omega) (by rw[Int.toNat_natCast];exact h) k
theorem L6{α:Type}{l:List α}{n:Nat}{y:α}(h:l[n]?=some y)(k:α->O):gn l n k=k y:=by
 show FU l n k=_;unfold FU;rw[h]
theorem tI{α:Type}(x:α)(l:List α)(k:α->O):gx (x::l) 0 k=k x:=rfl
theorem aUY{α:Type}(x y:α)(l:List α)(k:α->O):gx (x::y::l) 1 k=k y:=rfl
theorem vM{α:Type}(z:α)(l:List α)(n:Int)(k:α->O):gc true z l n k=gx l n k:=rfl
theorem C5{α:Type}(z:α)(l:List α)(n:Int)(k:α->O):gc false z l n k=k z:=rfl
theorem L8{α:Type}{c:Bool}{z:α}{l:List α}{i:Nat}{y:α}(h:l[i]?=some y)(k:α->O):gc c z l (i:Int) k=k (if c then y else z):=by
 cases c
 .rfl
 .rw[vM,cU h];rfl
theorem wr{x:Int}(h1:-9223372036854775808<=x)(h2:x<=9223372036854775807):IntKind.i64.wrap x=x:=IntWalk.i64_in x ⟨h1,h2⟩
def iK(x:Int):Prop:=-9223372036854775808<=x/\x<=9223372036854775807
theorem fZ{α:Type}{l:List α}{i:Nat}{y:α}(h:l[i]?=some y):l.drop i=y::l.drop (i+1):=by
 obtain⟨hi,rfl⟩:=List.getElem?_eq_some_iff.1 h;exact List.drop_eq_getElem_cons hi
end Go.Proofs
