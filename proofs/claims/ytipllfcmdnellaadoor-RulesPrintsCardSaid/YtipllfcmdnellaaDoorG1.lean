/- What the functions of rules reckon. Conditions are in the theorems. -/
import Derived.Test.YtipllfcmdnellaaDoorE7
import Derived.IntWalk
import Derived.Test.YtipllfcmdnellaaDoorF3
/- Small laws for what a run leaves to be shown. -/
namespace Go.Proofs
open Go Go.Ax Go.Ax.Alg
theorem br_t (x y:O):br true x y=x:=rfl
theorem br_f (x y:O):br false x y=y:=rfl
theorem ck_t (x:O):ck true x=x:=rfl
theorem ck_of {b:Bool} (h:b=true) (x:O):ck b x=x:=by rw [h];rfl
theorem gx_of {α:Type} {l:List α} {n:Int} {y:α} (h0:0<=n) (h:l[n.toNat]?=some y) (k:α->O):gx l n k=k y:=by
 show gx0 l n k=_;unfold gx0;rw [if_neg (by omega),h]
theorem gx_at {α:Type} {l:List α} {i:Nat} {y:α} (h:l[i]?=some y) (k:α->O):gx l (i:Int) k=k y:=gx_of (by omega) (by rw [Int.toNat_natCast];exact h) k
theorem gn_of {α:Type} {l:List α} {n:Nat} {y:α} (h:l[n]?=some y) (k:α->O):gn l n k=k y:=by
 show gn0 l n k=_;unfold gn0;rw [h]
theorem gx_0 {α:Type} (x:α) (l:List α) (k:α->O):gx (x::l) 0 k=k x:=rfl
theorem gc_t {α:Type} (z:α) (l:List α) (n:Int) (k:α->O):gc true z l n k=gx l n k:=rfl
theorem gc_f {α:Type} (z:α) (l:List α) (n:Int) (k:α->O):gc false z l n k=k z:=rfl
theorem wr {x:Int} (h1:-9223372036854775808<=x) (h2:x<=9223372036854775807):IntKind.i64.wrap x=x:=IntWalk.i64_in x ⟨h1,h2⟩
def I64 (x:Int):Prop:=-9223372036854775808<=x/\x<=9223372036854775807
theorem drop_at {α:Type} {l:List α} {i:Nat} {y:α} (h:l[i]?=some y):l.drop i=y::l.drop (i+1):=by
 obtain ⟨hi,rfl⟩:=List.getElem?_eq_some_iff.1 h;exact List.drop_eq_getElem_cons hi
end Go.Proofs
/- small laws -/
namespace Go.Proofs
open Go Go.Ax Go.Ax.Alg
theorem w36_p {N:Nat} {t0:Int} {d:Int} (h:w36z N t0=some d):w36p N t0=true:=by unfold w36p;rw [h];rfl
theorem w36_y0 {N:Nat} {t0:Int} {d:Int} (h:w36z N t0=some d):w36y0 N t0=d:=by unfold w36y0;rw [h];rfl
theorem w47_p {N:Nat} {r0_0:(List Int)} {r0_1:Int} {r0_2:Int} {d:Bool} (h:w47z N r0_0 r0_1 r0_2=some d):w47p N r0_0 r0_1 r0_2=true:=by unfold w47p;rw [h];rfl
theorem w47_y0 {N:Nat} {r0_0:(List Int)} {r0_1:Int} {r0_2:Int} {d:Bool} (h:w47z N r0_0 r0_1 r0_2=some d):w47y0 N r0_0 r0_1 r0_2=d:=by unfold w47y0;rw [h];rfl
theorem w46_p {N:Nat} {r0_0:(List Int)} {r0_1:Int} {r0_2:Int} {d:Bool} (h:w46z N r0_0 r0_1 r0_2=some d):w46p N r0_0 r0_1 r0_2=true:=by unfold w46p;rw [h];rfl
theorem w46_y0 {N:Nat} {r0_0:(List Int)} {r0_1:Int} {r0_2:Int} {d:Bool} (h:w46z N r0_0 r0_1 r0_2=some d):w46y0 N r0_0 r0_1 r0_2=d:=by unfold w46y0;rw [h];rfl
theorem w41_p {N:Nat} {s0:(List UInt8)} {d:(List ((List UInt8)×Int))×Int} (h:w41z N s0=some d):w41p N s0=true:=by unfold w41p;rw [h];rfl
theorem w41_y0 {N:Nat} {s0:(List UInt8)} {d:(List ((List UInt8)×Int))×Int} (h:w41z N s0=some d):w41y0 N s0=d.1:=by unfold w41y0;rw [h];rfl
theorem w41_y1 {N:Nat} {s0:(List UInt8)} {d:(List ((List UInt8)×Int))×Int} (h:w41z N s0=some d):w41y1 N s0=d.2:=by unfold w41y1;rw [h];rfl
theorem w58_p {N:Nat} {h50_0:(List ((List UInt8)×Int))} {h50_1:Int} {h50_2:Bool} {d:(List UInt8)×(List ((List UInt8)×Int))×Int×Bool} (h:w58z N h50_0 h50_1 h50_2=some d):w58p N h50_0 h50_1 h50_2=true:=by unfold w58p;rw [h];rfl
theorem w58_y0 {N:Nat} {h50_0:(List ((List UInt8)×Int))} {h50_1:Int} {h50_2:Bool} {d:(List UInt8)×(List ((List UInt8)×Int))×Int×Bool} (h:w58z N h50_0 h50_1 h50_2=some d):w58y0 N h50_0 h50_1 h50_2=d.1:=by unfold w58y0;rw [h];rfl
theorem w58_y1 {N:Nat} {h50_0:(List ((List UInt8)×Int))} {h50_1:Int} {h50_2:Bool} {d:(List UInt8)×(List ((List UInt8)×Int))×Int×Bool} (h:w58z N h50_0 h50_1 h50_2=some d):w58y1 N h50_0 h50_1 h50_2=d.2.1:=by unfold w58y1;rw [h];rfl
theorem w58_y2 {N:Nat} {h50_0:(List ((List UInt8)×Int))} {h50_1:Int} {h50_2:Bool} {d:(List UInt8)×(List ((List UInt8)×Int))×Int×Bool} (h:w58z N h50_0 h50_1 h50_2=some d):w58y2 N h50_0 h50_1 h50_2=d.2.2.1:=by unfold w58y2;rw [h];rfl
theorem w58_y3 {N:Nat} {h50_0:(List ((List UInt8)×Int))} {h50_1:Int} {h50_2:Bool} {d:(List UInt8)×(List ((List UInt8)×Int))×Int×Bool} (h:w58z N h50_0 h50_1 h50_2=some d):w58y3 N h50_0 h50_1 h50_2=d.2.2.2:=by unfold w58y3;rw [h];rfl
theorem w65_p {N:Nat} {s0:(List (List UInt8))} {v1:(List UInt8)} {d:Int} (h:w65z N s0 v1=some d):w65p N s0 v1=true:=by unfold w65p;rw [h];rfl
theorem w65_y0 {N:Nat} {s0:(List (List UInt8))} {v1:(List UInt8)} {d:Int} (h:w65z N s0 v1=some d):w65y0 N s0 v1=d:=by unfold w65y0;rw [h];rfl
theorem w56_p {N:Nat} {words1:(List (List UInt8))} {h50_0:(List ((List UInt8)×Int))} {h50_1:Int} {h50_2:Bool} {d:Int×(List ((List UInt8)×Int))×Int×Bool} (h:w56z N words1 h50_0 h50_1 h50_2=some d):w56p N words1 h50_0 h50_1 h50_2=true:=by unfold w56p;rw [h];rfl
theorem w56_y0 {N:Nat} {words1:(List (List UInt8))} {h50_0:(List ((List UInt8)×Int))} {h50_1:Int} {h50_2:Bool} {d:Int×(List ((List UInt8)×Int))×Int×Bool} (h:w56z N words1 h50_0 h50_1 h50_2=some d):w56y0 N words1 h50_0 h50_1 h50_2=d.1:=by unfold w56y0;rw [h];rfl
theorem w56_y1 {N:Nat} {words1:(List (List UInt8))} {h50_0:(List ((List UInt8)×Int))} {h50_1:Int} {h50_2:Bool} {d:Int×(List ((List UInt8)×Int))×Int×Bool} (h:w56z N words1 h50_0 h50_1 h50_2=some d):w56y1 N words1 h50_0 h50_1 h50_2=d.2.1:=by unfold w56y1;rw [h];rfl
theorem w56_y2 {N:Nat} {words1:(List (List UInt8))} {h50_0:(List ((List UInt8)×Int))} {h50_1:Int} {h50_2:Bool} {d:Int×(List ((List UInt8)×Int))×Int×Bool} (h:w56z N words1 h50_0 h50_1 h50_2=some d):w56y2 N words1 h50_0 h50_1 h50_2=d.2.2.1:=by unfold w56y2;rw [h];rfl
theorem w56_y3 {N:Nat} {words1:(List (List UInt8))} {h50_0:(List ((List UInt8)×Int))} {h50_1:Int} {h50_2:Bool} {d:Int×(List ((List UInt8)×Int))×Int×Bool} (h:w56z N words1 h50_0 h50_1 h50_2=some d):w56y3 N words1 h50_0 h50_1 h50_2=d.2.2.2:=by unfold w56y3;rw [h];rfl
theorem w80_p {N:Nat} {s0:(List UInt8)} {prefix1:(List UInt8)} {d:Bool} (h:w80z N s0 prefix1=some d):w80p N s0 prefix1=true:=by unfold w80p;rw [h];rfl
theorem w80_y0 {N:Nat} {s0:(List UInt8)} {prefix1:(List UInt8)} {d:Bool} (h:w80z N s0 prefix1=some d):w80y0 N s0 prefix1=d:=by unfold w80y0;rw [h];rfl
theorem w73_p {N:Nat} {s0:(List UInt8)} {prefix1:(List UInt8)} {d:(List UInt8)×Bool} (h:w73z N s0 prefix1=some d):w73p N s0 prefix1=true:=by unfold w73p;rw [h];rfl
theorem w73_y0 {N:Nat} {s0:(List UInt8)} {prefix1:(List UInt8)} {d:(List UInt8)×Bool} (h:w73z N s0 prefix1=some d):w73y0 N s0 prefix1=d.1:=by unfold w73y0;rw [h];rfl
theorem w73_y1 {N:Nat} {s0:(List UInt8)} {prefix1:(List UInt8)} {d:(List UInt8)×Bool} (h:w73z N s0 prefix1=some d):w73y1 N s0 prefix1=d.2:=by unfold w73y1;rw [h];rfl
theorem w66_p {N:Nat} {s0:(List UInt8)} {prefix1:(List UInt8)} {d:(List UInt8)×Bool} (h:w66z N s0 prefix1=some d):w66p N s0 prefix1=true:=by unfold w66p;rw [h];rfl
theorem w66_y0 {N:Nat} {s0:(List UInt8)} {prefix1:(List UInt8)} {d:(List UInt8)×Bool} (h:w66z N s0 prefix1=some d):w66y0 N s0 prefix1=d.1:=by unfold w66y0;rw [h];rfl
theorem w66_y1 {N:Nat} {s0:(List UInt8)} {prefix1:(List UInt8)} {d:(List UInt8)×Bool} (h:w66z N s0 prefix1=some d):w66y1 N s0 prefix1=d.2:=by unfold w66y1;rw [h];rfl
theorem w67_p {N:Nat} {s0:(List UInt8)} {most1:Int} {d:Int×Bool} (h:w67z N s0 most1=some d):w67p N s0 most1=true:=by unfold w67p;rw [h];rfl
theorem w67_y0 {N:Nat} {s0:(List UInt8)} {most1:Int} {d:Int×Bool} (h:w67z N s0 most1=some d):w67y0 N s0 most1=d.1:=by unfold w67y0;rw [h];rfl
theorem w67_y1 {N:Nat} {s0:(List UInt8)} {most1:Int} {d:Int×Bool} (h:w67z N s0 most1=some d):w67y1 N s0 most1=d.2:=by unfold w67y1;rw [h];rfl
theorem w57_p {N:Nat} {head1:(List UInt8)} {least2:Int} {most3:Int} {h50_0:(List ((List UInt8)×Int))} {h50_1:Int} {h50_2:Bool} {d:Int×(List ((List UInt8)×Int))×Int×Bool} (h:w57z N head1 least2 most3 h50_0 h50_1 h50_2=some d):w57p N head1 least2 most3 h50_0 h50_1 h50_2=true:=by unfold w57p;rw [h];rfl
theorem w57_y0 {N:Nat} {head1:(List UInt8)} {least2:Int} {most3:Int} {h50_0:(List ((List UInt8)×Int))} {h50_1:Int} {h50_2:Bool} {d:Int×(List ((List UInt8)×Int))×Int×Bool} (h:w57z N head1 least2 most3 h50_0 h50_1 h50_2=some d):w57y0 N head1 least2 most3 h50_0 h50_1 h50_2=d.1:=by unfold w57y0;rw [h];rfl
theorem w57_y1 {N:Nat} {head1:(List UInt8)} {least2:Int} {most3:Int} {h50_0:(List ((List UInt8)×Int))} {h50_1:Int} {h50_2:Bool} {d:Int×(List ((List UInt8)×Int))×Int×Bool} (h:w57z N head1 least2 most3 h50_0 h50_1 h50_2=some d):w57y1 N head1 least2 most3 h50_0 h50_1 h50_2=d.2.1:=by unfold w57y1;rw [h];rfl
theorem w57_y2 {N:Nat} {head1:(List UInt8)} {least2:Int} {most3:Int} {h50_0:(List ((List UInt8)×Int))} {h50_1:Int} {h50_2:Bool} {d:Int×(List ((List UInt8)×Int))×Int×Bool} (h:w57z N head1 least2 most3 h50_0 h50_1 h50_2=some d):w57y2 N head1 least2 most3 h50_0 h50_1 h50_2=d.2.2.1:=by unfold w57y2;rw [h];rfl
theorem w57_y3 {N:Nat} {head1:(List UInt8)} {least2:Int} {most3:Int} {h50_0:(List ((List UInt8)×Int))} {h50_1:Int} {h50_2:Bool} {d:Int×(List ((List UInt8)×Int))×Int×Bool} (h:w57z N head1 least2 most3 h50_0 h50_1 h50_2=some d):w57y3 N head1 least2 most3 h50_0 h50_1 h50_2=d.2.2.2:=by unfold w57y3;rw [h];rfl
theorem w55_p {N:Nat} {h51_0:Int} {h51_1:Int} {h52_0:(List ((List UInt8)×Int))} {h52_1:Int} {h52_2:Bool} {h53_0:(List Int)} {d:Int×Int×(List ((List UInt8)×Int))×Int×Bool×(List Int)} (h:w55z N h51_0 h51_1 h52_0 h52_1 h52_2 h53_0=some d):w55p N h51_0 h51_1 h52_0 h52_1 h52_2 h53_0=true:=by unfold w55p;rw [h];rfl
theorem w55_y0 {N:Nat} {h51_0:Int} {h51_1:Int} {h52_0:(List ((List UInt8)×Int))} {h52_1:Int} {h52_2:Bool} {h53_0:(List Int)} {d:Int×Int×(List ((List UInt8)×Int))×Int×Bool×(List Int)} (h:w55z N h51_0 h51_1 h52_0 h52_1 h52_2 h53_0=some d):w55y0 N h51_0 h51_1 h52_0 h52_1 h52_2 h53_0=d.1:=by unfold w55y0;rw [h];rfl
theorem w55_y1 {N:Nat} {h51_0:Int} {h51_1:Int} {h52_0:(List ((List UInt8)×Int))} {h52_1:Int} {h52_2:Bool} {h53_0:(List Int)} {d:Int×Int×(List ((List UInt8)×Int))×Int×Bool×(List Int)} (h:w55z N h51_0 h51_1 h52_0 h52_1 h52_2 h53_0=some d):w55y1 N h51_0 h51_1 h52_0 h52_1 h52_2 h53_0=d.2.1:=by unfold w55y1;rw [h];rfl
theorem w55_y2 {N:Nat} {h51_0:Int} {h51_1:Int} {h52_0:(List ((List UInt8)×Int))} {h52_1:Int} {h52_2:Bool} {h53_0:(List Int)} {d:Int×Int×(List ((List UInt8)×Int))×Int×Bool×(List Int)} (h:w55z N h51_0 h51_1 h52_0 h52_1 h52_2 h53_0=some d):w55y2 N h51_0 h51_1 h52_0 h52_1 h52_2 h53_0=d.2.2.1:=by unfold w55y2;rw [h];rfl
theorem w55_y3 {N:Nat} {h51_0:Int} {h51_1:Int} {h52_0:(List ((List UInt8)×Int))} {h52_1:Int} {h52_2:Bool} {h53_0:(List Int)} {d:Int×Int×(List ((List UInt8)×Int))×Int×Bool×(List Int)} (h:w55z N h51_0 h51_1 h52_0 h52_1 h52_2 h53_0=some d):w55y3 N h51_0 h51_1 h52_0 h52_1 h52_2 h53_0=d.2.2.2.1:=by unfold w55y3;rw [h];rfl
theorem w55_y4 {N:Nat} {h51_0:Int} {h51_1:Int} {h52_0:(List ((List UInt8)×Int))} {h52_1:Int} {h52_2:Bool} {h53_0:(List Int)} {d:Int×Int×(List ((List UInt8)×Int))×Int×Bool×(List Int)} (h:w55z N h51_0 h51_1 h52_0 h52_1 h52_2 h53_0=some d):w55y4 N h51_0 h51_1 h52_0 h52_1 h52_2 h53_0=d.2.2.2.2.1:=by unfold w55y4;rw [h];rfl
theorem w55_y5 {N:Nat} {h51_0:Int} {h51_1:Int} {h52_0:(List ((List UInt8)×Int))} {h52_1:Int} {h52_2:Bool} {h53_0:(List Int)} {d:Int×Int×(List ((List UInt8)×Int))×Int×Bool×(List Int)} (h:w55z N h51_0 h51_1 h52_0 h52_1 h52_2 h53_0=some d):w55y5 N h51_0 h51_1 h52_0 h52_1 h52_2 h53_0=d.2.2.2.2.2:=by unfold w55y5;rw [h];rfl
theorem w42_p {N:Nat} {h50_0:(List ((List UInt8)×Int))} {h50_1:Int} {h50_2:Bool} {d:(List Int)×Int×Int×(List ((List UInt8)×Int))×Int×Bool} (h:w42z N h50_0 h50_1 h50_2=some d):w42p N h50_0 h50_1 h50_2=true:=by unfold w42p;rw [h];rfl
theorem w42_y0 {N:Nat} {h50_0:(List ((List UInt8)×Int))} {h50_1:Int} {h50_2:Bool} {d:(List Int)×Int×Int×(List ((List UInt8)×Int))×Int×Bool} (h:w42z N h50_0 h50_1 h50_2=some d):w42y0 N h50_0 h50_1 h50_2=d.1:=by unfold w42y0;rw [h];rfl
theorem w42_y1 {N:Nat} {h50_0:(List ((List UInt8)×Int))} {h50_1:Int} {h50_2:Bool} {d:(List Int)×Int×Int×(List ((List UInt8)×Int))×Int×Bool} (h:w42z N h50_0 h50_1 h50_2=some d):w42y1 N h50_0 h50_1 h50_2=d.2.1:=by unfold w42y1;rw [h];rfl
theorem w42_y2 {N:Nat} {h50_0:(List ((List UInt8)×Int))} {h50_1:Int} {h50_2:Bool} {d:(List Int)×Int×Int×(List ((List UInt8)×Int))×Int×Bool} (h:w42z N h50_0 h50_1 h50_2=some d):w42y2 N h50_0 h50_1 h50_2=d.2.2.1:=by unfold w42y2;rw [h];rfl
theorem w42_y3 {N:Nat} {h50_0:(List ((List UInt8)×Int))} {h50_1:Int} {h50_2:Bool} {d:(List Int)×Int×Int×(List ((List UInt8)×Int))×Int×Bool} (h:w42z N h50_0 h50_1 h50_2=some d):w42y3 N h50_0 h50_1 h50_2=d.2.2.2.1:=by unfold w42y3;rw [h];rfl
theorem w42_y4 {N:Nat} {h50_0:(List ((List UInt8)×Int))} {h50_1:Int} {h50_2:Bool} {d:(List Int)×Int×Int×(List ((List UInt8)×Int))×Int×Bool} (h:w42z N h50_0 h50_1 h50_2=some d):w42y4 N h50_0 h50_1 h50_2=d.2.2.2.2.1:=by unfold w42y4;rw [h];rfl
theorem w42_y5 {N:Nat} {h50_0:(List ((List UInt8)×Int))} {h50_1:Int} {h50_2:Bool} {d:(List Int)×Int×Int×(List ((List UInt8)×Int))×Int×Bool} (h:w42z N h50_0 h50_1 h50_2=some d):w42y5 N h50_0 h50_1 h50_2=d.2.2.2.2.2:=by unfold w42y5;rw [h];rfl
theorem w55n0_eq (N:Nat) (a0:Int) (a1:Int) (a2:Int) (a3:(List ((List UInt8)×Int))) (a4:Int) (a5:Bool) (a6:(List Int)) (k0:Int->Int->Int->(List ((List UInt8)×Int))->Int->Bool->(List Int)->O):w55n0 N a0 a1 a2 a3 a4 a5 a6 k0=w55F0 N  k0 a0 a1 a2 a3 a4 a5 a6:=rfl
theorem w55n1_eq (N:Nat) (a0:Int) (a1:Int) (a2:Int) (a3:Int) (a4:(List ((List UInt8)×Int))) (a5:Int) (a6:Bool) (a7:(List Int)) (k0:Int->Int->Int->Int->(List ((List UInt8)×Int))->Int->Bool->(List Int)->O):w55n1 N a0 a1 a2 a3 a4 a5 a6 a7 k0=w55F1 N  k0 a0 a1 a2 a3 a4 a5 a6 a7:=rfl
theorem w42n1_eq (N:Nat) (a0:(List ((List UInt8)×Int))) (a1:Int) (a2:Bool) (a3:Int) (a4:Int) (a5:Int) (a6:Int) (k0:(List ((List UInt8)×Int))->Int->Bool->Int->Int->Int->Int->(List Int)->O):w42n1 N a0 a1 a2 a3 a4 a5 a6 k0=w42F1 N (w42n0 N)  k0 a0 a1 a2 a3 a4 a5 a6:=rfl
theorem w24_p {N:Nat} {s0:(List UInt8)} {d:(List ((List Int)×(Int×Int)))×Int×Int} (h:w24z N s0=some d):w24p N s0=true:=by unfold w24p;rw [h];rfl
theorem w24_y0 {N:Nat} {s0:(List UInt8)} {d:(List ((List Int)×(Int×Int)))×Int×Int} (h:w24z N s0=some d):w24y0 N s0=d.1:=by unfold w24y0;rw [h];rfl
theorem w24_y2 {N:Nat} {s0:(List UInt8)} {d:(List ((List Int)×(Int×Int)))×Int×Int} (h:w24z N s0=some d):w24y2 N s0=d.2.2:=by unfold w24y2;rw [h];rfl
theorem w59_p {N:Nat} {s0:(List ((List Int)×(Int×Int)))} {d:Int} (h:w59z N s0=some d):w59p N s0=true:=by unfold w59p;rw [h];rfl
theorem w59_y0 {N:Nat} {s0:(List ((List Int)×(Int×Int)))} {d:Int} (h:w59z N s0=some d):w59y0 N s0=d:=by unfold w59y0;rw [h];rfl
theorem w45_p {N:Nat} {s0:(List ((List Int)×(Int×Int)))} {d:Bool} (h:w45z N s0=some d):w45p N s0=true:=by unfold w45p;rw [h];rfl
theorem w45_y0 {N:Nat} {s0:(List ((List Int)×(Int×Int)))} {d:Bool} (h:w45z N s0=some d):w45y0 N s0=d:=by unfold w45y0;rw [h];rfl
theorem w29_p {N:Nat} {l0:(List ((List Int)×(Int×Int)))} {d:Int} (h:w29z N l0=some d):w29p N l0=true:=by unfold w29p;rw [h];rfl
theorem w29_y0 {N:Nat} {l0:(List ((List Int)×(Int×Int)))} {d:Int} (h:w29z N l0=some d):w29y0 N l0=d:=by unfold w29y0;rw [h];rfl
theorem w27_p {N:Nat} {l0:(List ((List Int)×(Int×Int)))} {d:(List ((List Int)×(Int×Int)))} (h:w27z N l0=some d):w27p N l0=true:=by unfold w27p;rw [h];rfl
theorem w27_y0 {N:Nat} {l0:(List ((List Int)×(Int×Int)))} {d:(List ((List Int)×(Int×Int)))} (h:w27z N l0=some d):w27y0 N l0=d:=by unfold w27y0;rw [h];rfl
theorem w44_p {N:Nat} {a0:(List Int)} {b1:(List Int)} {d:Bool} (h:w44z N a0 b1=some d):w44p N a0 b1=true:=by unfold w44p;rw [h];rfl
theorem w44_y0 {N:Nat} {a0:(List Int)} {b1:(List Int)} {d:Bool} (h:w44z N a0 b1=some d):w44y0 N a0 b1=d:=by unfold w44y0;rw [h];rfl
theorem w26_p {N:Nat} {a0:(List ((List Int)×(Int×Int)))} {b1:(List ((List Int)×(Int×Int)))} {d:Bool} (h:w26z N a0 b1=some d):w26p N a0 b1=true:=by unfold w26p;rw [h];rfl
theorem w26_y0 {N:Nat} {a0:(List ((List Int)×(Int×Int)))} {b1:(List ((List Int)×(Int×Int)))} {d:Bool} (h:w26z N a0 b1=some d):w26y0 N a0 b1=d:=by unfold w26y0;rw [h];rfl
theorem w18_p {N:Nat} {n0:Int} {most1:Int} {d:Int} (h:w18z N n0 most1=some d):w18p N n0 most1=true:=by unfold w18p;rw [h];rfl
theorem w18_y0 {N:Nat} {n0:Int} {most1:Int} {d:Int} (h:w18z N n0 most1=some d):w18y0 N n0 most1=d:=by unfold w18y0;rw [h];rfl
theorem w28_p {N:Nat} {l0:(List Int)} {i1:Int} {most2:Int} {d:Int} (h:w28z N l0 i1 most2=some d):w28p N l0 i1 most2=true:=by unfold w28p;rw [h];rfl
theorem w28_y0 {N:Nat} {l0:(List Int)} {i1:Int} {most2:Int} {d:Int} (h:w28z N l0 i1 most2=some d):w28y0 N l0 i1 most2=d:=by unfold w28y0;rw [h];rfl
theorem w9_p {N:Nat} {l0:(List Int)} {d:(List ((List Int)×(Int×Int)))} (h:w9z N l0=some d):w9p N l0=true:=by unfold w9p;rw [h];rfl
theorem w9_y0 {N:Nat} {l0:(List Int)} {d:(List ((List Int)×(Int×Int)))} (h:w9z N l0=some d):w9y0 N l0=d:=by unfold w9y0;rw [h];rfl
theorem w12_p {N:Nat} {l0:(List ((List Int)×(Int×Int)))} {d:(List ((List Int)×(Int×Int)))} (h:w12z N l0=some d):w12p N l0=true:=by unfold w12p;rw [h];rfl
theorem w12_y0 {N:Nat} {l0:(List ((List Int)×(Int×Int)))} {d:(List ((List Int)×(Int×Int)))} (h:w12z N l0=some d):w12y0 N l0=d:=by unfold w12y0;rw [h];rfl
end Go.Proofs
/- Which rules are valid, and which apply. -/
namespace Go.Proofs
open Go Go.Ax Go.Ax.Alg
abbrev Rl:=List Int×(Int×Int)
theorem lim_of {n b:Nat} (h:n * b<=140737488355328) (h2:n<=140737488355327):lim n b=true:=decide_eq_true ⟨h,h2⟩
theorem nxt {i:Nat} (h:i < 1000000):IntKind.i64.wrap ((i:Int)+1)=((i+1:Nat):Int):=by rw [wr (by omega) (by omega)];omega
def num (t:Int):Int:=max t (-t)
theorem w36_eq {N:Nat} {t:Int} (h:-100<=t) (h2:t<=100):w36z N t=some (num t):=by
 unfold w36z w36 w36G num;rw [wr (by omega) (by omega)];rfl
def termsB:Int->List Int->Bool
 | _,[]=>true
 | last,t::r=>!(decide (t < -16)||decide (16 < t)||decide (num t<=last))&&termsB (num t) r
def validB (r:Rl):Bool:=termsB 0 r.1&&(decide ((r.1.length:Int)<=8)&&decide (0<=r.2.1)&&decide (r.2.1 < 3)&&decide (-10000<=r.2.2)&&decide (r.2.2<=9999))
theorem w47_loop (l:List Int) (hl:l.length < 150) (b:Bool) (c:List Int) (x y:Int) (k0:Bool->O) (k1:Bool×List Int×Int×Int->O) (k2:Unit->O):∀ (n i:Nat) (last:Int),l.length - i < n->i<=l.length->
    w47l0 2000 n (b,last,l,l.length,i,c,x,y) k0 k1 k2=if termsB last (l.drop i) then k1 (b,c,x,y) else k0 false
 | 0,i,_,h,_=>by omega
 | n+1,i,last,h,hi=>by
   show w47F0 2000 _ _ _ b l l.length c x y last i=_;unfold w47F0;by_cases hlt:i < l.length
   ·have hg:l[i]?=some l[i]:=List.getElem?_eq_getElem hlt
    rw [decide_eq_true (show (i:Int) < (l.length:Int) by omega),br_t,gx_at hg,drop_at hg,nxt (by omega)];generalize l[i]=t;show _=if (!(decide (t < -16)||decide (16 < t)||decide (num t<=last))&&termsB (num t) (l.drop (i+1))) then _ else _
    cases hb:(decide (t < -16)||decide (16 < t)) with
    | true=>rfl
    | false=>
      have ht:-16<=t/\t<=16:=by simp at hb;omega
      have h36:=w36_eq (N:=2000) (t:=t) (by omega) (by omega);rw [ck_of (show (!!false||w36p 2000 t)=true from w36_p h36),ck_of (w36_p h36),w36_y0 h36];cases hc:decide (num t<=last) with
      | true=>rfl
      | false=>exact w47_loop l hl b c x y k0 k1 k2 n (i+1) (num t) (by omega) (by omega)
   ·rw [decide_eq_false (show ¬ (i:Int) < (l.length:Int) by omega),br_f,List.drop_eq_nil_of_le (by omega)]
    rfl
theorem w47_eq (r:Rl) (hl:r.1.length < 150):w47z 2000 r.1 r.2.1 r.2.2=some (validB r):=by
 unfold w47z w47 w47G;refine (congrArg (fun z:O=>z.bind w47un) (w47_loop r.1 hl false r.1 r.2.1 r.2.2 (fun z4=>some (w47r0 z4)) (fun y=>some (w47r0 (decide ((↑y.2.1.length:Int)<=8)&&decide (0<=y.2.2.1)&&decide (y.2.2.1 < 3)&&decide (-10000<=y.2.2.2)&&decide (y.2.2.2<=9999)))) (fun _=>none) 2000 0 0 (by omega) (by omega))).trans ?_;rw [List.drop_zero];unfold validB;cases termsB 0 r.1 <;> rfl
theorem w46_eq (r:Rl) (hl:r.1.length < 150):w46z 2000 r.1 r.2.1 r.2.2=some (!validB r):=by
 unfold w46z w46 w46G;have h:=w47_eq r hl;rw [ck_of (w47_p h),w47_y0 h];rfl
theorem w59_loop (l:List Rl) (hl:l.length < 150) (hr:∀ r ∈ l,r.1.length < 150) (z:Int) (k0 k1:Int->O) (k2:Unit->O):∀ (n i:Nat),l.length - i < n->i<=l.length->
    w59l0 2000 n (l,z,l.length,i) k0 k1 k2=match (l.drop i).findIdx? (fun r=>!validB r) with | none=>k1 z | some j=>k0 ((i+j:Nat):Int)
 | 0,i,h,_=>by omega
 | n+1,i,h,hi=>by
   show w59F0 2000 _ _ _ l z l.length i=_;unfold w59F0;by_cases hlt:i < l.length
   ·have hg:l[i]?=some l[i]:=List.getElem?_eq_getElem hlt
    have hm:=hr _ (List.mem_of_getElem? hg);rw [decide_eq_true (show (i:Int) < (l.length:Int) by omega),br_t,gx_at hg,drop_at hg,nxt (by omega),List.findIdx?_cons];generalize l[i]=r at hm;have h46:=w46_eq r hm;rw [ck_of (w46_p h46),w46_y0 h46];cases hb:validB r with
    | false=>rfl
    | true=>
      refine (w59_loop l hl hr z k0 k1 k2 n (i+1) (by omega) (by omega)).trans ?_;show _=match (Option.map (fun i=>i+1) (List.findIdx? (fun r=>!validB r) (l.drop (i+1)))) with | none=>k1 z | some j=>k0 ((i+j:Nat):Int)
      cases (l.drop (i+1)).findIdx? (fun r=>!validB r) with
      | none=>rfl
      | some j=>
        show k0 ((i+1+j:Nat):Int)=k0 ((i+(j+1):Nat):Int);rw [show i+1+j=i+(j+1) by omega]
   ·rw [decide_eq_false (show ¬ (i:Int) < (l.length:Int) by omega),br_f,List.drop_eq_nil_of_le (by omega)]
    rfl
def checkZ (l:List Rl):Int:=if 32 < l.length then 4 else if l.all validB then 0 else 1
theorem w59_eq (l:List Rl) (hl:l.length < 150) (hr:∀ r ∈ l,r.1.length < 150):w59z 2000 l=some (match l.findIdx? (fun r=>!validB r) with | none=>-1 | some j=>(j:Int)):=by
 unfold w59z w59 w59G;refine (congrArg (fun z:O=>z.bind w59un) (w59_loop l hl hr 0 (fun z4=>some (w59r0 z4)) (fun _=>some (w59r0 (-1))) (fun _=>none) 2000 0 (by omega) (by omega))).trans ?_;rw [List.drop_zero];cases l.findIdx? (fun r=>!validB r) with
 | none=>rfl
 | some j=>
   show (some (w59r0 ((0+j:Nat):Int)):O).bind w59un=some (j:Int);rw [Nat.zero_add];rfl
theorem w45_eq (l:List Rl) (hl:l.length < 150) (hr:∀ r ∈ l,r.1.length < 150):w45z 2000 l=some (!l.all validB):=by
 unfold w45z w45 w45G;have h:=w59_eq l hl hr;rw [ck_of (w59_p h),w59_y0 h];have e:decide ((0:Int)<=match l.findIdx? (fun r=>!validB r) with | none=>-1 | some j=>(j:Int))=!l.all validB:=by
  cases h:l.findIdx? (fun r=>!validB r) with
  | none=>
    have:=List.findIdx?_eq_none_iff.1 h;have h2:l.all validB=true:=List.all_eq_true.2 fun x hx=>by have:=this x hx;simp at this;exact this
    rw [h2];rfl
  | some j=>
    obtain ⟨hj,h1,_⟩:=List.findIdx?_eq_some_iff_getElem.1 h;have h2:l.all validB=false:=by
     cases hq:l.all validB with
     | false=>rfl
     | true=>rw [List.all_eq_true.1 hq _ (List.getElem_mem hj)] at h1;exact absurd h1 (by decide)
    rw [h2];exact decide_eq_true (show (0:Int)<=(j:Int) by omega)
 rw [e];rfl
theorem w29_eq (l:List Rl) (hl:l.length < 150) (hr:∀ r ∈ l,r.1.length < 150):w29z 2000 l=some (checkZ l):=by
 unfold w29z w29 w29G checkZ;have h:=w45_eq l hl hr;by_cases h32:32 < l.length
 ·rw [decide_eq_true (show (32:Int) < (l.length:Int) by omega),br_t,if_pos h32];rfl
 ·rw [decide_eq_false (show ¬ (32:Int) < (l.length:Int) by omega),br_f,if_neg h32,ck_of (w45_p h),w45_y0 h]
  cases l.all validB <;> rfl
end Go.Proofs
/- Which rules apply, and what two rules have in common. -/
namespace Go.Proofs
open Go Go.Ax Go.Ax.Alg
def termOk (l:List Int):Prop:=∀ t ∈ l,-16<=t/\t<=16/\1<=num t
def holdT (H:List Bool) (t:Int):Bool:=H.getD (num t - 1).toNat false == decide (0 < t)
def appB (r:Rl) (H:List Bool):Bool:=r.1.all (holdT H)
theorem terms_ok:∀ (l:List Int) (last:Int),0<=last->termsB last l=true->termOk l/\∀ t ∈ l,last < num t
 | [],_,_,_=>by constructor <;> intro x h <;> cases h
 | t::r,last,h0,h=>by
   have h':(!(decide (t < -16)||decide (16 < t)||decide (num t<=last))&&termsB (num t) r)=true:=h;simp at h';obtain ⟨⟨⟨h1,h2⟩,h3⟩,h4⟩:=h';obtain ⟨h5,h6⟩:=terms_ok r (num t) (by omega) h4;refine ⟨fun x hx=>?_,fun x hx=>?_⟩
   ·rcases List.mem_cons.1 hx with hx | hx
    ·rw [hx];exact ⟨h1,h2,by omega⟩
    ·exact h5 x hx
   ·rcases List.mem_cons.1 hx with hx | hx
    ·rw [hx];exact h3
    ·have:=h6 x hx;omega
theorem terms_once:∀ (l:List Int) (last:Int),0<=last->termsB last l=true->∀ s ∈ l,∀ t ∈ l,num s=num t->s=t
 | [],_,_,_=>fun _ h=>by cases h
 | t::r,last,h0,h=>by
   have h':(!(decide (t < -16)||decide (16 < t)||decide (num t<=last))&&termsB (num t) r)=true:=h;simp at h';obtain ⟨⟨⟨h1,h2⟩,h3⟩,h4⟩:=h';have h6:=(terms_ok r (num t) (by omega) h4).2;intro x hx y hy e;rcases List.mem_cons.1 hx with hx | hx <;> rcases List.mem_cons.1 hy with hy | hy
   ·rw [hx,hy]
   ·have:=h6 y hy;rw [hx] at e;omega
   ·have:=h6 x hx;rw [hy] at e;omega
   ·exact terms_once r (num t) (by omega) h4 x hx y hy e
structure VR (r:Rl):Prop where
 t:termOk r.1
 o:∀ s ∈ r.1,∀ t ∈ r.1,num s=num t->s=t
 l:r.1.length<=8
 d0:0<=r.2.1
 d3:r.2.1 < 3
 a0:-10000<=r.2.2
 a1:r.2.2<=9999
theorem VR.of {r:Rl} (h:validB r=true):VR r:=by
 unfold validB at h;simp only [Bool.and_eq_true,decide_eq_true_eq] at h;obtain ⟨h1,⟨⟨⟨h2,h3⟩,h4⟩,h5⟩,h6⟩:=h;exact ⟨(terms_ok _ 0 (by omega) h1).1,terms_once _ 0 (by omega) h1,by omega,h3,h4,h5,h6⟩
end Go.Proofs
/- Features, and what two rules have in common. -/
namespace Go.Proofs
open Go Go.Ax Go.Ax.Alg
def mark (H:List Bool) (t:Int):List Bool:=if 0 < t then H.set (t - 1).toNat true else H
end Go.Proofs
/- The remedy that rules demand. -/
namespace Go.Proofs
open Go Go.Ax Go.Ax.Alg
def upL (H:List Bool) (d:Int) (a:Int) (r:Rl):Int:=if appB r H&&decide (r.2.1=d) then max a r.2.2 else a
def upM (H:List Bool) (d:Int) (b:Int) (r:Rl):Int:=if appB r H&&decide (r.2.1=d)&&decide (r.2.2 < 0) then min b (-1 - r.2.2) else b
def lz (l:List Rl) (H:List Bool) (d:Int):Int:=l.foldl (upL H d) 0
def mz (l:List Rl) (H:List Bool) (d:Int):Int:=l.foldl (upM H d) 9999
def badZ (l:List Rl) (H:List Bool):Prop:=mz l H 0 < lz l H 0\/mz l H 1 < lz l H 1\/mz l H 2 < lz l H 2
instance (l:List Rl) (H:List Bool):Decidable (badZ l H):=by unfold badZ;infer_instance
end Go.Proofs
