/- What the functions of spatial and of its reference reckon. Conditions are in the theorems. -/
import Derived.Test.YtpmhkjnnolpknaaDoorF3
import Derived.IntWalk
/- Small laws for what a run leaves to be shown. -/
namespace Go.Proofs
open Go Go.Ax Go.Ax.Alg
theorem br_t (x y : O) : br true x y = x := rfl
theorem br_f (x y : O) : br false x y = y := rfl
theorem ck_t (x : O) : ck true x = x := rfl
theorem ck_of {b : Bool} (h : b = true) (x : O) : ck b x = x := by rw [h]; rfl
theorem gx_of {α : Type} {l : List α} {n : Int} {y : α} (h0 : 0 ≤ n) (h : l[n.toNat]? = some y) (k : α → O) : gx l n k = k y := by
  show gx0 l n k = _
  unfold gx0
  rw [if_neg (by omega), h]
theorem gx_at {α : Type} {l : List α} {i : Nat} {y : α} (h : l[i]? = some y) (k : α → O) : gx l (i : Int) k = k y := gx_of (by omega) (by rw [Int.toNat_natCast]; exact h) k
theorem gn_of {α : Type} {l : List α} {n : Nat} {y : α} (h : l[n]? = some y) (k : α → O) : gn l n k = k y := by
  show gn0 l n k = _
  unfold gn0
  rw [h]
theorem gx_0 {α : Type} (x : α) (l : List α) (k : α → O) : gx (x :: l) 0 k = k x := rfl
theorem gx_1 {α : Type} (x y : α) (l : List α) (k : α → O) : gx (x :: y :: l) 1 k = k y := rfl
theorem gn_0 {α : Type} (x : α) (l : List α) (k : α → O) : gn (x :: l) 0 k = k x := rfl
theorem gn_1 {α : Type} (x y : α) (l : List α) (k : α → O) : gn (x :: y :: l) 1 k = k y := rfl
theorem gc_t {α : Type} (z : α) (l : List α) (n : Int) (k : α → O) : gc true z l n k = gx l n k := rfl
theorem gc_f {α : Type} (z : α) (l : List α) (n : Int) (k : α → O) : gc false z l n k = k z := rfl
theorem wr {x : Int} (h1 : -9223372036854775808 ≤ x) (h2 : x ≤ 9223372036854775807) : IntKind.i64.wrap x = x := IntWalk.i64_in x ⟨h1, h2⟩
def I64 (x : Int) : Prop := -9223372036854775808 ≤ x ∧ x ≤ 9223372036854775807
theorem drop_at {α : Type} {l : List α} {i : Nat} {y : α} (h : l[i]? = some y) : l.drop i = y :: l.drop (i + 1) := by
  obtain ⟨hi, rfl⟩ := List.getElem?_eq_some_iff.1 h
  exact List.drop_eq_getElem_cons hi
end Go.Proofs
/- What is known of each function once its outcome is. -/
namespace Go.Proofs
noncomputable section
open Go Go.Ax Go.Ax.Alg Go.RowKit Go.Ab
theorem w40_p {N : Nat} {a0 : Int} {d : Bool} (h : w40z N a0 = some d) : w40p N a0 = true := by unfold w40p; rw [h]; rfl
theorem w40_y0 {N : Nat} {a0 : Int} {d : Bool} (h : w40z N a0 = some d) : w40y0 N a0 = d := by unfold w40y0; rw [h]; rfl
theorem w25_p {N : Nat} {n0 : Int} {most1 : Int} {d : Int} (h : w25z N n0 most1 = some d) : w25p N n0 most1 = true := by unfold w25p; rw [h]; rfl
theorem w25_y0 {N : Nat} {n0 : Int} {most1 : Int} {d : Int} (h : w25z N n0 most1 = some d) : w25y0 N n0 most1 = d := by unfold w25y0; rw [h]; rfl
theorem w34_p {N : Nat} {l0 : (List Int)} {i1 : Int} {most2 : Int} {d : Int} (h : w34z N l0 i1 most2 = some d) : w34p N l0 i1 most2 = true := by unfold w34p; rw [h]; rfl
theorem w34_y0 {N : Nat} {l0 : (List Int)} {i1 : Int} {most2 : Int} {d : Int} (h : w34z N l0 i1 most2 = some d) : w34y0 N l0 i1 most2 = d := by unfold w34y0; rw [h]; rfl
theorem w35_p {N : Nat} {n0 : Int} {d : Int} (h : w35z N n0 = some d) : w35p N n0 = true := by unfold w35p; rw [h]; rfl
theorem w35_y0 {N : Nat} {n0 : Int} {d : Int} (h : w35z N n0 = some d) : w35y0 N n0 = d := by unfold w35y0; rw [h]; rfl
theorem w10_p {N : Nat} {l0 : (List Int)} {d : Int × (List Int)} (h : w10z N l0 = some d) : w10p N l0 = true := by unfold w10p; rw [h]; rfl
theorem w10_y0 {N : Nat} {l0 : (List Int)} {d : Int × (List Int)} (h : w10z N l0 = some d) : w10y0 N l0 = d.1 := by unfold w10y0; rw [h]; rfl
theorem w10_y1 {N : Nat} {l0 : (List Int)} {d : Int × (List Int)} (h : w10z N l0 = some d) : w10y1 N l0 = d.2 := by unfold w10y1; rw [h]; rfl
theorem w61_p {N : Nat} {s0 : (List Int)} {d : Int} (h : w61z N s0 = some d) : w61p N s0 = true := by unfold w61p; rw [h]; rfl
theorem w61_y0 {N : Nat} {s0 : (List Int)} {d : Int} (h : w61z N s0 = some d) : w61y0 N s0 = d := by unfold w61y0; rw [h]; rfl
theorem w39_p {N : Nat} {s0 : (List Int)} {d : Bool} (h : w39z N s0 = some d) : w39p N s0 = true := by unfold w39p; rw [h]; rfl
theorem w39_y0 {N : Nat} {s0 : (List Int)} {d : Bool} (h : w39z N s0 = some d) : w39y0 N s0 = d := by unfold w39y0; rw [h]; rfl
theorem w17_p {N : Nat} {s0_0 : Int} {s0_1 : (List Int)} {d : Int} (h : w17z N s0_0 s0_1 = some d) : w17p N s0_0 s0_1 = true := by unfold w17p; rw [h]; rfl
theorem w17_y0 {N : Nat} {s0_0 : Int} {s0_1 : (List Int)} {d : Int} (h : w17z N s0_0 s0_1 = some d) : w17y0 N s0_0 s0_1 = d := by unfold w17y0; rw [h]; rfl
theorem w58_p {N : Nat} {x0 : (List Int)} {d : Int} (h : w58z N x0 = some d) : w58p N x0 = true := by unfold w58p; rw [h]; rfl
theorem w58_y0 {N : Nat} {x0 : (List Int)} {d : Int} (h : w58z N x0 = some d) : w58y0 N x0 = d := by unfold w58y0; rw [h]; rfl
theorem w57_p {N : Nat} {n0 : Int} {d : Int} (h : w57z N n0 = some d) : w57p N n0 = true := by unfold w57p; rw [h]; rfl
theorem w57_y0 {N : Nat} {n0 : Int} {d : Int} (h : w57z N n0 = some d) : w57y0 N n0 = d := by unfold w57y0; rw [h]; rfl
theorem w36_p {N : Nat} {s0_0 : Int} {s0_1 : (List Int)} {d : (List Int)} (h : w36z N s0_0 s0_1 = some d) : w36p N s0_0 s0_1 = true := by unfold w36p; rw [h]; rfl
theorem w36_y0 {N : Nat} {s0_0 : Int} {s0_1 : (List Int)} {d : (List Int)} (h : w36z N s0_0 s0_1 = some d) : w36y0 N s0_0 s0_1 = d := by unfold w36y0; rw [h]; rfl
theorem w60_p {N : Nat} {n0 : Int} {column1 : Int} {d : Int} (h : w60z N n0 column1 = some d) : w60p N n0 column1 = true := by unfold w60p; rw [h]; rfl
theorem w60_y0 {N : Nat} {n0 : Int} {column1 : Int} {d : Int} (h : w60z N n0 column1 = some d) : w60y0 N n0 column1 = d := by unfold w60y0; rw [h]; rfl
theorem w19_p {N : Nat} {a0 : (List Int)} {b1 : (List Int)} {d : Bool} (h : w19z N a0 b1 = some d) : w19p N a0 b1 = true := by unfold w19p; rw [h]; rfl
theorem w19_y0 {N : Nat} {a0 : (List Int)} {b1 : (List Int)} {d : Bool} (h : w19z N a0 b1 = some d) : w19y0 N a0 b1 = d := by unfold w19y0; rw [h]; rfl
theorem w13_p {N : Nat} {s0_0 : Int} {s0_1 : (List Int)} {d : (List Int) × Int} (h : w13z N s0_0 s0_1 = some d) : w13p N s0_0 s0_1 = true := by unfold w13p; rw [h]; rfl
theorem w13_y0 {N : Nat} {s0_0 : Int} {s0_1 : (List Int)} {d : (List Int) × Int} (h : w13z N s0_0 s0_1 = some d) : w13y0 N s0_0 s0_1 = d.1 := by unfold w13y0; rw [h]; rfl
theorem w13_y1 {N : Nat} {s0_0 : Int} {s0_1 : (List Int)} {d : (List Int) × Int} (h : w13z N s0_0 s0_1 = some d) : w13y1 N s0_0 s0_1 = d.2 := by unfold w13y1; rw [h]; rfl
theorem w62_p {N : Nat} {h50_0 : Int} {h51_0 : (List (List UInt8))} {d : Int × (List (List UInt8))} (h : w62z N h50_0 h51_0 = some d) : w62p N h50_0 h51_0 = true := by unfold w62p; rw [h]; rfl
theorem w62_y0 {N : Nat} {h50_0 : Int} {h51_0 : (List (List UInt8))} {d : Int × (List (List UInt8))} (h : w62z N h50_0 h51_0 = some d) : w62y0 N h50_0 h51_0 = d.1 := by unfold w62y0; rw [h]; rfl
theorem w62_y1 {N : Nat} {h50_0 : Int} {h51_0 : (List (List UInt8))} {d : Int × (List (List UInt8))} (h : w62z N h50_0 h51_0 = some d) : w62y1 N h50_0 h51_0 = d.2 := by unfold w62y1; rw [h]; rfl
theorem w80_p {N : Nat} {k0 : Int} {c1 : UInt8} {h51_0 : Int} {h52_0 : Int} {h53_0 : (List (List UInt8))} {d : Int × Int × (List (List UInt8))} (h : w80z N k0 c1 h51_0 h52_0 h53_0 = some d) : w80p N k0 c1 h51_0 h52_0 h53_0 = true := by unfold w80p; rw [h]; rfl
theorem w80_y0 {N : Nat} {k0 : Int} {c1 : UInt8} {h51_0 : Int} {h52_0 : Int} {h53_0 : (List (List UInt8))} {d : Int × Int × (List (List UInt8))} (h : w80z N k0 c1 h51_0 h52_0 h53_0 = some d) : w80y0 N k0 c1 h51_0 h52_0 h53_0 = d.1 := by unfold w80y0; rw [h]; rfl
theorem w80_y1 {N : Nat} {k0 : Int} {c1 : UInt8} {h51_0 : Int} {h52_0 : Int} {h53_0 : (List (List UInt8))} {d : Int × Int × (List (List UInt8))} (h : w80z N k0 c1 h51_0 h52_0 h53_0 = some d) : w80y1 N k0 c1 h51_0 h52_0 h53_0 = d.2.1 := by unfold w80y1; rw [h]; rfl
theorem w80_y2 {N : Nat} {k0 : Int} {c1 : UInt8} {h51_0 : Int} {h52_0 : Int} {h53_0 : (List (List UInt8))} {d : Int × Int × (List (List UInt8))} (h : w80z N k0 c1 h51_0 h52_0 h53_0 = some d) : w80y2 N k0 c1 h51_0 h52_0 h53_0 = d.2.2 := by unfold w80y2; rw [h]; rfl
theorem w81_p {N : Nat}  {d : UInt8 × UInt8 × UInt8 × UInt8 × UInt8 × UInt8 × UInt8 × UInt8 × UInt8 × UInt8} (h : w81z N  = some d) : w81p N  = true := by unfold w81p; rw [h]; rfl
theorem w81_y0 {N : Nat}  {d : UInt8 × UInt8 × UInt8 × UInt8 × UInt8 × UInt8 × UInt8 × UInt8 × UInt8 × UInt8} (h : w81z N  = some d) : w81y0 N  = d.1 := by unfold w81y0; rw [h]; rfl
theorem w81_y1 {N : Nat}  {d : UInt8 × UInt8 × UInt8 × UInt8 × UInt8 × UInt8 × UInt8 × UInt8 × UInt8 × UInt8} (h : w81z N  = some d) : w81y1 N  = d.2.1 := by unfold w81y1; rw [h]; rfl
theorem w81_y2 {N : Nat}  {d : UInt8 × UInt8 × UInt8 × UInt8 × UInt8 × UInt8 × UInt8 × UInt8 × UInt8 × UInt8} (h : w81z N  = some d) : w81y2 N  = d.2.2.1 := by unfold w81y2; rw [h]; rfl
theorem w81_y3 {N : Nat}  {d : UInt8 × UInt8 × UInt8 × UInt8 × UInt8 × UInt8 × UInt8 × UInt8 × UInt8 × UInt8} (h : w81z N  = some d) : w81y3 N  = d.2.2.2.1 := by unfold w81y3; rw [h]; rfl
theorem w81_y4 {N : Nat}  {d : UInt8 × UInt8 × UInt8 × UInt8 × UInt8 × UInt8 × UInt8 × UInt8 × UInt8 × UInt8} (h : w81z N  = some d) : w81y4 N  = d.2.2.2.2.1 := by unfold w81y4; rw [h]; rfl
theorem w81_y5 {N : Nat}  {d : UInt8 × UInt8 × UInt8 × UInt8 × UInt8 × UInt8 × UInt8 × UInt8 × UInt8 × UInt8} (h : w81z N  = some d) : w81y5 N  = d.2.2.2.2.2.1 := by unfold w81y5; rw [h]; rfl
theorem w81_y6 {N : Nat}  {d : UInt8 × UInt8 × UInt8 × UInt8 × UInt8 × UInt8 × UInt8 × UInt8 × UInt8 × UInt8} (h : w81z N  = some d) : w81y6 N  = d.2.2.2.2.2.2.1 := by unfold w81y6; rw [h]; rfl
theorem w81_y7 {N : Nat}  {d : UInt8 × UInt8 × UInt8 × UInt8 × UInt8 × UInt8 × UInt8 × UInt8 × UInt8 × UInt8} (h : w81z N  = some d) : w81y7 N  = d.2.2.2.2.2.2.2.1 := by unfold w81y7; rw [h]; rfl
theorem w81_y8 {N : Nat}  {d : UInt8 × UInt8 × UInt8 × UInt8 × UInt8 × UInt8 × UInt8 × UInt8 × UInt8 × UInt8} (h : w81z N  = some d) : w81y8 N  = d.2.2.2.2.2.2.2.2.1 := by unfold w81y8; rw [h]; rfl
theorem w81_y9 {N : Nat}  {d : UInt8 × UInt8 × UInt8 × UInt8 × UInt8 × UInt8 × UInt8 × UInt8 × UInt8 × UInt8} (h : w81z N  = some d) : w81y9 N  = d.2.2.2.2.2.2.2.2.2 := by unfold w81y9; rw [h]; rfl
theorem w63_p {N : Nat} {n1 : Int} {left2 : Int} {h50_0 : Int} {h51_0 : (List (List UInt8))} {d : Int × (List (List UInt8))} (h : w63z N n1 left2 h50_0 h51_0 = some d) : w63p N n1 left2 h50_0 h51_0 = true := by unfold w63p; rw [h]; rfl
theorem w63_y0 {N : Nat} {n1 : Int} {left2 : Int} {h50_0 : Int} {h51_0 : (List (List UInt8))} {d : Int × (List (List UInt8))} (h : w63z N n1 left2 h50_0 h51_0 = some d) : w63y0 N n1 left2 h50_0 h51_0 = d.1 := by unfold w63y0; rw [h]; rfl
theorem w63_y1 {N : Nat} {n1 : Int} {left2 : Int} {h50_0 : Int} {h51_0 : (List (List UInt8))} {d : Int × (List (List UInt8))} (h : w63z N n1 left2 h50_0 h51_0 = some d) : w63y1 N n1 left2 h50_0 h51_0 = d.2 := by unfold w63y1; rw [h]; rfl
theorem w64_p {N : Nat} {n1 : Int} {left2 : Int} {h50_0 : Int} {h51_0 : (List (List UInt8))} {d : Int × (List (List UInt8))} (h : w64z N n1 left2 h50_0 h51_0 = some d) : w64p N n1 left2 h50_0 h51_0 = true := by unfold w64p; rw [h]; rfl
theorem w64_y0 {N : Nat} {n1 : Int} {left2 : Int} {h50_0 : Int} {h51_0 : (List (List UInt8))} {d : Int × (List (List UInt8))} (h : w64z N n1 left2 h50_0 h51_0 = some d) : w64y0 N n1 left2 h50_0 h51_0 = d.1 := by unfold w64y0; rw [h]; rfl
theorem w64_y1 {N : Nat} {n1 : Int} {left2 : Int} {h50_0 : Int} {h51_0 : (List (List UInt8))} {d : Int × (List (List UInt8))} (h : w64z N n1 left2 h50_0 h51_0 = some d) : w64y1 N n1 left2 h50_0 h51_0 = d.2 := by unfold w64y1; rw [h]; rfl
theorem w65_p {N : Nat} {c1 : UInt8} {h50_0 : Int} {h51_0 : (List (List UInt8))} {d : Int × (List (List UInt8))} (h : w65z N c1 h50_0 h51_0 = some d) : w65p N c1 h50_0 h51_0 = true := by unfold w65p; rw [h]; rfl
theorem w65_y0 {N : Nat} {c1 : UInt8} {h50_0 : Int} {h51_0 : (List (List UInt8))} {d : Int × (List (List UInt8))} (h : w65z N c1 h50_0 h51_0 = some d) : w65y0 N c1 h50_0 h51_0 = d.1 := by unfold w65y0; rw [h]; rfl
theorem w65_y1 {N : Nat} {c1 : UInt8} {h50_0 : Int} {h51_0 : (List (List UInt8))} {d : Int × (List (List UInt8))} (h : w65z N c1 h50_0 h51_0 = some d) : w65y1 N c1 h50_0 h51_0 = d.2 := by unfold w65y1; rw [h]; rfl
theorem w82_p {N : Nat} {x0 : (List UInt8)} {count1 : Int} {d : (List UInt8)} (h : w82z N x0 count1 = some d) : w82p N x0 count1 = true := by unfold w82p; rw [h]; rfl
theorem w82_y0 {N : Nat} {x0 : (List UInt8)} {count1 : Int} {d : (List UInt8)} (h : w82z N x0 count1 = some d) : w82y0 N x0 count1 = d := by unfold w82y0; rw [h]; rfl
theorem w66_p {N : Nat} {h50_0 : Int} {h51_0 : (List (List UInt8))} {d : Int × (List (List UInt8))} (h : w66z N h50_0 h51_0 = some d) : w66p N h50_0 h51_0 = true := by unfold w66p; rw [h]; rfl
theorem w66_y0 {N : Nat} {h50_0 : Int} {h51_0 : (List (List UInt8))} {d : Int × (List (List UInt8))} (h : w66z N h50_0 h51_0 = some d) : w66y0 N h50_0 h51_0 = d.1 := by unfold w66y0; rw [h]; rfl
theorem w66_y1 {N : Nat} {h50_0 : Int} {h51_0 : (List (List UInt8))} {d : Int × (List (List UInt8))} (h : w66z N h50_0 h51_0 = some d) : w66y1 N h50_0 h51_0 = d.2 := by unfold w66y1; rw [h]; rfl
theorem w42_p {N : Nat} {s0_0 : Int} {s0_1 : (List Int)} {result1 : Int} {d : (List (List UInt8))} (h : w42z N s0_0 s0_1 result1 = some d) : w42p N s0_0 s0_1 result1 = true := by unfold w42p; rw [h]; rfl
theorem w42_y0 {N : Nat} {s0_0 : Int} {s0_1 : (List Int)} {result1 : Int} {d : (List (List UInt8))} (h : w42z N s0_0 s0_1 result1 = some d) : w42y0 N s0_0 s0_1 result1 = d := by unfold w42y0; rw [h]; rfl
theorem w43_p {N : Nat} {s0_0 : Int} {s0_1 : (List Int)} {result1 : Int} {d : (List (List UInt8))} (h : w43z N s0_0 s0_1 result1 = some d) : w43p N s0_0 s0_1 result1 = true := by unfold w43p; rw [h]; rfl
theorem w43_y0 {N : Nat} {s0_0 : Int} {s0_1 : (List Int)} {result1 : Int} {d : (List (List UInt8))} (h : w43z N s0_0 s0_1 result1 = some d) : w43y0 N s0_0 s0_1 result1 = d := by unfold w43y0; rw [h]; rfl
theorem w44_p {N : Nat} {s0_0 : Int} {s0_1 : (List Int)} {quotient1 : Int} {d : (List (List UInt8))} (h : w44z N s0_0 s0_1 quotient1 = some d) : w44p N s0_0 s0_1 quotient1 = true := by unfold w44p; rw [h]; rfl
theorem w44_y0 {N : Nat} {s0_0 : Int} {s0_1 : (List Int)} {quotient1 : Int} {d : (List (List UInt8))} (h : w44z N s0_0 s0_1 quotient1 = some d) : w44y0 N s0_0 s0_1 quotient1 = d := by unfold w44y0; rw [h]; rfl
theorem w21_p {N : Nat} {s0_0 : Int} {s0_1 : (List Int)} {d : (List (List UInt8)) × Int} (h : w21z N s0_0 s0_1 = some d) : w21p N s0_0 s0_1 = true := by unfold w21p; rw [h]; rfl
theorem w21_y0 {N : Nat} {s0_0 : Int} {s0_1 : (List Int)} {d : (List (List UInt8)) × Int} (h : w21z N s0_0 s0_1 = some d) : w21y0 N s0_0 s0_1 = d.1 := by unfold w21y0; rw [h]; rfl
theorem w21_y1 {N : Nat} {s0_0 : Int} {s0_1 : (List Int)} {d : (List (List UInt8)) × Int} (h : w21z N s0_0 s0_1 = some d) : w21y1 N s0_0 s0_1 = d.2 := by unfold w21y1; rw [h]; rfl
theorem w31_p {N : Nat} {c0 : UInt8} {d : UInt8} (h : w31z N c0 = some d) : w31p N c0 = true := by unfold w31p; rw [h]; rfl
theorem w31_y0 {N : Nat} {c0 : UInt8} {d : UInt8} (h : w31z N c0 = some d) : w31y0 N c0 = d := by unfold w31y0; rw [h]; rfl
theorem w88_p {N : Nat} {c0 : UInt8} {n1 : Int} {d : (List UInt8)} (h : w88z N c0 n1 = some d) : w88p N c0 n1 = true := by unfold w88p; rw [h]; rfl
theorem w88_y0 {N : Nat} {c0 : UInt8} {n1 : Int} {d : (List UInt8)} (h : w88z N c0 n1 = some d) : w88y0 N c0 n1 = d := by unfold w88y0; rw [h]; rfl
theorem w86_p {N : Nat} {s0 : (List UInt8)} {width1 : Int} {left2 : Int} {d : (List UInt8)} (h : w86z N s0 width1 left2 = some d) : w86p N s0 width1 left2 = true := by unfold w86p; rw [h]; rfl
theorem w86_y0 {N : Nat} {s0 : (List UInt8)} {width1 : Int} {left2 : Int} {d : (List UInt8)} (h : w86z N s0 width1 left2 = some d) : w86y0 N s0 width1 left2 = d := by unfold w86y0; rw [h]; rfl
theorem w87_p {N : Nat} {line0 : (List UInt8)} {sign1 : (List UInt8)} {d : (List UInt8)} (h : w87z N line0 sign1 = some d) : w87p N line0 sign1 = true := by unfold w87p; rw [h]; rfl
theorem w87_y0 {N : Nat} {line0 : (List UInt8)} {sign1 : (List UInt8)} {d : (List UInt8)} (h : w87z N line0 sign1 = some d) : w87y0 N line0 sign1 = d := by unfold w87y0; rw [h]; rfl
theorem w30_p {N : Nat} {a0_0 : Int} {a0_1 : (List Int)} {b1_0 : Int} {b1_1 : (List Int)} {d : Bool} (h : w30z N a0_0 a0_1 b1_0 b1_1 = some d) : w30p N a0_0 a0_1 b1_0 b1_1 = true := by unfold w30p; rw [h]; rfl
theorem w30_y0 {N : Nat} {a0_0 : Int} {a0_1 : (List Int)} {b1_0 : Int} {b1_1 : (List Int)} {d : Bool} (h : w30z N a0_0 a0_1 b1_0 b1_1 = some d) : w30y0 N a0_0 a0_1 b1_0 b1_1 = d := by unfold w30y0; rw [h]; rfl
theorem w10n0_eq (N : Nat) (a0 : (List Int)) (a1 : Int) (a2 : Int) (a3 : Int) (k0 : (List Int) → Int → Int → Int → O) : w10n0 N a0 a1 a2 a3 k0 = w10F0 N  k0 a0 a1 a2 a3 := rfl
theorem w10n2_eq (N : Nat) (a0 : Int) (a1 : Int) (a2 : (List Int)) (k0 : Int → Int → (List Int) → O) : w10n2 N a0 a1 a2 k0 = w10F2 N  k0 a0 a1 a2 := rfl
theorem w17n0_eq (N : Nat) (a0 : Int) (a1 : Int) (a2 : Int) (a3 : Int) (a4 : (List Int)) (k0 : Int → Int → Bool → Int → (List Int) → O) : w17n0 N a0 a1 a2 a3 a4 k0 = w17F0 N  k0 a0 a1 a2 a3 a4 := rfl
theorem w17n1_eq (N : Nat) (a0 : Int) (a1 : Int) (a2 : Int) (a3 : (List Int)) (k0 : Int → O) (k1 : Int → Int → (List Int) → O) : w17n1 N a0 a1 a2 a3 k0 k1 = w17F1 N (w17n0 N)  k0 k1 a0 a1 a2 a3 := rfl
theorem w58n0_eq (N : Nat) (a0 : (List Int)) (a1 : Int) (k0 : (List Int) → Int → O) : w58n0 N a0 a1 k0 = w58F0 N  k0 a0 a1 := rfl
theorem w71n1_eq (N : Nat) (a0 : Int) (a1 : Int) (a2 : Int) (a3 : Int) (a4 : (List Int)) (a5 : Int) (a6 : Bool) (a7 : (List Int)) (a8 : Int) (a9 : Int) (a10 : Int) (a11 : (List UInt8)) (a12 : Int) (a13 : (List UInt8)) (a14 : (List UInt8)) (a15 : Int) (a16 : (List Int)) (a17 : (List (List UInt8))) (k0 : Int → Int → Int → Int → (List Int) → Int → Bool → (List Int) → Int → Int → Int → (List UInt8) → Int → (List UInt8) → (List UInt8) → Int → (List Int) → Int → Int → Bool → Bool → Bool → Int → (List Int) → (List (List UInt8)) → O) : w71n1 N a0 a1 a2 a3 a4 a5 a6 a7 a8 a9 a10 a11 a12 a13 a14 a15 a16 a17 k0 = w71F1 N  k0 a0 a1 a2 a3 a4 a5 a6 a7 a8 a9 a10 a11 a12 a13 a14 a15 a16 a17 := rfl
end
end Go.Proofs
/- What the functions of spatial and of its reference reckon: valid calculations and results. -/
namespace Go.Proofs
open Go Go.Ax Go.Ax.Alg
abbrev W := IntKind.i64.wrap

def aroundZ (n m : Int) : Int := if m < 1 then 0 else if n < 0 then (-(n + 1)).tmod m else n.tmod m
theorem around_lt {n m : Int} (hm : 1 ≤ m) : 0 ≤ aroundZ n m ∧ aroundZ n m < m := by
  unfold aroundZ
  rw [if_neg (by omega)]
  split
  · exact ⟨Int.tmod_nonneg _ (by omega), Int.tmod_lt_of_pos _ (by omega)⟩
  · exact ⟨Int.tmod_nonneg _ (by omega), Int.tmod_lt_of_pos _ (by omega)⟩
theorem w25_eq (N : Nat) {n m : Int} (hn : I64 n) : w25z N n m = some (aroundZ n m) := by
  obtain ⟨h1, h2⟩ := hn
  unfold w25z w25 w25G aroundZ
  by_cases hm : m < 1
  · by_cases h0 : n < 0 <;> simp [hm, h0, br_t, br_f] <;> rfl
  · have hm0 : m ≠ 0 := by omega
    by_cases h0 : n < 0
    · have e1 : IntKind.i64.wrap (n + 1) = n + 1 := wr (by omega) (by omega)
      have e2 : IntKind.i64.wrap (-(n + 1)) = -(n + 1) := wr (by omega) (by omega)
      simp only [hm, h0, hm0, decide_true, decide_false, br_t, br_f, e1, e2, if_true, if_false, ne_eq, not_false_eq_true, ck_t]
      rfl
    · simp only [hm, h0, hm0, decide_true, decide_false, br_f, if_false, ne_eq, not_false_eq_true, ck_t]
      rfl

def bad (x : Int) : Bool := decide (x < 0) || decide (999999 < x)
theorem w40_eq (N : Nat) (x : Int) : w40z N x = some (bad x) := rfl
theorem w61_loop (N : Nat) (s : List Int) (hs : s.length < 4611686018427387904) (x1 : Int) (k0 k1 : Int → O) (k2 : Unit → O) : ∀ (n i : Nat), s.length - i < n → i ≤ s.length →
    w61l0 N n (s, x1, s.length, i) k0 k1 k2 = match (s.drop i).findIdx? bad with | some j => k0 ((i + j : Nat) : Int) | none => k1 x1
  | 0, i, h, _ => by omega
  | n + 1, i, h, hi => by
    show w61F0 N _ _ _ s x1 s.length i = _
    unfold w61F0
    by_cases hlt : i < s.length
    · have hg : s[i]? = some s[i] := List.getElem?_eq_getElem hlt
      have e : IntKind.i64.wrap ((i : Int) + 1) = ((i + 1 : Nat) : Int) := by rw [wr (by omega) (by omega)]; omega
      have hd : decide ((i : Int) < (s.length : Int)) = true := decide_eq_true (by omega)
      rw [hd, br_t, gx_at hg, ck_of (w40_p (w40_eq N _)), drop_at hg, List.findIdx?_cons, w40_y0 (w40_eq N _)]
      cases hb : bad s[i] with
      | true => rw [br_t]; rfl
      | false =>
        rw [br_f, e]
        have := w61_loop N s hs x1 k0 k1 k2 n (i + 1) (by omega) (by omega)
        simp only [this]
        cases List.findIdx? bad (List.drop (i + 1) s) with
        | none => rfl
        | some j => simp only [Bool.false_eq_true, if_false, Option.map_some]; rw [show i + 1 + j = i + (j + 1) by omega]
    · have hd : decide ((i : Int) < (s.length : Int)) = false := decide_eq_false (by omega)
      rw [hd, br_f, List.drop_eq_nil_of_le (by omega)]
      rfl
theorem w39_eq {N : Nat} {s : List Int} (hs : s.length < 4611686018427387904) (hN : s.length < N) : w39z N s = some (s.any bad) := by
  have h := w61_loop N s hs 0 (fun z4 => some (w61r0 z4)) (fun _ => some (w61r0 (-1))) (fun _ => none) N 0 (by omega) (by omega)
  have h1 : w61z N s = some (match s.findIdx? bad with | some j => (j : Int) | none => -1) := by
    unfold w61z
    rw [show w61 N s = w61l0 N N (s, 0, s.length, (0 : Nat)) (fun z4 => some (w61r0 z4)) (fun _ => some (w61r0 (-1))) (fun _ => none) from rfl, h]
    rw [List.drop_zero]
    cases List.findIdx? bad s with
    | none => rfl
    | some j => simp only [Nat.zero_add]; rfl
  unfold w39z w39 w39G
  rw [ck_of (w61_p h1), w61_y0 h1]
  have h3 : (List.findIdx? bad s).isSome = s.any bad := List.findIdx?_isSome
  rw [← h3]
  cases hj : List.findIdx? bad s with
  | none => rfl
  | some j =>
    have : decide (0 ≤ (j : Int)) = true := decide_eq_true (by omega)
    simp only [this]
    rfl

def rangeZ (op : Int) (a : List Int) : Int := if a.any bad || (decide (op = 4) && decide (a.getD 0 0 < a.getD 1 0)) || (decide (op = 6) && decide (a.getD 1 0 = 0)) then 5 else 0
def validZ (op : Int) (a : List Int) : Int := if op = 3 then (if a.length < 2 ∨ 8 < a.length then 1 else rangeZ op a) else if op = 4 ∨ op = 5 ∨ op = 6 then (if a.length ≠ 2 then 1 else rangeZ op a) else 1
theorem two_at {a : List Int} (h : 2 ≤ a.length) : ∃ x y r, a = x :: y :: r := by
  match a, h with
  | x :: y :: r, _ => exact ⟨x, y, r, rfl⟩
theorem w17_tail {N : Nat} {op : Int} {a : List Int} (h2 : 2 ≤ a.length) (hs : a.length < 4611686018427387904) (hN : a.length < N) :
    (ck (w39p N a) <|
      gc (!w39y0 N a && decide (op = 4)) (0) a (0) fun y23 =>
      gc (!w39y0 N a && decide (op = 4)) (0) a (1) fun y24 =>
      gc (!(w39y0 N a || decide (op = 4) && decide (y23 < y24)) && decide (op = 6)) (0) a (1) fun y25 =>
      br (w39y0 N a || decide (op = 4) && decide (y23 < y24) || decide (op = 6) && decide (y25 = 0))
        (some (w17r0 (5)))
        (some (w17r0 (0)))) = some (w17r0 (rangeZ op a)) := by
  obtain ⟨x, y, r, rfl⟩ := two_at h2
  have h39 := w39_eq hs hN
  rw [ck_of (w39_p h39), w39_y0 h39]
  unfold rangeZ
  cases (x :: y :: r).any bad
  · by_cases h4 : op = 4
    · subst h4
      simp only [Bool.not_false, decide_true, Bool.and_true, gc_t, gx_0, gx_1, Bool.false_or, Bool.true_and]
      by_cases hlt : x < y
      · simp [hlt, gc_f, br_t]
      · simp [hlt, gc_f, br_f]
    · by_cases h6 : op = 6
      · subst h6
        by_cases hy0 : y = 0
        · simp [hy0, gc_f, gc_t, gx_1, br_t]
        · simp [hy0, gc_f, gc_t, gx_1, br_f]
      · simp [h4, h6, gc_f, br_f]
  · simp [gc_f, br_t]
theorem w17_eq {N : Nat} {op : Int} {a : List Int} (hs : a.length < 4611686018427387904) (hN : a.length < N) : w17z N op a = some (validZ op a) := by
  unfold w17z w17 w17G
  rw [w17n1_eq]
  unfold w17F1 validZ
  by_cases h3 : op = 3
  · subst h3
    by_cases hl : a.length < 2 ∨ 8 < a.length
    · have : (decide ((a.length : Int) < 2) || decide (8 < (a.length : Int))) = true := by simp; omega
      simp only [decide_true, br_t, this, hl, if_true]
      rfl
    · have : (decide ((a.length : Int) < 2) || decide (8 < (a.length : Int))) = false := by simp; omega
      simp only [decide_true, br_t, this, br_f, hl, if_true, if_false]
      rw [w17_tail (by omega) hs hN]
      rfl
  · have hd : decide (op = 3) = false := decide_eq_false h3
    rw [hd, br_f, if_neg h3]
    have fin : ∀ (b : Bool), (br b (br (decide ((a.length : Int) ≠ 2)) (some (w17r0 1)) (ck (w39p N a) <|
      gc (!w39y0 N a && decide (op = 4)) (0) a (0) fun y23 =>
      gc (!w39y0 N a && decide (op = 4)) (0) a (1) fun y24 =>
      gc (!(w39y0 N a || decide (op = 4) && decide (y23 < y24)) && decide (op = 6)) (0) a (1) fun y25 =>
      br (w39y0 N a || decide (op = 4) && decide (y23 < y24) || decide (op = 6) && decide (y25 = 0))
        (some (w17r0 (5)))
        (some (w17r0 (0))))) (some (w17r0 1))).bind w17un = some (if b then (if a.length ≠ 2 then 1 else rangeZ op a) else 1) := fun b => by
      cases b with
      | false => rfl
      | true =>
        rw [br_t]
        by_cases hl : a.length = 2
        · have : decide ((a.length : Int) ≠ 2) = false := by simp; omega
          rw [this, br_f, w17_tail (by omega) hs hN]
          simp [hl]
          rfl
        · have : decide ((a.length : Int) ≠ 2) = true := by simp; omega
          rw [this, br_t]
          simp [hl]
          rfl
    rw [w17n0_eq]
    unfold w17F0
    by_cases h4 : op = 4
    · rw [show decide (op = 4) = true from decide_eq_true h4, br_t]
      rw [if_pos (.inl h4)]
      exact fin true
    · rw [show decide (op = 4) = false from decide_eq_false h4, br_f]
      by_cases h5 : op = 5
      · rw [show decide (op = 5) = true from decide_eq_true h5, br_t, if_pos (.inr (.inl h5))]
        exact fin true
      · rw [show decide (op = 5) = false from decide_eq_false h5, br_f]
        by_cases h6 : op = 6
        · rw [show decide (op = 6) = true from decide_eq_true h6, if_pos (.inr (.inr h6))]
          exact fin true
        · rw [show decide (op = 6) = false from decide_eq_false h6, if_neg (by omega)]
          rfl
end Go.Proofs
/- What the functions of spatial and of its reference reckon: results. -/
namespace Go.Proofs
open Go Go.Ax Go.Ax.Alg

def resZ (op : Int) (a : List Int) : List Int := if op = 3 then [a.sum] else if op = 4 then [a.getD 0 0 - a.getD 1 0] else if op = 5 then [a.getD 0 0 * a.getD 1 0] else [(a.getD 0 0).tdiv (a.getD 1 0), (a.getD 0 0).tmod (a.getD 1 0)]
def resultZ (op : Int) (a : List Int) : List Int × Int := if validZ op a = 0 then (resZ op a, 0) else ([], validZ op a)
/-- What holds of valid calculations. -/
structure Val (op : Int) (a : List Int) : Prop where
  two : 2 ≤ a.length
  eight : a.length ≤ 8
  pair : op ≠ 3 → a.length = 2
  opr : op = 3 ∨ op = 4 ∨ op = 5 ∨ op = 6
  all : ∀ x ∈ a, 0 ≤ x ∧ x ≤ 999999
  sub : op = 4 → a.getD 1 0 ≤ a.getD 0 0
  frac : op = 6 → a.getD 1 0 ≠ 0
theorem val_of {op : Int} {a : List Int} (h : validZ op a = 0) : Val op a := by
  unfold validZ at h
  have hr : (op = 3 ∧ 2 ≤ a.length ∧ a.length ≤ 8 ∨ (op = 4 ∨ op = 5 ∨ op = 6) ∧ a.length = 2) ∧ rangeZ op a = 0 := by
    by_cases h3 : op = 3
    · rw [if_pos h3] at h
      split at h
      · cases h
      · exact ⟨.inl ⟨h3, by omega, by omega⟩, h⟩
    · rw [if_neg h3] at h
      split at h
      · rename_i h4
        split at h
        · cases h
        · exact ⟨.inr ⟨h4, by omega⟩, h⟩
      · cases h
  obtain ⟨hl, hr⟩ := hr
  unfold rangeZ at hr
  split at hr
  · cases hr
  rename_i hb
  simp only [Bool.or_eq_true, not_or, Bool.and_eq_true, decide_eq_true_eq, not_and] at hb
  obtain ⟨⟨h1, h2⟩, h3⟩ := hb
  refine ⟨by omega, by omega, fun h => by omega, by omega, fun x hx => ?_, fun h => Int.not_lt.1 (h2 h), fun h => h3 h⟩
  have : bad x = false := by
    cases hbx : bad x with
    | false => rfl
    | true => exact absurd (List.any_eq_true.2 ⟨x, hx, hbx⟩) h1
  unfold bad at this
  simp at this
  omega
theorem of_val {op : Int} {a : List Int} (h : Val op a) : validZ op a = 0 := by
  have hr : rangeZ op a = 0 := by
    unfold rangeZ
    rw [if_neg]
    simp only [Bool.or_eq_true, not_or, Bool.and_eq_true, decide_eq_true_eq, not_and]
    refine ⟨⟨fun hb => ?_, fun h4 => Int.not_lt.2 (h.sub h4)⟩, fun h6 => h.frac h6⟩
    obtain ⟨x, hx, hbx⟩ := List.any_eq_true.1 hb
    have := h.all x hx
    unfold bad at hbx
    simp at hbx
    omega
  unfold validZ
  rw [hr]
  have h1 := h.two
  have h2 := h.eight
  by_cases h3 : op = 3
  · rw [if_pos h3, if_neg (by omega)]
  · rw [if_neg h3, if_pos (by have := h.opr; omega), if_neg (by have := h.pair h3; omega)]

theorem sum_le : ∀ {a : List Int}, (∀ x ∈ a, 0 ≤ x ∧ x ≤ 999999) → 0 ≤ a.sum ∧ a.sum ≤ 999999 * a.length
  | [], _ => by simp
  | x :: a, h => by
    have h1 := h x (by simp)
    have h2 := sum_le (a := a) fun y hy => h y (by simp [hy])
    rw [List.sum_cons, List.length_cons]
    omega
theorem w13_loop (N : Nat) (l a : List Int) (h8 : l.length ≤ 100) (hall : ∀ x ∈ l, 0 ≤ x ∧ x ≤ 999999) (x0 : Int) (k0 : Int × List Int → O) (k1 : Int × Int → O) (k2 : Unit → O) : ∀ (n i : Nat) (acc : Int), l.length - i < n → i ≤ l.length → 0 ≤ acc → acc ≤ 1000000000000 - 999999 * ((l.length - i : Nat) : Int) →
    w13l0 N n (x0, acc, l, l.length, i, 3, a) k0 k1 k2 = k1 (x0, acc + (l.drop i).sum)
  | 0, i, _, h, _, _, _ => by omega
  | n + 1, i, acc, h, hi, ha0, ha1 => by
    show w13F0 N _ _ _ x0 l l.length 3 a acc i = _
    unfold w13F0
    by_cases hlt : i < l.length
    · have hg : l[i]? = some l[i] := List.getElem?_eq_getElem hlt
      have hx := hall l[i] (List.getElem_mem hlt)
      have e : IntKind.i64.wrap ((i : Int) + 1) = ((i + 1 : Nat) : Int) := by rw [wr (by omega) (by omega)]; omega
      have e2 : IntKind.i64.wrap (acc + l[i]) = acc + l[i] := wr (by omega) (by omega)
      have hd : decide ((i : Int) < (l.length : Int)) = true := decide_eq_true (by omega)
      rw [hd, br_t, gx_at hg, show decide ((3 : Int) = 3) = true from rfl, br_t, e, e2, drop_at hg, List.sum_cons]
      have := w13_loop N l a h8 hall x0 k0 k1 k2 n (i + 1) (acc + l[i]) (by omega) (by omega) (by omega) (by omega)
      rw [Int.add_assoc] at this
      exact this
    · have hd : decide ((i : Int) < (l.length : Int)) = false := decide_eq_false (by omega)
      rw [hd, br_f, List.drop_eq_nil_of_le (by omega)]
      simp
theorem w13_two (N n : Nat) (x0 x y : Int) (op : Int) (a : List Int) (hop : op = 4 ∨ op = 5 ∨ op = 6) (hx : 0 ≤ x ∧ x ≤ 999999) (hy : 0 ≤ y ∧ y ≤ 999999) (h6 : op = 6 → y ≠ 0) (k0 : Int × List Int → O) (k1 : Int × Int → O) (k2 : Unit → O) :
    w13l0 N (n + 2) (x0, x, [y], 1, 0, op, a) k0 k1 k2 = if op = 4 then k1 (x0, x - y) else if op = 5 then k1 (x0, x * y) else k0 (0, [x.tdiv y, x.tmod y]) := by
  show w13F0 N (fun v0 v1 => w13F0 N _ _ _ x0 [y] 1 op a v0 v1) _ _ x0 [y] 1 op a x 0 = _
  unfold w13F0
  have e1 : IntKind.i64.wrap (1 : Int) = 1 := by decide
  have hb : 0 ≤ x * y ∧ x * y ≤ 999999 * 999999 := ⟨Int.mul_nonneg hx.1 hy.1, Int.mul_le_mul hx.2 hy.2 hy.1 (by omega)⟩
  have h1 : ¬ (1 : Int) < 1 := by omega
  rcases hop with rfl | rfl | rfl
  · have e2 : IntKind.i64.wrap (x - y) = x - y := wr (by omega) (by omega)
    simp [br_t, br_f, gx_0, e1, e2]
  · have e2 : IntKind.i64.wrap (x * y) = x * y := wr (by omega) (by omega)
    simp [br_t, br_f, gx_0, e1, e2]
  · have hy0 := h6 rfl
    have hq : 0 ≤ x.tdiv y ∧ x.tdiv y ≤ x := ⟨Int.tdiv_nonneg hx.1 hy.1, Int.tdiv_le_self _ hx.1⟩
    have e2 : IntKind.i64.wrap (x.tdiv y) = x.tdiv y := wr (by omega) (by omega)
    simp [br_t, br_f, gx_0, e2, hy0, ck_t]
theorem w13_eq {N : Nat} {op : Int} {a : List Int} (hs : a.length < 4611686018427387904) (hN : a.length + 2 < N) : w13z N op a = some (resultZ op a) := by
  unfold w13z w13 w13G resultZ
  have h17 := w17_eq (N := N) (op := op) hs (by omega)
  rw [ck_of (w17_p h17), w17_y0 h17]
  by_cases hv : validZ op a = 0
  · have V := val_of hv
    rw [if_pos hv, hv, show decide ((0 : Int) ≠ 0) = false from rfl, br_f]
    obtain ⟨x, y, r, rfl⟩ := two_at V.two
    have hx := V.all x (by simp)
    have hy := V.all y (by simp)
    have hr8 := V.eight
    have hsl : slc (x :: y :: r) (some 1) none = y :: r := rfl
    rw [gx_0, hsl]
    have hck : slcOk (x :: y :: r).length (some 1) none = true := by
      show decide ((0 : Int) ≤ 1 ∧ (1 : Int) ≤ ((x :: y :: r).length : Nat)) = true
      apply decide_eq_true
      simp only [List.length_cons]
      omega
    rw [ck_of hck]
    unfold resZ
    by_cases h3 : op = 3
    · subst h3
      have hl := w13_loop N (y :: r) (x :: y :: r) (by simp at hr8 ⊢; omega) (fun z hz => V.all z (by simp at hz ⊢; exact .inr hz)) 0 (fun y => some (w13r0 y.2 y.1)) (fun y => some (w13r0 [y.2] 0)) (fun _ => none) N 0 x (by simp at hN ⊢; omega) (by omega) hx.1 (by simp at hr8 ⊢; omega)
      rw [if_pos rfl]
      refine (congrArg (fun z : O => z.bind w13un) hl).trans ?_
      rfl
    · obtain ⟨m, rfl⟩ : ∃ m, N = m + 2 := ⟨N - 2, by omega⟩
      have hlen := V.pair h3
      have hr : r = [] := by
        simp at hlen
        exact hlen
      subst hr
      have hop : op = 4 ∨ op = 5 ∨ op = 6 := by have := V.opr; omega
      have hl := w13_two (m + 2) m 0 x y op [x, y] hop hx hy (fun h => V.frac h) (fun y => some (w13r0 y.2 y.1)) (fun y => some (w13r0 [y.2] 0)) (fun _ => none)
      refine (congrArg (fun z : O => z.bind w13un) hl).trans ?_
      rw [if_neg h3]
      by_cases h4 : op = 4
      · rw [if_pos h4, if_pos h4]; rfl
      · rw [if_neg h4, if_neg h4]
        by_cases h5 : op = 5
        · rw [if_pos h5, if_pos h5]; rfl
        · rw [if_neg h5, if_neg h5]; rfl
  · rw [if_neg hv, show decide (validZ op a ≠ 0) = true from decide_eq_true hv, br_t]
    rfl
end Go.Proofs
/- What is known of the laws once their outcome is. -/
namespace Go.Proofs
noncomputable section
open Go Go.Ax Go.Ax.Alg Go.RowKit Go.Ab
end
end Go.Proofs
