/- The law on Cut: the walk. -/
import Derived.Test.YtokdclbfjlnnjaaT3
namespace Go.Proofs.Ytokdclbfjlnnjaa
open Go.RowKit Go.Ab

theorem Try.mix : Try.prog.follows .mixedOrders = true := by kernel_rfl
theorem Try.z45 : (Try.prog.info? 45).bind (·.zero) = some (.agg #[.int .i64 0, .int .i64 0, .slice none 0 0]) := by kernel_rfl
theorem Try.s45 : (Try.prog.info? 45).map (·.size) = some 3 := by kernel_rfl
theorem Try.r45 : rowT Try.prog 45 = some true := by kernel_rfl
theorem Try.o45_2 : fieldOff Try.prog 45 2 = some 2 := by kernel_rfl
theorem Try.r43 : rowT Try.prog 43 = some false := by kernel_rfl
theorem Try.sl43 : Try.prog.underlying 43 = some (.slice 51) := by kernel_rfl
theorem Try.e43 : elemSz Try.prog 43 = some 2 := by kernel_rfl
theorem Try.s3 : (Try.prog.info? 3).map (·.size) = some 1 := by kernel_rfl
theorem Try.o51_1 : fieldOff Try.prog 51 1 = some 1 := by kernel_rfl
theorem Try.r49 : rowT Try.prog 49 = some false := by kernel_rfl
theorem Try.e22 : elemSz Try.prog 22 = some 1 := by kernel_rfl
theorem Try.r3 : rowT Try.prog 3 = some false := by kernel_rfl
theorem Try.sl81 : Try.prog.underlying 81 = some (.slice 96) := by kernel_rfl
theorem Try.e81 : elemSz Try.prog 81 = some 5 := by kernel_rfl
theorem Try.o96_0 : fieldOff Try.prog 96 0 = some 0 := by kernel_rfl
theorem Try.o96_1 : fieldOff Try.prog 96 1 = some 1 := by kernel_rfl
theorem Try.o96_2 : fieldOff Try.prog 96 2 = some 4 := by kernel_rfl
theorem Try.r22 : rowT Try.prog 22 = some false := by kernel_rfl
theorem shT_len (L : List Sh) : (shT L).length = L.length * 2 := flat_len (f := fun s : Sh => [ti s.1, .sl s.2.length (ptT s.2)]) (s := 2) (fun _ => rfl) L
theorem around_rng (n m : Int) (hm : 0 < m) : 0 ≤ aroundI n m ∧ aroundI n m < m := by
  unfold aroundI
  rw [if_neg (by omega)]
  exact ⟨Int.emod_nonneg _ (by omega), Int.emod_lt_of_pos _ hm⟩
/-- Figures that Cut may be asked of here. -/
def GoodC (L : List Sh) : Prop := ShSc L ∧ ∀ s ∈ L, -9223372036854775808 ≤ s.1 ∧ s.1 ≤ 9223372036854775807
theorem genC {L : List Sh} (h : GenL L) : GoodC L := ⟨genL_sc h, fun s hs => by
  have := h s hs
  unfold Gen at this
  omega⟩
theorem set_mem {α : Type} {l : List α} {k : Nat} {x y : α} (h : y ∈ l.set k x) : y = x ∨ y ∈ l := (List.mem_or_eq_of_mem_set h).symm
theorem cell_kept {L : List Sh} {k : Nat} {k0 : Int} {ps : List Pt} (hs : L[k]? = some (k0, ps)) (x : Tree) : (AObj.row 51 2 L.length (splice (shT L) (k * 2 + 0) [x]) false).cells[k * 2 + 1]? = some (.t (.sl ps.length (ptT ps))) := by
  have hk : k < L.length := (List.getElem?_eq_some_iff.1 hs).1
  have h1 := flat_get (f := fun s : Sh => [ti s.1, .sl s.2.length (ptT s.2)]) (s := 2) (fun _ => rfl) hs 1 (by decide)
  have h2 := shT_len L
  show ((splice (shT L) (k * 2 + 0) [x]).map D.t)[k * 2 + 1]? = _
  rw [List.getElem?_map, splice_get (by simp; omega), if_neg (by omega), if_neg (by simp)]
  show Option.map D.t (shT L)[k * 2 + 1]? = _
  rw [show (shT L)[k * 2 + 1]? = some (.sl ps.length (ptT ps)) from h1]
  rfl
end Go.Proofs.Ytokdclbfjlnnjaa
