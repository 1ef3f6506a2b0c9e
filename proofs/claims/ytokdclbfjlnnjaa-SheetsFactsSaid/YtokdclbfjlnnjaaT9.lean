/- The law on Join: the walk. -/
import Derived.Test.YtokdclbfjlnnjaaT5
import Derived.Test.YtokdclbfjlnnjaaT8
namespace Go.Ab
open Go.RowKit
end Go.Ab
namespace Go.Proofs.Ytokdclbfjlnnjaa
open Go.RowKit Go.Ab

/-- Lists of sheets that Join is asked of here. -/
def SmSht (b : List Sht) : Prop := (∀ s ∈ b, ShtOk s ∧ s.of_.length ≤ 6) ∧ b.length ≤ 6
theorem SmSht.ok {b : List Sht} (h : SmSht b) : (∀ s ∈ b, ShtOk s) ∧ b.length ≤ 1000 := ⟨fun s hs => (h.1 s hs).1, by have := h.2; omega⟩
theorem cut_sm {W H wd : Int} {L : List Sh} (hsc : ShSc L) (h5 : L.length ≤ 5) : (∀ s ∈ (cutM W H L wd).1, ShtOk s ∧ s.of_.length ≤ 5) ∧ (cutM W H L wd).1.length ≤ 5 := by
  have h1 := cutM_ok (W := W) (H := H) (wd := wd) hsc (by omega : L.length ≤ 1000)
  refine ⟨fun s hs => ⟨h1.1 s hs, ?_⟩, ?_⟩
  · unfold cutM at hs
    split at hs
    · simp at hs
    · split at hs
      · simp at hs
      · obtain ⟨j, _, rfl⟩ := List.mem_map.1 hs
        have := ofS_le L (rSplit (spL L) wd).1 wd j L.length
        simp only [shtS, List.length_map]
        omega
  · unfold cutM
    split
    · simp
    · split
      · simp
      · rw [shtsM_len]
        have := (cSplit_lens (spL L) wd).2
        rw [spL_length] at this
        omega
theorem SmSht.set {b : List Sht} {k : Nat} {s s' : Sht} (h : (∀ s ∈ b, ShtOk s ∧ s.of_.length ≤ 5) ∧ b.length ≤ 5) (hk : b[k]? = some s) (h1 : s'.sh = s.sh) (h2 : okI s'.of_) (h3 : s'.of_.length ≤ 6) : SmSht (b.set k s') := by
  refine ⟨fun x hx => ?_, by rw [List.length_set]; have := h.2; omega⟩
  rcases set_mem hx with rfl | hx
  · obtain ⟨⟨q1, q2, q3, q4⟩, q5⟩ := h.1 s (List.mem_iff_getElem?.2 ⟨k, hk⟩)
    refine ⟨⟨?_, ?_, h2, by omega⟩, h3⟩
    · rw [h1]; exact q1
    · rw [h1]; exact q2
  · have := h.1 x hx
    exact ⟨this.1, by omega⟩
end Go.Proofs.Ytokdclbfjlnnjaa
