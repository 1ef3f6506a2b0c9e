/- Rows of sheets, told of data; what Cut returns is fit for it. -/
import Derived.Test.YtokdclbfjlnnjaaT2
namespace Go.Proofs.Ytokdclbfjlnnjaa
open Go.RowKit Go.Ab

def ShtOk (s : Sht) : Prop := (∀ q ∈ s.sh, okP q.2 ∧ q.2.length ≤ 1000) ∧ s.sh.length ≤ 1000 ∧ okI s.of_ ∧ s.of_.length ≤ 1000

theorem shts_ok {H : Int} {L : List Sh} (hsc : ShSc L) (hl : L.length ≤ 1000) (at_ : List Int) (wd : Int) (k : Nat) : ∀ s ∈ shtsM H L at_ wd k, ShtOk s := by
  intro s hs
  unfold shtsM at hs
  obtain ⟨j, _, rfl⟩ := List.mem_map.1 hs
  have hle := ofS_le L at_ wd j L.length
  refine ⟨fun q hq => ?_, ?_, ofS_okI _ _ _ _ _ hl, ?_⟩
  · simp only [shtS] at hq
    obtain ⟨i, hi, rfl⟩ := List.mem_map.1 hq
    have hi' : i < L.length := List.mem_range.1 (List.mem_filter.1 hi).1
    simp only [mvS, mvL_length]
    have e1 : L.getD i (0, []) = L[i] := by rw [List.getD_eq_getElem?_getD, List.getElem?_eq_getElem hi']; rfl
    rw [e1]
    have := hsc _ (List.getElem_mem hi')
    exact ⟨mvL_ok _ (okP_of_sc this.2), this.1⟩
  · simp only [shtS, List.length_map]; omega
  · simp only [shtS, List.length_map]; omega
theorem cutM_ok {W H wd : Int} {L : List Sh} (hsc : ShSc L) (hl : L.length ≤ 1000) : (∀ s ∈ (cutM W H L wd).1, ShtOk s) ∧ (cutM W H L wd).1.length ≤ 1000 ∧ (∀ s ∈ (cutM W H L wd).2.1.2.2, okP s.2 ∧ s.2.length ≤ 1000) ∧ (cutM W H L wd).2.1.2.2.length ≤ 1000 := by
  unfold cutM
  split
  · exact ⟨fun s h => by simp at h, by simp, fun s h => by simp at h, by simp⟩
  · split
    · exact ⟨fun s h => by simp at h, by simp, fun s h => by simp at h, by simp⟩
    · refine ⟨shts_ok hsc hl _ _ _, ?_, fun s hs => ?_, ?_⟩
      · have := (cSplit_lens (spL L) wd).2
        rw [spL_length] at this
        unfold shtsM
        rw [List.length_map, List.length_range]
        omega
      · unfold allL at hs
        obtain ⟨q, hq, rfl⟩ := List.mem_map.1 hs
        have := box_sc (hsc q hq).2
        exact ⟨okP_of_sc this.1, by omega⟩
      · rw [allL_length]; exact hl
end Go.Proofs.Ytokdclbfjlnnjaa
