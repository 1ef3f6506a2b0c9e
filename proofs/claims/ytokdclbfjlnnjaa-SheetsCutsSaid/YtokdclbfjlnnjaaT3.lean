/- Rows of sheets, told of data; what Cut returns is fit for it. -/
import Derived.Test.YtokdclbfjlnnjaaT2
namespace Go.Proofs.Ytokdclbfjlnnjaa
open Go.RowKit Go.Ab

def ShtOk (s : Sht) : Prop := (∀ q ∈ s.sh, okP q.2 ∧ q.2.length ≤ 1000) ∧ s.sh.length ≤ 1000 ∧ okI s.of_ ∧ s.of_.length ≤ 1000
theorem tr_shts {w : World} {G : Lim} {v : Value} {l : List Sht} (h : TR w G v (.sl l.length (shtT l))) (ok : ∀ s ∈ l, ShtOk s) (hl : l.length ≤ 1000) : Shts w v l := by
  have gen : ∀ v n ts, TR w G v (.sl n ts) → n = l.length → ts = shtT l → Shts w v l := by
    intro v n ts h hn hts
    cases h with
    | nil h0 =>
      have : l = [] := List.eq_nil_of_length_eq_zero hn.symm
      subst this
      exact ⟨_, _, rfl, by simp, h0, fun i s h => by simp at h⟩
    | sl b o _ c us _ hul hc hnc h =>
      subst hn hts
      refine ⟨_, c, rfl, hl, (fun e => by cases e), fun i s hs => ?_⟩
      have hlen : (shtT l).length = l.length * 5 := flat_len (f := shtC) (s := 5) (fun _ => rfl) l
      have hil : i < l.length := (List.getElem?_eq_some_iff.1 hs).1
      have get : ∀ j t, j < 5 → (shtC s)[j]? = some t → ∃ u, w.cell? ⟨b, o + (i * 5 + j), none⟩ = some u ∧ TR w G u t := fun j t hj ht => by
        have h1 : (shtT l)[i * 5 + j]? = some t := (flat_get (f := shtC) (fun _ => rfl) hs j hj).trans ht
        have hlt : i * 5 + j < us.length := by rw [hul, hlen]; omega
        have hu : us[i * 5 + j]? = some us[i * 5 + j] := List.getElem?_eq_getElem hlt
        exact ⟨_, (hc _ _ hu).1, h _ _ _ hu h1⟩
      obtain ⟨u0, c0, t0⟩ := get 0 _ (by decide) rfl
      obtain ⟨u1, c1, t1⟩ := get 1 _ (by decide) rfl
      obtain ⟨u2, c2, t2⟩ := get 2 _ (by decide) rfl
      obtain ⟨u3, c3, t3⟩ := get 3 _ (by decide) rfl
      obtain ⟨u4, c4, t4⟩ := get 4 _ (by decide) rfl
      have e0 := tr_v t0
      have e1 := tr_v t1
      have e2 := tr_v t2
      subst e0 e1 e2
      have hm := ok s (List.mem_iff_getElem?.2 ⟨i, hs⟩)
      have s3 := tr_shs t3 hm.1 hm.2.1
      have s4 := tr_ints t4 hm.2.2.1 (by have := hm.2.2.2; omega)
      have s3' := s3
      have s4' := s4
      obtain ⟨av, cv, _, rfl, _⟩ := s3
      obtain ⟨ao, co, rfl, _⟩ := s4
      refine ⟨b, o, av, cv, ao, co, rfl, ?_, ?_, ?_, ?_, ?_, s3', s4'⟩
      · simpa using c0
      · simpa [Nat.add_assoc] using c1
      · simpa [Nat.add_assoc] using c2
      · simpa [Nat.add_assoc] using c3
      · simpa [Nat.add_assoc] using c4
  exact gen v _ _ h rfl rfl
theorem same_does (l : List Sht) (ok : ∀ s ∈ l, ShtOk s) (hl : l.length ≤ 1000) : Does Try.prog 57 [.t (.sl l.length (shtT l)), .t (.sl l.length (shtT l))] [] (B true) [] :=
  does_calls1 (pure_t (xs := [.sl l.length (shtT l), .sl l.length (shtT l)])) .t fun w G vs hv hd => by
    obtain ⟨u, v, rfl⟩ := vs_of2 hv
    exact (samesh_any u v l w (tr_shts (dr_t (hd 0 u _ rfl rfl)) ok hl) (tr_shts (dr_t (hd 1 v _ rfl rfl)) ok hl)).mono fun e w' h => ⟨_, h.1, h.2, .t (.v _ rfl)⟩

theorem shts_ok {H : Int} {L : List Sh} (hsc : ShSc L) (hl : L.length ≤ 1000) (at_ : List Int) (wd : Int) (k : Nat) : ∀ s ∈ shtsM H L at_ wd k, ShtOk s := by
  intro s hs
  unfold shtsM at hs
  obtain ⟨j, _, rfl⟩ := List.mem_map.1 hs
  have hle := ofS_le L at_ wd j L.length
  refine ⟨fun q hq => ?_, ?_, ofS_okI _ _ _ _ _ hl, ?_⟩
  · simp only [shtS] at hq
    obtain ⟨i, hi, rfl⟩ := List.mem_map.1 hq
    have hi' : i < L.length := List.mem_range.1 (List.mem_filter.1 hi).1
    simp only [mvS, mvL_length]
    have e1 : L.getD i (0, []) = L[i] := by rw [List.getD_eq_getElem?_getD, List.getElem?_eq_getElem hi']; rfl
    rw [e1]
    have := hsc _ (List.getElem_mem hi')
    exact ⟨mvL_ok _ (okP_of_sc this.2), this.1⟩
  · simp only [shtS, List.length_map]; omega
  · simp only [shtS, List.length_map]; omega
theorem cutM_ok {W H wd : Int} {L : List Sh} (hsc : ShSc L) (hl : L.length ≤ 1000) : (∀ s ∈ (cutM W H L wd).1, ShtOk s) ∧ (cutM W H L wd).1.length ≤ 1000 ∧ (∀ s ∈ (cutM W H L wd).2.1.2.2, okP s.2 ∧ s.2.length ≤ 1000) ∧ (cutM W H L wd).2.1.2.2.length ≤ 1000 := by
  unfold cutM
  split
  · exact ⟨fun s h => by simp at h, by simp, fun s h => by simp at h, by simp⟩
  · split
    · exact ⟨fun s h => by simp at h, by simp, fun s h => by simp at h, by simp⟩
    · refine ⟨shts_ok hsc hl _ _ _, ?_, fun s hs => ?_, ?_⟩
      · have := (cSplit_lens (spL L) wd).2
        rw [spL_length] at this
        unfold shtsM
        rw [List.length_map, List.length_range]
        omega
      · unfold allL at hs
        obtain ⟨q, hq, rfl⟩ := List.mem_map.1 hs
        have := box_sc (hsc q hq).2
        exact ⟨okP_of_sc this.1, by omega⟩
      · rw [allL_length]; exact hl
end Go.Proofs.Ytokdclbfjlnnjaa
