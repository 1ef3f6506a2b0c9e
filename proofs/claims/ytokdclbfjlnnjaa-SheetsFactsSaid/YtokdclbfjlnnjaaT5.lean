/- The law on Cut: what it returns. -/
import Derived.Test.YtokdclbfjlnnjaaT4
namespace Go.Ab
open Go.RowKit
/-- From a contract told of data to one of values: where nothing is handed in to be changed. -/
theorem calls_of {P : Program} {f : FuncId} {ds : List D} {b : Bool} (h : Does P f ds [] (B b) []) {w : World} {vs : Array Value} (hl : vs.size = ds.length) (hd : ∀ (i : Nat) (u : Value) (d : D), vs[i]? = some u → ds[i]? = some d → DR0 w (blkSize w) u d) :
    Calls P f vs w fun e w' => e = .returned (.bool b) ∧ Aft w w' := by
  refine (h ⟨vs.size, w, blkSize w, fun _ => False, fun _ => .nilFunc⟩ w vs rfl rfl hl ⟨fun _ => .nilFunc, blkSize w, ⟨rfl, rfl, rfl, Nat.le_refl _, fun _ _ _ => rfl⟩, fun _ _ _ h => h, fun _ _ _ => rfl, fun _ _ _ => rfl, rfl, fun t d ht => ?_, fun k o h => by simp [look] at h, fun k o k' o' h => by simp [look] at h⟩).mono ?_
  · have hlt : t < vs.size := by rw [hl]; exact (List.getElem?_eq_some_iff.1 ht).1
    exact ⟨vs[t], Array.getElem?_eq_getElem hlt, (hd t _ d (Array.getElem?_eq_getElem hlt) ht).mono (fun k hk => by cases hk) (fun _ _ _ h => h)⟩
  · rintro e w' ⟨v, rfl, ν, G, I⟩
    obtain ⟨u, hu, hd⟩ := I.T 0 (B b) (by simp)
    simp at hu
    subst hu
    have := bool_of hd
    subst this
    exact ⟨rfl, I.kept.os, I.kept.tape, I.kept.output, I.kept.size, fun k hk => I.kept.block k hk (fun h => h)⟩
theorem rd_cells {w : World} {a : Option Addr} {us : List Value} (h : Rd w a us) (hne : us ≠ []) : ∃ b o, a = some ⟨b, o, none⟩ ∧ ∀ (i : Nat) (u : Value), us[i]? = some u → Cell w (blkSize w) b (o + i) u := by
  have h0 : us[0]? = some (us[0]'(List.length_pos_iff.2 hne)) := List.getElem?_eq_getElem _
  obtain ⟨b, o, e, _, _⟩ := h.get h0
  refine ⟨b, o, e, fun i u hu => ?_⟩
  obtain ⟨b', o', e', hc, _⟩ := h.get hu
  rw [e] at e'
  simp only [Option.some.injEq, Addr.mk.injEq, and_true] at e'
  obtain ⟨rfl, rfl⟩ := e'
  refine ⟨hc, ?_⟩
  unfold World.cell? at hc
  unfold blkSize
  split at hc
  · rename_i cs _ _ hh
    rw [hh]
    simp only [Option.isSome_none, Bool.false_eq_true, if_false] at hc ⊢
    exact (Array.getElem?_eq_some_iff.1 hc).1
  · cases hc
end Go.Ab
namespace Go.Proofs.Ytokdclbfjlnnjaa
open Go.RowKit Go.Ab
theorem ints_tree {w : World} {v : Value} {l : List Int} (h : Ints w v l) : TR w (blkSize w) v (.sl l.length (intsT l)) := by
  obtain ⟨a, c, rfl, h⟩ := h
  by_cases hl : l = []
  · subst hl
    exact .nil h.nil
  · obtain ⟨b, o, rfl, hc⟩ := rd_cells h.rd (by simp [i64s]; exact hl)
    exact .sl b o _ c (i64s l) (intsT l) (ints_len l) hc h.cap (ints_rel l)
end Go.Proofs.Ytokdclbfjlnnjaa
