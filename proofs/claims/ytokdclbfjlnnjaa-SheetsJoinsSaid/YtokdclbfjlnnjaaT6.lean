/- Join: the model, and that the sheets of a figure are joined to it. -/
import Derived.Test.YtokdclbfjlnnjaaT3
import Derived.Test.YtokdclbfjlnnjaaFew
namespace Go.Proofs.Ytokdclbfjlnnjaa
open Go.RowKit Go.Ab

def mvJ (x : Int) (s : Sh) : Sh := (s.1, mvL x s.2)
abbrev Ent := Int × Sh
def entS (s : Sht) : List Ent := (s.of_.zip s.sh).map fun p => (p.1, mvJ s.x p.2)
def entL (l : List Sht) : List Ent := l.flatMap entS
def lensOk (l : List Sht) : Prop := ∀ s ∈ l, s.of_.length = s.sh.length
def okE (n : Nat) (E : List Ent) : Prop := (∀ e ∈ E, 0 ≤ e.1 ∧ e.1 < n) ∧ (E.map (·.1)).Nodup
instance (l : List Sht) : Decidable (lensOk l) := by unfold lensOk; infer_instance
instance (n : Nat) (E : List Ent) : Decidable (okE n E) := by unfold okE; infer_instance
def keyB (w : Int) (e : Ent) : Bool := e.1 == w
def arrOf (n : Nat) (E : List Ent) : List Sh := (List.range n).map fun i : Nat => ((E.find? (keyB (i : Int))).map (·.2)).getD (0, [])
def metOf (n : Nat) (E : List Ent) : List Bool := (List.range n).map fun i : Nat => E.any (keyB (i : Int))
def joinM (l : List Sht) (w h : Int) : (Int × Int × List Sh) × Int := if lensOk l ∧ okE (entL l).length (entL l) then ((w, h, arrOf (entL l).length (entL l)), 0) else ((0, 0, []), 2)

theorem entS_length {s : Sht} (h : s.of_.length = s.sh.length) : (entS s).length = s.of_.length := by simp [entS, h]
theorem entS_get {s : Sht} {k : Nat} {i : Int} {q : Sh} (hi : s.of_[k]? = some i) (hq : s.sh[k]? = some q) : (entS s)[k]? = some (i, mvJ s.x q) := by
  unfold entS
  rw [List.getElem?_map, (List.getElem?_zip_eq_some (z := (i, q))).2 ⟨hi, hq⟩]
  rfl
theorem entL_take {l : List Sht} {r : Nat} {s : Sht} (hs : l[r]? = some s) : entL (l.take (r + 1)) = entL (l.take r) ++ entS s := by
  unfold entL
  rw [take_snoc hs, List.flatMap_append]
  simp
theorem entL_split {l : List Sht} {r : Nat} {s : Sht} (hs : l[r]? = some s) : entL l = entL (l.take r) ++ entS s ++ entL (l.drop (r + 1)) := by
  rw [← entL_take hs]
  unfold entL
  rw [← List.flatMap_append, List.take_append_drop]
theorem okE_snoc (n : Nat) (E : List Ent) (i : Int) (q : Sh) : okE n (E ++ [(i, q)]) ↔ okE n E ∧ (0 ≤ i ∧ i < n) ∧ E.any (keyB i) = false := by
  unfold okE
  simp only [List.map_append, List.map_cons, List.map_nil, List.nodup_append, List.mem_append, List.mem_singleton, List.any_eq_false, keyB, beq_iff_eq, List.mem_map]
  constructor
  · rintro ⟨h1, h2, -, h3⟩
    exact ⟨⟨fun e he => h1 e (.inl he), h2⟩, h1 (i, q) (.inr rfl), fun e he he' => h3 e.1 ⟨e, he, rfl⟩ i rfl he'⟩
  · rintro ⟨⟨h1, h2⟩, h3, h4⟩
    refine ⟨fun e he => ?_, h2, by simp, ?_⟩
    · rcases he with he | rfl
      · exact h1 e he
      · exact h3
    · rintro a ⟨e, he, rfl⟩ b rfl hab
      exact h4 e he hab
theorem okE_pre {n : Nat} {E F : List Ent} (h : okE n (E ++ F)) : okE n E := by
  unfold okE at h ⊢
  rw [List.map_append, List.nodup_append] at h
  exact ⟨fun e he => h.1 e (List.mem_append_left _ he), h.2.1⟩

theorem find_snoc {E : List Ent} {i w : Int} {q : Sh} : (E ++ [(i, q)]).find? (keyB w) = (E.find? (keyB w)).or (if i = w then some (i, q) else none) := by
  rw [List.find?_append]
  congr 1
  by_cases h : i = w <;> simp [keyB, h]
theorem arrOf_length (n : Nat) (E : List Ent) : (arrOf n E).length = n := by simp [arrOf]
theorem metOf_length (n : Nat) (E : List Ent) : (metOf n E).length = n := by simp [metOf]
theorem metOf_get {n : Nat} {E : List Ent} {i : Nat} (h : i < n) : (metOf n E)[i]? = some (E.any (keyB i)) := by simp [metOf, h]
theorem arrOf_set {n : Nat} {E : List Ent} {i : Nat} {q : Sh} (hm : E.any (keyB i) = false) : (arrOf n E).set i q = arrOf n (E ++ [((i : Int), q)]) := by
  have hf : E.find? (keyB i) = none := by
    rw [List.find?_eq_none]
    intro e he
    have := List.any_eq_false.1 hm e he
    simpa using this
  refine List.ext_getElem (by simp [arrOf]) fun j h1 h2 => ?_
  rw [List.getElem_set]
  simp only [arrOf, List.getElem_map, List.getElem_range]
  by_cases hj : i = j
  · subst hj
    rw [if_pos rfl, find_snoc, hf, if_pos rfl]
    rfl
  · rw [if_neg hj, find_snoc, if_neg (by omega), Option.or_none]
theorem metOf_set {n : Nat} {E : List Ent} {i : Nat} {q : Sh} : (metOf n E).set i true = metOf n (E ++ [((i : Int), q)]) := by
  refine List.ext_getElem (by simp [metOf]) fun j h1 h2 => ?_
  rw [List.getElem_set]
  simp only [metOf, List.getElem_map, List.getElem_range, List.any_append]
  by_cases hj : i = j
  · subst hj
    simp [keyB]
  · have : ((i : Int) == (j : Int)) = false := by simp; omega
    rw [if_neg hj]
    simp [keyB, this]
theorem arrOf_nil (n : Nat) : arrOf n [] = List.replicate n (0, []) := by
  refine List.ext_getElem (by simp [arrOf]) fun j h1 h2 => ?_
  simp [arrOf]
theorem metOf_nil (n : Nat) : metOf n [] = List.replicate n false := by
  refine List.ext_getElem (by simp [metOf]) fun j h1 h2 => ?_
  simp [metOf]

/-! ### How often a number occurs -/
def cntE (w : Int) (E : List Ent) : Nat := (E.filter (keyB w)).length
def lastE (w : Int) (E : List Ent) : Sh := ((E.filter (keyB w)).getLast?.map (·.2)).getD (0, [])
theorem cntE_snoc (w : Int) (E : List Ent) (i : Int) (q : Sh) : cntE w (E ++ [(i, q)]) = cntE w E + if i = w then 1 else 0 := by
  unfold cntE
  rw [List.filter_append, List.length_append]
  by_cases h : i = w <;> simp [keyB, h]
theorem lastE_snoc (w : Int) (E : List Ent) (i : Int) (q : Sh) : lastE w (E ++ [(i, q)]) = if i = w then q else lastE w E := by
  unfold lastE
  rw [List.filter_append]
  by_cases h : i = w <;> simp [keyB, h]
theorem cntE_count (w : Int) (E : List Ent) : cntE w E = (E.map (·.1)).count w := by
  unfold cntE
  rw [List.count, List.countP_map, List.countP_eq_length_filter]
  rfl
def keysN (n : Nat) : List Int := (List.range n).map fun i : Nat => (i : Int)
theorem keysN_mem {n : Nat} {w : Int} : w ∈ keysN n ↔ 0 ≤ w ∧ w < n := by
  unfold keysN
  simp only [List.mem_map, List.mem_range]
  constructor
  · rintro ⟨a, h, rfl⟩; omega
  · intro h; exact ⟨w.toNat, by omega, by omega⟩
theorem keysN_nodup (n : Nat) : (keysN n).Nodup := by
  unfold keysN
  refine List.pairwise_map.2 ((List.nodup_range (n := n)).imp fun h => ?_)
  omega
theorem okE_once {n : Nat} {E : List Ent} (hn : E.length = n) (h : okE n E) {w : Nat} (hw : w < n) : cntE w E = 1 := by
  obtain ⟨h1, h2⟩ := h
  rw [cntE_count, h2.count]
  refine if_pos (Classical.byContradiction fun hno => ?_)
  have hnd : ((w : Int) :: E.map (·.1)).Nodup := List.nodup_cons.2 ⟨hno, h2⟩
  have hsub : ((w : Int) :: E.map (·.1)) ⊆ keysN n := fun x hx => by
    rcases List.mem_cons.1 hx with rfl | hx
    · exact keysN_mem.2 ⟨by omega, by omega⟩
    · obtain ⟨e, he, rfl⟩ := List.mem_map.1 hx
      exact keysN_mem.2 (h1 e he)
  have := hnd.length_le_of_subset hsub
  simp only [keysN, List.length_cons, List.length_map, List.length_range, hn] at this
  omega
theorem once_okE {n : Nat} {E : List Ent} (hn : E.length = n) (h : ∀ w : Nat, w < n → cntE w E = 1) : okE n E := by
  have hp : ((E.map (·.1)).filter fun x => decide (x ∈ keysN n)).Perm (keysN n) := by
    rw [List.perm_iff_count]
    intro a
    rw [(keysN_nodup n).count]
    by_cases ha : a ∈ keysN n
    · rw [if_pos ha, List.count_filter (by simpa using ha)]
      have := keysN_mem.1 ha
      have h1 := h a.toNat (by omega)
      rw [cntE_count, Int.toNat_of_nonneg this.1] at h1
      exact h1
    · rw [if_neg ha, List.count_eq_zero]
      intro h'
      exact ha (by simpa using (List.mem_filter.1 h').2)
  have hl := hp.length_eq
  have hall : (E.map (·.1)).filter (fun x => decide (x ∈ keysN n)) = E.map (·.1) := by
    refine List.filter_eq_self.2 ?_
    refine List.length_filter_eq_length_iff.1 ?_
    rw [hl]
    simp [keysN, hn]
  rw [hall] at hp
  refine ⟨fun e he => keysN_mem.1 (hp.mem_iff.1 (List.mem_map.2 ⟨e, he, rfl⟩)), hp.nodup_iff.2 (keysN_nodup n)⟩
theorem last_find {E : List Ent} {w : Int} (h : cntE w E = 1) : lastE w E = ((E.find? (keyB w)).map (·.2)).getD (0, []) := by
  unfold cntE at h
  unfold lastE
  rw [← List.head?_filter]
  match hf : E.filter (keyB w), h with
  | [e], _ => rfl

/-! ### The sheets of a figure -/
theorem trW_back {x : Int} {p : Pt} (h : -9223372036854775808 ≤ p.1 ∧ p.1 ≤ 9223372036854775807) : trW x (trW (-x) p) = p := by
  unfold trW
  refine Prod.ext ?_ rfl
  simp only [wrap64]
  omega
theorem mvL_back {x : Int} {l : List Pt} (h : okP l) : mvL x (mvL (-x) l) = l := by
  unfold mvL
  rw [List.map_map]
  conv => rhs; rw [← List.map_id l]
  refine List.map_congr_left fun p hp => ?_
  exact trW_back (h p hp).1
theorem mvJ_back {x : Int} {s : Sh} (h : okP s.2) : mvJ x (mvS x s) = s := by
  unfold mvJ mvS
  rw [mvL_back h]
theorem shts_lens (H : Int) (L : List Sh) (at_ : List Int) (wd : Int) (k : Nat) : lensOk (shtsM H L at_ wd k) := by
  intro s hs
  obtain ⟨j, _, rfl⟩ := List.mem_map.1 hs
  simp [shtS]
theorem zip_map2 {α β γ : Type} (f : α → β) (g : α → γ) : ∀ l : List α, (l.map f).zip (l.map g) = l.map fun a => (f a, g a)
  | [] => rfl
  | a :: l => by simp [zip_map2 f g l]
theorem entS_sht (H : Int) {L : List Sh} (hok : ∀ s ∈ L, okP s.2) (at_ : List Int) (wd : Int) (j : Nat) : entS (shtS H L at_ wd j L.length) = (ofS L at_ wd j L.length).map fun i : Nat => ((i : Int), L.getD i (0, [])) := by
  unfold entS shtS
  simp only [zip_map2, List.map_map]
  refine List.map_congr_left fun i hi => ?_
  have hi' : i < L.length := List.mem_range.1 (List.mem_filter.1 hi).1
  simp only [Function.comp]
  rw [mvJ_back]
  rw [List.getD_eq_getElem?_getD, List.getElem?_eq_getElem hi']
  exact hok _ (List.getElem_mem hi')
/-- Which shapes stand on the first k sheets. -/
def onAll (L : List Sh) (at_ : List Int) (wd : Int) (k : Nat) : List Nat := (List.range k).flatMap fun j => ofS L at_ wd j L.length
theorem entL_shts (H : Int) {L : List Sh} (hok : ∀ s ∈ L, okP s.2) (at_ : List Int) (wd : Int) (k : Nat) : entL (shtsM H L at_ wd k) = (onAll L at_ wd k).map fun i : Nat => ((i : Int), L.getD i (0, [])) := by
  unfold entL shtsM onAll
  rw [List.flatMap_map, List.map_flatMap]
  congr 1
  funext j
  exact entS_sht H hok at_ wd j
theorem covB_iff {p : Int × Int} {at_ : List Int} {wd : Int} : covB p at_ wd = true ↔ ∃ (j : Nat) (x : Int), at_[j]? = some x ∧ inB p x wd = true := by
  unfold covB
  rw [List.any_eq_true]
  constructor
  · rintro ⟨x, hx, h⟩
    obtain ⟨j, hj⟩ := List.mem_iff_getElem?.1 hx
    exact ⟨j, x, hj, h⟩
  · rintro ⟨j, x, hj, h⟩
    exact ⟨x, List.mem_iff_getElem?.2 ⟨j, hj⟩, h⟩
theorem onAll_perm {L : List Sh} {at_ : List Int} {wd : Int} (hc : ∀ p ∈ spL L, covB p at_ wd = true) : (onAll L at_ wd at_.length).Perm (List.range L.length) := by
  rw [List.perm_ext_iff_of_nodup ?_ List.nodup_range]
  · intro i
    unfold onAll
    rw [List.mem_flatMap]
    constructor
    · rintro ⟨j, _, h⟩
      exact (List.mem_filter.1 h).1
    · intro hi
      have hi' : i < (spL L).length := by rw [spL_length]; exact List.mem_range.1 hi
      have hp : (spL L)[i]? = some (spL L)[i] := List.getElem?_eq_getElem hi'
      obtain ⟨j0, x0, hj0, hx0⟩ := covB_iff.1 (hc _ (List.getElem_mem hi'))
      -- the first one
      have : ∃ (j : Nat) (x : Int), at_[j]? = some x ∧ inB (spL L)[i] x wd = true ∧ ∀ (j' : Nat) (x' : Int), j' < j → at_[j']? = some x' → inB (spL L)[i] x' wd = false := by
        clear hc
        induction j0 using Nat.strongRecOn generalizing x0 with
        | ind j0 ih =>
          by_cases h : ∃ (j' : Nat) (x' : Int), j' < j0 ∧ at_[j']? = some x' ∧ inB (spL L)[i] x' wd = true
          · obtain ⟨j', x', h1, h2, h3⟩ := h
            exact ih j' h1 x' h2 h3
          · refine ⟨j0, x0, hj0, hx0, fun j' x' h1 h2 => ?_⟩
            cases hb : inB (spL L)[i] x' wd with
            | false => rfl
            | true => exact absurd ⟨j', x', h1, h2, hb⟩ h
      obtain ⟨j, x, h1, h2, h3⟩ := this
      refine ⟨j, List.mem_range.2 (List.getElem?_eq_some_iff.1 h1).1, List.mem_filter.2 ⟨hi, ?_⟩⟩
      rw [onS_eq hp h1, h2, Bool.true_and, Bool.not_eq_true']
      cases hcv : covB (spL L)[i] (at_.take j) wd with
      | false => rfl
      | true =>
        obtain ⟨j', x', q1, q2⟩ := covB_iff.1 hcv
        rw [List.getElem?_take] at q1
        split at q1
        · rename_i hlt
          rw [h3 j' x' hlt q1] at q2
          cases q2
        · cases q1
  · unfold onAll
    refine List.pairwise_flatMap.2 ⟨fun j _ => List.Pairwise.filter _ List.nodup_range, ?_⟩
    refine List.pairwise_lt_range.imp_of_mem ?_
    intro j j' hj hj' hlt x hx y hy hxy
    subst hxy
    have b1 := (List.mem_filter.1 hx).2
    have b2 := (List.mem_filter.1 hy).2
    have hi' : x < (spL L).length := by rw [spL_length]; exact List.mem_range.1 (List.mem_filter.1 hx).1
    have hp : (spL L)[x]? = some (spL L)[x] := List.getElem?_eq_getElem hi'
    have hjl : j < at_.length := List.mem_range.1 hj
    have hjl' : j' < at_.length := List.mem_range.1 hj'
    rw [onS_eq hp (List.getElem?_eq_getElem hjl), Bool.and_eq_true] at b1
    rw [onS_eq hp (List.getElem?_eq_getElem hjl'), Bool.and_eq_true, Bool.not_eq_true'] at b2
    have : covB (spL L)[x] (at_.take j') wd = true := covB_iff.2 ⟨j, at_[j], by rw [List.getElem?_take, if_pos hlt]; exact List.getElem?_eq_getElem hjl, b1.1⟩
    rw [b2.2] at this
    cases this
theorem arrOf_all {L : List Sh} {I : List Nat} (hI : ∀ i, i < L.length → i ∈ I) : arrOf L.length (I.map fun i : Nat => ((i : Int), L.getD i (0, []))) = L := by
  refine List.ext_getElem (arrOf_length _ _) fun j h1 h2 => ?_
  simp only [arrOf, List.getElem_map, List.getElem_range]
  have hf : (I.map fun i : Nat => ((i : Int), L.getD i (0, []))).find? (keyB (j : Int)) = some ((j : Int), L.getD j (0, [])) := by
    cases hr : (I.map fun i : Nat => ((i : Int), L.getD i (0, []))).find? (keyB (j : Int)) with
    | none =>
      rw [List.find?_eq_none] at hr
      have := hr ((j : Int), L.getD j (0, [])) (List.mem_map.2 ⟨j, hI j h2, rfl⟩)
      simp [keyB] at this
    | some e =>
      have h := List.find?_some hr
      obtain ⟨i, hi, rfl⟩ := List.mem_map.1 (List.mem_of_find?_eq_some hr)
      simp only [keyB, beq_iff_eq] at h
      have : i = j := by omega
      subst this
      rfl
  rw [hf]
  simp [List.getD_eq_getElem?_getD, h2]
theorem join_cut {W H wd : Int} {L : List Sh} (hsc : ShSc L) (h : (cutM W H L wd).2.2 = 0) : joinM (cutM W H L wd).1 W H = ((W, H, L), 0) := by
  have hv : validZ W H L = 0 := by
    unfold cutM at h
    split at h
    · exact h
    · rename_i hh; exact Classical.not_not.1 hh
  have hs : fitsE (spL L) wd = 0 := by
    rw [← cSplit_code]
    unfold cutM at h
    rw [if_neg (by simp [hv])] at h
    split at h
    · exact h
    · rename_i hh; exact Classical.not_not.1 hh
  have hc : cutM W H L wd = (shtsM H L (rSplit (spL L) wd).1 wd (rSplit (spL L) wd).1.length, (W, H, allL L), 0) := by
    unfold cutM
    rw [if_neg (by simp [hv]), if_neg (by rw [cSplit_code, hs]; simp)]
  have hok : ∀ s ∈ L, okP s.2 := fun s hs => okP_of_sc (hsc s hs).2
  have hR := (split_right hs).2
  have hwd : 1 ≤ wd ∧ wd ≤ 1000 := by
    unfold fitsE at hs
    split at hs
    · cases hs
    · split at hs
      · cases hs
      · omega
  have hp := onAll_perm (L := L) (at_ := (rSplit (spL L) wd).1) (wd := wd) fun p hp => by
    obtain ⟨x, hx, h⟩ := List.any_eq_true.1 (hR.2.1 p hp)
    obtain ⟨k, hk⟩ := List.mem_iff_getElem?.1 hx
    have hb := split_at hs hk
    unfold inW at h
    rw [wrap_in (by omega)] at h
    exact List.any_eq_true.2 ⟨x, hx, h⟩
  have hE := entL_shts H hok (rSplit (spL L) wd).1 wd (rSplit (spL L) wd).1.length
  have hlen : (entL (shtsM H L (rSplit (spL L) wd).1 wd (rSplit (spL L) wd).1.length)).length = L.length := by
    rw [hE, List.length_map, hp.length_eq, List.length_range]
  rw [hc]
  unfold joinM
  simp only
  rw [hlen, hE, arrOf_all (fun i hi => hp.mem_iff.2 (List.mem_range.2 hi))]
  refine if_pos ⟨shts_lens _ _ _ _ _, fun e he => ?_, ?_⟩
  · obtain ⟨i, hi, rfl⟩ := List.mem_map.1 he
    have := List.mem_range.1 (hp.mem_iff.1 hi)
    simp only
    omega
  · rw [List.map_map]
    have hnd := hp.nodup_iff.2 List.nodup_range
    refine List.pairwise_map.2 (hnd.imp fun {a b} hab => ?_)
    simp only [Function.comp]
    omega
theorem gen_span {k : Int} {l : List Pt} (h : Gen k l) : badP (spS (k, l)) = false := by
  obtain ⟨h1, h2, _⟩ := gen_pts h
  have hp : ∀ i, 0 ≤ (ptZ l i).1 ∧ (ptZ l i).1 ≤ 60 := fun i => by
    unfold ptZ
    have hh : i % l.length < l.length := Nat.mod_lt _ (by omega)
    rw [List.getD_eq_getElem?_getD, List.getElem?_eq_getElem hh]
    have := h1 _ (List.getElem_mem hh)
    exact ⟨this.1, this.2.1⟩
  have key : ∀ r, 0 ≤ (loF l r).1 ∧ (loF l r).1 ≤ (hiF l r).1 ∧ (hiF l r).1 ≤ 60 := by
    intro r
    induction r with
    | zero => have := hp 0; simp only [loF, hiF]; omega
    | succ r ih => have := hp r; simp only [loF, hiF]; omega
  have := key l.length
  have a1 : decide ((loF l l.length).1 < 0) = false := decide_eq_false (by omega)
  have a2 : decide ((hiF l l.length).1 < (loF l l.length).1) = false := decide_eq_false (by omega)
  have a3 : decide (1000 < (hiF l l.length).1) = false := decide_eq_false (by omega)
  show (decide ((loF l l.length).1 < 0) || decide ((hiF l l.length).1 < (loF l l.length).1) || decide (1000 < (hiF l l.length).1)) = false
  rw [a1, a2, a3]
  rfl
/-- What goes wrong with a valid figure is a shape that is too wide. -/
theorem cut_wide {W H wd : Int} {L : List Sh} (hv : validZ W H L = 0) (hg : GenL L) (h64 : L.length ≤ 64) (hw : 1 ≤ wd ∧ wd ≤ 1000) (h : (cutM W H L wd).2.2 ≠ 0) : (cutM W H L wd).2.2 = 14 := by
  have e : (cutM W H L wd).2.2 = fitsE (spL L) wd := by
    unfold cutM
    rw [if_neg (by simp [hv])]
    split
    · exact cSplit_code _ _
    · rename_i hh
      rw [← cSplit_code]
      exact (Classical.not_not.1 hh).symm
  rw [e] at h ⊢
  unfold fitsE at h ⊢
  rw [spL_length, if_neg (by omega), if_neg (by omega)] at h ⊢
  split
  · rename_i hb
    exfalso
    obtain ⟨p, hp, hb⟩ := List.any_eq_true.1 hb
    obtain ⟨s, hs, rfl⟩ := List.mem_map.1 hp
    rw [gen_span (hg s hs)] at hb
    cases hb
  · rename_i hb
    rw [if_neg hb] at h
    split
    · rfl
    · rename_i hb2
      rw [if_neg hb2] at h
      exact absurd rfl h
end Go.Proofs.Ytokdclbfjlnnjaa
