/- The page of a valid calculation. Conditions are in the theorems. -/
import Derived.Test.YtpmhkjnnolpknaaDoorG8
/- SpatialLayouts, in plain words: the page of a valid calculation. -/
namespace Go.Proofs
open Go Go.Ax Go.Ax.Alg
def widthS (r : Int) (a : List Int) : Nat := 1 + max (lenZ r) (lenZ (a.getD 0 0))
def pageZ (op : Int) (a : List Int) : List (List UInt8) :=
  if op = 5 then productZ (a.getD 0 0) (a.getD 1 0) (1 + widthP (a.getD 0 0) (a.getD 1 0) (lenZ (a.getD 1 0)))
  else if op = 6 then divZ (a.getD 0 0) (a.getD 1 0)
  else sumsZ op a.dropLast (a.getLastD 0) ((resZ op a).getD 0 0) (widthS ((resZ op a).getD 0 0) a)
theorem split_last {a : List Int} (h : 2 ≤ a.length) : a = a.dropLast ++ [a.getLastD 0] := by
  have hne : a ≠ [] := by intro he; subst he; simp at h
  rw [List.getLastD_eq_getLast?, List.getLast?_eq_some_getLast hne]
  exact (List.dropLast_concat_getLast hne).symm
theorem max_le_sum : ∀ {r : List Int} {x : Int}, 0 ≤ x → (∀ y ∈ r, 0 ≤ y) → r.foldl max x ≤ x + r.sum
  | [], x, _, _ => by simp
  | y :: r, x, hx, hr => by
    have hy := hr y (by simp)
    have := max_le_sum (r := r) (x := max x y) (by omega) fun z hz => hr z (by simp [hz])
    rw [List.foldl_cons, List.sum_cons]
    have hs : 0 ≤ r.sum := by
      have h2 : ∀ l : List Int, (∀ z ∈ l, 0 ≤ z) → 0 ≤ l.sum := by
        intro l
        induction l with
        | nil => intro _; simp
        | cons z l ih =>
          intro h
          have := h z (by simp)
          have := ih fun w hw => h w (by simp [hw])
          rw [List.sum_cons]
          omega
      exact h2 r fun z hz => hr z (by simp [hz])
    omega
theorem sums_facts {op : Int} {a : List Int} (V : Val op a) (ho : op = 3 ∨ op = 4) : resZ op a = [(resZ op a).getD 0 0] ∧ 0 ≤ (resZ op a).getD 0 0 ∧ (resZ op a).getD 0 0 ≤ 8000000 ∧ colsZ a + 1 ≤ widthS ((resZ op a).getD 0 0) a ∧ widthS ((resZ op a).getD 0 0) a ≤ 8 := by
  have h2 := V.two
  have h8 := V.eight
  have hall := V.all
  have h7 : ∀ z : Int, z ≤ 8000000 → lenZ z ≤ 7 := fun z hz => lenZ_seven (by omega)
  rcases ho with rfl | rfl
  · have hs := sum_le hall
    have e : resZ 3 a = [a.sum] := rfl
    rw [e]
    show [a.sum] = [a.sum] ∧ 0 ≤ a.sum ∧ a.sum ≤ 8000000 ∧ colsZ a + 1 ≤ widthS a.sum a ∧ widthS a.sum a ≤ 8
    refine ⟨rfl, hs.1, by omega, ?_, ?_⟩
    · obtain ⟨x, y, r, rfl⟩ := two_at h2
      have := max_le_sum (r := y :: r) (x := x) (hall x (by simp)).1 fun z hz => (hall z (by simp at hz ⊢; exact .inr hz)).1
      rw [colsZ_eq]
      have h3 := lenZ_mono this
      unfold widthS
      rw [List.sum_cons]
      omega
    · unfold widthS
      have h3 := h7 a.sum (by omega)
      have h4 : lenZ (a.getD 0 0) ≤ 6 := by
        obtain ⟨x, y, r, rfl⟩ := two_at h2
        exact lenZ_six (hall x (by simp)).2
      omega
  · have hl := V.pair (by omega)
    have hsub := V.sub rfl
    obtain ⟨x, y, r, rfl⟩ := two_at h2
    have hr : r = [] := by simpa using hl
    subst hr
    have hsub : y ≤ x := hsub
    have hx := hall x (by simp)
    have hy := hall y (by simp)
    show [x - y] = [x - y] ∧ 0 ≤ x - y ∧ x - y ≤ 8000000 ∧ colsZ [x, y] + 1 ≤ 1 + max (lenZ (x - y)) (lenZ x) ∧ 1 + max (lenZ (x - y)) (lenZ x) ≤ 8
    have h3 := lenZ_mono (show x - y ≤ x by omega)
    have h4 := lenZ_six hx.2
    have h5 : colsZ [x, y] = lenZ x := by
      rw [colsZ_eq]
      show lenZ (max x y) = _
      rw [show max x y = x by omega]
    exact ⟨rfl, by omega, by omega, by omega, by omega⟩
theorem w21_ur (x : List (List UInt8)) (e : Int) : (some (w21r0 x e) : O).bind w21un = some (x, e) := rfl
def layZ (op : Int) (a : List Int) : List (List UInt8) × Int := if validZ op a = 0 then (pageZ op a, 0) else ([], validZ op a)
theorem sums_page {op : Int} {a : List Int} (V : Val op a) (ho : op = 3 ∨ op = 4) : w42z 100 op a ((resZ op a).getD 0 0) = some (pageZ op a) ∧ w71z 100 op a ((resZ op a).getD 0 0) = some (sumsR op a.dropLast (a.getLastD 0) ((resZ op a).getD 0 0) (widthS ((resZ op a).getD 0 0) a)) ∧
    (sumsR op a.dropLast (a.getLastD 0) ((resZ op a).getD 0 0) (widthS ((resZ op a).getD 0 0) a)).map (·.map cellB) = pageZ op a := by
  obtain ⟨_, r0, r1, hc, hw⟩ := sums_facts V ho
  have hsp := split_last V.two
  have hcols := colsZ_ge V
  have hp : pageZ op a = sumsZ op a.dropLast (a.getLastD 0) ((resZ op a).getD 0 0) (widthS ((resZ op a).getD 0 0) a) := by
    unfold pageZ
    rw [if_neg (by omega), if_neg (by omega)]
  rw [hp]
  have hw2 : widthS ((resZ op a).getD 0 0) a = 1 + max (lenZ ((resZ op a).getD 0 0)) (lenZ (a.getD 0 0)) := rfl
  generalize (resZ op a).getD 0 0 = r at *
  generalize widthS r a = w at *
  generalize a.dropLast = ini at *
  generalize a.getLastD 0 = z at *
  subst hsp
  exact ⟨w42_eq V ho ⟨r0, by omega⟩ hw2 hc, w71_eq V ho ⟨r0, by omega⟩ hw2 hc (by omega), sums_cells (by omega) (fun x hx => by have := hcols x hx; omega) (by omega)⟩
theorem w21_eq {op : Int} {a : List Int} (h8 : a.length ≤ 90) : w21z 100 op a = some (layZ op a) := by
  unfold w21z w21 w21G layZ
  have h13 := w13_eq (N := 100) (op := op) (a := a) (by omega) (by omega)
  rw [ck_of (w13_p h13), w13_y0 h13, w13_y1 h13]
  unfold resultZ
  by_cases hv : validZ op a = 0
  · have V := val_of hv
    rw [if_pos hv, if_pos hv]
    simp only []
    rw [show decide ((0 : Int) ≠ 0) = false from rfl, br_f, ck_t, ck_t, ck_t, ck_t]
    by_cases h3 : op = 3
    · obtain ⟨hr, _⟩ := sums_facts V (.inl h3)
      obtain ⟨p, _⟩ := sums_page V (.inl h3)
      rw [decide_eq_true (show (3 : Int) = op by omega), br_t, hr, gx_0, ck_of (w42_p p), w42_y0 p, w21_ur]
    rw [decide_eq_false (show ¬ (3 : Int) = op by omega), br_f]
    by_cases h4 : op = 4
    · obtain ⟨hr, _⟩ := sums_facts V (.inr h4)
      obtain ⟨p, _⟩ := sums_page V (.inr h4)
      rw [decide_eq_true (show (4 : Int) = op by omega), br_t, hr, gx_0, ck_of (w42_p p), w42_y0 p, w21_ur]
    rw [decide_eq_false (show ¬ (4 : Int) = op by omega), br_f]
    have hl := V.pair (by omega)
    have hfr := V.frac
    obtain ⟨x, y, r, rfl⟩ := two_at V.two
    have hr : r = [] := by simpa using hl
    subst hr
    have hx := V.all x (by simp)
    have hy := V.all y (by simp)
    by_cases h5 : op = 5
    · subst h5
      have p := w43_eq hx hy 5
      rw [show decide ((5 : Int) = 5) = true from rfl, br_t, show resZ 5 [x, y] = [x * y] from rfl, gx_0, ck_of (w43_p p), w43_y0 p, w21_ur]
      rfl
    · have h6 : op = 6 := by have := V.opr; omega
      subst h6
      have hy0 : y ≠ 0 := hfr rfl
      have p := w44_eq hx (b := y) ⟨by omega, hy.2⟩ 6
      have e : x.tdiv y = x / y := Int.tdiv_eq_ediv_of_nonneg hx.1
      rw [show decide ((5 : Int) = 6) = false from rfl, br_f, show decide ((6 : Int) = 6) = true from rfl, br_t, show resZ 6 [x, y] = [x.tdiv y, x.tmod y] from rfl, gx_0, e, ck_of (w44_p p), w44_y0 p, w21_ur]
      rfl
  · rw [if_neg hv, if_neg hv]
    simp only []
    rw [decide_eq_true (show validZ op a ≠ 0 from hv), br_t, w21_ur]
def Small (p : List (List UInt8)) : Prop := p.length < 90 ∧ ∀ l ∈ p, l.length < 90
theorem page_small {op : Int} {a : List Int} (V : Val op a) : Small (pageZ op a) := by
  have h8 := V.eight
  have hcols := colsZ_ge V
  by_cases ho : op = 3 ∨ op = 4
  · obtain ⟨_, r0, r1, hc, hw⟩ := sums_facts V ho
    have hsp := split_last V.two
    have hp : pageZ op a = sumsZ op a.dropLast (a.getLastD 0) ((resZ op a).getD 0 0) (widthS ((resZ op a).getD 0 0) a) := by
      unfold pageZ
      rw [if_neg (by omega), if_neg (by omega)]
    rw [hp]
    have hw2 : widthS ((resZ op a).getD 0 0) a = 1 + max (lenZ ((resZ op a).getD 0 0)) (lenZ (a.getD 0 0)) := rfl
    generalize (resZ op a).getD 0 0 = r at *
    generalize widthS r a = w at *
    generalize a.dropLast = ini at *
    generalize a.getLastD 0 = z at *
    subst hsp
    have hln : ∀ x : Int, lenZ x ≤ w → (lineZ w x.toNat 0).length = w := fun x hx => lineZ_len (by show 0 + lenZ x ≤ w; omega)
    refine ⟨by simp [sumsZ] at h8 ⊢; omega, fun l hl => ?_⟩
    unfold sumsZ at hl
    simp only [List.mem_append, List.mem_cons, List.mem_map, List.not_mem_nil, or_false, List.cons_append] at hl
    rcases hl with rfl | ⟨x, hx, rfl⟩ | rfl | rfl | rfl
    · simp [firstZ]; omega
    · rw [hln x (by have := hcols x (by simp [hx]); omega)]; omega
    · rw [List.length_set, hln z (by have := hcols z (by simp); omega)]; omega
    · simp; omega
    · rw [hln r (by omega)]; omega
  · have hl := V.pair (by omega)
    have hfr := V.frac
    have hopr := V.opr
    obtain ⟨x, y, r, rfl⟩ := two_at V.two
    have hr : r = [] := by simpa using hl
    subst hr
    have hx := V.all x (by simp)
    have hy := V.all y (by simp)
    have l6x := lenZ_six hx.2
    have l6y := lenZ_six hy.2
    by_cases h5 : op = 5
    · subst h5
      show Small (productZ x y (1 + widthP x y (lenZ y)))
      have hW := widthP_le hx hy (lenZ y) (by omega)
      obtain ⟨wa, wb, wab⟩ := widthP_base x y (lenZ y)
      have hpart := fun k (hk : k < lenZ y) => widthP_part x y hk
      generalize widthP x y (lenZ y) = wd at *
      have hln : ∀ v : Int, lenZ v ≤ 1 + wd → (lineZ (1 + wd) v.toNat 0).length = 1 + wd := fun v hv => lineZ_len (by show 0 + lenZ v ≤ _; omega)
      unfold productZ
      refine ⟨by rw [List.length_append, List.length_append, partL_len]; split <;> simp <;> omega, fun l hl => ?_⟩
      rcases List.mem_append.1 hl with hl | hl
      · rcases List.mem_append.1 hl with hl | hl
        · simp only [List.mem_cons, List.not_mem_nil, or_false] at hl
          rcases hl with rfl | rfl | rfl
          · rw [hln x (by omega)]; omega
          · rw [List.length_set, hln y (by omega)]; omega
          · simp; omega
        · unfold partL at hl
          obtain ⟨k, hk, rfl⟩ := List.mem_map.1 hl
          rw [lineZ_len (by have := hpart k (List.mem_range.1 hk); show k + lenZ (partZ x y k) ≤ _; omega)]
          omega
      · split at hl
        · simp only [List.mem_cons, List.not_mem_nil, or_false] at hl
          rcases hl with rfl | rfl
          · simp; omega
          · rw [hln (x * y) (by omega)]; omega
        · cases hl
    · have h6 : op = 6 := by omega
      subst h6
      have hy0 : y ≠ 0 := hfr rfl
      show Small (divZ x y)
      have hqa : x / y ≤ x := Int.ediv_le_self _ hx.1
      have hLa : lenZ (x / y) ≤ lenZ x := lenZ_mono hqa
      unfold divZ
      refine ⟨by rw [List.length_append, stepsZ_len]; simp; omega, fun l hl => ?_⟩
      rcases List.mem_append.1 hl with hl | hl
      · simp only [List.mem_cons, List.not_mem_nil, or_false] at hl
        rcases hl with rfl | rfl
        · rw [lineZ_len (by show 0 + lenZ (x / y) ≤ _; omega)]; omega
        · rw [List.length_append, List.length_append, dcells_lenZ, dcells_lenZ]; simp; omega
      · unfold stepsZ at hl
        obtain ⟨j, hj, hl⟩ := List.mem_flatMap.1 hl
        have hj := List.mem_range.1 hj
        have h1 := fit_of hx.1 (c := lenZ (x / y) - 1 - j) (by omega) (part_le hx.1 (show 0 < y by omega) (lenZ (x / y) - 1 - j)).2
        have h2 := fit_of hx.1 (c := lenZ (x / y) - 1 - j - 1) (by omega) (next_le hx.1 (show 0 < y by omega) (lenZ (x / y) - 1 - j)).2
        simp only [List.mem_cons, List.not_mem_nil, or_false] at hl
        rcases hl with rfl | rfl
        · rw [lineZ_len (by show _ + lenZ (stepPart x y _) ≤ _; omega)]; omega
        · rw [lineZ_len (by show _ + lenZ (nextZ x y _) ≤ _; omega)]; omega
theorem lay_small (op : Int) (a : List Int) : Small (layZ op a).1 := by
  unfold layZ
  split
  · rename_i hv
    exact page_small (val_of hv)
  · exact ⟨by simp, by simp⟩
end Go.Proofs
