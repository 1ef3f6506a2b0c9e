/- Rows of shapes of a call's own, with what they hold; the model of Cut. -/
import Derived.Test.YtokdclbfjlnnjaaR32
import Derived.Test.YtokdclbfjlnnjaaR19
import Derived.Test.YtokdclbfjlnnjaaFew
namespace Go.Proofs.Ytokdclbfjlnnjaa
open Go.RowKit Go.BigFrame

structure GX (base : Nat) (w : World) (a : Option Addr) (n c : Nat) (R : List (Int × Value)) (L : List Sh) : Prop where
  lenR : R.length = n
  len : L.length = n
  own : w.ownsRow base 51 2 (.slice a n c) n (shCells R)
  row : ∀ (i : Nat) (r : Int × Value) (s : Sh), R[i]? = some r → L[i]? = some s → r.1 = s.1 ∧ w.ownsRow base 57 2 r.2 s.2.length (prs s.2) ∧ okP s.2 ∧ s.2.length ≤ 1000
theorem GX.nil (base : Nat) (w : World) : GX base w none 0 0 [] [] := ⟨rfl, rfl, World.ownsRow_nil _ _ _ _, fun i r s h => by simp at h⟩
theorem GX.aft {b : Nat} {w w' : World} {a : Option Addr} {n c : Nat} {R : List (Int × Value)} {L : List Sh} (h : GX b w a n c R L) (hw : Aft w w') : GX b w' a n c R L :=
  ⟨h.lenR, h.len, ownsRow_aft h.own hw, fun i r s hr hs => let ⟨q1, q2, q3⟩ := h.row i r s hr hs; ⟨q1, ownsRow_aft q2 hw, q3⟩⟩
theorem GX.kx {X : Nat → Prop} {b : Nat} {w w' : World} {a : Option Addr} {n c : Nat} {R : List (Int × Value)} {L : List Sh} (h : GX b w a n c R L) (hk : Kx X w w') (hX : ∀ j, X j → j < b) : GX b w' a n c R L :=
  ⟨h.lenR, h.len, ownsRow_kx h.own hk hX, fun i r s hr hs => let ⟨q1, q2, q3⟩ := h.row i r s hr hs; ⟨q1, ownsRow_kx q2 hk hX, q3⟩⟩
/-- What a row of another type does not touch. -/
theorem sep_any {w : World} {b b' s s' : Nat} {e e' : TypeId} {n m : Nat} {v u : Value} {xs ys : List Value} (hne : e ≠ e') (h : w.ownsRow b e s v n xs) (k : w.ownsRow b' e' s' u m ys) : Sep v u := by
  intro g h1 h2
  rcases h.2 with ⟨rfl, _⟩ | ⟨g1, cap, cur, rfl, _, hh, _⟩
  · cases h1
  rcases k.2 with ⟨rfl, _⟩ | ⟨g2, cap', cur', rfl, _, hh', _⟩
  · cases h2
  cases h1
  cases h2
  rw [hh] at hh'
  simp only [Option.some.injEq, Obj.cells.injEq] at hh'
  exact hne hh'.2.1
theorem GX.grown {b b' s : Nat} {e : TypeId} {w w' : World} {a : Option Addr} {n c m : Nat} {R : List (Int × Value)} {L : List Sh} {u : Value} {ys : List Value} (h : GX b w a n c R L) (h51 : e ≠ 51) (h57 : e ≠ 57) (ho : w.ownsRow b' e s u m ys) (hg : w.grownBy w' u.ownBlock) : GX b w' a n c R L :=
  ⟨h.lenR, h.len, Sep.kept (sep_any h51 ho h.own).symm h.own hg, fun i r s hr hs => let ⟨q1, q2, q3⟩ := h.row i r s hr hs; ⟨q1, Sep.kept (sep_any h57 ho q2).symm q2 hg, q3⟩⟩
/-- With one shape more, appended. -/
theorem GX.snoc {b : Nat} {w w' : World} {a a' : Option Addr} {n c c' : Nat} {R : List (Int × Value)} {L : List Sh} {k : Int} {u : Value} {ps : List Pt} (h : GX b w a n c R L) (hu : w.ownsRow b 57 2 u ps.length (prs ps)) (hok : okP ps) (hl : ps.length ≤ 1000)
    (hg : w.grownBy w' (Value.slice a n c).ownBlock) (ho : w'.ownsRow b 51 2 (.slice a' (n + 1) c') (n + 1) (shCells (R ++ [(k, u)]))) : GX b w' a' (n + 1) c' (R ++ [(k, u)]) (L ++ [(k, ps)]) := by
  have h1 := h.lenR
  have h2 := h.len
  refine ⟨by simp [h1], by simp [h2], ho, fun i r s hr hs => ?_⟩
  rcases Nat.lt_or_ge i L.length with hi | hi
  · rw [List.getElem?_append_left (by omega)] at hr
    rw [List.getElem?_append_left hi] at hs
    obtain ⟨q1, q2, q3⟩ := h.row i r s hr hs
    exact ⟨q1, Sep.kept (sep_types h.own q2).symm q2 hg, q3⟩
  · rw [List.getElem?_append_right (by omega)] at hr
    rw [List.getElem?_append_right hi] at hs
    obtain ⟨j, hj⟩ : ∃ j, i - L.length = j := ⟨_, rfl⟩
    rw [show i - R.length = j by omega] at hr
    rw [hj] at hs
    cases j with
    | succ j => simp at hr
    | zero =>
      simp at hr hs
      subst hr hs
      exact ⟨rfl, Sep.kept (sep_types h.own hu).symm hu hg, hok, hl⟩
theorem GX.shs {b : Nat} {w : World} {a : Option Addr} {n c : Nat} {R : List (Int × Value)} {L : List Sh} (h : GX b w a n c R L) (hn : n ≤ 1000) : Shs w (.slice a n c) L := by
  have h1 := h.lenR
  have h2 := h.len
  obtain ⟨a', c', e, hrd, q1, q2⟩ := ownsRow_at h.own
  simp only [Value.slice.injEq] at e
  obtain ⟨rfl, _, rfl⟩ := e
  exact ⟨a, c, R, by rw [h2], by omega, by omega, hrd, fun i r s hr hs => let ⟨e1, e2, e3, e4⟩ := h.row i r s hr hs; ⟨e1, ownsRow_prs e2 e3 (by omega)⟩, by omega, q2, by omega⟩
theorem GX.mono {b b' : Nat} {w : World} {a : Option Addr} {n c : Nat} {R : List (Int × Value)} {L : List Sh} (h : GX b w a n c R L) (hb : b' ≤ b) : GX b' w a n c R L :=
  ⟨h.lenR, h.len, ownsRow_mono h.own hb, fun i r s hr hs => let ⟨q1, q2, q3⟩ := h.row i r s hr hs; ⟨q1, ownsRow_mono q2 hb, q3⟩⟩

/-! ### The model -/
def spS (s : Sh) : Int × Int := ((loF s.2 s.2.length).1, (hiF s.2 s.2.length).1)
def spL (L : List Sh) : List (Int × Int) := L.map spS
def allL (L : List Sh) : List Sh := L.map fun s => boxS s.2
/-- Shape i stands on sheet k. -/
def onS (L : List Sh) (at_ : List Int) (wd : Int) (k i : Nat) : Bool := inB ((spL L).getD i (0, 0)) (at_.getD k 0) wd && !covB ((spL L).getD i (0, 0)) (at_.take k) wd
def ofS (L : List Sh) (at_ : List Int) (wd : Int) (k m : Nat) : List Nat := (List.range m).filter (onS L at_ wd k)
def mvS (x : Int) (s : Sh) : Sh := (s.1, mvL (-x) s.2)
def shtS (H : Int) (L : List Sh) (at_ : List Int) (wd : Int) (k m : Nat) : Sht :=
  ⟨at_.getD k 0, wd, H, (ofS L at_ wd k m).map fun i => mvS (at_.getD k 0) (L.getD i (0, [])), (ofS L at_ wd k m).map fun i : Nat => (i : Int)⟩
def shtsM (H : Int) (L : List Sh) (at_ : List Int) (wd : Int) (k : Nat) : List Sht := (List.range k).map fun j => shtS H L at_ wd j L.length
def cutM (W H : Int) (L : List Sh) (wd : Int) : List Sht × (Int × Int × List Sh) × Int :=
  if validZ W H L ≠ 0 then ([], (0, 0, []), validZ W H L)
  else if (rSplit (spL L) wd).2.2 ≠ 0 then ([], (0, 0, []), (rSplit (spL L) wd).2.2)
  else (shtsM H L (rSplit (spL L) wd).1 wd (rSplit (spL L) wd).1.length, (W, H, allL L), 0)
theorem ofS_succ (L : List Sh) (at_ : List Int) (wd : Int) (k m : Nat) : ofS L at_ wd k (m + 1) = ofS L at_ wd k m ++ if onS L at_ wd k m then [m] else [] := by
  unfold ofS
  rw [List.range_succ, List.filter_append]
  congr 1
  cases h : onS L at_ wd k m <;> simp [h]
theorem ofS_le (L : List Sh) (at_ : List Int) (wd : Int) (k m : Nat) : (ofS L at_ wd k m).length ≤ m := by
  unfold ofS
  have := List.length_filter_le (onS L at_ wd k) (List.range m)
  rw [List.length_range] at this
  exact this
theorem shtsM_succ (H : Int) (L : List Sh) (at_ : List Int) (wd : Int) (k : Nat) : shtsM H L at_ wd (k + 1) = shtsM H L at_ wd k ++ [shtS H L at_ wd k L.length] := by
  unfold shtsM
  rw [List.range_succ, List.map_append]
  rfl
theorem spL_get {L : List Sh} {i : Nat} {s : Sh} (h : L[i]? = some s) : (spL L)[i]? = some (spS s) := by unfold spL; rw [List.getElem?_map, h]; rfl
/-- The shapes of valid figures have points. -/
theorem valid_pts {W H : Int} {L : List Sh} (hv : validZ W H L = 0) {s : Sh} (hs : s ∈ L) : 0 < s.2.length := by
  unfold validZ at hv
  split at hv
  · cases hv
  split at hv
  · cases hv
  split at hv
  · cases hv
  rename_i hsh
  rw [Bool.not_eq_true] at hsh
  have h1 : shapedZ s.1 s.2 = true := by
    have := List.any_eq_false.1 hsh s hs
    simpa using this
  unfold shapedZ at h1
  split at h1
  · simp at h1; omega
  · split at h1
    · cases h1
    · omega
theorem lohi_sc {l : List Pt} (h : ScL l) : ∀ r, (Sc (loF l r).1 ∧ Sc (loF l r).2) ∧ Sc (hiF l r).1 ∧ Sc (hiF l r).2
  | 0 => ⟨ptZ_sc h 0, ptZ_sc h 0⟩
  | r + 1 => by
    have a := lohi_sc h r
    have b := ptZ_sc h r
    unfold Sc at *
    simp only [loF, hiF]
    omega
theorem box_sc {l : List Pt} (h : ScL l) : ScL (boxS l).2 ∧ (boxS l).2.length ≤ 4 := by
  have a := lohi_sc h l.length
  unfold boxS
  split
  · refine ⟨fun p hp => ?_, by simp⟩
    simp at hp; subst hp; exact a.1
  · split
    · refine ⟨fun p hp => ?_, by simp⟩
      simp at hp
      rcases hp with rfl | rfl
      · exact a.1
      · exact a.2
    · refine ⟨fun p hp => ?_, by simp⟩
      simp at hp
      rcases hp with rfl | rfl | rfl | rfl
      · exact a.1
      · exact ⟨a.2.1, a.1.2⟩
      · exact a.2
      · exact ⟨a.1.1, a.2.2⟩
/-- A shape that a call made, and a row of one such shape. -/
def fvShape (base : Nat) (k : Int) (ps : List Pt) : FV := ⟨fun v X => ∃ a c, v = .agg #[.int .i64 k, .slice a ps.length c] ∧ X.ownsRow base 57 2 (.slice a ps.length c) ps.length (prs ps), fun _ _ _ ⟨a, c, h1, h2⟩ hw => ⟨a, c, h1, ownsRow_aft h2 hw⟩⟩
def fvShape1 (base : Nat) (k : Int) (ps : List Pt) : FV := ⟨fun v X => ∃ g a c, v = .slice (some ⟨g, 0, none⟩) 1 1 ∧ Rd X (some ⟨g, 0, none⟩) [.int .i64 k, .slice a ps.length c] ∧ X.ownsRow base 57 2 (.slice a ps.length c) ps.length (prs ps),
  fun _ _ _ ⟨g, a, c, h1, h2, h3⟩ hw => ⟨g, a, c, h1, h2.aft hw, ownsRow_aft h3 hw⟩⟩
theorem spL_ok {L : List Sh} (h : ShSc L) : okP (spL L) := fun p hp => by
  obtain ⟨s, hs, rfl⟩ := List.mem_map.1 hp
  have a := lohi_sc (h s hs).2 s.2.length
  unfold spS
  unfold Sc at a
  simp only
  omega
theorem spL_length (L : List Sh) : (spL L).length = L.length := by unfold spL; rw [List.length_map]
theorem allL_length (L : List Sh) : (allL L).length = L.length := by unfold allL; rw [List.length_map]
theorem cStep_lens (l : List (Int × Int)) (wd : Int) (s : List Int × List Int) (h : s.1.length = s.2.length) : (rStep l wd s).1.length = (rStep l wd s).2.length ∧ (rStep l wd s).1.length ≤ s.1.length + 1 := by
  unfold rStep
  split <;> simp [h]
theorem cRounds_lens (l : List (Int × Int)) (wd : Int) : ∀ (k : Nat) (s : List Int × List Int), s.1.length = s.2.length → (rRounds l wd k s).1.length = (rRounds l wd k s).2.length ∧ (rRounds l wd k s).1.length ≤ s.1.length + k
  | 0, s, h => ⟨h, Nat.le_refl _⟩
  | k + 1, s, h => by
    obtain ⟨h1, h2⟩ := cStep_lens l wd s h
    obtain ⟨h3, h4⟩ := cRounds_lens l wd k _ h1
    exact ⟨h3, by unfold rRounds; omega⟩
theorem cSplit_lens (l : List (Int × Int)) (wd : Int) : (rSplit l wd).1.length = (rSplit l wd).2.1.length ∧ (rSplit l wd).1.length ≤ l.length := by
  unfold rSplit
  split
  · obtain ⟨h1, h2⟩ := cRounds_lens l wd l.length ([], []) rfl
    exact ⟨h1, by simpa using h2⟩
  · exact ⟨rfl, by simp⟩

theorem cSplit_code (l : List (Int × Int)) (wd : Int) : (rSplit l wd).2.2 = fitsE l wd := by
  unfold rSplit
  split
  · rename_i h; exact h.symm
  · rfl
/-- Windows begin where spans begin. -/
theorem split_at {l : List (Int × Int)} {wd : Int} (h : fitsE l wd = 0) {k : Nat} {x : Int} (hx : (rSplit l wd).1[k]? = some x) : 0 ≤ x ∧ x ≤ 1000 := by
  obtain ⟨hG, _⟩ := split_right h
  have hk := (List.getElem?_eq_some_iff.1 hx).1
  have hp : (rSplit l wd).2.1[k]? = some ((rSplit l wd).2.1[k]'(by have := hG.len; omega)) := List.getElem?_eq_getElem _
  obtain ⟨h0, h1, h2⟩ := hG.pin k _ hp
  rw [hx] at h2
  obtain ⟨_, _, _, hb, _⟩ := fits_ok h
  generalize (rSplit l wd).2.1[k]'_ = p at *
  have hm : l.getD p.toNat (0, 0) ∈ l := by
    rw [List.getD_eq_getElem?_getD, List.getElem?_eq_getElem (show p.toNat < l.length by omega)]
    exact List.getElem_mem _
  have hbad := List.any_eq_false.1 hb _ hm
  simp only [Option.some.injEq] at h2
  rw [h2]
  generalize l.getD p.toNat (0, 0) = q at *
  unfold badP at hbad
  simp at hbad
  omega
end Go.Proofs.Ytokdclbfjlnnjaa
