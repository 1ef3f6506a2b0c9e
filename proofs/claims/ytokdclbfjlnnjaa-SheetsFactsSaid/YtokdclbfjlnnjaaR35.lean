/- A sheet that is being made: its box, and what is owned of a row of sheets. -/
import Derived.Test.YtokdclbfjlnnjaaR33
namespace Go.Proofs.Ytokdclbfjlnnjaa
open Go.RowKit Go.BigFrame

def B5 (W : World) (b : Nat) (x y z : Int) (u v : Value) : Prop :=
  W.cell? ⟨b, 0, none⟩ = some (.int .i64 x) ∧ W.cell? ⟨b, 1, none⟩ = some (.int .i64 y) ∧ W.cell? ⟨b, 2, none⟩ = some (.int .i64 z) ∧ W.cell? ⟨b, 3, none⟩ = some u ∧ W.cell? ⟨b, 4, none⟩ = some v
def F5 (W : World) (b : Nat) : Prop := W.frozen? ⟨b, 0, none⟩ = false ∧ W.frozen? ⟨b, 1, none⟩ = false ∧ W.frozen? ⟨b, 2, none⟩ = false ∧ W.frozen? ⟨b, 3, none⟩ = false ∧ W.frozen? ⟨b, 4, none⟩ = false
theorem B5.kx {X : Nat → Prop} {A B : World} {b : Nat} {x y z : Int} {u v : Value} (h : B5 A b x y z u v) (hk : Kx X A B) (hb : ¬ X b) : B5 B b x y z u v := by
  have tr : ∀ {o : Nat} {v : Value}, A.cell? ⟨b, o, none⟩ = some v → B.cell? ⟨b, o, none⟩ = some v := fun h => (hk.cell (World.block_lt_of_cell? _ _ h) hb).trans h
  exact ⟨tr h.1, tr h.2.1, tr h.2.2.1, tr h.2.2.2.1, tr h.2.2.2.2⟩
theorem F5.kx {X : Nat → Prop} {A B : World} {b : Nat} (h : F5 A b) (hk : Kx X A B) (hlt : b < A.heap.size) (hb : ¬ X b) : F5 B b :=
  ⟨(frozen_kx hk hlt hb).trans h.1, (frozen_kx hk hlt hb).trans h.2.1, (frozen_kx hk hlt hb).trans h.2.2.1, (frozen_kx hk hlt hb).trans h.2.2.2.1, (frozen_kx hk hlt hb).trans h.2.2.2.2⟩
theorem F5.set {V : World} {b : Nat} {u : Value} {c : Addr} (h : F5 V b) : F5 (V.setCell c u) b := by
  obtain ⟨h1, h2, h3, h4, h5⟩ := h
  exact ⟨by rw [World.frozen?_setCell]; exact h1, by rw [World.frozen?_setCell]; exact h2, by rw [World.frozen?_setCell]; exact h3, by rw [World.frozen?_setCell]; exact h4, by rw [World.frozen?_setCell]; exact h5⟩
theorem B5.lt {A : World} {b : Nat} {x y z : Int} {u v : Value} (h : B5 A b x y z u v) : b < A.heap.size := World.block_lt_of_cell? _ _ h.1
theorem put53 {W : World} {b : Nat} {x y z : Int} {u0 v0 : Value} (h : B5 W b x y z u0 v0) (u : Value) : B5 (W.setCell ⟨b, 3, none⟩ u) b x y z u v0 ∧ Kx (fun j => j = b) W (W.setCell ⟨b, 3, none⟩ u) :=
  ⟨⟨(World.cell?_setCell_other _ _ _ _ (by simp)).trans h.1, (World.cell?_setCell_other _ _ _ _ (by simp)).trans h.2.1, (World.cell?_setCell_other _ _ _ _ (by simp)).trans h.2.2.1, World.cell?_setCell_same' _ _ _ (by rw [h.2.2.2.1]; rfl), (World.cell?_setCell_other _ _ _ _ (by simp)).trans h.2.2.2.2⟩, Kx.setCell (p := ⟨b, 3, none⟩) _ rfl⟩
theorem put54 {W : World} {b : Nat} {x y z : Int} {u0 v0 : Value} (h : B5 W b x y z u0 v0) (v : Value) : B5 (W.setCell ⟨b, 4, none⟩ v) b x y z u0 v ∧ Kx (fun j => j = b) W (W.setCell ⟨b, 4, none⟩ v) :=
  ⟨⟨(World.cell?_setCell_other _ _ _ _ (by simp)).trans h.1, (World.cell?_setCell_other _ _ _ _ (by simp)).trans h.2.1, (World.cell?_setCell_other _ _ _ _ (by simp)).trans h.2.2.1, (World.cell?_setCell_other _ _ _ _ (by simp)).trans h.2.2.2.1, World.cell?_setCell_same' _ _ _ (by rw [h.2.2.2.2]; rfl)⟩, Kx.setCell (p := ⟨b, 4, none⟩) _ rfl⟩
/-- A fresh box of a sheet. -/
def fvNew5 (b : Nat) : FV := ⟨fun v W => ∃ g, v = .pointer (some ⟨g, 0, none⟩) ∧ b ≤ g ∧ B5 W g 0 0 0 (.slice none 0 0) (.slice none 0 0) ∧ F5 W g,
  fun _ _ _ ⟨g, h1, h2, h3, h4⟩ hw => ⟨g, h1, h2, h3.kx (X := fun _ => False) (aft_kx hw) (fun h => h), h4.kx (X := fun _ => False) (aft_kx hw) h3.lt (fun h => h)⟩⟩

/-- What is owned of a sheet: its shapes, and whose they are. -/
def FX (base : Nat) (X : World) (s : Sht) (u v : Value) : Prop :=
  (∃ a n c R, u = .slice a n c ∧ GX base X a n c R s.sh ∧ n ≤ 1000) ∧ X.ownsRow base 3 1 v s.of_.length (i64s s.of_) ∧ okI s.of_ ∧ s.of_.length ≤ 1000
theorem FX.aft {b : Nat} {X Y : World} {s : Sht} {u v : Value} (h : FX b X s u v) (hw : Aft X Y) : FX b Y s u v :=
  let ⟨⟨a, n, c, R, e, hG, hn⟩, h2, h3, h4⟩ := h; ⟨⟨a, n, c, R, e, hG.aft hw, hn⟩, ownsRow_aft h2 hw, h3, h4⟩
theorem FX.mono {b b' : Nat} {X : World} {s : Sht} {u v : Value} (h : FX b X s u v) (hb : b' ≤ b) : FX b' X s u v :=
  let ⟨⟨a, n, c, R, e, hG, hn⟩, h2, h3, h4⟩ := h; ⟨⟨a, n, c, R, e, hG.mono hb, hn⟩, ownsRow_mono h2 hb, h3, h4⟩
theorem FX.grown {e : TypeId} (he : e ≠ 51 ∧ e ≠ 57 ∧ e ≠ 3) {b b' : Nat} {X Y : World} {s : Sht} {u v : Value} {q : Value} {m sz : Nat} {ys : List Value} (h : FX b X s u v) (ho : X.ownsRow b' e sz q m ys) (hg : X.grownBy Y q.ownBlock) : FX b Y s u v :=
  let ⟨⟨a, n, c, R, e1, hG, hn⟩, h2, h3, h4⟩ := h; ⟨⟨a, n, c, R, e1, hG.grown he.1 he.2.1 ho hg, hn⟩, Sep.kept (sep_any he.2.2 ho h2).symm h2 hg, h3, h4⟩
theorem FX.kx {P : Nat → Prop} {b : Nat} {X Y : World} {s : Sht} {u v : Value} (h : FX b X s u v) (hk : Kx P X Y) (hP : ∀ j, P j → j < b) : FX b Y s u v :=
  let ⟨⟨a, n, c, R, e, hG, hn⟩, h2, h3, h4⟩ := h; ⟨⟨a, n, c, R, e, hG.kx hk hP, hn⟩, ownsRow_kx h2 hk hP, h3, h4⟩
theorem FX.read {b : Nat} {X : World} {s : Sht} {u v : Value} (h : FX b X s u v) : Shs X u s.sh ∧ Ints X v s.of_ := by
  obtain ⟨⟨a, n, c, R, rfl, hG, hn⟩, h2, h3, h4⟩ := h
  exact ⟨hG.shs hn, ownsRow_ints h2 h3 (by omega)⟩
/-- A row of sheets that the call made. -/
def SX (e : TypeId) (base : Nat) (X : World) (v : Value) (l : List Sht) : Prop := ShtRow base e X v l (FX base X)
theorem SX.nil (e : TypeId) (base : Nat) (X : World) : SX e base X (.slice none 0 0) [] := ShtRow.nil _ _ _ _
theorem SX.aft {e : TypeId} {b : Nat} {X Y : World} {v : Value} {l : List Sht} (h : SX e b X v l) (hw : Aft X Y) : SX e b Y v l := (ShtRow.aft h hw).mono fun _ _ _ k => k.aft hw
theorem SX.kx {e : TypeId} {P : Nat → Prop} {b : Nat} {X Y : World} {v : Value} {l : List Sht} (h : SX e b X v l) (hk : Kx P X Y) (hP : ∀ j, P j → j < b) : SX e b Y v l := by
  obtain ⟨Q, h1, h2, h3⟩ := h
  exact ⟨Q, ownsRow_kx h1 hk hP, h2, fun i q s hq hs => let ⟨e1, e2, e3, k⟩ := h3 i q s hq hs; ⟨e1, e2, e3, k.kx hk hP⟩⟩
/-- With one sheet more, appended. -/
theorem SX.snoc {e : TypeId} (he : e ≠ 51 ∧ e ≠ 57 ∧ e ≠ 3) {b : Nat} {X Y : World} {v v' : Value} {l : List Sht} {Q : List Q5} {s : Sht} {u q : Value} (h1 : X.ownsRow b e 5 v l.length (cells5 Q)) (h2 : Q.length = l.length)
    (h3 : ∀ (i : Nat) (q : Q5) (s : Sht), Q[i]? = some q → l[i]? = some s → q.1 = s.x ∧ q.2.1 = s.wd ∧ q.2.2.1 = s.ht ∧ FX b X s q.2.2.2.1 q.2.2.2.2) (hF : FX b X s u q) (hg : X.grownBy Y v.ownBlock)
    (ho : Y.ownsRow b e 5 v' (l.length + 1) (cells5 Q ++ [.int .i64 s.x, .int .i64 s.wd, .int .i64 s.ht, u, q])) : SX e b Y v' (l ++ [s]) :=
  shtRow_snoc h2 (fun i q s hq hs => let ⟨e1, e2, e3, k⟩ := h3 i q s hq hs; ⟨e1, e2, e3, k.grown he h1 hg⟩) (hF.grown he h1 hg) ho
theorem kx_grown {X : Nat → Prop} {w A B : World} {row : Option Nat} (h : Kx X w A) (hg : A.grownBy B row) (hr : ∀ j, row = some j → w.heap.size ≤ j) : Kx X w B :=
  ⟨hg.os.trans h.os, hg.tape.trans h.tape, hg.output.trans h.output, Nat.le_trans h.size hg.size, fun j hj hx => (hg.block j (by have := h.size; omega) (fun e => by have := hr j e.symm; omega)).trans (h.block j hj hx)⟩
theorem kx_set {X : Nat → Prop} {w A : World} (h : Kx X w A) {p : Addr} (hp : w.heap.size ≤ p.block) (u : Value) : Kx X w (A.setCell p u) :=
  ⟨h.os, h.tape, h.output, by show w.heap.size ≤ (A.heap.modify _ _).size; rw [Array.size_modify]; exact h.size, fun j hj hx => (Below.heap_setCell A p u j (by omega)).trans (h.block j hj hx)⟩
/-! ### The sheet under way -/
theorem shtsM_len (H : Int) (L : List Sh) (at_ : List Int) (wd : Int) (k : Nat) : (shtsM H L at_ wd k).length = k := by unfold shtsM; simp
theorem ofS_no {L : List Sh} {at_ : List Int} {wd : Int} {k m : Nat} (h : onS L at_ wd k m = false) : ofS L at_ wd k (m + 1) = ofS L at_ wd k m := by rw [ofS_succ, h]; simp
theorem ofS_yes {L : List Sh} {at_ : List Int} {wd : Int} {k m : Nat} (h : onS L at_ wd k m = true) : ofS L at_ wd k (m + 1) = ofS L at_ wd k m ++ [m] := by rw [ofS_succ, h]; rfl
theorem ofS_okI (L : List Sh) (at_ : List Int) (wd : Int) (k m : Nat) (hm : m ≤ 1000) : okI ((ofS L at_ wd k m).map fun i : Nat => (i : Int)) := by
  intro z hz
  obtain ⟨i, hi, rfl⟩ := List.mem_map.1 hz
  have := List.mem_range.1 (List.mem_filter.1 hi).1
  omega
theorem onS_eq {L : List Sh} {at_ : List Int} {wd : Int} {k m : Nat} {p : Int × Int} {x : Int} (hp : (spL L)[m]? = some p) (hx : at_[k]? = some x) : onS L at_ wd k m = (inB p x wd && !covB p (at_.take k) wd) := by
  unfold onS
  rw [List.getD_eq_getElem?_getD, List.getD_eq_getElem?_getD, hp, hx]
  rfl
/-- Which spans lie in a window that was there, before the span m is looked at with the window k. -/
def dnB (L : List Sh) (at_ : List Int) (wd : Int) (k m i : Nat) : Bool := covB ((spL L).getD i (0, 0)) (at_.take (if i < m then k + 1 else k)) wd
theorem row_get {w : World} {base : Nat} {e : TypeId} {g n c : Nat} {xs : List Value} {m : Nat} {v : Value} (h : w.ownsRow base e 1 (.slice (some ⟨g, 0, none⟩) n c) n xs) (hx : xs[m]? = some v) : w.cell? ⟨g, m, none⟩ = some v ∧ w.frozen? ⟨g, m, none⟩ = false := by
  have h1 := h.cells rfl m v hx
  have e1 : (⟨g, 0, none⟩ : Addr).add m = ⟨g, m, none⟩ := by unfold Addr.add; split <;> simp_all
  rw [e1] at h1
  refine ⟨h1, ?_⟩
  rcases h.2 with ⟨h2, _⟩ | ⟨g', cap, cur, h2, _, h3, _⟩
  · cases h2
  · cases h2
    simp [World.frozen?, h3]
def dnS (L : List Sh) (at_ : List Int) (wd : Int) (k m : Nat) : List Value := (List.range L.length).map fun i => .bool (dnB L at_ wd k m i)
theorem dnS_get {L : List Sh} {at_ : List Int} {wd : Int} {k m i : Nat} (hi : i < L.length) : (dnS L at_ wd k m)[i]? = some (.bool (dnB L at_ wd k m i)) := by
  unfold dnS
  rw [List.getElem?_map, List.getElem?_range hi]
  rfl
theorem dnS_start (L : List Sh) (at_ : List Int) (wd : Int) : dnS L at_ wd 0 0 = List.replicate L.length (.bool false) := by
  refine List.ext_getElem (by simp [dnS]) fun i h1 h2 => ?_
  simp [dnS, dnB, covB]
theorem dnS_next (L : List Sh) (at_ : List Int) (wd : Int) (k : Nat) : dnS L at_ wd k L.length = dnS L at_ wd (k + 1) 0 := by
  unfold dnS
  refine List.map_congr_left fun i hi => ?_
  have := List.mem_range.1 hi
  unfold dnB
  rw [if_pos this, if_neg (by omega)]
theorem cov_snoc {p : Int × Int} {at_ : List Int} {wd : Int} {k : Nat} {x : Int} (hx : at_[k]? = some x) : covB p (at_.take (k + 1)) wd = (covB p (at_.take k) wd || inB p x wd) := by
  rw [take_snoc hx]
  unfold covB
  rw [List.any_append]
  simp
theorem dnB_other {L : List Sh} {at_ : List Int} {wd : Int} {k m i : Nat} (h : i ≠ m) : dnB L at_ wd k (m + 1) i = dnB L at_ wd k m i := by
  unfold dnB
  by_cases h1 : i < m
  · rw [if_pos h1, if_pos (by omega)]
  · rw [if_neg h1, if_neg (by omega)]
theorem dnS_keep {L : List Sh} {at_ : List Int} {wd : Int} {k m : Nat} {p : Int × Int} {x : Int} (hp : (spL L)[m]? = some p) (hx : at_[k]? = some x) (h : onS L at_ wd k m = false) : dnS L at_ wd k (m + 1) = dnS L at_ wd k m := by
  rw [onS_eq hp hx] at h
  unfold dnS
  refine List.map_congr_left fun i _ => ?_
  by_cases hi : i = m
  · subst hi
    unfold dnB
    rw [if_pos (by omega), if_neg (by omega), List.getD_eq_getElem?_getD, hp, cov_snoc hx]
    simp only [Option.getD_some]
    revert h
    cases inB p x wd <;> cases covB p (at_.take k) wd <;> simp
  · rw [dnB_other hi]
theorem dnS_set {L : List Sh} {at_ : List Int} {wd : Int} {k m : Nat} {p : Int × Int} {x : Int} (hp : (spL L)[m]? = some p) (hx : at_[k]? = some x) (h : inB p x wd = true) (hm : m < L.length) : (dnS L at_ wd k m).set m (.bool true) = dnS L at_ wd k (m + 1) := by
  refine List.ext_getElem? fun i => ?_
  by_cases hi : i = m
  · subst hi
    rw [List.getElem?_set_self (by simp [dnS]; exact hm), dnS_get hm]
    unfold dnB
    rw [if_pos (by omega), List.getD_eq_getElem?_getD, hp, cov_snoc hx]
    simp only [Option.getD_some]
    rw [h]
    simp
  · rw [List.getElem?_set_ne (by omega)]
    by_cases hl : i < L.length
    · rw [dnS_get hl, dnS_get hl, dnB_other hi]
    · have l1 : (dnS L at_ wd k m).length = L.length := by simp [dnS]
      have l2 : (dnS L at_ wd k (m + 1)).length = L.length := by simp [dnS]
      rw [List.getElem?_eq_none (by omega), List.getElem?_eq_none (by omega)]
theorem dnB_here {L : List Sh} {at_ : List Int} {wd : Int} {k m : Nat} {p : Int × Int} (hp : (spL L)[m]? = some p) : dnB L at_ wd k m m = covB p (at_.take k) wd := by
  unfold dnB
  rw [if_neg (by omega), List.getD_eq_getElem?_getD, hp]
  rfl
theorem mvL_length (d : Int) (l : List Pt) : (mvL d l).length = l.length := by unfold mvL; rw [List.length_map]
theorem mvL_ok (d : Int) {l : List Pt} (h : okP l) : okP (mvL d l) := by
  intro p hp
  obtain ⟨q, hq, rfl⟩ := List.mem_map.1 hp
  have h1 := h q hq
  refine ⟨?_, h1.2⟩
  show -9223372036854775808 ≤ wrap64 (q.1 + d) ∧ wrap64 (q.1 + d) ≤ 9223372036854775807
  unfold wrap64
  omega
/-- What Cut returns: rows of its own, new all of them. -/
def CutPost (e5 : TypeId) (w : World) (r : List Sht × (Int × Int × List Sh) × Int) (e : Ending) (w' : World) : Prop :=
  ∃ v v' b1 b2, e = .returned (.tuple #[v, .agg #[.int .i64 r.2.1.1, .int .i64 r.2.1.2.1, v'], .int .i64 r.2.2]) ∧ w.heap.size ≤ b1 ∧ w.heap.size ≤ b2 ∧ SX e5 b1 w' v r.1 ∧ r.1.length ≤ 1000 ∧ (∃ a n c R, v' = .slice a n c ∧ GX b2 w' a n c R r.2.1.2.2 ∧ n ≤ 1000) ∧ Aft w w'
end Go.Proofs.Ytokdclbfjlnnjaa
