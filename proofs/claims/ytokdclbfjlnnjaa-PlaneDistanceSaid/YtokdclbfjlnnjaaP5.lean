/- A loop over the segments of a shape: one law for all of the program's. -/
import Derived.Shelf.Abstract
import Derived.Test.YtokdclbfjlnnjaaP4
namespace Go.Proofs.Ytokdclbfjlnnjaa
open Go.RowKit Go.BigFrame
attribute [local go_sem] Oper.semAt_some

/-- From A to B nothing below n has turned but the blocks X. -/
structure Kn (n : Nat) (X : Nat → Prop) (A B : World) : Prop where
  os : B.os = A.os
  tape : B.tape = A.tape
  output : B.output = A.output
  size : A.heap.size ≤ B.heap.size
  block : ∀ j, j < n → ¬ X j → B.heap[j]? = A.heap[j]?
def Kx (X : Nat → Prop) (A B : World) : Prop := Kn A.heap.size X A B
theorem Kn.refl (n : Nat) (X : Nat → Prop) (A : World) : Kn n X A A := ⟨rfl, rfl, rfl, Nat.le_refl _, fun _ _ _ => rfl⟩
theorem Kn.trans {n : Nat} {X : Nat → Prop} {A B C : World} (h : Kn n X A B) (k : Kn n X B C) : Kn n X A C :=
  ⟨k.os.trans h.os, k.tape.trans h.tape, k.output.trans h.output, Nat.le_trans h.size k.size, fun j h1 h2 => (k.block j h1 h2).trans (h.block j h1 h2)⟩
theorem Kn.mono {n m : Nat} {X : Nat → Prop} {A B : World} (h : Kn n X A B) (hm : m ≤ n) : Kn m X A B := { h with block := fun j h1 h2 => h.block j (by omega) h2 }
theorem Kx.kn {n : Nat} {X : Nat → Prop} {A B : World} (h : Kx X A B) (hn : n ≤ A.heap.size) : Kn n X A B := Kn.mono h hn
theorem Kx.trans {X : Nat → Prop} {A B C : World} (h : Kx X A B) (k : Kx X B C) : Kx X A C := Kn.trans h (k.kn h.size)
theorem Kx.refl (X : Nat → Prop) (A : World) : Kx X A A := Kn.refl _ _ _
theorem aft_kx {X : Nat → Prop} {A B : World} (h : Aft A B) : Kx X A B := ⟨h.os, h.tape, h.output, h.size, fun j h1 _ => h.block j h1⟩
theorem Kx.setCell {X : Nat → Prop} {A : World} {p : Addr} (u : Value) (hX : X p.block) : Kx X A (A.setCell p u) :=
  ⟨rfl, rfl, rfl, by show A.heap.size ≤ (A.heap.modify _ _).size; rw [Array.size_modify]; exact Nat.le_refl _, fun j _ h2 => Below.heap_setCell A p u j (fun e => h2 (e ▸ hX))⟩
theorem Kx.keeps {n : Nat} {X : Nat → Prop} {A B : World} (h : Kx X A B) (hX : ∀ j, X j → j < n) : KeepsFrom n A B :=
  ⟨h.size, fun k o hk ho _ => (h.block k (Array.getElem?_eq_some_iff.1 ho).1 (fun hx => by have := hX k hx; omega)).trans ho⟩
theorem Kx.sub {X Y : Nat → Prop} {A B : World} (h : Kx X A B) (hs : ∀ j, X j → Y j) : Kx Y A B := { h with block := fun j h1 h2 => h.block j h1 fun hx => h2 (hs j hx) }

theorem Prs.same {w A B : World} {v : Value} {l : List Pt} (h0 : Prs w v l) (hA : Prs A v l) (hs : ∀ j, j < w.heap.size → B.heap[j]? = A.heap[j]?) : Prs B v l := by
  obtain ⟨a, c, rfl, h0⟩ := h0
  obtain ⟨a', c', e, hA⟩ := hA
  simp only [Value.slice.injEq, true_and] at e
  obtain ⟨rfl, rfl⟩ := e
  refine ⟨a, c, rfl, { hA with rd := fun j u hj => ?_ }⟩
  obtain ⟨ad, e1, h1⟩ := hA.rd j u hj
  obtain ⟨ad', e2, h2⟩ := h0.rd j u hj
  rw [e1] at e2
  cases e2
  exact ⟨ad, e1, (World.cell?_of_block (hs _ (World.block_lt_of_cell? _ _ h2))).trans h1⟩

/-- How a round may be left. -/
def segPost (X : Nat → Prop) (C : List Nat → World → Prop) (Cx : Code → List Nat → World → Prop) (xs : List Nat) (W : World) : Exit → Act → World → Prop
  | .normal, _, W' => Kx X W W' ∧ C xs W'
  | .ret, _, W' => Kx X W W' ∧ Cx .ret xs W'
  | .exit id, _, W' => Kx X W W' ∧ Cx (.exit id) xs W'
  | .goto t, _, W' => Kx X W W' ∧ Cx (.goto t) xs W'
  | .panic _, _, _ => False
  | .outgrown, _, _ => False

/-- What turns on the blocks X alone. -/
def OnX (X : Nat → Prop) {β : Type} (C : β → World → Prop) : Prop := ∀ s A B, C s A → (∀ j, X j → B.heap[j]? = A.heap[j]?) → C s B

section
variable {X : Nat → Prop} {w₀ w : World} {Bs : Nat} {k : Int} {vp : Value} {l : List Pt}

theorem kn_box (hP : Prs w₀ vp l) (hw : w₀.heap.size ≤ w.heap.size) (hX : ∀ j, X j → w₀.heap.size ≤ j ∧ j < w.heap.size ∧ j ≠ Bs) (hB : Bs < w.heap.size) :
    ∀ A B, Kn w.heap.size X A B → ShBox A Bs k vp l → ShBox B Bs k vp l := fun A B h hA => by
  have hb := h.block Bs hB (fun hx => (hX Bs hx).2.2 rfl)
  exact ⟨(World.cell?_of_block (a := ⟨Bs, 0, none⟩) hb).trans hA.kind, (World.cell?_of_block (a := ⟨Bs, 1, none⟩) hb).trans hA.pts, Prs.same hP hA.prs fun j hj => h.block j (by omega) fun hx => by have := (hX j hx).1; omega⟩

theorem own_kn {β : Type} {C : β → World → Prop} (hX : ∀ j, X j → j < w.heap.size) (hC : OnX X C) : OwnFrom w.heap.size (fun (s : β) W => Kn w.heap.size X w W ∧ C s W) := fun s A B row hs hg hr => by
  obtain ⟨h1, h2⟩ := hs
  have hne : ∀ j, j < w.heap.size → B.heap[j]? = A.heap[j]? := fun j hj => hg.block j (by have := h1.size; omega) (fun e => by have := (hr j e.symm).1; omega)
  exact ⟨⟨hg.os.trans h1.os, hg.tape.trans h1.tape, hg.output.trans h1.output, Nat.le_trans h1.size hg.size, fun j hj hx => (hne j hj).trans (h1.block j hj hx)⟩, hC s A B h2 fun j hx => hne j (hX j hx)⟩

def SegAt (mk : Nat → Int → Int → Int → Int → Act) (w : World) (l : List Pt) (i : Nat) (a' : Act) (W : World) : Prop := ∃ Bx, w.heap.size ≤ Bx ∧ B4 W Bx (sgZ l i).1.1 (sgZ l i).1.2 (sgZ l i).2.1 (sgZ l i).2.2 ∧ a' = mk Bx (sgZ l i).1.1 (sgZ l i).1.2 (sgZ l i).2.1 (sgZ l i).2.2
theorem segAt_own (mk : Nat → Int → Int → Int → Int → Act) (i : Nat) (a' : Act) : OwnFrom w.heap.size (fun (_ : Unit) W => SegAt mk w l i a' W) := fun _ A B row hs hg hr => by
  obtain ⟨Bx, h1, ⟨⟨c1, c2⟩, c3, c4⟩, h3⟩ := hs
  have hr' := fun r e => (hr r e).2
  exact ⟨Bx, h1, ⟨⟨cell_kept c1 hg hr', cell_kept c2 hg hr'⟩, cell_kept c3 hg hr', cell_kept c4 hg hr'⟩, h3⟩

theorem kn_b (W : World) (y : Nat) (o o' : Obj) (hy : w.heap.size ≤ y) (_ : W.heap[y]? = some o) (_ : o.isCells = false) (_ : o.isWalk = false) : Kn w.heap.size X W (W.putObj y o') :=
  ⟨rfl, rfl, rfl, by simp, fun j hj _ => World.putObj_heap_other (by omega)⟩

theorem segPost_own {C : List Nat → World → Prop} {Cx : Code → List Nat → World → Prop} {xs : List Nat} {W : World} (hX : ∀ j, X j → j < w.heap.size) (hW : Kn w.heap.size X w W) :
    ∀ (e : Exit) (a : Act) (W' : World), segPost X C Cx xs W e a W' → ownPostG w.heap.size (Kn w.heap.size X) (fun s W => Kn w.heap.size X w W ∧ C s W) (fun c s W => Kn w.heap.size X w W ∧ Cx c s W) xs W e a W'
  | .normal, _, _, h => ⟨h.1.keeps hX, h.1.kn hW.size, hW.trans (h.1.kn hW.size), h.2⟩
  | .ret, _, _, h => ⟨h.1.keeps hX, hW.trans (h.1.kn hW.size), h.2⟩
  | .exit _, _, _, h => ⟨h.1.keeps hX, hW.trans (h.1.kn hW.size), h.2⟩
  | .goto _, _, _, h => ⟨h.1.keeps hX, hW.trans (h.1.kn hW.size), h.2⟩

/-- A loop over the segments of a shape. -/
theorem wp_segs {g : Operand} {p : Tmp} {assign body : Code} {Q : Exit → Act → World → Prop} {a : Act}
    (hP : Prs w₀ vp l) (hw : w₀.heap.size ≤ w.heap.size) (hsm : l.length ≤ 1000) (hB : ShBox w Bs k vp l) (hX : ∀ j, X j → w₀.heap.size ≤ j ∧ j < w.heap.size ∧ j ≠ Bs)
    (hg : a.eval g = .func (.func 116) #[] #[.pointer (some ⟨Bs, 0, none⟩)])
    (C : List Nat → World → Prop) (Cx : Code → List Nat → World → Prop) (hC : OnX X C) (hCx : ∀ c, OnX X (Cx c)) (h0 : C [] w) (mk : Nat → Int → Int → Int → Int → Act)
    (hassign : ∀ (y : Nat) (ax ay bx by_ : Int) (W : World) (K : Act → World → Prop), (∀ Bx W', Aft W W' → W.heap.size ≤ Bx → B4 W' Bx ax ay bx by_ → K (mk Bx ax ay bx by_) W') →
      assign.wpIn (Fence.wide.inRound y) 7 Try.prog (Exit.then K (fun _ _ _ => False)) { tmps := a.tmps.setIfInBounds p (.agg #[.int .i64 ax, .int .i64 ay, .int .i64 bx, .int .i64 by_]), defers := [] } W)
    (hbody : ∀ (y : Nat) (pre : List Nat) (i Bx : Nat) (ax ay bx by_ : Int) (W : World), Hid (sgZ l i = ((ax, ay), (bx, by_))) → w.heap.size ≤ y → (∃ r, W.heap[y]? = some (.loop r)) → Kn w.heap.size X w W → C pre W → w.heap.size ≤ Bx → B4 W Bx ax ay bx by_ → pre.length < nSeg k l →
      body.wpIn (Fence.wide.inRound y) 7 Try.prog (segPost X C Cx (pre ++ [i]) W) (mk Bx ax ay bx by_) W)
    (hdone : ∀ (D : Nat) (W : World), w.heap.size ≤ D → Kn w.heap.size X w W → C (List.range (nSeg k l)) W → W.heap[D]? = some (.deferred (some [])) → Q .normal { a with defers := { target := .collected D, args := #[] } :: a.defers } W)
    (hstop : ∀ (D : Nat) (c : Code) (m : Nat) (W : World), w.heap.size ≤ D → m ≤ nSeg k l → Kn w.heap.size X w W → Cx c (List.range m) W → W.heap[D]? = some (.deferred (some [])) → c.wp Try.prog Q { a with defers := { target := .collected D, args := #[] } :: a.defers } W) :
    (Code.rangeFunc g #[p] assign body).wp Try.prog Q a w := by
  have hXn : ∀ j, X j → j < w.heap.size := fun j h => (hX j h).2.1
  have hBs := World.block_lt_of_cell? _ _ hB.kind
  refine (wpIn_wide (n := 9)).1 (wpIn_rangeFunc_ownH (F := Fence.wide) (n := 9) rfl (by omega) (gf := 116) (lb := #[.pointer (some ⟨Bs, 0, none⟩)]) hg trivial (Go.Proofs.enters_of Try.func116 (by kernel_rfl) rfl)
    (segs1_any 8 (by omega) k l vp Bs (Kn w.heap.size X) w hB hsm (kn_box hP hw hX hBs)) (fun h k => h.trans k) kn_b (Below.refl _ _) (fun _ => rfl)
    (fun s W => Kn w.heap.size X w W ∧ C s W) (fun c s W => Kn w.heap.size X w W ∧ Cx c s W) (own_kn hXn hC) (fun c => own_kn hXn (hCx c)) ⟨Kn.refl _ _ _, h0⟩ (SegAt mk w l) (segAt_own mk) ?_ ?_ ?_ ?_)
  · intro y pre i W K hI hK
    have e : (#[p].zip #[segV (sgZ l i)]).foldl (fun t (x : Tmp × Value) => t.setIfInBounds x.1 x.2) a.tmps = a.tmps.setIfInBounds p (segV (sgZ l i)) := by simp
    refine (show _ from e ▸ hassign y _ _ _ _ W K fun Bx W' h1 h2 h3 => ?_)
    have hkx : Kx X W W' := aft_kx h1
    refine hK _ _ (hkx.keeps hXn) (hkx.kn hI.1.size) ⟨hI.1.trans (hkx.kn hI.1.size), hC _ _ _ hI.2 fun j hx => h1.block j (by have := hI.1.size; have := hXn j hx; omega)⟩ ⟨Bx, by have := hI.1.size; omega, h3, rfl⟩
  · rintro y pre i a' W hy hr ⟨hI, hC'⟩ ⟨Bx, hBx, h4, rfl⟩ hlen
    exact wpIn_mono (hbody y pre i Bx _ _ _ _ W rfl hy hr hI hC' hBx h4 hlen) (segPost_own hXn hI)
  · rintro D xs W hD rfl ⟨hI, hC'⟩ hd
    exact hdone D W hD hI hC' hd
  · rintro D c pre W hD ⟨m, hm, rfl⟩ ⟨hI, hC'⟩ hd
    exact wpIn_wide.2 (hstop D c m W hD hm hI hC' hd)
end

/-- A function whose body holds such loops. -/
theorem calls_of_wp_segs {f : FuncId} {fn : Func} {c : Code} {args : Array Value} {w : World} {R : Ending → World → Prop} (hf : Try.prog.funcs[f]? = some fn) (hb : fn.body = some c)
    (h : c.wp Try.prog (bodyPostM Fence.wide 9 Try.prog fn R) { tmps := args ++ Array.replicate (fn.ntmps - args.size) undef, defers := [] } w) : Calls Try.prog f args w R :=
  (callsIn_wide (n := 9)).1 (callsIn_of_wp_marks hf hb trivial (wpIn_wide.2 h) rfl)
theorem kn_end {w W2 W : World} {X : Nat → Prop} {D : Nat} {o : Obj} (h : Aft w W2) (hX : ∀ j, X j → w.heap.size ≤ j) (hk : Kn W2.heap.size X W2 W) (hD : W2.heap.size ≤ D) : Aft w (W.putObj D o) :=
  ⟨hk.os.trans h.os, hk.tape.trans h.tape, hk.output.trans h.output, by have := h.size; have := hk.size; simp; omega, fun j hj => by
    have := h.size
    rw [World.putObj_heap_other (by omega), hk.block j (by omega) (fun hx => by have := hX j hx; omega), h.block j hj]⟩
end Go.Proofs.Ytokdclbfjlnnjaa
