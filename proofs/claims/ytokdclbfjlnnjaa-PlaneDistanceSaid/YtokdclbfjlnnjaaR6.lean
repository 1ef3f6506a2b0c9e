/- The reference's Figure: a valid figure made of numbers. -/
import Derived.Test.YtokdclbfjlnnjaaR5
import Derived.ArgAppend
namespace Go.Proofs.Ytokdclbfjlnnjaa
open Go.RowKit Go.BigFrame

theorem Try.info51 : (Try.prog.info? 51).map (fun i => (i.zero, i.size, i.bytes)) = some (some (.agg #[.int .i64 0, .slice none 0 0]), 2, 32) := by kernel_rfl
/-- append to an empty slice that was just made: whatever comes of it is new. -/
theorem wpList_app_empty {P : Program} (w : World) {ops : Array Oper} {rest : List Oper} {o : Oper} {a : Act} {Q : Exit → Act → World → Prop} (hgd : o.guard = none) (s x : Operand) (t : TypeId)
    (ho : o.op = .call { callee := .builtin .append, args := #[s, x], argTypes := #[t, t] })
    (base : Nat) (e : TypeId) (z : Value) (size bytes : Nat) (ht : P.underlying t = some (.slice e)) (hinfo : (P.info? e).map (fun i => (i.zero, i.size, i.bytes)) = some (some z, size, bytes))
    (hzs : z.cells.size = size) (hsz : 0 < size) (g : Nat)
    (hs : a.eval s = .slice (some ⟨g, 0, none⟩) 0 0) (hown : w.ownsRow base e size (.slice (some ⟨g, 0, none⟩) 0 0) 0 [])
    (ax : Option Addr) (m c : Nat) (news : List Value) (hx : a.eval x = .slice ax m c) (hc : ax = none → c = 0) (hl : news.length = m * size) (hnews : Rd w ax news) (h1 : ∀ u ∈ news, u.oneCell' = true)
    (h63 : m ≤ maxLen) (hbytes : m * bytes ≤ 140737488355328) (hbase : base ≤ w.heap.size)
    (h : ∀ v' w', w'.ownsRow base e size v' m news → Aft w w' → (∀ b, v'.ownBlock = some b → b = g ∨ w.heap.size ≤ b) → wpList P ops Q rest (a.put o.dst v') w') : wpList P ops Q (o :: rest) a w := by
  obtain ⟨i, hi, hz, h2, h3⟩ := info_parts hinfo
  cases ax with
  | none =>
    have hnil : news = [] := by
      cases news with
      | nil => rfl
      | cons u l => obtain ⟨ad, e, _⟩ := hnews 0 u rfl; cases e
    subst hnil
    have hm : m = 0 := by
      have := hl
      simp only [List.length_nil] at this
      rcases Nat.mul_eq_zero.1 this.symm with h | h
      · exact h
      · omega
    subst hm
    have := hc rfl
    subst this
    exact wpList_append_own_none hgd s x t ho base e i size ht hi _ 0 [] hs hown hx (h _ w hown (Aft.refl w) (fun b hb => .inl (by simp [Value.ownBlock] at hb; omega)))
  | some ad =>
    refine wpList_append_arg w hgd s x t ho e i z size bytes ht hi hz h2 h3 hzs hsz g 0 0 0 [] hs (by simp) (fun j u hj => by simp at hj) ad m c news hx hl (fun j u hj => by
      obtain ⟨ad', e', hc'⟩ := hnews j u hj
      cases e'
      exact hc') h1 (fun hm j hj => by
        have : m = 0 := by omega
        subst this
        rw [hl] at hj
        omega) (by omega) (by rw [Nat.zero_add]; exact hbytes) (fun hm => ?_) (fun hm v' w' r1 r2 => ?_)
    · have : m = 0 := by omega
      subst this
      have hn0 : news = [] := List.eq_nil_of_length_eq_zero (by rw [hl]; omega)
      subst hn0
      exact h _ _ hown (Aft.refl w) (fun b hb => .inl (by simp [Value.ownBlock] at hb; omega))
    · rw [Nat.zero_add] at r1
      exact h v' w' (ownsRow_mono r1 hbase) ((Aft.refl w).grown r2 (fun k hk => by cases hk)) (fun b hb => .inr (r1.lt b hb).1)

def fvEmpty (e : TypeId) (size n : Nat) : FV := ⟨fun v W => ∃ g, v = .slice (some ⟨g, 0, none⟩) 0 0 ∧ n < g ∧ W.heap[g]? = some (.cells #[] e), fun _ _ _ ⟨g, h1, h2, h3⟩ hw => ⟨g, h1, h2, (hw.block g (Array.getElem?_eq_some_iff.1 h3).1).trans h3⟩⟩
def fvRow (base : Nat) (e : TypeId) (size n : Nat) (cs : List Value) : FV := ⟨fun v W => W.ownsRow base e size v n cs, fun _ _ _ h hw => ownsRow_aft h hw⟩
def fvOne (cs : List Value) : FV := ⟨fun v W => ∃ g, v = .slice (some ⟨g, 0, none⟩) 1 1 ∧ Rd W (some ⟨g, 0, none⟩) cs, fun _ _ _ ⟨g, h1, h2⟩ hw => ⟨g, h1, h2.aft hw⟩⟩

/-- The slices of a row of shapes, each in a block from base on. -/
def RowFrom (base : Nat) (R : List (Int × Value)) : Prop := ∀ r ∈ R, ∃ g n c, r.2 = .slice (some ⟨g, 0, none⟩) n c ∧ base ≤ g
theorem shCells_one {base : Nat} {R : List (Int × Value)} (h : RowFrom base R) : ∀ u ∈ shCells R, u.oneCell' = true := by
  intro u hu
  simp only [shCells, List.mem_flatMap] at hu
  obtain ⟨r, hr, hu⟩ := hu
  obtain ⟨g, n, c, e, _⟩ := h r hr
  simp at hu
  rcases hu with rfl | rfl
  · rfl
  · rw [e]; rfl
/-- A row of shapes of the call's own: all its blocks lie from base on. -/
structure ShsB (base : Nat) (w : World) (a : Option Addr) (n c : Nat) (R : List (Int × Value)) (L : List Sh) : Prop where
  sh : ShsAt w a n c R L
  own : w.ownsRow base 51 2 (.slice a n c) n (shCells R)
  from_ : RowFrom base R
theorem ownsRow_kx2 {X : Nat → Prop} {A B : World} {base : Nat} {e : TypeId} {size n : Nat} {v : Value} {xs : List Value} (h : A.ownsRow base e size v n xs) (hk : Kx X A B) (hX : ∀ j, X j → j < base) : B.ownsRow base e size v n xs := ownsRow_kx h hk hX
theorem prs_kx {X : Nat → Prop} {A B : World} {g off n c : Nat} {l : List Pt} (h : Prs A (.slice (some ⟨g, off, none⟩) n c) l) (hk : Kx X A B) (hg : ¬ X g) : Prs B (.slice (some ⟨g, off, none⟩) n c) l := by
  obtain ⟨a', c', e', hp⟩ := h
  simp only [Value.slice.injEq] at e'
  obtain ⟨rfl, e2, rfl⟩ := e'
  exact ⟨_, _, by rw [← e2], PrsAt.kx hp hk hg⟩
theorem ShsB.kx {X : Nat → Prop} {A B : World} {base : Nat} {a : Option Addr} {n c : Nat} {R : List (Int × Value)} {L : List Sh} (h : ShsB base A a n c R L) (hk : Kx X A B) (hX : ∀ j, X j → j < base) : ShsB base B a n c R L := by
  have ho := ownsRow_kx h.own hk hX
  refine ⟨{ h.sh with rd := ?_, el := fun i r s hr hs => ?_ }, ho, h.from_⟩
  · obtain ⟨a', c', e, hrd, _⟩ := ownsRow_at ho
    simp only [Value.slice.injEq] at e
    obtain ⟨rfl, _, rfl⟩ := e
    exact hrd
  · obtain ⟨h1, h2⟩ := h.sh.el i r s hr hs
    obtain ⟨g, n', c', e, hg⟩ := h.from_ r (List.mem_of_getElem? hr)
    rw [e] at h2 ⊢
    exact ⟨h1, prs_kx h2 hk (fun hx => by have := hX g hx; omega)⟩
theorem ShsB.aft {A B : World} {base : Nat} {a : Option Addr} {n c : Nat} {R : List (Int × Value)} {L : List Sh} (h : ShsB base A a n c R L) (hw : Aft A B) : ShsB base B a n c R L := ShsB.kx (X := fun _ => False) h (aft_kx hw) (fun _ h => h.elim)
theorem ShsB.nil (base : Nat) (w : World) : ShsB base w none 0 0 [] [] :=
  ⟨⟨rfl, rfl, fun j v hj => by simp [shCells] at hj, fun i r s h => by simp at h, Nat.le_refl _, fun _ => rfl, by omega⟩, World.ownsRow_nil _ _ _ _, fun r h => by cases h⟩
/-- With one shape more, in a row that was made anew. -/
theorem ShsB.snoc {base base' : Nat} {A B : World} {a a' : Option Addr} {n c c' : Nat} {R : List (Int × Value)} {L : List Sh} {k : Int} {g gn gc : Nat} {ps : List Pt} (h : ShsB base A a n c R L) (hw : Aft A B)
    (hp : Prs B (.slice (some ⟨g, 0, none⟩) gn gc) ps) (hg : base ≤ g) (hb : base ≤ base') (ho : B.ownsRow base' 51 2 (.slice a' (n + 1) c') (n + 1) (shCells (R ++ [(k, .slice (some ⟨g, 0, none⟩) gn gc)]))) (hs : (n + 1) * 32 ≤ 140737488351232) :
    ShsB base B a' (n + 1) c' (R ++ [(k, .slice (some ⟨g, 0, none⟩) gn gc)]) (L ++ [(k, ps)]) := by
  obtain ⟨a1, c1, e, hrd, h1, h2⟩ := ownsRow_at ho
  simp only [Value.slice.injEq] at e
  obtain ⟨rfl, _, rfl⟩ := e
  have hln := h.sh.len
  have hlR := h.sh.lenR
  refine ⟨⟨by simp [hln], by simp [hlR], hrd, fun i r s hr hs => ?_, h1, h2, hs⟩, ownsRow_mono ho hb, fun r hr => ?_⟩
  · rcases Nat.lt_or_ge i L.length with hi | hi
    · rw [List.getElem?_append_left (by omega)] at hr
      rw [List.getElem?_append_left hi] at hs
      obtain ⟨q1, q2⟩ := h.sh.el i r s hr hs
      exact ⟨q1, q2.aft hw⟩
    · rw [List.getElem?_append_right (by omega)] at hr
      rw [List.getElem?_append_right hi] at hs
      obtain ⟨j, hj⟩ : ∃ j, i - L.length = j := ⟨_, rfl⟩
      rw [show i - R.length = j by omega] at hr
      rw [hj] at hs
      cases j with
      | succ j => simp at hr
      | zero =>
        simp at hr hs
        subst hr hs
        exact ⟨rfl, hp⟩
  · rcases List.mem_append.1 hr with hr | hr
    · exact h.from_ r hr
    · simp at hr
      subst hr
      exact ⟨g, gn, gc, rfl, hg⟩
theorem ShsB.shs {base : Nat} {w : World} {a : Option Addr} {n c : Nat} {R : List (Int × Value)} {L : List Sh} (h : ShsB base w a n c R L) : Shs w (.slice a n c) L := by
  have := h.sh.len
  subst this
  exact ⟨a, c, R, rfl, h.sh⟩

theorem ShsB.mono {b b' : Nat} {w : World} {a : Option Addr} {n c : Nat} {R : List (Int × Value)} {L : List Sh} (hb : b' ≤ b) (h : ShsB b w a n c R L) : ShsB b' w a n c R L :=
  ⟨h.sh, ownsRow_mono h.own hb, fun r hr => by obtain ⟨g, n, c, e, hg⟩ := h.from_ r hr; exact ⟨g, n, c, e, by omega⟩⟩
theorem gen_pts {k : Int} {l : List Pt} (h : Gen k l) : (∀ p ∈ l, 0 ≤ p.1 ∧ p.1 ≤ 60 ∧ 0 ≤ p.2 ∧ p.2 ≤ 60) ∧ 1 ≤ l.length ∧ l.length ≤ 6 := by
  rcases h with ⟨rfl, x, y, rfl, h⟩ | ⟨rfl, h1, h2, h3, _⟩ | ⟨rfl, x, y, wd, h, rfl, hh⟩ | ⟨rfl, x, y, wd, t1, t2, h, rfl, hh⟩ | ⟨rfl, x, y, wd, h, rfl, hh⟩
  · refine ⟨fun p hp => ?_, by simp, by simp⟩
    simp at hp; subst hp; simp only; omega
  · exact ⟨h3, by omega, by omega⟩
  · refine ⟨fun p hp => ?_, by simp [rectL], by simp [rectL]⟩
    simp [rectL] at hp
    rcases hp with rfl | rfl | rfl | rfl <;> (simp only; omega)
  · refine ⟨fun p hp => ?_, by simp [triL], by simp [triL]⟩
    simp [triL] at hp
    rcases hp with rfl | rfl | rfl <;> (simp only; omega)
  · refine ⟨fun p hp => ?_, by simp [braL], by simp [braL]⟩
    simp [braL] at hp
    rcases hp with rfl | rfl | rfl | rfl | rfl | rfl <;> (simp only; omega)
theorem gen_sc {k : Int} {l : List Pt} (h : Gen k l) : l.length ≤ 1000 ∧ ScL l := by
  obtain ⟨h1, h2, h3⟩ := gen_pts h
  exact ⟨by omega, fun p hp => by have := h1 p hp; unfold Sc; omega⟩
def GenL (L : List Sh) : Prop := ∀ s ∈ L, Gen s.1 s.2
theorem genL_sc {L : List Sh} (h : GenL L) : ShSc L := fun s hs => gen_sc (h s hs)

/-- Figures: two numbers and a slice. -/
def B3 (W : World) (b : Nat) (x y : Int) (v : Value) : Prop := W.cell? ⟨b, 0, none⟩ = some (.int .i64 x) ∧ W.cell? ⟨b, 1, none⟩ = some (.int .i64 y) ∧ W.cell? ⟨b, 2, none⟩ = some v
def F3 (W : World) (b : Nat) : Prop := W.frozen? ⟨b, 0, none⟩ = false ∧ W.frozen? ⟨b, 1, none⟩ = false ∧ W.frozen? ⟨b, 2, none⟩ = false
theorem B3.kx {X : Nat → Prop} {A B : World} {b : Nat} {x y : Int} {v : Value} (h : B3 A b x y v) (hk : Kx X A B) (hb : ¬ X b) : B3 B b x y v := by
  have tr : ∀ {o : Nat} {v : Value}, A.cell? ⟨b, o, none⟩ = some v → B.cell? ⟨b, o, none⟩ = some v := fun h => (hk.cell (World.block_lt_of_cell? _ _ h) hb).trans h
  exact ⟨tr h.1, tr h.2.1, tr h.2.2⟩
theorem F3.kx {X : Nat → Prop} {A B : World} {b : Nat} (h : F3 A b) (hk : Kx X A B) (hlt : b < A.heap.size) (hb : ¬ X b) : F3 B b := ⟨(frozen_kx hk hlt hb).trans h.1, (frozen_kx hk hlt hb).trans h.2.1, (frozen_kx hk hlt hb).trans h.2.2⟩
theorem put3 {W : World} {b : Nat} {x0 y0 : Int} {v0 : Value} (h : B3 W b x0 y0 v0) (x y : Int) (v : Value) :
    B3 (((W.setCell ⟨b, 0, none⟩ (.int .i64 x)).setCell ⟨b, 1, none⟩ (.int .i64 y)).setCell ⟨b, 2, none⟩ v) b x y v ∧ Kx (fun j => j = b) W (((W.setCell ⟨b, 0, none⟩ (.int .i64 x)).setCell ⟨b, 1, none⟩ (.int .i64 y)).setCell ⟨b, 2, none⟩ v) := by
  obtain ⟨h0, h1, h2⟩ := h
  have S : ∀ (A : World) (o : Nat) (v v' : Value), A.cell? ⟨b, o, none⟩ = some v → (A.setCell ⟨b, o, none⟩ v').cell? ⟨b, o, none⟩ = some v' := fun A o v v' h => World.cell?_setCell_same' _ _ _ (by rw [h]; rfl)
  have O : ∀ (A : World) (o o' : Nat) (v v' : Value), o ≠ o' → A.cell? ⟨b, o, none⟩ = some v → (A.setCell ⟨b, o', none⟩ v').cell? ⟨b, o, none⟩ = some v := fun A o o' v v' hne h => (World.cell?_setCell_other _ _ _ _ (by simp [hne])).trans h
  refine ⟨⟨?_, ?_, ?_⟩, ?_⟩
  · exact O _ _ _ _ _ (by decide) (O _ _ _ _ _ (by decide) (S _ _ _ _ h0))
  · exact O _ _ _ _ _ (by decide) (S _ _ _ _ (O _ _ _ _ _ (by decide) h1))
  · exact S _ _ _ _ (O _ _ _ _ _ (by decide) (O _ _ _ _ _ (by decide) h2))
  · have K : ∀ (A : World) (o : Nat) (v : Value), Kx (fun j => j = b) A (A.setCell ⟨b, o, none⟩ v) := fun A o v => Kx.setCell (p := ⟨b, o, none⟩) _ rfl
    exact ((K _ _ _).trans (K _ _ _)).trans (K _ _ _)
theorem results_fig {fn : Func} {p : Tmp} (h : fn.results = #[.cell p 45]) (tmps : Array Value) (w : World) (b : Nat) (x y : Int) (v : Value) (hp : tmps.getD p undef = .pointer (some ⟨b, 0, none⟩)) (hc : B3 w b x y v) :
    (results fn tmps).run Try.prog w = .ok (.agg #[.int .i64 x, .int .i64 y, v]) w := by
  obtain ⟨h0, h1, h2⟩ := hc
  have hp' : tmps[p]?.getD undef = .pointer (some ⟨b, 0, none⟩) := by simpa using hp
  simp only [Go.results, h]
  simp [hp', asAddr, go_sem, h0, h1, h2]
theorem valid_nil : validZ 62 62 [] = 0 := by decide

set_option maxRecDepth 100000 in
set_option maxHeartbeats 16000000 in
theorem figure_any (vl : Value) (l : List Int) (w : World) (hl : Ints w vl l) :
    Calls Try.prog 27 #[vl] w fun e w' => ∃ a c R L, e = .returned (.agg #[.int .i64 62, .int .i64 62, .slice a (List.length L) c]) ∧ ShsB w.heap.size w' a L.length c R L ∧ GenL L ∧ L.length ≤ 5 ∧ validZ 62 62 L = 0 ∧ Aft w w' := by
  have hIl := hl
  obtain ⟨a0, c0, rfl, hl⟩ := hl
  go_enter Try.func27, Try.ntmps27
  go_upto_region 2 with fail
  obtain ⟨W0, eW0, hw0, hlt, hbox⟩ := two_boxes w #[.int .i64 0, .int .i64 0, .slice none 0 0] #[.int .i64 62, .int .i64 62, .slice none 0 0] 45 45
  have hfz : F3 W0 w.heap.size ∧ F3 W0 (w.heap.size + 1) := by
    rw [← eW0]
    have f1 : ∀ o, ((w.alloc (.cells #[.int .i64 0, .int .i64 0, .slice none 0 0] 45)).alloc (.cells #[.int .i64 62, .int .i64 62, .slice none 0 0] 45)).frozen? ⟨w.heap.size, o, none⟩ = false := fun o => by
      rw [((Aft.refl _).alloc _).frozen (by simp)]
      exact frozen_new _ _ _ _
    have f2 : ∀ o, ((w.alloc (.cells #[.int .i64 0, .int .i64 0, .slice none 0 0] 45)).alloc (.cells #[.int .i64 62, .int .i64 62, .slice none 0 0] 45)).frozen? ⟨w.heap.size + 1, o, none⟩ = false := fun o => by
      simp
    exact ⟨⟨f1 0, f1 1, f1 2⟩, f2 0, f2 1, f2 2⟩
  rw [eW0]
  clear eW0
  have hI0 := hIl.aft hw0
  have b2 : B3 W0 w.heap.size 0 0 (.slice none 0 0) := ⟨(hbox.out W0 (Aft.refl _)).1 0 _ rfl, (hbox.out W0 (Aft.refl _)).1 1 _ rfl, (hbox.out W0 (Aft.refl _)).1 2 _ rfl⟩
  have b3 : B3 W0 (w.heap.size + 1) 62 62 (.slice none 0 0) := ⟨(hbox.out W0 (Aft.refl _)).2 0 _ rfl, (hbox.out W0 (Aft.refl _)).2 1 _ rfl, (hbox.out W0 (Aft.refl _)).2 2 _ rfl⟩
  obtain ⟨fz2, fz3⟩ := hfz
  clear hbox
  obtain ⟨n2, hn2⟩ : ∃ n, w.heap.size = n := ⟨_, rfl⟩
  have hge2 : w.heap.size ≤ n2 := by omega
  rw [hn2] at b2 b3 fz2 fz3 hlt ⊢
  obtain ⟨n3, hn3⟩ : ∃ n, n2 + 1 = n := ⟨_, rfl⟩
  rw [hn3] at b3 fz3 hlt ⊢
  have h23 : n2 < n3 := by omega
  clear hn2 hn3
  obtain ⟨N, hN⟩ : ∃ N, atI l 0 5 = N := ⟨_, rfl⟩
  have bN : 0 ≤ N ∧ N < 5 := hN ▸ atI_lt l _ 5 (by omega)
  obtain ⟨m, rfl⟩ : ∃ m : Nat, N = m := ⟨N.toNat, by omega⟩
  have hB0 := hid (ShsB.nil (n3 + 1) W0)
  have hV0 := hid valid_nil
  go_wp2_with (go_at_call 63; refine (at_any _ l _ _ _ hI0).mono ?_; rintro e w' ⟨rfl, rfl⟩; rw [hN])
  go_loopw [5] (fun i wr => ∃ r : Nat, r ≤ 1 + m ∧ i = .int .i64 r ∧ ∃ a c R L, B3 wr n3 62 62 (.slice a (List.length L) c) ∧ F3 wr n3 ∧ B3 wr n2 0 0 (.slice none 0 0) ∧ F3 wr n2 ∧ Hid (ShsB (n3 + 1) wr a L.length c R L) ∧ Hid (GenL L) ∧ L.length ≤ r ∧ Hid (validZ 62 62 L = 0) ∧ Aft w wr ∧ n3 < wr.heap.size) (fun i _ => 1 + m - (intOf i).toNat)
  case atStart => exact ⟨0, by omega, rfl, none, 0, [], [], b3, fz3, b2, fz2, hB0, hid (by intro s hs; cases hs), Nat.le_refl _, hV0, hw0, by omega⟩
  case round =>
    clear b2 b3 fz2 fz3 hB0 hV0
    obtain ⟨r, hr, rfl, a, c, R, L, b3, fz3, b2, fz2, HB, HG, hLr, HV, hwr, hsz⟩ := hrel
    rcases Nat.lt_or_ge r (1 + m) with hltr | hger
    · have hri : (r : Int) < 1 + m := by omega
      have b3k := hid b3
      obtain ⟨x0, x1, x2⟩ := b3
      have hIr := hIl.aft hwr
      go_wp2_with fail
      refine (shape_any _ l (1 + 11 * (r : Int)) wr hIr (by omega)).mono ?_
      rintro e w1 ⟨k, g, gn, gc, ps, rfl, hg, hps, hgen, hw1⟩
      have hk1 : Kx (fun _ => False) wr w1 := aft_kx hw1
      have tr : ∀ {b o : Nat} {v : Value}, wr.cell? ⟨b, o, none⟩ = some v → w1.cell? ⟨b, o, none⟩ = some v := fun h => (hw1.cell (World.block_lt_of_cell? _ _ h)).trans h
      replace x0 := tr x0
      replace x1 := tr x1
      replace x2 := tr x2
      clear tr
      have hs1 : n3 < w1.heap.size := by have := hw1.size; omega
      go_upto_region 7 with fail
      obtain ⟨W2, eW2, hw2, hlt2, hbox2⟩ := one_box w1 #[.int .i64 k, .slice (some ⟨g, 0, none⟩) gn gc] 51
      rw [eW2]
      clear eW2
      have tr : ∀ {b o : Nat} {v : Value}, w1.cell? ⟨b, o, none⟩ = some v → W2.cell? ⟨b, o, none⟩ = some v := fun h => (hw2.cell (World.block_lt_of_cell? _ _ h)).trans h
      replace x0 := tr x0
      replace x1 := tr x1
      replace x2 := tr x2
      clear tr
      have c6 := hbox2.out W2 (Aft.refl _) 0 (.int .i64 k) rfl
      have d6 := hbox2.out W2 (Aft.refl _) 1 (.slice (some ⟨g, 0, none⟩) gn gc) rfl
      clear hbox2
      obtain ⟨n6, hn6⟩ : ∃ n, w1.heap.size = n := ⟨_, rfl⟩
      rw [hn6] at c6 d6 hlt2 hs1 ⊢
      go_upto_region 8 with fail
      obtain ⟨W3, eW3, hw3, hlt3, hbox3⟩ := one_box W2 #[.int .i64 62, .int .i64 62, .slice a L.length c] 45
      have hz3 : W3.heap.size = W2.heap.size + 1 := by rw [← eW3]; simp
      have fz7 : F3 W3 W2.heap.size := eW3 ▸ ⟨frozen_new W2 _ _ 0, frozen_new W2 _ _ 1, frozen_new W2 _ _ 2⟩
      rw [eW3]
      clear eW3
      have b7 : B3 W3 W2.heap.size 62 62 (.slice a L.length c) := ⟨hbox3.out W3 (Aft.refl _) 0 _ rfl, hbox3.out W3 (Aft.refl _) 1 _ rfl, hbox3.out W3 (Aft.refl _) 2 _ rfl⟩
      clear hbox3
      have tr : ∀ {b o : Nat} {v : Value}, W2.cell? ⟨b, o, none⟩ = some v → W3.cell? ⟨b, o, none⟩ = some v := fun h => (hw3.cell (World.block_lt_of_cell? _ _ h)).trans h
      replace x0 := tr x0
      replace x1 := tr x1
      have c3 := tr x2
      clear x2
      replace c6 := tr c6
      replace d6 := tr d6
      clear tr
      obtain ⟨n7, hn7⟩ : ∃ n, W2.heap.size = n := ⟨_, rfl⟩
      rw [hn7] at b7 fz7 hlt3 hz3 ⊢
      have hw13 := (hw1.trans hw2).trans hw3
      have hk13 : Kx (fun _ => False) wr W3 := aft_kx hw13
      have hB3 := ShsB.aft HB.out hw13
      have hps3 := hps.aft (hw2.trans hw3)
      have h37 : n3 < n7 := by omega
      have h67 : n6 < n7 := by omega
      obtain ⟨hSA, -, hRs⟩ := hB3
      have hlR := hSA.lenR
      have hrd := hSA.rd
      have hnil := hSA.nil
      have hszL := hSA.size
      have hB2 := hid (ShsB.aft HB.out (hw1.trans hw2))
      clear hSA
      have b3' := hid (B3.kx b3k.out hk13 (fun h => h))
      have fz3' := hid (F3.kx fz3 hk13 (by omega) (fun h => h))
      have b2' := hid (B3.kx b2 hk13 (fun h => h))
      have fz2' := hid (F3.kx fz2 hk13 (by omega) (fun h => h))
      clear b2 fz2 fz3
      refine wp_region_flow _ (Aft.refl _) [fvEmpty 51 2 n7, FV.is (.pointer (some ⟨n3, 2, none⟩)), FV.is (.slice a L.length c), fvRow (n7 + 1) 51 2 L.length (shCells R), FV.is (.agg #[.int .i64 k, .slice (some ⟨g, 0, none⟩) gn gc]), fvOne [.int .i64 k, .slice (some ⟨g, 0, none⟩) gn gc]]
        [(0, 23), (1, 24), (2, 25), (3, 26), (4, 27), (5, 28)]
        [[], [], [(1, 24)], [(0, 23), (2, 25)], [], [(4, 27)]] (by kernel_rfl) (by kernel_rfl) ?_ ?_
      · refine flowObs_cons (fun W hW => flowOb_nil ?_) ?_
        · go_wp2
          exact ⟨⟨_, rfl, by have := hW.size; show n7 < W.heap.size; omega, heap_alloc_new W _⟩, (Aft.refl W).alloc _⟩
        refine flowObs_cons (fun W hW => flowOb_nil ?_) ?_
        · go_wp2
          exact ⟨rfl, Aft.refl W⟩
        refine flowObs_cons (fun W hW => flowOb_cons fun v0 h0 => flowOb_nil ?_) ?_
        · obtain rfl := h0
          have c3W := (hW.cell (World.block_lt_of_cell? _ _ c3)).trans c3
          have x0W := (hW.cell (World.block_lt_of_cell? _ _ x0)).trans x0
          have x1W := (hW.cell (World.block_lt_of_cell? _ _ x1)).trans x1
          have c6W := (hW.cell (World.block_lt_of_cell? _ _ c6)).trans c6
          have d6W := (hW.cell (World.block_lt_of_cell? _ _ d6)).trans d6
          go_wp2
          exact ⟨rfl, Aft.refl W⟩
        refine flowObs_cons (fun W hW => flowOb_cons fun v0 h0 => flowOb_cons fun v1 h1 => flowOb_nil ?_) ?_
        · obtain rfl := h1
          obtain ⟨g0, rfl, hg0, hh0⟩ := h0
          have hzW := hW.size
          refine wpList_app_empty _ rfl (.tmp 23) (.tmp 25) 43 rfl (n7 + 1) 51 (.agg #[.int .i64 0, .slice none 0 0]) 2 32 Try.underlying43 Try.info51 rfl (by decide) g0 rfl ⟨rfl, .inr ⟨g0, 0, #[], rfl, by omega, hh0, Nat.le_refl _, by decide, rfl, rfl⟩⟩ a L.length c (shCells R) rfl hnil (by rw [shCells_length, hlR]) (hrd.aft hW) (shCells_one hRs) (by unfold maxLen; omega) (by omega) (by omega) ?_
          intro v1 w1 ho1 ha1 _
          go_wp2
          first | exact ⟨ho1, ha1⟩ | exact ho1
        refine flowObs_cons (fun W hW => flowOb_nil ?_) ?_
        · have c3W := (hW.cell (World.block_lt_of_cell? _ _ c3)).trans c3
          have x0W := (hW.cell (World.block_lt_of_cell? _ _ x0)).trans x0
          have x1W := (hW.cell (World.block_lt_of_cell? _ _ x1)).trans x1
          have c6W := (hW.cell (World.block_lt_of_cell? _ _ c6)).trans c6
          have d6W := (hW.cell (World.block_lt_of_cell? _ _ d6)).trans d6
          go_wp2
          exact ⟨rfl, Aft.refl W⟩
        refine flowObs_cons (fun W hW => flowOb_cons fun v0 h0 => flowOb_nil ?_) flowObs_nil
        · obtain rfl := h0
          go_wp2
          exact ⟨⟨_, rfl, Rd.new⟩, (Aft.refl W).alloc _⟩
      · intro W hW
        refine flowEnd_cons fun _ _ => ?_
        refine flowEnd_cons fun _ _ => ?_
        refine flowEnd_cons fun _ _ => ?_
        refine flowEnd_cons fun v3 h3 => ?_
        refine flowEnd_cons fun _ _ => ?_
        refine flowEnd_cons fun v5 h5 => flowEnd_nil ?_
        obtain ⟨g5, rfl, hrd5⟩ := h5
        have hzW := hW.size
        simp only [Act.put, List.setIfInBounds_toArray, List.set_cons_succ, List.set_cons_zero]
        refine wpList_app _ rfl (.tmp 26) (.tmp 28) 43 rfl (n7 + 1) 51 (.agg #[.int .i64 0, .slice none 0 0]) 2 32 Try.underlying43 Try.info51 rfl (by decide) _ L.length _ rfl h3 (some ⟨g5, 0, none⟩) 1 1 [.int .i64 k, .slice (some ⟨g, 0, none⟩) gn gc] rfl (fun h => by cases h) rfl hrd5 (by intro u hu; simp at hu; rcases hu with rfl | rfl <;> rfl) (by unfold maxLen; omega) (by omega) (by omega) ?_
        intro v' w' hown' hgrow hloc
        rw [show shCells R ++ [.int .i64 k, .slice (some ⟨g, 0, none⟩) gn gc] = shCells (R ++ [(k, .slice (some ⟨g, 0, none⟩) gn gc)]) by rw [shCells_append]; rfl] at hown'
        obtain ⟨g', cap', rfl⟩ := ownsRow_some' hown' (by omega)
        have hg' := (hown'.lt g' rfl).1
        -- what stays of W3 in w': all but the row's block
        have hk' : Kx (fun j => n7 < j) W3 w' := Kx.trans (aft_kx hW) ⟨hgrow.os, hgrow.tape, hgrow.output, hgrow.size, fun j hj hx => hgrow.block j hj (fun e => by have := (h3.lt j e.symm).1; omega)⟩
        have hA2 : Aft W2 w' := (hw3.trans hW).grown hgrow (fun j hj => by have := (h3.lt j hj).1; omega)
        have hV : Aft W2 (w'.setCell ⟨n7, 2, none⟩ (.slice (some ⟨g', 0, none⟩) (L.length + 1) cap')) := hA2.setCell (p := ⟨n7, 2, none⟩) (by show W2.heap.size ≤ n7; omega) _
        have hoV : (w'.setCell ⟨n7, 2, none⟩ (.slice (some ⟨g', 0, none⟩) (L.length + 1) cap')).ownsRow (n7 + 1) 51 2 (.slice (some ⟨g', 0, none⟩) (L.length + 1) cap') (L.length + 1) (shCells (R ++ [(k, .slice (some ⟨g, 0, none⟩) gn gc)])) :=
          Sep.kept (v' := .slice (some ⟨n7, 2, none⟩) 0 0) (sep_ne'' (by omega)) hown' (grown_setCell w' ⟨n7, 2, none⟩ _)
        have hVA := hid hV
        have hBV := ShsB.snoc (k := k) hB2.out hV ((hps.aft hw2).aft hV) (by omega) (show n3 + 1 ≤ n7 + 1 by omega) hoV (by omega)
        have HBV := hid hBV
        have HSV := hid (ShsB.shs hBV)
        have hGV : GenL (L ++ [(k, ps)]) := fun s hs => by
          rcases List.mem_append.1 hs with h | h
          · exact HG.out s h
          · simp at h; subst h; exact hgen
        have HGV := hid hGV
        have hkV : Kx (fun j => n7 < j ∨ j = n7) W3 (w'.setCell ⟨n7, 2, none⟩ (.slice (some ⟨g', 0, none⟩) (L.length + 1) cap')) := (hk'.sub fun j h => .inl h).trans (Kx.setCell (p := ⟨n7, 2, none⟩) _ (.inr rfl))
        have HWV := hid ((hwr.trans (hw1.trans hw2)).trans hV)
        obtain ⟨y0, y1, y2⟩ := B3.kx b7 hk' (show ¬ n7 < n7 by omega)
        obtain ⟨z0, z1, z2⟩ := F3.kx fz7 hk' (by omega) (show ¬ n7 < n7 by omega)
        have b3V := hid (B3.kx b3'.out hkV (show ¬ (n7 < n3 ∨ n3 = n7) by omega))
        have fz3V := hid (F3.kx fz3'.out hkV (by omega) (show ¬ (n7 < n3 ∨ n3 = n7) by omega))
        have b2V := hid (B3.kx b2'.out hkV (show ¬ (n7 < n2 ∨ n2 = n7) by omega))
        have fz2V := hid (F3.kx fz2'.out hkV (by omega) (show ¬ (n7 < n2 ∨ n2 = n7) by omega))
        have hszV : n3 < (w'.setCell ⟨n7, 2, none⟩ (.slice (some ⟨g', 0, none⟩) (L.length + 1) cap')).heap.size := World.block_lt_of_cell? _ _ b3V.out.1
        have c7V : B3 (w'.setCell ⟨n7, 2, none⟩ (.slice (some ⟨g', 0, none⟩) (L.length + 1) cap')) n7 62 62 (.slice (some ⟨g', 0, none⟩) (L.length + 1) cap') :=
          ⟨(World.cell?_setCell_other _ _ _ _ (by simp)).trans y0, (World.cell?_setCell_other _ _ _ _ (by simp)).trans y1, World.cell?_setCell_same' _ _ _ (by rw [y2]; rfl)⟩
        have hL1 : (L ++ [(k, ps)]).length = L.length + 1 := by simp
        clear hBV hGV hkV hoV hV hA2 hk' hown' h3 x0 x1 c3 c6 d6 hrd hRs
        go_upto_region 9 with fail
        generalize hVE : w'.setCell ⟨n7, 2, none⟩ (.slice (some ⟨g', 0, none⟩) (L.length + 1) cap') = V at *
        clear y0 y1 y2 z0 z1 z2
        obtain ⟨y0, y1, y2⟩ := c7V
        go_wp2_with fail
        refine (rvalid_any 62 62 _ (L ++ [(k, ps)]) V HSV.out (genL_sc HGV.out)).mono ?_
        rintro e w5 ⟨rfl, hw5⟩
        have hk5 : Kx (fun _ => False) V w5 := aft_kx hw5
        have b3X := B3.kx b3V.out hk5 (fun h => h)
        have fz3X := F3.kx fz3V.out hk5 (by omega) (fun h => h)
        have b2X := B3.kx b2V.out hk5 (fun h => h)
        have hl2 : n2 < w5.heap.size := World.block_lt_of_cell? _ _ b2X.1
        have hl3 : n3 < w5.heap.size := World.block_lt_of_cell? _ _ b3X.1
        have fz2X := F3.kx fz2V.out hk5 (by omega) (fun h => h)
        have tr : ∀ {b o : Nat} {v : Value}, V.cell? ⟨b, o, none⟩ = some v → w5.cell? ⟨b, o, none⟩ = some v := fun h => (hw5.cell (World.block_lt_of_cell? _ _ h)).trans h
        replace y0 := tr y0
        replace y1 := tr y1
        replace y2 := tr y2
        clear tr
        have HWX := hid (HWV.out.trans hw5)
        obtain ⟨o, ho⟩ : ∃ o, validZ 62 62 (L ++ [(k, ps)]) = o := ⟨_, rfl⟩
        rw [ho]
        have HO := hid ho
        clear ho
        by_cases ho : o = 0
        · subst ho
          have hput := put3 b3X 62 62 (.slice (some ⟨g', 0, none⟩) (L.length + 1) cap')
          have HP := hid hput
          have HB5 := hid (ShsB.kx (ShsB.aft HBV.out hw5) hput.2 (fun j h => by subst h; omega))
          have HC := hid (B3.kx b2X hput.2 (show ¬ n2 = n3 by omega))
          have HF2 := hid (F3.kx fz2X hput.2 hl2 (show ¬ n2 = n3 by omega))
          have HF3 : Hid (F3 (((w5.setCell ⟨n3, 0, none⟩ (.int .i64 62)).setCell ⟨n3, 1, none⟩ (.int .i64 62)).setCell ⟨n3, 2, none⟩ (.slice (some ⟨g', 0, none⟩) (L.length + 1) cap')) n3) := hid ⟨by simp only [World.frozen?_setCell]; exact fz3X.1, by simp only [World.frozen?_setCell]; exact fz3X.2.1, by simp only [World.frozen?_setCell]; exact fz3X.2.2⟩
          have HW := hid (((HWX.out.setCell (p := ⟨n3, 0, none⟩) (by show w.heap.size ≤ n3; omega) (.int .i64 62)).setCell (p := ⟨n3, 1, none⟩) (by show w.heap.size ≤ n3; omega) (.int .i64 62)).setCell (p := ⟨n3, 2, none⟩) (by show w.heap.size ≤ n3; omega) (.slice (some ⟨g', 0, none⟩) (L.length + 1) cap'))
          have HS := hid (show n3 < (((w5.setCell ⟨n3, 0, none⟩ (.int .i64 62)).setCell ⟨n3, 1, none⟩ (.int .i64 62)).setCell ⟨n3, 2, none⟩ (.slice (some ⟨g', 0, none⟩) (L.length + 1) cap')).heap.size from World.block_lt_of_cell? _ _ hput.1.1)
          clear hput b2X fz2X
          obtain ⟨q0, q1, q2⟩ := b3X
          obtain ⟨r0, r1, r2⟩ := fz3X
          go_wp2
          go_roundw
          case rel => exact ⟨r + 1, by omega, by go_num, _, _, _, L ++ [(k, ps)], by rw [hL1]; exact HP.out.1, HF3.out, HC.out, HF2.out, by rw [hL1]; exact HB5, HGV, by omega, HO, HW.out, HS.out⟩
          case measure => simp only [intOf]; omega
        · have ho' : (o == 0) = false := by rw [beq_eq_false_iff_ne]; exact ho
          have HB5 := hid (ShsB.aft HB.out (Aft.trans (Aft.trans (hw1.trans hw2) hVA.out) hw5))
          go_wp2
          go_roundw
          case rel => exact ⟨r + 1, by omega, by go_num, _, _, _, L, b3X, fz3X, b2X, fz2X, HB5, HG, by omega, HV, HWX.out, hl3⟩
          case measure => simp only [intOf]; omega
    · obtain rfl : r = 1 + m := by omega
      have hput := put3 b2 62 62 (.slice a L.length c)
      have HP := hid hput
      have HS := hid (ShsB.mono (show w.heap.size ≤ n3 + 1 by omega) (ShsB.kx HB.out hput.2 (fun j h => by subst h; omega)))
      have HW := hid (((hwr.setCell (p := ⟨n2, 0, none⟩) (by show w.heap.size ≤ n2; omega) (.int .i64 62)).setCell (p := ⟨n2, 1, none⟩) (by show w.heap.size ≤ n2; omega) (.int .i64 62)).setCell (p := ⟨n2, 2, none⟩) (by show w.heap.size ≤ n2; omega) (.slice a L.length c))
      clear hput
      obtain ⟨x0, x1, x2⟩ := b3
      obtain ⟨q0, q1, q2⟩ := b2
      obtain ⟨r0, r1, r2⟩ := fz2
      go_wp2
      refine bodyPost_ret (results_fig rfl _ _ n2 62 62 _ rfl HP.out.1) rfl ?_
      first | exact ⟨a, c, R, L, rfl, HS.out, HG.out, by omega, HV.out, HW.out⟩ | exact ⟨a, c, L, rfl, R, HS.out, HG.out, by omega, HV.out, HW.out⟩ | exact ⟨a, c, R, L, ⟨rfl, rfl, rfl⟩, HS.out, HG.out, by omega, HV.out, HW.out⟩
end Go.Proofs.Ytokdclbfjlnnjaa
