/- What the walk of Bent needs: an append that leaves what was there, and the end of the walk. -/
import Derived.Test.YtokdclbfjlnnjaaR16
import Derived.Test.YtokdclbfjlnnjaaFlowR
namespace Go.Proofs.Ytokdclbfjlnnjaa
open Go.RowKit Go.BigFrame

/-- append to a row of the call's own: it stays in its block, or nothing that was there turns. -/
theorem wpList_app_keep {P : Program} (w : World) {ops : Array Oper} {rest : List Oper} {o : Oper} {a : Act} {Q : Exit → Act → World → Prop} (hgd : o.guard = none) (s x : Operand) (t : TypeId)
    (ho : o.op = .call { callee := .builtin .append, args := #[s, x], argTypes := #[t, t] })
    (base : Nat) (e : TypeId) (z : Value) (size bytes : Nat) (ht : P.underlying t = some (.slice e)) (hinfo : (P.info? e).map (fun i => (i.zero, i.size, i.bytes)) = some (some z, size, bytes))
    (hzs : z.cells.size = size) (hsz : 0 < size)
    (g n cap : Nat) (xs : List Value) (hs : a.eval s = .slice (some ⟨g, 0, none⟩) n cap) (hown : w.ownsRow base e size (.slice (some ⟨g, 0, none⟩) n cap) n xs)
    (ad : Addr) (m c : Nat) (news : List Value) (hx : a.eval x = .slice (some ad) m c) (hl : news.length = m * size) (hnews : Rd w (some ad) news) (h1 : ∀ u ∈ news, u.oneCell' = true)
    (h63 : n + m ≤ maxLen) (hbytes : (n + m) * bytes ≤ 140737488355328) (hbase : base ≤ w.heap.size)
    (h : ∀ v' w', w'.ownsRow base e size v' (n + m) (xs ++ news) → w.grownBy w' (some g) → (v' = .slice (some ⟨g, 0, none⟩) (n + m) cap ∨ w.grownBy w' none ∧ ∀ k, v'.ownBlock = some k → w.heap.size ≤ k) → wpList P ops Q rest (a.put o.dst v') w') : wpList P ops Q (o :: rest) a w := by
  obtain ⟨i, hi, hz, h2, h3⟩ := info_parts hinfo
  have hnews' : ∀ j u, news[j]? = some u → w.cell? (ad.add j) = some u := fun j u hj => by
    obtain ⟨ad', e', hc'⟩ := hnews j u hj
    cases e'
    exact hc'
  obtain ⟨v', w', hr, q2, q3, _⟩ := run_append_own (P := P) w base t o.type e i z size bytes ht hi hz h2 h3 hzs hsz _ n xs hown ad m c news hl hnews' h1 h63 hbytes hbase
  have key : v' = .slice (some ⟨g, 0, none⟩) (n + m) cap ∨ w.grownBy w' none ∧ ∀ k, v'.ownBlock = some k → w.heap.size ≤ k := by
    rcases hown.2 with ⟨e, _⟩ | ⟨g', cap', cur, e, hbg, hg, hnc, hcm, hcs, htake⟩
    · cases e
    cases e
    by_cases hroom : n + m ≤ cap
    · subst h2
      have hfit : n * i.size + news.length ≤ cur.size := by rw [hl, hcs, ← Nat.add_mul]; exact Nat.mul_le_mul_right _ hroom
      have hr2 := run_append_room (P := P) w t o.type e i ht hi g n cap cur hg ad m c news hl hnews' h1 hroom hfit
      rw [hr] at hr2
      simp only [Result.ok.injEq] at hr2
      exact .inl hr2.1
    · obtain ⟨v'', w'', hrun, r1, r2⟩ := run_append_arg_grows (P := P) w t o.type e i z size bytes ht hi hz h2 h3 hzs hsz ⟨g, 0, none⟩ n cap xs hown.1 (hown.cells rfl) ad m c news hl hnews' (by omega) h63 hbytes
      rw [hr] at hrun
      simp only [Result.ok.injEq] at hrun
      obtain ⟨rfl, rfl⟩ := hrun
      exact .inr ⟨r2, fun k hk => (r1.lt k hk).1⟩
  refine wpList_plain hgd fun K hK => ?_
  unfold Oper.wp execOp
  simp only [ho, resolve, invoke, builtin, Sem.run_bind, Sem.run_pure, Result.andThen_ok, List.map_toArray, List.map_cons, List.map_nil, hs, hx, hr]
  exact hK _ _ (h v' w' q2 q3 key)

/-- The result stored: what is returned. -/
theorem bent_end {w V : World} {n8 B : Nat} {a : Option Addr} {n c : Nat} {R : List (Int × Value)} (hb8 : B3 V n8 0 0 (.slice none 0 0)) (hG : GS (n8 + 1) B V a n c R) (hA : Aft w V) (hn8 : w.heap.size ≤ n8) (hB : B ≤ 1000) (hn : n ≤ 1000) (W' H' : Int) :
    Hid (B3 (((V.setCell ⟨n8, 0, none⟩ (.int .i64 W')).setCell ⟨n8, 1, none⟩ (.int .i64 H')).setCell ⟨n8, 2, none⟩ (.slice a n c)) n8 W' H' (.slice a n c) ∧
      ∃ L' : List Sh, L'.length = n ∧ Shs (((V.setCell ⟨n8, 0, none⟩ (.int .i64 W')).setCell ⟨n8, 1, none⟩ (.int .i64 H')).setCell ⟨n8, 2, none⟩ (.slice a n c)) (.slice a n c) L' ∧ GoodL B L' ∧
        Aft w (((V.setCell ⟨n8, 0, none⟩ (.int .i64 W')).setCell ⟨n8, 1, none⟩ (.int .i64 H')).setCell ⟨n8, 2, none⟩ (.slice a n c))) := by
  have hput := put3 hb8 W' H' (.slice a n c)
  obtain ⟨L', h1, h2, h3⟩ := (hG.kx hput.2 (fun j h => by subst h; omega)).shs hB hn
  exact hid ⟨hput.1, L', h1, h2, h3, ((hA.setCell (p := ⟨n8, 0, none⟩) hn8 _).setCell (p := ⟨n8, 1, none⟩) hn8 _).setCell (p := ⟨n8, 2, none⟩) hn8 _⟩
theorem put12 {W : World} {b : Nat} {x y : Int} {v0 : Value} (h : B3 W b x y v0) (v : Value) : B3 (W.setCell ⟨b, 2, none⟩ v) b x y v ∧ Kx (fun j => j = b) W (W.setCell ⟨b, 2, none⟩ v) :=
  ⟨⟨(World.cell?_setCell_other _ _ _ _ (by simp)).trans h.1, (World.cell?_setCell_other _ _ _ _ (by simp)).trans h.2.1, World.cell?_setCell_same' _ _ _ (by rw [h.2.2]; rfl)⟩, Kx.setCell (p := ⟨b, 2, none⟩) _ rfl⟩
theorem put11 {W : World} {b : Nat} {x y : Int} {v : Value} (h : B3 W b x y v) (y' : Int) : B3 (W.setCell ⟨b, 1, none⟩ (.int .i64 y')) b x y' v ∧ Kx (fun j => j = b) W (W.setCell ⟨b, 1, none⟩ (.int .i64 y')) :=
  ⟨⟨(World.cell?_setCell_other _ _ _ _ (by simp)).trans h.1, World.cell?_setCell_same' _ _ _ (by rw [h.2.1]; rfl), (World.cell?_setCell_other _ _ _ _ (by simp)).trans h.2.2⟩, Kx.setCell (p := ⟨b, 1, none⟩) _ rfl⟩
theorem put10 {W : World} {b : Nat} {x y : Int} {v : Value} (h : B3 W b x y v) (x' : Int) : B3 (W.setCell ⟨b, 0, none⟩ (.int .i64 x')) b x' y v ∧ Kx (fun j => j = b) W (W.setCell ⟨b, 0, none⟩ (.int .i64 x')) :=
  ⟨⟨World.cell?_setCell_same' _ _ _ (by rw [h.1]; rfl), (World.cell?_setCell_other _ _ _ _ (by simp)).trans h.2.1, (World.cell?_setCell_other _ _ _ _ (by simp)).trans h.2.2⟩, Kx.setCell (p := ⟨b, 0, none⟩) _ rfl⟩
theorem grown_kx {A B : World} {row : Option Nat} (hg : A.grownBy B row) (n : Nat) (hr : ∀ k, row = some k → n < k) : Kx (fun j => n < j) A B :=
  ⟨hg.os, hg.tape, hg.output, hg.size, fun j hj hx => hg.block j hj (fun e => hx (hr j e.symm))⟩
/-- The box of a figure, and that of the result. -/
structure Boxes (V : World) (n4 n8 : Nat) (W H : Int) (v : Value) : Prop where
  lt : n4 < n8
  b4 : B3 V n4 W H v
  f4 : F3 V n4
  b8 : B3 V n8 0 0 (.slice none 0 0)
  f8 : F3 V n8
theorem Boxes.hi {V : World} {n4 n8 : Nat} {W H : Int} {v : Value} (h : Boxes V n4 n8 W H v) : n8 < V.heap.size := World.block_lt_of_cell? _ _ h.b8.1
theorem Boxes.kx {X : Nat → Prop} {A B : World} {n4 n8 : Nat} {W H : Int} {v : Value} (h : Boxes A n4 n8 W H v) (hk : Kx X A B) (hX : ∀ j, X j → n8 < j) : Boxes B n4 n8 W H v := by
  have := h.hi
  have := h.lt
  have x4 : ¬ X n4 := fun h => by have := hX _ h; omega
  have x8 : ¬ X n8 := fun h => by have := hX _ h; omega
  exact ⟨h.lt, h.b4.kx hk x4, h.f4.kx hk (by omega) x4, h.b8.kx hk x8, h.f8.kx hk (by omega) x8⟩
theorem Boxes.aft {A B : World} {n4 n8 : Nat} {W H : Int} {v : Value} (h : Boxes A n4 n8 W H v) (hw : Aft A B) : Boxes B n4 n8 W H v := h.kx (X := fun _ => False) (aft_kx hw) (fun _ h => h.elim)
theorem F3.set {V : World} {b : Nat} {u : Value} {c : Addr} (h : F3 V b) : F3 (V.setCell c u) b := by
  obtain ⟨h1, h2, h3⟩ := h
  exact ⟨by rw [World.frozen?_setCell]; exact h1, by rw [World.frozen?_setCell]; exact h2, by rw [World.frozen?_setCell]; exact h3⟩
theorem Boxes.put2 {V : World} {n4 n8 : Nat} {W H : Int} {v : Value} (h : Boxes V n4 n8 W H v) (u : Value) : Boxes (V.setCell ⟨n4, 2, none⟩ u) n4 n8 W H u ∧ Kx (fun j => j = n4) V (V.setCell ⟨n4, 2, none⟩ u) := by
  have p := put12 h.b4 u
  have := h.lt
  exact ⟨⟨h.lt, p.1, F3.set h.f4, h.b8.kx p.2 (by omega), F3.set h.f8⟩, p.2⟩
theorem Boxes.put1 {V : World} {n4 n8 : Nat} {W H : Int} {v : Value} (h : Boxes V n4 n8 W H v) (y : Int) : Boxes (V.setCell ⟨n4, 1, none⟩ (.int .i64 y)) n4 n8 W y v ∧ Kx (fun j => j = n4) V (V.setCell ⟨n4, 1, none⟩ (.int .i64 y)) := by
  have p := put11 h.b4 y
  have := h.lt
  exact ⟨⟨h.lt, p.1, F3.set h.f4, h.b8.kx p.2 (by omega), F3.set h.f8⟩, p.2⟩
theorem Boxes.put0 {V : World} {n4 n8 : Nat} {W H : Int} {v : Value} (h : Boxes V n4 n8 W H v) (x : Int) : Boxes (V.setCell ⟨n4, 0, none⟩ (.int .i64 x)) n4 n8 x H v ∧ Kx (fun j => j = n4) V (V.setCell ⟨n4, 0, none⟩ (.int .i64 x)) := by
  have p := put10 h.b4 x
  have := h.lt
  exact ⟨⟨h.lt, p.1, F3.set h.f4, h.b8.kx p.2 (by omega), F3.set h.f8⟩, p.2⟩
theorem tdiv_small {x : Int} (h1 : -9223372036854775808 ≤ x) (h2 : x ≤ 9223372036854775807) (k : Int) (hk : 1 ≤ k) : -9223372036854775808 ≤ x.tdiv k ∧ x.tdiv k ≤ 9223372036854775807 := by
  rcases Int.le_total 0 x with h | h
  · rw [Int.tdiv_eq_ediv_of_nonneg h]
    have := Int.ediv_nonneg h (by omega : 0 ≤ k)
    have := Int.ediv_le_self k h
    omega
  · obtain ⟨y, rfl⟩ : ∃ y, x = -y := ⟨-x, by omega⟩
    have hy : 0 ≤ y := by omega
    rw [Int.neg_tdiv, Int.tdiv_eq_ediv_of_nonneg hy]
    have := Int.ediv_nonneg hy (by omega : 0 ≤ k)
    have := Int.ediv_le_self k hy
    omega
theorem PRow.addr {b B m c : Nat} {w : World} {a : Option Addr} (h : PRow b B w (.slice a m c)) : (a = none ∧ m = 0 ∧ c = 0) ∨ ∃ g, a = some ⟨g, 0, none⟩ ∧ b ≤ g ∧ g < w.heap.size ∧ m ≤ c ∧ c ≤ maxLen := by
  obtain ⟨l, h1, _⟩ := h
  have hlt := h1.lt
  rcases h1.2 with ⟨e, _⟩ | ⟨g, cap, cur, e, _, _, q1, q2, _⟩
  · cases e
    exact .inl ⟨rfl, rfl, rfl⟩
  · cases e
    have := hlt g rfl
    exact .inr ⟨g, rfl, this.1, this.2, q1, q2⟩
theorem PRow.at_ {b B m c g : Nat} {w : World} (h : PRow b B w (.slice (some ⟨g, 0, none⟩) m c)) {i : Nat} (hi : i < m) :
    ∃ x y, w.cell? ⟨g, i * 2, none⟩ = some (.int .i64 x) ∧ w.cell? ⟨g, i * 2 + 1, none⟩ = some (.int .i64 y) ∧ Sc x ∧ Sc y := by
  obtain ⟨l, h1, _, h3⟩ := h
  have hm : m = l.length := by
    rcases h1.2 with ⟨e, _⟩ | ⟨g', cap', cur, e, _⟩
    · cases e
    · cases e; rfl
  have hl : l[i]? = some l[i] := List.getElem?_eq_getElem (by omega)
  obtain ⟨q1, q2⟩ := prs_get hl
  have A : ∀ j u, (Go.prs l)[j]? = some u → w.cell? ⟨g, j, none⟩ = some u := fun j u hj => Rd.at0 (off := 0) (fun i v hi => ⟨_, rfl, h1.cells rfl i v hi⟩) hj |> fun e => by simpa using e
  obtain ⟨s1, s2⟩ := h3 _ (List.mem_of_getElem? hl)
  exact ⟨_, _, A _ _ q1, A _ _ q2, s1, s2⟩
theorem PRow.free {b B m c g : Nat} {w : World} (h : PRow b B w (.slice (some ⟨g, 0, none⟩) m c)) (j : Nat) : w.frozen? ⟨g, j, none⟩ = false := by
  obtain ⟨l, h1, _⟩ := h
  have hm : m = l.length := by
    rcases h1.2 with ⟨e, _⟩ | ⟨g', cap', cur, e, _⟩
    · cases e
    · cases e; rfl
  rw [← hm] at h1
  exact h1.frozenAt j
theorem GS.at_ {b B : Nat} {w : World} {g n c : Nat} {R : List (Int × Value)} (h : GS b B w (some ⟨g, 0, none⟩) n c R) {k : Nat} {x : Int} {u : Value} (hR : R[k]? = some (x, u)) :
    w.cell? ⟨g, k * 2, none⟩ = some (.int .i64 x) ∧ w.cell? ⟨g, k * 2 + 1, none⟩ = some u ∧ (∀ j, w.frozen? ⟨g, j, none⟩ = false) ∧ PRow b B w u := by
  have hk : k < n := by have := (List.getElem?_eq_some_iff.1 hR).1; have := h.len; omega
  obtain ⟨g', x', u', e, hR', _, _, c0, c1, hf, _, hp⟩ := h.row_at hk
  rw [hR] at hR'
  cases hR'
  cases e
  exact ⟨c0, c1, hf, hp⟩
theorem fig_at {k5 : Nat} (h : k5 < 5) : ∃ x, (#[.int .i64 (-1), .int .i64 1000, .int .i64 1001, .int .i64 40, .int .i64 0] : Array Value)[k5]? = some (.int .i64 x) := by
  obtain rfl | rfl | rfl | rfl | rfl : k5 = 0 ∨ k5 = 1 ∨ k5 = 2 ∨ k5 = 3 ∨ k5 = 4 := by omega
  all_goals exact ⟨_, rfl⟩
theorem around_n (n : Int) (m : Nat) (hm : 1 ≤ m) : ∃ k : Nat, aroundI n m = (k : Int) ∧ k < m := by
  have := aroundI_lt n m (by omega)
  exact ⟨(aroundI n m).toNat, by omega, by omega⟩
theorem setPoint_kx (U : World) (hp j : Nat) (u v : Value) : Kx (fun i => i = hp) U ((U.setCell ⟨hp, j * 2, none⟩ u).setCell ⟨hp, j * 2 + 1, none⟩ v) :=
  Kx.trans (X := fun i => i = hp) (Kx.setCell (p := ⟨hp, j * 2, none⟩) _ rfl) (Kx.setCell (p := ⟨hp, j * 2 + 1, none⟩) _ rfl)
/-- The row of shapes behind an append to one of the rows of points. -/
theorem GS.cellsApp {b B : Nat} {w w' : World} {g n c : Nat} {R : List (Int × Value)} (h : GS b B w (some ⟨g, 0, none⟩) n c R) {k : Nat} {r : Int × Value} (hr : R[k]? = some r) (hg : w.grownBy w' r.2.ownBlock) :
    w'.cell? ⟨g, k * 2, none⟩ = some (.int .i64 r.1) ∧ w'.cell? ⟨g, k * 2 + 1, none⟩ = some r.2 ∧ ∀ j, w'.frozen? ⟨g, j, none⟩ = false := by
  obtain ⟨l, p1, _⟩ := (h.row r (List.mem_of_getElem? hr)).2
  have ho : w'.ownsRow b 51 2 (.slice (some ⟨g, 0, none⟩) n c) n (shCells R) := Sep.kept (sep_types h.own p1) h.own hg
  obtain ⟨h1, h2⟩ := shCells_get hr
  have A : ∀ j u, (shCells R)[j]? = some u → w'.cell? ⟨g, j, none⟩ = some u := fun j u hj => Rd.at0 (off := 0) (fun i v hi => ⟨_, rfl, ho.cells rfl i v hi⟩) hj |> fun e => by simpa using e
  exact ⟨A _ _ h1, A _ _ h2, fun j => ho.frozenAt j⟩
/-- All stays but the block of a row, and the row stays, as it is and with what is appended. -/
def rowRel (hp base e size m cu : Nat) (xs news : List Value) : Rel where
  r A B := Kx (fun j => j = hp) A B ∧ (A.ownsRow base e size (.slice (some ⟨hp, 0, none⟩) m cu) m xs → B.ownsRow base e size (.slice (some ⟨hp, 0, none⟩) m cu) m xs) ∧
    (A.ownsRow base e size (.slice (some ⟨hp, 0, none⟩) (m + 1) cu) (m + 1) (xs ++ news) → B.ownsRow base e size (.slice (some ⟨hp, 0, none⟩) (m + 1) cu) (m + 1) (xs ++ news))
  refl _ := ⟨Kx.refl _ _, id, id⟩
  trans h k := ⟨Kx.trans h.1 k.1, fun x => k.2.1 (h.2.1 x), fun x => k.2.2 (h.2.2 x)⟩
  drew h := ⟨⟨h.1.os, h.1.tape, h.1.output, h.1.size, h.1.block⟩, h.2.1, h.2.2⟩
section
variable {hp base e size m cu : Nat} {xs news : List Value} {A B : World}
theorem rowRel_aft (h : Aft A B) : (rowRel hp base e size m cu xs news).r A B := ⟨aft_kx h, fun x => ownsRow_aft x h, fun x => ownsRow_aft x h⟩
theorem rowRel_kx (h : (rowRel hp base e size m cu xs news).r A B) : Kx (fun j => j = hp) A B := h.1
theorem rowRel_cell (h : (rowRel hp base e size m cu xs news).r A B) {b o : Nat} {v : Value} (hc : A.cell? ⟨b, o, none⟩ = some v) (hb : ¬ b = hp) : B.cell? ⟨b, o, none⟩ = some v :=
  (h.1.cell (World.block_lt_of_cell? _ _ hc) hb).trans hc
theorem rowRel_own (h : (rowRel hp base e size m cu xs news).r A B) (ho : A.ownsRow base e size (.slice (some ⟨hp, 0, none⟩) m cu) m xs) : B.ownsRow base e size (.slice (some ⟨hp, 0, none⟩) m cu) m xs := h.2.1 ho
theorem rowRel_in (h : (rowRel hp base e size m cu xs news).r A B) (ho : A.ownsRow base e size (.slice (some ⟨hp, 0, none⟩) m cu) m xs) {j : Nat} {u : Value} (hj : xs[j]? = some u) : B.cell? ⟨hp, j, none⟩ = some u :=
  Rd.at0 (off := 0) (fun i _ hi => ⟨_, rfl, (h.2.1 ho).cells rfl i _ hi⟩) hj |> fun e => by simpa using e
def AppV (N hp base e size m cu : Nat) (xs news : List Value) (v : Value) (W : World) : Prop :=
  ∃ gv cw, v = .slice (some ⟨gv, 0, none⟩) (m + 1) cw ∧ W.ownsRow base e size (.slice (some ⟨gv, 0, none⟩) (m + 1) cw) (m + 1) (xs ++ news) ∧ (gv = hp ∧ cw = cu ∨ ¬ gv = hp ∧ N ≤ gv)
theorem AppV.rel {N : Nat} {v : Value} (h : AppV N hp base e size m cu xs news v A) (hr : (rowRel hp base e size m cu xs news).r A B) : AppV N hp base e size m cu xs news v B := by
  obtain ⟨gv, cw, rfl, ho, h⟩ := h
  refine ⟨gv, cw, rfl, ?_, h⟩
  rcases h with ⟨rfl, rfl⟩ | h
  · exact hr.2.2 ho
  · exact ownsRow_kx3 ho hr.1 (fun g hg e => h.1 (by cases hg; exact e))
theorem ownsRow_front {n n' : Nat} {ys zs : List Value} (h : A.ownsRow base e size (.slice (some ⟨hp, 0, none⟩) n cu) n (ys ++ zs)) (hl : ys.length = n' * size) (hn : n' ≤ n) : A.ownsRow base e size (.slice (some ⟨hp, 0, none⟩) n' cu) n' ys := by
  refine ⟨hl, ?_⟩
  rcases h.2 with ⟨e, _⟩ | ⟨g, cap, cur, e, h1, h2, h3, h4, h5, h6⟩
  · cases e
  · cases e
    refine .inr ⟨hp, cu, cur, rfl, h1, h2, by omega, h4, h5, ?_⟩
    have : ys = (ys ++ zs).take (n' * size) := (List.take_left' hl).symm
    rw [this, ← h6, List.take_take]
    congr 1
    have := Nat.mul_le_mul_right size hn
    omega
theorem rowRel_app {N : Nat} {v : Value} (hN : N ≤ A.heap.size) (hx : xs.length = m * size) (ho : A.ownsRow base e size (.slice (some ⟨hp, 0, none⟩) m cu) m xs) (ho' : B.ownsRow base e size v (m + 1) (xs ++ news)) (hg : A.grownBy B (some hp))
    (alt : v = .slice (some ⟨hp, 0, none⟩) (m + 1) cu ∨ A.grownBy B none ∧ ∀ k, v.ownBlock = some k → A.heap.size ≤ k) : AppV N hp base e size m cu xs news v B ∧ (rowRel hp base e size m cu xs news).r A B := by
  have hk : Kx (fun j => j = hp) A B := ⟨hg.os, hg.tape, hg.output, hg.size, fun j hj hne => hg.block j hj (fun e => hne (by cases e; rfl))⟩
  rcases alt with rfl | ⟨h1, h2⟩
  · exact ⟨⟨hp, cu, rfl, ho', .inl ⟨rfl, rfl⟩⟩, hk, fun _ => ownsRow_front ho' hx (by omega), fun _ => ho'⟩
  · obtain ⟨gv, cw, rfl⟩ := ownsRow_some' ho' (by omega)
    have := h2 gv rfl
    have := (ho.lt hp rfl).2
    exact ⟨⟨gv, cw, rfl, ho', .inr ⟨by omega, by omega⟩⟩, hk, fun h => h.kept h1 (.inr (by simp [Value.ownBlock])), fun h => h.kept h1 (.inr (by simp [Value.ownBlock]))⟩
theorem rowRel_grown (h : (rowRel hp base e size m cu xs news).r A B) : A.grownBy B (some hp) := ⟨h.1.os, h.1.tape, h.1.output, h.1.size, fun j hj hne => h.1.block j hj (fun e => hne (by rw [e]))⟩
end
def frApp (N hp base e size m cu : Nat) (xs news : List Value) : ByRel.FR (rowRel hp base e size m cu xs news) := ⟨AppV N hp base e size m cu xs news, fun _ _ _ h hr => h.rel hr⟩
/-- One new row that is appended. -/
def frNew (hp base e size m cu : Nat) (xs news : List Value) : ByRel.FR (rowRel hp base e size m cu xs news) := ⟨fun v W => ∃ g, v = .slice (some ⟨g, 0, none⟩) 1 1 ∧ g < W.heap.size ∧ ¬ g = hp ∧ Rd W (some ⟨g, 0, none⟩) news,
  fun _ _ _ ⟨g, h1, h2, h3, h4⟩ hr => ⟨g, h1, Nat.lt_of_lt_of_le h2 hr.1.size, h3, fun j u hj => by
    obtain ⟨ad, e, hc⟩ := h4 j u hj
    cases e
    have hb : ((⟨g, 0, none⟩ : Addr).add j).block = g := by unfold Addr.add; split <;> rfl
    exact ⟨_, rfl, (World.cell?_of_block (by rw [hb]; exact hr.1.block g h2 h3)).trans hc⟩⟩⟩
end Go.Proofs.Ytokdclbfjlnnjaa
