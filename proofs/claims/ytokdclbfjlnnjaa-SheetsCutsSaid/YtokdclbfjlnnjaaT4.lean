/- The law on Cut: the walk. -/
import Derived.Test.YtokdclbfjlnnjaaT3
namespace Go.Proofs.Ytokdclbfjlnnjaa
open Go.RowKit Go.Ab

theorem Try.mix : Try.prog.follows .mixedOrders = true := by kernel_rfl
theorem Try.z45 : (Try.prog.info? 45).bind (·.zero) = some (.agg #[.int .i64 0, .int .i64 0, .slice none 0 0]) := by kernel_rfl
theorem Try.s45 : (Try.prog.info? 45).map (·.size) = some 3 := by kernel_rfl
theorem Try.r45 : rowT Try.prog 45 = some true := by kernel_rfl
theorem Try.app43 : AppT Try.prog 43 51 (.agg #[.int .i64 0, .slice none 0 0]) 2 32 := ⟨by kernel_rfl, by kernel_rfl, rfl, by decide⟩
theorem Try.lit43 (len : Nat) (hl : len * 2 ≤ 2 ^ 24) : LitT Try.prog 43 51 2 len (List.replicate len (Value.cells (.agg #[.int .i64 0, .slice none 0 0])).toList).flatten := LitT.of Try.app43 (by simp [Value.cells, Value.oneCell']) len hl
theorem Try.o45_2 : fieldOff Try.prog 45 2 = some 2 := by kernel_rfl
theorem Try.r43 : rowT Try.prog 43 = some false := by kernel_rfl
theorem Try.s43 : (Try.prog.info? 43).map (·.size) = some 1 := by kernel_rfl
theorem Try.sl43 : Try.prog.underlying 43 = some (.slice 51) := by kernel_rfl
theorem Try.e43 : elemSz Try.prog 43 = some 2 := by kernel_rfl
theorem Try.o51_0 : fieldOff Try.prog 51 0 = some 0 := by kernel_rfl
theorem Try.s3 : (Try.prog.info? 3).map (·.size) = some 1 := by kernel_rfl
theorem Try.app49 : AppT Try.prog 49 57 (.agg #[.int .i64 0, .int .i64 0]) 2 16 := ⟨by kernel_rfl, by kernel_rfl, rfl, by decide⟩
theorem Try.lit49 (len : Nat) (hl : len * 2 ≤ 2 ^ 24) : LitT Try.prog 49 57 2 len (List.replicate len (Value.cells (.agg #[.int .i64 0, .int .i64 0])).toList).flatten := LitT.of Try.app49 (by simp [Value.cells, Value.oneCell']) len hl
theorem Try.o51_1 : fieldOff Try.prog 51 1 = some 1 := by kernel_rfl
theorem Try.r49 : rowT Try.prog 49 = some false := by kernel_rfl
theorem Try.b57 : BuildT Try.prog 57 [.int .i64 0, .int .i64 0] [(0, 1), (1, 1)] := ⟨by simp [Value.oneCell'], (fun i => (#[(0, 1), (1, 1)] : Array (Nat × Nat))[i]?), fun i p h => by simpa using h, fun parts => by kernel_rfl⟩
theorem Try.s49 : (Try.prog.info? 49).map (·.size) = some 1 := by kernel_rfl
theorem Try.b45 : BuildT Try.prog 45 [.int .i64 0, .int .i64 0, .slice none 0 0] [(0, 1), (1, 1), (2, 1)] := ⟨by simp [Value.oneCell'], (fun i => (#[(0, 1), (1, 1), (2, 1)] : Array (Nat × Nat))[i]?), fun i p h => by simpa using h, fun parts => by kernel_rfl⟩
theorem Try.app71 : AppT Try.prog 71 45 (.agg #[.int .i64 0, .int .i64 0, .slice none 0 0]) 3 40 := ⟨by kernel_rfl, by kernel_rfl, rfl, by decide⟩
theorem Try.lit71 (len : Nat) (hl : len * 3 ≤ 2 ^ 24) : LitT Try.prog 71 45 3 len (List.replicate len (Value.cells (.agg #[.int .i64 0, .int .i64 0, .slice none 0 0])).toList).flatten := LitT.of Try.app71 (by simp [Value.cells, Value.oneCell']) len hl
theorem Try.app22 : AppT Try.prog 22 3 (.int .i64 0) 1 8 := ⟨by kernel_rfl, by kernel_rfl, rfl, by decide⟩
theorem Try.lit22 (len : Nat) (hl : len * 1 ≤ 2 ^ 24) : LitT Try.prog 22 3 1 len (List.replicate len (Value.cells (.int .i64 0)).toList).flatten := LitT.of Try.app22 (by simp [Value.cells, Value.oneCell']) len hl
theorem Try.e22 : elemSz Try.prog 22 = some 1 := by kernel_rfl
theorem Try.r3 : rowT Try.prog 3 = some false := by kernel_rfl
theorem Try.e71 : elemSz Try.prog 71 = some 3 := by kernel_rfl
theorem Try.sl81 : Try.prog.underlying 81 = some (.slice 96) := by kernel_rfl
theorem Try.e81 : elemSz Try.prog 81 = some 5 := by kernel_rfl
theorem Try.o96_0 : fieldOff Try.prog 96 0 = some 0 := by kernel_rfl
theorem Try.o96_1 : fieldOff Try.prog 96 1 = some 1 := by kernel_rfl
theorem Try.o96_2 : fieldOff Try.prog 96 2 = some 4 := by kernel_rfl
theorem Try.r22 : rowT Try.prog 22 = some false := by kernel_rfl
theorem Try.b93 : BuildT Try.prog 93 [.int .i64 0, .int .i64 0, .int .i64 0, .slice none 0 0, .slice none 0 0] [(0, 1), (1, 3), (4, 1)] := ⟨by simp [Value.oneCell'], (fun i => (#[(0, 1), (1, 3), (4, 1)] : Array (Nat × Nat))[i]?), fun i p h => by simpa using h, fun parts => by kernel_rfl⟩
theorem Try.app84 : AppT Try.prog 84 93 (.agg #[.int .i64 0, .int .i64 0, .int .i64 0, .slice none 0 0, .slice none 0 0]) 5 72 := ⟨by kernel_rfl, by kernel_rfl, rfl, by decide⟩
theorem Try.lit84 (len : Nat) (hl : len * 5 ≤ 2 ^ 24) : LitT Try.prog 84 93 5 len (List.replicate len (Value.cells (.agg #[.int .i64 0, .int .i64 0, .int .i64 0, .slice none 0 0, .slice none 0 0])).toList).flatten := LitT.of Try.app84 (by simp [Value.cells, Value.oneCell']) len hl
theorem shT_len (L : List Sh) : (shT L).length = L.length * 2 := flat_len (f := fun s : Sh => [ti s.1, .sl s.2.length (ptT s.2)]) (s := 2) (fun _ => rfl) L
theorem ptT_len (l : List Pt) : (ptT l).length = l.length * 2 := flat_len (f := fun p : Pt => [ti p.1, ti p.2]) (s := 2) (fun _ => rfl) l
theorem around_rng (n m : Int) (hm : 0 < m) : 0 ≤ aroundI n m ∧ aroundI n m < m := by
  unfold aroundI
  rw [if_neg (by omega)]
  exact ⟨Int.emod_nonneg _ (by omega), Int.emod_lt_of_pos _ hm⟩
theorem around_nat (n : Int) (m : Nat) (hm : 0 < m) : ∃ k : Nat, aroundI n m = k ∧ k < m := by
  have := around_rng n m (by omega)
  exact ⟨(aroundI n m).toNat, by omega, by omega⟩
theorem tdiv_rng (n : Int) (h : -9223372036854775808 ≤ n ∧ n ≤ 9223372036854775807) : -9223372036854775808 ≤ n.tdiv 7 ∧ n.tdiv 7 ≤ 9223372036854775807 := by
  have h1 : (n.tdiv 7).natAbs = n.natAbs / 7 := by rw [Int.natAbs_tdiv]; rfl
  omega
/-- Figures that Cut may be asked of here. -/
def GoodC (L : List Sh) : Prop := ShSc L ∧ ∀ s ∈ L, -9223372036854775808 ≤ s.1 ∧ s.1 ≤ 9223372036854775807
theorem genC {L : List Sh} (h : GenL L) : GoodC L := ⟨genL_sc h, fun s hs => by
  have := h s hs
  unfold Gen at this
  omega⟩
theorem set_mem {α : Type} {l : List α} {k : Nat} {x y : α} (h : y ∈ l.set k x) : y = x ∨ y ∈ l := (List.mem_or_eq_of_mem_set h).symm
theorem good_set {L : List Sh} (h : GenL L) {k : Nat} {k0 : Int} {ps : List Pt} (hs : L[k]? = some (k0, ps)) {kd px py : Int} (h1 : -1 ≤ kd ∧ kd ≤ 3) (h2 : -2 ≤ px ∧ px ≤ 88) (h3 : -2 ≤ py ∧ py ≤ 88) : GoodC (L.set k (kd, ps ++ [(px, py)])) := by
  have hm := gen_sc (h _ (List.mem_iff_getElem?.2 ⟨k, hs⟩))
  have hp := (gen_pts (h _ (List.mem_iff_getElem?.2 ⟨k, hs⟩))).2.2
  simp only at hp
  have hg := genC h
  refine ⟨fun s hs' => ?_, fun s hs' => ?_⟩
  · rcases set_mem hs' with rfl | h'
    · refine ⟨by simp; omega, fun p hp' => ?_⟩
      rcases List.mem_append.1 hp' with h'' | h''
      · exact hm.2 p h''
      · simp at h''; subst h''; unfold Sc; simp only; omega
    · exact hg.1 s h'
  · rcases set_mem hs' with rfl | h'
    · simp only; omega
    · exact hg.2 s h'
theorem cell_kept {L : List Sh} {k : Nat} {k0 : Int} {ps : List Pt} (hs : L[k]? = some (k0, ps)) (x : Tree) : (AObj.row 51 2 L.length (splice (shT L) (k * 2 + 0) [x]) false).cells[k * 2 + 1]? = some (.t (.sl ps.length (ptT ps))) := by
  have hk : k < L.length := (List.getElem?_eq_some_iff.1 hs).1
  have h1 := flat_get (f := fun s : Sh => [ti s.1, .sl s.2.length (ptT s.2)]) (s := 2) (fun _ => rfl) hs 1 (by decide)
  have h2 := shT_len L
  show ((splice (shT L) (k * 2 + 0) [x]).map D.t)[k * 2 + 1]? = _
  rw [List.getElem?_map, splice_get (by simp; omega), if_neg (by omega), if_neg (by simp)]
  show Option.map D.t (shT L)[k * 2 + 1]? = _
  rw [show (shT L)[k * 2 + 1]? = some (.sl ps.length (ptT ps)) from h1]
  rfl
theorem shT_set {L : List Sh} {k : Nat} {k0 : Int} {ps : List Pt} (hs : L[k]? = some (k0, ps)) (kd px py : Int) : splice (splice (shT L) (k * 2 + 0) [ti kd]) (k * 2 + 1) [.sl (0 + ps.length + 1) ([] ++ ptT ps ++ [ti px, ti py])] = shT (L.set k (kd, ps ++ [(px, py)])) := by
  have hk : k < L.length := (List.getElem?_eq_some_iff.1 hs).1
  have h2 := shT_len L
  have hx : Tree.sl (0 + ps.length + 1) ([] ++ ptT ps ++ [ti px, ti py]) = .sl (ps ++ [(px, py)]).length (ptT (ps ++ [(px, py)])) := by
    simp [ptT]
  rw [hx]
  obtain ⟨z, hz⟩ : ∃ z, Tree.sl (ps ++ [(px, py)]).length (ptT (ps ++ [(px, py)])) = z := ⟨_, rfl⟩
  rw [hz]
  apply List.ext_getElem?
  intro i
  have hl1 : (splice (shT L) (k * 2 + 0) [ti kd]).length = L.length * 2 := by rw [splice_length (by simp; omega), h2]
  have hl2 : (shT (L.set k (kd, ps ++ [(px, py)]))).length = L.length * 2 := by rw [shT_len, List.length_set]
  have hle : k * 2 + 1 + [z].length ≤ (splice (shT L) (k * 2 + 0) [ti kd]).length := by rw [hl1]; simp; omega
  by_cases hi : i < L.length * 2
  · obtain ⟨j, e, he, hj⟩ : ∃ j e, i = j * 2 + e ∧ e < 2 := ⟨i / 2, i % 2, by omega, by omega⟩
    subst he
    have hjl : j < L.length := by omega
    rw [splice_get hle, splice_get (by simp; omega)]
    by_cases hjk : j = k
    · subst hjk
      have hset : (L.set j (kd, ps ++ [(px, py)]))[j]? = some (kd, ps ++ [(px, py)]) := by rw [List.getElem?_set_self hk]
      have h3 := flat_get (f := fun s : Sh => [ti s.1, .sl s.2.length (ptT s.2)]) (s := 2) (fun _ => rfl) hset e hj
      rw [show (shT (L.set j (kd, ps ++ [(px, py)])))[j * 2 + e]? = _ from h3]
      match e, hj with
      | 0, _ => rw [if_pos (by omega), if_neg (by omega), if_pos (by simp)]; simp
      | 1, _ => rw [if_neg (by omega), if_pos (by simp), ← hz]; simp
    · have hx2 : L[j]? = some L[j] := List.getElem?_eq_getElem hjl
      have hset : (L.set k (kd, ps ++ [(px, py)]))[j]? = some L[j] := by rw [List.getElem?_set_ne (fun e => hjk e.symm)]; exact hx2
      have h3 := flat_get (f := fun s : Sh => [ti s.1, .sl s.2.length (ptT s.2)]) (s := 2) (fun _ => rfl) hset e hj
      have h4 := flat_get (f := fun s : Sh => [ti s.1, .sl s.2.length (ptT s.2)]) (s := 2) (fun _ => rfl) hx2 e hj
      rw [show (shT (L.set k (kd, ps ++ [(px, py)])))[j * 2 + e]? = _ from h3, ← h4]
      simp only [List.length_singleton]
      by_cases c1 : j * 2 + e < k * 2 + 1
      · rw [if_pos c1, if_pos (by omega)]; rfl
      · rw [if_neg c1, if_neg (by omega), if_neg (by omega), if_neg (by omega)]; rfl
  · rw [List.getElem?_eq_none (by rw [splice_length hle, hl1]; omega), List.getElem?_eq_none (by omega)]
theorem pick3 (q : Nat) (h : q < 3) : ∃ w : Int, (AObj.row 3 1 3 [ti 0, ti 1001, ti 1000] true).cells[q * 1]? = some (I w) := by
  match q, h with
  | 0, _ => exact ⟨0, rfl⟩
  | 1, _ => exact ⟨1001, rfl⟩
  | 2, _ => exact ⟨1000, rfl⟩
theorem pickw (k : Nat) (h : k < 3) (a b c : Int) : ∃ w : Int, [ti a, ti b, ti c][k * 1]? = some (ti w) := by
  match k, h with
  | 0, _ => exact ⟨a, rfl⟩
  | 1, _ => exact ⟨b, rfl⟩
  | 2, _ => exact ⟨c, rfl⟩
theorem dle_q {fl : Bool} {H : Nat → Option AObj} {nm' : Nat → Bool} {ρ : Nat → Nat} {q : Tree} {L : List Sh} (h : q = .sl L.length (shT L) ∨ q = .v (.slice none 0 0) ∧ L = []) : DLe fl H nm' ρ (.t q) (.t (.sl L.length (shT L))) := by
  rcases h with rfl | ⟨rfl, rfl⟩
  · exact .t rfl
  · exact .nil
theorem figs (i : Nat) (hi : i < 3) {L L' : List Sh} (hg : GoodC L) (hg' : GoodC L') (hl : L'.length = L.length) (h5 : L.length ≤ 5) : ∃ W H Li q, (([ti 62, ti 62, .sl L.length (shT L), ti 62, ti 62, .sl L.length (shT L'), ti 0, ti 0, .v (.slice none 0 0)] : List Tree).drop (i * 3)).take 3 = [ti W, ti H, q] ∧
    (q = .sl Li.length (shT Li) ∨ q = .v (.slice none 0 0) ∧ Li = []) ∧ GoodC Li ∧ Li.length ≤ 5 := by
  match i, hi with
  | 0, _ => exact ⟨62, 62, L, _, rfl, .inl rfl, hg, h5⟩
  | 1, _ => exact ⟨62, 62, L', _, rfl, .inl (by rw [hl]), hg', by omega⟩
  | 2, _ => exact ⟨0, 0, [], _, rfl, .inr ⟨rfl, rfl⟩, ⟨fun s h => by simp at h, fun s h => by simp at h⟩, by simp⟩
set_option maxRecDepth 100000 in
theorem plain_does (l : List Sht) (hl : l.length ≤ 1000) : Does Try.prog 58 [.t (.sl l.length (shtT l))] [] (.t (.sl l.length (shtT l))) [] := by
  refine spec_of Try.func58 rfl (by simp [Try.f58]) fun E hE => ?_
  refine aw_seq ?_
  refine aw_region 108 hE (by decide) rfl rfl ?_
  refine sq_op (some 2) 108 rfl rfl rfl (ok_assign rfl rfl) ?_
  refine sq_nil ?_
  refine aw_seq ?_
  refine aw_region 116 hE (by decide) rfl rfl ?_
  refine sq_op (some 3) 116 rfl rfl rfl (ok_assign rfl rfl) ?_
  refine sq_nil ?_
  refine aw_seq ?_
  refine aw_seq ?_
  refine aw_region 124 hE (by decide) rfl rfl ?_
  refine sq_op (some 4) 124 rfl rfl rfl (ok_assign rfl rfl) ?_
  refine sq_nil ?_
  refine aw_block ?_
  refine aw_nilrow 3 93 5 true rfl (by decide) ?_
  refine aw_loop (ι := Nat) (fun r => lit [(0, .t (.sl l.length (shtT l))), (3, .own 0), (4, I r)] [(0, .row 93 5 r (shtT (l.take r)) true)] 100) (fun r => r ≤ l.length) (fun r => l.length - r) 0 (ent_of [(0, 124)] 100 (.cons rfl (.t rfl) (.cons rfl (.own rfl rfl) (.cons rfl (.t rfl) .nil))) (.cons rfl (.row rfl rfl) .nil) rfl) (by omega) (fun r hC0 => ?_)
  skip
  refine aw_seq ?_
  refine aw_seq ?_
  refine aw_region 132 hE (by decide) rfl rfl ?_
  refine sq_op (some 5) 108 rfl rfl rfl (ok_move rfl rfl) ?_
  refine sq_op (some 6) 116 rfl rfl rfl (ok_move rfl rfl) ?_
  refine sq_op (some 7) 124 rfl rfl rfl (withEv (x := .tmp 6) rfl (fun h1 => by first | exact ok_len Try.sl81 rfl rfl (.t h1) | exact ok_len Try.sl81 rfl rfl (.own h1 rfl) | exact ok_len Try.sl81 rfl rfl (.nil h1))) ?_
  refine sq_op (some 8) 132 rfl rfl rfl (ok_lss rfl rfl rfl) ?_
  refine sq_nil ?_
  refine aw_cond rfl (fun hb0 => ?_) (fun hb0 => ?_)
  · simp at hb0
    obtain ⟨s, hs⟩ : ∃ s, l[r]? = some s := ⟨_, List.getElem?_eq_getElem hb0⟩
    have f0 : (shtT l)[r * 5 + 0]? = some (ti s.x) := flat_get (f := shtC) (fun _ => rfl) hs 0 (by decide)
    have f1 : ((shtT l).drop (r * 5 + 1)).take 3 = [ti s.wd, ti s.ht, .sl s.sh.length (shT s.sh)] := flat_sub (f := shtC) (fun _ => rfl) hs 1 3 (by decide)
    have f2 : (shtT l)[r * 5 + 4]? = some (.sl s.of_.length (intsT s.of_)) := flat_get (f := shtC) (fun _ => rfl) hs 4 (by decide)
    have hnext : shtT (l.take r) ++ shtC s = shtT (l.take (r + 1)) := by rw [take_snoc hs]; simp [shtT]
    refine aw_skip ?_
    refine aw_seq ?_
    refine aw_block ?_
    refine aw_any [[], [], [], [1, 2], [1, 2, 3], [1, 2, 3, 4], [], [], [6, 7], [6, 7, 8], [6, 7, 8, 9], [], [], [11, 12], [11, 12, 13], [11, 12, 13, 14], [1, 2, 3, 4, 5, 6, 7, 8, 9, 10, 11, 12, 13, 14, 15], [1, 2, 3, 4, 5, 6, 7, 8, 9, 10, 11, 12, 13, 14, 15, 16], [0, 1, 2, 3, 4, 5, 6, 7, 8, 9, 10, 11, 12, 13, 14, 15, 16, 17], [0, 1, 2, 3, 4, 5, 6, 7, 8, 9, 10, 11, 12, 13, 14, 15, 16, 17, 18]] [[], [], [], [], [], [], [], [], [], [], [], [], [], [], [], [], [], [], [0], []] Try.mix hE (by decide) (by kernel_rfl) 292 rfl (fun hr0 => ?_)
    refine an_op hr0 rfl 132 1 rfl rfl (ok_move rfl (ev_E (by kernel_rfl) rfl)) rfl (fun hr1 => ?_)
    clear hr0
    refine an_op hr1 rfl 140 2 rfl rfl (ok_move rfl (ev_E (by kernel_rfl) rfl)) rfl (fun hr2 => ?_)
    clear hr1
    refine an_op hr2 rfl 148 3 rfl rfl (ok_move rfl (ev_E (by kernel_rfl) rfl)) rfl (fun hr3 => ?_)
    clear hr2
    refine an_op hr3 rfl 156 4 rfl rfl (withEv (x := .tmp 12) (ev_T hr3 1 1 rfl (by kernel_rfl) rfl) (fun h1 => withEv (x := .tmp 13) (ev_T hr3 2 0 rfl (by kernel_rfl) rfl) (fun h2 => by first | exact ix_p Try.e81 rfl h1 h2 (by omega) | exact ix_r Try.e81 rfl h1 (by first | exact ctx_HE hr3.ok (by kernel_rfl) rfl) h2 (by omega) | exact ok_indexp rfl Try.e81 h1 h2 (by omega) (by omega) | exact ok_indexr rfl Try.e81 h1 (by first | exact ctx_HE hr3.ok (by kernel_rfl) rfl) h2 (by omega) (by omega)))) rfl (fun hr4 => ?_)
    clear hr3
    refine an_op hr4 rfl 164 5 rfl rfl (withEv (x := .tmp 14) (ev_T hr4 3 0 rfl (by kernel_rfl) rfl) (fun h1 => by first | exact ok_fieldr rfl Try.o96_0 h1 | exact ok_fieldp rfl Try.o96_0 h1)) rfl (fun hr5 => ?_)
    clear hr4
    refine an_op hr5 rfl 172 6 rfl rfl (withEv (x := .tmp 15) (ev_T hr5 4 0 rfl (by kernel_rfl) rfl) (fun h1 => by first | exact ld1 Try.r3 rfl h1 (by first | exact ctx_HE hr5.ok (by kernel_rfl) rfl) (by first | assumption | rfl) | exact lp1 Try.r3 rfl h1 (by first | assumption | rfl))) rfl (fun hr6 => ?_)
    clear hr5
    refine an_op hr6 rfl 180 7 rfl rfl (ok_move rfl (ev_E (by kernel_rfl) rfl)) rfl (fun hr7 => ?_)
    clear hr6
    refine an_op hr7 rfl 188 8 rfl rfl (ok_move rfl (ev_E (by kernel_rfl) rfl)) rfl (fun hr8 => ?_)
    clear hr7
    refine an_op hr8 rfl 196 9 rfl rfl (withEv (x := .tmp 17) (ev_T hr8 6 1 rfl (by kernel_rfl) rfl) (fun h1 => withEv (x := .tmp 18) (ev_T hr8 7 0 rfl (by kernel_rfl) rfl) (fun h2 => by first | exact ix_p Try.e81 rfl h1 h2 (by omega) | exact ix_r Try.e81 rfl h1 (by first | exact ctx_HE hr8.ok (by kernel_rfl) rfl) h2 (by omega) | exact ok_indexp rfl Try.e81 h1 h2 (by omega) (by omega) | exact ok_indexr rfl Try.e81 h1 (by first | exact ctx_HE hr8.ok (by kernel_rfl) rfl) h2 (by omega) (by omega)))) rfl (fun hr9 => ?_)
    clear hr8
    refine an_op hr9 rfl 204 10 rfl rfl (withEv (x := .tmp 19) (ev_T hr9 8 0 rfl (by kernel_rfl) rfl) (fun h1 => by first | exact ok_fieldr rfl Try.o96_1 h1 | exact ok_fieldp rfl Try.o96_1 h1)) rfl (fun hr10 => ?_)
    clear hr9
    refine an_op hr10 rfl 212 11 rfl rfl (withEv (x := .tmp 20) (ev_T hr10 9 0 rfl (by kernel_rfl) rfl) (fun h1 => by first | exact ldc Try.r45 Try.s45 rfl h1 (by first | exact ctx_HE hr10.ok (by kernel_rfl) rfl) (by first | exact (.take (.take (.take .done))) | exact (.skip (.take (.take (.take .done)))) | exact (.skip (.skip (.take (.take (.take .done))))) | exact (.skip (.skip (.skip (.take (.take (.take .done)))))) | exact (.skip (.skip (.skip (.skip (.take (.take (.take .done))))))) | exact (.skip (.skip (.skip (.skip (.skip (.take (.take (.take .done)))))))) | exact (.skip (.skip (.skip (.skip (.skip (.skip (.take (.take (.take .done))))))))) | exact (.skip (.skip (.skip (.skip (.skip (.skip (.skip (.take (.take (.take .done)))))))))) | exact (.skip (.skip (.skip (.skip (.skip (.skip (.skip (.skip (.take (.take (.take .done)))))))))))) | exact lpn Try.r45 Try.s45 rfl h1 (by first | assumption | rfl) rfl)) rfl (fun hr11 => ?_)
    clear hr10
    refine an_op hr11 rfl 220 12 rfl rfl (ok_move rfl (ev_E (by kernel_rfl) rfl)) rfl (fun hr12 => ?_)
    clear hr11
    refine an_op hr12 rfl 228 13 rfl rfl (ok_move rfl (ev_E (by kernel_rfl) rfl)) rfl (fun hr13 => ?_)
    clear hr12
    refine an_op hr13 rfl 236 14 rfl rfl (withEv (x := .tmp 22) (ev_T hr13 11 1 rfl (by kernel_rfl) rfl) (fun h1 => withEv (x := .tmp 23) (ev_T hr13 12 0 rfl (by kernel_rfl) rfl) (fun h2 => by first | exact ix_p Try.e81 rfl h1 h2 (by omega) | exact ix_r Try.e81 rfl h1 (by first | exact ctx_HE hr13.ok (by kernel_rfl) rfl) h2 (by omega) | exact ok_indexp rfl Try.e81 h1 h2 (by omega) (by omega) | exact ok_indexr rfl Try.e81 h1 (by first | exact ctx_HE hr13.ok (by kernel_rfl) rfl) h2 (by omega) (by omega)))) rfl (fun hr14 => ?_)
    clear hr13
    refine an_op hr14 rfl 244 15 rfl rfl (withEv (x := .tmp 24) (ev_T hr14 13 0 rfl (by kernel_rfl) rfl) (fun h1 => by first | exact ok_fieldr rfl Try.o96_2 h1 | exact ok_fieldp rfl Try.o96_2 h1)) rfl (fun hr15 => ?_)
    clear hr14
    refine an_op hr15 rfl 252 16 rfl rfl (withEv (x := .tmp 25) (ev_T hr15 14 0 rfl (by kernel_rfl) rfl) (fun h1 => by first | exact ld1 Try.r22 rfl h1 (by first | exact ctx_HE hr15.ok (by kernel_rfl) rfl) (by first | assumption | rfl) | exact lp1 Try.r22 rfl h1 (by first | assumption | rfl))) rfl (fun hr16 => ?_)
    clear hr15
    refine an_op hr16 rfl 260 17 rfl rfl (bld Try.b93 rfl (ev_cons (ev_T hr16 5 10 rfl (by kernel_rfl) rfl) (ev_cons (ev_T hr16 10 5 rfl (by kernel_rfl) rfl) (ev_cons (ev_T hr16 15 0 rfl (by kernel_rfl) rfl) ev_nil))) (.cons rfl rfl rfl rfl (.put .done) (.cons rfl rfl rfl rfl (.skip (.put (.put (.put .done)))) (.cons rfl rfl rfl rfl (.skip (.skip (.skip (.skip (.put .done))))) .nil)))) rfl (fun hr17 => ?_)
    clear hr16
    refine an_op hr17 rfl 268 18 rfl rfl (lit_ true (Try.lit84 _ (by decide)) rfl (ev_cons (ev_T hr17 16 0 rfl (by kernel_rfl) rfl) ev_nil) (.cons rfl rfl rfl rfl (.put (.put (.put (.put (.put .done))))) .nil) (.t (.t (.t (.t (.t .nil)))))) rfl (fun hr18 => ?_)
    clear hr17
    refine an_op hr18 rfl 276 19 rfl rfl (withEv (x := .tmp 11) (ev_T hr18 0 17 rfl (by kernel_rfl) rfl) (fun h1 => withEv (x := .tmp 28) (ev_T hr18 17 0 rfl (by kernel_rfl) rfl) (fun h2 => by first | exact ok_append true Try.app84 rfl (.own h1 (by first | exact ctx_HE hr18.ok (by kernel_rfl) rfl | exact ev_H hr18 17 0 rfl (by kernel_rfl) rfl rfl)) (.own h2 (by first | exact ctx_HE hr18.ok (by kernel_rfl) rfl | exact ev_H hr18 17 0 rfl (by kernel_rfl) rfl rfl)) (by first | rfl | simp | omega) ⟨by omega, (by unfold maxLen; omega)⟩ | exact ok_append true Try.app84 rfl (.own h1 (by first | exact ctx_HE hr18.ok (by kernel_rfl) rfl | exact ev_H hr18 17 0 rfl (by kernel_rfl) rfl rfl)) (.t h2) (by first | rfl | simp | omega) ⟨by omega, (by unfold maxLen; omega)⟩ | exact ok_append true Try.app84 rfl (.own h1 (by first | exact ctx_HE hr18.ok (by kernel_rfl) rfl | exact ev_H hr18 17 0 rfl (by kernel_rfl) rfl rfl)) (.nil h2) (by first | rfl | simp | omega) ⟨by omega, (by unfold maxLen; omega)⟩ | exact ok_append true Try.app84 rfl (.nil h1) (.own h2 (by first | exact ctx_HE hr18.ok (by kernel_rfl) rfl | exact ev_H hr18 17 0 rfl (by kernel_rfl) rfl rfl)) (by first | rfl | simp | omega) ⟨by omega, (by unfold maxLen; omega)⟩ | exact ok_append true Try.app84 rfl (.nil h1) (.t h2) (by first | rfl | simp | omega) ⟨by omega, (by unfold maxLen; omega)⟩ | exact ok_append true Try.app84 rfl (.nil h1) (.nil h2) (by first | rfl | simp | omega) ⟨by omega, (by unfold maxLen; omega)⟩))) rfl (fun hr19 => ?_)
    clear hr18
    refine an_op hr19 rfl 284 20 rfl rfl (ok_assign rfl (ev_T hr19 18 0 rfl (by kernel_rfl) rfl)) rfl (fun hr20 => ?_)
    clear hr19
    refine an_nil [some 11, some 12, some 13, some 14, some 15, some 16, some 17, some 18, some 19, some 20, some 21, some 22, some 23, some 24, some 25, some 26, some 27, some 28, some 29, some 3] hr20 rfl (by kernel_rfl) ?_
    clear hr20
    refine aw_region 316 hE (by decide) rfl rfl ?_
    refine sq_op (some 9) 300 rfl rfl rfl (ok_move rfl rfl) ?_
    refine sq_op (some 10) 308 rfl rfl rfl (ok_add rfl rfl rfl (by omega)) ?_
    refine sq_op (some 4) 316 rfl rfl rfl (ok_assign rfl rfl) ?_
    refine sq_nil ?_
    exact ⟨r + 1, by omega, show l.length - (r + 1) < l.length - r by omega, ent_of [(0, 276)] 100 (.cons rfl (.t rfl) (.cons rfl (.own rfl rfl) (.cons rfl (.t rfl) .nil))) (.cons rfl (.row hnext rfl) .nil) rfl⟩
  · simp at hb0
    obtain rfl : r = l.length := by omega
    refine aw_exit ?_
    refine aw_seq ?_
    refine aw_region 148 hE (by decide) rfl rfl ?_
    refine sq_op (some 30) 140 rfl rfl rfl (ok_move rfl rfl) ?_
    refine sq_op (some 2) 148 rfl rfl rfl (ok_assign rfl rfl) ?_
    refine sq_nil ?_
    refine aw_ret ?_
    exact ret1 [] rfl rfl (.rd rfl rfl (by rw [List.take_length]) rfl) .nil rfl
set_option maxRecDepth 100000 in
set_option maxHeartbeats 4000000 in
theorem cuts_does (l : List Int) (wd at_ how by_ : Int) (ok : okI l) (hl : l.length ≤ 17592186043904) (hwd : -9223372036854775808 ≤ wd ∧ wd ≤ 9223372036854775807) (hat : -9223372036854775808 ≤ at_ ∧ at_ ≤ 9223372036854775807) (hhow : -9223372036854775808 ≤ how ∧ how ≤ 9223372036854775807) (hby : -9223372036854775808 ≤ by_ ∧ by_ ≤ 9223372036854775807) : Does Try.prog 13 [.t (.sl l.length (intsT l)), I wd, I at_, I how, I by_] [] (B true) [] := by
  refine spec_of Try.func13 rfl (by simp [Try.f13]) fun E hE => ?_
  refine aw_seq ?_
  refine aw_region 108 hE (by decide) rfl rfl ?_
  refine sq_op (some 10) 108 rfl rfl rfl (ok_assign rfl rfl) ?_
  refine sq_nil ?_
  refine aw_seq ?_
  refine aw_region 140 hE (by decide) rfl rfl ?_
  refine sq_op (some 24) 116 rfl rfl rfl (ok_move rfl rfl) ?_
  refine sq_any (some 25) 124 rfl rfl rfl (ok_callN [] [] rfl Try.func27 (by simp [Try.f27]) (by simp [Try.f27]) (figure_does l ok hl) (.cons rfl (.t rfl) .nil) .nil (fun L _ => DLe.agg' (.cons (.t rfl) (.cons (.t rfl) (.cons (.t rfl) .nil)))) (fun _ _ => .nil) (fun _ _ => rfl) rfl) (fun L hL => ?_)
  refine sq_op (some 11) 132 rfl rfl rfl (ok_alloc rfl Try.z45 rfl) ?_
  refine sq_op none 140 rfl rfl rfl (withEv (x := .tmp 25) rfl (fun h1 => by first | exact stb (.ev h1) rfl Try.s45 rfl rfl rfl (by first | exact (.put (.put (.put .done))) | exact (.skip (.put (.put (.put .done)))) | exact (.skip (.skip (.put (.put (.put .done))))) | exact (.skip (.skip (.skip (.put (.put (.put .done)))))) | exact (.skip (.skip (.skip (.skip (.put (.put (.put .done))))))) | exact (.skip (.skip (.skip (.skip (.skip (.put (.put (.put .done)))))))) | exact (.skip (.skip (.skip (.skip (.skip (.skip (.put (.put (.put .done))))))))) | exact (.skip (.skip (.skip (.skip (.skip (.skip (.skip (.put (.put (.put .done)))))))))) | exact (.skip (.skip (.skip (.skip (.skip (.skip (.skip (.skip (.put (.put (.put .done)))))))))))) (Nat.succ_pos _) | exact str (.ev h1) rfl Try.s45 rfl rfl rfl (by assumption) rfl (Nat.succ_pos _) | exact stb (.own h1 rfl) rfl Try.s45 rfl rfl rfl (by first | exact (.put (.put (.put .done))) | exact (.skip (.put (.put (.put .done)))) | exact (.skip (.skip (.put (.put (.put .done))))) | exact (.skip (.skip (.skip (.put (.put (.put .done)))))) | exact (.skip (.skip (.skip (.skip (.put (.put (.put .done))))))) | exact (.skip (.skip (.skip (.skip (.skip (.put (.put (.put .done)))))))) | exact (.skip (.skip (.skip (.skip (.skip (.skip (.put (.put (.put .done))))))))) | exact (.skip (.skip (.skip (.skip (.skip (.skip (.skip (.put (.put (.put .done)))))))))) | exact (.skip (.skip (.skip (.skip (.skip (.skip (.skip (.skip (.put (.put (.put .done)))))))))))) (Nat.succ_pos _) | exact str (.own h1 rfl) rfl Try.s45 rfl rfl rfl (by assumption) rfl (Nat.succ_pos _))) ?_
  refine sq_nil ?_
  refine aw_seq ?_
  refine aw_region 164 hE (by decide) rfl rfl ?_
  refine sq_op (some 26) 148 rfl rfl rfl (withEv (x := .tmp 11) rfl (fun h1 => by first | exact ldc Try.r45 Try.s45 rfl h1 rfl (by first | exact (.take (.take (.take .done))) | exact (.skip (.take (.take (.take .done)))) | exact (.skip (.skip (.take (.take (.take .done))))) | exact (.skip (.skip (.skip (.take (.take (.take .done)))))) | exact (.skip (.skip (.skip (.skip (.take (.take (.take .done))))))) | exact (.skip (.skip (.skip (.skip (.skip (.take (.take (.take .done)))))))) | exact (.skip (.skip (.skip (.skip (.skip (.skip (.take (.take (.take .done))))))))) | exact (.skip (.skip (.skip (.skip (.skip (.skip (.skip (.take (.take (.take .done)))))))))) | exact (.skip (.skip (.skip (.skip (.skip (.skip (.skip (.skip (.take (.take (.take .done)))))))))))) | exact lpn Try.r45 Try.s45 rfl h1 (by first | assumption | rfl) rfl)) ?_
  refine sq_op (some 12) 156 rfl rfl rfl (ok_alloc rfl Try.z45 rfl) ?_
  refine sq_op none 164 rfl rfl rfl (withEv (x := .tmp 26) rfl (fun h1 => by first | exact stb (.ev h1) rfl Try.s45 rfl rfl rfl (by first | exact (.put (.put (.put .done))) | exact (.skip (.put (.put (.put .done)))) | exact (.skip (.skip (.put (.put (.put .done))))) | exact (.skip (.skip (.skip (.put (.put (.put .done)))))) | exact (.skip (.skip (.skip (.skip (.put (.put (.put .done))))))) | exact (.skip (.skip (.skip (.skip (.skip (.put (.put (.put .done)))))))) | exact (.skip (.skip (.skip (.skip (.skip (.skip (.put (.put (.put .done))))))))) | exact (.skip (.skip (.skip (.skip (.skip (.skip (.skip (.put (.put (.put .done)))))))))) | exact (.skip (.skip (.skip (.skip (.skip (.skip (.skip (.skip (.put (.put (.put .done)))))))))))) (Nat.succ_pos _) | exact str (.ev h1) rfl Try.s45 rfl rfl rfl (by assumption) rfl (Nat.succ_pos _) | exact stb (.own h1 rfl) rfl Try.s45 rfl rfl rfl (by first | exact (.put (.put (.put .done))) | exact (.skip (.put (.put (.put .done)))) | exact (.skip (.skip (.put (.put (.put .done))))) | exact (.skip (.skip (.skip (.put (.put (.put .done)))))) | exact (.skip (.skip (.skip (.skip (.put (.put (.put .done))))))) | exact (.skip (.skip (.skip (.skip (.skip (.put (.put (.put .done)))))))) | exact (.skip (.skip (.skip (.skip (.skip (.skip (.put (.put (.put .done))))))))) | exact (.skip (.skip (.skip (.skip (.skip (.skip (.skip (.put (.put (.put .done)))))))))) | exact (.skip (.skip (.skip (.skip (.skip (.skip (.skip (.skip (.put (.put (.put .done)))))))))))) (Nat.succ_pos _) | exact str (.own h1 rfl) rfl Try.s45 rfl rfl rfl (by assumption) rfl (Nat.succ_pos _))) ?_
  refine sq_nil ?_
  refine aw_seq ?_
  obtain ⟨hgen, hL5, hval⟩ := hL
  refine aw_region 212 hE (by decide) rfl rfl ?_
  refine sq_op (some 27) 172 rfl rfl rfl (lit_ false (Try.lit43 _ (by decide)) rfl ev_nil .nil .nil) ?_
  refine sq_op (some 28) 180 rfl rfl rfl (withEv (x := .tmp 11) rfl (fun h1 => by first | exact ok_fieldr rfl Try.o45_2 h1 | exact ok_fieldp rfl Try.o45_2 h1)) ?_
  refine sq_op (some 29) 188 rfl rfl rfl (withEv (x := .tmp 28) rfl (fun h1 => by first | exact ld1 Try.r43 rfl h1 rfl (by first | assumption | rfl) | exact lp1 Try.r43 rfl h1 (by first | assumption | rfl))) ?_
  refine sq_op (some 30) 196 rfl rfl rfl (withEv (x := .tmp 27) rfl (fun h1 => withEv (x := .tmp 29) rfl (fun h2 => by first | exact ok_append false Try.app43 rfl (.own h1 rfl) (.own h2 rfl) (by rw [shT_len]) ⟨by omega, (by unfold maxLen; omega)⟩ | exact ok_append false Try.app43 rfl (.own h1 rfl) (.t h2) (by rw [shT_len]) ⟨by omega, (by unfold maxLen; omega)⟩ | exact ok_append false Try.app43 rfl (.own h1 rfl) (.nil h2) (by rw [shT_len]) ⟨by omega, (by unfold maxLen; omega)⟩ | exact ok_append false Try.app43 rfl (.nil h1) (.own h2 rfl) (by rw [shT_len]) ⟨by omega, (by unfold maxLen; omega)⟩ | exact ok_append false Try.app43 rfl (.nil h1) (.t h2) (by rw [shT_len]) ⟨by omega, (by unfold maxLen; omega)⟩ | exact ok_append false Try.app43 rfl (.nil h1) (.nil h2) (by rw [shT_len]) ⟨by omega, (by unfold maxLen; omega)⟩))) ?_
  refine sq_op (some 31) 204 rfl rfl rfl (withEv (x := .tmp 12) rfl (fun h1 => by first | exact ok_fieldr rfl Try.o45_2 h1 | exact ok_fieldp rfl Try.o45_2 h1)) ?_
  refine sq_op none 212 rfl rfl rfl (withEv (x := .tmp 30) rfl (fun h1 => by first | exact stb (.ev h1) rfl Try.s43 rfl rfl rfl (by first | exact (.put .done) | exact (.skip (.put .done)) | exact (.skip (.skip (.put .done))) | exact (.skip (.skip (.skip (.put .done)))) | exact (.skip (.skip (.skip (.skip (.put .done))))) | exact (.skip (.skip (.skip (.skip (.skip (.put .done)))))) | exact (.skip (.skip (.skip (.skip (.skip (.skip (.put .done))))))) | exact (.skip (.skip (.skip (.skip (.skip (.skip (.skip (.put .done)))))))) | exact (.skip (.skip (.skip (.skip (.skip (.skip (.skip (.skip (.put .done)))))))))) (Nat.succ_pos _) | exact str (.ev h1) rfl Try.s43 rfl rfl rfl (by assumption) rfl (Nat.succ_pos _) | exact stb (.own h1 rfl) rfl Try.s43 rfl rfl rfl (by first | exact (.put .done) | exact (.skip (.put .done)) | exact (.skip (.skip (.put .done))) | exact (.skip (.skip (.skip (.put .done)))) | exact (.skip (.skip (.skip (.skip (.put .done))))) | exact (.skip (.skip (.skip (.skip (.skip (.put .done)))))) | exact (.skip (.skip (.skip (.skip (.skip (.skip (.put .done))))))) | exact (.skip (.skip (.skip (.skip (.skip (.skip (.skip (.put .done)))))))) | exact (.skip (.skip (.skip (.skip (.skip (.skip (.skip (.skip (.put .done)))))))))) (Nat.succ_pos _) | exact str (.own h1 rfl) rfl Try.s43 rfl rfl rfl (by assumption) rfl (Nat.succ_pos _))) ?_
  refine sq_nil ?_
  refine aw_ent (ent_of [(0, 124), (1, 148), (2, 188)] (T' := [(1, I wd), (2, I at_), (3, I how), (4, I by_), (11, .ref 0 0), (12, .ref 1 0)]) (H' := [(0, .box 45 [I 62, I 62, .t (.sl L.length (shT L))]), (1, .box 45 [I 62, I 62, .own 2]), (2, .row 51 2 L.length (shT L) false)]) 100
    (.cons rfl (.t rfl) (.cons rfl (.t rfl) (.cons rfl (.t rfl) (.cons rfl (.t rfl) (.cons rfl (.ref rfl rfl) (.cons rfl (.ref rfl rfl) .nil))))))
    (.cons rfl (.box' (.cons (.t rfl) (.cons (.t rfl) (.cons (.t rfl) .nil)))) (.cons rfl (.box' (.cons (.t rfl) (.cons (.t rfl) (.cons (.own rfl rfl) .nil)))) (.cons rfl (.row rfl (Nat.zero_add _)) .nil))) rfl) ?_
  refine aw_cut (ι := List Sh) (fun L' => lit [(1, I wd), (2, I at_), (3, I how), (4, I by_), (11, .ref 0 0), (12, .ref 1 0)] [(0, .box 45 [I 62, I 62, .t (.sl L.length (shT L))]), (1, .box 45 [I 62, I 62, .own 2]), (2, .row 51 2 L.length (shT L') false)] 100) (fun L' => GoodC L'  ∧ L'.length = L.length) ?_ (fun L' hL' => ?_)
  · refine aw_seq ?_
    refine aw_region 132 hE (by decide) rfl rfl ?_
    refine sq_op (some 32) 108 rfl rfl rfl (withEv (x := .tmp 12) rfl (fun h1 => by first | exact ok_fieldr rfl Try.o45_2 h1 | exact ok_fieldp rfl Try.o45_2 h1)) ?_
    refine sq_op (some 33) 116 rfl rfl rfl (withEv (x := .tmp 32) rfl (fun h1 => by first | exact ld1 Try.r43 rfl h1 rfl (by first | assumption | rfl) | exact lp1 Try.r43 rfl h1 (by first | assumption | rfl))) ?_
    refine sq_op (some 34) 124 rfl rfl rfl (withEv (x := .tmp 33) rfl (fun h1 => by first | exact ok_len Try.sl43 rfl rfl (.t h1) | exact ok_len Try.sl43 rfl rfl (.own h1 rfl) | exact ok_len Try.sl43 rfl rfl (.nil h1))) ?_
    refine sq_op (some 35) 132 rfl rfl rfl (ok_gtr rfl rfl rfl) ?_
    refine sq_nil ?_
    refine aw_cond rfl (fun hb0 => ?_) (fun hb0 => ?_)
    · simp at hb0
      obtain ⟨k, hk, hkl⟩ := around_nat at_ L.length (by omega)
      obtain ⟨⟨k0, ps⟩, hs⟩ : ∃ s, L[k]? = some s := ⟨_, List.getElem?_eq_getElem hkl⟩
      have hkm : (k0, ps) ∈ L := List.mem_iff_getElem?.2 ⟨k, hs⟩
      have hps := (gen_pts (hgen _ hkm)).2.2
      simp only at hps
      have c5 : Does Try.prog 18 [I at_, I (L.length : Nat)] [] (I k) [] := by rw [← hk]; exact around_does _ _ hat
      have c6 := around_does how 5 hhow
      have hh := around_rng how 5 (by decide)
      have c90 := around_does by_ 90 hby
      have hx := around_rng by_ 90 (by decide)
      have hq := tdiv_rng by_ hby
      have c97 := around_does (by_.tdiv 7) 90 hq
      have hy := around_rng (by_.tdiv 7) 90 (by decide)
      have hsl := shT_len L
      obtain ⟨kd, hkd⟩ : ∃ kd, aroundI how 5 - 1 = kd := ⟨_, rfl⟩
      obtain ⟨px, hpx⟩ : ∃ px, aroundI by_ 90 - 2 = px := ⟨_, rfl⟩
      obtain ⟨py, hpy⟩ : ∃ py, aroundI (by_.tdiv 7) 90 - 2 = py := ⟨_, rfl⟩
      have hput1 : k * 2 + 0 + [I (aroundI how 5 - 1)].length ≤ (shT L).length := by rw [hsl]; simp; omega
      have hc9 : (AObj.row 51 2 L.length (splice (shT L) (k * 2 + 0) [ti (aroundI how 5 - 1)]) false).cells[k * 2 + 1]? = some (.t (.sl ps.length (ptT ps))) := cell_kept hs _
      have hput2 : k * 2 + 1 + [D.t (.sl (0 + ps.length + 1) ([] ++ ptT ps ++ [ti (aroundI by_ 90 - 2), ti (aroundI (by_.tdiv 7) 90 - 2)]))].length ≤ (splice (shT L) (k * 2 + 0) [ti (aroundI how 5 - 1)]).length := by rw [splice_length (by simp at hput1 ⊢; omega), hsl]; simp; omega
      have hrow : splice (splice (shT L) (k * 2 + 0) [ti (aroundI how 5 - 1)]) (k * 2 + 1) [.sl (0 + ps.length + 1) ([] ++ ptT ps ++ [ti (aroundI by_ 90 - 2), ti (aroundI (by_.tdiv 7) 90 - 2)])] = shT (L.set k (kd, ps ++ [(px, py)])) := by rw [← hkd, ← hpx, ← hpy]; exact shT_set hs _ _ _
      have hgood : GoodC (L.set k (kd, ps ++ [(px, py)])) := good_set hgen hs (by omega) (by omega) (by omega)
      refine aw_seq ?_
      refine aw_region 180 hE (by decide) rfl rfl ?_
      refine sq_op (some 36) 140 rfl rfl rfl (ok_move rfl rfl) ?_
      refine sq_op (some 37) 148 rfl rfl rfl (withEv (x := .tmp 12) rfl (fun h1 => by first | exact ok_fieldr rfl Try.o45_2 h1 | exact ok_fieldp rfl Try.o45_2 h1)) ?_
      refine sq_op (some 38) 156 rfl rfl rfl (withEv (x := .tmp 37) rfl (fun h1 => by first | exact ld1 Try.r43 rfl h1 rfl (by first | assumption | rfl) | exact lp1 Try.r43 rfl h1 (by first | assumption | rfl))) ?_
      refine sq_op (some 39) 164 rfl rfl rfl (withEv (x := .tmp 38) rfl (fun h1 => by first | exact ok_len Try.sl43 rfl rfl (.t h1) | exact ok_len Try.sl43 rfl rfl (.own h1 rfl) | exact ok_len Try.sl43 rfl rfl (.nil h1))) ?_
      refine sq_op (some 40) 172 rfl rfl rfl (ok_call [] [] rfl Try.func18 (by simp [Try.f18]) (by simp [Try.f18]) (c5) (.cons rfl (by repeat' first | exact .t rfl | exact .rd rfl rfl rfl rfl | exact .nil | exact DLeL.nil | refine DLeL.cons ?_ ?_ | refine .agg' ?_) (.cons rfl (by repeat' first | exact .t rfl | exact .rd rfl rfl rfl rfl | exact .nil | exact DLeL.nil | refine DLeL.cons ?_ ?_ | refine .agg' ?_) (.nil))) .nil (by repeat' first | exact .t rfl | exact DLeL.nil | refine DLeL.cons ?_ ?_ | refine .agg' ?_ | refine .tup' ?_) .nil rfl rfl) ?_
      refine sq_op (some 13) 180 rfl rfl rfl (ok_assign rfl rfl) ?_
      refine sq_nil ?_
      refine aw_seq ?_
      refine aw_any [[], [0], [], [], [3], [3, 4], [0, 1, 2, 3, 4, 5], [0, 1, 2, 3, 4, 5, 6], [0, 1, 2, 3, 4, 5, 6, 7]] [[], [], [], [], [], [], [], [], [2]] Try.mix hE (by decide) (by kernel_rfl) 252 rfl (fun hr0 => ?_)
      refine an_op hr0 rfl 180 1 rfl rfl (withEv (x := .tmp 12) (ev_E (by kernel_rfl) rfl) (fun h1 => by first | exact ok_fieldr rfl Try.o45_2 h1 | exact ok_fieldp rfl Try.o45_2 h1)) rfl (fun hr1 => ?_)
      clear hr0
      refine an_op hr1 rfl 188 2 rfl rfl (withEv (x := .tmp 41) (ev_T hr1 0 0 rfl (by kernel_rfl) rfl) (fun h1 => by first | exact ld1 Try.r43 rfl h1 (by first | exact ctx_HE hr1.ok (by kernel_rfl) rfl) (by first | assumption | rfl) | exact lp1 Try.r43 rfl h1 (by first | assumption | rfl))) rfl (fun hr2 => ?_)
      clear hr1
      refine an_op hr2 rfl 196 3 rfl rfl (ok_move rfl (ev_E (by kernel_rfl) rfl)) rfl (fun hr3 => ?_)
      clear hr2
      refine an_op hr3 rfl 204 4 rfl rfl (ok_move rfl (ev_E (by kernel_rfl) rfl)) rfl (fun hr4 => ?_)
      clear hr3
      refine an_op hr4 rfl 212 5 rfl rfl (ok_call [] [] rfl Try.func18 (by simp [Try.f18]) (by simp [Try.f18]) (c6) (.cons (ev_T hr4 3 0 rfl (by kernel_rfl) rfl) (by repeat' first | exact .t rfl | exact .rd rfl rfl rfl rfl | exact .nil | exact DLeL.nil | refine DLeL.cons ?_ ?_ | refine .agg' ?_) (.cons rfl (by repeat' first | exact .t rfl | exact .rd rfl rfl rfl rfl | exact .nil | exact DLeL.nil | refine DLeL.cons ?_ ?_ | refine .agg' ?_) (.nil))) .nil (by repeat' first | exact .t rfl | exact DLeL.nil | refine DLeL.cons ?_ ?_ | refine .agg' ?_ | refine .tup' ?_) .nil rfl rfl) rfl (fun hr5 => ?_)
      clear hr4
      refine an_op hr5 rfl 220 6 rfl rfl (ok_sub rfl (ev_T hr5 4 0 rfl (by kernel_rfl) rfl) rfl (by omega)) rfl (fun hr6 => ?_)
      clear hr5
      refine an_op hr6 rfl 228 7 rfl rfl (withEv (x := .tmp 42) (ev_T hr6 1 4 rfl (by kernel_rfl) rfl) (fun h1 => withEv (x := .tmp 43) (ev_T hr6 2 3 rfl (by kernel_rfl) rfl) (fun h2 => by first | exact ix_p Try.e43 rfl h1 h2 (by omega) | exact ix_r Try.e43 rfl h1 (by first | exact ctx_HE hr6.ok (by kernel_rfl) rfl | exact ev_H hr6 4 1 rfl (by kernel_rfl) rfl rfl) h2 (by omega) | exact ok_indexp rfl Try.e43 h1 h2 (by omega) (by omega) | exact ok_indexr rfl Try.e43 h1 (by first | exact ctx_HE hr6.ok (by kernel_rfl) rfl | exact ev_H hr6 4 1 rfl (by kernel_rfl) rfl rfl) h2 (by omega) (by omega)))) rfl (fun hr7 => ?_)
      clear hr6
      refine an_op hr7 rfl 236 8 rfl rfl (withEv (x := .tmp 47) (ev_T hr7 6 0 rfl (by kernel_rfl) rfl) (fun h1 => by first | exact ok_fieldr rfl Try.o51_0 h1 | exact ok_fieldp rfl Try.o51_0 h1)) rfl (fun hr8 => ?_)
      clear hr7
      refine an_op hr8 rfl 244 9 rfl rfl (withEv (x := .tmp 46) (ev_T hr8 5 2 rfl (by kernel_rfl) rfl) (fun h1 => by first | exact stb (.ev h1) rfl Try.s3 (ev_T hr8 7 0 rfl (by kernel_rfl) rfl) rfl (by first | exact ctx_HE hr8.ok (by kernel_rfl) rfl | exact ev_H hr8 4 3 rfl (by kernel_rfl) rfl rfl) (by first | exact (.put .done) | exact (.skip (.put .done)) | exact (.skip (.skip (.put .done))) | exact (.skip (.skip (.skip (.put .done)))) | exact (.skip (.skip (.skip (.skip (.put .done))))) | exact (.skip (.skip (.skip (.skip (.skip (.put .done)))))) | exact (.skip (.skip (.skip (.skip (.skip (.skip (.put .done))))))) | exact (.skip (.skip (.skip (.skip (.skip (.skip (.skip (.put .done)))))))) | exact (.skip (.skip (.skip (.skip (.skip (.skip (.skip (.skip (.put .done)))))))))) (Nat.succ_pos _) | exact str (.ev h1) rfl Try.s3 (ev_T hr8 7 0 rfl (by kernel_rfl) rfl) rfl (by first | exact ctx_HE hr8.ok (by kernel_rfl) rfl | exact ev_H hr8 4 3 rfl (by kernel_rfl) rfl rfl) (by assumption) rfl (Nat.succ_pos _) | exact stb (.own h1 (by first | exact ctx_HE hr8.ok (by kernel_rfl) rfl | exact ev_H hr8 4 3 rfl (by kernel_rfl) rfl rfl)) rfl Try.s3 (ev_T hr8 7 0 rfl (by kernel_rfl) rfl) rfl (by first | exact ctx_HE hr8.ok (by kernel_rfl) rfl | exact ev_H hr8 4 3 rfl (by kernel_rfl) rfl rfl) (by first | exact (.put .done) | exact (.skip (.put .done)) | exact (.skip (.skip (.put .done))) | exact (.skip (.skip (.skip (.put .done)))) | exact (.skip (.skip (.skip (.skip (.put .done))))) | exact (.skip (.skip (.skip (.skip (.skip (.put .done)))))) | exact (.skip (.skip (.skip (.skip (.skip (.skip (.put .done))))))) | exact (.skip (.skip (.skip (.skip (.skip (.skip (.skip (.put .done)))))))) | exact (.skip (.skip (.skip (.skip (.skip (.skip (.skip (.skip (.put .done)))))))))) (Nat.succ_pos _) | exact str (.own h1 (by first | exact ctx_HE hr8.ok (by kernel_rfl) rfl | exact ev_H hr8 4 3 rfl (by kernel_rfl) rfl rfl)) rfl Try.s3 (ev_T hr8 7 0 rfl (by kernel_rfl) rfl) rfl (by first | exact ctx_HE hr8.ok (by kernel_rfl) rfl | exact ev_H hr8 4 3 rfl (by kernel_rfl) rfl rfl) (by assumption) rfl (Nat.succ_pos _))) rfl (fun hr9 => ?_)
      clear hr8
      refine an_nil [some 41, some 42, some 43, some 44, some 45, some 46, some 47, some 48, none] hr9 rfl (by kernel_rfl) ?_
      clear hr9
      refine aw_any [[], [0], [], [], [], [4], [], [4, 5, 6], [4, 5, 6, 7], [4, 5, 6, 7, 8], [3, 4, 5, 6, 7, 8, 9], [], [3, 4, 5, 6, 7, 8, 9, 10, 11], [3, 4, 5, 6, 7, 8, 9, 10, 11, 12], [], [14], [3, 4, 5, 6, 7, 8, 9, 10, 11, 12, 14, 15], [3, 4, 5, 6, 7, 8, 9, 10, 11, 12, 14, 15, 16], [3, 4, 5, 6, 7, 8, 9, 10, 11, 12, 13, 14, 15, 16, 17], [3, 4, 5, 6, 7, 8, 9, 10, 11, 12, 13, 14, 15, 16, 17, 18], [3, 4, 5, 6, 7, 8, 9, 10, 11, 12, 13, 14, 15, 16, 17, 18, 19], [0, 1, 2, 3, 4, 5, 6, 7, 8, 9, 10, 11, 12, 13, 14, 15, 16, 17, 18, 19, 20], [0, 1, 2, 3, 4, 5, 6, 7, 8, 9, 10, 11, 12, 13, 14, 15, 16, 17, 18, 19, 20, 21], [0, 1, 2, 3, 4, 5, 6, 7, 8, 9, 10, 11, 12, 13, 14, 15, 16, 17, 18, 19, 20, 21, 22]] [[], [], [], [], [], [], [], [], [], [], [276], [], [], [], [], [], [], [], [], [], [332], [], [], [2]] Try.mix hE (by decide) (by kernel_rfl) 444 rfl (fun hr0 => ?_)
      refine an_op hr0 rfl 252 1 rfl rfl (withEv (x := .tmp 12) (ev_E (by kernel_rfl) rfl) (fun h1 => by first | exact ok_fieldr rfl Try.o45_2 h1 | exact ok_fieldp rfl Try.o45_2 h1)) rfl (fun hr1 => ?_)
      clear hr0
      refine an_op hr1 rfl 260 2 rfl rfl (withEv (x := .tmp 49) (ev_T hr1 0 0 rfl (by kernel_rfl) rfl) (fun h1 => by first | exact ld1 Try.r43 rfl h1 (by first | exact ctx_HE hr1.ok (by kernel_rfl) rfl) (by first | assumption | rfl) | exact lp1 Try.r43 rfl h1 (by first | assumption | rfl))) rfl (fun hr2 => ?_)
      clear hr1
      refine an_op hr2 rfl 268 3 rfl rfl (ok_move rfl (ev_E (by kernel_rfl) rfl)) rfl (fun hr3 => ?_)
      clear hr2
      refine an_op hr3 rfl 276 4 rfl rfl (lit_ true (Try.lit49 _ (by decide)) rfl ev_nil .nil .nil) rfl (fun hr4 => ?_)
      clear hr3
      refine an_op hr4 rfl 284 5 rfl rfl (withEv (x := .tmp 12) (ev_E (by kernel_rfl) rfl) (fun h1 => by first | exact ok_fieldr rfl Try.o45_2 h1 | exact ok_fieldp rfl Try.o45_2 h1)) rfl (fun hr5 => ?_)
      clear hr4
      refine an_op hr5 rfl 292 6 rfl rfl (withEv (x := .tmp 53) (ev_T hr5 4 0 rfl (by kernel_rfl) rfl) (fun h1 => by first | exact ld1 Try.r43 rfl h1 (by first | exact ctx_HE hr5.ok (by kernel_rfl) rfl) (by first | assumption | rfl) | exact lp1 Try.r43 rfl h1 (by first | assumption | rfl))) rfl (fun hr6 => ?_)
      clear hr5
      refine an_op hr6 rfl 300 7 rfl rfl (ok_move rfl (ev_E (by kernel_rfl) rfl)) rfl (fun hr7 => ?_)
      clear hr6
      refine an_op hr7 rfl 308 8 rfl rfl (withEv (x := .tmp 54) (ev_T hr7 5 1 rfl (by kernel_rfl) rfl) (fun h1 => withEv (x := .tmp 55) (ev_T hr7 6 0 rfl (by kernel_rfl) rfl) (fun h2 => by first | exact ix_p Try.e43 rfl h1 h2 (by omega) | exact ix_r Try.e43 rfl h1 (by first | exact ctx_HE hr7.ok (by kernel_rfl) rfl) h2 (by omega) | exact ok_indexp rfl Try.e43 h1 h2 (by omega) (by omega) | exact ok_indexr rfl Try.e43 h1 (by first | exact ctx_HE hr7.ok (by kernel_rfl) rfl) h2 (by omega) (by omega)))) rfl (fun hr8 => ?_)
      clear hr7
      refine an_op hr8 rfl 316 9 rfl rfl (withEv (x := .tmp 56) (ev_T hr8 7 0 rfl (by kernel_rfl) rfl) (fun h1 => by first | exact ok_fieldr rfl Try.o51_1 h1 | exact ok_fieldp rfl Try.o51_1 h1)) rfl (fun hr9 => ?_)
      clear hr8
      refine an_op hr9 rfl 324 10 rfl rfl (withEv (x := .tmp 57) (ev_T hr9 8 0 rfl (by kernel_rfl) rfl) (fun h1 => by first | exact ld1 Try.r49 rfl h1 (by first | exact ctx_HE hr9.ok (by kernel_rfl) rfl) (by first | assumption | rfl) | exact lp1 Try.r49 rfl h1 (by first | assumption | rfl))) rfl (fun hr10 => ?_)
      clear hr9
      refine an_op hr10 rfl 332 11 rfl rfl (withEv (x := .tmp 52) (ev_T hr10 3 6 rfl (by kernel_rfl) rfl) (fun h1 => withEv (x := .tmp 58) (ev_T hr10 9 0 rfl (by kernel_rfl) rfl) (fun h2 => by first | exact ok_append true Try.app49 rfl (.own h1 (by first | exact ctx_HE hr10.ok (by kernel_rfl) rfl | exact ev_H hr10 3 6 rfl (by kernel_rfl) rfl rfl)) (.own h2 (by first | exact ctx_HE hr10.ok (by kernel_rfl) rfl | exact ev_H hr10 3 6 rfl (by kernel_rfl) rfl rfl)) (by rw [ptT_len]) ⟨by omega, (by unfold maxLen; omega)⟩ | exact ok_append true Try.app49 rfl (.own h1 (by first | exact ctx_HE hr10.ok (by kernel_rfl) rfl | exact ev_H hr10 3 6 rfl (by kernel_rfl) rfl rfl)) (.t h2) (by rw [ptT_len]) ⟨by omega, (by unfold maxLen; omega)⟩ | exact ok_append true Try.app49 rfl (.own h1 (by first | exact ctx_HE hr10.ok (by kernel_rfl) rfl | exact ev_H hr10 3 6 rfl (by kernel_rfl) rfl rfl)) (.nil h2) (by rw [ptT_len]) ⟨by omega, (by unfold maxLen; omega)⟩ | exact ok_append true Try.app49 rfl (.nil h1) (.own h2 (by first | exact ctx_HE hr10.ok (by kernel_rfl) rfl | exact ev_H hr10 3 6 rfl (by kernel_rfl) rfl rfl)) (by rw [ptT_len]) ⟨by omega, (by unfold maxLen; omega)⟩ | exact ok_append true Try.app49 rfl (.nil h1) (.t h2) (by rw [ptT_len]) ⟨by omega, (by unfold maxLen; omega)⟩ | exact ok_append true Try.app49 rfl (.nil h1) (.nil h2) (by rw [ptT_len]) ⟨by omega, (by unfold maxLen; omega)⟩))) rfl (fun hr11 => ?_)
      clear hr10
      refine an_op hr11 rfl 340 12 rfl rfl (ok_move rfl (ev_E (by kernel_rfl) rfl)) rfl (fun hr12 => ?_)
      clear hr11
      refine an_op hr12 rfl 348 13 rfl rfl (ok_call [] [] rfl Try.func18 (by simp [Try.f18]) (by simp [Try.f18]) (c90) (.cons (ev_T hr12 11 0 rfl (by kernel_rfl) rfl) (by repeat' first | exact .t rfl | exact .rd rfl rfl rfl rfl | exact .nil | exact DLeL.nil | refine DLeL.cons ?_ ?_ | refine .agg' ?_) (.cons rfl (by repeat' first | exact .t rfl | exact .rd rfl rfl rfl rfl | exact .nil | exact DLeL.nil | refine DLeL.cons ?_ ?_ | refine .agg' ?_) (.nil))) .nil (by repeat' first | exact .t rfl | exact DLeL.nil | refine DLeL.cons ?_ ?_ | refine .agg' ?_ | refine .tup' ?_) .nil rfl rfl) rfl (fun hr13 => ?_)
      clear hr12
      refine an_op hr13 rfl 356 14 rfl rfl (ok_sub rfl (ev_T hr13 12 0 rfl (by kernel_rfl) rfl) rfl (by omega)) rfl (fun hr14 => ?_)
      clear hr13
      refine an_op hr14 rfl 364 15 rfl rfl (ok_move rfl (ev_E (by kernel_rfl) rfl)) rfl (fun hr15 => ?_)
      clear hr14
      refine an_op hr15 rfl 372 16 rfl rfl (ok_quo rfl (ev_T hr15 14 0 rfl (by kernel_rfl) rfl) rfl (by omega) (by omega)) rfl (fun hr16 => ?_)
      clear hr15
      refine an_op hr16 rfl 380 17 rfl rfl (ok_call [] [] rfl Try.func18 (by simp [Try.f18]) (by simp [Try.f18]) (c97) (.cons (ev_T hr16 15 0 rfl (by kernel_rfl) rfl) (by repeat' first | exact .t rfl | exact .rd rfl rfl rfl rfl | exact .nil | exact DLeL.nil | refine DLeL.cons ?_ ?_ | refine .agg' ?_) (.cons rfl (by repeat' first | exact .t rfl | exact .rd rfl rfl rfl rfl | exact .nil | exact DLeL.nil | refine DLeL.cons ?_ ?_ | refine .agg' ?_) (.nil))) .nil (by repeat' first | exact .t rfl | exact DLeL.nil | refine DLeL.cons ?_ ?_ | refine .agg' ?_ | refine .tup' ?_) .nil rfl rfl) rfl (fun hr17 => ?_)
      clear hr16
      refine an_op hr17 rfl 388 18 rfl rfl (ok_sub rfl (ev_T hr17 16 0 rfl (by kernel_rfl) rfl) rfl (by omega)) rfl (fun hr18 => ?_)
      clear hr17
      refine an_op hr18 rfl 396 19 rfl rfl (bld Try.b57 rfl (ev_cons (ev_T hr18 13 4 rfl (by kernel_rfl) rfl) (ev_cons (ev_T hr18 17 0 rfl (by kernel_rfl) rfl) ev_nil)) (.cons rfl rfl rfl rfl (.put .done) (.cons rfl rfl rfl rfl (.skip (.put .done)) .nil))) rfl (fun hr19 => ?_)
      clear hr18
      refine an_op hr19 rfl 404 20 rfl rfl (lit_ true (Try.lit49 _ (by decide)) rfl (ev_cons (ev_T hr19 18 0 rfl (by kernel_rfl) rfl) ev_nil) (.cons rfl rfl rfl rfl (.put (.put .done)) .nil) (.t (.t .nil))) rfl (fun hr20 => ?_)
      clear hr19
      refine an_op hr20 rfl 412 21 rfl rfl (withEv (x := .tmp 59) (ev_T hr20 10 9 rfl (by kernel_rfl) rfl) (fun h1 => withEv (x := .tmp 68) (ev_T hr20 19 0 rfl (by kernel_rfl) rfl) (fun h2 => by first | exact ok_append true Try.app49 rfl (.own h1 (by first | exact ctx_HE hr20.ok (by kernel_rfl) rfl | exact ev_H hr20 19 0 rfl (by kernel_rfl) rfl rfl | exact ev_H hr20 16 3 rfl (by kernel_rfl) rfl rfl | exact ev_H hr20 12 7 rfl (by kernel_rfl) rfl rfl | exact ev_H hr20 10 9 rfl (by kernel_rfl) rfl rfl | exact ev_H hr20 3 16 rfl (by kernel_rfl) rfl rfl)) (.own h2 (by first | exact ctx_HE hr20.ok (by kernel_rfl) rfl | exact ev_H hr20 19 0 rfl (by kernel_rfl) rfl rfl | exact ev_H hr20 16 3 rfl (by kernel_rfl) rfl rfl | exact ev_H hr20 12 7 rfl (by kernel_rfl) rfl rfl | exact ev_H hr20 10 9 rfl (by kernel_rfl) rfl rfl | exact ev_H hr20 3 16 rfl (by kernel_rfl) rfl rfl)) (by first | rfl | simp | omega) ⟨by omega, (by unfold maxLen; omega)⟩ | exact ok_append true Try.app49 rfl (.own h1 (by first | exact ctx_HE hr20.ok (by kernel_rfl) rfl | exact ev_H hr20 19 0 rfl (by kernel_rfl) rfl rfl | exact ev_H hr20 16 3 rfl (by kernel_rfl) rfl rfl | exact ev_H hr20 12 7 rfl (by kernel_rfl) rfl rfl | exact ev_H hr20 10 9 rfl (by kernel_rfl) rfl rfl | exact ev_H hr20 3 16 rfl (by kernel_rfl) rfl rfl)) (.t h2) (by first | rfl | simp | omega) ⟨by omega, (by unfold maxLen; omega)⟩ | exact ok_append true Try.app49 rfl (.own h1 (by first | exact ctx_HE hr20.ok (by kernel_rfl) rfl | exact ev_H hr20 19 0 rfl (by kernel_rfl) rfl rfl | exact ev_H hr20 16 3 rfl (by kernel_rfl) rfl rfl | exact ev_H hr20 12 7 rfl (by kernel_rfl) rfl rfl | exact ev_H hr20 10 9 rfl (by kernel_rfl) rfl rfl | exact ev_H hr20 3 16 rfl (by kernel_rfl) rfl rfl)) (.nil h2) (by first | rfl | simp | omega) ⟨by omega, (by unfold maxLen; omega)⟩ | exact ok_append true Try.app49 rfl (.nil h1) (.own h2 (by first | exact ctx_HE hr20.ok (by kernel_rfl) rfl | exact ev_H hr20 19 0 rfl (by kernel_rfl) rfl rfl | exact ev_H hr20 16 3 rfl (by kernel_rfl) rfl rfl | exact ev_H hr20 12 7 rfl (by kernel_rfl) rfl rfl | exact ev_H hr20 10 9 rfl (by kernel_rfl) rfl rfl | exact ev_H hr20 3 16 rfl (by kernel_rfl) rfl rfl)) (by first | rfl | simp | omega) ⟨by omega, (by unfold maxLen; omega)⟩ | exact ok_append true Try.app49 rfl (.nil h1) (.t h2) (by first | rfl | simp | omega) ⟨by omega, (by unfold maxLen; omega)⟩ | exact ok_append true Try.app49 rfl (.nil h1) (.nil h2) (by first | rfl | simp | omega) ⟨by omega, (by unfold maxLen; omega)⟩))) rfl (fun hr21 => ?_)
      clear hr20
      refine an_op hr21 rfl 420 22 rfl rfl (withEv (x := .tmp 50) (ev_T hr21 1 19 rfl (by kernel_rfl) rfl) (fun h1 => withEv (x := .tmp 51) (ev_T hr21 2 18 rfl (by kernel_rfl) rfl) (fun h2 => by first | exact ix_p Try.e43 rfl h1 h2 (by omega) | exact ix_r Try.e43 rfl h1 (by first | exact ctx_HE hr21.ok (by kernel_rfl) rfl | exact ev_H hr21 20 0 rfl (by kernel_rfl) rfl rfl | exact ev_H hr21 19 1 rfl (by kernel_rfl) rfl rfl | exact ev_H hr21 16 4 rfl (by kernel_rfl) rfl rfl | exact ev_H hr21 12 8 rfl (by kernel_rfl) rfl rfl | exact ev_H hr21 10 10 rfl (by kernel_rfl) rfl rfl | exact ev_H hr21 3 17 rfl (by kernel_rfl) rfl rfl) h2 (by omega) | exact ok_indexp rfl Try.e43 h1 h2 (by omega) (by omega) | exact ok_indexr rfl Try.e43 h1 (by first | exact ctx_HE hr21.ok (by kernel_rfl) rfl | exact ev_H hr21 20 0 rfl (by kernel_rfl) rfl rfl | exact ev_H hr21 19 1 rfl (by kernel_rfl) rfl rfl | exact ev_H hr21 16 4 rfl (by kernel_rfl) rfl rfl | exact ev_H hr21 12 8 rfl (by kernel_rfl) rfl rfl | exact ev_H hr21 10 10 rfl (by kernel_rfl) rfl rfl | exact ev_H hr21 3 17 rfl (by kernel_rfl) rfl rfl) h2 (by omega) (by omega)))) rfl (fun hr22 => ?_)
      clear hr21
      refine an_op hr22 rfl 428 23 rfl rfl (withEv (x := .tmp 70) (ev_T hr22 21 0 rfl (by kernel_rfl) rfl) (fun h1 => by first | exact ok_fieldr rfl Try.o51_1 h1 | exact ok_fieldp rfl Try.o51_1 h1)) rfl (fun hr23 => ?_)
      clear hr22
      refine an_op hr23 rfl 436 24 rfl rfl (withEv (x := .tmp 69) (ev_T hr23 20 2 rfl (by kernel_rfl) rfl) (fun h1 => by first | exact stb (.ev h1) rfl Try.s49 (ev_T hr23 22 0 rfl (by kernel_rfl) rfl) rfl (by first | exact ctx_HE hr23.ok (by kernel_rfl) rfl | exact ev_H hr23 20 2 rfl (by kernel_rfl) rfl rfl | exact ev_H hr23 19 3 rfl (by kernel_rfl) rfl rfl | exact ev_H hr23 16 6 rfl (by kernel_rfl) rfl rfl | exact ev_H hr23 12 10 rfl (by kernel_rfl) rfl rfl | exact ev_H hr23 10 12 rfl (by kernel_rfl) rfl rfl | exact ev_H hr23 3 19 rfl (by kernel_rfl) rfl rfl) (by first | exact (.put .done) | exact (.skip (.put .done)) | exact (.skip (.skip (.put .done))) | exact (.skip (.skip (.skip (.put .done)))) | exact (.skip (.skip (.skip (.skip (.put .done))))) | exact (.skip (.skip (.skip (.skip (.skip (.put .done)))))) | exact (.skip (.skip (.skip (.skip (.skip (.skip (.put .done))))))) | exact (.skip (.skip (.skip (.skip (.skip (.skip (.skip (.put .done)))))))) | exact (.skip (.skip (.skip (.skip (.skip (.skip (.skip (.skip (.put .done)))))))))) (Nat.succ_pos _) | exact str (.ev h1) rfl Try.s49 (ev_T hr23 22 0 rfl (by kernel_rfl) rfl) rfl (by first | exact ctx_HE hr23.ok (by kernel_rfl) rfl | exact ev_H hr23 20 2 rfl (by kernel_rfl) rfl rfl | exact ev_H hr23 19 3 rfl (by kernel_rfl) rfl rfl | exact ev_H hr23 16 6 rfl (by kernel_rfl) rfl rfl | exact ev_H hr23 12 10 rfl (by kernel_rfl) rfl rfl | exact ev_H hr23 10 12 rfl (by kernel_rfl) rfl rfl | exact ev_H hr23 3 19 rfl (by kernel_rfl) rfl rfl) (by assumption) rfl (Nat.succ_pos _) | exact stb (.own h1 (by first | exact ctx_HE hr23.ok (by kernel_rfl) rfl | exact ev_H hr23 20 2 rfl (by kernel_rfl) rfl rfl | exact ev_H hr23 19 3 rfl (by kernel_rfl) rfl rfl | exact ev_H hr23 16 6 rfl (by kernel_rfl) rfl rfl | exact ev_H hr23 12 10 rfl (by kernel_rfl) rfl rfl | exact ev_H hr23 10 12 rfl (by kernel_rfl) rfl rfl | exact ev_H hr23 3 19 rfl (by kernel_rfl) rfl rfl)) rfl Try.s49 (ev_T hr23 22 0 rfl (by kernel_rfl) rfl) rfl (by first | exact ctx_HE hr23.ok (by kernel_rfl) rfl | exact ev_H hr23 20 2 rfl (by kernel_rfl) rfl rfl | exact ev_H hr23 19 3 rfl (by kernel_rfl) rfl rfl | exact ev_H hr23 16 6 rfl (by kernel_rfl) rfl rfl | exact ev_H hr23 12 10 rfl (by kernel_rfl) rfl rfl | exact ev_H hr23 10 12 rfl (by kernel_rfl) rfl rfl | exact ev_H hr23 3 19 rfl (by kernel_rfl) rfl rfl) (by first | exact (.put .done) | exact (.skip (.put .done)) | exact (.skip (.skip (.put .done))) | exact (.skip (.skip (.skip (.put .done)))) | exact (.skip (.skip (.skip (.skip (.put .done))))) | exact (.skip (.skip (.skip (.skip (.skip (.put .done)))))) | exact (.skip (.skip (.skip (.skip (.skip (.skip (.put .done))))))) | exact (.skip (.skip (.skip (.skip (.skip (.skip (.skip (.put .done)))))))) | exact (.skip (.skip (.skip (.skip (.skip (.skip (.skip (.skip (.put .done)))))))))) (Nat.succ_pos _) | exact str (.own h1 (by first | exact ctx_HE hr23.ok (by kernel_rfl) rfl | exact ev_H hr23 20 2 rfl (by kernel_rfl) rfl rfl | exact ev_H hr23 19 3 rfl (by kernel_rfl) rfl rfl | exact ev_H hr23 16 6 rfl (by kernel_rfl) rfl rfl | exact ev_H hr23 12 10 rfl (by kernel_rfl) rfl rfl | exact ev_H hr23 10 12 rfl (by kernel_rfl) rfl rfl | exact ev_H hr23 3 19 rfl (by kernel_rfl) rfl rfl)) rfl Try.s49 (ev_T hr23 22 0 rfl (by kernel_rfl) rfl) rfl (by first | exact ctx_HE hr23.ok (by kernel_rfl) rfl | exact ev_H hr23 20 2 rfl (by kernel_rfl) rfl rfl | exact ev_H hr23 19 3 rfl (by kernel_rfl) rfl rfl | exact ev_H hr23 16 6 rfl (by kernel_rfl) rfl rfl | exact ev_H hr23 12 10 rfl (by kernel_rfl) rfl rfl | exact ev_H hr23 10 12 rfl (by kernel_rfl) rfl rfl | exact ev_H hr23 3 19 rfl (by kernel_rfl) rfl rfl) (by assumption) rfl (Nat.succ_pos _))) rfl (fun hr24 => ?_)
      clear hr23
      refine an_nil [some 49, some 50, some 51, some 52, some 53, some 54, some 55, some 56, some 57, some 58, some 59, some 60, some 61, some 62, some 63, some 64, some 65, some 66, some 67, some 68, some 69, some 70, some 71, none] hr24 rfl (by kernel_rfl) ?_
      clear hr24
      exact ⟨L.set k (kd, ps ++ [(px, py)]), ⟨hgood, List.length_set⟩, ent_of [] 100 (.cons rfl (.t rfl) (.cons rfl (.t rfl) (.cons rfl (.t rfl) (.cons rfl (.t rfl) (.cons rfl (.ref rfl rfl) (.cons rfl (.ref rfl rfl) .nil))))))
        (.cons rfl (.box' (.cons (.t rfl) (.cons (.t rfl) (.cons (.t rfl) .nil)))) (.cons rfl (.box' (.cons (.t rfl) (.cons (.t rfl) (.cons (.own rfl rfl) .nil)))) (.cons rfl (.row hrow rfl) .nil))) rfl⟩
    · skip
      refine aw_skip ?_
      exact ⟨L, ⟨genC hgen, rfl⟩, ent_of [] 100 (.cons rfl (.t rfl) (.cons rfl (.t rfl) (.cons rfl (.t rfl) (.cons rfl (.t rfl) (.cons rfl (.ref rfl rfl) (.cons rfl (.ref rfl rfl) .nil))))))
        (.cons rfl (.box' (.cons (.t rfl) (.cons (.t rfl) (.cons (.t rfl) .nil)))) (.cons rfl (.box' (.cons (.t rfl) (.cons (.t rfl) (.cons (.own rfl rfl) .nil)))) (.cons rfl (.row rfl rfl) .nil))) rfl⟩
  obtain ⟨hLg, hLl⟩ := hL'
  refine aw_seq ?_
  refine aw_seal 2 rfl ?_
  have d60 := around_does wd 60 hwd
  have r60 := around_rng wd 60 (by decide)
  have d20 := around_does wd 20 hwd
  have r20 := around_rng wd 20 (by decide)
  obtain ⟨q, hq3, hql⟩ := around_nat wd 3 (by decide)
  have d3 : Does Try.prog 18 [I wd, I 3] [] (I q) [] := by rw [← hq3]; exact around_does _ _ hwd
  obtain ⟨w3, hw3⟩ := pick3 q hql
  refine aw_region 140 hE (by decide) rfl rfl ?_
  refine sq_op (some 72) 108 rfl rfl rfl (withEv (x := .tmp 11) rfl (fun h1 => by first | exact ldc Try.r45 Try.s45 rfl h1 rfl (by first | exact (.take (.take (.take .done))) | exact (.skip (.take (.take (.take .done)))) | exact (.skip (.skip (.take (.take (.take .done))))) | exact (.skip (.skip (.skip (.take (.take (.take .done)))))) | exact (.skip (.skip (.skip (.skip (.take (.take (.take .done))))))) | exact (.skip (.skip (.skip (.skip (.skip (.take (.take (.take .done)))))))) | exact (.skip (.skip (.skip (.skip (.skip (.skip (.take (.take (.take .done))))))))) | exact (.skip (.skip (.skip (.skip (.skip (.skip (.skip (.take (.take (.take .done)))))))))) | exact (.skip (.skip (.skip (.skip (.skip (.skip (.skip (.skip (.take (.take (.take .done)))))))))))) | exact lpn Try.r45 Try.s45 rfl h1 (by first | assumption | rfl) rfl)) ?_
  refine sq_op (some 73) 116 rfl rfl rfl (withEv (x := .tmp 12) rfl (fun h1 => by first | exact ldc Try.r45 Try.s45 rfl h1 rfl (by first | exact (.take (.take (.take .done))) | exact (.skip (.take (.take (.take .done)))) | exact (.skip (.skip (.take (.take (.take .done))))) | exact (.skip (.skip (.skip (.take (.take (.take .done)))))) | exact (.skip (.skip (.skip (.skip (.take (.take (.take .done))))))) | exact (.skip (.skip (.skip (.skip (.skip (.take (.take (.take .done)))))))) | exact (.skip (.skip (.skip (.skip (.skip (.skip (.take (.take (.take .done))))))))) | exact (.skip (.skip (.skip (.skip (.skip (.skip (.skip (.take (.take (.take .done)))))))))) | exact (.skip (.skip (.skip (.skip (.skip (.skip (.skip (.skip (.take (.take (.take .done)))))))))))) | exact lpn Try.r45 Try.s45 rfl h1 (by first | assumption | rfl) rfl)) ?_
  refine sq_op (some 74) 124 rfl rfl rfl (bld Try.b45 rfl ev_nil .nil) ?_
  refine sq_op (some 75) 132 rfl rfl rfl (lit_ true (Try.lit71 _ (by decide)) rfl (ev_cons rfl (ev_cons rfl (ev_cons rfl ev_nil))) (.cons rfl rfl rfl rfl (.put (.put (.put .done))) (.cons rfl rfl rfl rfl (.skip (.skip (.skip (.put (.put (.put .done)))))) (.cons rfl rfl rfl rfl (.skip (.skip (.skip (.skip (.skip (.skip (.put (.put (.put .done))))))))) .nil))) (.t (.t (.t (.t (.t (.own rfl (.t (.t (.t .nil)))))))))) ?_
  refine sq_op (some 14) 140 rfl rfl rfl (ok_assign rfl rfl) ?_
  refine sq_nil ?_
  refine aw_seq ?_
  refine aw_region 236 hE (by decide) rfl rfl ?_
  refine sq_op (some 76) 148 rfl rfl rfl (ok_move rfl rfl) ?_
  refine sq_op (some 77) 156 rfl rfl rfl (ok_call [] [] rfl Try.func18 (by simp [Try.f18]) (by simp [Try.f18]) (d60) (.cons rfl (by repeat' first | exact .t rfl | exact .rd rfl rfl rfl rfl | exact .nil | exact DLeL.nil | refine DLeL.cons ?_ ?_ | refine .agg' ?_) (.cons rfl (by repeat' first | exact .t rfl | exact .rd rfl rfl rfl rfl | exact .nil | exact DLeL.nil | refine DLeL.cons ?_ ?_ | refine .agg' ?_) (.nil))) .nil (by repeat' first | exact .t rfl | exact DLeL.nil | refine DLeL.cons ?_ ?_ | refine .agg' ?_ | refine .tup' ?_) .nil rfl rfl) ?_
  refine sq_op (some 78) 164 rfl rfl rfl (ok_add rfl rfl rfl (by omega)) ?_
  refine sq_op (some 79) 172 rfl rfl rfl (ok_move rfl rfl) ?_
  refine sq_op (some 80) 180 rfl rfl rfl (ok_call [] [] rfl Try.func18 (by simp [Try.f18]) (by simp [Try.f18]) (d20) (.cons rfl (by repeat' first | exact .t rfl | exact .rd rfl rfl rfl rfl | exact .nil | exact DLeL.nil | refine DLeL.cons ?_ ?_ | refine .agg' ?_) (.cons rfl (by repeat' first | exact .t rfl | exact .rd rfl rfl rfl rfl | exact .nil | exact DLeL.nil | refine DLeL.cons ?_ ?_ | refine .agg' ?_) (.nil))) .nil (by repeat' first | exact .t rfl | exact DLeL.nil | refine DLeL.cons ?_ ?_ | refine .agg' ?_ | refine .tup' ?_) .nil rfl rfl) ?_
  refine sq_op (some 81) 188 rfl rfl rfl (lit_ true (Try.lit22 _ (by decide)) rfl (ev_cons rfl (ev_cons rfl (ev_cons rfl ev_nil))) (.cons rfl rfl rfl rfl (.put .done) (.cons rfl rfl rfl rfl (.skip (.put .done)) (.cons rfl rfl rfl rfl (.skip (.skip (.put .done))) .nil))) (.t (.t (.t .nil)))) ?_
  refine sq_op (some 82) 196 rfl rfl rfl (ok_move rfl rfl) ?_
  refine sq_op (some 83) 204 rfl rfl rfl (ok_call [] [] rfl Try.func18 (by simp [Try.f18]) (by simp [Try.f18]) (d3) (.cons rfl (by repeat' first | exact .t rfl | exact .rd rfl rfl rfl rfl | exact .nil | exact DLeL.nil | refine DLeL.cons ?_ ?_ | refine .agg' ?_) (.cons rfl (by repeat' first | exact .t rfl | exact .rd rfl rfl rfl rfl | exact .nil | exact DLeL.nil | refine DLeL.cons ?_ ?_ | refine .agg' ?_) (.nil))) .nil (by repeat' first | exact .t rfl | exact DLeL.nil | refine DLeL.cons ?_ ?_ | refine .agg' ?_ | refine .tup' ?_) .nil rfl rfl) ?_
  refine sq_op (some 84) 212 rfl rfl rfl (withEv (x := .tmp 81) rfl (fun h1 => withEv (x := .tmp 83) rfl (fun h2 => by first | exact ix_p Try.e22 rfl h1 h2 (by omega) | exact ix_r Try.e22 rfl h1 rfl h2 (by omega) | exact ok_indexp rfl Try.e22 h1 h2 (by omega) (by omega) | exact ok_indexr rfl Try.e22 h1 rfl h2 (by omega) (by omega)))) ?_
  refine sq_op (some 85) 220 rfl rfl rfl (withEv (x := .tmp 84) rfl (fun h1 => by first | exact ld1 Try.r3 rfl h1 rfl (by first | assumption | rfl) | exact lp1 Try.r3 rfl h1 (by first | assumption | rfl))) ?_
  refine sq_op (some 86) 228 rfl rfl rfl (lit_ true (Try.lit22 _ (by decide)) rfl (ev_cons rfl (ev_cons rfl (ev_cons rfl ev_nil))) (.cons rfl rfl rfl rfl (.put .done) (.cons rfl rfl rfl rfl (.skip (.put .done)) (.cons rfl rfl rfl rfl (.skip (.skip (.put .done))) .nil))) (.t (.t (.t .nil)))) ?_
  refine sq_op (some 15) 236 rfl rfl rfl (ok_assign rfl rfl) ?_
  refine sq_nil ?_
  refine aw_seq ?_
  refine aw_seq ?_
  refine aw_region 244 hE (by decide) rfl rfl ?_
  refine sq_op (some 16) 244 rfl rfl rfl (ok_assign rfl rfl) ?_
  refine sq_nil ?_
  refine aw_block ?_
  refine aw_loop (ι := Nat) (fun i => lit [(14, .t (.sl 3 [ti 62, ti 62, .sl L.length (shT L), ti 62, ti 62, .sl L.length (shT L'), ti 0, ti 0, .v (.slice none 0 0)])), (15, .t (.sl 3 [ti (10 + aroundI wd 60), ti (aroundI wd 20), ti w3])), (16, I i)] [] 100) (fun i => i ≤ 3) (fun i => 3 - i) 0 (ent_of [] 100 (.cons rfl (.rd rfl rfl rfl rfl) (.cons rfl (.rd rfl rfl rfl rfl) (.cons rfl (.t rfl) .nil))) .nil rfl) (by omega) (fun i hC0 => ?_)
  skip
  refine aw_seq ?_
  refine aw_seq ?_
  refine aw_region 116 hE (by decide) rfl rfl ?_
  refine sq_op (some 87) 108 rfl rfl rfl (ok_move rfl rfl) ?_
  refine sq_op (some 88) 116 rfl rfl rfl (ok_lss rfl rfl rfl) ?_
  refine sq_nil ?_
  refine aw_cond rfl (fun hb1 => ?_) (fun hb1 => ?_)
  · simp at hb1
    obtain ⟨Wi, Hi, Li, q1, hf, hqq, hLi⟩ := figs i (by omega) (genC hgen) hLg hLl hL5
    refine aw_skip ?_
    refine aw_seq ?_
    refine aw_block ?_
    refine aw_seq ?_
    refine aw_region 124 hE (by decide) rfl rfl ?_
    refine sq_op (some 17) 124 rfl rfl rfl (ok_assign rfl rfl) ?_
    refine sq_nil ?_
    refine aw_block ?_
    refine aw_loop (ι := Nat) (fun k => lit [(14, .t (.sl 3 [ti 62, ti 62, .sl L.length (shT L), ti 62, ti 62, .sl L.length (shT L'), ti 0, ti 0, .v (.slice none 0 0)])), (15, .t (.sl 3 [ti (10 + aroundI wd 60), ti (aroundI wd 20), ti w3])), (16, I i), (17, I k)] [] 100) (fun k => k ≤ 3) (fun k => 3 - k) 0 (ent_of [] 100 (.cons rfl (.t rfl) (.cons rfl (.t rfl) (.cons rfl (.t rfl) (.cons rfl (.t rfl) .nil)))) .nil rfl) (by omega) (fun k hC1 => ?_)
    skip
    refine aw_seq ?_
    refine aw_seq ?_
    refine aw_region 116 hE (by decide) rfl rfl ?_
    refine sq_op (some 91) 108 rfl rfl rfl (ok_move rfl rfl) ?_
    refine sq_op (some 92) 116 rfl rfl rfl (ok_lss rfl rfl rfl) ?_
    refine sq_nil ?_
    refine aw_cond rfl (fun hb2 => ?_) (fun hb2 => ?_)
    · simp at hb2
      obtain ⟨wk, hwk⟩ := pickw k (by omega) (10 + aroundI wd 60) (aroundI wd 20) w3
      have ca := cut_does Wi Hi wk Li hLi.1.1 hLi.1.2 (by omega)
      have cb := rcut_does Wi Hi wk Li hLi.1.1 (by omega)
      obtain ⟨m1, m2, m3, m4⟩ := cutM_ok (W := Wi) (H := Hi) (wd := wk) (L := Li) hLi.1.1 (by omega)
      have cp := plain_does (cutM Wi Hi Li wk).1 m2
      have cs := same_does _ m1 m2
      have cf := samefig_does (cutM Wi Hi Li wk).2.1.1 (cutM Wi Hi Li wk).2.1.2.1 _ m3 m4
      refine aw_skip ?_
      refine aw_seq ?_
      refine aw_block ?_
      refine aw_seq ?_
      refine aw_any [[], [], [0, 1], [0, 1, 2], [], [], [4, 5], [4, 5, 6], [0, 1, 2, 3, 4, 5, 6, 7], [0, 1, 2, 3, 4, 5, 6, 7, 8], [0, 1, 2, 3, 4, 5, 6, 7, 8, 9], [0, 1, 2, 3, 4, 5, 6, 7, 8, 9], [0, 1, 2, 3, 4, 5, 6, 7, 8, 9], [], [0, 1, 2, 3, 4, 5, 6, 7, 8, 9, 10, 13], [0, 1, 2, 3, 4, 5, 6, 7, 8, 9, 10, 11, 13, 14], [0, 1, 2, 3, 4, 5, 6, 7, 8, 9, 10, 11, 12, 13, 14, 15]] [[], [], [], [], [], [], [], [], [], [], [], [], [], [], [], [220], []] Try.mix hE (by decide) (by kernel_rfl) 252 rfl (fun hr0 => ?_)
      refine an_op hr0 rfl 116 1 rfl rfl (ok_move rfl (ev_E (by kernel_rfl) rfl)) rfl (fun hr1 => ?_)
      clear hr0
      refine an_op hr1 rfl 124 2 rfl rfl (ok_move rfl (ev_E (by kernel_rfl) rfl)) rfl (fun hr2 => ?_)
      clear hr1
      refine an_op hr2 rfl 132 3 rfl rfl (withEv (x := .tmp 96) (ev_T hr2 0 1 rfl (by kernel_rfl) rfl) (fun h1 => withEv (x := .tmp 97) (ev_T hr2 1 0 rfl (by kernel_rfl) rfl) (fun h2 => by first | exact ix_p Try.e71 rfl h1 h2 (by omega) | exact ix_r Try.e71 rfl h1 (by first | exact ctx_HE hr2.ok (by kernel_rfl) rfl) h2 (by omega) | exact ok_indexp rfl Try.e71 h1 h2 (by omega) (by omega) | exact ok_indexr rfl Try.e71 h1 (by first | exact ctx_HE hr2.ok (by kernel_rfl) rfl) h2 (by omega) (by omega)))) rfl (fun hr3 => ?_)
      clear hr2
      refine an_op hr3 rfl 140 4 rfl rfl (withEv (x := .tmp 98) (ev_T hr3 2 0 rfl (by kernel_rfl) rfl) (fun h1 => by first | exact ldc Try.r45 Try.s45 rfl h1 (by first | exact ctx_HE hr3.ok (by kernel_rfl) rfl) (by first | exact (.take (.take (.take .done))) | exact (.skip (.take (.take (.take .done)))) | exact (.skip (.skip (.take (.take (.take .done))))) | exact (.skip (.skip (.skip (.take (.take (.take .done)))))) | exact (.skip (.skip (.skip (.skip (.take (.take (.take .done))))))) | exact (.skip (.skip (.skip (.skip (.skip (.take (.take (.take .done)))))))) | exact (.skip (.skip (.skip (.skip (.skip (.skip (.take (.take (.take .done))))))))) | exact (.skip (.skip (.skip (.skip (.skip (.skip (.skip (.take (.take (.take .done)))))))))) | exact (.skip (.skip (.skip (.skip (.skip (.skip (.skip (.skip (.take (.take (.take .done)))))))))))) | exact lpn Try.r45 Try.s45 rfl h1 (by first | assumption | rfl) rfl)) rfl (fun hr4 => ?_)
      clear hr3
      refine an_op hr4 rfl 148 5 rfl rfl (ok_move rfl (ev_E (by kernel_rfl) rfl)) rfl (fun hr5 => ?_)
      clear hr4
      refine an_op hr5 rfl 156 6 rfl rfl (ok_move rfl (ev_E (by kernel_rfl) rfl)) rfl (fun hr6 => ?_)
      clear hr5
      refine an_op hr6 rfl 164 7 rfl rfl (withEv (x := .tmp 100) (ev_T hr6 4 1 rfl (by kernel_rfl) rfl) (fun h1 => withEv (x := .tmp 101) (ev_T hr6 5 0 rfl (by kernel_rfl) rfl) (fun h2 => by first | exact ix_p Try.e22 rfl h1 h2 (by omega) | exact ix_r Try.e22 rfl h1 (by first | exact ctx_HE hr6.ok (by kernel_rfl) rfl) h2 (by omega) | exact ok_indexp rfl Try.e22 h1 h2 (by omega) (by omega) | exact ok_indexr rfl Try.e22 h1 (by first | exact ctx_HE hr6.ok (by kernel_rfl) rfl) h2 (by omega) (by omega)))) rfl (fun hr7 => ?_)
      clear hr6
      refine an_op hr7 rfl 172 8 rfl rfl (withEv (x := .tmp 102) (ev_T hr7 6 0 rfl (by kernel_rfl) rfl) (fun h1 => by first | exact ld1 Try.r3 rfl h1 (by first | exact ctx_HE hr7.ok (by kernel_rfl) rfl) (by first | assumption | rfl) | exact lp1 Try.r3 rfl h1 (by first | assumption | rfl))) rfl (fun hr8 => ?_)
      clear hr7
      refine an_op hr8 rfl 180 9 rfl rfl (ok_call [] [] rfl Try.func55 (by simp [Try.f55]) (by simp [Try.f55]) ca (.cons (ev_T hr8 3 4 rfl (by kernel_rfl) rfl) (DLe.agg' (.cons (.t rfl) (.cons (.t rfl) (.cons (dle_q hqq) .nil)))) (.cons (ev_T hr8 7 0 rfl (by kernel_rfl) rfl) (.t rfl) .nil)) .nil (DLe.tup' (.cons (.t rfl) (.cons (DLe.agg' (.cons (.t rfl) (.cons (.t rfl) (.cons (.t rfl) .nil)))) (.cons (.t rfl) .nil)))) .nil rfl rfl) rfl (fun hr9 => ?_)
      clear hr8
      refine an_op hr9 rfl 188 10 rfl rfl (ok_move rfl (ev_T hr9 8 0 rfl (by kernel_rfl) rfl)) rfl (fun hr10 => ?_)
      clear hr9
      refine an_op hr10 rfl 196 11 rfl rfl (ok_extract rfl (ev_T hr10 9 0 rfl (by kernel_rfl) rfl) rfl) rfl (fun hr11 => ?_)
      clear hr10
      refine an_op hr11 rfl 204 12 rfl rfl (ok_extract rfl (ev_T hr11 9 1 rfl (by kernel_rfl) rfl) rfl) rfl (fun hr12 => ?_)
      clear hr11
      refine an_op hr12 rfl 212 13 rfl rfl (ok_extract rfl (ev_T hr12 9 2 rfl (by kernel_rfl) rfl) rfl) rfl (fun hr13 => ?_)
      clear hr12
      refine an_op hr13 rfl 220 14 rfl rfl (ok_alloc rfl Try.z45 rfl) rfl (fun hr14 => ?_)
      clear hr13
      refine an_op hr14 rfl 228 15 rfl rfl (ok_assign rfl (ev_T hr14 10 3 rfl (by kernel_rfl) rfl)) rfl (fun hr15 => ?_)
      clear hr14
      refine an_op hr15 rfl 236 16 rfl rfl (withEv (x := .tmp 106) (ev_T hr15 11 3 rfl (by kernel_rfl) rfl) (fun h1 => by first | exact stb (.ev h1) rfl Try.s45 (ev_T hr15 13 1 rfl (by kernel_rfl) rfl) rfl (by first | exact ctx_HE hr15.ok (by kernel_rfl) rfl | exact ev_H hr15 13 1 rfl (by kernel_rfl) rfl rfl | exact ev_H hr15 8 6 rfl (by kernel_rfl) rfl rfl) (by first | exact (.put (.put (.put .done))) | exact (.skip (.put (.put (.put .done)))) | exact (.skip (.skip (.put (.put (.put .done))))) | exact (.skip (.skip (.skip (.put (.put (.put .done)))))) | exact (.skip (.skip (.skip (.skip (.put (.put (.put .done))))))) | exact (.skip (.skip (.skip (.skip (.skip (.put (.put (.put .done)))))))) | exact (.skip (.skip (.skip (.skip (.skip (.skip (.put (.put (.put .done))))))))) | exact (.skip (.skip (.skip (.skip (.skip (.skip (.skip (.put (.put (.put .done)))))))))) | exact (.skip (.skip (.skip (.skip (.skip (.skip (.skip (.skip (.put (.put (.put .done)))))))))))) (Nat.succ_pos _) | exact str (.ev h1) rfl Try.s45 (ev_T hr15 13 1 rfl (by kernel_rfl) rfl) rfl (by first | exact ctx_HE hr15.ok (by kernel_rfl) rfl | exact ev_H hr15 13 1 rfl (by kernel_rfl) rfl rfl | exact ev_H hr15 8 6 rfl (by kernel_rfl) rfl rfl) (by assumption) rfl (Nat.succ_pos _) | exact stb (.own h1 (by first | exact ctx_HE hr15.ok (by kernel_rfl) rfl | exact ev_H hr15 13 1 rfl (by kernel_rfl) rfl rfl | exact ev_H hr15 8 6 rfl (by kernel_rfl) rfl rfl)) rfl Try.s45 (ev_T hr15 13 1 rfl (by kernel_rfl) rfl) rfl (by first | exact ctx_HE hr15.ok (by kernel_rfl) rfl | exact ev_H hr15 13 1 rfl (by kernel_rfl) rfl rfl | exact ev_H hr15 8 6 rfl (by kernel_rfl) rfl rfl) (by first | exact (.put (.put (.put .done))) | exact (.skip (.put (.put (.put .done)))) | exact (.skip (.skip (.put (.put (.put .done))))) | exact (.skip (.skip (.skip (.put (.put (.put .done)))))) | exact (.skip (.skip (.skip (.skip (.put (.put (.put .done))))))) | exact (.skip (.skip (.skip (.skip (.skip (.put (.put (.put .done)))))))) | exact (.skip (.skip (.skip (.skip (.skip (.skip (.put (.put (.put .done))))))))) | exact (.skip (.skip (.skip (.skip (.skip (.skip (.skip (.put (.put (.put .done)))))))))) | exact (.skip (.skip (.skip (.skip (.skip (.skip (.skip (.skip (.put (.put (.put .done)))))))))))) (Nat.succ_pos _) | exact str (.own h1 (by first | exact ctx_HE hr15.ok (by kernel_rfl) rfl | exact ev_H hr15 13 1 rfl (by kernel_rfl) rfl rfl | exact ev_H hr15 8 6 rfl (by kernel_rfl) rfl rfl)) rfl Try.s45 (ev_T hr15 13 1 rfl (by kernel_rfl) rfl) rfl (by first | exact ctx_HE hr15.ok (by kernel_rfl) rfl | exact ev_H hr15 13 1 rfl (by kernel_rfl) rfl rfl | exact ev_H hr15 8 6 rfl (by kernel_rfl) rfl rfl) (by assumption) rfl (Nat.succ_pos _))) rfl (fun hr16 => ?_)
      clear hr15
      refine an_op hr16 rfl 244 17 rfl rfl (ok_assign rfl (ev_T hr16 12 3 rfl (by kernel_rfl) rfl)) rfl (fun hr17 => ?_)
      clear hr16
      refine an_nil [some 96, some 97, some 98, some 99, some 100, some 101, some 102, some 103, some 104, some 95, some 105, some 106, some 107, some 19, some 18, none, some 20] hr17 rfl (by kernel_rfl) ?_
      clear hr17
      refine aw_seq ?_
      refine aw_any [[], [], [0, 1], [0, 1, 2], [], [], [4, 5], [4, 5, 6], [0, 1, 2, 3, 4, 5, 6, 7], [0, 1, 2, 3, 4, 5, 6, 7, 8], [0, 1, 2, 3, 4, 5, 6, 7, 8, 9], [0, 1, 2, 3, 4, 5, 6, 7, 8, 9], [0, 1, 2, 3, 4, 5, 6, 7, 8, 9], [], [0, 1, 2, 3, 4, 5, 6, 7, 8, 9, 10, 13], [0, 1, 2, 3, 4, 5, 6, 7, 8, 9, 10, 11, 13, 14], [0, 1, 2, 3, 4, 5, 6, 7, 8, 9, 10, 11, 12, 13, 14, 15]] [[], [], [], [], [], [], [], [], [], [], [], [], [], [], [], [356], []] Try.mix hE (by decide) (by kernel_rfl) 388 rfl (fun hr0 => ?_)
      refine an_op hr0 rfl 252 1 rfl rfl (ok_move rfl (ev_E (by kernel_rfl) rfl)) rfl (fun hr1 => ?_)
      clear hr0
      refine an_op hr1 rfl 260 2 rfl rfl (ok_move rfl (ev_E (by kernel_rfl) rfl)) rfl (fun hr2 => ?_)
      clear hr1
      refine an_op hr2 rfl 268 3 rfl rfl (withEv (x := .tmp 109) (ev_T hr2 0 1 rfl (by kernel_rfl) rfl) (fun h1 => withEv (x := .tmp 110) (ev_T hr2 1 0 rfl (by kernel_rfl) rfl) (fun h2 => by first | exact ix_p Try.e71 rfl h1 h2 (by omega) | exact ix_r Try.e71 rfl h1 (by first | exact ctx_HE hr2.ok (by kernel_rfl) rfl) h2 (by omega) | exact ok_indexp rfl Try.e71 h1 h2 (by omega) (by omega) | exact ok_indexr rfl Try.e71 h1 (by first | exact ctx_HE hr2.ok (by kernel_rfl) rfl) h2 (by omega) (by omega)))) rfl (fun hr3 => ?_)
      clear hr2
      refine an_op hr3 rfl 276 4 rfl rfl (withEv (x := .tmp 111) (ev_T hr3 2 0 rfl (by kernel_rfl) rfl) (fun h1 => by first | exact ldc Try.r45 Try.s45 rfl h1 (by first | exact ctx_HE hr3.ok (by kernel_rfl) rfl) (by first | exact (.take (.take (.take .done))) | exact (.skip (.take (.take (.take .done)))) | exact (.skip (.skip (.take (.take (.take .done))))) | exact (.skip (.skip (.skip (.take (.take (.take .done)))))) | exact (.skip (.skip (.skip (.skip (.take (.take (.take .done))))))) | exact (.skip (.skip (.skip (.skip (.skip (.take (.take (.take .done)))))))) | exact (.skip (.skip (.skip (.skip (.skip (.skip (.take (.take (.take .done))))))))) | exact (.skip (.skip (.skip (.skip (.skip (.skip (.skip (.take (.take (.take .done)))))))))) | exact (.skip (.skip (.skip (.skip (.skip (.skip (.skip (.skip (.take (.take (.take .done)))))))))))) | exact lpn Try.r45 Try.s45 rfl h1 (by first | assumption | rfl) rfl)) rfl (fun hr4 => ?_)
      clear hr3
      refine an_op hr4 rfl 284 5 rfl rfl (ok_move rfl (ev_E (by kernel_rfl) rfl)) rfl (fun hr5 => ?_)
      clear hr4
      refine an_op hr5 rfl 292 6 rfl rfl (ok_move rfl (ev_E (by kernel_rfl) rfl)) rfl (fun hr6 => ?_)
      clear hr5
      refine an_op hr6 rfl 300 7 rfl rfl (withEv (x := .tmp 113) (ev_T hr6 4 1 rfl (by kernel_rfl) rfl) (fun h1 => withEv (x := .tmp 114) (ev_T hr6 5 0 rfl (by kernel_rfl) rfl) (fun h2 => by first | exact ix_p Try.e22 rfl h1 h2 (by omega) | exact ix_r Try.e22 rfl h1 (by first | exact ctx_HE hr6.ok (by kernel_rfl) rfl) h2 (by omega) | exact ok_indexp rfl Try.e22 h1 h2 (by omega) (by omega) | exact ok_indexr rfl Try.e22 h1 (by first | exact ctx_HE hr6.ok (by kernel_rfl) rfl) h2 (by omega) (by omega)))) rfl (fun hr7 => ?_)
      clear hr6
      refine an_op hr7 rfl 308 8 rfl rfl (withEv (x := .tmp 115) (ev_T hr7 6 0 rfl (by kernel_rfl) rfl) (fun h1 => by first | exact ld1 Try.r3 rfl h1 (by first | exact ctx_HE hr7.ok (by kernel_rfl) rfl) (by first | assumption | rfl) | exact lp1 Try.r3 rfl h1 (by first | assumption | rfl))) rfl (fun hr8 => ?_)
      clear hr7
      refine an_op hr8 rfl 316 9 rfl rfl (ok_call [] [] rfl Try.func56 (by simp [Try.f56]) (by simp [Try.f56]) cb (.cons (ev_T hr8 3 4 rfl (by kernel_rfl) rfl) (DLe.agg' (.cons (.t rfl) (.cons (.t rfl) (.cons (dle_q hqq) .nil)))) (.cons (ev_T hr8 7 0 rfl (by kernel_rfl) rfl) (.t rfl) .nil)) .nil (DLe.tup' (.cons (.t rfl) (.cons (DLe.agg' (.cons (.t rfl) (.cons (.t rfl) (.cons (.t rfl) .nil)))) (.cons (.t rfl) .nil)))) .nil rfl rfl) rfl (fun hr9 => ?_)
      clear hr8
      refine an_op hr9 rfl 324 10 rfl rfl (ok_move rfl (ev_T hr9 8 0 rfl (by kernel_rfl) rfl)) rfl (fun hr10 => ?_)
      clear hr9
      refine an_op hr10 rfl 332 11 rfl rfl (ok_extract rfl (ev_T hr10 9 0 rfl (by kernel_rfl) rfl) rfl) rfl (fun hr11 => ?_)
      clear hr10
      refine an_op hr11 rfl 340 12 rfl rfl (ok_extract rfl (ev_T hr11 9 1 rfl (by kernel_rfl) rfl) rfl) rfl (fun hr12 => ?_)
      clear hr11
      refine an_op hr12 rfl 348 13 rfl rfl (ok_extract rfl (ev_T hr12 9 2 rfl (by kernel_rfl) rfl) rfl) rfl (fun hr13 => ?_)
      clear hr12
      refine an_op hr13 rfl 356 14 rfl rfl (ok_alloc rfl Try.z45 rfl) rfl (fun hr14 => ?_)
      clear hr13
      refine an_op hr14 rfl 364 15 rfl rfl (ok_assign rfl (ev_T hr14 10 3 rfl (by kernel_rfl) rfl)) rfl (fun hr15 => ?_)
      clear hr14
      refine an_op hr15 rfl 372 16 rfl rfl (withEv (x := .tmp 119) (ev_T hr15 11 3 rfl (by kernel_rfl) rfl) (fun h1 => by first | exact stb (.ev h1) rfl Try.s45 (ev_T hr15 13 1 rfl (by kernel_rfl) rfl) rfl (by first | exact ctx_HE hr15.ok (by kernel_rfl) rfl | exact ev_H hr15 13 1 rfl (by kernel_rfl) rfl rfl | exact ev_H hr15 8 6 rfl (by kernel_rfl) rfl rfl) (by first | exact (.put (.put (.put .done))) | exact (.skip (.put (.put (.put .done)))) | exact (.skip (.skip (.put (.put (.put .done))))) | exact (.skip (.skip (.skip (.put (.put (.put .done)))))) | exact (.skip (.skip (.skip (.skip (.put (.put (.put .done))))))) | exact (.skip (.skip (.skip (.skip (.skip (.put (.put (.put .done)))))))) | exact (.skip (.skip (.skip (.skip (.skip (.skip (.put (.put (.put .done))))))))) | exact (.skip (.skip (.skip (.skip (.skip (.skip (.skip (.put (.put (.put .done)))))))))) | exact (.skip (.skip (.skip (.skip (.skip (.skip (.skip (.skip (.put (.put (.put .done)))))))))))) (Nat.succ_pos _) | exact str (.ev h1) rfl Try.s45 (ev_T hr15 13 1 rfl (by kernel_rfl) rfl) rfl (by first | exact ctx_HE hr15.ok (by kernel_rfl) rfl | exact ev_H hr15 13 1 rfl (by kernel_rfl) rfl rfl | exact ev_H hr15 8 6 rfl (by kernel_rfl) rfl rfl) (by assumption) rfl (Nat.succ_pos _) | exact stb (.own h1 (by first | exact ctx_HE hr15.ok (by kernel_rfl) rfl | exact ev_H hr15 13 1 rfl (by kernel_rfl) rfl rfl | exact ev_H hr15 8 6 rfl (by kernel_rfl) rfl rfl)) rfl Try.s45 (ev_T hr15 13 1 rfl (by kernel_rfl) rfl) rfl (by first | exact ctx_HE hr15.ok (by kernel_rfl) rfl | exact ev_H hr15 13 1 rfl (by kernel_rfl) rfl rfl | exact ev_H hr15 8 6 rfl (by kernel_rfl) rfl rfl) (by first | exact (.put (.put (.put .done))) | exact (.skip (.put (.put (.put .done)))) | exact (.skip (.skip (.put (.put (.put .done))))) | exact (.skip (.skip (.skip (.put (.put (.put .done)))))) | exact (.skip (.skip (.skip (.skip (.put (.put (.put .done))))))) | exact (.skip (.skip (.skip (.skip (.skip (.put (.put (.put .done)))))))) | exact (.skip (.skip (.skip (.skip (.skip (.skip (.put (.put (.put .done))))))))) | exact (.skip (.skip (.skip (.skip (.skip (.skip (.skip (.put (.put (.put .done)))))))))) | exact (.skip (.skip (.skip (.skip (.skip (.skip (.skip (.skip (.put (.put (.put .done)))))))))))) (Nat.succ_pos _) | exact str (.own h1 (by first | exact ctx_HE hr15.ok (by kernel_rfl) rfl | exact ev_H hr15 13 1 rfl (by kernel_rfl) rfl rfl | exact ev_H hr15 8 6 rfl (by kernel_rfl) rfl rfl)) rfl Try.s45 (ev_T hr15 13 1 rfl (by kernel_rfl) rfl) rfl (by first | exact ctx_HE hr15.ok (by kernel_rfl) rfl | exact ev_H hr15 13 1 rfl (by kernel_rfl) rfl rfl | exact ev_H hr15 8 6 rfl (by kernel_rfl) rfl rfl) (by assumption) rfl (Nat.succ_pos _))) rfl (fun hr16 => ?_)
      clear hr15
      refine an_op hr16 rfl 380 17 rfl rfl (ok_assign rfl (ev_T hr16 12 3 rfl (by kernel_rfl) rfl)) rfl (fun hr17 => ?_)
      clear hr16
      refine an_nil [some 109, some 110, some 111, some 112, some 113, some 114, some 115, some 116, some 117, some 108, some 118, some 119, some 120, some 22, some 21, none, some 23] hr17 rfl (by kernel_rfl) ?_
      clear hr17
      refine aw_seq ?_
      refine aw_region 516 hE (by decide) rfl rfl ?_
      refine sq_op (some 121) 396 rfl rfl rfl (ok_move rfl rfl) ?_
      refine sq_op (some 122) 404 rfl rfl rfl (ok_move rfl rfl) ?_
      refine sq_op (some 123) 412 rfl rfl rfl (ok_neq_f rfl rfl rfl rfl) ?_
      refine sq_op (some 124) 420 rfl rfl rfl (ok_move rfl rfl) ?_
      first | refine sq_off (some 125) 428 rfl rfl rfl rfl rfl (by first | exact .inl rfl | exact .inr rfl) ?_ | refine sq_on (some 125) 428 rfl rfl rfl rfl rfl (ok_move rfl rfl) ?_
      first | refine sq_off (some 126) 436 rfl rfl rfl rfl rfl (by first | exact .inl rfl | exact .inr rfl) ?_ | refine sq_on (some 126) 436 rfl rfl rfl rfl rfl (ok_call [] [] rfl Try.func58 (by simp [Try.f58]) (by simp [Try.f58]) (cp) (.cons rfl (by repeat' first | exact .t rfl | exact .rd rfl rfl rfl rfl | exact .nil | exact DLeL.nil | refine DLeL.cons ?_ ?_ | refine .agg' ?_) (.nil)) .nil (by repeat' first | exact .t rfl | exact DLeL.nil | refine DLeL.cons ?_ ?_ | refine .agg' ?_ | refine .tup' ?_) .nil rfl rfl) ?_
      first | refine sq_off (some 127) 444 rfl rfl rfl rfl rfl (by first | exact .inl rfl | exact .inr rfl) ?_ | refine sq_on (some 127) 444 rfl rfl rfl rfl rfl (ok_move rfl rfl) ?_
      first | refine sq_off (some 128) 452 rfl rfl rfl rfl rfl (by first | exact .inl rfl | exact .inr rfl) ?_ | refine sq_on (some 128) 452 rfl rfl rfl rfl rfl (ok_call [] [] rfl Try.func57 (by simp [Try.f57]) (by simp [Try.f57]) (cs) (.cons rfl (by repeat' first | exact .t rfl | exact .rd rfl rfl rfl rfl | exact .nil | exact DLeL.nil | refine DLeL.cons ?_ ?_ | refine .agg' ?_) (.cons rfl (by repeat' first | exact .t rfl | exact .rd rfl rfl rfl rfl | exact .nil | exact DLeL.nil | refine DLeL.cons ?_ ?_ | refine .agg' ?_) (.nil))) .nil (by repeat' first | exact .t rfl | exact DLeL.nil | refine DLeL.cons ?_ ?_ | refine .agg' ?_ | refine .tup' ?_) .nil rfl rfl) ?_
      first | refine sq_off (some 129) 460 rfl rfl rfl rfl rfl (by first | exact .inl rfl | exact .inr rfl) ?_ | refine sq_on (some 129) 460 rfl rfl rfl rfl rfl (ok_not rfl rfl) ?_
      refine sq_op (some 130) 468 rfl rfl rfl (by first | exact ok_pick_t rfl rfl rfl | exact ok_pick_f rfl rfl rfl) ?_
      refine sq_op (some 131) 476 rfl rfl rfl (ok_move rfl rfl) ?_
      first | refine sq_off (some 132) 484 rfl rfl rfl rfl rfl (by first | exact .inl rfl | exact .inr rfl) ?_ | refine sq_on (some 132) 484 rfl rfl rfl rfl rfl (withEv (x := .tmp 19) rfl (fun h1 => by first | exact ldc Try.r45 Try.s45 rfl h1 rfl (by first | exact (.take (.take (.take .done))) | exact (.skip (.take (.take (.take .done)))) | exact (.skip (.skip (.take (.take (.take .done))))) | exact (.skip (.skip (.skip (.take (.take (.take .done)))))) | exact (.skip (.skip (.skip (.skip (.take (.take (.take .done))))))) | exact (.skip (.skip (.skip (.skip (.skip (.take (.take (.take .done)))))))) | exact (.skip (.skip (.skip (.skip (.skip (.skip (.take (.take (.take .done))))))))) | exact (.skip (.skip (.skip (.skip (.skip (.skip (.skip (.take (.take (.take .done)))))))))) | exact (.skip (.skip (.skip (.skip (.skip (.skip (.skip (.skip (.take (.take (.take .done)))))))))))) | exact lpn Try.r45 Try.s45 rfl h1 (by first | assumption | rfl) rfl)) ?_
      first | refine sq_off (some 133) 492 rfl rfl rfl rfl rfl (by first | exact .inl rfl | exact .inr rfl) ?_ | refine sq_on (some 133) 492 rfl rfl rfl rfl rfl (withEv (x := .tmp 22) rfl (fun h1 => by first | exact ldc Try.r45 Try.s45 rfl h1 rfl (by first | exact (.take (.take (.take .done))) | exact (.skip (.take (.take (.take .done)))) | exact (.skip (.skip (.take (.take (.take .done))))) | exact (.skip (.skip (.skip (.take (.take (.take .done)))))) | exact (.skip (.skip (.skip (.skip (.take (.take (.take .done))))))) | exact (.skip (.skip (.skip (.skip (.skip (.take (.take (.take .done)))))))) | exact (.skip (.skip (.skip (.skip (.skip (.skip (.take (.take (.take .done))))))))) | exact (.skip (.skip (.skip (.skip (.skip (.skip (.skip (.take (.take (.take .done)))))))))) | exact (.skip (.skip (.skip (.skip (.skip (.skip (.skip (.skip (.take (.take (.take .done)))))))))))) | exact lpn Try.r45 Try.s45 rfl h1 (by first | assumption | rfl) rfl)) ?_
      first | refine sq_off (some 134) 500 rfl rfl rfl rfl rfl (by first | exact .inl rfl | exact .inr rfl) ?_ | refine sq_on (some 134) 500 rfl rfl rfl rfl rfl (ok_call [] [] rfl Try.func59 (by simp [Try.f59]) (by simp [Try.f59]) (cf) (.cons rfl (by repeat' first | exact .t rfl | exact .rd rfl rfl rfl rfl | exact .nil | exact DLeL.nil | refine DLeL.cons ?_ ?_ | refine .agg' ?_) (.cons rfl (by repeat' first | exact .t rfl | exact .rd rfl rfl rfl rfl | exact .nil | exact DLeL.nil | refine DLeL.cons ?_ ?_ | refine .agg' ?_) (.nil))) .nil (by repeat' first | exact .t rfl | exact DLeL.nil | refine DLeL.cons ?_ ?_ | refine .agg' ?_ | refine .tup' ?_) .nil rfl rfl) ?_
      first | refine sq_off (some 135) 508 rfl rfl rfl rfl rfl (by first | exact .inl rfl | exact .inr rfl) ?_ | refine sq_on (some 135) 508 rfl rfl rfl rfl rfl (ok_not rfl rfl) ?_
      refine sq_op (some 136) 516 rfl rfl rfl (by first | exact ok_pick_t rfl rfl rfl | exact ok_pick_f rfl rfl rfl) ?_
      refine sq_nil ?_
      refine aw_cond rfl (fun hb3 => ?_) (fun hb3 => ?_)
      · exact absurd hb3 (by decide)
      · skip
        refine aw_skip ?_
        refine aw_region 540 hE (by decide) rfl rfl ?_
        refine sq_op (some 93) 524 rfl rfl rfl (ok_move rfl rfl) ?_
        refine sq_op (some 94) 532 rfl rfl rfl (ok_add rfl rfl rfl (by omega)) ?_
        refine sq_op (some 17) 540 rfl rfl rfl (ok_assign rfl rfl) ?_
        refine sq_nil ?_
        exact ⟨k + 1, by omega, show 3 - (k + 1) < 3 - k by omega, ent_of [] 100 (.cons rfl (.t rfl) (.cons rfl (.t rfl) (.cons rfl (.t rfl) (.cons rfl (.t rfl) .nil)))) .nil rfl⟩
    · skip
      refine aw_exit ?_
      refine aw_region 140 hE (by decide) rfl rfl ?_
      refine sq_op (some 89) 124 rfl rfl rfl (ok_move rfl rfl) ?_
      refine sq_op (some 90) 132 rfl rfl rfl (ok_add rfl rfl rfl (by omega)) ?_
      refine sq_op (some 16) 140 rfl rfl rfl (ok_assign rfl rfl) ?_
      refine sq_nil ?_
      exact ⟨i + 1, by omega, show 3 - (i + 1) < 3 - i by omega, ent_of [] 100 (.cons rfl (.t rfl) (.cons rfl (.t rfl) (.cons rfl (.t rfl) .nil))) .nil rfl⟩
  · skip
    refine aw_exit ?_
    refine aw_seq ?_
    refine aw_region 132 hE (by decide) rfl rfl ?_
    refine sq_op (some 137) 124 rfl rfl rfl (ok_call [] [] rfl Try.func22 (by simp [Try.f22]) (by simp [Try.f22]) (lives_does) (.nil) .nil (by repeat' first | exact .t rfl | exact DLeL.nil | refine DLeL.cons ?_ ?_ | refine .agg' ?_ | refine .tup' ?_) .nil rfl rfl) ?_
    refine sq_op (some 10) 132 rfl rfl rfl (ok_assign rfl rfl) ?_
    refine sq_nil ?_
    refine aw_ret ?_
    exact ret1 [] rfl rfl (.t rfl) .nil rfl
end Go.Proofs.Ytokdclbfjlnnjaa
