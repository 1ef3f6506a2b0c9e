/- Join, and what the law on it calls. -/
import Derived.Test.YtokdclbfjlnnjaaT4
import Derived.Test.YtokdclbfjlnnjaaT6
import Derived.Test.YtokdclbfjlnnjaaMb
namespace Go.Proofs.Ytokdclbfjlnnjaa
open Go.RowKit Go.Ab

theorem sh_pure (k : Int) (l : List Pt) : Pure (.agg [I k, .t (.sl l.length (ptT l))]) := .agg (pure_t (xs := [ti k, .sl l.length (ptT l)]))
theorem sh_open {w : World} {G : Lim} {u : Value} {k : Int} {l : List Pt} (h : DR0 w G u (.agg [I k, .t (.sl l.length (ptT l))])) : ∃ v, u = .agg #[.int .i64 k, v] ∧ TR w G v (.sl l.length (ptT l)) := by
  cases h with
  | @agg vs _ hl h h1 =>
    obtain ⟨q⟩ := vs
    match q, hl with
    | [a, b], _ =>
      have e1 := tr_v (dr_t (h 0 a _ rfl rfl))
      subst e1
      exact ⟨b, rfl, dr_t (h 1 b _ rfl rfl)⟩
theorem agg2 {w : World} {G : Lim} {k : Int} {v : Value} {l : List Pt} (h : TR w G v (.sl l.length (ptT l))) : DR0 w G (.agg #[.int .i64 k, v]) (.agg [I k, .t (.sl l.length (ptT l))]) := by
  refine .agg rfl (fun i u d hu hd => ?_) (fun u hu => ?_)
  · match i with
    | 0 => simp at hu hd; subst hu hd; exact .t (.v _ rfl)
    | 1 => simp at hu hd; subst hu hd; exact .t h
    | i + 2 => simp at hu
  · simp at hu
    rcases hu with rfl | rfl
    · rfl
    · exact h.one
theorem mov_post {k dx : Int} {l : List Pt} {w w' : World} {G : Lim} {e : Ending} (h : ∃ v, e = .returned (.agg #[.int .i64 k, v]) ∧ w'.ownsRow w.heap.size 57 2 v l.length (prs (mvL dx l)) ∧ Aft w w') :
    ∃ v, e = .returned v ∧ Aft w w' ∧ DR0 w' (newG w w' G) v (.agg [I k, .t (.sl (mvL dx l).length (ptT (mvL dx l)))]) := by
  obtain ⟨v, rfl, h1, hA⟩ := h
  refine ⟨_, rfl, hA, agg2 ?_⟩
  rw [← mvL_length dx] at h1
  exact owned_tree h1 (Nat.le_refl _) (pts_len _) (pts_rel _)
theorem moved_does (k dx : Int) (l : List Pt) (ok : okP l) (hl : l.length ≤ 1000) : Does Try.prog 103 [.agg [I k, .t (.sl l.length (ptT l))], I dx] [] (.agg [I k, .t (.sl (mvL dx l).length (ptT (mvL dx l)))]) [] :=
  does_calls1 (fun d hd => by simp at hd; rcases hd with rfl | rfl <;> first | exact sh_pure _ _ | exact .t) (sh_pure _ _) fun w G vs hv hd => by
    obtain ⟨u, v, rfl⟩ := vs_of2 hv
    obtain ⟨q, rfl, hq⟩ := sh_open (hd 0 u _ rfl rfl)
    have e2 := tr_v (dr_t (hd 1 v _ rfl rfl))
    subst e2
    exact (mov_any k dx q l w (tr_prs hq ok hl) hl).mono fun e w' h => mov_post h
theorem rmoved_does (k dx : Int) (l : List Pt) (ok : okP l) (hl : l.length ≤ 1000) : Does Try.prog 106 [.agg [I k, .t (.sl l.length (ptT l))], I dx] [] (.agg [I k, .t (.sl (mvL dx l).length (ptT (mvL dx l)))]) [] :=
  does_calls1 (fun d hd => by simp at hd; rcases hd with rfl | rfl <;> first | exact sh_pure _ _ | exact .t) (sh_pure _ _) fun w G vs hv hd => by
    obtain ⟨u, v, rfl⟩ := vs_of2 hv
    obtain ⟨q, rfl, hq⟩ := sh_open (hd 0 u _ rfl rfl)
    have e2 := tr_v (dr_t (hd 1 v _ rfl rfl))
    subst e2
    exact (rmov_any k dx q l w (tr_prs hq ok hl) hl).mono fun e w' h => mov_post h

abbrev joinD (r : (Int × Int × List Sh) × Int) : D := .tup [figD r.1.1 r.1.2.1 r.1.2.2, I r.2]
theorem okE_nil (n : Nat) : okE n [] := ⟨fun e h => by simp at h, by simp⟩
theorem lens_snoc {l : List Sht} {r : Nat} {s : Sht} (hs : l[r]? = some s) (h : lensOk (l.take r)) (heq : s.of_.length = s.sh.length) : lensOk (l.take (r + 1)) := fun x hx => by
  rw [take_snoc hs] at hx
  rcases List.mem_append.1 hx with hx | hx
  · exact h x hx
  · simp at hx; subst hx; exact heq
theorem entL_bound {l : List Sht} (h : lensOk l) (hb : ∀ s ∈ l, s.of_.length ≤ 1000) : (entL l).length ≤ 1000 * l.length := by
  induction l with
  | nil => simp [entL]
  | cons s l ih =>
    have e : entL (s :: l) = entS s ++ entL l := by simp [entL]
    have h1 := ih (fun x hx => h x (List.mem_cons_of_mem _ hx)) (fun x hx => hb x (List.mem_cons_of_mem _ hx))
    have h2 := hb s (List.mem_cons_self ..)
    rw [e, List.length_append, entS_length (h s (List.mem_cons_self ..)), List.length_cons]
    omega
theorem ent_snoc (l : List Sht) (r : Nat) {s : Sht} {k : Nat} {i : Int} {q : Sh} (hi : s.of_[k]? = some i) (hq : s.sh[k]? = some q) : entL (l.take r) ++ (entS s).take (k + 1) = entL (l.take r) ++ (entS s).take k ++ [(i, mvJ s.x q)] := by
  rw [take_snoc (entS_get hi hq), List.append_assoc]
theorem join_bad {n : Nat} {l : List Sht} {w h : Int} {r : Nat} {s : Sht} {k : Nat} {i : Int} {q : Sh} (hn : (entL l).length = n) (hs : l[r]? = some s) (hi : s.of_[k]? = some i) (hq : s.sh[k]? = some q) (hb : ¬ okE n (entL (l.take r) ++ (entS s).take k ++ [(i, mvJ s.x q)])) : joinM l w h = ((0, 0, []), 2) :=
  if_neg fun hh => hb (by
    have h2 := hh.2
    rw [hn, entL_split hs] at h2
    rw [← ent_snoc l r hi hq]
    rw [← List.take_append_drop (k + 1) (entS s), ← List.append_assoc, List.append_assoc] at h2
    exact okE_pre h2)
theorem join_four (n : Nat) (E : List Ent) (i : Int) : i < 0 ∨ (¬ i < 0 ∧ (n : Int) ≤ i) ∨ (¬ i < 0 ∧ ¬ (n : Int) ≤ i ∧ E.any (keyB i) = true) ∨ (¬ i < 0 ∧ ¬ (n : Int) ≤ i ∧ E.any (keyB i) = false) := by
  by_cases h1 : i < 0
  · exact .inl h1
  · by_cases h2 : (n : Int) ≤ i
    · exact .inr (.inl ⟨h1, h2⟩)
    · cases h3 : E.any (keyB i)
      · exact .inr (.inr (.inr ⟨h1, h2, rfl⟩))
      · exact .inr (.inr (.inl ⟨h1, h2, rfl⟩))
theorem boolT_len (l : List Bool) : (boolT l).length = l.length := by
  have := flat_len (f := fun b : Bool => [Tree.v (.bool b)]) (s := 1) (fun _ => rfl) l
  rw [Nat.mul_one] at this
  exact this
theorem met_get {n : Nat} {E : List Ent} {j : Nat} (h : j < n) : (boolT (metOf n E))[j * 1]? = some (.v (.bool (E.any (keyB j)))) :=
  flat_get (f := fun b : Bool => [Tree.v (.bool b)]) (s := 1) (fun _ => rfl) (metOf_get h) 0 (by decide)
theorem met_cell {n : Nat} {E : List Ent} {j : Nat} (h : j < n) : (AObj.row 4 1 n (boolT (metOf n E)) false).cells[j * 1]? = some (B (E.any (keyB j))) := by
  show ((boolT (metOf n E)).map D.t)[j * 1]? = _
  rw [List.getElem?_map, met_get h]
  rfl
theorem flat_rep {α : Type} (f : α → List Tree) (x : α) (n : Nat) : (List.replicate n (f x)).flatten = (List.replicate n x).flatMap f := by
  rw [List.flatMap_def, List.map_replicate]
theorem arr0 {n : Nat} : (List.replicate n [ti 0, .sl 0 []]).flatten = shT (arrOf n []) := by
  rw [arrOf_nil]; exact flat_rep (fun s : Sh => [ti s.1, .sl s.2.length (ptT s.2)]) (0, []) n
theorem met0 {n : Nat} : (List.replicate n [Tree.v (.bool false)]).flatten = boolT (metOf n []) := by
  rw [metOf_nil]; exact flat_rep (fun b : Bool => [Tree.v (.bool b)]) false n
theorem Try.sl84 : Try.prog.underlying 84 = some (.slice 93) := by kernel_rfl
theorem Try.e84 : elemSz Try.prog 84 = some 5 := by kernel_rfl
theorem Try.o93_0 : fieldOff Try.prog 93 0 = some 0 := by kernel_rfl
theorem Try.o93_1 : fieldOff Try.prog 93 1 = some 1 := by kernel_rfl
theorem Try.o93_2 : fieldOff Try.prog 93 2 = some 4 := by kernel_rfl
theorem Try.b96 : BuildT Try.prog 96 [.int .i64 0, .int .i64 0, .int .i64 0, .slice none 0 0, .slice none 0 0] [(0, 1), (1, 3), (4, 1)] := ⟨by simp [Value.oneCell'], (fun i => (#[(0, 1), (1, 3), (4, 1)] : Array (Nat × Nat))[i]?), fun i p h => by simpa using h, fun parts => by kernel_rfl⟩
theorem Try.app81 : AppT Try.prog 81 96 (.agg #[.int .i64 0, .int .i64 0, .int .i64 0, .slice none 0 0, .slice none 0 0]) 5 72 := ⟨by kernel_rfl, by kernel_rfl, rfl, by decide⟩
theorem Try.lit81 (len : Nat) (hl : len * 5 ≤ 2 ^ 24) : LitT Try.prog 81 96 5 len (List.replicate len (Value.cells (.agg #[.int .i64 0, .int .i64 0, .int .i64 0, .slice none 0 0, .slice none 0 0])).toList).flatten := LitT.of Try.app81 (by simp [Value.cells, Value.oneCell']) len hl
theorem Try.r96 : rowT Try.prog 96 = some true := by kernel_rfl
theorem Try.s96 : (Try.prog.info? 96).map (·.size) = some 5 := by kernel_rfl
theorem Try.z96 : (Try.prog.info? 96).bind (·.zero) = some (.agg #[.int .i64 0, .int .i64 0, .int .i64 0, .slice none 0 0, .slice none 0 0]) := by kernel_rfl
theorem Try.sl22 : Try.prog.underlying 22 = some (.slice 3) := by kernel_rfl
theorem Try.app132 : AppT Try.prog 132 4 (.bool false) 1 1 := ⟨by kernel_rfl, by kernel_rfl, rfl, by decide⟩
theorem Try.e132 : elemSz Try.prog 132 = some 1 := by kernel_rfl
theorem Try.r4 : rowT Try.prog 4 = some false := by kernel_rfl
theorem Try.s4 : (Try.prog.info? 4).map (·.size) = some 1 := by kernel_rfl
theorem Try.r51 : rowT Try.prog 51 = some true := by kernel_rfl
theorem Try.s51 : (Try.prog.info? 51).map (·.size) = some 2 := by kernel_rfl
set_option maxRecDepth 100000 in
theorem given_does (l : List Sht) (hl : l.length ≤ 1000) : Does Try.prog 61 [.t (.sl l.length (shtT l))] [] (.t (.sl l.length (shtT l))) [] := by
  refine spec_of Try.func61 rfl (by simp [Try.f61]) fun E hE => ?_
  refine aw_seq ?_
  refine aw_region 108 hE (by decide) rfl rfl ?_
  refine sq_op (some 2) 108 rfl rfl rfl (ok_assign rfl rfl) ?_
  refine sq_nil ?_
  refine aw_seq ?_
  refine aw_region 116 hE (by decide) rfl rfl ?_
  refine sq_op (some 3) 116 rfl rfl rfl (ok_assign rfl rfl) ?_
  refine sq_nil ?_
  refine aw_seq ?_
  refine aw_seq ?_
  refine aw_region 124 hE (by decide) rfl rfl ?_
  refine sq_op (some 4) 124 rfl rfl rfl (ok_assign rfl rfl) ?_
  refine sq_nil ?_
  refine aw_block ?_
  refine aw_nilrow 3 96 5 true rfl (by decide) ?_
  refine aw_loop (ι := Nat) (fun r => lit [(0, .t (.sl l.length (shtT l))), (3, .own 0), (4, I r)] [(0, .row 96 5 r (shtT (l.take r)) true)] 100) (fun r => r ≤ l.length) (fun r => l.length - r) 0 (ent_of [(0, 124)] 100 (.cons rfl (.t rfl) (.cons rfl (.own rfl rfl) (.cons rfl (.t rfl) .nil))) (.cons rfl (.row rfl rfl) .nil) rfl) (by omega) (fun r hC0 => ?_)
  skip
  refine aw_seq ?_
  refine aw_seq ?_
  refine aw_region 132 hE (by decide) rfl rfl ?_
  refine sq_op (some 5) 108 rfl rfl rfl (ok_move rfl rfl) ?_
  refine sq_op (some 6) 116 rfl rfl rfl (ok_move rfl rfl) ?_
  refine sq_op (some 7) 124 rfl rfl rfl (withEv (x := .tmp 6) rfl (fun h1 => by first | exact ok_len Try.sl84 rfl rfl (.t h1) | exact ok_len Try.sl84 rfl rfl (.own h1 rfl) | exact ok_len Try.sl84 rfl rfl (.nil h1))) ?_
  refine sq_op (some 8) 132 rfl rfl rfl (ok_lss rfl rfl rfl) ?_
  refine sq_nil ?_
  refine aw_cond rfl (fun hb0 => ?_) (fun hb0 => ?_)
  · simp at hb0
    obtain ⟨s, hs⟩ : ∃ s, l[r]? = some s := ⟨_, List.getElem?_eq_getElem hb0⟩
    have f0 : (shtT l)[r * 5 + 0]? = some (ti s.x) := flat_get (f := shtC) (fun _ => rfl) hs 0 (by decide)
    have f1 : ((shtT l).drop (r * 5 + 1)).take 3 = [ti s.wd, ti s.ht, .sl s.sh.length (shT s.sh)] := flat_sub (f := shtC) (fun _ => rfl) hs 1 3 (by decide)
    have f2 : (shtT l)[r * 5 + 4]? = some (.sl s.of_.length (intsT s.of_)) := flat_get (f := shtC) (fun _ => rfl) hs 4 (by decide)
    have hnext : shtT (l.take r) ++ shtC s = shtT (l.take (r + 1)) := by rw [take_snoc hs]; simp [shtT]
    refine aw_skip ?_
    refine aw_seq ?_
    refine aw_block ?_
    refine aw_any [[], [], [], [1, 2], [1, 2, 3], [1, 2, 3, 4], [], [], [6, 7], [6, 7, 8], [6, 7, 8, 9], [], [], [11, 12], [11, 12, 13], [11, 12, 13, 14], [1, 2, 3, 4, 5, 6, 7, 8, 9, 10, 11, 12, 13, 14, 15], [1, 2, 3, 4, 5, 6, 7, 8, 9, 10, 11, 12, 13, 14, 15, 16], [0, 1, 2, 3, 4, 5, 6, 7, 8, 9, 10, 11, 12, 13, 14, 15, 16, 17], [0, 1, 2, 3, 4, 5, 6, 7, 8, 9, 10, 11, 12, 13, 14, 15, 16, 17, 18]] [[], [], [], [], [], [], [], [], [], [], [], [], [], [], [], [], [], [], [0], []] Try.mix hE (by decide) (by kernel_rfl) 292 rfl (fun hr0 => ?_)
    refine an_op hr0 rfl 132 1 rfl rfl (ok_move rfl (ev_E (by kernel_rfl) rfl)) rfl (fun hr1 => ?_)
    clear hr0
    refine an_op hr1 rfl 140 2 rfl rfl (ok_move rfl (ev_E (by kernel_rfl) rfl)) rfl (fun hr2 => ?_)
    clear hr1
    refine an_op hr2 rfl 148 3 rfl rfl (ok_move rfl (ev_E (by kernel_rfl) rfl)) rfl (fun hr3 => ?_)
    clear hr2
    refine an_op hr3 rfl 156 4 rfl rfl (withEv (x := .tmp 12) (ev_T hr3 1 1 rfl (by kernel_rfl) rfl) (fun h1 => withEv (x := .tmp 13) (ev_T hr3 2 0 rfl (by kernel_rfl) rfl) (fun h2 => by first | exact ix_p Try.e84 rfl h1 h2 (by omega) | exact ix_r Try.e84 rfl h1 (by first | exact ctx_HE hr3.ok (by kernel_rfl) rfl) h2 (by omega) | exact ok_indexp rfl Try.e84 h1 h2 (by omega) (by omega) | exact ok_indexr rfl Try.e84 h1 (by first | exact ctx_HE hr3.ok (by kernel_rfl) rfl) h2 (by omega) (by omega)))) rfl (fun hr4 => ?_)
    clear hr3
    refine an_op hr4 rfl 164 5 rfl rfl (withEv (x := .tmp 14) (ev_T hr4 3 0 rfl (by kernel_rfl) rfl) (fun h1 => by first | exact ok_fieldr rfl Try.o93_0 h1 | exact ok_fieldp rfl Try.o93_0 h1)) rfl (fun hr5 => ?_)
    clear hr4
    refine an_op hr5 rfl 172 6 rfl rfl (withEv (x := .tmp 15) (ev_T hr5 4 0 rfl (by kernel_rfl) rfl) (fun h1 => by first | exact ld1 Try.r3 rfl h1 (by first | exact ctx_HE hr5.ok (by kernel_rfl) rfl) (by first | assumption | rfl) | exact lp1 Try.r3 rfl h1 (by first | assumption | rfl))) rfl (fun hr6 => ?_)
    clear hr5
    refine an_op hr6 rfl 180 7 rfl rfl (ok_move rfl (ev_E (by kernel_rfl) rfl)) rfl (fun hr7 => ?_)
    clear hr6
    refine an_op hr7 rfl 188 8 rfl rfl (ok_move rfl (ev_E (by kernel_rfl) rfl)) rfl (fun hr8 => ?_)
    clear hr7
    refine an_op hr8 rfl 196 9 rfl rfl (withEv (x := .tmp 17) (ev_T hr8 6 1 rfl (by kernel_rfl) rfl) (fun h1 => withEv (x := .tmp 18) (ev_T hr8 7 0 rfl (by kernel_rfl) rfl) (fun h2 => by first | exact ix_p Try.e84 rfl h1 h2 (by omega) | exact ix_r Try.e84 rfl h1 (by first | exact ctx_HE hr8.ok (by kernel_rfl) rfl) h2 (by omega) | exact ok_indexp rfl Try.e84 h1 h2 (by omega) (by omega) | exact ok_indexr rfl Try.e84 h1 (by first | exact ctx_HE hr8.ok (by kernel_rfl) rfl) h2 (by omega) (by omega)))) rfl (fun hr9 => ?_)
    clear hr8
    refine an_op hr9 rfl 204 10 rfl rfl (withEv (x := .tmp 19) (ev_T hr9 8 0 rfl (by kernel_rfl) rfl) (fun h1 => by first | exact ok_fieldr rfl Try.o93_1 h1 | exact ok_fieldp rfl Try.o93_1 h1)) rfl (fun hr10 => ?_)
    clear hr9
    refine an_op hr10 rfl 212 11 rfl rfl (withEv (x := .tmp 20) (ev_T hr10 9 0 rfl (by kernel_rfl) rfl) (fun h1 => by first | exact ldc Try.r45 Try.s45 rfl h1 (by first | exact ctx_HE hr10.ok (by kernel_rfl) rfl) (by first | exact (.take (.take (.take .done))) | exact (.skip (.take (.take (.take .done)))) | exact (.skip (.skip (.take (.take (.take .done))))) | exact (.skip (.skip (.skip (.take (.take (.take .done)))))) | exact (.skip (.skip (.skip (.skip (.take (.take (.take .done))))))) | exact (.skip (.skip (.skip (.skip (.skip (.take (.take (.take .done)))))))) | exact (.skip (.skip (.skip (.skip (.skip (.skip (.take (.take (.take .done))))))))) | exact (.skip (.skip (.skip (.skip (.skip (.skip (.skip (.take (.take (.take .done)))))))))) | exact (.skip (.skip (.skip (.skip (.skip (.skip (.skip (.skip (.take (.take (.take .done)))))))))))) | exact lpn Try.r45 Try.s45 rfl h1 (by first | assumption | rfl) rfl)) rfl (fun hr11 => ?_)
    clear hr10
    refine an_op hr11 rfl 220 12 rfl rfl (ok_move rfl (ev_E (by kernel_rfl) rfl)) rfl (fun hr12 => ?_)
    clear hr11
    refine an_op hr12 rfl 228 13 rfl rfl (ok_move rfl (ev_E (by kernel_rfl) rfl)) rfl (fun hr13 => ?_)
    clear hr12
    refine an_op hr13 rfl 236 14 rfl rfl (withEv (x := .tmp 22) (ev_T hr13 11 1 rfl (by kernel_rfl) rfl) (fun h1 => withEv (x := .tmp 23) (ev_T hr13 12 0 rfl (by kernel_rfl) rfl) (fun h2 => by first | exact ix_p Try.e84 rfl h1 h2 (by omega) | exact ix_r Try.e84 rfl h1 (by first | exact ctx_HE hr13.ok (by kernel_rfl) rfl) h2 (by omega) | exact ok_indexp rfl Try.e84 h1 h2 (by omega) (by omega) | exact ok_indexr rfl Try.e84 h1 (by first | exact ctx_HE hr13.ok (by kernel_rfl) rfl) h2 (by omega) (by omega)))) rfl (fun hr14 => ?_)
    clear hr13
    refine an_op hr14 rfl 244 15 rfl rfl (withEv (x := .tmp 24) (ev_T hr14 13 0 rfl (by kernel_rfl) rfl) (fun h1 => by first | exact ok_fieldr rfl Try.o93_2 h1 | exact ok_fieldp rfl Try.o93_2 h1)) rfl (fun hr15 => ?_)
    clear hr14
    refine an_op hr15 rfl 252 16 rfl rfl (withEv (x := .tmp 25) (ev_T hr15 14 0 rfl (by kernel_rfl) rfl) (fun h1 => by first | exact ld1 Try.r22 rfl h1 (by first | exact ctx_HE hr15.ok (by kernel_rfl) rfl) (by first | assumption | rfl) | exact lp1 Try.r22 rfl h1 (by first | assumption | rfl))) rfl (fun hr16 => ?_)
    clear hr15
    refine an_op hr16 rfl 260 17 rfl rfl (bld Try.b96 rfl (ev_cons (ev_T hr16 5 10 rfl (by kernel_rfl) rfl) (ev_cons (ev_T hr16 10 5 rfl (by kernel_rfl) rfl) (ev_cons (ev_T hr16 15 0 rfl (by kernel_rfl) rfl) ev_nil))) (.cons rfl rfl rfl rfl (.put .done) (.cons rfl rfl rfl rfl (.skip (.put (.put (.put .done)))) (.cons rfl rfl rfl rfl (.skip (.skip (.skip (.skip (.put .done))))) .nil)))) rfl (fun hr17 => ?_)
    clear hr16
    refine an_op hr17 rfl 268 18 rfl rfl (lit_ true (Try.lit81 _ (by decide)) rfl (ev_cons (ev_T hr17 16 0 rfl (by kernel_rfl) rfl) ev_nil) (.cons rfl rfl rfl rfl (.put (.put (.put (.put (.put .done))))) .nil) (.t (.t (.t (.t (.t .nil)))))) rfl (fun hr18 => ?_)
    clear hr17
    refine an_op hr18 rfl 276 19 rfl rfl (withEv (x := .tmp 11) (ev_T hr18 0 17 rfl (by kernel_rfl) rfl) (fun h1 => withEv (x := .tmp 28) (ev_T hr18 17 0 rfl (by kernel_rfl) rfl) (fun h2 => by first | exact ok_append true Try.app81 rfl (.own h1 (by first | exact ctx_HE hr18.ok (by kernel_rfl) rfl | exact ev_H hr18 17 0 rfl (by kernel_rfl) rfl rfl)) (.own h2 (by first | exact ctx_HE hr18.ok (by kernel_rfl) rfl | exact ev_H hr18 17 0 rfl (by kernel_rfl) rfl rfl)) (by first | rfl | simp | omega) ⟨by omega, (by unfold maxLen; omega)⟩ | exact ok_append true Try.app81 rfl (.own h1 (by first | exact ctx_HE hr18.ok (by kernel_rfl) rfl | exact ev_H hr18 17 0 rfl (by kernel_rfl) rfl rfl)) (.t h2) (by first | rfl | simp | omega) ⟨by omega, (by unfold maxLen; omega)⟩ | exact ok_append true Try.app81 rfl (.own h1 (by first | exact ctx_HE hr18.ok (by kernel_rfl) rfl | exact ev_H hr18 17 0 rfl (by kernel_rfl) rfl rfl)) (.nil h2) (by first | rfl | simp | omega) ⟨by omega, (by unfold maxLen; omega)⟩ | exact ok_append true Try.app81 rfl (.nil h1) (.own h2 (by first | exact ctx_HE hr18.ok (by kernel_rfl) rfl | exact ev_H hr18 17 0 rfl (by kernel_rfl) rfl rfl)) (by first | rfl | simp | omega) ⟨by omega, (by unfold maxLen; omega)⟩ | exact ok_append true Try.app81 rfl (.nil h1) (.t h2) (by first | rfl | simp | omega) ⟨by omega, (by unfold maxLen; omega)⟩ | exact ok_append true Try.app81 rfl (.nil h1) (.nil h2) (by first | rfl | simp | omega) ⟨by omega, (by unfold maxLen; omega)⟩))) rfl (fun hr19 => ?_)
    clear hr18
    refine an_op hr19 rfl 284 20 rfl rfl (ok_assign rfl (ev_T hr19 18 0 rfl (by kernel_rfl) rfl)) rfl (fun hr20 => ?_)
    clear hr19
    refine an_nil [some 11, some 12, some 13, some 14, some 15, some 16, some 17, some 18, some 19, some 20, some 21, some 22, some 23, some 24, some 25, some 26, some 27, some 28, some 29, some 3] hr20 rfl (by kernel_rfl) ?_
    clear hr20
    refine aw_region 316 hE (by decide) rfl rfl ?_
    refine sq_op (some 9) 300 rfl rfl rfl (ok_move rfl rfl) ?_
    refine sq_op (some 10) 308 rfl rfl rfl (ok_add rfl rfl rfl (by omega)) ?_
    refine sq_op (some 4) 316 rfl rfl rfl (ok_assign rfl rfl) ?_
    refine sq_nil ?_
    exact ⟨r + 1, by omega, show l.length - (r + 1) < l.length - r by omega, ent_of [(0, 276)] 100 (.cons rfl (.t rfl) (.cons rfl (.own rfl rfl) (.cons rfl (.t rfl) .nil))) (.cons rfl (.row hnext rfl) .nil) rfl⟩
  · simp at hb0
    obtain rfl : r = l.length := by omega
    refine aw_exit ?_
    refine aw_seq ?_
    refine aw_region 148 hE (by decide) rfl rfl ?_
    refine sq_op (some 30) 140 rfl rfl rfl (ok_move rfl rfl) ?_
    refine sq_op (some 2) 148 rfl rfl rfl (ok_assign rfl rfl) ?_
    refine sq_nil ?_
    refine aw_ret ?_
    exact ret1 [] rfl rfl (.rd rfl rfl (by rw [List.take_length]) rfl) .nil rfl
set_option maxRecDepth 100000 in
theorem plain_own (l : List Sht) (hl : l.length ≤ 1000) : Does Try.prog 58 [.t (.sl l.length (shtT l))] [] (.own 100) [(100, .row 93 5 l.length (shtT l) false)] := by
  refine spec_of Try.func58 rfl (by simp [Try.f58]) fun E hE => ?_
  refine aw_seq ?_
  refine aw_region 108 hE (by decide) rfl rfl ?_
  refine sq_op (some 2) 108 rfl rfl rfl (ok_assign rfl rfl) ?_
  refine sq_nil ?_
  refine aw_seq ?_
  refine aw_region 116 hE (by decide) rfl rfl ?_
  refine sq_op (some 3) 116 rfl rfl rfl (ok_assign rfl rfl) ?_
  refine sq_nil ?_
  refine aw_seq ?_
  refine aw_seq ?_
  refine aw_region 124 hE (by decide) rfl rfl ?_
  refine sq_op (some 4) 124 rfl rfl rfl (ok_assign rfl rfl) ?_
  refine sq_nil ?_
  refine aw_block ?_
  refine aw_nilrow 3 93 5 false rfl (by decide) ?_
  refine aw_loop (ι := Nat) (fun r => lit [(0, .t (.sl l.length (shtT l))), (3, .own 0), (4, I r)] [(0, .row 93 5 r (shtT (l.take r)) false)] 100) (fun r => r ≤ l.length) (fun r => l.length - r) 0 (ent_of [(0, 124)] 100 (.cons rfl (.t rfl) (.cons rfl (.own rfl rfl) (.cons rfl (.t rfl) .nil))) (.cons rfl (.row rfl rfl) .nil) rfl) (by omega) (fun r hC0 => ?_)
  skip
  refine aw_seq ?_
  refine aw_seq ?_
  refine aw_region 132 hE (by decide) rfl rfl ?_
  refine sq_op (some 5) 108 rfl rfl rfl (ok_move rfl rfl) ?_
  refine sq_op (some 6) 116 rfl rfl rfl (ok_move rfl rfl) ?_
  refine sq_op (some 7) 124 rfl rfl rfl (withEv (x := .tmp 6) rfl (fun h1 => by first | exact ok_len Try.sl81 rfl rfl (.t h1) | exact ok_len Try.sl81 rfl rfl (.own h1 rfl) | exact ok_len Try.sl81 rfl rfl (.nil h1))) ?_
  refine sq_op (some 8) 132 rfl rfl rfl (ok_lss rfl rfl rfl) ?_
  refine sq_nil ?_
  refine aw_cond rfl (fun hb0 => ?_) (fun hb0 => ?_)
  · simp at hb0
    obtain ⟨s, hs⟩ : ∃ s, l[r]? = some s := ⟨_, List.getElem?_eq_getElem hb0⟩
    have f0 : (shtT l)[r * 5 + 0]? = some (ti s.x) := flat_get (f := shtC) (fun _ => rfl) hs 0 (by decide)
    have f1 : ((shtT l).drop (r * 5 + 1)).take 3 = [ti s.wd, ti s.ht, .sl s.sh.length (shT s.sh)] := flat_sub (f := shtC) (fun _ => rfl) hs 1 3 (by decide)
    have f2 : (shtT l)[r * 5 + 4]? = some (.sl s.of_.length (intsT s.of_)) := flat_get (f := shtC) (fun _ => rfl) hs 4 (by decide)
    have hnext : shtT (l.take r) ++ shtC s = shtT (l.take (r + 1)) := by rw [take_snoc hs]; simp [shtT]
    refine aw_skip ?_
    refine aw_seq ?_
    refine aw_block ?_
    refine aw_any [[], [], [], [1, 2], [1, 2, 3], [1, 2, 3, 4], [], [], [6, 7], [6, 7, 8], [6, 7, 8, 9], [], [], [11, 12], [11, 12, 13], [11, 12, 13, 14], [1, 2, 3, 4, 5, 6, 7, 8, 9, 10, 11, 12, 13, 14, 15], [1, 2, 3, 4, 5, 6, 7, 8, 9, 10, 11, 12, 13, 14, 15, 16], [0, 1, 2, 3, 4, 5, 6, 7, 8, 9, 10, 11, 12, 13, 14, 15, 16, 17], [0, 1, 2, 3, 4, 5, 6, 7, 8, 9, 10, 11, 12, 13, 14, 15, 16, 17, 18]] [[], [], [], [], [], [], [], [], [], [], [], [], [], [], [], [], [], [], [0], []] Try.mix hE (by decide) (by kernel_rfl) 292 rfl (fun hr0 => ?_)
    refine an_op hr0 rfl 132 1 rfl rfl (ok_move rfl (ev_E (by kernel_rfl) rfl)) rfl (fun hr1 => ?_)
    clear hr0
    refine an_op hr1 rfl 140 2 rfl rfl (ok_move rfl (ev_E (by kernel_rfl) rfl)) rfl (fun hr2 => ?_)
    clear hr1
    refine an_op hr2 rfl 148 3 rfl rfl (ok_move rfl (ev_E (by kernel_rfl) rfl)) rfl (fun hr3 => ?_)
    clear hr2
    refine an_op hr3 rfl 156 4 rfl rfl (withEv (x := .tmp 12) (ev_T hr3 1 1 rfl (by kernel_rfl) rfl) (fun h1 => withEv (x := .tmp 13) (ev_T hr3 2 0 rfl (by kernel_rfl) rfl) (fun h2 => by first | exact ix_p Try.e81 rfl h1 h2 (by omega) | exact ix_r Try.e81 rfl h1 (by first | exact ctx_HE hr3.ok (by kernel_rfl) rfl) h2 (by omega) | exact ok_indexp rfl Try.e81 h1 h2 (by omega) (by omega) | exact ok_indexr rfl Try.e81 h1 (by first | exact ctx_HE hr3.ok (by kernel_rfl) rfl) h2 (by omega) (by omega)))) rfl (fun hr4 => ?_)
    clear hr3
    refine an_op hr4 rfl 164 5 rfl rfl (withEv (x := .tmp 14) (ev_T hr4 3 0 rfl (by kernel_rfl) rfl) (fun h1 => by first | exact ok_fieldr rfl Try.o96_0 h1 | exact ok_fieldp rfl Try.o96_0 h1)) rfl (fun hr5 => ?_)
    clear hr4
    refine an_op hr5 rfl 172 6 rfl rfl (withEv (x := .tmp 15) (ev_T hr5 4 0 rfl (by kernel_rfl) rfl) (fun h1 => by first | exact ld1 Try.r3 rfl h1 (by first | exact ctx_HE hr5.ok (by kernel_rfl) rfl) (by first | assumption | rfl) | exact lp1 Try.r3 rfl h1 (by first | assumption | rfl))) rfl (fun hr6 => ?_)
    clear hr5
    refine an_op hr6 rfl 180 7 rfl rfl (ok_move rfl (ev_E (by kernel_rfl) rfl)) rfl (fun hr7 => ?_)
    clear hr6
    refine an_op hr7 rfl 188 8 rfl rfl (ok_move rfl (ev_E (by kernel_rfl) rfl)) rfl (fun hr8 => ?_)
    clear hr7
    refine an_op hr8 rfl 196 9 rfl rfl (withEv (x := .tmp 17) (ev_T hr8 6 1 rfl (by kernel_rfl) rfl) (fun h1 => withEv (x := .tmp 18) (ev_T hr8 7 0 rfl (by kernel_rfl) rfl) (fun h2 => by first | exact ix_p Try.e81 rfl h1 h2 (by omega) | exact ix_r Try.e81 rfl h1 (by first | exact ctx_HE hr8.ok (by kernel_rfl) rfl) h2 (by omega) | exact ok_indexp rfl Try.e81 h1 h2 (by omega) (by omega) | exact ok_indexr rfl Try.e81 h1 (by first | exact ctx_HE hr8.ok (by kernel_rfl) rfl) h2 (by omega) (by omega)))) rfl (fun hr9 => ?_)
    clear hr8
    refine an_op hr9 rfl 204 10 rfl rfl (withEv (x := .tmp 19) (ev_T hr9 8 0 rfl (by kernel_rfl) rfl) (fun h1 => by first | exact ok_fieldr rfl Try.o96_1 h1 | exact ok_fieldp rfl Try.o96_1 h1)) rfl (fun hr10 => ?_)
    clear hr9
    refine an_op hr10 rfl 212 11 rfl rfl (withEv (x := .tmp 20) (ev_T hr10 9 0 rfl (by kernel_rfl) rfl) (fun h1 => by first | exact ldc Try.r45 Try.s45 rfl h1 (by first | exact ctx_HE hr10.ok (by kernel_rfl) rfl) (by first | exact (.take (.take (.take .done))) | exact (.skip (.take (.take (.take .done)))) | exact (.skip (.skip (.take (.take (.take .done))))) | exact (.skip (.skip (.skip (.take (.take (.take .done)))))) | exact (.skip (.skip (.skip (.skip (.take (.take (.take .done))))))) | exact (.skip (.skip (.skip (.skip (.skip (.take (.take (.take .done)))))))) | exact (.skip (.skip (.skip (.skip (.skip (.skip (.take (.take (.take .done))))))))) | exact (.skip (.skip (.skip (.skip (.skip (.skip (.skip (.take (.take (.take .done)))))))))) | exact (.skip (.skip (.skip (.skip (.skip (.skip (.skip (.skip (.take (.take (.take .done)))))))))))) | exact lpn Try.r45 Try.s45 rfl h1 (by first | assumption | rfl) rfl)) rfl (fun hr11 => ?_)
    clear hr10
    refine an_op hr11 rfl 220 12 rfl rfl (ok_move rfl (ev_E (by kernel_rfl) rfl)) rfl (fun hr12 => ?_)
    clear hr11
    refine an_op hr12 rfl 228 13 rfl rfl (ok_move rfl (ev_E (by kernel_rfl) rfl)) rfl (fun hr13 => ?_)
    clear hr12
    refine an_op hr13 rfl 236 14 rfl rfl (withEv (x := .tmp 22) (ev_T hr13 11 1 rfl (by kernel_rfl) rfl) (fun h1 => withEv (x := .tmp 23) (ev_T hr13 12 0 rfl (by kernel_rfl) rfl) (fun h2 => by first | exact ix_p Try.e81 rfl h1 h2 (by omega) | exact ix_r Try.e81 rfl h1 (by first | exact ctx_HE hr13.ok (by kernel_rfl) rfl) h2 (by omega) | exact ok_indexp rfl Try.e81 h1 h2 (by omega) (by omega) | exact ok_indexr rfl Try.e81 h1 (by first | exact ctx_HE hr13.ok (by kernel_rfl) rfl) h2 (by omega) (by omega)))) rfl (fun hr14 => ?_)
    clear hr13
    refine an_op hr14 rfl 244 15 rfl rfl (withEv (x := .tmp 24) (ev_T hr14 13 0 rfl (by kernel_rfl) rfl) (fun h1 => by first | exact ok_fieldr rfl Try.o96_2 h1 | exact ok_fieldp rfl Try.o96_2 h1)) rfl (fun hr15 => ?_)
    clear hr14
    refine an_op hr15 rfl 252 16 rfl rfl (withEv (x := .tmp 25) (ev_T hr15 14 0 rfl (by kernel_rfl) rfl) (fun h1 => by first | exact ld1 Try.r22 rfl h1 (by first | exact ctx_HE hr15.ok (by kernel_rfl) rfl) (by first | assumption | rfl) | exact lp1 Try.r22 rfl h1 (by first | assumption | rfl))) rfl (fun hr16 => ?_)
    clear hr15
    refine an_op hr16 rfl 260 17 rfl rfl (bld Try.b93 rfl (ev_cons (ev_T hr16 5 10 rfl (by kernel_rfl) rfl) (ev_cons (ev_T hr16 10 5 rfl (by kernel_rfl) rfl) (ev_cons (ev_T hr16 15 0 rfl (by kernel_rfl) rfl) ev_nil))) (.cons rfl rfl rfl rfl (.put .done) (.cons rfl rfl rfl rfl (.skip (.put (.put (.put .done)))) (.cons rfl rfl rfl rfl (.skip (.skip (.skip (.skip (.put .done))))) .nil)))) rfl (fun hr17 => ?_)
    clear hr16
    refine an_op hr17 rfl 268 18 rfl rfl (lit_ true (Try.lit84 _ (by decide)) rfl (ev_cons (ev_T hr17 16 0 rfl (by kernel_rfl) rfl) ev_nil) (.cons rfl rfl rfl rfl (.put (.put (.put (.put (.put .done))))) .nil) (.t (.t (.t (.t (.t .nil)))))) rfl (fun hr18 => ?_)
    clear hr17
    refine an_op hr18 rfl 276 19 rfl rfl (withEv (x := .tmp 11) (ev_T hr18 0 17 rfl (by kernel_rfl) rfl) (fun h1 => withEv (x := .tmp 28) (ev_T hr18 17 0 rfl (by kernel_rfl) rfl) (fun h2 => by first | exact ok_append false Try.app84 rfl (.own h1 (by first | exact ctx_HE hr18.ok (by kernel_rfl) rfl | exact ev_H hr18 17 0 rfl (by kernel_rfl) rfl rfl)) (.own h2 (by first | exact ctx_HE hr18.ok (by kernel_rfl) rfl | exact ev_H hr18 17 0 rfl (by kernel_rfl) rfl rfl)) (by first | rfl | simp | omega) ⟨by omega, (by unfold maxLen; omega)⟩ | exact ok_append false Try.app84 rfl (.own h1 (by first | exact ctx_HE hr18.ok (by kernel_rfl) rfl | exact ev_H hr18 17 0 rfl (by kernel_rfl) rfl rfl)) (.t h2) (by first | rfl | simp | omega) ⟨by omega, (by unfold maxLen; omega)⟩ | exact ok_append false Try.app84 rfl (.own h1 (by first | exact ctx_HE hr18.ok (by kernel_rfl) rfl | exact ev_H hr18 17 0 rfl (by kernel_rfl) rfl rfl)) (.nil h2) (by first | rfl | simp | omega) ⟨by omega, (by unfold maxLen; omega)⟩ | exact ok_append false Try.app84 rfl (.nil h1) (.own h2 (by first | exact ctx_HE hr18.ok (by kernel_rfl) rfl | exact ev_H hr18 17 0 rfl (by kernel_rfl) rfl rfl)) (by first | rfl | simp | omega) ⟨by omega, (by unfold maxLen; omega)⟩ | exact ok_append false Try.app84 rfl (.nil h1) (.t h2) (by first | rfl | simp | omega) ⟨by omega, (by unfold maxLen; omega)⟩ | exact ok_append false Try.app84 rfl (.nil h1) (.nil h2) (by first | rfl | simp | omega) ⟨by omega, (by unfold maxLen; omega)⟩))) rfl (fun hr19 => ?_)
    clear hr18
    refine an_op hr19 rfl 284 20 rfl rfl (ok_assign rfl (ev_T hr19 18 0 rfl (by kernel_rfl) rfl)) rfl (fun hr20 => ?_)
    clear hr19
    refine an_nil [some 11, some 12, some 13, some 14, some 15, some 16, some 17, some 18, some 19, some 20, some 21, some 22, some 23, some 24, some 25, some 26, some 27, some 28, some 29, some 3] hr20 rfl (by kernel_rfl) ?_
    clear hr20
    refine aw_region 316 hE (by decide) rfl rfl ?_
    refine sq_op (some 9) 300 rfl rfl rfl (ok_move rfl rfl) ?_
    refine sq_op (some 10) 308 rfl rfl rfl (ok_add rfl rfl rfl (by omega)) ?_
    refine sq_op (some 4) 316 rfl rfl rfl (ok_assign rfl rfl) ?_
    refine sq_nil ?_
    exact ⟨r + 1, by omega, show l.length - (r + 1) < l.length - r by omega, ent_of [(0, 276)] 100 (.cons rfl (.t rfl) (.cons rfl (.own rfl rfl) (.cons rfl (.t rfl) .nil))) (.cons rfl (.row hnext rfl) .nil) rfl⟩
  · simp at hb0
    obtain rfl : r = l.length := by omega
    refine aw_exit ?_
    refine aw_seq ?_
    refine aw_region 148 hE (by decide) rfl rfl ?_
    refine sq_op (some 30) 140 rfl rfl rfl (ok_move rfl rfl) ?_
    refine sq_op (some 2) 148 rfl rfl rfl (ok_assign rfl rfl) ?_
    refine sq_nil ?_
    refine aw_ret ?_
    exact ret1 [(100, 0)] rfl rfl (.own rfl rfl) (.cons rfl (.row (by rw [List.take_length]) rfl) .nil) rfl
set_option maxRecDepth 100000 in
set_option maxHeartbeats 4000000 in
theorem join_does (l : List Sht) (w h : Int) (ok : ∀ s ∈ l, ShtOk s) (hl : l.length ≤ 1000) : Does Try.prog 60 [.t (.sl l.length (shtT l)), I w, I h] [] (joinD (joinM l w h)) [] := by
  skip
  refine spec_of Try.func60 rfl (by simp [Try.f60]) fun E hE => ?_
  refine aw_seq ?_
  refine aw_region 116 hE (by decide) rfl rfl ?_
  refine sq_op (some 6) 108 rfl rfl rfl (ok_alloc rfl Try.z45 rfl) ?_
  refine sq_op (some 7) 116 rfl rfl rfl (ok_assign rfl rfl) ?_
  refine sq_nil ?_
  refine aw_seq ?_
  refine aw_region 124 hE (by decide) rfl rfl ?_
  refine sq_op (some 8) 124 rfl rfl rfl (ok_assign rfl rfl) ?_
  refine sq_nil ?_
  refine aw_seq ?_
  refine aw_seq ?_
  refine aw_region 148 hE (by decide) rfl rfl ?_
  refine sq_op (some 17) 132 rfl rfl rfl (ok_move rfl rfl) ?_
  refine sq_op (some 18) 140 rfl rfl rfl (withEv (x := .tmp 17) rfl (fun h1 => by first | exact ok_len Try.sl81 rfl rfl (.t h1) | exact ok_len Try.sl81 rfl rfl (.own h1 rfl) | exact ok_len Try.sl81 rfl rfl (.nil h1))) ?_
  refine sq_op (some 19) 148 rfl rfl rfl (ok_move rfl rfl) ?_
  refine sq_nil ?_
  refine aw_block ?_
  refine aw_loop (ι := Nat) (fun r => lit [(0, .t (.sl l.length (shtT l))), (1, I w), (2, I h), (6, .ref 0 0), (8, I (entL (l.take r)).length), (17, .t (.sl l.length (shtT l))), (18, I l.length), (19, I r)] [(0, .box 45 [I 0, I 0, .t (.v (.slice none 0 0))])] 100) (fun r => r ≤ l.length ∧ lensOk (l.take r)) (fun r => l.length - r) 0 (ent_of [(0, 100)] 100 (.cons rfl (.t rfl) (.cons rfl (.t rfl) (.cons rfl (.t rfl) (.cons rfl (.ref rfl rfl) (.cons rfl (.t rfl) (.cons rfl (.t rfl) (.cons rfl (.t rfl) (.cons rfl (.t rfl) .nil)))))))) (.cons rfl (.box' (.cons (.t rfl) (.cons (.t rfl) (.cons (.t rfl) .nil)))) .nil) rfl) ⟨by omega, fun s h => by simp at h⟩ (fun r hC0 => ?_)
  obtain ⟨hr, hC⟩ := hC0
  refine aw_seq ?_
  refine aw_region 108 hE (by decide) rfl rfl ?_
  refine sq_op (some 20) 108 rfl rfl rfl (ok_lss rfl rfl rfl) ?_
  refine sq_nil ?_
  refine aw_seq ?_
  refine aw_cond rfl (fun hb0 => ?_) (fun hb0 => ?_)
  · simp at hb0
    obtain ⟨s, hs⟩ : ∃ s, l[r]? = some s := ⟨_, List.getElem?_eq_getElem hb0⟩
    have hsok := ok s (List.mem_iff_getElem?.2 ⟨r, hs⟩)
    have hofl := hsok.2.2.2
    have hshl := hsok.2.1
    have fS : ((shtT l).drop (r * 5)).take 5 = [ti s.x, ti s.wd, ti s.ht, .sl s.sh.length (shT s.sh), .sl s.of_.length (intsT s.of_)] := flat_part (f := shtC) (fun _ => rfl) hs
    have hEb := entL_bound hC (fun s hs => (ok s (List.mem_of_mem_take hs)).2.2.2)
    rw [List.length_take] at hEb
    refine aw_skip ?_
    refine aw_seq ?_
    refine aw_block ?_
    refine aw_seq ?_
    refine aw_region 140 hE (by decide) rfl rfl ?_
    refine sq_op (some 21) 116 rfl rfl rfl (withEv (x := .tmp 17) rfl (fun h1 => withEv (x := .tmp 19) rfl (fun h2 => by first | exact ix_p Try.e81 rfl h1 h2 (by omega) | exact ix_r Try.e81 rfl h1 rfl h2 (by omega) | exact ok_indexp rfl Try.e81 h1 h2 (by omega) (by omega) | exact ok_indexr rfl Try.e81 h1 rfl h2 (by omega) (by omega)))) ?_
    refine sq_op (some 22) 124 rfl rfl rfl (withEv (x := .tmp 21) rfl (fun h1 => by first | exact ldc Try.r96 Try.s96 rfl h1 rfl (by first | exact (.take (.take (.take (.take (.take .done))))) | exact (.skip (.take (.take (.take (.take (.take .done)))))) | exact (.skip (.skip (.take (.take (.take (.take (.take .done))))))) | exact (.skip (.skip (.skip (.take (.take (.take (.take (.take .done)))))))) | exact (.skip (.skip (.skip (.skip (.take (.take (.take (.take (.take .done))))))))) | exact (.skip (.skip (.skip (.skip (.skip (.take (.take (.take (.take (.take .done)))))))))) | exact (.skip (.skip (.skip (.skip (.skip (.skip (.take (.take (.take (.take (.take .done))))))))))) | exact (.skip (.skip (.skip (.skip (.skip (.skip (.skip (.take (.take (.take (.take (.take .done)))))))))))) | exact (.skip (.skip (.skip (.skip (.skip (.skip (.skip (.skip (.take (.take (.take (.take (.take .done)))))))))))))) | exact lpn Try.r96 Try.s96 rfl h1 (by first | assumption | rfl) rfl)) ?_
    refine sq_op (some 10) 132 rfl rfl rfl (ok_alloc rfl Try.z96 rfl) ?_
    refine sq_op none 140 rfl rfl rfl (withEv (x := .tmp 22) rfl (fun h1 => by first | exact stb (.ev h1) rfl Try.s96 rfl rfl rfl (by first | exact (.put (.put (.put (.put (.put .done))))) | exact (.skip (.put (.put (.put (.put (.put .done)))))) | exact (.skip (.skip (.put (.put (.put (.put (.put .done))))))) | exact (.skip (.skip (.skip (.put (.put (.put (.put (.put .done)))))))) | exact (.skip (.skip (.skip (.skip (.put (.put (.put (.put (.put .done))))))))) | exact (.skip (.skip (.skip (.skip (.skip (.put (.put (.put (.put (.put .done)))))))))) | exact (.skip (.skip (.skip (.skip (.skip (.skip (.put (.put (.put (.put (.put .done))))))))))) | exact (.skip (.skip (.skip (.skip (.skip (.skip (.skip (.put (.put (.put (.put (.put .done)))))))))))) | exact (.skip (.skip (.skip (.skip (.skip (.skip (.skip (.skip (.put (.put (.put (.put (.put .done)))))))))))))) (Nat.succ_pos _) | exact str (.ev h1) rfl Try.s96 rfl rfl rfl (by assumption) rfl (Nat.succ_pos _) | exact stb (.own h1 rfl) rfl Try.s96 rfl rfl rfl (by first | exact (.put (.put (.put (.put (.put .done))))) | exact (.skip (.put (.put (.put (.put (.put .done)))))) | exact (.skip (.skip (.put (.put (.put (.put (.put .done))))))) | exact (.skip (.skip (.skip (.put (.put (.put (.put (.put .done)))))))) | exact (.skip (.skip (.skip (.skip (.put (.put (.put (.put (.put .done))))))))) | exact (.skip (.skip (.skip (.skip (.skip (.put (.put (.put (.put (.put .done)))))))))) | exact (.skip (.skip (.skip (.skip (.skip (.skip (.put (.put (.put (.put (.put .done))))))))))) | exact (.skip (.skip (.skip (.skip (.skip (.skip (.skip (.put (.put (.put (.put (.put .done)))))))))))) | exact (.skip (.skip (.skip (.skip (.skip (.skip (.skip (.skip (.put (.put (.put (.put (.put .done)))))))))))))) (Nat.succ_pos _) | exact str (.own h1 rfl) rfl Try.s96 rfl rfl rfl (by assumption) rfl (Nat.succ_pos _))) ?_
    refine sq_nil ?_
    refine aw_seq ?_
    refine aw_seq ?_
    refine aw_region 204 hE (by decide) rfl rfl ?_
    refine sq_op (some 23) 148 rfl rfl rfl (withEv (x := .tmp 10) rfl (fun h1 => by first | exact ok_fieldr rfl Try.o96_2 h1 | exact ok_fieldp rfl Try.o96_2 h1)) ?_
    refine sq_op (some 24) 156 rfl rfl rfl (withEv (x := .tmp 23) rfl (fun h1 => by first | exact ld1 Try.r22 rfl h1 rfl (by first | assumption | rfl) | exact lp1 Try.r22 rfl h1 (by first | assumption | rfl))) ?_
    refine sq_op (some 25) 164 rfl rfl rfl (withEv (x := .tmp 24) rfl (fun h1 => by first | exact ok_len Try.sl22 rfl rfl (.t h1) | exact ok_len Try.sl22 rfl rfl (.own h1 rfl) | exact ok_len Try.sl22 rfl rfl (.nil h1))) ?_
    refine sq_op (some 26) 172 rfl rfl rfl (withEv (x := .tmp 10) rfl (fun h1 => by first | exact ok_fieldr rfl Try.o96_1 h1 | exact ok_fieldp rfl Try.o96_1 h1)) ?_
    refine sq_op (some 27) 180 rfl rfl rfl (withEv (x := .tmp 26) rfl (fun h1 => by first | exact ok_fieldr rfl Try.o45_2 h1 | exact ok_fieldp rfl Try.o45_2 h1)) ?_
    refine sq_op (some 28) 188 rfl rfl rfl (withEv (x := .tmp 27) rfl (fun h1 => by first | exact ld1 Try.r43 rfl h1 rfl (by first | assumption | rfl) | exact lp1 Try.r43 rfl h1 (by first | assumption | rfl))) ?_
    refine sq_op (some 29) 196 rfl rfl rfl (withEv (x := .tmp 28) rfl (fun h1 => by first | exact ok_len Try.sl43 rfl rfl (.t h1) | exact ok_len Try.sl43 rfl rfl (.own h1 rfl) | exact ok_len Try.sl43 rfl rfl (.nil h1))) ?_
    refine sq_op (some 30) 204 rfl rfl rfl (ok_neq rfl rfl rfl) ?_
    refine sq_nil ?_
    refine aw_cond rfl (fun hb1 => ?_) (fun hb1 => ?_)
    · simp at hb1
      have hj : joinM l w h = ((0, 0, []), 2) := if_neg fun hh => hb1 (by have := hh.1 s (List.mem_iff_getElem?.2 ⟨r, hs⟩); omega)
      refine aw_seq ?_
      refine aw_region 228 hE (by decide) rfl rfl ?_
      refine sq_op (some 31) 212 rfl rfl rfl (bld Try.b45 rfl ev_nil .nil) ?_
      refine sq_op none 220 rfl rfl rfl (withEv (x := .tmp 31) rfl (fun h1 => by first | exact stb (.ev h1) rfl Try.s45 rfl rfl rfl (by first | exact (.put (.put (.put .done))) | exact (.skip (.put (.put (.put .done)))) | exact (.skip (.skip (.put (.put (.put .done))))) | exact (.skip (.skip (.skip (.put (.put (.put .done)))))) | exact (.skip (.skip (.skip (.skip (.put (.put (.put .done))))))) | exact (.skip (.skip (.skip (.skip (.skip (.put (.put (.put .done)))))))) | exact (.skip (.skip (.skip (.skip (.skip (.skip (.put (.put (.put .done))))))))) | exact (.skip (.skip (.skip (.skip (.skip (.skip (.skip (.put (.put (.put .done)))))))))) | exact (.skip (.skip (.skip (.skip (.skip (.skip (.skip (.skip (.put (.put (.put .done)))))))))))) (Nat.succ_pos _) | exact str (.ev h1) rfl Try.s45 rfl rfl rfl (by assumption) rfl (Nat.succ_pos _) | exact stb (.own h1 rfl) rfl Try.s45 rfl rfl rfl (by first | exact (.put (.put (.put .done))) | exact (.skip (.put (.put (.put .done)))) | exact (.skip (.skip (.put (.put (.put .done))))) | exact (.skip (.skip (.skip (.put (.put (.put .done)))))) | exact (.skip (.skip (.skip (.skip (.put (.put (.put .done))))))) | exact (.skip (.skip (.skip (.skip (.skip (.put (.put (.put .done)))))))) | exact (.skip (.skip (.skip (.skip (.skip (.skip (.put (.put (.put .done))))))))) | exact (.skip (.skip (.skip (.skip (.skip (.skip (.skip (.put (.put (.put .done)))))))))) | exact (.skip (.skip (.skip (.skip (.skip (.skip (.skip (.skip (.put (.put (.put .done)))))))))))) (Nat.succ_pos _) | exact str (.own h1 rfl) rfl Try.s45 rfl rfl rfl (by assumption) rfl (Nat.succ_pos _))) ?_
      refine sq_op (some 7) 228 rfl rfl rfl (ok_assign rfl rfl) ?_
      refine sq_nil ?_
      refine aw_ret ?_
      exact retc2 [] rfl (.row rfl rfl Try.r45 Try.s45 rfl) (.tmp rfl) (by rw [hj]; exact .tup' (.cons (.agg' (.cons (.t rfl) (.cons (.t rfl) (.cons .nil .nil)))) (.cons (.t rfl) .nil))) .nil rfl
    · simp at hb1
      have heq : s.of_.length = s.sh.length := by omega
      have hn8 : Tree.v (Value.int .i64 (((entL (l.take r)).length : Nat) + (s.of_.length : Nat))) = ti ((entL (l.take (r + 1))).length : Nat) := by rw [entL_take hs, List.length_append, entS_length heq, Int.natCast_add]
      refine aw_skip ?_
      refine aw_region 252 hE (by decide) rfl rfl ?_
      refine sq_op (some 32) 212 rfl rfl rfl (ok_move rfl rfl) ?_
      refine sq_op (some 33) 220 rfl rfl rfl (withEv (x := .tmp 10) rfl (fun h1 => by first | exact ok_fieldr rfl Try.o96_2 h1 | exact ok_fieldp rfl Try.o96_2 h1)) ?_
      refine sq_op (some 34) 228 rfl rfl rfl (withEv (x := .tmp 33) rfl (fun h1 => by first | exact ld1 Try.r22 rfl h1 rfl (by first | assumption | rfl) | exact lp1 Try.r22 rfl h1 (by first | assumption | rfl))) ?_
      refine sq_op (some 35) 236 rfl rfl rfl (withEv (x := .tmp 34) rfl (fun h1 => by first | exact ok_len Try.sl22 rfl rfl (.t h1) | exact ok_len Try.sl22 rfl rfl (.own h1 rfl) | exact ok_len Try.sl22 rfl rfl (.nil h1))) ?_
      refine sq_op (some 36) 244 rfl rfl rfl (ok_add rfl rfl rfl (by omega)) ?_
      refine sq_op (some 8) 252 rfl rfl rfl (ok_assign rfl rfl) ?_
      refine sq_nil ?_
      refine aw_region 268 hE (by decide) rfl rfl ?_
      refine sq_op (some 37) 260 rfl rfl rfl (ok_add rfl rfl rfl (by omega)) ?_
      refine sq_op (some 19) 268 rfl rfl rfl (ok_move rfl rfl) ?_
      refine sq_nil ?_
      exact ⟨r + 1, ⟨by omega, lens_snoc hs hC heq⟩, show l.length - (r + 1) < l.length - r by omega, ent_of [] 100 (.cons rfl (.t rfl) (.cons rfl (.t rfl) (.cons rfl (.t rfl) (.cons rfl (.ref rfl rfl) (.cons rfl (.t hn8) (.cons rfl (.t rfl) (.cons rfl (.t rfl) (.cons rfl (.t rfl) .nil)))))))) (.cons rfl (.box' (.cons (.t rfl) (.cons (.t rfl) (.cons (.t rfl) .nil)))) .nil) rfl⟩
  · simp at hb0
    obtain rfl : r = l.length := by omega
    rw [List.take_length] at hC ⊢
    have hlens := hC
    have hEb := entL_bound hC (fun s hs => (ok s hs).2.2.2)
    obtain ⟨n, hn⟩ : ∃ n, (entL l).length = n := ⟨_, rfl⟩
    rw [hn] at hEb ⊢
    refine aw_exit ?_
    refine aw_seq ?_
    refine aw_region 164 hE (by decide) rfl rfl ?_
    refine sq_op (some 38) 116 rfl rfl rfl (ok_move rfl rfl) ?_
    refine sq_op (some 39) 124 rfl rfl rfl (ok_move rfl rfl) ?_
    refine sq_op (some 40) 132 rfl rfl rfl (ok_move rfl rfl) ?_
    refine sq_op (some 41) 140 rfl rfl rfl (ok_make false Try.app43 (.v rfl (.sl .nil)) rfl rfl rfl ⟨by omega, by unfold maxLen; omega⟩) ?_
    refine sq_op (some 42) 148 rfl rfl rfl (bld Try.b45 rfl (ev_cons rfl (ev_cons rfl (ev_cons rfl ev_nil))) (.cons rfl rfl rfl rfl (.put .done) (.cons rfl rfl rfl rfl (.skip (.put .done)) (.cons rfl rfl rfl rfl (.skip (.skip (.put .done))) .nil)))) ?_
    refine sq_op (some 11) 156 rfl rfl rfl (ok_alloc rfl Try.z45 rfl) ?_
    refine sq_op none 164 rfl rfl rfl (withEv (x := .tmp 42) rfl (fun h1 => by first | exact stb (.ev h1) rfl Try.s45 rfl rfl rfl (by first | exact (.put (.put (.put .done))) | exact (.skip (.put (.put (.put .done)))) | exact (.skip (.skip (.put (.put (.put .done))))) | exact (.skip (.skip (.skip (.put (.put (.put .done)))))) | exact (.skip (.skip (.skip (.skip (.put (.put (.put .done))))))) | exact (.skip (.skip (.skip (.skip (.skip (.put (.put (.put .done)))))))) | exact (.skip (.skip (.skip (.skip (.skip (.skip (.put (.put (.put .done))))))))) | exact (.skip (.skip (.skip (.skip (.skip (.skip (.skip (.put (.put (.put .done)))))))))) | exact (.skip (.skip (.skip (.skip (.skip (.skip (.skip (.skip (.put (.put (.put .done)))))))))))) (Nat.succ_pos _) | exact str (.ev h1) rfl Try.s45 rfl rfl rfl (by assumption) rfl (Nat.succ_pos _) | exact stb (.own h1 rfl) rfl Try.s45 rfl rfl rfl (by first | exact (.put (.put (.put .done))) | exact (.skip (.put (.put (.put .done)))) | exact (.skip (.skip (.put (.put (.put .done))))) | exact (.skip (.skip (.skip (.put (.put (.put .done)))))) | exact (.skip (.skip (.skip (.skip (.put (.put (.put .done))))))) | exact (.skip (.skip (.skip (.skip (.skip (.put (.put (.put .done)))))))) | exact (.skip (.skip (.skip (.skip (.skip (.skip (.put (.put (.put .done))))))))) | exact (.skip (.skip (.skip (.skip (.skip (.skip (.skip (.put (.put (.put .done)))))))))) | exact (.skip (.skip (.skip (.skip (.skip (.skip (.skip (.skip (.put (.put (.put .done)))))))))))) (Nat.succ_pos _) | exact str (.own h1 rfl) rfl Try.s45 rfl rfl rfl (by assumption) rfl (Nat.succ_pos _))) ?_
    refine sq_nil ?_
    refine aw_seq ?_
    refine aw_region 188 hE (by decide) rfl rfl ?_
    refine sq_op (some 43) 172 rfl rfl rfl (ok_move rfl rfl) ?_
    refine sq_op (some 44) 180 rfl rfl rfl (ok_make false Try.app132 (.v rfl .nil) rfl rfl rfl ⟨by omega, by unfold maxLen; omega⟩) ?_
    refine sq_op (some 12) 188 rfl rfl rfl (ok_assign rfl rfl) ?_
    refine sq_nil ?_
    refine aw_seq ?_
    refine aw_seq ?_
    refine aw_region 212 hE (by decide) rfl rfl ?_
    refine sq_op (some 45) 196 rfl rfl rfl (ok_move rfl rfl) ?_
    refine sq_op (some 46) 204 rfl rfl rfl (withEv (x := .tmp 45) rfl (fun h1 => by first | exact ok_len Try.sl81 rfl rfl (.t h1) | exact ok_len Try.sl81 rfl rfl (.own h1 rfl) | exact ok_len Try.sl81 rfl rfl (.nil h1))) ?_
    refine sq_op (some 47) 212 rfl rfl rfl (ok_move rfl rfl) ?_
    refine sq_nil ?_
    refine aw_block ?_
    refine aw_loop (ι := Nat) (fun r => lit [(0, .t (.sl l.length (shtT l))), (6, .ref 0 0), (8, I n), (11, .ref 1 0), (12, .own 3), (45, .t (.sl l.length (shtT l))), (46, I l.length), (47, I r)] [(0, .box 45 [I 0, I 0, .t (.v (.slice none 0 0))]), (1, .box 45 [I w, I h, .own 2]), (2, .row 51 2 n (shT (arrOf n (entL (l.take r)))) false), (3, .row 4 1 n (boolT (metOf n (entL (l.take r)))) false)] 100) (fun r => r ≤ l.length ∧ okE n (entL (l.take r))) (fun r => l.length - r) 0 (ent_of [(1, 148), (2, 132), (3, 172)] 100 (.cons rfl (.t rfl) (.cons rfl (.ref rfl rfl) (.cons rfl (.t rfl) (.cons rfl (.ref rfl rfl) (.cons rfl (.own rfl rfl) (.cons rfl (.t rfl) (.cons rfl (.t rfl) (.cons rfl (.t rfl) .nil)))))))) (.cons rfl (.box' (.cons (.t rfl) (.cons (.t rfl) (.cons (.t rfl) .nil)))) (.cons rfl (.box' (.cons (.t rfl) (.cons (.t rfl) (.cons (.own rfl rfl) .nil)))) (.cons rfl (.row arr0 rfl) (.cons rfl (.row met0 rfl) .nil)))) rfl) ⟨by omega, okE_nil n⟩ (fun r hC1 => ?_)
    obtain ⟨hr, hC⟩ := hC1
    refine aw_seq ?_
    refine aw_region 108 hE (by decide) rfl rfl ?_
    refine sq_op (some 48) 108 rfl rfl rfl (ok_lss rfl rfl rfl) ?_
    refine sq_nil ?_
    refine aw_seq ?_
    refine aw_cond rfl (fun hb2 => ?_) (fun hb2 => ?_)
    · simp at hb2
      obtain ⟨s, hs⟩ : ∃ s, l[r]? = some s := ⟨_, List.getElem?_eq_getElem hb2⟩
      have hsok := ok s (List.mem_iff_getElem?.2 ⟨r, hs⟩)
      have hofl := hsok.2.2.2
      have hshl := hsok.2.1
      have fS : ((shtT l).drop (r * 5)).take 5 = [ti s.x, ti s.wd, ti s.ht, .sl s.sh.length (shT s.sh), .sl s.of_.length (intsT s.of_)] := flat_part (f := shtC) (fun _ => rfl) hs
      have heq := hlens s (List.mem_iff_getElem?.2 ⟨r, hs⟩)
      refine aw_skip ?_
      refine aw_seq ?_
      refine aw_block ?_
      refine aw_seq ?_
      refine aw_region 140 hE (by decide) rfl rfl ?_
      refine sq_op (some 49) 116 rfl rfl rfl (withEv (x := .tmp 45) rfl (fun h1 => withEv (x := .tmp 47) rfl (fun h2 => by first | exact ix_p Try.e81 rfl h1 h2 (by omega) | exact ix_r Try.e81 rfl h1 rfl h2 (by omega) | exact ok_indexp rfl Try.e81 h1 h2 (by omega) (by omega) | exact ok_indexr rfl Try.e81 h1 rfl h2 (by omega) (by omega)))) ?_
      refine sq_op (some 50) 124 rfl rfl rfl (withEv (x := .tmp 49) rfl (fun h1 => by first | exact ldc Try.r96 Try.s96 rfl h1 rfl (by first | exact (.take (.take (.take (.take (.take .done))))) | exact (.skip (.take (.take (.take (.take (.take .done)))))) | exact (.skip (.skip (.take (.take (.take (.take (.take .done))))))) | exact (.skip (.skip (.skip (.take (.take (.take (.take (.take .done)))))))) | exact (.skip (.skip (.skip (.skip (.take (.take (.take (.take (.take .done))))))))) | exact (.skip (.skip (.skip (.skip (.skip (.take (.take (.take (.take (.take .done)))))))))) | exact (.skip (.skip (.skip (.skip (.skip (.skip (.take (.take (.take (.take (.take .done))))))))))) | exact (.skip (.skip (.skip (.skip (.skip (.skip (.skip (.take (.take (.take (.take (.take .done)))))))))))) | exact (.skip (.skip (.skip (.skip (.skip (.skip (.skip (.skip (.take (.take (.take (.take (.take .done)))))))))))))) | exact lpn Try.r96 Try.s96 rfl h1 (by first | assumption | rfl) rfl)) ?_
      refine sq_op (some 14) 132 rfl rfl rfl (ok_alloc rfl Try.z96 rfl) ?_
      refine sq_op none 140 rfl rfl rfl (withEv (x := .tmp 50) rfl (fun h1 => by first | exact stb (.ev h1) rfl Try.s96 rfl rfl rfl (by first | exact (.put (.put (.put (.put (.put .done))))) | exact (.skip (.put (.put (.put (.put (.put .done)))))) | exact (.skip (.skip (.put (.put (.put (.put (.put .done))))))) | exact (.skip (.skip (.skip (.put (.put (.put (.put (.put .done)))))))) | exact (.skip (.skip (.skip (.skip (.put (.put (.put (.put (.put .done))))))))) | exact (.skip (.skip (.skip (.skip (.skip (.put (.put (.put (.put (.put .done)))))))))) | exact (.skip (.skip (.skip (.skip (.skip (.skip (.put (.put (.put (.put (.put .done))))))))))) | exact (.skip (.skip (.skip (.skip (.skip (.skip (.skip (.put (.put (.put (.put (.put .done)))))))))))) | exact (.skip (.skip (.skip (.skip (.skip (.skip (.skip (.skip (.put (.put (.put (.put (.put .done)))))))))))))) (Nat.succ_pos _) | exact str (.ev h1) rfl Try.s96 rfl rfl rfl (by assumption) rfl (Nat.succ_pos _) | exact stb (.own h1 rfl) rfl Try.s96 rfl rfl rfl (by first | exact (.put (.put (.put (.put (.put .done))))) | exact (.skip (.put (.put (.put (.put (.put .done)))))) | exact (.skip (.skip (.put (.put (.put (.put (.put .done))))))) | exact (.skip (.skip (.skip (.put (.put (.put (.put (.put .done)))))))) | exact (.skip (.skip (.skip (.skip (.put (.put (.put (.put (.put .done))))))))) | exact (.skip (.skip (.skip (.skip (.skip (.put (.put (.put (.put (.put .done)))))))))) | exact (.skip (.skip (.skip (.skip (.skip (.skip (.put (.put (.put (.put (.put .done))))))))))) | exact (.skip (.skip (.skip (.skip (.skip (.skip (.skip (.put (.put (.put (.put (.put .done)))))))))))) | exact (.skip (.skip (.skip (.skip (.skip (.skip (.skip (.skip (.put (.put (.put (.put (.put .done)))))))))))))) (Nat.succ_pos _) | exact str (.own h1 rfl) rfl Try.s96 rfl rfl rfl (by assumption) rfl (Nat.succ_pos _))) ?_
      refine sq_nil ?_
      refine aw_seq ?_
      refine aw_region 172 hE (by decide) rfl rfl ?_
      refine sq_op (some 51) 148 rfl rfl rfl (withEv (x := .tmp 14) rfl (fun h1 => by first | exact ok_fieldr rfl Try.o96_2 h1 | exact ok_fieldp rfl Try.o96_2 h1)) ?_
      refine sq_op (some 52) 156 rfl rfl rfl (withEv (x := .tmp 51) rfl (fun h1 => by first | exact ld1 Try.r22 rfl h1 rfl (by first | assumption | rfl) | exact lp1 Try.r22 rfl h1 (by first | assumption | rfl))) ?_
      refine sq_op (some 53) 164 rfl rfl rfl (withEv (x := .tmp 52) rfl (fun h1 => by first | exact ok_len Try.sl22 rfl rfl (.t h1) | exact ok_len Try.sl22 rfl rfl (.own h1 rfl) | exact ok_len Try.sl22 rfl rfl (.nil h1))) ?_
      refine sq_op (some 54) 172 rfl rfl rfl (ok_move rfl rfl) ?_
      refine sq_nil ?_
      refine aw_block ?_
      refine aw_loop (ι := Nat) (fun k => lit [(0, .t (.sl l.length (shtT l))), (6, .ref 0 0), (8, I n), (11, .ref 1 0), (12, .own 3), (45, .t (.sl l.length (shtT l))), (46, I l.length), (47, I r), (14, .ref 4 0), (52, .t (.sl s.of_.length (intsT s.of_))), (53, I s.of_.length), (54, I k)] [(0, .box 45 [I 0, I 0, .t (.v (.slice none 0 0))]), (1, .box 45 [I w, I h, .own 2]), (2, .row 51 2 n (shT (arrOf n (entL (l.take r) ++ (entS s).take k))) false), (3, .row 4 1 n (boolT (metOf n (entL (l.take r) ++ (entS s).take k))) false), (4, .box 96 [.t (ti s.x), .t (ti s.wd), .t (ti s.ht), .t (.sl s.sh.length (shT s.sh)), .t (.sl s.of_.length (intsT s.of_))])] 100) (fun k => k ≤ s.of_.length ∧ okE n (entL (l.take r) ++ (entS s).take k)) (fun k => s.of_.length - k) 0 (ent_of [(4, 124)] 100 (.cons rfl (.t rfl) (.cons rfl (.ref rfl rfl) (.cons rfl (.t rfl) (.cons rfl (.ref rfl rfl) (.cons rfl (.own rfl rfl) (.cons rfl (.t rfl) (.cons rfl (.t rfl) (.cons rfl (.t rfl) (.cons rfl (.ref rfl rfl) (.cons rfl (.t rfl) (.cons rfl (.t rfl) (.cons rfl (.t rfl) .nil)))))))))))) (.cons rfl (.box' (.cons (.t rfl) (.cons (.t rfl) (.cons (.t rfl) .nil)))) (.cons rfl (.box' (.cons (.t rfl) (.cons (.t rfl) (.cons (.own rfl rfl) .nil)))) (.cons rfl (.row (by simp) rfl) (.cons rfl (.row (by simp) rfl) (.cons rfl (.box' (.cons (.t rfl) (.cons (.t rfl) (.cons (.t rfl) (.cons (.t rfl) (.cons (.t rfl) .nil)))))) .nil))))) rfl) ⟨by omega, by simpa using hC⟩ (fun k hC2 => ?_)
      obtain ⟨hk, hC2⟩ := hC2
      refine aw_seq ?_
      refine aw_region 108 hE (by decide) rfl rfl ?_
      refine sq_op (some 55) 108 rfl rfl rfl (ok_lss rfl rfl rfl) ?_
      refine sq_nil ?_
      refine aw_seq ?_
      refine aw_cond rfl (fun hb3 => ?_) (fun hb3 => ?_)
      · simp at hb3
        obtain ⟨i, hi⟩ : ∃ i, s.of_[k]? = some i := ⟨_, List.getElem?_eq_getElem hb3⟩
        obtain ⟨⟨kd, ps⟩, hq⟩ : ∃ q, s.sh[k]? = some q := ⟨_, List.getElem?_eq_getElem (by omega)⟩
        have fi : (intsT s.of_)[k * 1]? = some (ti i) := by rw [Nat.mul_one]; simp [intsT, hi]
        have fq : ((shT s.sh).drop (k * 2)).take 2 = [ti kd, .sl ps.length (ptT ps)] := flat_part (f := fun s : Sh => [ti s.1, .sl s.2.length (ptT s.2)]) (fun _ => rfl) hq
        have hpre := ent_snoc l r hi hq
        have hpok := hsok.1 _ (List.mem_iff_getElem?.2 ⟨k, hq⟩)
        refine aw_skip ?_
        refine aw_seq ?_
        refine aw_block ?_
        refine aw_seq ?_
        refine aw_region 148 hE (by decide) rfl rfl ?_
        refine sq_op (some 56) 116 rfl rfl rfl (ok_move rfl rfl) ?_
        refine sq_op (some 57) 124 rfl rfl rfl (withEv (x := .tmp 52) rfl (fun h1 => withEv (x := .tmp 54) rfl (fun h2 => by first | exact ix_p Try.e22 rfl h1 h2 (by omega) | exact ix_r Try.e22 rfl h1 rfl h2 (by omega) | exact ok_indexp rfl Try.e22 h1 h2 (by omega) (by omega) | exact ok_indexr rfl Try.e22 h1 rfl h2 (by omega) (by omega)))) ?_
        refine sq_op (some 58) 132 rfl rfl rfl (withEv (x := .tmp 57) rfl (fun h1 => by first | exact ld1 Try.r3 rfl h1 rfl (by first | assumption | rfl) | exact lp1 Try.r3 rfl h1 (by first | assumption | rfl))) ?_
        refine sq_op (some 15) 140 rfl rfl rfl (ok_assign rfl rfl) ?_
        refine sq_op (some 16) 148 rfl rfl rfl (ok_assign rfl rfl) ?_
        refine sq_nil ?_
        refine aw_seq ?_
        refine aw_seq ?_
        rcases join_four n (entL (l.take r) ++ (entS s).take k) i with hi1 | hi1 | hi1 | hi1
        · have h1 : i < 0 := hi1
          have hj : joinM l w h = ((0, 0, []), 2) := join_bad hn hs hi hq (fun h => by have := (okE_snoc _ _ _ _).1 h; omega)
          refine aw_region 252 hE (by decide) rfl rfl ?_
          refine sq_op (some 59) 156 rfl rfl rfl (ok_move rfl rfl) ?_
          refine sq_op (some 60) 164 rfl rfl rfl (okB (ok_lss rfl rfl rfl) (decide_eq_true (by omega))) ?_
          refine sq_op (some 61) 172 rfl rfl rfl (ok_move rfl rfl) ?_
          first | refine sq_off (some 62) 180 rfl rfl rfl rfl rfl (by first | exact .inl rfl | exact .inr rfl) ?_ | refine sq_on (some 62) 180 rfl rfl rfl rfl rfl (ok_move rfl rfl) ?_
          first | refine sq_off (some 63) 188 rfl rfl rfl rfl rfl (by first | exact .inl rfl | exact .inr rfl) ?_ | refine sq_on (some 63) 188 rfl rfl rfl rfl rfl (ok_move rfl rfl) ?_
          first | refine sq_off (some 64) 196 rfl rfl rfl rfl rfl (by first | exact .inl rfl | exact .inr rfl) ?_ | refine sq_on (some 64) 196 rfl rfl rfl rfl rfl (ok_geq rfl rfl rfl) ?_
          refine sq_op (some 65) 204 rfl rfl rfl (by first | exact ok_pick_t rfl rfl rfl | exact ok_pick_f rfl rfl rfl) ?_
          refine sq_op (some 66) 212 rfl rfl rfl (ok_move rfl rfl) ?_
          first | refine sq_off (some 67) 220 rfl rfl rfl rfl rfl (by first | exact .inl rfl | exact .inr rfl) ?_ | refine sq_on (some 67) 220 rfl rfl rfl rfl rfl (ok_move rfl rfl) ?_
          first | refine sq_off (some 68) 228 rfl rfl rfl rfl rfl (by first | exact .inl rfl | exact .inr rfl) ?_ | refine sq_on (some 68) 228 rfl rfl rfl rfl rfl (ok_move rfl rfl) ?_
          first | refine sq_off (some 69) 236 rfl rfl rfl rfl rfl (by first | exact .inl rfl | exact .inr rfl) ?_ | refine sq_on (some 69) 236 rfl rfl rfl rfl rfl (withEv (x := .tmp 67) rfl (fun h1 => withEv (x := .tmp 68) rfl (fun h2 => by first | exact ix_p Try.e132 rfl h1 h2 (by omega) | exact ix_r Try.e132 rfl h1 rfl h2 (by omega) | exact ok_indexp rfl Try.e132 h1 h2 (by omega) (by omega) | exact ok_indexr rfl Try.e132 h1 rfl h2 (by omega) (by omega)))) ?_
          first | refine sq_off (some 70) 244 rfl rfl rfl rfl rfl (by first | exact .inl rfl | exact .inr rfl) ?_ | refine sq_on (some 70) 244 rfl rfl rfl rfl rfl (withEv (x := .tmp 69) rfl (fun h1 => by first | exact ld1 Try.r4 rfl h1 rfl (by first | assumption | rfl) | exact lp1 Try.r4 rfl h1 (by first | assumption | rfl))) ?_
          refine sq_op (some 71) 252 rfl rfl rfl (by first | exact ok_pick_t rfl rfl rfl | exact ok_pick_f rfl rfl rfl) ?_
          refine sq_nil ?_
          refine aw_cond rfl (fun hb4 => ?_) (fun hb4 => ?_)
          · skip
            refine aw_seq ?_
            refine aw_region 276 hE (by decide) rfl rfl ?_
            refine sq_op (some 72) 260 rfl rfl rfl (bld Try.b45 rfl ev_nil .nil) ?_
            refine sq_op none 268 rfl rfl rfl (withEv (x := .tmp 72) rfl (fun h1 => by first | exact stb (.ev h1) rfl Try.s45 rfl rfl rfl (by first | exact (.put (.put (.put .done))) | exact (.skip (.put (.put (.put .done)))) | exact (.skip (.skip (.put (.put (.put .done))))) | exact (.skip (.skip (.skip (.put (.put (.put .done)))))) | exact (.skip (.skip (.skip (.skip (.put (.put (.put .done))))))) | exact (.skip (.skip (.skip (.skip (.skip (.put (.put (.put .done)))))))) | exact (.skip (.skip (.skip (.skip (.skip (.skip (.put (.put (.put .done))))))))) | exact (.skip (.skip (.skip (.skip (.skip (.skip (.skip (.put (.put (.put .done)))))))))) | exact (.skip (.skip (.skip (.skip (.skip (.skip (.skip (.skip (.put (.put (.put .done)))))))))))) (Nat.succ_pos _) | exact str (.ev h1) rfl Try.s45 rfl rfl rfl (by assumption) rfl (Nat.succ_pos _) | exact stb (.own h1 rfl) rfl Try.s45 rfl rfl rfl (by first | exact (.put (.put (.put .done))) | exact (.skip (.put (.put (.put .done)))) | exact (.skip (.skip (.put (.put (.put .done))))) | exact (.skip (.skip (.skip (.put (.put (.put .done)))))) | exact (.skip (.skip (.skip (.skip (.put (.put (.put .done))))))) | exact (.skip (.skip (.skip (.skip (.skip (.put (.put (.put .done)))))))) | exact (.skip (.skip (.skip (.skip (.skip (.skip (.put (.put (.put .done))))))))) | exact (.skip (.skip (.skip (.skip (.skip (.skip (.skip (.put (.put (.put .done)))))))))) | exact (.skip (.skip (.skip (.skip (.skip (.skip (.skip (.skip (.put (.put (.put .done)))))))))))) (Nat.succ_pos _) | exact str (.own h1 rfl) rfl Try.s45 rfl rfl rfl (by assumption) rfl (Nat.succ_pos _))) ?_
            refine sq_op (some 7) 276 rfl rfl rfl (ok_assign rfl rfl) ?_
            refine sq_nil ?_
            refine aw_ret ?_
            exact retc2 [] rfl (.row rfl rfl Try.r45 Try.s45 rfl) (.tmp rfl) (by rw [hj]; exact .tup' (.cons (.agg' (.cons (.t rfl) (.cons (.t rfl) (.cons .nil .nil)))) (.cons (.t rfl) .nil))) .nil rfl
          · exact absurd hb4 (by decide)
        · have h1 : ¬ i < 0 := hi1.1
          have h2 : (n : Int) ≤ i := hi1.2
          have hj : joinM l w h = ((0, 0, []), 2) := join_bad hn hs hi hq (fun h => by have := (okE_snoc _ _ _ _).1 h; omega)
          refine aw_region 252 hE (by decide) rfl rfl ?_
          refine sq_op (some 59) 156 rfl rfl rfl (ok_move rfl rfl) ?_
          refine sq_op (some 60) 164 rfl rfl rfl (okB (ok_lss rfl rfl rfl) (decide_eq_false (by omega))) ?_
          refine sq_op (some 61) 172 rfl rfl rfl (ok_move rfl rfl) ?_
          first | refine sq_off (some 62) 180 rfl rfl rfl rfl rfl (by first | exact .inl rfl | exact .inr rfl) ?_ | refine sq_on (some 62) 180 rfl rfl rfl rfl rfl (ok_move rfl rfl) ?_
          first | refine sq_off (some 63) 188 rfl rfl rfl rfl rfl (by first | exact .inl rfl | exact .inr rfl) ?_ | refine sq_on (some 63) 188 rfl rfl rfl rfl rfl (ok_move rfl rfl) ?_
          first | refine sq_off (some 64) 196 rfl rfl rfl rfl rfl (by first | exact .inl rfl | exact .inr rfl) ?_ | refine sq_on (some 64) 196 rfl rfl rfl rfl rfl (okB (ok_geq rfl rfl rfl) (decide_eq_true (by omega))) ?_
          refine sq_op (some 65) 204 rfl rfl rfl (by first | exact ok_pick_t rfl rfl rfl | exact ok_pick_f rfl rfl rfl) ?_
          refine sq_op (some 66) 212 rfl rfl rfl (ok_move rfl rfl) ?_
          first | refine sq_off (some 67) 220 rfl rfl rfl rfl rfl (by first | exact .inl rfl | exact .inr rfl) ?_ | refine sq_on (some 67) 220 rfl rfl rfl rfl rfl (ok_move rfl rfl) ?_
          first | refine sq_off (some 68) 228 rfl rfl rfl rfl rfl (by first | exact .inl rfl | exact .inr rfl) ?_ | refine sq_on (some 68) 228 rfl rfl rfl rfl rfl (ok_move rfl rfl) ?_
          first | refine sq_off (some 69) 236 rfl rfl rfl rfl rfl (by first | exact .inl rfl | exact .inr rfl) ?_ | refine sq_on (some 69) 236 rfl rfl rfl rfl rfl (withEv (x := .tmp 67) rfl (fun h1 => withEv (x := .tmp 68) rfl (fun h2 => by first | exact ix_p Try.e132 rfl h1 h2 (by omega) | exact ix_r Try.e132 rfl h1 rfl h2 (by omega) | exact ok_indexp rfl Try.e132 h1 h2 (by omega) (by omega) | exact ok_indexr rfl Try.e132 h1 rfl h2 (by omega) (by omega)))) ?_
          first | refine sq_off (some 70) 244 rfl rfl rfl rfl rfl (by first | exact .inl rfl | exact .inr rfl) ?_ | refine sq_on (some 70) 244 rfl rfl rfl rfl rfl (withEv (x := .tmp 69) rfl (fun h1 => by first | exact ld1 Try.r4 rfl h1 rfl (by first | assumption | rfl) | exact lp1 Try.r4 rfl h1 (by first | assumption | rfl))) ?_
          refine sq_op (some 71) 252 rfl rfl rfl (by first | exact ok_pick_t rfl rfl rfl | exact ok_pick_f rfl rfl rfl) ?_
          refine sq_nil ?_
          refine aw_cond rfl (fun hb4 => ?_) (fun hb4 => ?_)
          · skip
            refine aw_seq ?_
            refine aw_region 276 hE (by decide) rfl rfl ?_
            refine sq_op (some 72) 260 rfl rfl rfl (bld Try.b45 rfl ev_nil .nil) ?_
            refine sq_op none 268 rfl rfl rfl (withEv (x := .tmp 72) rfl (fun h1 => by first | exact stb (.ev h1) rfl Try.s45 rfl rfl rfl (by first | exact (.put (.put (.put .done))) | exact (.skip (.put (.put (.put .done)))) | exact (.skip (.skip (.put (.put (.put .done))))) | exact (.skip (.skip (.skip (.put (.put (.put .done)))))) | exact (.skip (.skip (.skip (.skip (.put (.put (.put .done))))))) | exact (.skip (.skip (.skip (.skip (.skip (.put (.put (.put .done)))))))) | exact (.skip (.skip (.skip (.skip (.skip (.skip (.put (.put (.put .done))))))))) | exact (.skip (.skip (.skip (.skip (.skip (.skip (.skip (.put (.put (.put .done)))))))))) | exact (.skip (.skip (.skip (.skip (.skip (.skip (.skip (.skip (.put (.put (.put .done)))))))))))) (Nat.succ_pos _) | exact str (.ev h1) rfl Try.s45 rfl rfl rfl (by assumption) rfl (Nat.succ_pos _) | exact stb (.own h1 rfl) rfl Try.s45 rfl rfl rfl (by first | exact (.put (.put (.put .done))) | exact (.skip (.put (.put (.put .done)))) | exact (.skip (.skip (.put (.put (.put .done))))) | exact (.skip (.skip (.skip (.put (.put (.put .done)))))) | exact (.skip (.skip (.skip (.skip (.put (.put (.put .done))))))) | exact (.skip (.skip (.skip (.skip (.skip (.put (.put (.put .done)))))))) | exact (.skip (.skip (.skip (.skip (.skip (.skip (.put (.put (.put .done))))))))) | exact (.skip (.skip (.skip (.skip (.skip (.skip (.skip (.put (.put (.put .done)))))))))) | exact (.skip (.skip (.skip (.skip (.skip (.skip (.skip (.skip (.put (.put (.put .done)))))))))))) (Nat.succ_pos _) | exact str (.own h1 rfl) rfl Try.s45 rfl rfl rfl (by assumption) rfl (Nat.succ_pos _))) ?_
            refine sq_op (some 7) 276 rfl rfl rfl (ok_assign rfl rfl) ?_
            refine sq_nil ?_
            refine aw_ret ?_
            exact retc2 [] rfl (.row rfl rfl Try.r45 Try.s45 rfl) (.tmp rfl) (by rw [hj]; exact .tup' (.cons (.agg' (.cons (.t rfl) (.cons (.t rfl) (.cons .nil .nil)))) (.cons (.t rfl) .nil))) .nil rfl
          · exact absurd hb4 (by decide)
        · obtain ⟨h1, h2, hm⟩ := hi1
          have hj : joinM l w h = ((0, 0, []), 2) := join_bad hn hs hi hq (fun h => by have := ((okE_snoc _ _ _ _).1 h).2.2; rw [hm] at this; cases this)
          obtain ⟨j, rfl⟩ : ∃ j : Nat, i = j := ⟨i.toNat, by omega⟩
          have hmj : (AObj.row 4 1 n (boolT (metOf n (entL (l.take r) ++ (entS s).take k))) false).cells[j * 1]? = some (B true) := by rw [met_cell (by omega)]; rw [hm]
          refine aw_region 252 hE (by decide) rfl rfl ?_
          refine sq_op (some 59) 156 rfl rfl rfl (ok_move rfl rfl) ?_
          refine sq_op (some 60) 164 rfl rfl rfl (okB (ok_lss rfl rfl rfl) (decide_eq_false (by omega))) ?_
          refine sq_op (some 61) 172 rfl rfl rfl (ok_move rfl rfl) ?_
          first | refine sq_off (some 62) 180 rfl rfl rfl rfl rfl (by first | exact .inl rfl | exact .inr rfl) ?_ | refine sq_on (some 62) 180 rfl rfl rfl rfl rfl (ok_move rfl rfl) ?_
          first | refine sq_off (some 63) 188 rfl rfl rfl rfl rfl (by first | exact .inl rfl | exact .inr rfl) ?_ | refine sq_on (some 63) 188 rfl rfl rfl rfl rfl (ok_move rfl rfl) ?_
          first | refine sq_off (some 64) 196 rfl rfl rfl rfl rfl (by first | exact .inl rfl | exact .inr rfl) ?_ | refine sq_on (some 64) 196 rfl rfl rfl rfl rfl (okB (ok_geq rfl rfl rfl) (decide_eq_false (by omega))) ?_
          refine sq_op (some 65) 204 rfl rfl rfl (by first | exact ok_pick_t rfl rfl rfl | exact ok_pick_f rfl rfl rfl) ?_
          refine sq_op (some 66) 212 rfl rfl rfl (ok_move rfl rfl) ?_
          first | refine sq_off (some 67) 220 rfl rfl rfl rfl rfl (by first | exact .inl rfl | exact .inr rfl) ?_ | refine sq_on (some 67) 220 rfl rfl rfl rfl rfl (ok_move rfl rfl) ?_
          first | refine sq_off (some 68) 228 rfl rfl rfl rfl rfl (by first | exact .inl rfl | exact .inr rfl) ?_ | refine sq_on (some 68) 228 rfl rfl rfl rfl rfl (ok_move rfl rfl) ?_
          first | refine sq_off (some 69) 236 rfl rfl rfl rfl rfl (by first | exact .inl rfl | exact .inr rfl) ?_ | refine sq_on (some 69) 236 rfl rfl rfl rfl rfl (withEv (x := .tmp 67) rfl (fun h1 => withEv (x := .tmp 68) rfl (fun h2 => by first | exact ix_p Try.e132 rfl h1 h2 (by omega) | exact ix_r Try.e132 rfl h1 rfl h2 (by omega) | exact ok_indexp rfl Try.e132 h1 h2 (by omega) (by omega) | exact ok_indexr rfl Try.e132 h1 rfl h2 (by omega) (by omega)))) ?_
          first | refine sq_off (some 70) 244 rfl rfl rfl rfl rfl (by first | exact .inl rfl | exact .inr rfl) ?_ | refine sq_on (some 70) 244 rfl rfl rfl rfl rfl (withEv (x := .tmp 69) rfl (fun h1 => by first | exact ld1 Try.r4 rfl h1 rfl (by first | assumption | rfl) | exact lp1 Try.r4 rfl h1 (by first | assumption | rfl))) ?_
          refine sq_op (some 71) 252 rfl rfl rfl (by first | exact ok_pick_t rfl rfl rfl | exact ok_pick_f rfl rfl rfl) ?_
          refine sq_nil ?_
          refine aw_cond rfl (fun hb4 => ?_) (fun hb4 => ?_)
          · skip
            refine aw_seq ?_
            refine aw_region 276 hE (by decide) rfl rfl ?_
            refine sq_op (some 72) 260 rfl rfl rfl (bld Try.b45 rfl ev_nil .nil) ?_
            refine sq_op none 268 rfl rfl rfl (withEv (x := .tmp 72) rfl (fun h1 => by first | exact stb (.ev h1) rfl Try.s45 rfl rfl rfl (by first | exact (.put (.put (.put .done))) | exact (.skip (.put (.put (.put .done)))) | exact (.skip (.skip (.put (.put (.put .done))))) | exact (.skip (.skip (.skip (.put (.put (.put .done)))))) | exact (.skip (.skip (.skip (.skip (.put (.put (.put .done))))))) | exact (.skip (.skip (.skip (.skip (.skip (.put (.put (.put .done)))))))) | exact (.skip (.skip (.skip (.skip (.skip (.skip (.put (.put (.put .done))))))))) | exact (.skip (.skip (.skip (.skip (.skip (.skip (.skip (.put (.put (.put .done)))))))))) | exact (.skip (.skip (.skip (.skip (.skip (.skip (.skip (.skip (.put (.put (.put .done)))))))))))) (Nat.succ_pos _) | exact str (.ev h1) rfl Try.s45 rfl rfl rfl (by assumption) rfl (Nat.succ_pos _) | exact stb (.own h1 rfl) rfl Try.s45 rfl rfl rfl (by first | exact (.put (.put (.put .done))) | exact (.skip (.put (.put (.put .done)))) | exact (.skip (.skip (.put (.put (.put .done))))) | exact (.skip (.skip (.skip (.put (.put (.put .done)))))) | exact (.skip (.skip (.skip (.skip (.put (.put (.put .done))))))) | exact (.skip (.skip (.skip (.skip (.skip (.put (.put (.put .done)))))))) | exact (.skip (.skip (.skip (.skip (.skip (.skip (.put (.put (.put .done))))))))) | exact (.skip (.skip (.skip (.skip (.skip (.skip (.skip (.put (.put (.put .done)))))))))) | exact (.skip (.skip (.skip (.skip (.skip (.skip (.skip (.skip (.put (.put (.put .done)))))))))))) (Nat.succ_pos _) | exact str (.own h1 rfl) rfl Try.s45 rfl rfl rfl (by assumption) rfl (Nat.succ_pos _))) ?_
            refine sq_op (some 7) 276 rfl rfl rfl (ok_assign rfl rfl) ?_
            refine sq_nil ?_
            refine aw_ret ?_
            exact retc2 [] rfl (.row rfl rfl Try.r45 Try.s45 rfl) (.tmp rfl) (by rw [hj]; exact .tup' (.cons (.agg' (.cons (.t rfl) (.cons (.t rfl) (.cons .nil .nil)))) (.cons (.t rfl) .nil))) .nil rfl
          · exact absurd hb4 (by decide)
        · obtain ⟨h1, h2, hm⟩ := hi1
          obtain ⟨j, rfl⟩ : ∃ j : Nat, i = j := ⟨i.toNat, by omega⟩
          have hjn : j < n := by omega
          have hmj : (AObj.row 4 1 n (boolT (metOf n (entL (l.take r) ++ (entS s).take k))) false).cells[j * 1]? = some (B false) := by rw [met_cell (by omega)]; rw [hm]
          have hok2 : okE n (entL (l.take r) ++ (entS s).take (k + 1)) := by rw [hpre]; exact (okE_snoc _ _ _ _).2 ⟨hC2, ⟨by omega, by omega⟩, hm⟩
          have harl := shT_len (arrOf n (entL (l.take r) ++ (entS s).take k))
          rw [arrOf_length] at harl
          have hput : j * 2 + [I kd, D.t (.sl (mvL s.x ps).length (ptT (mvL s.x ps)))].length ≤ (shT (arrOf n (entL (l.take r) ++ (entS s).take k))).length := by rw [harl]; simp; omega
          have hput2 : j * 1 + [B true].length ≤ (boolT (metOf n (entL (l.take r) ++ (entS s).take k))).length := by rw [boolT_len, metOf_length]; simp; omega
          have harr : splice (shT (arrOf n (entL (l.take r) ++ (entS s).take k))) (j * 2) [ti kd, .sl (mvL s.x ps).length (ptT (mvL s.x ps))] = shT (arrOf n (entL (l.take r) ++ (entS s).take (k + 1))) := by rw [hpre, ← arrOf_set hm]; exact flat_put (f := fun s : Sh => [ti s.1, .sl s.2.length (ptT s.2)]) (s := 2) (fun _ => rfl) (x := mvJ s.x (kd, ps)) (by rw [arrOf_length]; exact hjn)
          have hmet : splice (boolT (metOf n (entL (l.take r) ++ (entS s).take k))) (j * 1) [.v (.bool true)] = boolT (metOf n (entL (l.take r) ++ (entS s).take (k + 1))) := by rw [hpre, ← metOf_set]; exact boolT_put (by rw [metOf_length]; exact hjn)
          have cm := moved_does kd s.x ps hpok.1 hpok.2
          refine aw_region 252 hE (by decide) rfl rfl ?_
          refine sq_op (some 59) 156 rfl rfl rfl (ok_move rfl rfl) ?_
          refine sq_op (some 60) 164 rfl rfl rfl (okB (ok_lss rfl rfl rfl) (decide_eq_false (by omega))) ?_
          refine sq_op (some 61) 172 rfl rfl rfl (ok_move rfl rfl) ?_
          first | refine sq_off (some 62) 180 rfl rfl rfl rfl rfl (by first | exact .inl rfl | exact .inr rfl) ?_ | refine sq_on (some 62) 180 rfl rfl rfl rfl rfl (ok_move rfl rfl) ?_
          first | refine sq_off (some 63) 188 rfl rfl rfl rfl rfl (by first | exact .inl rfl | exact .inr rfl) ?_ | refine sq_on (some 63) 188 rfl rfl rfl rfl rfl (ok_move rfl rfl) ?_
          first | refine sq_off (some 64) 196 rfl rfl rfl rfl rfl (by first | exact .inl rfl | exact .inr rfl) ?_ | refine sq_on (some 64) 196 rfl rfl rfl rfl rfl (okB (ok_geq rfl rfl rfl) (decide_eq_false (by omega))) ?_
          refine sq_op (some 65) 204 rfl rfl rfl (by first | exact ok_pick_t rfl rfl rfl | exact ok_pick_f rfl rfl rfl) ?_
          refine sq_op (some 66) 212 rfl rfl rfl (ok_move rfl rfl) ?_
          first | refine sq_off (some 67) 220 rfl rfl rfl rfl rfl (by first | exact .inl rfl | exact .inr rfl) ?_ | refine sq_on (some 67) 220 rfl rfl rfl rfl rfl (ok_move rfl rfl) ?_
          first | refine sq_off (some 68) 228 rfl rfl rfl rfl rfl (by first | exact .inl rfl | exact .inr rfl) ?_ | refine sq_on (some 68) 228 rfl rfl rfl rfl rfl (ok_move rfl rfl) ?_
          first | refine sq_off (some 69) 236 rfl rfl rfl rfl rfl (by first | exact .inl rfl | exact .inr rfl) ?_ | refine sq_on (some 69) 236 rfl rfl rfl rfl rfl (withEv (x := .tmp 67) rfl (fun h1 => withEv (x := .tmp 68) rfl (fun h2 => by first | exact ix_p Try.e132 rfl h1 h2 (by omega) | exact ix_r Try.e132 rfl h1 rfl h2 (by omega) | exact ok_indexp rfl Try.e132 h1 h2 (by omega) (by omega) | exact ok_indexr rfl Try.e132 h1 rfl h2 (by omega) (by omega)))) ?_
          first | refine sq_off (some 70) 244 rfl rfl rfl rfl rfl (by first | exact .inl rfl | exact .inr rfl) ?_ | refine sq_on (some 70) 244 rfl rfl rfl rfl rfl (withEv (x := .tmp 69) rfl (fun h1 => by first | exact ld1 Try.r4 rfl h1 rfl (by first | assumption | rfl) | exact lp1 Try.r4 rfl h1 (by first | assumption | rfl))) ?_
          refine sq_op (some 71) 252 rfl rfl rfl (by first | exact ok_pick_t rfl rfl rfl | exact ok_pick_f rfl rfl rfl) ?_
          refine sq_nil ?_
          refine aw_cond rfl (fun hb4 => ?_) (fun hb4 => ?_)
          · exact absurd hb4 (by decide)
          · skip
            refine aw_skip ?_
            refine aw_seq ?_
            refine aw_region 284 hE (by decide) rfl rfl ?_
            refine sq_op (some 73) 260 rfl rfl rfl (ok_move rfl rfl) ?_
            refine sq_op (some 74) 268 rfl rfl rfl (ok_move rfl rfl) ?_
            refine sq_op (some 75) 276 rfl rfl rfl (withEv (x := .tmp 73) rfl (fun h1 => withEv (x := .tmp 74) rfl (fun h2 => by first | exact ix_p Try.e132 rfl h1 h2 (by omega) | exact ix_r Try.e132 rfl h1 rfl h2 (by omega) | exact ok_indexp rfl Try.e132 h1 h2 (by omega) (by omega) | exact ok_indexr rfl Try.e132 h1 rfl h2 (by omega) (by omega)))) ?_
            refine sq_op none 284 rfl rfl rfl (by first | exact stb (.ev (d := .t (.v (.bool true))) rfl) rfl Try.s4 rfl rfl rfl (by first | exact (.put .done) | exact (.skip (.put .done)) | exact (.skip (.skip (.put .done))) | exact (.skip (.skip (.skip (.put .done)))) | exact (.skip (.skip (.skip (.skip (.put .done))))) | exact (.skip (.skip (.skip (.skip (.skip (.put .done)))))) | exact (.skip (.skip (.skip (.skip (.skip (.skip (.put .done))))))) | exact (.skip (.skip (.skip (.skip (.skip (.skip (.skip (.put .done)))))))) | exact (.skip (.skip (.skip (.skip (.skip (.skip (.skip (.skip (.put .done)))))))))) (Nat.succ_pos _) | exact str (.ev (d := .t (.v (.bool true))) rfl) rfl Try.s4 rfl rfl rfl (by assumption) rfl (Nat.succ_pos _)) ?_
            refine sq_nil ?_
            refine aw_any [[], [0], [], [], [3], [3, 4], [], [3, 4, 5, 6], [3, 4, 5, 6, 7], [], [9], [3, 4, 5, 6, 7, 8, 9, 10], [0, 1, 2, 3, 4, 5, 6, 7, 8, 9, 10, 11], [0, 1, 2, 3, 4, 5, 6, 7, 8, 9, 10, 11, 12]] [[], [], [], [], [], [], [], [], [], [], [], [], [], [2]] Try.mix hE (by decide) (by kernel_rfl) 396 rfl (fun hr0 => ?_)
            refine an_op hr0 rfl 284 1 rfl rfl (withEv (x := .tmp 11) (ev_E (by kernel_rfl) rfl) (fun h1 => by first | exact ok_fieldr rfl Try.o45_2 h1 | exact ok_fieldp rfl Try.o45_2 h1)) rfl (fun hr1 => ?_)
            clear hr0
            refine an_op hr1 rfl 292 2 rfl rfl (withEv (x := .tmp 76) (ev_T hr1 0 0 rfl (by kernel_rfl) rfl) (fun h1 => by first | exact ld1 Try.r43 rfl h1 (by first | exact ctx_HE hr1.ok (by kernel_rfl) rfl) (by first | assumption | rfl) | exact lp1 Try.r43 rfl h1 (by first | assumption | rfl))) rfl (fun hr2 => ?_)
            clear hr1
            refine an_op hr2 rfl 300 3 rfl rfl (ok_move rfl (ev_E (by kernel_rfl) rfl)) rfl (fun hr3 => ?_)
            clear hr2
            refine an_op hr3 rfl 308 4 rfl rfl (withEv (x := .tmp 14) (ev_E (by kernel_rfl) rfl) (fun h1 => by first | exact ok_fieldr rfl Try.o96_1 h1 | exact ok_fieldp rfl Try.o96_1 h1)) rfl (fun hr4 => ?_)
            clear hr3
            refine an_op hr4 rfl 316 5 rfl rfl (withEv (x := .tmp 79) (ev_T hr4 3 0 rfl (by kernel_rfl) rfl) (fun h1 => by first | exact ok_fieldr rfl Try.o45_2 h1 | exact ok_fieldp rfl Try.o45_2 h1)) rfl (fun hr5 => ?_)
            clear hr4
            refine an_op hr5 rfl 324 6 rfl rfl (withEv (x := .tmp 80) (ev_T hr5 4 0 rfl (by kernel_rfl) rfl) (fun h1 => by first | exact ld1 Try.r43 rfl h1 (by first | exact ctx_HE hr5.ok (by kernel_rfl) rfl) (by first | assumption | rfl) | exact lp1 Try.r43 rfl h1 (by first | assumption | rfl))) rfl (fun hr6 => ?_)
            clear hr5
            refine an_op hr6 rfl 332 7 rfl rfl (ok_move rfl (ev_E (by kernel_rfl) rfl)) rfl (fun hr7 => ?_)
            clear hr6
            refine an_op hr7 rfl 340 8 rfl rfl (withEv (x := .tmp 81) (ev_T hr7 5 1 rfl (by kernel_rfl) rfl) (fun h1 => withEv (x := .tmp 82) (ev_T hr7 6 0 rfl (by kernel_rfl) rfl) (fun h2 => by first | exact ix_p Try.e43 rfl h1 h2 (by omega) | exact ix_r Try.e43 rfl h1 (by first | exact ctx_HE hr7.ok (by kernel_rfl) rfl) h2 (by omega) | exact ok_indexp rfl Try.e43 h1 h2 (by omega) (by omega) | exact ok_indexr rfl Try.e43 h1 (by first | exact ctx_HE hr7.ok (by kernel_rfl) rfl) h2 (by omega) (by omega)))) rfl (fun hr8 => ?_)
            clear hr7
            refine an_op hr8 rfl 348 9 rfl rfl (withEv (x := .tmp 83) (ev_T hr8 7 0 rfl (by kernel_rfl) rfl) (fun h1 => by first | exact ldc Try.r51 Try.s51 rfl h1 (by first | exact ctx_HE hr8.ok (by kernel_rfl) rfl) (by first | exact (.take (.take .done)) | exact (.skip (.take (.take .done))) | exact (.skip (.skip (.take (.take .done)))) | exact (.skip (.skip (.skip (.take (.take .done))))) | exact (.skip (.skip (.skip (.skip (.take (.take .done)))))) | exact (.skip (.skip (.skip (.skip (.skip (.take (.take .done))))))) | exact (.skip (.skip (.skip (.skip (.skip (.skip (.take (.take .done)))))))) | exact (.skip (.skip (.skip (.skip (.skip (.skip (.skip (.take (.take .done))))))))) | exact (.skip (.skip (.skip (.skip (.skip (.skip (.skip (.skip (.take (.take .done))))))))))) | exact lpn Try.r51 Try.s51 rfl h1 (by first | assumption | rfl) rfl)) rfl (fun hr9 => ?_)
            clear hr8
            refine an_op hr9 rfl 356 10 rfl rfl (withEv (x := .tmp 14) (ev_E (by kernel_rfl) rfl) (fun h1 => by first | exact ok_fieldr rfl Try.o96_0 h1 | exact ok_fieldp rfl Try.o96_0 h1)) rfl (fun hr10 => ?_)
            clear hr9
            refine an_op hr10 rfl 364 11 rfl rfl (withEv (x := .tmp 85) (ev_T hr10 9 0 rfl (by kernel_rfl) rfl) (fun h1 => by first | exact ld1 Try.r3 rfl h1 (by first | exact ctx_HE hr10.ok (by kernel_rfl) rfl) (by first | assumption | rfl) | exact lp1 Try.r3 rfl h1 (by first | assumption | rfl))) rfl (fun hr11 => ?_)
            clear hr10
            refine an_op hr11 rfl 372 12 rfl rfl (ok_call [] [] rfl Try.func103 (by simp [Try.f103]) (by simp [Try.f103]) (cm) (.cons (ev_T hr11 8 2 rfl (by kernel_rfl) rfl) (by repeat' first | exact .t rfl | exact .rd rfl rfl rfl rfl | exact .nil | exact DLeL.nil | refine DLeL.cons ?_ ?_ | refine .agg' ?_) (.cons (ev_T hr11 10 0 rfl (by kernel_rfl) rfl) (by repeat' first | exact .t rfl | exact .rd rfl rfl rfl rfl | exact .nil | exact DLeL.nil | refine DLeL.cons ?_ ?_ | refine .agg' ?_) (.nil))) .nil (DLe.agg' (.cons (.t rfl) (.cons (.t rfl) .nil))) .nil rfl rfl) rfl (fun hr12 => ?_)
            clear hr11
            refine an_op hr12 rfl 380 13 rfl rfl (withEv (x := .tmp 77) (ev_T hr12 1 10 rfl (by kernel_rfl) rfl) (fun h1 => withEv (x := .tmp 78) (ev_T hr12 2 9 rfl (by kernel_rfl) rfl) (fun h2 => by first | exact ix_p Try.e43 rfl h1 h2 (by omega) | exact ix_r Try.e43 rfl h1 (by first | exact ctx_HE hr12.ok (by kernel_rfl) rfl | exact ev_H hr12 11 0 rfl (by kernel_rfl) rfl rfl) h2 (by omega) | exact ok_indexp rfl Try.e43 h1 h2 (by omega) (by omega) | exact ok_indexr rfl Try.e43 h1 (by first | exact ctx_HE hr12.ok (by kernel_rfl) rfl | exact ev_H hr12 11 0 rfl (by kernel_rfl) rfl rfl) h2 (by omega) (by omega)))) rfl (fun hr13 => ?_)
            clear hr12
            refine an_op hr13 rfl 388 14 rfl rfl (withEv (x := .tmp 87) (ev_T hr13 11 1 rfl (by kernel_rfl) rfl) (fun h1 => by first | exact stb (.ev h1) rfl Try.s51 (ev_T hr13 12 0 rfl (by kernel_rfl) rfl) rfl (by first | exact ctx_HE hr13.ok (by kernel_rfl) rfl | exact ev_H hr13 11 1 rfl (by kernel_rfl) rfl rfl) (by first | exact (.put (.put .done)) | exact (.skip (.put (.put .done))) | exact (.skip (.skip (.put (.put .done)))) | exact (.skip (.skip (.skip (.put (.put .done))))) | exact (.skip (.skip (.skip (.skip (.put (.put .done)))))) | exact (.skip (.skip (.skip (.skip (.skip (.put (.put .done))))))) | exact (.skip (.skip (.skip (.skip (.skip (.skip (.put (.put .done)))))))) | exact (.skip (.skip (.skip (.skip (.skip (.skip (.skip (.put (.put .done))))))))) | exact (.skip (.skip (.skip (.skip (.skip (.skip (.skip (.skip (.put (.put .done))))))))))) (Nat.succ_pos _) | exact str (.ev h1) rfl Try.s51 (ev_T hr13 12 0 rfl (by kernel_rfl) rfl) rfl (by first | exact ctx_HE hr13.ok (by kernel_rfl) rfl | exact ev_H hr13 11 1 rfl (by kernel_rfl) rfl rfl) (by assumption) rfl (Nat.succ_pos _) | exact stb (.own h1 (by first | exact ctx_HE hr13.ok (by kernel_rfl) rfl | exact ev_H hr13 11 1 rfl (by kernel_rfl) rfl rfl)) rfl Try.s51 (ev_T hr13 12 0 rfl (by kernel_rfl) rfl) rfl (by first | exact ctx_HE hr13.ok (by kernel_rfl) rfl | exact ev_H hr13 11 1 rfl (by kernel_rfl) rfl rfl) (by first | exact (.put (.put .done)) | exact (.skip (.put (.put .done))) | exact (.skip (.skip (.put (.put .done)))) | exact (.skip (.skip (.skip (.put (.put .done))))) | exact (.skip (.skip (.skip (.skip (.put (.put .done)))))) | exact (.skip (.skip (.skip (.skip (.skip (.put (.put .done))))))) | exact (.skip (.skip (.skip (.skip (.skip (.skip (.put (.put .done)))))))) | exact (.skip (.skip (.skip (.skip (.skip (.skip (.skip (.put (.put .done))))))))) | exact (.skip (.skip (.skip (.skip (.skip (.skip (.skip (.skip (.put (.put .done))))))))))) (Nat.succ_pos _) | exact str (.own h1 (by first | exact ctx_HE hr13.ok (by kernel_rfl) rfl | exact ev_H hr13 11 1 rfl (by kernel_rfl) rfl rfl)) rfl Try.s51 (ev_T hr13 12 0 rfl (by kernel_rfl) rfl) rfl (by first | exact ctx_HE hr13.ok (by kernel_rfl) rfl | exact ev_H hr13 11 1 rfl (by kernel_rfl) rfl rfl) (by assumption) rfl (Nat.succ_pos _))) rfl (fun hr14 => ?_)
            clear hr13
            refine an_nil [some 76, some 77, some 78, some 79, some 80, some 81, some 82, some 83, some 84, some 85, some 86, some 87, some 88, none] hr14 rfl (by kernel_rfl) ?_
            clear hr14
            refine aw_region 412 hE (by decide) rfl rfl ?_
            refine sq_op (some 89) 404 rfl rfl rfl (ok_add rfl rfl rfl (by omega)) ?_
            refine sq_op (some 54) 412 rfl rfl rfl (ok_move rfl rfl) ?_
            refine sq_nil ?_
            exact ⟨k + 1, ⟨by omega, hok2⟩, show s.of_.length - (k + 1) < s.of_.length - k by omega, ent_of [] 100 (.cons rfl (.t rfl) (.cons rfl (.ref rfl rfl) (.cons rfl (.t rfl) (.cons rfl (.ref rfl rfl) (.cons rfl (.own rfl rfl) (.cons rfl (.t rfl) (.cons rfl (.t rfl) (.cons rfl (.t rfl) (.cons rfl (.ref rfl rfl) (.cons rfl (.t rfl) (.cons rfl (.t rfl) (.cons rfl (.t rfl) .nil)))))))))))) (.cons rfl (.box' (.cons (.t rfl) (.cons (.t rfl) (.cons (.t rfl) .nil)))) (.cons rfl (.box' (.cons (.t rfl) (.cons (.t rfl) (.cons (.own rfl rfl) .nil)))) (.cons rfl (.row harr rfl) (.cons rfl (.row hmet rfl) (.cons rfl (.box' (.cons (.t rfl) (.cons (.t rfl) (.cons (.t rfl) (.cons (.t rfl) (.cons (.t rfl) .nil)))))) .nil))))) rfl⟩
      · simp at hb3
        obtain rfl : k = s.of_.length := by omega
        rw [← entS_length heq, List.take_length, ← entL_take hs] at hC2 ⊢
        have hC' := hC2
        refine aw_exit ?_
        refine aw_region 124 hE (by decide) rfl rfl ?_
        refine sq_op (some 90) 116 rfl rfl rfl (ok_add rfl rfl rfl (by omega)) ?_
        refine sq_op (some 47) 124 rfl rfl rfl (ok_move rfl rfl) ?_
        refine sq_nil ?_
        exact ⟨r + 1, ⟨by omega, hC'⟩, show l.length - (r + 1) < l.length - r by omega, ent_of [] 100 (.cons rfl (.t rfl) (.cons rfl (.ref rfl rfl) (.cons rfl (.t rfl) (.cons rfl (.ref rfl rfl) (.cons rfl (.own rfl rfl) (.cons rfl (.t rfl) (.cons rfl (.t rfl) (.cons rfl (.t rfl) .nil)))))))) (.cons rfl (.box' (.cons (.t rfl) (.cons (.t rfl) (.cons (.t rfl) .nil)))) (.cons rfl (.box' (.cons (.t rfl) (.cons (.t rfl) (.cons (.own rfl rfl) .nil)))) (.cons rfl (.row rfl rfl) (.cons rfl (.row rfl rfl) .nil)))) rfl⟩
    · simp at hb2
      obtain rfl : r = l.length := by omega
      rw [List.take_length] at hC ⊢
      have hj : joinM l w h = ((w, h, arrOf n (entL l)), 0) := by unfold joinM; rw [hn]; exact if_pos ⟨hlens, hC⟩
      have hal := arrOf_length n (entL l)
      refine aw_exit ?_
      refine aw_seq ?_
      refine aw_seal 2 rfl ?_
      refine aw_region 132 hE (by decide) rfl rfl ?_
      refine sq_op (some 91) 116 rfl rfl rfl (withEv (x := .tmp 11) rfl (fun h1 => by first | exact ldc Try.r45 Try.s45 rfl h1 rfl (by first | exact (.take (.take (.take .done))) | exact (.skip (.take (.take (.take .done)))) | exact (.skip (.skip (.take (.take (.take .done))))) | exact (.skip (.skip (.skip (.take (.take (.take .done)))))) | exact (.skip (.skip (.skip (.skip (.take (.take (.take .done))))))) | exact (.skip (.skip (.skip (.skip (.skip (.take (.take (.take .done)))))))) | exact (.skip (.skip (.skip (.skip (.skip (.skip (.take (.take (.take .done))))))))) | exact (.skip (.skip (.skip (.skip (.skip (.skip (.skip (.take (.take (.take .done)))))))))) | exact (.skip (.skip (.skip (.skip (.skip (.skip (.skip (.skip (.take (.take (.take .done)))))))))))) | exact lpn Try.r45 Try.s45 rfl h1 (by first | assumption | rfl) rfl)) ?_
      refine sq_op none 124 rfl rfl rfl (withEv (x := .tmp 91) rfl (fun h1 => by first | exact stb (.ev h1) rfl Try.s45 rfl rfl rfl (by first | exact (.put (.put (.put .done))) | exact (.skip (.put (.put (.put .done)))) | exact (.skip (.skip (.put (.put (.put .done))))) | exact (.skip (.skip (.skip (.put (.put (.put .done)))))) | exact (.skip (.skip (.skip (.skip (.put (.put (.put .done))))))) | exact (.skip (.skip (.skip (.skip (.skip (.put (.put (.put .done)))))))) | exact (.skip (.skip (.skip (.skip (.skip (.skip (.put (.put (.put .done))))))))) | exact (.skip (.skip (.skip (.skip (.skip (.skip (.skip (.put (.put (.put .done)))))))))) | exact (.skip (.skip (.skip (.skip (.skip (.skip (.skip (.skip (.put (.put (.put .done)))))))))))) (Nat.succ_pos _) | exact str (.ev h1) rfl Try.s45 rfl rfl rfl (by assumption) rfl (Nat.succ_pos _) | exact stb (.own h1 rfl) rfl Try.s45 rfl rfl rfl (by first | exact (.put (.put (.put .done))) | exact (.skip (.put (.put (.put .done)))) | exact (.skip (.skip (.put (.put (.put .done))))) | exact (.skip (.skip (.skip (.put (.put (.put .done)))))) | exact (.skip (.skip (.skip (.skip (.put (.put (.put .done))))))) | exact (.skip (.skip (.skip (.skip (.skip (.put (.put (.put .done)))))))) | exact (.skip (.skip (.skip (.skip (.skip (.skip (.put (.put (.put .done))))))))) | exact (.skip (.skip (.skip (.skip (.skip (.skip (.skip (.put (.put (.put .done)))))))))) | exact (.skip (.skip (.skip (.skip (.skip (.skip (.skip (.skip (.put (.put (.put .done)))))))))))) (Nat.succ_pos _) | exact str (.own h1 rfl) rfl Try.s45 rfl rfl rfl (by assumption) rfl (Nat.succ_pos _))) ?_
      refine sq_op (some 7) 132 rfl rfl rfl (ok_assign rfl rfl) ?_
      refine sq_nil ?_
      refine aw_ret ?_
      exact retc2 [] rfl (.row rfl rfl Try.r45 Try.s45 rfl) (.tmp rfl) (by rw [hj]; exact .tup' (.cons (.agg' (.cons (.t rfl) (.cons (.t rfl) (.cons (.rd rfl rfl rfl hal.symm) .nil)))) (.cons (.t rfl) .nil))) .nil rfl
end Go.Proofs.Ytokdclbfjlnnjaa
