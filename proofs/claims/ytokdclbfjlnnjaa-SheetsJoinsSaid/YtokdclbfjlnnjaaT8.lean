/- The reference's Join. -/
import Derived.Test.YtokdclbfjlnnjaaT7
namespace Go.Proofs.Ytokdclbfjlnnjaa
open Go.RowKit Go.Ab

theorem cntE_le (w : Int) (E : List Ent) : cntE w E ≤ E.length := List.length_filter_le _ _
theorem arrOf_succ (q : Nat) (E : List Ent) : arrOf (q + 1) E = arrOf q E ++ [((E.find? (keyB q)).map (·.2)).getD (0, [])] := by
  unfold arrOf
  rw [List.range_succ, List.map_append]
  rfl
theorem Try.z51 : (Try.prog.info? 51).bind (·.zero) = some (.agg #[.int .i64 0, .slice none 0 0]) := by kernel_rfl
set_option maxRecDepth 100000 in
set_option maxHeartbeats 4000000 in
theorem rjoin_does (l : List Sht) (w h : Int) (ok : ∀ s ∈ l, ShtOk s) (hl : l.length ≤ 1000) : Does Try.prog 62 [.t (.sl l.length (shtT l)), I w, I h] [] (joinD (joinM l w h)) [] := by
  refine spec_of Try.func62 rfl (by simp [Try.f62]) fun E hE => ?_
  refine aw_seq ?_
  refine aw_region 116 hE (by decide) rfl rfl ?_
  refine sq_op (some 6) 108 rfl rfl rfl (ok_alloc rfl Try.z45 rfl) ?_
  refine sq_op (some 7) 116 rfl rfl rfl (ok_assign rfl rfl) ?_
  refine sq_nil ?_
  refine aw_seq ?_
  refine aw_region 124 hE (by decide) rfl rfl ?_
  refine sq_op (some 8) 124 rfl rfl rfl (ok_assign rfl rfl) ?_
  refine sq_nil ?_
  refine aw_seq ?_
  refine aw_seq ?_
  refine aw_region 132 hE (by decide) rfl rfl ?_
  refine sq_op (some 9) 132 rfl rfl rfl (ok_assign rfl rfl) ?_
  refine sq_nil ?_
  refine aw_block ?_
  refine aw_loop (ι := Nat) (fun r => lit [(0, .t (.sl l.length (shtT l))), (1, I w), (2, I h), (6, .ref 0 0), (8, I (entL (l.take r)).length), (9, I r)] [(0, .box 45 [I 0, I 0, .t (.v (.slice none 0 0))])] 100) (fun r => r ≤ l.length ∧ lensOk (l.take r)) (fun r => l.length - r) 0 (ent_of [(0, 100)] 100 (.cons rfl (.t rfl) (.cons rfl (.t rfl) (.cons rfl (.t rfl) (.cons rfl (.ref rfl rfl) (.cons rfl (.t rfl) (.cons rfl (.t rfl) .nil)))))) (.cons rfl (.box' (.cons (.t rfl) (.cons (.t rfl) (.cons (.t rfl) .nil)))) .nil) rfl) ⟨by omega, fun s h => by simp at h⟩ (fun r hC0 => ?_)
  obtain ⟨hr, hC⟩ := hC0
  refine aw_seq ?_
  refine aw_seq ?_
  refine aw_region 132 hE (by decide) rfl rfl ?_
  refine sq_op (some 16) 108 rfl rfl rfl (ok_move rfl rfl) ?_
  refine sq_op (some 17) 116 rfl rfl rfl (ok_move rfl rfl) ?_
  refine sq_op (some 18) 124 rfl rfl rfl (withEv (x := .tmp 17) rfl (fun h1 => by first | exact ok_len Try.sl84 rfl rfl (.t h1) | exact ok_len Try.sl84 rfl rfl (.own h1 rfl) | exact ok_len Try.sl84 rfl rfl (.nil h1))) ?_
  refine sq_op (some 19) 132 rfl rfl rfl (ok_lss rfl rfl rfl) ?_
  refine sq_nil ?_
  refine aw_cond rfl (fun hb0 => ?_) (fun hb0 => ?_)
  · simp at hb0
    obtain ⟨s, hs⟩ : ∃ s, l[r]? = some s := ⟨_, List.getElem?_eq_getElem hb0⟩
    have hsok := ok s (List.mem_iff_getElem?.2 ⟨r, hs⟩)
    have hofl := hsok.2.2.2
    have hshl := hsok.2.1
    have f0 : (shtT l)[r * 5 + 0]? = some (ti s.x) := flat_get (f := shtC) (fun _ => rfl) hs 0 (by decide)
    have f3 : (shtT l)[r * 5 + 1 + 2]? = some (.sl s.sh.length (shT s.sh)) := flat_get (f := shtC) (fun _ => rfl) hs 3 (by decide)
    have f4 : (shtT l)[r * 5 + 4]? = some (.sl s.of_.length (intsT s.of_)) := flat_get (f := shtC) (fun _ => rfl) hs 4 (by decide)
    have hEb := entL_bound hC (fun s hs => (ok s (List.mem_of_mem_take hs)).2.2.2)
    rw [List.length_take] at hEb
    refine aw_skip ?_
    refine aw_seq ?_
    refine aw_block ?_
    refine aw_seq ?_
    refine aw_seq ?_
    refine aw_any [[], [], [0, 1], [0, 1, 2], [0, 1, 2, 3], [0, 1, 2, 3, 4], [], [], [6, 7], [6, 7, 8], [6, 7, 8, 9], [6, 7, 8, 9, 10], [6, 7, 8, 9, 10, 11], [0, 1, 2, 3, 4, 5, 6, 7, 8, 9, 10, 11, 12]] [[], [], [], [], [], [], [], [], [], [], [], [], [], []] Try.mix hE (by decide) (by kernel_rfl) 244 rfl (fun hr0 => ?_)
    refine an_op hr0 rfl 132 1 rfl rfl (ok_move rfl (ev_E (by kernel_rfl) rfl)) rfl (fun hr1 => ?_)
    clear hr0
    refine an_op hr1 rfl 140 2 rfl rfl (ok_move rfl (ev_E (by kernel_rfl) rfl)) rfl (fun hr2 => ?_)
    clear hr1
    refine an_op hr2 rfl 148 3 rfl rfl (withEv (x := .tmp 22) (ev_T hr2 0 1 rfl (by kernel_rfl) rfl) (fun h1 => withEv (x := .tmp 23) (ev_T hr2 1 0 rfl (by kernel_rfl) rfl) (fun h2 => by first | exact ix_p Try.e84 rfl h1 h2 (by omega) | exact ix_r Try.e84 rfl h1 (by first | exact ctx_HE hr2.ok (by kernel_rfl) rfl) h2 (by omega) | exact ok_indexp rfl Try.e84 h1 h2 (by omega) (by omega) | exact ok_indexr rfl Try.e84 h1 (by first | exact ctx_HE hr2.ok (by kernel_rfl) rfl) h2 (by omega) (by omega)))) rfl (fun hr3 => ?_)
    clear hr2
    refine an_op hr3 rfl 156 4 rfl rfl (withEv (x := .tmp 24) (ev_T hr3 2 0 rfl (by kernel_rfl) rfl) (fun h1 => by first | exact ok_fieldr rfl Try.o93_2 h1 | exact ok_fieldp rfl Try.o93_2 h1)) rfl (fun hr4 => ?_)
    clear hr3
    refine an_op hr4 rfl 164 5 rfl rfl (withEv (x := .tmp 25) (ev_T hr4 3 0 rfl (by kernel_rfl) rfl) (fun h1 => by first | exact ld1 Try.r22 rfl h1 (by first | exact ctx_HE hr4.ok (by kernel_rfl) rfl) (by first | assumption | rfl) | exact lp1 Try.r22 rfl h1 (by first | assumption | rfl))) rfl (fun hr5 => ?_)
    clear hr4
    refine an_op hr5 rfl 172 6 rfl rfl (withEv (x := .tmp 26) (ev_T hr5 4 0 rfl (by kernel_rfl) rfl) (fun h1 => by first | exact ok_len Try.sl22 rfl rfl (.t h1) | exact ok_len Try.sl22 rfl rfl (.own h1 (by first | exact ctx_HE hr5.ok (by kernel_rfl) rfl)) | exact ok_len Try.sl22 rfl rfl (.nil h1))) rfl (fun hr6 => ?_)
    clear hr5
    refine an_op hr6 rfl 180 7 rfl rfl (ok_move rfl (ev_E (by kernel_rfl) rfl)) rfl (fun hr7 => ?_)
    clear hr6
    refine an_op hr7 rfl 188 8 rfl rfl (ok_move rfl (ev_E (by kernel_rfl) rfl)) rfl (fun hr8 => ?_)
    clear hr7
    refine an_op hr8 rfl 196 9 rfl rfl (withEv (x := .tmp 28) (ev_T hr8 6 1 rfl (by kernel_rfl) rfl) (fun h1 => withEv (x := .tmp 29) (ev_T hr8 7 0 rfl (by kernel_rfl) rfl) (fun h2 => by first | exact ix_p Try.e84 rfl h1 h2 (by omega) | exact ix_r Try.e84 rfl h1 (by first | exact ctx_HE hr8.ok (by kernel_rfl) rfl) h2 (by omega) | exact ok_indexp rfl Try.e84 h1 h2 (by omega) (by omega) | exact ok_indexr rfl Try.e84 h1 (by first | exact ctx_HE hr8.ok (by kernel_rfl) rfl) h2 (by omega) (by omega)))) rfl (fun hr9 => ?_)
    clear hr8
    refine an_op hr9 rfl 204 10 rfl rfl (withEv (x := .tmp 30) (ev_T hr9 8 0 rfl (by kernel_rfl) rfl) (fun h1 => by first | exact ok_fieldr rfl Try.o93_1 h1 | exact ok_fieldp rfl Try.o93_1 h1)) rfl (fun hr10 => ?_)
    clear hr9
    refine an_op hr10 rfl 212 11 rfl rfl (withEv (x := .tmp 31) (ev_T hr10 9 0 rfl (by kernel_rfl) rfl) (fun h1 => by first | exact ok_fieldr rfl Try.o45_2 h1 | exact ok_fieldp rfl Try.o45_2 h1)) rfl (fun hr11 => ?_)
    clear hr10
    refine an_op hr11 rfl 220 12 rfl rfl (withEv (x := .tmp 32) (ev_T hr11 10 0 rfl (by kernel_rfl) rfl) (fun h1 => by first | exact ld1 Try.r43 rfl h1 (by first | exact ctx_HE hr11.ok (by kernel_rfl) rfl) (by first | assumption | rfl) | exact lp1 Try.r43 rfl h1 (by first | assumption | rfl))) rfl (fun hr12 => ?_)
    clear hr11
    refine an_op hr12 rfl 228 13 rfl rfl (withEv (x := .tmp 33) (ev_T hr12 11 0 rfl (by kernel_rfl) rfl) (fun h1 => by first | exact ok_len Try.sl43 rfl rfl (.t h1) | exact ok_len Try.sl43 rfl rfl (.own h1 (by first | exact ctx_HE hr12.ok (by kernel_rfl) rfl)) | exact ok_len Try.sl43 rfl rfl (.nil h1))) rfl (fun hr13 => ?_)
    clear hr12
    refine an_op hr13 rfl 236 14 rfl rfl (ok_neq rfl (ev_T hr13 5 7 rfl (by kernel_rfl) rfl) (ev_T hr13 12 0 rfl (by kernel_rfl) rfl)) rfl (fun hr14 => ?_)
    clear hr13
    refine an_nil [some 22, some 23, some 24, some 25, some 26, some 27, some 28, some 29, some 30, some 31, some 32, some 33, some 34, some 35] hr14 rfl (by kernel_rfl) ?_
    clear hr14
    refine aw_cond rfl (fun hb1 => ?_) (fun hb1 => ?_)
    · simp at hb1
      have hj : joinM l w h = ((0, 0, []), 2) := if_neg fun hh => hb1 (by have := hh.1 s (List.mem_iff_getElem?.2 ⟨r, hs⟩); omega)
      refine aw_seq ?_
      refine aw_region 268 hE (by decide) rfl rfl ?_
      refine sq_op (some 36) 252 rfl rfl rfl (bld Try.b45 rfl ev_nil .nil) ?_
      refine sq_op none 260 rfl rfl rfl (withEv (x := .tmp 36) rfl (fun h1 => by first | exact stb (.ev h1) rfl Try.s45 rfl rfl rfl (by first | exact (.put (.put (.put .done))) | exact (.skip (.put (.put (.put .done)))) | exact (.skip (.skip (.put (.put (.put .done))))) | exact (.skip (.skip (.skip (.put (.put (.put .done)))))) | exact (.skip (.skip (.skip (.skip (.put (.put (.put .done))))))) | exact (.skip (.skip (.skip (.skip (.skip (.put (.put (.put .done)))))))) | exact (.skip (.skip (.skip (.skip (.skip (.skip (.put (.put (.put .done))))))))) | exact (.skip (.skip (.skip (.skip (.skip (.skip (.skip (.put (.put (.put .done)))))))))) | exact (.skip (.skip (.skip (.skip (.skip (.skip (.skip (.skip (.put (.put (.put .done)))))))))))) (Nat.succ_pos _) | exact str (.ev h1) rfl Try.s45 rfl rfl rfl (by assumption) rfl (Nat.succ_pos _) | exact stb (.own h1 rfl) rfl Try.s45 rfl rfl rfl (by first | exact (.put (.put (.put .done))) | exact (.skip (.put (.put (.put .done)))) | exact (.skip (.skip (.put (.put (.put .done))))) | exact (.skip (.skip (.skip (.put (.put (.put .done)))))) | exact (.skip (.skip (.skip (.skip (.put (.put (.put .done))))))) | exact (.skip (.skip (.skip (.skip (.skip (.put (.put (.put .done)))))))) | exact (.skip (.skip (.skip (.skip (.skip (.skip (.put (.put (.put .done))))))))) | exact (.skip (.skip (.skip (.skip (.skip (.skip (.skip (.put (.put (.put .done)))))))))) | exact (.skip (.skip (.skip (.skip (.skip (.skip (.skip (.skip (.put (.put (.put .done)))))))))))) (Nat.succ_pos _) | exact str (.own h1 rfl) rfl Try.s45 rfl rfl rfl (by assumption) rfl (Nat.succ_pos _))) ?_
      refine sq_op (some 7) 268 rfl rfl rfl (ok_assign rfl rfl) ?_
      refine sq_nil ?_
      refine aw_ret ?_
      exact retc2 [] rfl (.row rfl rfl Try.r45 Try.s45 rfl) (.tmp rfl) (by rw [hj]; exact .tup' (.cons (.agg' (.cons (.t rfl) (.cons (.t rfl) (.cons .nil .nil)))) (.cons (.t rfl) .nil))) .nil rfl
    · simp at hb1
      have heq : s.of_.length = s.sh.length := by omega
      have hn8 : Tree.v (Value.int .i64 (((entL (l.take r)).length : Nat) + (s.of_.length : Nat))) = ti ((entL (l.take (r + 1))).length : Nat) := by rw [entL_take hs, List.length_append, entS_length heq, Int.natCast_add]
      refine aw_skip ?_
      refine aw_region 316 hE (by decide) rfl rfl ?_
      refine sq_op (some 37) 252 rfl rfl rfl (ok_move rfl rfl) ?_
      refine sq_op (some 38) 260 rfl rfl rfl (ok_move rfl rfl) ?_
      refine sq_op (some 39) 268 rfl rfl rfl (ok_move rfl rfl) ?_
      refine sq_op (some 40) 276 rfl rfl rfl (withEv (x := .tmp 38) rfl (fun h1 => withEv (x := .tmp 39) rfl (fun h2 => by first | exact ix_p Try.e84 rfl h1 h2 (by omega) | exact ix_r Try.e84 rfl h1 rfl h2 (by omega) | exact ok_indexp rfl Try.e84 h1 h2 (by omega) (by omega) | exact ok_indexr rfl Try.e84 h1 rfl h2 (by omega) (by omega)))) ?_
      refine sq_op (some 41) 284 rfl rfl rfl (withEv (x := .tmp 40) rfl (fun h1 => by first | exact ok_fieldr rfl Try.o93_2 h1 | exact ok_fieldp rfl Try.o93_2 h1)) ?_
      refine sq_op (some 42) 292 rfl rfl rfl (withEv (x := .tmp 41) rfl (fun h1 => by first | exact ld1 Try.r22 rfl h1 rfl (by first | assumption | rfl) | exact lp1 Try.r22 rfl h1 (by first | assumption | rfl))) ?_
      refine sq_op (some 43) 300 rfl rfl rfl (withEv (x := .tmp 42) rfl (fun h1 => by first | exact ok_len Try.sl22 rfl rfl (.t h1) | exact ok_len Try.sl22 rfl rfl (.own h1 rfl) | exact ok_len Try.sl22 rfl rfl (.nil h1))) ?_
      refine sq_op (some 44) 308 rfl rfl rfl (ok_add rfl rfl rfl (by omega)) ?_
      refine sq_op (some 8) 316 rfl rfl rfl (ok_assign rfl rfl) ?_
      refine sq_nil ?_
      refine aw_region 340 hE (by decide) rfl rfl ?_
      refine sq_op (some 20) 324 rfl rfl rfl (ok_move rfl rfl) ?_
      refine sq_op (some 21) 332 rfl rfl rfl (ok_add rfl rfl rfl (by omega)) ?_
      refine sq_op (some 9) 340 rfl rfl rfl (ok_assign rfl rfl) ?_
      refine sq_nil ?_
      exact ⟨r + 1, ⟨by omega, lens_snoc hs hC heq⟩, show l.length - (r + 1) < l.length - r by omega, ent_of [] 100 (.cons rfl (.t rfl) (.cons rfl (.t rfl) (.cons rfl (.t rfl) (.cons rfl (.ref rfl rfl) (.cons rfl (.t hn8) (.cons rfl (.t rfl) .nil)))))) (.cons rfl (.box' (.cons (.t rfl) (.cons (.t rfl) (.cons (.t rfl) .nil)))) .nil) rfl⟩
  · simp at hb0
    obtain rfl : r = l.length := by omega
    rw [List.take_length] at hC ⊢
    have hlens := hC
    have hEb := entL_bound hC (fun s hs => (ok s hs).2.2.2)
    obtain ⟨n, hn⟩ : ∃ n, (entL l).length = n := ⟨_, rfl⟩
    rw [hn] at hEb ⊢
    refine aw_exit ?_
    refine aw_seq ?_
    refine aw_region 172 hE (by decide) rfl rfl ?_
    refine sq_op (some 45) 140 rfl rfl rfl (ok_move rfl rfl) ?_
    refine sq_op (some 46) 148 rfl rfl rfl (ok_move rfl rfl) ?_
    refine sq_op (some 47) 156 rfl rfl rfl (bld Try.b45 rfl (ev_cons rfl (ev_cons rfl ev_nil)) (.cons rfl rfl rfl rfl (.put .done) (.cons rfl rfl rfl rfl (.skip (.put .done)) .nil))) ?_
    refine sq_op (some 10) 164 rfl rfl rfl (ok_alloc rfl Try.z45 rfl) ?_
    refine sq_op none 172 rfl rfl rfl (withEv (x := .tmp 47) rfl (fun h1 => by first | exact stb (.ev h1) rfl Try.s45 rfl rfl rfl (by first | exact (.put (.put (.put .done))) | exact (.skip (.put (.put (.put .done)))) | exact (.skip (.skip (.put (.put (.put .done))))) | exact (.skip (.skip (.skip (.put (.put (.put .done)))))) | exact (.skip (.skip (.skip (.skip (.put (.put (.put .done))))))) | exact (.skip (.skip (.skip (.skip (.skip (.put (.put (.put .done)))))))) | exact (.skip (.skip (.skip (.skip (.skip (.skip (.put (.put (.put .done))))))))) | exact (.skip (.skip (.skip (.skip (.skip (.skip (.skip (.put (.put (.put .done)))))))))) | exact (.skip (.skip (.skip (.skip (.skip (.skip (.skip (.skip (.put (.put (.put .done)))))))))))) (Nat.succ_pos _) | exact str (.ev h1) rfl Try.s45 rfl rfl rfl (by assumption) rfl (Nat.succ_pos _) | exact stb (.own h1 rfl) rfl Try.s45 rfl rfl rfl (by first | exact (.put (.put (.put .done))) | exact (.skip (.put (.put (.put .done)))) | exact (.skip (.skip (.put (.put (.put .done))))) | exact (.skip (.skip (.skip (.put (.put (.put .done)))))) | exact (.skip (.skip (.skip (.skip (.put (.put (.put .done))))))) | exact (.skip (.skip (.skip (.skip (.skip (.put (.put (.put .done)))))))) | exact (.skip (.skip (.skip (.skip (.skip (.skip (.put (.put (.put .done))))))))) | exact (.skip (.skip (.skip (.skip (.skip (.skip (.skip (.put (.put (.put .done)))))))))) | exact (.skip (.skip (.skip (.skip (.skip (.skip (.skip (.skip (.put (.put (.put .done)))))))))))) (Nat.succ_pos _) | exact str (.own h1 rfl) rfl Try.s45 rfl rfl rfl (by assumption) rfl (Nat.succ_pos _))) ?_
    refine sq_nil ?_
    refine aw_seq ?_
    refine aw_seq ?_
    refine aw_region 180 hE (by decide) rfl rfl ?_
    refine sq_op (some 11) 180 rfl rfl rfl (ok_assign rfl rfl) ?_
    refine sq_nil ?_
    refine aw_block ?_
    refine aw_nilcell 156 2 51 2 true rfl rfl (by decide) ?_
    refine aw_loop (ι := Nat) (fun q => lit [(0, .t (.sl l.length (shtT l))), (6, .ref 0 0), (8, I n), (10, .ref 1 0), (11, I q)] [(0, .box 45 [I 0, I 0, .t (.v (.slice none 0 0))]), (1, .box 45 [I w, I h, .own 2]), (2, .row 51 2 q (shT (arrOf q (entL l))) true)] 100) (fun q => q ≤ n ∧ ∀ j : Nat, j < q → cntE j (entL l) = 1) (fun q => n - q) 0 (ent_of [(0, 0), (1, 156), (2, 180)] 100 (.cons rfl (.t rfl) (.cons rfl (.ref rfl rfl) (.cons rfl (.t rfl) (.cons rfl (.ref rfl rfl) (.cons rfl (.t rfl) .nil))))) (.cons rfl (.box' (.cons (.t rfl) (.cons (.t rfl) (.cons (.t rfl) .nil)))) (.cons rfl (.box' (.cons (.t rfl) (.cons (.t rfl) (.cons (.own rfl rfl) .nil)))) (.cons rfl (.row rfl rfl) .nil))) rfl) ⟨by omega, fun j hj => by omega⟩ (fun q hC1 => ?_)
    obtain ⟨hqn, hcnt⟩ := hC1
    refine aw_seq ?_
    refine aw_seq ?_
    refine aw_region 124 hE (by decide) rfl rfl ?_
    refine sq_op (some 48) 108 rfl rfl rfl (ok_move rfl rfl) ?_
    refine sq_op (some 49) 116 rfl rfl rfl (ok_move rfl rfl) ?_
    refine sq_op (some 50) 124 rfl rfl rfl (ok_lss rfl rfl rfl) ?_
    refine sq_nil ?_
    refine aw_cond rfl (fun hb2 => ?_) (fun hb2 => ?_)
    · simp at hb2
      refine aw_skip ?_
      refine aw_seq ?_
      refine aw_block ?_
      refine aw_seq ?_
      refine aw_region 132 hE (by decide) rfl rfl ?_
      refine sq_op (some 12) 132 rfl rfl rfl (ok_assign rfl rfl) ?_
      refine sq_nil ?_
      refine aw_seq ?_
      refine aw_region 140 hE (by decide) rfl rfl ?_
      refine sq_op (some 13) 140 rfl rfl rfl (ok_alloc rfl Try.z51 rfl) ?_
      refine sq_nil ?_
      refine aw_seq ?_
      refine aw_seq ?_
      refine aw_region 148 hE (by decide) rfl rfl ?_
      refine sq_op (some 14) 148 rfl rfl rfl (ok_assign rfl rfl) ?_
      refine sq_nil ?_
      refine aw_block ?_
      refine aw_loop (ι := Nat) (fun r => lit [(0, .t (.sl l.length (shtT l))), (6, .ref 0 0), (8, I n), (10, .ref 1 0), (11, I q), (12, I (cntE q (entL (l.take r)))), (13, .ref 3 0), (14, I r)] [(0, .box 45 [I 0, I 0, .t (.v (.slice none 0 0))]), (1, .box 45 [I w, I h, .own 2]), (2, .row 51 2 q (shT (arrOf q (entL l))) true), (3, .box 51 [I (lastE q (entL (l.take r))).1, .t (.sl (lastE q (entL (l.take r))).2.length (ptT (lastE q (entL (l.take r))).2))])] 100) (fun r => r ≤ l.length) (fun r => l.length - r) 0 (ent_of [(3, 132)] 100 (.cons rfl (.t rfl) (.cons rfl (.ref rfl rfl) (.cons rfl (.t rfl) (.cons rfl (.ref rfl rfl) (.cons rfl (.t rfl) (.cons rfl (.t rfl) (.cons rfl (.ref rfl rfl) (.cons rfl (.t rfl) .nil)))))))) (.cons rfl (.box' (.cons (.t rfl) (.cons (.t rfl) (.cons (.t rfl) .nil)))) (.cons rfl (.box' (.cons (.t rfl) (.cons (.t rfl) (.cons (.own rfl rfl) .nil)))) (.cons rfl (.row rfl rfl) (.cons rfl (.box' (.cons (.t rfl) (.cons (by exact .nil) .nil))) .nil)))) rfl) (by omega) (fun r hC2 => ?_)
      have hr := hC2
      refine aw_seq ?_
      refine aw_seq ?_
      refine aw_region 132 hE (by decide) rfl rfl ?_
      refine sq_op (some 53) 108 rfl rfl rfl (ok_move rfl rfl) ?_
      refine sq_op (some 54) 116 rfl rfl rfl (ok_move rfl rfl) ?_
      refine sq_op (some 55) 124 rfl rfl rfl (withEv (x := .tmp 54) rfl (fun h1 => by first | exact ok_len Try.sl84 rfl rfl (.t h1) | exact ok_len Try.sl84 rfl rfl (.own h1 rfl) | exact ok_len Try.sl84 rfl rfl (.nil h1))) ?_
      refine sq_op (some 56) 132 rfl rfl rfl (ok_lss rfl rfl rfl) ?_
      refine sq_nil ?_
      refine aw_cond rfl (fun hb3 => ?_) (fun hb3 => ?_)
      · simp at hb3
        obtain ⟨s, hs⟩ : ∃ s, l[r]? = some s := ⟨_, List.getElem?_eq_getElem hb3⟩
        have hsok := ok s (List.mem_iff_getElem?.2 ⟨r, hs⟩)
        have hofl := hsok.2.2.2
        have hshl := hsok.2.1
        have f0 : (shtT l)[r * 5 + 0]? = some (ti s.x) := flat_get (f := shtC) (fun _ => rfl) hs 0 (by decide)
        have f3 : (shtT l)[r * 5 + 1 + 2]? = some (.sl s.sh.length (shT s.sh)) := flat_get (f := shtC) (fun _ => rfl) hs 3 (by decide)
        have f4 : (shtT l)[r * 5 + 4]? = some (.sl s.of_.length (intsT s.of_)) := flat_get (f := shtC) (fun _ => rfl) hs 4 (by decide)
        have heq := hlens s (List.mem_iff_getElem?.2 ⟨r, hs⟩)
        refine aw_skip ?_
        refine aw_seq ?_
        refine aw_block ?_
        refine aw_seq ?_
        refine aw_region 140 hE (by decide) rfl rfl ?_
        refine sq_op (some 15) 140 rfl rfl rfl (ok_assign rfl rfl) ?_
        refine sq_nil ?_
        refine aw_block ?_
        refine aw_loop (ι := Nat) (fun k => lit [(0, .t (.sl l.length (shtT l))), (6, .ref 0 0), (8, I n), (10, .ref 1 0), (11, I q), (12, I (cntE q (entL (l.take r) ++ (entS s).take k))), (13, .ref 3 0), (14, I r), (15, I k)] [(0, .box 45 [I 0, I 0, .t (.v (.slice none 0 0))]), (1, .box 45 [I w, I h, .own 2]), (2, .row 51 2 q (shT (arrOf q (entL l))) true), (3, .box 51 [I (lastE q (entL (l.take r) ++ (entS s).take k)).1, .t (.sl (lastE q (entL (l.take r) ++ (entS s).take k)).2.length (ptT (lastE q (entL (l.take r) ++ (entS s).take k)).2))])] 100) (fun k => k ≤ s.of_.length) (fun k => s.of_.length - k) 0 (ent_of [] 100 (.cons rfl (.t rfl) (.cons rfl (.ref rfl rfl) (.cons rfl (.t rfl) (.cons rfl (.ref rfl rfl) (.cons rfl (.t rfl) (.cons rfl (.t (by simp)) (.cons rfl (.ref rfl rfl) (.cons rfl (.t rfl) (.cons rfl (.t rfl) .nil))))))))) (.cons rfl (.box' (.cons (.t rfl) (.cons (.t rfl) (.cons (.t rfl) .nil)))) (.cons rfl (.box' (.cons (.t rfl) (.cons (.t rfl) (.cons (.own rfl rfl) .nil)))) (.cons rfl (.row rfl rfl) (.cons rfl (.box' (.cons (.t (by simp)) (.cons (.t (by simp)) .nil))) .nil)))) rfl) (by omega) (fun k hC3 => ?_)
        have hk := hC3
        refine aw_seq ?_
        refine aw_seq ?_
        refine aw_region 164 hE (by decide) rfl rfl ?_
        refine sq_op (some 59) 108 rfl rfl rfl (ok_move rfl rfl) ?_
        refine sq_op (some 60) 116 rfl rfl rfl (ok_move rfl rfl) ?_
        refine sq_op (some 61) 124 rfl rfl rfl (ok_move rfl rfl) ?_
        refine sq_op (some 62) 132 rfl rfl rfl (withEv (x := .tmp 60) rfl (fun h1 => withEv (x := .tmp 61) rfl (fun h2 => by first | exact ix_p Try.e84 rfl h1 h2 (by omega) | exact ix_r Try.e84 rfl h1 rfl h2 (by omega) | exact ok_indexp rfl Try.e84 h1 h2 (by omega) (by omega) | exact ok_indexr rfl Try.e84 h1 rfl h2 (by omega) (by omega)))) ?_
        refine sq_op (some 63) 140 rfl rfl rfl (withEv (x := .tmp 62) rfl (fun h1 => by first | exact ok_fieldr rfl Try.o93_2 h1 | exact ok_fieldp rfl Try.o93_2 h1)) ?_
        refine sq_op (some 64) 148 rfl rfl rfl (withEv (x := .tmp 63) rfl (fun h1 => by first | exact ld1 Try.r22 rfl h1 rfl (by first | assumption | rfl) | exact lp1 Try.r22 rfl h1 (by first | assumption | rfl))) ?_
        refine sq_op (some 65) 156 rfl rfl rfl (withEv (x := .tmp 64) rfl (fun h1 => by first | exact ok_len Try.sl22 rfl rfl (.t h1) | exact ok_len Try.sl22 rfl rfl (.own h1 rfl) | exact ok_len Try.sl22 rfl rfl (.nil h1))) ?_
        refine sq_op (some 66) 164 rfl rfl rfl (ok_lss rfl rfl rfl) ?_
        refine sq_nil ?_
        refine aw_cond rfl (fun hb4 => ?_) (fun hb4 => ?_)
        · simp at hb4
          obtain ⟨i, hi⟩ : ∃ i, s.of_[k]? = some i := ⟨_, List.getElem?_eq_getElem hb4⟩
          obtain ⟨⟨kd, ps⟩, hq⟩ : ∃ x, s.sh[k]? = some x := ⟨_, List.getElem?_eq_getElem (by omega)⟩
          have fi : (intsT s.of_)[k * 1]? = some (ti i) := by rw [Nat.mul_one]; simp [intsT, hi]
          have fq : ((shT s.sh).drop (k * 2)).take 2 = [ti kd, .sl ps.length (ptT ps)] := flat_part (f := fun s : Sh => [ti s.1, .sl s.2.length (ptT s.2)]) (fun _ => rfl) hq
          have hpre := ent_snoc l r hi hq
          have hpok := hsok.1 _ (List.mem_iff_getElem?.2 ⟨k, hq⟩)
          have hcb : cntE q (entL (l.take r) ++ (entS s).take k) ≤ n := by
            refine Nat.le_trans (cntE_le _ _) ?_
            have h1 : (entL l).length = (entL (l.take r) ++ (entS s).take k).length + ((entS s).drop k ++ entL (l.drop (r + 1))).length := by rw [← List.length_append, ← List.append_assoc, List.append_assoc (entL (l.take r)), List.take_append_drop, ← entL_split hs]
            omega
          have cm := rmoved_does kd s.x ps hpok.1 hpok.2
          refine aw_skip ?_
          refine aw_seq ?_
          refine aw_block ?_
          refine aw_seq ?_
          refine aw_region 244 hE (by decide) rfl rfl ?_
          refine sq_op (some 69) 172 rfl rfl rfl (ok_move rfl rfl) ?_
          refine sq_op (some 70) 180 rfl rfl rfl (ok_move rfl rfl) ?_
          refine sq_op (some 71) 188 rfl rfl rfl (withEv (x := .tmp 69) rfl (fun h1 => withEv (x := .tmp 70) rfl (fun h2 => by first | exact ix_p Try.e84 rfl h1 h2 (by omega) | exact ix_r Try.e84 rfl h1 rfl h2 (by omega) | exact ok_indexp rfl Try.e84 h1 h2 (by omega) (by omega) | exact ok_indexr rfl Try.e84 h1 rfl h2 (by omega) (by omega)))) ?_
          refine sq_op (some 72) 196 rfl rfl rfl (withEv (x := .tmp 71) rfl (fun h1 => by first | exact ok_fieldr rfl Try.o93_2 h1 | exact ok_fieldp rfl Try.o93_2 h1)) ?_
          refine sq_op (some 73) 204 rfl rfl rfl (withEv (x := .tmp 72) rfl (fun h1 => by first | exact ld1 Try.r22 rfl h1 rfl (by first | assumption | rfl) | exact lp1 Try.r22 rfl h1 (by first | assumption | rfl))) ?_
          refine sq_op (some 74) 212 rfl rfl rfl (ok_move rfl rfl) ?_
          refine sq_op (some 75) 220 rfl rfl rfl (withEv (x := .tmp 73) rfl (fun h1 => withEv (x := .tmp 74) rfl (fun h2 => by first | exact ix_p Try.e22 rfl h1 h2 (by omega) | exact ix_r Try.e22 rfl h1 rfl h2 (by omega) | exact ok_indexp rfl Try.e22 h1 h2 (by omega) (by omega) | exact ok_indexr rfl Try.e22 h1 rfl h2 (by omega) (by omega)))) ?_
          refine sq_op (some 76) 228 rfl rfl rfl (withEv (x := .tmp 75) rfl (fun h1 => by first | exact ld1 Try.r3 rfl h1 rfl (by first | assumption | rfl) | exact lp1 Try.r3 rfl h1 (by first | assumption | rfl))) ?_
          refine sq_op (some 77) 236 rfl rfl rfl (ok_move rfl rfl) ?_
          refine sq_op (some 78) 244 rfl rfl rfl (ok_eql rfl rfl rfl) ?_
          refine sq_nil ?_
          refine aw_cond rfl (fun hb5 => ?_) (fun hb5 => ?_)
          · simp at hb5
            have hmany : Tree.v (Value.int .i64 (((cntE q (entL (l.take r) ++ (entS s).take k)) : Nat) + 1)) = ti (cntE q (entL (l.take r) ++ (entS s).take (k + 1)) : Nat) := by rw [hpre, cntE_snoc, if_pos hb5, Int.natCast_add]; rfl
            have hb13 : ti kd = ti (lastE q (entL (l.take r) ++ (entS s).take (k + 1))).1 := by rw [hpre, lastE_snoc, if_pos hb5]; rfl
            have hb14 : Tree.sl (mvL s.x ps).length (ptT (mvL s.x ps)) = .sl (lastE q (entL (l.take r) ++ (entS s).take (k + 1))).2.length (ptT (lastE q (entL (l.take r) ++ (entS s).take (k + 1))).2) := by rw [hpre, lastE_snoc, if_pos hb5]; rfl
            refine aw_seq ?_
            refine aw_region 268 hE (by decide) rfl rfl ?_
            refine sq_op (some 79) 252 rfl rfl rfl (ok_move rfl rfl) ?_
            refine sq_op (some 80) 260 rfl rfl rfl (ok_add rfl rfl rfl (by omega)) ?_
            refine sq_op (some 12) 268 rfl rfl rfl (ok_assign rfl rfl) ?_
            refine sq_nil ?_
            refine aw_any [[], [], [0, 1], [0, 1, 2], [0, 1, 2, 3], [0, 1, 2, 3, 4], [], [0, 1, 2, 3, 4, 5, 6], [0, 1, 2, 3, 4, 5, 6, 7], [], [], [9, 10], [9, 10, 11], [9, 10, 11, 12], [0, 1, 2, 3, 4, 5, 6, 7, 8, 9, 10, 11, 12, 13], [0, 1, 2, 3, 4, 5, 6, 7, 8, 9, 10, 11, 12, 13, 14]] [[], [], [], [], [], [], [], [], [], [], [], [], [], [], [], [3]] Try.mix hE (by decide) (by kernel_rfl) 396 rfl (fun hr0 => ?_)
            refine an_op hr0 rfl 268 1 rfl rfl (ok_move rfl (ev_E (by kernel_rfl) rfl)) rfl (fun hr1 => ?_)
            clear hr0
            refine an_op hr1 rfl 276 2 rfl rfl (ok_move rfl (ev_E (by kernel_rfl) rfl)) rfl (fun hr2 => ?_)
            clear hr1
            refine an_op hr2 rfl 284 3 rfl rfl (withEv (x := .tmp 81) (ev_T hr2 0 1 rfl (by kernel_rfl) rfl) (fun h1 => withEv (x := .tmp 82) (ev_T hr2 1 0 rfl (by kernel_rfl) rfl) (fun h2 => by first | exact ix_p Try.e84 rfl h1 h2 (by omega) | exact ix_r Try.e84 rfl h1 (by first | exact ctx_HE hr2.ok (by kernel_rfl) rfl) h2 (by omega) | exact ok_indexp rfl Try.e84 h1 h2 (by omega) (by omega) | exact ok_indexr rfl Try.e84 h1 (by first | exact ctx_HE hr2.ok (by kernel_rfl) rfl) h2 (by omega) (by omega)))) rfl (fun hr3 => ?_)
            clear hr2
            refine an_op hr3 rfl 292 4 rfl rfl (withEv (x := .tmp 83) (ev_T hr3 2 0 rfl (by kernel_rfl) rfl) (fun h1 => by first | exact ok_fieldr rfl Try.o93_1 h1 | exact ok_fieldp rfl Try.o93_1 h1)) rfl (fun hr4 => ?_)
            clear hr3
            refine an_op hr4 rfl 300 5 rfl rfl (withEv (x := .tmp 84) (ev_T hr4 3 0 rfl (by kernel_rfl) rfl) (fun h1 => by first | exact ok_fieldr rfl Try.o45_2 h1 | exact ok_fieldp rfl Try.o45_2 h1)) rfl (fun hr5 => ?_)
            clear hr4
            refine an_op hr5 rfl 308 6 rfl rfl (withEv (x := .tmp 85) (ev_T hr5 4 0 rfl (by kernel_rfl) rfl) (fun h1 => by first | exact ld1 Try.r43 rfl h1 (by first | exact ctx_HE hr5.ok (by kernel_rfl) rfl) (by first | assumption | rfl) | exact lp1 Try.r43 rfl h1 (by first | assumption | rfl))) rfl (fun hr6 => ?_)
            clear hr5
            refine an_op hr6 rfl 316 7 rfl rfl (ok_move rfl (ev_E (by kernel_rfl) rfl)) rfl (fun hr7 => ?_)
            clear hr6
            refine an_op hr7 rfl 324 8 rfl rfl (withEv (x := .tmp 86) (ev_T hr7 5 1 rfl (by kernel_rfl) rfl) (fun h1 => withEv (x := .tmp 87) (ev_T hr7 6 0 rfl (by kernel_rfl) rfl) (fun h2 => by first | exact ix_p Try.e43 rfl h1 h2 (by omega) | exact ix_r Try.e43 rfl h1 (by first | exact ctx_HE hr7.ok (by kernel_rfl) rfl) h2 (by omega) | exact ok_indexp rfl Try.e43 h1 h2 (by omega) (by omega) | exact ok_indexr rfl Try.e43 h1 (by first | exact ctx_HE hr7.ok (by kernel_rfl) rfl) h2 (by omega) (by omega)))) rfl (fun hr8 => ?_)
            clear hr7
            refine an_op hr8 rfl 332 9 rfl rfl (withEv (x := .tmp 88) (ev_T hr8 7 0 rfl (by kernel_rfl) rfl) (fun h1 => by first | exact ldc Try.r51 Try.s51 rfl h1 (by first | exact ctx_HE hr8.ok (by kernel_rfl) rfl) (by first | exact (.take (.take .done)) | exact (.skip (.take (.take .done))) | exact (.skip (.skip (.take (.take .done)))) | exact (.skip (.skip (.skip (.take (.take .done))))) | exact (.skip (.skip (.skip (.skip (.take (.take .done)))))) | exact (.skip (.skip (.skip (.skip (.skip (.take (.take .done))))))) | exact (.skip (.skip (.skip (.skip (.skip (.skip (.take (.take .done)))))))) | exact (.skip (.skip (.skip (.skip (.skip (.skip (.skip (.take (.take .done))))))))) | exact (.skip (.skip (.skip (.skip (.skip (.skip (.skip (.skip (.take (.take .done))))))))))) | exact lpn Try.r51 Try.s51 rfl h1 (by first | assumption | rfl) rfl)) rfl (fun hr9 => ?_)
            clear hr8
            refine an_op hr9 rfl 340 10 rfl rfl (ok_move rfl (ev_E (by kernel_rfl) rfl)) rfl (fun hr10 => ?_)
            clear hr9
            refine an_op hr10 rfl 348 11 rfl rfl (ok_move rfl (ev_E (by kernel_rfl) rfl)) rfl (fun hr11 => ?_)
            clear hr10
            refine an_op hr11 rfl 356 12 rfl rfl (withEv (x := .tmp 90) (ev_T hr11 9 1 rfl (by kernel_rfl) rfl) (fun h1 => withEv (x := .tmp 91) (ev_T hr11 10 0 rfl (by kernel_rfl) rfl) (fun h2 => by first | exact ix_p Try.e84 rfl h1 h2 (by omega) | exact ix_r Try.e84 rfl h1 (by first | exact ctx_HE hr11.ok (by kernel_rfl) rfl) h2 (by omega) | exact ok_indexp rfl Try.e84 h1 h2 (by omega) (by omega) | exact ok_indexr rfl Try.e84 h1 (by first | exact ctx_HE hr11.ok (by kernel_rfl) rfl) h2 (by omega) (by omega)))) rfl (fun hr12 => ?_)
            clear hr11
            refine an_op hr12 rfl 364 13 rfl rfl (withEv (x := .tmp 92) (ev_T hr12 11 0 rfl (by kernel_rfl) rfl) (fun h1 => by first | exact ok_fieldr rfl Try.o93_0 h1 | exact ok_fieldp rfl Try.o93_0 h1)) rfl (fun hr13 => ?_)
            clear hr12
            refine an_op hr13 rfl 372 14 rfl rfl (withEv (x := .tmp 93) (ev_T hr13 12 0 rfl (by kernel_rfl) rfl) (fun h1 => by first | exact ld1 Try.r3 rfl h1 (by first | exact ctx_HE hr13.ok (by kernel_rfl) rfl) (by first | assumption | rfl) | exact lp1 Try.r3 rfl h1 (by first | assumption | rfl))) rfl (fun hr14 => ?_)
            clear hr13
            refine an_op hr14 rfl 380 15 rfl rfl (ok_call [] [] rfl Try.func106 (by simp [Try.f106]) (by simp [Try.f106]) (cm) (.cons (ev_T hr14 8 5 rfl (by kernel_rfl) rfl) (by repeat' first | exact .t rfl | exact .rd rfl rfl rfl rfl | exact .nil | exact DLeL.nil | refine DLeL.cons ?_ ?_ | refine .agg' ?_) (.cons (ev_T hr14 13 0 rfl (by kernel_rfl) rfl) (by repeat' first | exact .t rfl | exact .rd rfl rfl rfl rfl | exact .nil | exact DLeL.nil | refine DLeL.cons ?_ ?_ | refine .agg' ?_) (.nil))) .nil (DLe.agg' (.cons (.t rfl) (.cons (.t rfl) .nil))) .nil rfl rfl) rfl (fun hr15 => ?_)
            clear hr14
            refine an_op hr15 rfl 388 16 rfl rfl (withEv (x := .tmp 95) (ev_T hr15 14 0 rfl (by kernel_rfl) rfl) (fun h1 => by first | exact stb (.ev h1) rfl Try.s51 (ev_E (by kernel_rfl) rfl) rfl (by first | exact ctx_HE hr15.ok (by kernel_rfl) rfl | exact ev_H hr15 14 0 rfl (by kernel_rfl) rfl rfl) (by first | exact (.put (.put .done)) | exact (.skip (.put (.put .done))) | exact (.skip (.skip (.put (.put .done)))) | exact (.skip (.skip (.skip (.put (.put .done))))) | exact (.skip (.skip (.skip (.skip (.put (.put .done)))))) | exact (.skip (.skip (.skip (.skip (.skip (.put (.put .done))))))) | exact (.skip (.skip (.skip (.skip (.skip (.skip (.put (.put .done)))))))) | exact (.skip (.skip (.skip (.skip (.skip (.skip (.skip (.put (.put .done))))))))) | exact (.skip (.skip (.skip (.skip (.skip (.skip (.skip (.skip (.put (.put .done))))))))))) (Nat.succ_pos _) | exact str (.ev h1) rfl Try.s51 (ev_E (by kernel_rfl) rfl) rfl (by first | exact ctx_HE hr15.ok (by kernel_rfl) rfl | exact ev_H hr15 14 0 rfl (by kernel_rfl) rfl rfl) (by assumption) rfl (Nat.succ_pos _) | exact stb (.own h1 (by first | exact ctx_HE hr15.ok (by kernel_rfl) rfl | exact ev_H hr15 14 0 rfl (by kernel_rfl) rfl rfl)) rfl Try.s51 (ev_E (by kernel_rfl) rfl) rfl (by first | exact ctx_HE hr15.ok (by kernel_rfl) rfl | exact ev_H hr15 14 0 rfl (by kernel_rfl) rfl rfl) (by first | exact (.put (.put .done)) | exact (.skip (.put (.put .done))) | exact (.skip (.skip (.put (.put .done)))) | exact (.skip (.skip (.skip (.put (.put .done))))) | exact (.skip (.skip (.skip (.skip (.put (.put .done)))))) | exact (.skip (.skip (.skip (.skip (.skip (.put (.put .done))))))) | exact (.skip (.skip (.skip (.skip (.skip (.skip (.put (.put .done)))))))) | exact (.skip (.skip (.skip (.skip (.skip (.skip (.skip (.put (.put .done))))))))) | exact (.skip (.skip (.skip (.skip (.skip (.skip (.skip (.skip (.put (.put .done))))))))))) (Nat.succ_pos _) | exact str (.own h1 (by first | exact ctx_HE hr15.ok (by kernel_rfl) rfl | exact ev_H hr15 14 0 rfl (by kernel_rfl) rfl rfl)) rfl Try.s51 (ev_E (by kernel_rfl) rfl) rfl (by first | exact ctx_HE hr15.ok (by kernel_rfl) rfl | exact ev_H hr15 14 0 rfl (by kernel_rfl) rfl rfl) (by assumption) rfl (Nat.succ_pos _))) rfl (fun hr16 => ?_)
            clear hr15
            refine an_nil [some 81, some 82, some 83, some 84, some 85, some 86, some 87, some 88, some 89, some 90, some 91, some 92, some 93, some 94, some 95, none] hr16 rfl (by kernel_rfl) ?_
            clear hr16
            refine aw_region 420 hE (by decide) rfl rfl ?_
            refine sq_op (some 67) 404 rfl rfl rfl (ok_move rfl rfl) ?_
            refine sq_op (some 68) 412 rfl rfl rfl (ok_add rfl rfl rfl (by omega)) ?_
            refine sq_op (some 15) 420 rfl rfl rfl (ok_assign rfl rfl) ?_
            refine sq_nil ?_
            exact ⟨k + 1, by omega, show s.of_.length - (k + 1) < s.of_.length - k by omega, ent_of [] 100 (.cons rfl (.t rfl) (.cons rfl (.ref rfl rfl) (.cons rfl (.t rfl) (.cons rfl (.ref rfl rfl) (.cons rfl (.t rfl) (.cons rfl (.t hmany) (.cons rfl (.ref rfl rfl) (.cons rfl (.t rfl) (.cons rfl (.t rfl) .nil))))))))) (.cons rfl (.box' (.cons (.t rfl) (.cons (.t rfl) (.cons (.t rfl) .nil)))) (.cons rfl (.box' (.cons (.t rfl) (.cons (.t rfl) (.cons (.own rfl rfl) .nil)))) (.cons rfl (.row rfl rfl) (.cons rfl (.box' (.cons (.t hb13) (.cons (.t hb14) .nil))) .nil)))) rfl⟩
          · simp at hb5
            have hmany : ti (cntE q (entL (l.take r) ++ (entS s).take k) : Nat) = ti (cntE q (entL (l.take r) ++ (entS s).take (k + 1)) : Nat) := by rw [hpre, cntE_snoc, if_neg hb5, Nat.add_zero]
            have hb13 : ti (lastE q (entL (l.take r) ++ (entS s).take k)).1 = ti (lastE q (entL (l.take r) ++ (entS s).take (k + 1))).1 := by rw [hpre, lastE_snoc, if_neg hb5]
            have hb14 : Tree.sl (lastE q (entL (l.take r) ++ (entS s).take k)).2.length (ptT (lastE q (entL (l.take r) ++ (entS s).take k)).2) = .sl (lastE q (entL (l.take r) ++ (entS s).take (k + 1))).2.length (ptT (lastE q (entL (l.take r) ++ (entS s).take (k + 1))).2) := by rw [hpre, lastE_snoc, if_neg hb5]
            refine aw_skip ?_
            refine aw_region 268 hE (by decide) rfl rfl ?_
            refine sq_op (some 67) 252 rfl rfl rfl (ok_move rfl rfl) ?_
            refine sq_op (some 68) 260 rfl rfl rfl (ok_add rfl rfl rfl (by omega)) ?_
            refine sq_op (some 15) 268 rfl rfl rfl (ok_assign rfl rfl) ?_
            refine sq_nil ?_
            exact ⟨k + 1, by omega, show s.of_.length - (k + 1) < s.of_.length - k by omega, ent_of [] 100 (.cons rfl (.t rfl) (.cons rfl (.ref rfl rfl) (.cons rfl (.t rfl) (.cons rfl (.ref rfl rfl) (.cons rfl (.t rfl) (.cons rfl (.t hmany) (.cons rfl (.ref rfl rfl) (.cons rfl (.t rfl) (.cons rfl (.t rfl) .nil))))))))) (.cons rfl (.box' (.cons (.t rfl) (.cons (.t rfl) (.cons (.t rfl) .nil)))) (.cons rfl (.box' (.cons (.t rfl) (.cons (.t rfl) (.cons (.own rfl rfl) .nil)))) (.cons rfl (.row rfl rfl) (.cons rfl (.box' (.cons (.t hb13) (.cons (.t hb14) .nil))) .nil)))) rfl⟩
        · simp at hb4
          obtain rfl : k = s.of_.length := by omega
          rw [← entS_length heq, List.take_length, ← entL_take hs]
          refine aw_exit ?_
          refine aw_region 188 hE (by decide) rfl rfl ?_
          refine sq_op (some 57) 172 rfl rfl rfl (ok_move rfl rfl) ?_
          refine sq_op (some 58) 180 rfl rfl rfl (ok_add rfl rfl rfl (by omega)) ?_
          refine sq_op (some 14) 188 rfl rfl rfl (ok_assign rfl rfl) ?_
          refine sq_nil ?_
          exact ⟨r + 1, by omega, show l.length - (r + 1) < l.length - r by omega, ent_of [] 100 (.cons rfl (.t rfl) (.cons rfl (.ref rfl rfl) (.cons rfl (.t rfl) (.cons rfl (.ref rfl rfl) (.cons rfl (.t rfl) (.cons rfl (.t rfl) (.cons rfl (.ref rfl rfl) (.cons rfl (.t rfl) .nil)))))))) (.cons rfl (.box' (.cons (.t rfl) (.cons (.t rfl) (.cons (.t rfl) .nil)))) (.cons rfl (.box' (.cons (.t rfl) (.cons (.t rfl) (.cons (.own rfl rfl) .nil)))) (.cons rfl (.row rfl rfl) (.cons rfl (.box' (.cons (.t rfl) (.cons (.t rfl) .nil))) .nil)))) rfl⟩
      · simp at hb3
        obtain rfl : r = l.length := by omega
        rw [List.take_length]
        refine aw_exit ?_
        refine aw_seq ?_
        refine aw_seq ?_
        refine aw_region 148 hE (by decide) rfl rfl ?_
        refine sq_op (some 96) 140 rfl rfl rfl (ok_move rfl rfl) ?_
        refine sq_op (some 97) 148 rfl rfl rfl (ok_neq rfl rfl rfl) ?_
        refine sq_nil ?_
        refine aw_cond rfl (fun hb6 => ?_) (fun hb6 => ?_)
        · simp at hb6
          have hj : joinM l w h = ((0, 0, []), 2) := if_neg fun hh => hb6 (by have := okE_once rfl hh.2 (w := q) (by omega); omega)
          refine aw_seq ?_
          refine aw_region 172 hE (by decide) rfl rfl ?_
          refine sq_op (some 98) 156 rfl rfl rfl (bld Try.b45 rfl ev_nil .nil) ?_
          refine sq_op none 164 rfl rfl rfl (withEv (x := .tmp 98) rfl (fun h1 => by first | exact stb (.ev h1) rfl Try.s45 rfl rfl rfl (by first | exact (.put (.put (.put .done))) | exact (.skip (.put (.put (.put .done)))) | exact (.skip (.skip (.put (.put (.put .done))))) | exact (.skip (.skip (.skip (.put (.put (.put .done)))))) | exact (.skip (.skip (.skip (.skip (.put (.put (.put .done))))))) | exact (.skip (.skip (.skip (.skip (.skip (.put (.put (.put .done)))))))) | exact (.skip (.skip (.skip (.skip (.skip (.skip (.put (.put (.put .done))))))))) | exact (.skip (.skip (.skip (.skip (.skip (.skip (.skip (.put (.put (.put .done)))))))))) | exact (.skip (.skip (.skip (.skip (.skip (.skip (.skip (.skip (.put (.put (.put .done)))))))))))) (Nat.succ_pos _) | exact str (.ev h1) rfl Try.s45 rfl rfl rfl (by assumption) rfl (Nat.succ_pos _) | exact stb (.own h1 rfl) rfl Try.s45 rfl rfl rfl (by first | exact (.put (.put (.put .done))) | exact (.skip (.put (.put (.put .done)))) | exact (.skip (.skip (.put (.put (.put .done))))) | exact (.skip (.skip (.skip (.put (.put (.put .done)))))) | exact (.skip (.skip (.skip (.skip (.put (.put (.put .done))))))) | exact (.skip (.skip (.skip (.skip (.skip (.put (.put (.put .done)))))))) | exact (.skip (.skip (.skip (.skip (.skip (.skip (.put (.put (.put .done))))))))) | exact (.skip (.skip (.skip (.skip (.skip (.skip (.skip (.put (.put (.put .done)))))))))) | exact (.skip (.skip (.skip (.skip (.skip (.skip (.skip (.skip (.put (.put (.put .done)))))))))))) (Nat.succ_pos _) | exact str (.own h1 rfl) rfl Try.s45 rfl rfl rfl (by assumption) rfl (Nat.succ_pos _))) ?_
          refine sq_op (some 7) 172 rfl rfl rfl (ok_assign rfl rfl) ?_
          refine sq_nil ?_
          refine aw_ret ?_
          exact retc2 [] rfl (.row rfl rfl Try.r45 Try.s45 rfl) (.tmp rfl) (by rw [hj]; exact .tup' (.cons (.agg' (.cons (.t rfl) (.cons (.t rfl) (.cons .nil .nil)))) (.cons (.t rfl) .nil))) .nil rfl
        · simp at hb6
          have hone : cntE q (entL l) = 1 := by omega
          have hcnt2 : ∀ j : Nat, j < q + 1 → cntE j (entL l) = 1 := fun j hj => by
            by_cases h : j < q
            · exact hcnt j h
            · obtain rfl : j = q := by omega
              exact hone
          have hrow : shT (arrOf q (entL l)) ++ [ti (lastE q (entL l)).1, .sl (lastE q (entL l)).2.length (ptT (lastE q (entL l)).2)] = shT (arrOf (q + 1) (entL l)) := by rw [arrOf_succ, last_find hone]; simp [shT]
          refine aw_skip ?_
          refine aw_region 204 hE (by decide) rfl rfl ?_
          refine sq_op (some 99) 156 rfl rfl rfl (withEv (x := .tmp 10) rfl (fun h1 => by first | exact ok_fieldr rfl Try.o45_2 h1 | exact ok_fieldp rfl Try.o45_2 h1)) ?_
          refine sq_op (some 100) 164 rfl rfl rfl (withEv (x := .tmp 99) rfl (fun h1 => by first | exact ld1 Try.r43 rfl h1 rfl (by first | assumption | rfl) | exact lp1 Try.r43 rfl h1 (by first | assumption | rfl))) ?_
          refine sq_op (some 101) 172 rfl rfl rfl (withEv (x := .tmp 13) rfl (fun h1 => by first | exact ldc Try.r51 Try.s51 rfl h1 rfl (by first | exact (.take (.take .done)) | exact (.skip (.take (.take .done))) | exact (.skip (.skip (.take (.take .done)))) | exact (.skip (.skip (.skip (.take (.take .done))))) | exact (.skip (.skip (.skip (.skip (.take (.take .done)))))) | exact (.skip (.skip (.skip (.skip (.skip (.take (.take .done))))))) | exact (.skip (.skip (.skip (.skip (.skip (.skip (.take (.take .done)))))))) | exact (.skip (.skip (.skip (.skip (.skip (.skip (.skip (.take (.take .done))))))))) | exact (.skip (.skip (.skip (.skip (.skip (.skip (.skip (.skip (.take (.take .done))))))))))) | exact lpn Try.r51 Try.s51 rfl h1 (by first | assumption | rfl) rfl)) ?_
          refine sq_op (some 102) 180 rfl rfl rfl (lit_ true (Try.lit43 _ (by decide)) rfl (ev_cons rfl ev_nil) (.cons rfl rfl rfl rfl (.put (.put .done)) .nil) (.t (.t .nil))) ?_
          refine sq_op (some 103) 188 rfl rfl rfl (withEv (x := .tmp 100) rfl (fun h1 => withEv (x := .tmp 102) rfl (fun h2 => by first | exact ok_append true Try.app43 rfl (.own h1 rfl) (.own h2 rfl) (by first | rfl | simp | omega) ⟨by omega, (by unfold maxLen; omega)⟩ | exact ok_append true Try.app43 rfl (.own h1 rfl) (.t h2) (by first | rfl | simp | omega) ⟨by omega, (by unfold maxLen; omega)⟩ | exact ok_append true Try.app43 rfl (.own h1 rfl) (.nil h2) (by first | rfl | simp | omega) ⟨by omega, (by unfold maxLen; omega)⟩ | exact ok_append true Try.app43 rfl (.nil h1) (.own h2 rfl) (by first | rfl | simp | omega) ⟨by omega, (by unfold maxLen; omega)⟩ | exact ok_append true Try.app43 rfl (.nil h1) (.t h2) (by first | rfl | simp | omega) ⟨by omega, (by unfold maxLen; omega)⟩ | exact ok_append true Try.app43 rfl (.nil h1) (.nil h2) (by first | rfl | simp | omega) ⟨by omega, (by unfold maxLen; omega)⟩))) ?_
          refine sq_op (some 104) 196 rfl rfl rfl (withEv (x := .tmp 10) rfl (fun h1 => by first | exact ok_fieldr rfl Try.o45_2 h1 | exact ok_fieldp rfl Try.o45_2 h1)) ?_
          refine sq_op none 204 rfl rfl rfl (withEv (x := .tmp 103) rfl (fun h1 => by first | exact stb (.ev h1) rfl Try.s43 rfl rfl rfl (by first | exact (.put .done) | exact (.skip (.put .done)) | exact (.skip (.skip (.put .done))) | exact (.skip (.skip (.skip (.put .done)))) | exact (.skip (.skip (.skip (.skip (.put .done))))) | exact (.skip (.skip (.skip (.skip (.skip (.put .done)))))) | exact (.skip (.skip (.skip (.skip (.skip (.skip (.put .done))))))) | exact (.skip (.skip (.skip (.skip (.skip (.skip (.skip (.put .done)))))))) | exact (.skip (.skip (.skip (.skip (.skip (.skip (.skip (.skip (.put .done)))))))))) (Nat.succ_pos _) | exact str (.ev h1) rfl Try.s43 rfl rfl rfl (by assumption) rfl (Nat.succ_pos _) | exact stb (.own h1 rfl) rfl Try.s43 rfl rfl rfl (by first | exact (.put .done) | exact (.skip (.put .done)) | exact (.skip (.skip (.put .done))) | exact (.skip (.skip (.skip (.put .done)))) | exact (.skip (.skip (.skip (.skip (.put .done))))) | exact (.skip (.skip (.skip (.skip (.skip (.put .done)))))) | exact (.skip (.skip (.skip (.skip (.skip (.skip (.put .done))))))) | exact (.skip (.skip (.skip (.skip (.skip (.skip (.skip (.put .done)))))))) | exact (.skip (.skip (.skip (.skip (.skip (.skip (.skip (.skip (.put .done)))))))))) (Nat.succ_pos _) | exact str (.own h1 rfl) rfl Try.s43 rfl rfl rfl (by assumption) rfl (Nat.succ_pos _))) ?_
          refine sq_nil ?_
          refine aw_region 228 hE (by decide) rfl rfl ?_
          refine sq_op (some 51) 212 rfl rfl rfl (ok_move rfl rfl) ?_
          refine sq_op (some 52) 220 rfl rfl rfl (ok_add rfl rfl rfl (by omega)) ?_
          refine sq_op (some 11) 228 rfl rfl rfl (ok_assign rfl rfl) ?_
          refine sq_nil ?_
          exact ⟨q + 1, ⟨by omega, hcnt2⟩, show n - (q + 1) < n - q by omega, ent_of [(2, 180)] 100 (.cons rfl (.t rfl) (.cons rfl (.ref rfl rfl) (.cons rfl (.t rfl) (.cons rfl (.ref rfl rfl) (.cons rfl (.t rfl) .nil))))) (.cons rfl (.box' (.cons (.t rfl) (.cons (.t rfl) (.cons (.t rfl) .nil)))) (.cons rfl (.box' (.cons (.t rfl) (.cons (.t rfl) (.cons (.own rfl rfl) .nil)))) (.cons rfl (.row hrow rfl) .nil))) rfl⟩
    · simp at hb2
      obtain rfl : q = n := by omega
      have hj : joinM l w h = ((w, h, arrOf q (entL l)), 0) := by unfold joinM; rw [hn]; exact if_pos ⟨hlens, once_okE hn hcnt⟩
      have hal := arrOf_length q (entL l)
      refine aw_exit ?_
      refine aw_seq ?_
      refine aw_region 148 hE (by decide) rfl rfl ?_
      refine sq_op (some 105) 132 rfl rfl rfl (withEv (x := .tmp 10) rfl (fun h1 => by first | exact ldc Try.r45 Try.s45 rfl h1 rfl (by first | exact (.take (.take (.take .done))) | exact (.skip (.take (.take (.take .done)))) | exact (.skip (.skip (.take (.take (.take .done))))) | exact (.skip (.skip (.skip (.take (.take (.take .done)))))) | exact (.skip (.skip (.skip (.skip (.take (.take (.take .done))))))) | exact (.skip (.skip (.skip (.skip (.skip (.take (.take (.take .done)))))))) | exact (.skip (.skip (.skip (.skip (.skip (.skip (.take (.take (.take .done))))))))) | exact (.skip (.skip (.skip (.skip (.skip (.skip (.skip (.take (.take (.take .done)))))))))) | exact (.skip (.skip (.skip (.skip (.skip (.skip (.skip (.skip (.take (.take (.take .done)))))))))))) | exact lpn Try.r45 Try.s45 rfl h1 (by first | assumption | rfl) rfl)) ?_
      refine sq_op none 140 rfl rfl rfl (withEv (x := .tmp 105) rfl (fun h1 => by first | exact stb (.ev h1) rfl Try.s45 rfl rfl rfl (by first | exact (.put (.put (.put .done))) | exact (.skip (.put (.put (.put .done)))) | exact (.skip (.skip (.put (.put (.put .done))))) | exact (.skip (.skip (.skip (.put (.put (.put .done)))))) | exact (.skip (.skip (.skip (.skip (.put (.put (.put .done))))))) | exact (.skip (.skip (.skip (.skip (.skip (.put (.put (.put .done)))))))) | exact (.skip (.skip (.skip (.skip (.skip (.skip (.put (.put (.put .done))))))))) | exact (.skip (.skip (.skip (.skip (.skip (.skip (.skip (.put (.put (.put .done)))))))))) | exact (.skip (.skip (.skip (.skip (.skip (.skip (.skip (.skip (.put (.put (.put .done)))))))))))) (Nat.succ_pos _) | exact str (.ev h1) rfl Try.s45 rfl rfl rfl (by assumption) rfl (Nat.succ_pos _) | exact stb (.own h1 rfl) rfl Try.s45 rfl rfl rfl (by first | exact (.put (.put (.put .done))) | exact (.skip (.put (.put (.put .done)))) | exact (.skip (.skip (.put (.put (.put .done))))) | exact (.skip (.skip (.skip (.put (.put (.put .done)))))) | exact (.skip (.skip (.skip (.skip (.put (.put (.put .done))))))) | exact (.skip (.skip (.skip (.skip (.skip (.put (.put (.put .done)))))))) | exact (.skip (.skip (.skip (.skip (.skip (.skip (.put (.put (.put .done))))))))) | exact (.skip (.skip (.skip (.skip (.skip (.skip (.skip (.put (.put (.put .done)))))))))) | exact (.skip (.skip (.skip (.skip (.skip (.skip (.skip (.skip (.put (.put (.put .done)))))))))))) (Nat.succ_pos _) | exact str (.own h1 rfl) rfl Try.s45 rfl rfl rfl (by assumption) rfl (Nat.succ_pos _))) ?_
      refine sq_op (some 7) 148 rfl rfl rfl (ok_assign rfl rfl) ?_
      refine sq_nil ?_
      refine aw_ret ?_
      exact retc2 [] rfl (.row rfl rfl Try.r45 Try.s45 rfl) (.tmp rfl) (by rw [hj]; exact .tup' (.cons (.agg' (.cons (.t rfl) (.cons (.t rfl) (.cons (.rd rfl rfl rfl hal.symm) .nil)))) (.cons (.t rfl) .nil))) .nil rfl
end Go.Proofs.Ytokdclbfjlnnjaa
