/- The law on Join: the walk. -/
import Derived.Test.YtokdclbfjlnnjaaT5
import Derived.Test.YtokdclbfjlnnjaaT8
namespace Go.Ab
open Go.RowKit
theorem flat_putj {α : Type} {f : α → List Tree} {s : Nat} (h : ∀ x, (f x).length = s) {x x' : α} {j : Nat} {new : List Tree} (hj : j + new.length ≤ s) (hf : f x' = splice (f x) j new) : ∀ {l : List α} {i : Nat}, l[i]? = some x → splice (l.flatMap f) (i * s + j) new = (l.set i x').flatMap f
  | [], i, hi => by simp at hi
  | y :: l, 0, hi => by
    simp at hi
    subst hi
    simp only [splice, Nat.zero_mul, Nat.zero_add, List.set_cons_zero, List.flatMap_cons, hf]
    rw [List.take_append_of_le_length (by rw [h]; omega), List.drop_append_of_le_length (by rw [h]; omega), List.append_assoc, List.append_assoc, List.append_assoc]
  | y :: l, i + 1, hi => by
    have ih := flat_putj h hj hf (l := l) (i := i) (by simpa using hi)
    rw [List.set_cons_succ, List.flatMap_cons, List.flatMap_cons, ← ih]
    have e1 : (i + 1) * s + j = s + (i * s + j) := by rw [Nat.add_mul]; omega
    simp only [splice, e1]
    rw [List.take_append, List.drop_append, h y, List.take_of_length_le (by rw [h]; omega), List.drop_eq_nil_of_le (by rw [h]; omega), List.nil_append, Nat.add_sub_cancel_left, show s + (i * s + j) + new.length - s = i * s + j + new.length by omega, List.append_assoc, List.append_assoc, List.append_assoc]
end Go.Ab
namespace Go.Proofs.Ytokdclbfjlnnjaa
open Go.RowKit Go.Ab

/-- Lists of sheets that Join is asked of here. -/
def SmSht (b : List Sht) : Prop := (∀ s ∈ b, ShtOk s ∧ s.of_.length ≤ 6) ∧ b.length ≤ 6
theorem SmSht.ok {b : List Sht} (h : SmSht b) : (∀ s ∈ b, ShtOk s) ∧ b.length ≤ 1000 := ⟨fun s hs => (h.1 s hs).1, by have := h.2; omega⟩
theorem cut_sm {W H wd : Int} {L : List Sh} (hsc : ShSc L) (h5 : L.length ≤ 5) : (∀ s ∈ (cutM W H L wd).1, ShtOk s ∧ s.of_.length ≤ 5) ∧ (cutM W H L wd).1.length ≤ 5 := by
  have h1 := cutM_ok (W := W) (H := H) (wd := wd) hsc (by omega : L.length ≤ 1000)
  refine ⟨fun s hs => ⟨h1.1 s hs, ?_⟩, ?_⟩
  · unfold cutM at hs
    split at hs
    · simp at hs
    · split at hs
      · simp at hs
      · obtain ⟨j, _, rfl⟩ := List.mem_map.1 hs
        have := ofS_le L (rSplit (spL L) wd).1 wd j L.length
        simp only [shtS, List.length_map]
        omega
  · unfold cutM
    split
    · simp
    · split
      · simp
      · rw [shtsM_len]
        have := (cSplit_lens (spL L) wd).2
        rw [spL_length] at this
        omega
theorem SmSht.set {b : List Sht} {k : Nat} {s s' : Sht} (h : (∀ s ∈ b, ShtOk s ∧ s.of_.length ≤ 5) ∧ b.length ≤ 5) (hk : b[k]? = some s) (h1 : s'.sh = s.sh) (h2 : okI s'.of_) (h3 : s'.of_.length ≤ 6) : SmSht (b.set k s') := by
  refine ⟨fun x hx => ?_, by rw [List.length_set]; have := h.2; omega⟩
  rcases set_mem hx with rfl | hx
  · obtain ⟨⟨q1, q2, q3, q4⟩, q5⟩ := h.1 s (List.mem_iff_getElem?.2 ⟨k, hk⟩)
    refine ⟨⟨?_, ?_, h2, by omega⟩, h3⟩
    · rw [h1]; exact q1
    · rw [h1]; exact q2
  · have := h.1 x hx
    exact ⟨this.1, by omega⟩
theorem SmSht.app {b : List Sht} {k : Nat} {s : Sht} (h : (∀ s ∈ b, ShtOk s ∧ s.of_.length ≤ 5) ∧ b.length ≤ 5) (hk : b[k]? = some s) : SmSht (b ++ [s]) := by
  refine ⟨fun x hx => ?_, by have := h.2; simp; omega⟩
  rcases List.mem_append.1 hx with hx | hx
  · have := h.1 x hx
    exact ⟨this.1, by omega⟩
  · simp at hx
    subst hx
    have := h.1 x (List.mem_iff_getElem?.2 ⟨k, hk⟩)
    exact ⟨this.1, by omega⟩
theorem entL_small {l : List Sht} (h : SmSht l) : (entL l).length ≤ 6 * l.length := by
  have h1 := h.1
  clear h
  induction l with
  | nil => simp [entL]
  | cons s l ih =>
    have e : entL (s :: l) = entS s ++ entL l := by simp [entL]
    have h2 := ih (fun x hx => h1 x (List.mem_cons_of_mem _ hx))
    have h3 := (h1 s (List.mem_cons_self ..)).2
    have h4 : (entS s).length ≤ s.of_.length := by simp [entS]; omega
    rw [e, List.length_append, List.length_cons]
    omega
theorem join_ok {l : List Sht} {w h : Int} (hl : SmSht l) : (∀ s ∈ (joinM l w h).1.2.2, okP s.2 ∧ s.2.length ≤ 1000) ∧ (joinM l w h).1.2.2.length ≤ 1000 := by
  unfold joinM
  split
  · have hb := entL_small hl
    have h6 := hl.2
    refine ⟨fun s hs => ?_, by simp only [arrOf_length]; omega⟩
    obtain ⟨i, _, rfl⟩ := List.mem_map.1 hs
    cases hf : (entL l).find? (keyB (i : Int)) with
    | none => exact ⟨fun p hp => by simp at hp, by simp⟩
    | some e =>
      obtain ⟨x, hx, he⟩ := List.mem_flatMap.1 (List.mem_of_find?_eq_some hf)
      obtain ⟨⟨i', q⟩, hz, rfl⟩ := List.mem_map.1 he
      have hq := ((hl.1 x hx).1).1 q (List.of_mem_zip hz).2
      simp only [Option.map_some, Option.getD_some, mvJ, mvL_length]
      exact ⟨mvL_ok _ hq.1, hq.2⟩
  · exact ⟨fun s hs => by simp at hs, by simp⟩
theorem sht_cell {b : List Sht} {k : Nat} {s : Sht} (hs : b[k]? = some s) {st : Bool} {e n j : Nat} {t : Tree} (hj : j < 5) (ht : (shtC s)[j]? = some t) : (AObj.row e 5 n (shtT b) st).cells[k * 5 + j]? = some (.t t) := by
  show ((shtT b).map D.t)[k * 5 + j]? = _
  have h1 : (shtT b)[k * 5 + j]? = some t := (flat_get (f := shtC) (fun _ => rfl) hs j hj).trans ht
  rw [List.getElem?_map, h1]
  rfl
theorem sht_cells {b : List Sht} {k : Nat} {s : Sht} (hs : b[k]? = some s) {st : Bool} {e n : Nat} : ((AObj.row e 5 n (shtT b) st).cells.drop (k * 5)).take 5 = (shtC s).map D.t := by
  show (((shtT b).map D.t).drop (k * 5)).take 5 = _
  have h1 : ((shtT b).drop (k * 5)).take 5 = shtC s := flat_part (f := shtC) (fun _ => rfl) hs
  rw [← List.map_drop, ← List.map_take, h1]
theorem shtT_length (b : List Sht) : (shtT b).length = b.length * 5 := flat_len (f := shtC) (s := 5) (fun _ => rfl) b
theorem okI_snoc {l : List Int} {v : Int} (h : okI l) (hv : -9223372036854775808 ≤ v ∧ v ≤ 9223372036854775807) : okI (l ++ [v]) := fun x hx => by
  rcases List.mem_append.1 hx with hx | hx
  · exact h x hx
  · simp at hx; subst hx; exact hv
theorem okI_set {l : List Int} {i : Nat} {v : Int} (h : okI l) (hv : -9223372036854775808 ≤ v ∧ v ≤ 9223372036854775807) : okI (l.set i v) := fun x hx => by
  rcases set_mem hx with rfl | hx
  · exact hv
  · exact h x hx
theorem ints_set {l : List Int} {v : Int} (h : 0 < l.length) : splice ([] ++ intsT l) (0 * 1) [ti v] = intsT (l.set 0 v) := by
  match l, h with
  | x :: l, _ => simp [splice, intsT]
theorem Try.r93 : rowT Try.prog 93 = some true := by kernel_rfl
theorem Try.s93 : (Try.prog.info? 93).map (·.size) = some 5 := by kernel_rfl
theorem Try.o45_0 : fieldOff Try.prog 45 0 = some 0 := by kernel_rfl
theorem Try.o45_1 : fieldOff Try.prog 45 1 = some 1 := by kernel_rfl
theorem Try.s22 : (Try.prog.info? 22).map (·.size) = some 1 := by kernel_rfl
set_option maxRecDepth 100000 in
set_option maxHeartbeats 4000000 in
theorem joins_does (l : List Int) (wd at_ how by_ : Int) (ok : okI l) (hl : l.length ≤ 17592186043904) (hwd : -9223372036854775808 ≤ wd ∧ wd ≤ 9223372036854775807) (hat : -9223372036854775808 ≤ at_ ∧ at_ ≤ 9223372036854775807) (hhow : -9223372036854775808 ≤ how ∧ how ≤ 9223372036854775807) (hby : -9223372036854775808 ≤ by_ ∧ by_ ≤ 9223372036854775807) : Does Try.prog 14 [.t (.sl l.length (intsT l)), I wd, I at_, I how, I by_] [] (B true) [] := by
  refine spec_of Try.func14 rfl (by simp [Try.f14]) fun E hE => ?_
  refine aw_seq ?_
  refine aw_region 108 hE (by decide) rfl rfl ?_
  refine sq_op (some 10) 108 rfl rfl rfl (ok_assign rfl rfl) ?_
  refine sq_nil ?_
  refine aw_seq ?_
  refine aw_region 140 hE (by decide) rfl rfl ?_
  refine sq_op (some 24) 116 rfl rfl rfl (ok_move rfl rfl) ?_
  refine sq_any (some 25) 124 rfl rfl rfl (ok_callN [] [] rfl Try.func27 (by simp [Try.f27]) (by simp [Try.f27]) (figure_does l ok hl) (.cons rfl (.t rfl) .nil) .nil (fun L _ => DLe.agg' (.cons (.t rfl) (.cons (.t rfl) (.cons (.t rfl) .nil)))) (fun _ _ => .nil) (fun _ _ => rfl) rfl) (fun L hL => ?_)
  refine sq_op (some 11) 132 rfl rfl rfl (ok_alloc rfl Try.z45 rfl) ?_
  refine sq_op none 140 rfl rfl rfl (withEv (x := .tmp 25) rfl (fun h1 => by first | exact stb (.ev h1) rfl Try.s45 rfl rfl rfl (by first | exact (.put (.put (.put .done))) | exact (.skip (.put (.put (.put .done)))) | exact (.skip (.skip (.put (.put (.put .done))))) | exact (.skip (.skip (.skip (.put (.put (.put .done)))))) | exact (.skip (.skip (.skip (.skip (.put (.put (.put .done))))))) | exact (.skip (.skip (.skip (.skip (.skip (.put (.put (.put .done)))))))) | exact (.skip (.skip (.skip (.skip (.skip (.skip (.put (.put (.put .done))))))))) | exact (.skip (.skip (.skip (.skip (.skip (.skip (.skip (.put (.put (.put .done)))))))))) | exact (.skip (.skip (.skip (.skip (.skip (.skip (.skip (.skip (.put (.put (.put .done)))))))))))) (Nat.succ_pos _) | exact str (.ev h1) rfl Try.s45 rfl rfl rfl (by assumption) rfl (Nat.succ_pos _) | exact stb (.own h1 rfl) rfl Try.s45 rfl rfl rfl (by first | exact (.put (.put (.put .done))) | exact (.skip (.put (.put (.put .done)))) | exact (.skip (.skip (.put (.put (.put .done))))) | exact (.skip (.skip (.skip (.put (.put (.put .done)))))) | exact (.skip (.skip (.skip (.skip (.put (.put (.put .done))))))) | exact (.skip (.skip (.skip (.skip (.skip (.put (.put (.put .done)))))))) | exact (.skip (.skip (.skip (.skip (.skip (.skip (.put (.put (.put .done))))))))) | exact (.skip (.skip (.skip (.skip (.skip (.skip (.skip (.put (.put (.put .done)))))))))) | exact (.skip (.skip (.skip (.skip (.skip (.skip (.skip (.skip (.put (.put (.put .done)))))))))))) (Nat.succ_pos _) | exact str (.own h1 rfl) rfl Try.s45 rfl rfl rfl (by assumption) rfl (Nat.succ_pos _))) ?_
  refine sq_nil ?_
  refine aw_seq ?_
  obtain ⟨hgen, hL5, hval⟩ := hL
  have hgood := genC hgen
  have d60 := around_does wd 60 hwd
  have r60 := around_rng wd 60 (by decide)
  obtain ⟨z, hz⟩ : ∃ z, cutM 62 62 L (20 + aroundI wd 60) = z := ⟨_, rfl⟩
  have ca := cut_does 62 62 (20 + aroundI wd 60) L hgood.1 hgood.2 (by omega)
  have hsm := cut_sm (W := 62) (H := 62) (wd := 20 + aroundI wd 60) hgood.1 hL5
  have hwide := fun h => cut_wide (W := 62) (H := 62) (wd := 20 + aroundI wd 60) hval hgen (by omega) (by omega) h
  have hjc := fun h => join_cut (W := 62) (H := 62) (wd := 20 + aroundI wd 60) hgood.1 h
  rw [hz] at ca hsm hwide hjc
  obtain ⟨b, ⟨aw, ah, al⟩, e⟩ := z
  simp only at hsm hwide hjc
  clear hz
  have cj := join_does b 62 62 (fun s hs => (hsm.1 s hs).1) (by omega)
  refine aw_any [[], [], [1], [1, 2], [0, 1, 2, 3], [0, 1, 2, 3, 4], [0, 1, 2, 3, 4, 5], [0, 1, 2, 3, 4, 5], [0, 1, 2, 3, 4, 5], [], [0, 1, 2, 3, 4, 5, 6, 9], [0, 1, 2, 3, 4, 5, 6, 7, 9, 10], [0, 1, 2, 3, 4, 5, 6, 7, 8, 9, 10, 11]] [[], [], [], [], [], [], [], [], [], [], [], [212], []] Try.mix hE (by decide) (by kernel_rfl) 244 rfl (fun hr0 => ?_)
  refine an_op hr0 rfl 140 1 rfl rfl (withEv (x := .tmp 11) (ev_E (by kernel_rfl) rfl) (fun h1 => by first | exact ldc Try.r45 Try.s45 rfl h1 (by first | exact ctx_HE hr0.ok (by kernel_rfl) rfl) (by first | exact (.take (.take (.take .done))) | exact (.skip (.take (.take (.take .done)))) | exact (.skip (.skip (.take (.take (.take .done))))) | exact (.skip (.skip (.skip (.take (.take (.take .done)))))) | exact (.skip (.skip (.skip (.skip (.take (.take (.take .done))))))) | exact (.skip (.skip (.skip (.skip (.skip (.take (.take (.take .done)))))))) | exact (.skip (.skip (.skip (.skip (.skip (.skip (.take (.take (.take .done))))))))) | exact (.skip (.skip (.skip (.skip (.skip (.skip (.skip (.take (.take (.take .done)))))))))) | exact (.skip (.skip (.skip (.skip (.skip (.skip (.skip (.skip (.take (.take (.take .done)))))))))))) | exact lpn Try.r45 Try.s45 rfl h1 (by first | assumption | rfl) rfl)) rfl (fun hr1 => ?_)
  clear hr0
  refine an_op hr1 rfl 148 2 rfl rfl (ok_move rfl (ev_E (by kernel_rfl) rfl)) rfl (fun hr2 => ?_)
  clear hr1
  refine an_op hr2 rfl 156 3 rfl rfl (ok_call [] [] rfl Try.func18 (by simp [Try.f18]) (by simp [Try.f18]) (d60) (.cons (ev_T hr2 1 0 rfl (by kernel_rfl) rfl) (by repeat' first | exact .t rfl | exact .rd rfl rfl rfl rfl | exact .nil | exact DLeL.nil | refine DLeL.cons ?_ ?_ | refine .agg' ?_) (.cons rfl (by repeat' first | exact .t rfl | exact .rd rfl rfl rfl rfl | exact .nil | exact DLeL.nil | refine DLeL.cons ?_ ?_ | refine .agg' ?_) (.nil))) .nil (by repeat' first | exact .t rfl | exact DLeL.nil | refine DLeL.cons ?_ ?_ | refine .agg' ?_ | refine .tup' ?_) .nil rfl rfl) rfl (fun hr3 => ?_)
  clear hr2
  refine an_op hr3 rfl 164 4 rfl rfl (ok_add rfl rfl (ev_T hr3 2 0 rfl (by kernel_rfl) rfl) (by omega)) rfl (fun hr4 => ?_)
  clear hr3
  refine an_op hr4 rfl 172 5 rfl rfl (ok_call [] [] rfl Try.func55 (by simp [Try.f55]) (by simp [Try.f55]) (ca) (.cons (ev_T hr4 0 3 rfl (by kernel_rfl) rfl) (by repeat' first | exact .t rfl | exact .rd rfl rfl rfl rfl | exact .nil | exact DLeL.nil | refine DLeL.cons ?_ ?_ | refine .agg' ?_) (.cons (ev_T hr4 3 0 rfl (by kernel_rfl) rfl) (by repeat' first | exact .t rfl | exact .rd rfl rfl rfl rfl | exact .nil | exact DLeL.nil | refine DLeL.cons ?_ ?_ | refine .agg' ?_) (.nil))) .nil (DLe.tup' (.cons (.t rfl) (.cons (DLe.agg' (.cons (.t rfl) (.cons (.t rfl) (.cons (.t rfl) .nil)))) (.cons (.t rfl) .nil)))) .nil rfl rfl) rfl (fun hr5 => ?_)
  clear hr4
  refine an_op hr5 rfl 180 6 rfl rfl (ok_move rfl (ev_T hr5 4 0 rfl (by kernel_rfl) rfl)) rfl (fun hr6 => ?_)
  clear hr5
  refine an_op hr6 rfl 188 7 rfl rfl (ok_extract rfl (ev_T hr6 5 0 rfl (by kernel_rfl) rfl) rfl) rfl (fun hr7 => ?_)
  clear hr6
  refine an_op hr7 rfl 196 8 rfl rfl (ok_extract rfl (ev_T hr7 5 1 rfl (by kernel_rfl) rfl) rfl) rfl (fun hr8 => ?_)
  clear hr7
  refine an_op hr8 rfl 204 9 rfl rfl (ok_extract rfl (ev_T hr8 5 2 rfl (by kernel_rfl) rfl) rfl) rfl (fun hr9 => ?_)
  clear hr8
  refine an_op hr9 rfl 212 10 rfl rfl (ok_alloc rfl Try.z45 rfl) rfl (fun hr10 => ?_)
  clear hr9
  refine an_op hr10 rfl 220 11 rfl rfl (ok_assign rfl (ev_T hr10 6 3 rfl (by kernel_rfl) rfl)) rfl (fun hr11 => ?_)
  clear hr10
  refine an_op hr11 rfl 228 12 rfl rfl (withEv (x := .tmp 33) (ev_T hr11 7 3 rfl (by kernel_rfl) rfl) (fun h1 => by first | exact stb (.ev h1) rfl Try.s45 (ev_T hr11 9 1 rfl (by kernel_rfl) rfl) rfl (by first | exact ctx_HE hr11.ok (by kernel_rfl) rfl | exact ev_H hr11 9 1 rfl (by kernel_rfl) rfl rfl | exact ev_H hr11 4 6 rfl (by kernel_rfl) rfl rfl | exact ev_H hr11 2 8 rfl (by kernel_rfl) rfl rfl) (by first | exact (.put (.put (.put .done))) | exact (.skip (.put (.put (.put .done)))) | exact (.skip (.skip (.put (.put (.put .done))))) | exact (.skip (.skip (.skip (.put (.put (.put .done)))))) | exact (.skip (.skip (.skip (.skip (.put (.put (.put .done))))))) | exact (.skip (.skip (.skip (.skip (.skip (.put (.put (.put .done)))))))) | exact (.skip (.skip (.skip (.skip (.skip (.skip (.put (.put (.put .done))))))))) | exact (.skip (.skip (.skip (.skip (.skip (.skip (.skip (.put (.put (.put .done)))))))))) | exact (.skip (.skip (.skip (.skip (.skip (.skip (.skip (.skip (.put (.put (.put .done)))))))))))) (Nat.succ_pos _) | exact str (.ev h1) rfl Try.s45 (ev_T hr11 9 1 rfl (by kernel_rfl) rfl) rfl (by first | exact ctx_HE hr11.ok (by kernel_rfl) rfl | exact ev_H hr11 9 1 rfl (by kernel_rfl) rfl rfl | exact ev_H hr11 4 6 rfl (by kernel_rfl) rfl rfl | exact ev_H hr11 2 8 rfl (by kernel_rfl) rfl rfl) (by assumption) rfl (Nat.succ_pos _) | exact stb (.own h1 (by first | exact ctx_HE hr11.ok (by kernel_rfl) rfl | exact ev_H hr11 9 1 rfl (by kernel_rfl) rfl rfl | exact ev_H hr11 4 6 rfl (by kernel_rfl) rfl rfl | exact ev_H hr11 2 8 rfl (by kernel_rfl) rfl rfl)) rfl Try.s45 (ev_T hr11 9 1 rfl (by kernel_rfl) rfl) rfl (by first | exact ctx_HE hr11.ok (by kernel_rfl) rfl | exact ev_H hr11 9 1 rfl (by kernel_rfl) rfl rfl | exact ev_H hr11 4 6 rfl (by kernel_rfl) rfl rfl | exact ev_H hr11 2 8 rfl (by kernel_rfl) rfl rfl) (by first | exact (.put (.put (.put .done))) | exact (.skip (.put (.put (.put .done)))) | exact (.skip (.skip (.put (.put (.put .done))))) | exact (.skip (.skip (.skip (.put (.put (.put .done)))))) | exact (.skip (.skip (.skip (.skip (.put (.put (.put .done))))))) | exact (.skip (.skip (.skip (.skip (.skip (.put (.put (.put .done)))))))) | exact (.skip (.skip (.skip (.skip (.skip (.skip (.put (.put (.put .done))))))))) | exact (.skip (.skip (.skip (.skip (.skip (.skip (.skip (.put (.put (.put .done)))))))))) | exact (.skip (.skip (.skip (.skip (.skip (.skip (.skip (.skip (.put (.put (.put .done)))))))))))) (Nat.succ_pos _) | exact str (.own h1 (by first | exact ctx_HE hr11.ok (by kernel_rfl) rfl | exact ev_H hr11 9 1 rfl (by kernel_rfl) rfl rfl | exact ev_H hr11 4 6 rfl (by kernel_rfl) rfl rfl | exact ev_H hr11 2 8 rfl (by kernel_rfl) rfl rfl)) rfl Try.s45 (ev_T hr11 9 1 rfl (by kernel_rfl) rfl) rfl (by first | exact ctx_HE hr11.ok (by kernel_rfl) rfl | exact ev_H hr11 9 1 rfl (by kernel_rfl) rfl rfl | exact ev_H hr11 4 6 rfl (by kernel_rfl) rfl rfl | exact ev_H hr11 2 8 rfl (by kernel_rfl) rfl rfl) (by assumption) rfl (Nat.succ_pos _))) rfl (fun hr12 => ?_)
  clear hr11
  refine an_op hr12 rfl 236 13 rfl rfl (ok_assign rfl (ev_T hr12 8 3 rfl (by kernel_rfl) rfl)) rfl (fun hr13 => ?_)
  clear hr12
  refine an_nil [some 27, some 28, some 29, some 30, some 31, some 26, some 32, some 33, some 34, some 13, some 12, none, some 14] hr13 rfl (by kernel_rfl) ?_
  clear hr13
  refine aw_seq ?_
  refine aw_seq ?_
  refine aw_region 260 hE (by decide) rfl rfl ?_
  refine sq_op (some 35) 252 rfl rfl rfl (ok_move rfl rfl) ?_
  refine sq_op (some 36) 260 rfl rfl rfl (ok_neq rfl rfl rfl) ?_
  refine sq_nil ?_
  refine aw_cond rfl (fun hb0 => ?_) (fun hb0 => ?_)
  · simp at hb0
    have he := hwide hb0
    refine aw_seq ?_
    refine aw_region 356 hE (by decide) rfl rfl ?_
    refine sq_op (some 37) 268 rfl rfl rfl (ok_move rfl rfl) ?_
    refine sq_op (some 38) 276 rfl rfl rfl (okB (ok_eql rfl rfl rfl) (decide_eq_true he)) ?_
    refine sq_op (some 39) 284 rfl rfl rfl (ok_move rfl rfl) ?_
    refine sq_off (some 40) 292 rfl rfl rfl rfl rfl (by first | exact .inl rfl | exact .inr rfl) ?_
    refine sq_off (some 41) 300 rfl rfl rfl rfl rfl (by first | exact .inl rfl | exact .inr rfl) ?_
    refine sq_off (some 42) 308 rfl rfl rfl rfl rfl (by first | exact .inl rfl | exact .inr rfl) ?_
    refine sq_off (some 43) 316 rfl rfl rfl rfl rfl (by first | exact .inl rfl | exact .inr rfl) ?_
    refine sq_op (some 44) 324 rfl rfl rfl (by first | exact ok_pick_t rfl rfl rfl | exact ok_pick_f rfl rfl rfl) ?_
    refine sq_op (some 45) 332 rfl rfl rfl (ok_move rfl rfl) ?_
    refine sq_on (some 46) 340 rfl rfl rfl rfl rfl (ok_call [] [] rfl Try.func22 (by simp [Try.f22]) (by simp [Try.f22]) (lives_does) (.nil) .nil (by repeat' first | exact .t rfl | exact DLeL.nil | refine DLeL.cons ?_ ?_ | refine .agg' ?_ | refine .tup' ?_) .nil rfl rfl) ?_
    refine sq_op (some 47) 348 rfl rfl rfl (by first | exact ok_pick_t rfl rfl rfl | exact ok_pick_f rfl rfl rfl) ?_
    refine sq_op (some 10) 356 rfl rfl rfl (ok_assign rfl rfl) ?_
    refine sq_nil ?_
    refine aw_ret ?_
    exact ret1 [] rfl rfl (.t rfl) .nil rfl
  · simp at hb0
    rw [hjc hb0] at cj
    have cs := samefig_does 62 62 L (fun s hs => ⟨okP_of_sc (hgood.1 s hs).2, (hgood.1 s hs).1⟩) (by omega)
    clear ca
    refine aw_skip ?_
    refine aw_seq ?_
    refine aw_region 356 hE (by decide) rfl rfl ?_
    refine sq_op (some 49) 268 rfl rfl rfl (ok_move rfl rfl) ?_
    refine sq_op (some 50) 276 rfl rfl rfl (withEv (x := .tmp 11) rfl (fun h1 => by first | exact ok_fieldr rfl Try.o45_0 h1 | exact ok_fieldp rfl Try.o45_0 h1)) ?_
    refine sq_op (some 51) 284 rfl rfl rfl (withEv (x := .tmp 50) rfl (fun h1 => by first | exact ld1 Try.r3 rfl h1 rfl (by first | assumption | rfl) | exact lp1 Try.r3 rfl h1 (by first | assumption | rfl))) ?_
    refine sq_op (some 52) 292 rfl rfl rfl (withEv (x := .tmp 11) rfl (fun h1 => by first | exact ok_fieldr rfl Try.o45_1 h1 | exact ok_fieldp rfl Try.o45_1 h1)) ?_
    refine sq_op (some 53) 300 rfl rfl rfl (withEv (x := .tmp 52) rfl (fun h1 => by first | exact ld1 Try.r3 rfl h1 rfl (by first | assumption | rfl) | exact lp1 Try.r3 rfl h1 (by first | assumption | rfl))) ?_
    refine sq_op (some 54) 308 rfl rfl rfl (ok_call [] [] rfl Try.func60 (by simp [Try.f60]) (by simp [Try.f60]) (cj) (.cons rfl (by repeat' first | exact .t rfl | exact .rd rfl rfl rfl rfl | exact .nil | exact DLeL.nil | refine DLeL.cons ?_ ?_ | refine .agg' ?_) (.cons rfl (by repeat' first | exact .t rfl | exact .rd rfl rfl rfl rfl | exact .nil | exact DLeL.nil | refine DLeL.cons ?_ ?_ | refine .agg' ?_) (.cons rfl (by repeat' first | exact .t rfl | exact .rd rfl rfl rfl rfl | exact .nil | exact DLeL.nil | refine DLeL.cons ?_ ?_ | refine .agg' ?_) (.nil)))) .nil (DLe.tup' (.cons (DLe.agg' (.cons (.t rfl) (.cons (.t rfl) (.cons (.t rfl) .nil)))) (.cons (.t rfl) .nil))) .nil rfl rfl) ?_
    refine sq_op (some 48) 316 rfl rfl rfl (ok_move rfl rfl) ?_
    refine sq_op (some 55) 324 rfl rfl rfl (ok_extract rfl rfl rfl) ?_
    refine sq_op (some 56) 332 rfl rfl rfl (ok_extract rfl rfl rfl) ?_
    refine sq_op (some 15) 340 rfl rfl rfl (ok_alloc rfl Try.z45 rfl) ?_
    refine sq_op none 348 rfl rfl rfl (withEv (x := .tmp 55) rfl (fun h1 => by first | exact stb (.ev h1) rfl Try.s45 rfl rfl rfl (by first | exact (.put (.put (.put .done))) | exact (.skip (.put (.put (.put .done)))) | exact (.skip (.skip (.put (.put (.put .done))))) | exact (.skip (.skip (.skip (.put (.put (.put .done)))))) | exact (.skip (.skip (.skip (.skip (.put (.put (.put .done))))))) | exact (.skip (.skip (.skip (.skip (.skip (.put (.put (.put .done)))))))) | exact (.skip (.skip (.skip (.skip (.skip (.skip (.put (.put (.put .done))))))))) | exact (.skip (.skip (.skip (.skip (.skip (.skip (.skip (.put (.put (.put .done)))))))))) | exact (.skip (.skip (.skip (.skip (.skip (.skip (.skip (.skip (.put (.put (.put .done)))))))))))) (Nat.succ_pos _) | exact str (.ev h1) rfl Try.s45 rfl rfl rfl (by assumption) rfl (Nat.succ_pos _) | exact stb (.own h1 rfl) rfl Try.s45 rfl rfl rfl (by first | exact (.put (.put (.put .done))) | exact (.skip (.put (.put (.put .done)))) | exact (.skip (.skip (.put (.put (.put .done))))) | exact (.skip (.skip (.skip (.put (.put (.put .done)))))) | exact (.skip (.skip (.skip (.skip (.put (.put (.put .done))))))) | exact (.skip (.skip (.skip (.skip (.skip (.put (.put (.put .done)))))))) | exact (.skip (.skip (.skip (.skip (.skip (.skip (.put (.put (.put .done))))))))) | exact (.skip (.skip (.skip (.skip (.skip (.skip (.skip (.put (.put (.put .done)))))))))) | exact (.skip (.skip (.skip (.skip (.skip (.skip (.skip (.skip (.put (.put (.put .done)))))))))))) (Nat.succ_pos _) | exact str (.own h1 rfl) rfl Try.s45 rfl rfl rfl (by assumption) rfl (Nat.succ_pos _))) ?_
    refine sq_op (some 16) 356 rfl rfl rfl (ok_assign rfl rfl) ?_
    refine sq_nil ?_
    refine aw_seq ?_
    refine aw_seq ?_
    refine aw_region 420 hE (by decide) rfl rfl ?_
    refine sq_op (some 57) 364 rfl rfl rfl (ok_move rfl rfl) ?_
    refine sq_op (some 58) 372 rfl rfl rfl (ok_neq_f rfl rfl rfl rfl) ?_
    refine sq_op (some 59) 380 rfl rfl rfl (ok_move rfl rfl) ?_
    refine sq_on (some 60) 388 rfl rfl rfl rfl rfl (withEv (x := .tmp 15) rfl (fun h1 => by first | exact ldc Try.r45 Try.s45 rfl h1 rfl (by first | exact (.take (.take (.take .done))) | exact (.skip (.take (.take (.take .done)))) | exact (.skip (.skip (.take (.take (.take .done))))) | exact (.skip (.skip (.skip (.take (.take (.take .done)))))) | exact (.skip (.skip (.skip (.skip (.take (.take (.take .done))))))) | exact (.skip (.skip (.skip (.skip (.skip (.take (.take (.take .done)))))))) | exact (.skip (.skip (.skip (.skip (.skip (.skip (.take (.take (.take .done))))))))) | exact (.skip (.skip (.skip (.skip (.skip (.skip (.skip (.take (.take (.take .done)))))))))) | exact (.skip (.skip (.skip (.skip (.skip (.skip (.skip (.skip (.take (.take (.take .done)))))))))))) | exact lpn Try.r45 Try.s45 rfl h1 (by first | assumption | rfl) rfl)) ?_
    refine sq_on (some 61) 396 rfl rfl rfl rfl rfl (withEv (x := .tmp 11) rfl (fun h1 => by first | exact ldc Try.r45 Try.s45 rfl h1 rfl (by first | exact (.take (.take (.take .done))) | exact (.skip (.take (.take (.take .done)))) | exact (.skip (.skip (.take (.take (.take .done))))) | exact (.skip (.skip (.skip (.take (.take (.take .done)))))) | exact (.skip (.skip (.skip (.skip (.take (.take (.take .done))))))) | exact (.skip (.skip (.skip (.skip (.skip (.take (.take (.take .done)))))))) | exact (.skip (.skip (.skip (.skip (.skip (.skip (.take (.take (.take .done))))))))) | exact (.skip (.skip (.skip (.skip (.skip (.skip (.skip (.take (.take (.take .done)))))))))) | exact (.skip (.skip (.skip (.skip (.skip (.skip (.skip (.skip (.take (.take (.take .done)))))))))))) | exact lpn Try.r45 Try.s45 rfl h1 (by first | assumption | rfl) rfl)) ?_
    refine sq_on (some 62) 404 rfl rfl rfl rfl rfl (ok_call [] [] rfl Try.func59 (by simp [Try.f59]) (by simp [Try.f59]) (cs) (.cons rfl (by repeat' first | exact .t rfl | exact .rd rfl rfl rfl rfl | exact .nil | exact DLeL.nil | refine DLeL.cons ?_ ?_ | refine .agg' ?_) (.cons rfl (by repeat' first | exact .t rfl | exact .rd rfl rfl rfl rfl | exact .nil | exact DLeL.nil | refine DLeL.cons ?_ ?_ | refine .agg' ?_) (.nil))) .nil (by repeat' first | exact .t rfl | exact DLeL.nil | refine DLeL.cons ?_ ?_ | refine .agg' ?_ | refine .tup' ?_) .nil rfl rfl) ?_
    refine sq_on (some 63) 412 rfl rfl rfl rfl rfl (ok_not rfl rfl) ?_
    refine sq_op (some 64) 420 rfl rfl rfl (by first | exact ok_pick_t rfl rfl rfl | exact ok_pick_f rfl rfl rfl) ?_
    refine sq_nil ?_
    refine aw_cond rfl (fun hb1 => ?_) (fun hb1 => ?_)
    · exact absurd hb1 (by decide)
    · refine aw_ent (ent_of [] (T' := [(2, I at_), (3, I how), (4, I by_), (12, .t (.sl b.length (shtT b)))]) (H' := []) 100 (.cons rfl (.t rfl) (.cons rfl (.t rfl) (.cons rfl (.t rfl) (.cons rfl (.t rfl) .nil)))) .nil rfl) ?_
      refine aw_skip ?_
      refine aw_seq ?_
      refine aw_region 124 hE (by decide) rfl rfl ?_
      refine sq_op (some 65) 108 rfl rfl rfl (ok_move rfl rfl) ?_
      refine sq_op (some 66) 116 rfl rfl rfl (ok_call [] [] rfl Try.func58 (by simp [Try.f58]) (by simp [Try.f58]) (plain_own b (by omega)) (.cons rfl (.t rfl) .nil) .nil (.own (k' := 108) rfl rfl) (.cons (k := 108) rfl (.row rfl rfl) .nil) rfl rfl) ?_
      refine sq_op (some 17) 124 rfl rfl rfl (ok_assign rfl rfl) ?_
      refine sq_nil ?_
      refine aw_cut (ι := List Sht) (fun b' => lit [(3, I how), (4, I by_), (17, .own 0)] [(0, .row 93 5 b'.length (shtT b') false)] 100) (fun b' => SmSht b') ?_ (fun b' hb' => ?_)
      · refine aw_seq ?_
        refine aw_region 148 hE (by decide) rfl rfl ?_
        refine sq_op (some 67) 132 rfl rfl rfl (ok_move rfl rfl) ?_
        refine sq_op (some 68) 140 rfl rfl rfl (withEv (x := .tmp 67) rfl (fun h1 => by first | exact ok_len Try.sl84 rfl rfl (.t h1) | exact ok_len Try.sl84 rfl rfl (.own h1 rfl) | exact ok_len Try.sl84 rfl rfl (.nil h1))) ?_
        refine sq_op (some 69) 148 rfl rfl rfl (ok_gtr rfl rfl rfl) ?_
        refine sq_nil ?_
        refine aw_cond rfl (fun hb2 => ?_) (fun hb2 => ?_)
        · simp at hb2
          obtain ⟨k, hk, hkl⟩ := around_nat at_ b.length (by omega)
          obtain ⟨s, hs⟩ : ∃ s, b[k]? = some s := ⟨_, List.getElem?_eq_getElem hkl⟩
          obtain ⟨⟨q1, q2, q3, q4⟩, q5⟩ := hsm.1 s (List.mem_iff_getElem?.2 ⟨k, hs⟩)
          obtain ⟨m, hm, hml⟩ := around_nat how 4 (by omega)
          have c10 : Does Try.prog 18 [I at_, I (b.length : Nat)] [] (I k) [] := by rw [← hk]; exact around_does _ _ hat
          have c11 : Does Try.prog 18 [I how, I 4] [] (I m) [] := by rw [← hm]; exact around_does _ _ hhow
          have c9 := around_does by_ 9 hby
          have r9 := around_rng by_ 9 (by decide)
          obtain ⟨v, hv⟩ : ∃ v, aroundI by_ 9 - 1 = v := ⟨_, rfl⟩
          have hlen := shtT_length b
          have f0 : (AObj.row 93 5 b.length (shtT b) false).cells[k * 5 + 0]? = some (.t (ti s.x)) := sht_cell hs (by decide) rfl
          have f4 : (AObj.row 93 5 b.length (shtT b) false).cells[k * 5 + 4]? = some (.t (.sl s.of_.length (intsT s.of_))) := sht_cell hs (by decide) rfl
          have f5 : ((AObj.row 93 5 b.length (shtT b) false).cells.drop (k * 5)).take 5 = (shtC s).map D.t := sht_cells hs
          refine aw_seq ?_
          refine aw_region 188 hE (by decide) rfl rfl ?_
          refine sq_op (some 70) 156 rfl rfl rfl (ok_move rfl rfl) ?_
          refine sq_op (some 71) 164 rfl rfl rfl (ok_move rfl rfl) ?_
          refine sq_op (some 72) 172 rfl rfl rfl (withEv (x := .tmp 71) rfl (fun h1 => by first | exact ok_len Try.sl84 rfl rfl (.t h1) | exact ok_len Try.sl84 rfl rfl (.own h1 rfl) | exact ok_len Try.sl84 rfl rfl (.nil h1))) ?_
          refine sq_op (some 73) 180 rfl rfl rfl (ok_call [] [] rfl Try.func18 (by simp [Try.f18]) (by simp [Try.f18]) (c10) (.cons rfl (by repeat' first | exact .t rfl | exact .rd rfl rfl rfl rfl | exact .nil | exact DLeL.nil | refine DLeL.cons ?_ ?_ | refine .agg' ?_) (.cons rfl (by repeat' first | exact .t rfl | exact .rd rfl rfl rfl rfl | exact .nil | exact DLeL.nil | refine DLeL.cons ?_ ?_ | refine .agg' ?_) (.nil))) .nil (by repeat' first | exact .t rfl | exact DLeL.nil | refine DLeL.cons ?_ ?_ | refine .agg' ?_ | refine .tup' ?_) .nil rfl rfl) ?_
          refine sq_op (some 18) 188 rfl rfl rfl (ok_assign rfl rfl) ?_
          refine sq_nil ?_
          refine aw_seq ?_
          refine aw_region 204 hE (by decide) rfl rfl ?_
          refine sq_op (some 74) 196 rfl rfl rfl (ok_move rfl rfl) ?_
          refine sq_op (some 75) 204 rfl rfl rfl (ok_call [] [] rfl Try.func18 (by simp [Try.f18]) (by simp [Try.f18]) (c11) (.cons rfl (by repeat' first | exact .t rfl | exact .rd rfl rfl rfl rfl | exact .nil | exact DLeL.nil | refine DLeL.cons ?_ ?_ | refine .agg' ?_) (.cons rfl (by repeat' first | exact .t rfl | exact .rd rfl rfl rfl rfl | exact .nil | exact DLeL.nil | refine DLeL.cons ?_ ?_ | refine .agg' ?_) (.nil))) .nil (by repeat' first | exact .t rfl | exact DLeL.nil | refine DLeL.cons ?_ ?_ | refine .agg' ?_ | refine .tup' ?_) .nil rfl rfl) ?_
          refine sq_nil ?_
          refine aw_block ?_
          refine aw_seq ?_
          refine aw_region 220 hE (by decide) rfl rfl ?_
          refine sq_op (some 97) 212 rfl rfl rfl (ok_eql rfl rfl rfl) ?_
          refine sq_op (some 96) 220 rfl rfl rfl (ok_assign rfl rfl) ?_
          refine sq_nil ?_
          refine aw_cond rfl (fun hb3 => ?_) (fun hb3 => ?_)
          · simp at hb3
            have hput : k * 5 + 0 + [D.t (.v (.int .i64 (IntKind.i64.wrap (s.x + by_))))].length ≤ (shtT b).length := by rw [hlen]; simp; omega
            have hrow : splice (shtT b) (k * 5 + 0) [.v (.int .i64 (IntKind.i64.wrap (s.x + by_)))] = shtT (b.set k { s with x := IntKind.i64.wrap (s.x + by_) }) := flat_putj (f := shtC) (fun _ => rfl) (by simp) rfl hs
            have hsm2 : SmSht (b.set k { s with x := IntKind.i64.wrap (s.x + by_) }) := SmSht.set hsm hs rfl q3 (by simp only; omega)
            refine aw_region 316 hE (by decide) rfl rfl ?_
            refine sq_op (some 98) 228 rfl rfl rfl (ok_move rfl rfl) ?_
            refine sq_op (some 99) 236 rfl rfl rfl (ok_move rfl rfl) ?_
            refine sq_op (some 100) 244 rfl rfl rfl (ok_move rfl rfl) ?_
            refine sq_op (some 101) 252 rfl rfl rfl (ok_move rfl rfl) ?_
            refine sq_op (some 102) 260 rfl rfl rfl (withEv (x := .tmp 100) rfl (fun h1 => withEv (x := .tmp 101) rfl (fun h2 => by first | exact ix_p Try.e84 rfl h1 h2 (by omega) | exact ix_r Try.e84 rfl h1 rfl h2 (by omega) | exact ok_indexp rfl Try.e84 h1 h2 (by omega) (by omega) | exact ok_indexr rfl Try.e84 h1 rfl h2 (by omega) (by omega)))) ?_
            refine sq_op (some 103) 268 rfl rfl rfl (withEv (x := .tmp 102) rfl (fun h1 => by first | exact ok_fieldr rfl Try.o93_0 h1 | exact ok_fieldp rfl Try.o93_0 h1)) ?_
            refine sq_op (some 104) 276 rfl rfl rfl (withEv (x := .tmp 103) rfl (fun h1 => by first | exact ld1 Try.r3 rfl h1 rfl (by first | assumption | rfl) | exact lp1 Try.r3 rfl h1 (by first | assumption | rfl))) ?_
            refine sq_op (some 105) 284 rfl rfl rfl (ok_move rfl rfl) ?_
            refine sq_op (some 106) 292 rfl rfl rfl (ok_addk rfl rfl rfl) ?_
            refine sq_op (some 107) 300 rfl rfl rfl (withEv (x := .tmp 98) rfl (fun h1 => withEv (x := .tmp 99) rfl (fun h2 => by first | exact ix_p Try.e84 rfl h1 h2 (by omega) | exact ix_r Try.e84 rfl h1 rfl h2 (by omega) | exact ok_indexp rfl Try.e84 h1 h2 (by omega) (by omega) | exact ok_indexr rfl Try.e84 h1 rfl h2 (by omega) (by omega)))) ?_
            refine sq_op (some 108) 308 rfl rfl rfl (withEv (x := .tmp 107) rfl (fun h1 => by first | exact ok_fieldr rfl Try.o93_0 h1 | exact ok_fieldp rfl Try.o93_0 h1)) ?_
            refine sq_op none 316 rfl rfl rfl (withEv (x := .tmp 106) rfl (fun h1 => by first | exact stb (.ev h1) rfl Try.s3 rfl rfl rfl (by first | exact (.put .done) | exact (.skip (.put .done)) | exact (.skip (.skip (.put .done))) | exact (.skip (.skip (.skip (.put .done)))) | exact (.skip (.skip (.skip (.skip (.put .done))))) | exact (.skip (.skip (.skip (.skip (.skip (.put .done)))))) | exact (.skip (.skip (.skip (.skip (.skip (.skip (.put .done))))))) | exact (.skip (.skip (.skip (.skip (.skip (.skip (.skip (.put .done)))))))) | exact (.skip (.skip (.skip (.skip (.skip (.skip (.skip (.skip (.put .done)))))))))) (Nat.succ_pos _) | exact str (.ev h1) rfl Try.s3 rfl rfl rfl (by assumption) rfl (Nat.succ_pos _) | exact stb (.own h1 rfl) rfl Try.s3 rfl rfl rfl (by first | exact (.put .done) | exact (.skip (.put .done)) | exact (.skip (.skip (.put .done))) | exact (.skip (.skip (.skip (.put .done)))) | exact (.skip (.skip (.skip (.skip (.put .done))))) | exact (.skip (.skip (.skip (.skip (.skip (.put .done)))))) | exact (.skip (.skip (.skip (.skip (.skip (.skip (.put .done))))))) | exact (.skip (.skip (.skip (.skip (.skip (.skip (.skip (.put .done)))))))) | exact (.skip (.skip (.skip (.skip (.skip (.skip (.skip (.skip (.put .done)))))))))) (Nat.succ_pos _) | exact str (.own h1 rfl) rfl Try.s3 rfl rfl rfl (by assumption) rfl (Nat.succ_pos _))) ?_
            refine sq_nil ?_
            exact ⟨_, hsm2, ent_of [(0, 108)] 100 (.cons rfl (.t rfl) (.cons rfl (.t rfl) (.cons rfl (.own rfl rfl) .nil))) (.cons rfl (.row hrow (by rw [List.length_set])) .nil) rfl⟩
          · simp at hb3
            refine aw_seq ?_
            refine aw_region 236 hE (by decide) rfl rfl ?_
            refine sq_op (some 110) 228 rfl rfl rfl (ok_eql rfl rfl rfl) ?_
            refine sq_op (some 109) 236 rfl rfl rfl (ok_assign rfl rfl) ?_
            refine sq_nil ?_
            refine aw_cond rfl (fun hb4 => ?_) (fun hb4 => ?_)
            · simp at hb4
              have hput : k * 5 + 4 + [D.t (.sl (0 + s.of_.length + 1) ([] ++ intsT s.of_ ++ [ti (aroundI by_ 9 - 1)]))].length ≤ (shtT b).length := by rw [hlen]; simp; omega
              have hsl : Tree.sl (0 + s.of_.length + 1) ([] ++ intsT s.of_ ++ [ti (aroundI by_ 9 - 1)]) = .sl (s.of_ ++ [aroundI by_ 9 - 1]).length (intsT (s.of_ ++ [aroundI by_ 9 - 1])) := by simp [intsT]
              have hrow : splice (shtT b) (k * 5 + 4) [.sl (0 + s.of_.length + 1) ([] ++ intsT s.of_ ++ [ti (aroundI by_ 9 - 1)])] = shtT (b.set k { s with of_ := s.of_ ++ [aroundI by_ 9 - 1] }) := by
                rw [hsl]; exact flat_putj (f := shtC) (fun _ => rfl) (by simp) rfl hs
              have hsm2 : SmSht (b.set k { s with of_ := s.of_ ++ [aroundI by_ 9 - 1] }) := SmSht.set hsm hs rfl (okI_snoc q3 (by omega)) (by simp; omega)
              refine aw_region 372 hE (by decide) rfl rfl ?_
              refine sq_op (some 111) 244 rfl rfl rfl (ok_move rfl rfl) ?_
              refine sq_op (some 112) 252 rfl rfl rfl (ok_move rfl rfl) ?_
              refine sq_op (some 113) 260 rfl rfl rfl (lit_ true (Try.lit22 _ (by decide)) rfl ev_nil .nil .nil) ?_
              refine sq_op (some 114) 268 rfl rfl rfl (ok_move rfl rfl) ?_
              refine sq_op (some 115) 276 rfl rfl rfl (ok_move rfl rfl) ?_
              refine sq_op (some 116) 284 rfl rfl rfl (withEv (x := .tmp 114) rfl (fun h1 => withEv (x := .tmp 115) rfl (fun h2 => by first | exact ix_p Try.e84 rfl h1 h2 (by omega) | exact ix_r Try.e84 rfl h1 rfl h2 (by omega) | exact ok_indexp rfl Try.e84 h1 h2 (by omega) (by omega) | exact ok_indexr rfl Try.e84 h1 rfl h2 (by omega) (by omega)))) ?_
              refine sq_op (some 117) 292 rfl rfl rfl (withEv (x := .tmp 116) rfl (fun h1 => by first | exact ok_fieldr rfl Try.o93_2 h1 | exact ok_fieldp rfl Try.o93_2 h1)) ?_
              refine sq_op (some 118) 300 rfl rfl rfl (withEv (x := .tmp 117) rfl (fun h1 => by first | exact ld1 Try.r22 rfl h1 rfl (by first | assumption | rfl) | exact lp1 Try.r22 rfl h1 (by first | assumption | rfl))) ?_
              refine sq_op (some 119) 308 rfl rfl rfl (withEv (x := .tmp 113) rfl (fun h1 => withEv (x := .tmp 118) rfl (fun h2 => by first | exact ok_append true Try.app22 rfl (.own h1 rfl) (.own h2 rfl) (by rw [intsT_length, Nat.mul_one]) ⟨by omega, (by unfold maxLen; omega)⟩ | exact ok_append true Try.app22 rfl (.own h1 rfl) (.t h2) (by rw [intsT_length, Nat.mul_one]) ⟨by omega, (by unfold maxLen; omega)⟩ | exact ok_append true Try.app22 rfl (.own h1 rfl) (.nil h2) (by rw [intsT_length, Nat.mul_one]) ⟨by omega, (by unfold maxLen; omega)⟩ | exact ok_append true Try.app22 rfl (.nil h1) (.own h2 rfl) (by rw [intsT_length, Nat.mul_one]) ⟨by omega, (by unfold maxLen; omega)⟩ | exact ok_append true Try.app22 rfl (.nil h1) (.t h2) (by rw [intsT_length, Nat.mul_one]) ⟨by omega, (by unfold maxLen; omega)⟩ | exact ok_append true Try.app22 rfl (.nil h1) (.nil h2) (by rw [intsT_length, Nat.mul_one]) ⟨by omega, (by unfold maxLen; omega)⟩))) ?_
              refine sq_op (some 120) 316 rfl rfl rfl (ok_move rfl rfl) ?_
              refine sq_op (some 121) 324 rfl rfl rfl (ok_call [] [] rfl Try.func18 (by simp [Try.f18]) (by simp [Try.f18]) (c9) (.cons rfl (by repeat' first | exact .t rfl | exact .rd rfl rfl rfl rfl | exact .nil | exact DLeL.nil | refine DLeL.cons ?_ ?_ | refine .agg' ?_) (.cons rfl (by repeat' first | exact .t rfl | exact .rd rfl rfl rfl rfl | exact .nil | exact DLeL.nil | refine DLeL.cons ?_ ?_ | refine .agg' ?_) (.nil))) .nil (by repeat' first | exact .t rfl | exact DLeL.nil | refine DLeL.cons ?_ ?_ | refine .agg' ?_ | refine .tup' ?_) .nil rfl rfl) ?_
              refine sq_op (some 122) 332 rfl rfl rfl (ok_sub rfl rfl rfl (by omega)) ?_
              refine sq_op (some 123) 340 rfl rfl rfl (lit_ true (Try.lit22 _ (by decide)) rfl (ev_cons rfl ev_nil) (.cons rfl rfl rfl rfl (.put .done) .nil) (.t .nil)) ?_
              refine sq_op (some 124) 348 rfl rfl rfl (withEv (x := .tmp 119) rfl (fun h1 => withEv (x := .tmp 123) rfl (fun h2 => by first | exact ok_append true Try.app22 rfl (.own h1 rfl) (.own h2 rfl) (by first | rfl | simp | omega) ⟨by omega, (by unfold maxLen; omega)⟩ | exact ok_append true Try.app22 rfl (.own h1 rfl) (.t h2) (by first | rfl | simp | omega) ⟨by omega, (by unfold maxLen; omega)⟩ | exact ok_append true Try.app22 rfl (.own h1 rfl) (.nil h2) (by first | rfl | simp | omega) ⟨by omega, (by unfold maxLen; omega)⟩ | exact ok_append true Try.app22 rfl (.nil h1) (.own h2 rfl) (by first | rfl | simp | omega) ⟨by omega, (by unfold maxLen; omega)⟩ | exact ok_append true Try.app22 rfl (.nil h1) (.t h2) (by first | rfl | simp | omega) ⟨by omega, (by unfold maxLen; omega)⟩ | exact ok_append true Try.app22 rfl (.nil h1) (.nil h2) (by first | rfl | simp | omega) ⟨by omega, (by unfold maxLen; omega)⟩))) ?_
              refine sq_op (some 125) 356 rfl rfl rfl (withEv (x := .tmp 111) rfl (fun h1 => withEv (x := .tmp 112) rfl (fun h2 => by first | exact ix_p Try.e84 rfl h1 h2 (by omega) | exact ix_r Try.e84 rfl h1 rfl h2 (by omega) | exact ok_indexp rfl Try.e84 h1 h2 (by omega) (by omega) | exact ok_indexr rfl Try.e84 h1 rfl h2 (by omega) (by omega)))) ?_
              refine sq_op (some 126) 364 rfl rfl rfl (withEv (x := .tmp 125) rfl (fun h1 => by first | exact ok_fieldr rfl Try.o93_2 h1 | exact ok_fieldp rfl Try.o93_2 h1)) ?_
              refine sq_op none 372 rfl rfl rfl (withEv (x := .tmp 124) rfl (fun h1 => by first | exact stb (.ev h1) rfl Try.s22 rfl rfl rfl (by first | exact (.put .done) | exact (.skip (.put .done)) | exact (.skip (.skip (.put .done))) | exact (.skip (.skip (.skip (.put .done)))) | exact (.skip (.skip (.skip (.skip (.put .done))))) | exact (.skip (.skip (.skip (.skip (.skip (.put .done)))))) | exact (.skip (.skip (.skip (.skip (.skip (.skip (.put .done))))))) | exact (.skip (.skip (.skip (.skip (.skip (.skip (.skip (.put .done)))))))) | exact (.skip (.skip (.skip (.skip (.skip (.skip (.skip (.skip (.put .done)))))))))) (Nat.succ_pos _) | exact str (.ev h1) rfl Try.s22 rfl rfl rfl (by assumption) rfl (Nat.succ_pos _) | exact stb (.own h1 rfl) rfl Try.s22 rfl rfl rfl (by first | exact (.put .done) | exact (.skip (.put .done)) | exact (.skip (.skip (.put .done))) | exact (.skip (.skip (.skip (.put .done)))) | exact (.skip (.skip (.skip (.skip (.put .done))))) | exact (.skip (.skip (.skip (.skip (.skip (.put .done)))))) | exact (.skip (.skip (.skip (.skip (.skip (.skip (.put .done))))))) | exact (.skip (.skip (.skip (.skip (.skip (.skip (.skip (.put .done)))))))) | exact (.skip (.skip (.skip (.skip (.skip (.skip (.skip (.skip (.put .done)))))))))) (Nat.succ_pos _) | exact str (.own h1 rfl) rfl Try.s22 rfl rfl rfl (by assumption) rfl (Nat.succ_pos _))) ?_
              refine sq_nil ?_
              exact ⟨_, hsm2, ent_of [(0, 108)] 100 (.cons rfl (.t rfl) (.cons rfl (.t rfl) (.cons rfl (.own rfl rfl) .nil))) (.cons rfl (.row hrow (by rw [List.length_set])) .nil) rfl⟩
            · simp at hb4
              refine aw_seq ?_
              refine aw_region 252 hE (by decide) rfl rfl ?_
              refine sq_op (some 128) 244 rfl rfl rfl (ok_eql rfl rfl rfl) ?_
              refine sq_op (some 127) 252 rfl rfl rfl (ok_assign rfl rfl) ?_
              refine sq_nil ?_
              refine aw_cond rfl (fun hb5 => ?_) (fun hb5 => ?_)
              · simp at hb5
                have hrow : shtT b ++ [ti s.x, ti s.wd, ti s.ht, .sl s.sh.length (shT s.sh), .sl s.of_.length (intsT s.of_)] = shtT (b ++ [s]) := by simp [shtT, shtC]
                refine aw_region 316 hE (by decide) rfl rfl ?_
                refine sq_op (some 129) 260 rfl rfl rfl (ok_move rfl rfl) ?_
                refine sq_op (some 130) 268 rfl rfl rfl (ok_move rfl rfl) ?_
                refine sq_op (some 131) 276 rfl rfl rfl (ok_move rfl rfl) ?_
                refine sq_op (some 132) 284 rfl rfl rfl (withEv (x := .tmp 130) rfl (fun h1 => withEv (x := .tmp 131) rfl (fun h2 => by first | exact ix_p Try.e84 rfl h1 h2 (by omega) | exact ix_r Try.e84 rfl h1 rfl h2 (by omega) | exact ok_indexp rfl Try.e84 h1 h2 (by omega) (by omega) | exact ok_indexr rfl Try.e84 h1 rfl h2 (by omega) (by omega)))) ?_
                refine sq_op (some 133) 292 rfl rfl rfl (withEv (x := .tmp 132) rfl (fun h1 => ldn Try.r93 Try.s93 rfl h1 rfl f5 rfl)) ?_
                refine sq_op (some 134) 300 rfl rfl rfl (lit_ true (Try.lit84 _ (by decide)) rfl (ev_cons rfl ev_nil) (.cons rfl rfl rfl rfl (.put (.put (.put (.put (.put .done))))) .nil) (.t (.t (.t (.t (.t .nil)))))) ?_
                refine sq_op (some 135) 308 rfl rfl rfl (withEv (x := .tmp 129) rfl (fun h1 => withEv (x := .tmp 134) rfl (fun h2 => by first | exact ok_append false Try.app84 rfl (.own h1 rfl) (.own h2 rfl) (by rfl) ⟨by omega, (by unfold maxLen; omega)⟩ | exact ok_append false Try.app84 rfl (.own h1 rfl) (.t h2) (by rfl) ⟨by omega, (by unfold maxLen; omega)⟩ | exact ok_append false Try.app84 rfl (.own h1 rfl) (.nil h2) (by rfl) ⟨by omega, (by unfold maxLen; omega)⟩ | exact ok_append false Try.app84 rfl (.nil h1) (.own h2 rfl) (by rfl) ⟨by omega, (by unfold maxLen; omega)⟩ | exact ok_append false Try.app84 rfl (.nil h1) (.t h2) (by rfl) ⟨by omega, (by unfold maxLen; omega)⟩ | exact ok_append false Try.app84 rfl (.nil h1) (.nil h2) (by rfl) ⟨by omega, (by unfold maxLen; omega)⟩))) ?_
                refine sq_op (some 17) 316 rfl rfl rfl (ok_assign rfl rfl) ?_
                refine sq_nil ?_
                exact ⟨_, (SmSht.app hsm hs), ent_of [(0, 300)] 100 (.cons rfl (.t rfl) (.cons rfl (.t rfl) (.cons rfl (.own rfl rfl) .nil))) (.cons rfl (.row hrow (by rw [List.length_append]; rfl)) .nil) rfl⟩
              · simp at hb5
                refine aw_seq ?_
                refine aw_region 316 hE (by decide) rfl rfl ?_
                refine sq_op (some 76) 260 rfl rfl rfl (lit_ false (Try.lit22 _ (by decide)) rfl ev_nil .nil .nil) ?_
                refine sq_op (some 77) 268 rfl rfl rfl (ok_move rfl rfl) ?_
                refine sq_op (some 78) 276 rfl rfl rfl (ok_move rfl rfl) ?_
                refine sq_op (some 79) 284 rfl rfl rfl (withEv (x := .tmp 77) rfl (fun h1 => withEv (x := .tmp 78) rfl (fun h2 => by first | exact ix_p Try.e84 rfl h1 h2 (by omega) | exact ix_r Try.e84 rfl h1 rfl h2 (by omega) | exact ok_indexp rfl Try.e84 h1 h2 (by omega) (by omega) | exact ok_indexr rfl Try.e84 h1 rfl h2 (by omega) (by omega)))) ?_
                refine sq_op (some 80) 292 rfl rfl rfl (withEv (x := .tmp 79) rfl (fun h1 => by first | exact ok_fieldr rfl Try.o93_2 h1 | exact ok_fieldp rfl Try.o93_2 h1)) ?_
                refine sq_op (some 81) 300 rfl rfl rfl (withEv (x := .tmp 80) rfl (fun h1 => by first | exact ld1 Try.r22 rfl h1 rfl (by first | assumption | rfl) | exact lp1 Try.r22 rfl h1 (by first | assumption | rfl))) ?_
                refine sq_op (some 82) 308 rfl rfl rfl (withEv (x := .tmp 76) rfl (fun h1 => withEv (x := .tmp 81) rfl (fun h2 => by first | exact ok_append false Try.app22 rfl (.own h1 rfl) (.own h2 rfl) (by rw [intsT_length, Nat.mul_one]) ⟨by omega, (by unfold maxLen; omega)⟩ | exact ok_append false Try.app22 rfl (.own h1 rfl) (.t h2) (by rw [intsT_length, Nat.mul_one]) ⟨by omega, (by unfold maxLen; omega)⟩ | exact ok_append false Try.app22 rfl (.own h1 rfl) (.nil h2) (by rw [intsT_length, Nat.mul_one]) ⟨by omega, (by unfold maxLen; omega)⟩ | exact ok_append false Try.app22 rfl (.nil h1) (.own h2 rfl) (by rw [intsT_length, Nat.mul_one]) ⟨by omega, (by unfold maxLen; omega)⟩ | exact ok_append false Try.app22 rfl (.nil h1) (.t h2) (by rw [intsT_length, Nat.mul_one]) ⟨by omega, (by unfold maxLen; omega)⟩ | exact ok_append false Try.app22 rfl (.nil h1) (.nil h2) (by rw [intsT_length, Nat.mul_one]) ⟨by omega, (by unfold maxLen; omega)⟩))) ?_
                refine sq_op (some 19) 316 rfl rfl rfl (ok_assign rfl rfl) ?_
                refine sq_nil ?_
                refine aw_cut (ι := List Int) (fun o' => lit [(3, I how), (4, I by_), (17, .own 0), (18, I k), (19, .own 1)] [(0, .row 93 5 b.length (shtT b) false), (1, .row 3 1 s.of_.length (intsT o') false)] 100) (fun o' => okI o' ∧ o'.length = s.of_.length) ?_ (fun o' ho' => ?_)
                · refine aw_seq ?_
                  refine aw_region 340 hE (by decide) rfl rfl ?_
                  refine sq_op (some 83) 324 rfl rfl rfl (ok_move rfl rfl) ?_
                  refine sq_op (some 84) 332 rfl rfl rfl (withEv (x := .tmp 83) rfl (fun h1 => by first | exact ok_len Try.sl22 rfl rfl (.t h1) | exact ok_len Try.sl22 rfl rfl (.own h1 rfl) | exact ok_len Try.sl22 rfl rfl (.nil h1))) ?_
                  refine sq_op (some 85) 340 rfl rfl rfl (ok_gtr rfl rfl rfl) ?_
                  refine sq_nil ?_
                  refine aw_cond rfl (fun hb6 => ?_) (fun hb6 => ?_)
                  · simp at hb6
                    have hput : 0 * 1 + [I (aroundI by_ 9 - 1)].length ≤ ([] ++ intsT s.of_).length := by simp [intsT]; omega
                    have hset : splice ([] ++ intsT s.of_) (0 * 1) [ti (aroundI by_ 9 - 1)] = intsT (s.of_.set 0 (aroundI by_ 9 - 1)) := ints_set (by omega)
                    refine aw_region 388 hE (by decide) rfl rfl ?_
                    refine sq_op (some 86) 348 rfl rfl rfl (ok_move rfl rfl) ?_
                    refine sq_op (some 87) 356 rfl rfl rfl (ok_move rfl rfl) ?_
                    refine sq_op (some 88) 364 rfl rfl rfl (ok_call [] [] rfl Try.func18 (by simp [Try.f18]) (by simp [Try.f18]) (c9) (.cons rfl (by repeat' first | exact .t rfl | exact .rd rfl rfl rfl rfl | exact .nil | exact DLeL.nil | refine DLeL.cons ?_ ?_ | refine .agg' ?_) (.cons rfl (by repeat' first | exact .t rfl | exact .rd rfl rfl rfl rfl | exact .nil | exact DLeL.nil | refine DLeL.cons ?_ ?_ | refine .agg' ?_) (.nil))) .nil (by repeat' first | exact .t rfl | exact DLeL.nil | refine DLeL.cons ?_ ?_ | refine .agg' ?_ | refine .tup' ?_) .nil rfl rfl) ?_
                    refine sq_op (some 89) 372 rfl rfl rfl (ok_sub rfl rfl rfl (by omega)) ?_
                    refine sq_op (some 90) 380 rfl rfl rfl (withEv (x := .tmp 86) rfl (fun h1 => ix_r (r := 0) Try.e22 rfl h1 rfl rfl (by omega))) ?_
                    refine sq_op none 388 rfl rfl rfl (withEv (x := .tmp 89) rfl (fun h1 => by first | exact stb (.ev h1) rfl Try.s3 rfl rfl rfl (by first | exact (.put .done) | exact (.skip (.put .done)) | exact (.skip (.skip (.put .done))) | exact (.skip (.skip (.skip (.put .done)))) | exact (.skip (.skip (.skip (.skip (.put .done))))) | exact (.skip (.skip (.skip (.skip (.skip (.put .done)))))) | exact (.skip (.skip (.skip (.skip (.skip (.skip (.put .done))))))) | exact (.skip (.skip (.skip (.skip (.skip (.skip (.skip (.put .done)))))))) | exact (.skip (.skip (.skip (.skip (.skip (.skip (.skip (.skip (.put .done)))))))))) (Nat.succ_pos _) | exact str (.ev h1) rfl Try.s3 rfl rfl rfl (by assumption) rfl (Nat.succ_pos _) | exact stb (.own h1 rfl) rfl Try.s3 rfl rfl rfl (by first | exact (.put .done) | exact (.skip (.put .done)) | exact (.skip (.skip (.put .done))) | exact (.skip (.skip (.skip (.put .done)))) | exact (.skip (.skip (.skip (.skip (.put .done))))) | exact (.skip (.skip (.skip (.skip (.skip (.put .done)))))) | exact (.skip (.skip (.skip (.skip (.skip (.skip (.put .done))))))) | exact (.skip (.skip (.skip (.skip (.skip (.skip (.skip (.put .done)))))))) | exact (.skip (.skip (.skip (.skip (.skip (.skip (.skip (.skip (.put .done)))))))))) (Nat.succ_pos _) | exact str (.own h1 rfl) rfl Try.s3 rfl rfl rfl (by assumption) rfl (Nat.succ_pos _))) ?_
                    refine sq_nil ?_
                    exact ⟨_, ⟨okI_set q3 (by omega), List.length_set⟩, ent_of [(0, 108), (1, 300)] 100 (.cons rfl (.t rfl) (.cons rfl (.t rfl) (.cons rfl (.own rfl rfl) (.cons rfl (.t rfl) (.cons rfl (.own rfl rfl) .nil))))) (.cons rfl (.row rfl rfl) (.cons rfl (.row hset (Nat.zero_add _)) .nil)) rfl⟩
                  · simp at hb6
                    refine aw_skip ?_
                    exact ⟨_, ⟨q3, rfl⟩, ent_of [(0, 108), (1, 300)] 100 (.cons rfl (.t rfl) (.cons rfl (.t rfl) (.cons rfl (.own rfl rfl) (.cons rfl (.t rfl) (.cons rfl (.own rfl rfl) .nil))))) (.cons rfl (.row rfl rfl) (.cons rfl (.row (List.nil_append _) (Nat.zero_add _)) .nil)) rfl⟩
                refine aw_seal 1 rfl ?_
                obtain ⟨ho1, ho2⟩ := ho'
                have hput : k * 5 + 4 + [D.t (.sl s.of_.length (intsT o'))].length ≤ (shtT b).length := by rw [hlen]; simp; omega
                have hrow : splice (shtT b) (k * 5 + 4) [.sl s.of_.length (intsT o')] = shtT (b.set k { s with of_ := o' }) := by
                  rw [← ho2]; exact flat_putj (f := shtC) (fun _ => rfl) (by simp) rfl hs
                have hsm2 : SmSht (b.set k { s with of_ := o' }) := SmSht.set hsm hs rfl ho1 (by simp only; omega)
                refine aw_region 148 hE (by decide) rfl rfl ?_
                refine sq_op (some 91) 108 rfl rfl rfl (ok_move rfl rfl) ?_
                refine sq_op (some 92) 116 rfl rfl rfl (ok_move rfl rfl) ?_
                refine sq_op (some 93) 124 rfl rfl rfl (ok_move rfl rfl) ?_
                refine sq_op (some 94) 132 rfl rfl rfl (withEv (x := .tmp 91) rfl (fun h1 => withEv (x := .tmp 92) rfl (fun h2 => by first | exact ix_p Try.e84 rfl h1 h2 (by omega) | exact ix_r Try.e84 rfl h1 rfl h2 (by omega) | exact ok_indexp rfl Try.e84 h1 h2 (by omega) (by omega) | exact ok_indexr rfl Try.e84 h1 rfl h2 (by omega) (by omega)))) ?_
                refine sq_op (some 95) 140 rfl rfl rfl (withEv (x := .tmp 94) rfl (fun h1 => by first | exact ok_fieldr rfl Try.o93_2 h1 | exact ok_fieldp rfl Try.o93_2 h1)) ?_
                refine sq_op none 148 rfl rfl rfl (withEv (x := .tmp 93) rfl (fun h1 => by first | exact stb (.ev h1) rfl Try.s22 rfl rfl rfl (by first | exact (.put .done) | exact (.skip (.put .done)) | exact (.skip (.skip (.put .done))) | exact (.skip (.skip (.skip (.put .done)))) | exact (.skip (.skip (.skip (.skip (.put .done))))) | exact (.skip (.skip (.skip (.skip (.skip (.put .done)))))) | exact (.skip (.skip (.skip (.skip (.skip (.skip (.put .done))))))) | exact (.skip (.skip (.skip (.skip (.skip (.skip (.skip (.put .done)))))))) | exact (.skip (.skip (.skip (.skip (.skip (.skip (.skip (.skip (.put .done)))))))))) (Nat.succ_pos _) | exact str (.ev h1) rfl Try.s22 rfl rfl rfl (by assumption) rfl (Nat.succ_pos _) | exact stb (.own h1 rfl) rfl Try.s22 rfl rfl rfl (by first | exact (.put .done) | exact (.skip (.put .done)) | exact (.skip (.skip (.put .done))) | exact (.skip (.skip (.skip (.put .done)))) | exact (.skip (.skip (.skip (.skip (.put .done))))) | exact (.skip (.skip (.skip (.skip (.skip (.put .done)))))) | exact (.skip (.skip (.skip (.skip (.skip (.skip (.put .done))))))) | exact (.skip (.skip (.skip (.skip (.skip (.skip (.skip (.put .done)))))))) | exact (.skip (.skip (.skip (.skip (.skip (.skip (.skip (.skip (.put .done)))))))))) (Nat.succ_pos _) | exact str (.own h1 rfl) rfl Try.s22 rfl rfl rfl (by assumption) rfl (Nat.succ_pos _))) ?_
                refine sq_nil ?_
                exact ⟨_, hsm2, ent_of [] 100 (.cons rfl (.t rfl) (.cons rfl (.t rfl) (.cons rfl (.own rfl rfl) .nil))) (.cons rfl (.row hrow (by rw [List.length_set])) .nil) rfl⟩
        · simp at hb2
          refine aw_skip ?_
          exact ⟨_, ⟨fun s hs => ⟨(hsm.1 s hs).1, by have := (hsm.1 s hs).2; omega⟩, by omega⟩, ent_of [(0, 108)] 100 (.cons rfl (.t rfl) (.cons rfl (.t rfl) (.cons rfl (.own rfl rfl) .nil))) (.cons rfl (.row rfl rfl) .nil) rfl⟩
      refine aw_seal 0 rfl ?_
      have cg := given_does b' hb'.ok.2
      have cj2 := join_does b' by_ how hb'.ok.1 hb'.ok.2
      have cr2 := rjoin_does b' by_ how hb'.ok.1 hb'.ok.2
      have hjo := join_ok (w := by_) (h := how) hb'
      have cs2 := samefig_does (joinM b' by_ how).1.1 (joinM b' by_ how).1.2.1 (joinM b' by_ how).1.2.2 hjo.1 hjo.2
      refine aw_seq ?_
      refine aw_region 188 hE (by decide) rfl rfl ?_
      refine sq_op (some 137) 108 rfl rfl rfl (ok_move rfl rfl) ?_
      refine sq_op (some 138) 116 rfl rfl rfl (ok_call [] [] rfl Try.func61 (by simp [Try.f61]) (by simp [Try.f61]) (cg) (.cons rfl (by repeat' first | exact .t rfl | exact .rd rfl rfl rfl rfl | exact .nil | exact DLeL.nil | refine DLeL.cons ?_ ?_ | refine .agg' ?_) (.nil)) .nil (by repeat' first | exact .t rfl | exact DLeL.nil | refine DLeL.cons ?_ ?_ | refine .agg' ?_ | refine .tup' ?_) .nil rfl rfl) ?_
      refine sq_op (some 139) 124 rfl rfl rfl (ok_move rfl rfl) ?_
      refine sq_op (some 140) 132 rfl rfl rfl (ok_move rfl rfl) ?_
      refine sq_op (some 141) 140 rfl rfl rfl (ok_call [] [] rfl Try.func60 (by simp [Try.f60]) (by simp [Try.f60]) (cj2) (.cons rfl (by repeat' first | exact .t rfl | exact .rd rfl rfl rfl rfl | exact .nil | exact DLeL.nil | refine DLeL.cons ?_ ?_ | refine .agg' ?_) (.cons rfl (by repeat' first | exact .t rfl | exact .rd rfl rfl rfl rfl | exact .nil | exact DLeL.nil | refine DLeL.cons ?_ ?_ | refine .agg' ?_) (.cons rfl (by repeat' first | exact .t rfl | exact .rd rfl rfl rfl rfl | exact .nil | exact DLeL.nil | refine DLeL.cons ?_ ?_ | refine .agg' ?_) (.nil)))) .nil (DLe.tup' (.cons (DLe.agg' (.cons (.t rfl) (.cons (.t rfl) (.cons (.t rfl) .nil)))) (.cons (.t rfl) .nil))) .nil rfl rfl) ?_
      refine sq_op (some 136) 148 rfl rfl rfl (ok_move rfl rfl) ?_
      refine sq_op (some 142) 156 rfl rfl rfl (ok_extract rfl rfl rfl) ?_
      refine sq_op (some 143) 164 rfl rfl rfl (ok_extract rfl rfl rfl) ?_
      refine sq_op (some 20) 172 rfl rfl rfl (ok_alloc rfl Try.z45 rfl) ?_
      refine sq_op none 180 rfl rfl rfl (withEv (x := .tmp 142) rfl (fun h1 => by first | exact stb (.ev h1) rfl Try.s45 rfl rfl rfl (by first | exact (.put (.put (.put .done))) | exact (.skip (.put (.put (.put .done)))) | exact (.skip (.skip (.put (.put (.put .done))))) | exact (.skip (.skip (.skip (.put (.put (.put .done)))))) | exact (.skip (.skip (.skip (.skip (.put (.put (.put .done))))))) | exact (.skip (.skip (.skip (.skip (.skip (.put (.put (.put .done)))))))) | exact (.skip (.skip (.skip (.skip (.skip (.skip (.put (.put (.put .done))))))))) | exact (.skip (.skip (.skip (.skip (.skip (.skip (.skip (.put (.put (.put .done)))))))))) | exact (.skip (.skip (.skip (.skip (.skip (.skip (.skip (.skip (.put (.put (.put .done)))))))))))) (Nat.succ_pos _) | exact str (.ev h1) rfl Try.s45 rfl rfl rfl (by assumption) rfl (Nat.succ_pos _) | exact stb (.own h1 rfl) rfl Try.s45 rfl rfl rfl (by first | exact (.put (.put (.put .done))) | exact (.skip (.put (.put (.put .done)))) | exact (.skip (.skip (.put (.put (.put .done))))) | exact (.skip (.skip (.skip (.put (.put (.put .done)))))) | exact (.skip (.skip (.skip (.skip (.put (.put (.put .done))))))) | exact (.skip (.skip (.skip (.skip (.skip (.put (.put (.put .done)))))))) | exact (.skip (.skip (.skip (.skip (.skip (.skip (.put (.put (.put .done))))))))) | exact (.skip (.skip (.skip (.skip (.skip (.skip (.skip (.put (.put (.put .done)))))))))) | exact (.skip (.skip (.skip (.skip (.skip (.skip (.skip (.skip (.put (.put (.put .done)))))))))))) (Nat.succ_pos _) | exact str (.own h1 rfl) rfl Try.s45 rfl rfl rfl (by assumption) rfl (Nat.succ_pos _))) ?_
      refine sq_op (some 21) 188 rfl rfl rfl (ok_assign rfl rfl) ?_
      refine sq_nil ?_
      refine aw_seq ?_
      refine aw_region 268 hE (by decide) rfl rfl ?_
      refine sq_op (some 145) 196 rfl rfl rfl (ok_move rfl rfl) ?_
      refine sq_op (some 146) 204 rfl rfl rfl (ok_move rfl rfl) ?_
      refine sq_op (some 147) 212 rfl rfl rfl (ok_move rfl rfl) ?_
      refine sq_op (some 148) 220 rfl rfl rfl (ok_call [] [] rfl Try.func62 (by simp [Try.f62]) (by simp [Try.f62]) (cr2) (.cons rfl (by repeat' first | exact .t rfl | exact .rd rfl rfl rfl rfl | exact .nil | exact DLeL.nil | refine DLeL.cons ?_ ?_ | refine .agg' ?_) (.cons rfl (by repeat' first | exact .t rfl | exact .rd rfl rfl rfl rfl | exact .nil | exact DLeL.nil | refine DLeL.cons ?_ ?_ | refine .agg' ?_) (.cons rfl (by repeat' first | exact .t rfl | exact .rd rfl rfl rfl rfl | exact .nil | exact DLeL.nil | refine DLeL.cons ?_ ?_ | refine .agg' ?_) (.nil)))) .nil (DLe.tup' (.cons (DLe.agg' (.cons (.t rfl) (.cons (.t rfl) (.cons (.t rfl) .nil)))) (.cons (.t rfl) .nil))) .nil rfl rfl) ?_
      refine sq_op (some 144) 228 rfl rfl rfl (ok_move rfl rfl) ?_
      refine sq_op (some 149) 236 rfl rfl rfl (ok_extract rfl rfl rfl) ?_
      refine sq_op (some 150) 244 rfl rfl rfl (ok_extract rfl rfl rfl) ?_
      refine sq_op (some 22) 252 rfl rfl rfl (ok_alloc rfl Try.z45 rfl) ?_
      refine sq_op none 260 rfl rfl rfl (withEv (x := .tmp 149) rfl (fun h1 => by first | exact stb (.ev h1) rfl Try.s45 rfl rfl rfl (by first | exact (.put (.put (.put .done))) | exact (.skip (.put (.put (.put .done)))) | exact (.skip (.skip (.put (.put (.put .done))))) | exact (.skip (.skip (.skip (.put (.put (.put .done)))))) | exact (.skip (.skip (.skip (.skip (.put (.put (.put .done))))))) | exact (.skip (.skip (.skip (.skip (.skip (.put (.put (.put .done)))))))) | exact (.skip (.skip (.skip (.skip (.skip (.skip (.put (.put (.put .done))))))))) | exact (.skip (.skip (.skip (.skip (.skip (.skip (.skip (.put (.put (.put .done)))))))))) | exact (.skip (.skip (.skip (.skip (.skip (.skip (.skip (.skip (.put (.put (.put .done)))))))))))) (Nat.succ_pos _) | exact str (.ev h1) rfl Try.s45 rfl rfl rfl (by assumption) rfl (Nat.succ_pos _) | exact stb (.own h1 rfl) rfl Try.s45 rfl rfl rfl (by first | exact (.put (.put (.put .done))) | exact (.skip (.put (.put (.put .done)))) | exact (.skip (.skip (.put (.put (.put .done))))) | exact (.skip (.skip (.skip (.put (.put (.put .done)))))) | exact (.skip (.skip (.skip (.skip (.put (.put (.put .done))))))) | exact (.skip (.skip (.skip (.skip (.skip (.put (.put (.put .done)))))))) | exact (.skip (.skip (.skip (.skip (.skip (.skip (.put (.put (.put .done))))))))) | exact (.skip (.skip (.skip (.skip (.skip (.skip (.skip (.put (.put (.put .done)))))))))) | exact (.skip (.skip (.skip (.skip (.skip (.skip (.skip (.skip (.put (.put (.put .done)))))))))))) (Nat.succ_pos _) | exact str (.own h1 rfl) rfl Try.s45 rfl rfl rfl (by assumption) rfl (Nat.succ_pos _))) ?_
      refine sq_op (some 23) 268 rfl rfl rfl (ok_assign rfl rfl) ?_
      refine sq_nil ?_
      refine aw_seq ?_
      refine aw_region 364 hE (by decide) rfl rfl ?_
      refine sq_op (some 151) 276 rfl rfl rfl (ok_move rfl rfl) ?_
      refine sq_op (some 152) 284 rfl rfl rfl (ok_move rfl rfl) ?_
      refine sq_op (some 153) 292 rfl rfl rfl (okB (ok_eql rfl rfl rfl) (decide_eq_true rfl)) ?_
      refine sq_op (some 154) 300 rfl rfl rfl (ok_move rfl rfl) ?_
      refine sq_on (some 155) 308 rfl rfl rfl rfl rfl (withEv (x := .tmp 20) rfl (fun h1 => by first | exact ldc Try.r45 Try.s45 rfl h1 rfl (by first | exact (.take (.take (.take .done))) | exact (.skip (.take (.take (.take .done)))) | exact (.skip (.skip (.take (.take (.take .done))))) | exact (.skip (.skip (.skip (.take (.take (.take .done)))))) | exact (.skip (.skip (.skip (.skip (.take (.take (.take .done))))))) | exact (.skip (.skip (.skip (.skip (.skip (.take (.take (.take .done)))))))) | exact (.skip (.skip (.skip (.skip (.skip (.skip (.take (.take (.take .done))))))))) | exact (.skip (.skip (.skip (.skip (.skip (.skip (.skip (.take (.take (.take .done)))))))))) | exact (.skip (.skip (.skip (.skip (.skip (.skip (.skip (.skip (.take (.take (.take .done)))))))))))) | exact lpn Try.r45 Try.s45 rfl h1 (by first | assumption | rfl) rfl)) ?_
      refine sq_on (some 156) 316 rfl rfl rfl rfl rfl (withEv (x := .tmp 22) rfl (fun h1 => by first | exact ldc Try.r45 Try.s45 rfl h1 rfl (by first | exact (.take (.take (.take .done))) | exact (.skip (.take (.take (.take .done)))) | exact (.skip (.skip (.take (.take (.take .done))))) | exact (.skip (.skip (.skip (.take (.take (.take .done)))))) | exact (.skip (.skip (.skip (.skip (.take (.take (.take .done))))))) | exact (.skip (.skip (.skip (.skip (.skip (.take (.take (.take .done)))))))) | exact (.skip (.skip (.skip (.skip (.skip (.skip (.take (.take (.take .done))))))))) | exact (.skip (.skip (.skip (.skip (.skip (.skip (.skip (.take (.take (.take .done)))))))))) | exact (.skip (.skip (.skip (.skip (.skip (.skip (.skip (.skip (.take (.take (.take .done)))))))))))) | exact lpn Try.r45 Try.s45 rfl h1 (by first | assumption | rfl) rfl)) ?_
      refine sq_on (some 157) 324 rfl rfl rfl rfl rfl (ok_call [] [] rfl Try.func59 (by simp [Try.f59]) (by simp [Try.f59]) (cs2) (.cons rfl (by repeat' first | exact .t rfl | exact .rd rfl rfl rfl rfl | exact .nil | exact DLeL.nil | refine DLeL.cons ?_ ?_ | refine .agg' ?_) (.cons rfl (by repeat' first | exact .t rfl | exact .rd rfl rfl rfl rfl | exact .nil | exact DLeL.nil | refine DLeL.cons ?_ ?_ | refine .agg' ?_) (.nil))) .nil (by repeat' first | exact .t rfl | exact DLeL.nil | refine DLeL.cons ?_ ?_ | refine .agg' ?_ | refine .tup' ?_) .nil rfl rfl) ?_
      refine sq_op (some 158) 332 rfl rfl rfl (by first | exact ok_pick_t rfl rfl rfl | exact ok_pick_f rfl rfl rfl) ?_
      refine sq_op (some 159) 340 rfl rfl rfl (ok_move rfl rfl) ?_
      refine sq_on (some 160) 348 rfl rfl rfl rfl rfl (ok_call [] [] rfl Try.func22 (by simp [Try.f22]) (by simp [Try.f22]) (lives_does) (.nil) .nil (by repeat' first | exact .t rfl | exact DLeL.nil | refine DLeL.cons ?_ ?_ | refine .agg' ?_ | refine .tup' ?_) .nil rfl rfl) ?_
      refine sq_op (some 161) 356 rfl rfl rfl (by first | exact ok_pick_t rfl rfl rfl | exact ok_pick_f rfl rfl rfl) ?_
      refine sq_op (some 10) 364 rfl rfl rfl (ok_assign rfl rfl) ?_
      refine sq_nil ?_
      refine aw_ret ?_
      exact ret1 [] rfl rfl (.t rfl) .nil rfl
theorem joins_any (v : Value) (l : List Int) (wd at_ how by_ : Int) (w : World) (hl : Ints w v l) (h1 : kOk wd) (h2 : kOk at_) (h3 : kOk how) (h4 : kOk by_) :
    Calls Try.prog 14 #[v, .int .i64 wd, .int .i64 at_, .int .i64 how, .int .i64 by_] w fun e w' => e = .returned (.bool true) ∧ Aft w w' := by
  have hok : okI l ∧ l.length ≤ 17592186043904 := by
    obtain ⟨a, c, rfl, h⟩ := hl
    have := h.size
    exact ⟨h.ok, by omega⟩
  refine calls_of (joins_does l wd at_ how by_ hok.1 hok.2 h1 h2 h3 h4) rfl (fun i u d hu hd => ?_)
  match i with
  | 0 => simp at hu hd; subst hu hd; exact .t (ints_tree hl)
  | 1 => simp at hu hd; subst hu hd; exact .t (.v _ rfl)
  | 2 => simp at hu hd; subst hu hd; exact .t (.v _ rfl)
  | 3 => simp at hu hd; subst hu hd; exact .t (.v _ rfl)
  | 4 => simp at hu hd; subst hu hd; exact .t (.v _ rfl)
  | i + 5 => simp at hu
end Go.Proofs.Ytokdclbfjlnnjaa
