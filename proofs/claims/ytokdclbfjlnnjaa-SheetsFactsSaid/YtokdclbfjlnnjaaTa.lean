/- The law on what is told of the sheets: the walk. -/
import Derived.Test.YtokdclbfjlnnjaaT9
import Derived.Test.YtokdclbfjlnnjaaA3
import Derived.Test.YtokdclbfjlnnjaaA2
import Derived.Test.YtokdclbfjlnnjaaA5
import Derived.Test.YtokdclbfjlnnjaaQ9
namespace Go.Ab
theorem okNum {P : Program} {o : Oper} {σ : St} {fr : Nat} {c d : Int} (h : OpOk P o σ fr (I c) []) (e : c = d) : OpOk P o σ fr (I d) [] := e ▸ h
end Go.Ab
namespace Go.Proofs.Ytokdclbfjlnnjaa
open Go.RowKit Go.Ab

abbrev shD (k : Int) (l : List Pt) : D := .agg [I k, .t (.sl l.length (ptT l))]
theorem two_does {f : FuncId} {ka kb : Int} {la lb : List Pt} {o : Bool} (oka : okP la) (okb : okP lb) (hla : la.length ≤ 1000) (hlb : lb.length ≤ 1000)
    (h : ∀ (va vb : Value) (w : World), Prs w va la → Prs w vb lb → Calls Try.prog f #[.agg #[.int .i64 ka, va], .agg #[.int .i64 kb, vb]] w fun e w' => e = .returned (.bool o) ∧ Aft w w') : Does Try.prog f [shD ka la, shD kb lb] [] (B o) [] :=
  does_calls1 (fun d hd => by simp at hd; rcases hd with rfl | rfl <;> exact sh_pure _ _) .t fun w G vs hv hd => by
    obtain ⟨u, v, rfl⟩ := vs_of2 hv
    obtain ⟨q, rfl, hq⟩ := sh_open (hd 0 u _ rfl rfl)
    obtain ⟨q', rfl, hq'⟩ := sh_open (hd 1 v _ rfl rfl)
    exact (h q q' w (tr_prs hq oka hla) (tr_prs hq' okb hlb)).mono fun e w' h => ⟨_, h.1, h.2, .t (.v _ rfl)⟩
def ScS (s : Sh) : Prop := s.2.length ≤ 1000 ∧ ScL s.2
theorem left_does (a b : Sh) (ha : ScS a) (hb : ScS b) : Does Try.prog 34 [shD a.1 a.2, shD b.1 b.2] [] (B (leftZ a.2 b.2)) [] :=
  two_does (okP_of_sc ha.2) (okP_of_sc hb.2) ha.1 hb.1 fun va vb w h1 h2 => left_any _ _ va vb _ _ w h1 h2
theorem inside_does (a b : Sh) (ha : ScS a) (hb : ScS b) : Does Try.prog 40 [shD a.1 a.2, shD b.1 b.2] [] (B (insideZ a.1 a.2 b.1 b.2)) [] :=
  two_does (okP_of_sc ha.2) (okP_of_sc hb.2) ha.1 hb.1 fun va vb w h1 h2 => inside_any _ _ va vb _ _ w h1 h2 ha.1 hb.1 ha.2 hb.2
theorem longer_does (a b : Sh) (ha : ScS a) (hb : ScS b) : Does Try.prog 43 [shD a.1 a.2, shD b.1 b.2] [] (B (longerZ a.1 a.2 b.1 b.2)) [] :=
  two_does (okP_of_sc ha.2) (okP_of_sc hb.2) ha.1 hb.1 fun va vb w h1 h2 => longer_any _ _ va vb _ _ w h1 h2 ha.1 hb.1 ha.2 hb.2

/-! ### Plain laws -/
theorem lohi_le {l : List Pt} : ∀ r, (loF l r).1 ≤ (hiF l r).1 ∧ (loF l r).2 ≤ (hiF l r).2
  | 0 => ⟨Int.le_refl _, Int.le_refl _⟩
  | r + 1 => by have := lohi_le (l := l) r; simp only [loF, hiF]; omega
theorem box_lohi (l : List Pt) : (boxS l).2 ≠ [] ∧ (loF (boxS l).2 (boxS l).2.length).1 = (loF l l.length).1 ∧ (hiF (boxS l).2 (boxS l).2.length).1 = (hiF l l.length).1 := by
  have h := lohi_le (l := l) l.length
  unfold boxS
  generalize loF l l.length = a at h ⊢
  generalize hiF l l.length = b at h ⊢
  obtain ⟨a1, a2⟩ := a
  obtain ⟨b1, b2⟩ := b
  simp only at h ⊢
  split
  · simp [loF, hiF, ptZ]; omega
  · split
    · simp [loF, hiF, ptZ]; omega
    · simp [loF, hiF, ptZ]; omega
theorem box_left {la lb : List Pt} (ha : la ≠ []) (hb : lb ≠ []) : leftZ (boxS la).2 (boxS lb).2 = leftZ la lb := by
  obtain ⟨n1, l1, h1⟩ := box_lohi la
  obtain ⟨n2, l2, h2⟩ := box_lohi lb
  have e1 := left_spec n1 n2
  have e2 := left_spec ha hb
  simp only [boxZ, if_neg n1, if_neg n2, if_neg ha, if_neg hb] at e1 e2
  rw [h1, l2] at e1
  cases q1 : leftZ (boxS la).2 (boxS lb).2 <;> cases q2 : leftZ la lb
  · rfl
  · rw [q1] at e1; rw [q2] at e2; exact absurd (e1.2 (e2.1 rfl)) (by simp)
  · rw [q1] at e1; rw [q2] at e2; exact absurd (e2.2 (e1.1 rfl)) (by simp)
  · rfl
theorem mvL_tr {x : Int} {l : List Pt} (h : ∀ p ∈ l, 0 ≤ p.1 ∧ p.1 ≤ 60 ∧ 0 ≤ p.2 ∧ p.2 ≤ 60) (hx : 0 ≤ x ∧ x ≤ 1000) : mvL (-x) l = l.map (trP (-x) 0) := by
  unfold mvL
  refine List.map_congr_left fun p hp => ?_
  have := h p hp
  unfold trW trP
  rw [wrap_in (by omega), Int.add_zero]
theorem cut_ok {W H wd : Int} {L : List Sh} (h : (cutM W H L wd).2.2 = 0) :
    fitsE (spL L) wd = 0 ∧ cutM W H L wd = (shtsM H L (rSplit (spL L) wd).1 wd (rSplit (spL L) wd).1.length, (W, H, allL L), 0) := by
  have hv : validZ W H L = 0 := by
    unfold cutM at h
    split at h
    · exact h
    · rename_i hh; exact Classical.not_not.1 hh
  have hs : fitsE (spL L) wd = 0 := by
    rw [← cSplit_code]
    unfold cutM at h
    rw [if_neg (by simp [hv])] at h
    split at h
    · exact h
    · rename_i hh; exact Classical.not_not.1 hh
  refine ⟨hs, ?_⟩
  unfold cutM
  rw [if_neg (by simp [hv]), if_neg (by rw [cSplit_code, hs]; simp)]
/-- What a shape on a sheet is: one of the figure, moved. -/
theorem sheet_at {H : Int} {L : List Sh} {at_ : List Int} {wd : Int} {n i : Nat} (hi : i < (shtS H L at_ wd n L.length).of_.length) :
    ∃ p : Nat, p < L.length ∧ (shtS H L at_ wd n L.length).of_[i]? = some (p : Int) ∧ ∃ s : Sh, L[p]? = some s ∧ (shtS H L at_ wd n L.length).sh[i]? = some (mvS (at_.getD n 0) s) := by
  have hi' : i < (ofS L at_ wd n L.length).length := by simpa [shtS] using hi
  have hp : (ofS L at_ wd n L.length)[i] < L.length := List.mem_range.1 (List.mem_filter.1 (List.getElem_mem hi')).1
  refine ⟨(ofS L at_ wd n L.length)[i], hp, by simp [shtS, hi'], L[(ofS L at_ wd n L.length)[i]], List.getElem?_eq_getElem hp, ?_⟩
  simp only [shtS, List.getElem?_map, List.getElem?_eq_getElem hi', Option.map_some, List.getD_eq_getElem?_getD, List.getElem?_eq_getElem hp, Option.getD_some]
/-- What is told of two shapes that are moved alike. -/
theorem told_mv {x : Int} {a b : Sh} (ha : Gen a.1 a.2) (hb : Gen b.1 b.2) (hx : 0 ≤ x ∧ x ≤ 1000) : (ScS (mvS x a) ∧ (mvS x a).2 ≠ []) ∧
    insideZ (mvS x a).1 (mvS x a).2 (mvS x b).1 (mvS x b).2 = insideZ a.1 a.2 b.1 b.2 ∧ leftZ (mvS x a).2 (mvS x b).2 = leftZ a.2 b.2 ∧ longerZ (mvS x a).1 (mvS x a).2 (mvS x b).1 (mvS x b).2 = longerZ a.1 a.2 b.1 b.2 := by
  obtain ⟨a1, a2, a3⟩ := gen_pts ha
  obtain ⟨b1, b2, b3⟩ := gen_pts hb
  have na : a.2 ≠ [] := fun e => by rw [e] at a2; simp at a2
  have nb : b.2 ≠ [] := fun e => by rw [e] at b2; simp at b2
  unfold mvS
  simp only
  rw [mvL_tr a1 hx, mvL_tr b1 hx]
  refine ⟨⟨⟨by simp; omega, fun p hp => ?_⟩, by simpa using na⟩, inside_tr na nb, left_tr, longer_tr na nb⟩
  obtain ⟨q, hq, rfl⟩ := List.mem_map.1 hp
  have := a1 q hq
  unfold Sc trP
  simp only
  omega
theorem Try.sl49 : Try.prog.underlying 49 = some (.slice 57) := by kernel_rfl
theorem Try.u4 : Try.prog.underlying 4 = some .bool := by kernel_rfl
set_option maxRecDepth 100000 in
set_option maxHeartbeats 8000000 in
theorem facts_does (l : List Int) (wd : Int) (ok : okI l) (hl : l.length ≤ 17592186043904) (hwd : -9223372036854775808 ≤ wd ∧ wd ≤ 9223372036854775807) : Does Try.prog 15 [.t (.sl l.length (intsT l)), I wd] [] (B true) [] := by
  refine spec_of Try.func15 rfl (by simp [Try.f15]) fun E hE => ?_
  refine aw_seq ?_
  refine aw_region 108 hE (by decide) rfl rfl ?_
  refine sq_op (some 4) 108 rfl rfl rfl (ok_assign rfl rfl) ?_
  refine sq_nil ?_
  refine aw_seq ?_
  refine aw_region 140 hE (by decide) rfl rfl ?_
  refine sq_op (some 19) 116 rfl rfl rfl (ok_move rfl rfl) ?_
  refine sq_any (some 20) 124 rfl rfl rfl (ok_callN [] [] rfl Try.func27 (by simp [Try.f27]) (by simp [Try.f27]) (figure_does l ok hl) (.cons rfl (.t rfl) .nil) .nil (fun L _ => DLe.agg' (.cons (.t rfl) (.cons (.t rfl) (.cons (.t rfl) .nil)))) (fun _ _ => .nil) (fun _ _ => rfl) rfl) (fun L hL => ?_)
  refine sq_op (some 5) 132 rfl rfl rfl (ok_alloc rfl Try.z45 rfl) ?_
  refine sq_op none 140 rfl rfl rfl (withEv (x := .tmp 20) rfl (fun h1 => by first | exact stb (.ev h1) rfl Try.s45 rfl rfl rfl (by first | exact (.put (.put (.put .done))) | exact (.skip (.put (.put (.put .done)))) | exact (.skip (.skip (.put (.put (.put .done))))) | exact (.skip (.skip (.skip (.put (.put (.put .done)))))) | exact (.skip (.skip (.skip (.skip (.put (.put (.put .done))))))) | exact (.skip (.skip (.skip (.skip (.skip (.put (.put (.put .done)))))))) | exact (.skip (.skip (.skip (.skip (.skip (.skip (.put (.put (.put .done))))))))) | exact (.skip (.skip (.skip (.skip (.skip (.skip (.skip (.put (.put (.put .done)))))))))) | exact (.skip (.skip (.skip (.skip (.skip (.skip (.skip (.skip (.put (.put (.put .done)))))))))))) (Nat.succ_pos _) | exact str (.ev h1) rfl Try.s45 rfl rfl rfl (by assumption) rfl (Nat.succ_pos _) | exact stb (.own h1 rfl) rfl Try.s45 rfl rfl rfl (by first | exact (.put (.put (.put .done))) | exact (.skip (.put (.put (.put .done)))) | exact (.skip (.skip (.put (.put (.put .done))))) | exact (.skip (.skip (.skip (.put (.put (.put .done)))))) | exact (.skip (.skip (.skip (.skip (.put (.put (.put .done))))))) | exact (.skip (.skip (.skip (.skip (.skip (.put (.put (.put .done)))))))) | exact (.skip (.skip (.skip (.skip (.skip (.skip (.put (.put (.put .done))))))))) | exact (.skip (.skip (.skip (.skip (.skip (.skip (.skip (.put (.put (.put .done)))))))))) | exact (.skip (.skip (.skip (.skip (.skip (.skip (.skip (.skip (.put (.put (.put .done)))))))))))) (Nat.succ_pos _) | exact str (.own h1 rfl) rfl Try.s45 rfl rfl rfl (by assumption) rfl (Nat.succ_pos _))) ?_
  refine sq_nil ?_
  refine aw_seq ?_
  obtain ⟨hgen, hL5, hval⟩ := hL
  have hgood := genC hgen
  have d60 := around_does wd 60 hwd
  have r60 := around_rng wd 60 (by decide)
  obtain ⟨z, hz⟩ : ∃ z, cutM 62 62 L (20 + aroundI wd 60) = z := ⟨_, rfl⟩
  have ca := cut_does 62 62 (20 + aroundI wd 60) L hgood.1 hgood.2 (by omega)
  have hsm := cut_sm (W := 62) (H := 62) (wd := 20 + aroundI wd 60) hgood.1 hL5
  have hco := fun h => cut_ok (W := 62) (H := 62) (wd := 20 + aroundI wd 60) (L := L) h
  rw [hz] at ca hsm hco
  obtain ⟨b, ⟨aw, ah, al⟩, e⟩ := z
  simp only at hsm hco
  clear hz
  refine aw_any [[], [], [1], [1, 2], [0, 1, 2, 3], [0, 1, 2, 3, 4], [0, 1, 2, 3, 4, 5], [0, 1, 2, 3, 4, 5], [0, 1, 2, 3, 4, 5], [], [0, 1, 2, 3, 4, 5, 6, 9], [0, 1, 2, 3, 4, 5, 6, 7, 9, 10], [0, 1, 2, 3, 4, 5, 6, 7, 8, 9, 10, 11]] [[], [], [], [], [], [], [], [], [], [], [], [212], []] Try.mix hE (by decide) (by kernel_rfl) 244 rfl (fun hr0 => ?_)
  refine an_op hr0 rfl 140 1 rfl rfl (withEv (x := .tmp 5) (ev_E (by kernel_rfl) rfl) (fun h1 => by first | exact ldc Try.r45 Try.s45 rfl h1 (by first | exact ctx_HE hr0.ok (by kernel_rfl) rfl) (by first | exact (.take (.take (.take .done))) | exact (.skip (.take (.take (.take .done)))) | exact (.skip (.skip (.take (.take (.take .done))))) | exact (.skip (.skip (.skip (.take (.take (.take .done)))))) | exact (.skip (.skip (.skip (.skip (.take (.take (.take .done))))))) | exact (.skip (.skip (.skip (.skip (.skip (.take (.take (.take .done)))))))) | exact (.skip (.skip (.skip (.skip (.skip (.skip (.take (.take (.take .done))))))))) | exact (.skip (.skip (.skip (.skip (.skip (.skip (.skip (.take (.take (.take .done)))))))))) | exact (.skip (.skip (.skip (.skip (.skip (.skip (.skip (.skip (.take (.take (.take .done)))))))))))) | exact lpn Try.r45 Try.s45 rfl h1 (by first | assumption | rfl) rfl)) rfl (fun hr1 => ?_)
  clear hr0
  refine an_op hr1 rfl 148 2 rfl rfl (ok_move rfl (ev_E (by kernel_rfl) rfl)) rfl (fun hr2 => ?_)
  clear hr1
  refine an_op hr2 rfl 156 3 rfl rfl (ok_call [] [] rfl Try.func18 (by simp [Try.f18]) (by simp [Try.f18]) (d60) (.cons (ev_T hr2 1 0 rfl (by kernel_rfl) rfl) (by repeat' first | exact .t rfl | exact .rd rfl rfl rfl rfl | exact .nil | exact DLeL.nil | refine DLeL.cons ?_ ?_ | refine .agg' ?_) (.cons rfl (by repeat' first | exact .t rfl | exact .rd rfl rfl rfl rfl | exact .nil | exact DLeL.nil | refine DLeL.cons ?_ ?_ | refine .agg' ?_) (.nil))) .nil (by repeat' first | exact .t rfl | exact DLeL.nil | refine DLeL.cons ?_ ?_ | refine .agg' ?_ | refine .tup' ?_) .nil rfl rfl) rfl (fun hr3 => ?_)
  clear hr2
  refine an_op hr3 rfl 164 4 rfl rfl (ok_add rfl rfl (ev_T hr3 2 0 rfl (by kernel_rfl) rfl) (by omega)) rfl (fun hr4 => ?_)
  clear hr3
  refine an_op hr4 rfl 172 5 rfl rfl (ok_call [] [] rfl Try.func55 (by simp [Try.f55]) (by simp [Try.f55]) (ca) (.cons (ev_T hr4 0 3 rfl (by kernel_rfl) rfl) (by repeat' first | exact .t rfl | exact .rd rfl rfl rfl rfl | exact .nil | exact DLeL.nil | refine DLeL.cons ?_ ?_ | refine .agg' ?_) (.cons (ev_T hr4 3 0 rfl (by kernel_rfl) rfl) (by repeat' first | exact .t rfl | exact .rd rfl rfl rfl rfl | exact .nil | exact DLeL.nil | refine DLeL.cons ?_ ?_ | refine .agg' ?_) (.nil))) .nil (DLe.tup' (.cons (.t rfl) (.cons (DLe.agg' (.cons (.t rfl) (.cons (.t rfl) (.cons (.t rfl) .nil)))) (.cons (.t rfl) .nil)))) .nil rfl rfl) rfl (fun hr5 => ?_)
  clear hr4
  refine an_op hr5 rfl 180 6 rfl rfl (ok_move rfl (ev_T hr5 4 0 rfl (by kernel_rfl) rfl)) rfl (fun hr6 => ?_)
  clear hr5
  refine an_op hr6 rfl 188 7 rfl rfl (ok_extract rfl (ev_T hr6 5 0 rfl (by kernel_rfl) rfl) rfl) rfl (fun hr7 => ?_)
  clear hr6
  refine an_op hr7 rfl 196 8 rfl rfl (ok_extract rfl (ev_T hr7 5 1 rfl (by kernel_rfl) rfl) rfl) rfl (fun hr8 => ?_)
  clear hr7
  refine an_op hr8 rfl 204 9 rfl rfl (ok_extract rfl (ev_T hr8 5 2 rfl (by kernel_rfl) rfl) rfl) rfl (fun hr9 => ?_)
  clear hr8
  refine an_op hr9 rfl 212 10 rfl rfl (ok_alloc rfl Try.z45 rfl) rfl (fun hr10 => ?_)
  clear hr9
  refine an_op hr10 rfl 220 11 rfl rfl (ok_assign rfl (ev_T hr10 6 3 rfl (by kernel_rfl) rfl)) rfl (fun hr11 => ?_)
  clear hr10
  refine an_op hr11 rfl 228 12 rfl rfl (withEv (x := .tmp 28) (ev_T hr11 7 3 rfl (by kernel_rfl) rfl) (fun h1 => by first | exact stb (.ev h1) rfl Try.s45 (ev_T hr11 9 1 rfl (by kernel_rfl) rfl) rfl (by first | exact ctx_HE hr11.ok (by kernel_rfl) rfl | exact ev_H hr11 9 1 rfl (by kernel_rfl) rfl rfl | exact ev_H hr11 4 6 rfl (by kernel_rfl) rfl rfl | exact ev_H hr11 2 8 rfl (by kernel_rfl) rfl rfl) (by first | exact (.put (.put (.put .done))) | exact (.skip (.put (.put (.put .done)))) | exact (.skip (.skip (.put (.put (.put .done))))) | exact (.skip (.skip (.skip (.put (.put (.put .done)))))) | exact (.skip (.skip (.skip (.skip (.put (.put (.put .done))))))) | exact (.skip (.skip (.skip (.skip (.skip (.put (.put (.put .done)))))))) | exact (.skip (.skip (.skip (.skip (.skip (.skip (.put (.put (.put .done))))))))) | exact (.skip (.skip (.skip (.skip (.skip (.skip (.skip (.put (.put (.put .done)))))))))) | exact (.skip (.skip (.skip (.skip (.skip (.skip (.skip (.skip (.put (.put (.put .done)))))))))))) (Nat.succ_pos _) | exact str (.ev h1) rfl Try.s45 (ev_T hr11 9 1 rfl (by kernel_rfl) rfl) rfl (by first | exact ctx_HE hr11.ok (by kernel_rfl) rfl | exact ev_H hr11 9 1 rfl (by kernel_rfl) rfl rfl | exact ev_H hr11 4 6 rfl (by kernel_rfl) rfl rfl | exact ev_H hr11 2 8 rfl (by kernel_rfl) rfl rfl) (by assumption) rfl (Nat.succ_pos _) | exact stb (.own h1 (by first | exact ctx_HE hr11.ok (by kernel_rfl) rfl | exact ev_H hr11 9 1 rfl (by kernel_rfl) rfl rfl | exact ev_H hr11 4 6 rfl (by kernel_rfl) rfl rfl | exact ev_H hr11 2 8 rfl (by kernel_rfl) rfl rfl)) rfl Try.s45 (ev_T hr11 9 1 rfl (by kernel_rfl) rfl) rfl (by first | exact ctx_HE hr11.ok (by kernel_rfl) rfl | exact ev_H hr11 9 1 rfl (by kernel_rfl) rfl rfl | exact ev_H hr11 4 6 rfl (by kernel_rfl) rfl rfl | exact ev_H hr11 2 8 rfl (by kernel_rfl) rfl rfl) (by first | exact (.put (.put (.put .done))) | exact (.skip (.put (.put (.put .done)))) | exact (.skip (.skip (.put (.put (.put .done))))) | exact (.skip (.skip (.skip (.put (.put (.put .done)))))) | exact (.skip (.skip (.skip (.skip (.put (.put (.put .done))))))) | exact (.skip (.skip (.skip (.skip (.skip (.put (.put (.put .done)))))))) | exact (.skip (.skip (.skip (.skip (.skip (.skip (.put (.put (.put .done))))))))) | exact (.skip (.skip (.skip (.skip (.skip (.skip (.skip (.put (.put (.put .done)))))))))) | exact (.skip (.skip (.skip (.skip (.skip (.skip (.skip (.skip (.put (.put (.put .done)))))))))))) (Nat.succ_pos _) | exact str (.own h1 (by first | exact ctx_HE hr11.ok (by kernel_rfl) rfl | exact ev_H hr11 9 1 rfl (by kernel_rfl) rfl rfl | exact ev_H hr11 4 6 rfl (by kernel_rfl) rfl rfl | exact ev_H hr11 2 8 rfl (by kernel_rfl) rfl rfl)) rfl Try.s45 (ev_T hr11 9 1 rfl (by kernel_rfl) rfl) rfl (by first | exact ctx_HE hr11.ok (by kernel_rfl) rfl | exact ev_H hr11 9 1 rfl (by kernel_rfl) rfl rfl | exact ev_H hr11 4 6 rfl (by kernel_rfl) rfl rfl | exact ev_H hr11 2 8 rfl (by kernel_rfl) rfl rfl) (by assumption) rfl (Nat.succ_pos _))) rfl (fun hr12 => ?_)
  clear hr11
  refine an_op hr12 rfl 236 13 rfl rfl (ok_assign rfl (ev_T hr12 8 3 rfl (by kernel_rfl) rfl)) rfl (fun hr13 => ?_)
  clear hr12
  refine an_nil [some 22, some 23, some 24, some 25, some 26, some 21, some 27, some 28, some 29, some 7, some 6, none, some 8] hr13 rfl (by kernel_rfl) ?_
  clear hr13
  refine aw_seq ?_
  refine aw_seq ?_
  refine aw_region 260 hE (by decide) rfl rfl ?_
  refine sq_op (some 30) 252 rfl rfl rfl (ok_move rfl rfl) ?_
  refine sq_op (some 31) 260 rfl rfl rfl (ok_neq rfl rfl rfl) ?_
  refine sq_nil ?_
  refine aw_cond rfl (fun hb0 => ?_) (fun hb0 => ?_)
  · simp at hb0
    refine aw_seq ?_
    refine aw_region 276 hE (by decide) rfl rfl ?_
    refine sq_op (some 32) 268 rfl rfl rfl (ok_call [] [] rfl Try.func22 (by simp [Try.f22]) (by simp [Try.f22]) (lives_does) (.nil) .nil (by repeat' first | exact .t rfl | exact DLeL.nil | refine DLeL.cons ?_ ?_ | refine .agg' ?_ | refine .tup' ?_) .nil rfl rfl) ?_
    refine sq_op (some 4) 276 rfl rfl rfl (ok_assign rfl rfl) ?_
    refine sq_nil ?_
    refine aw_ret ?_
    exact ret1 [] rfl rfl (.t rfl) .nil rfl
  · simp at hb0
    obtain ⟨hfit, hcut⟩ := hco hb0
    simp only [Prod.mk.injEq] at hcut
    obtain ⟨hb_, ⟨rfl, rfl, rfl⟩, _⟩ := hcut
    obtain ⟨at_, hat_⟩ : ∃ at_, (rSplit (spL L) (20 + aroundI wd 60)).1 = at_ := ⟨_, rfl⟩
    have hat2 : ∀ (k : Nat) (x : Int), at_[k]? = some x → 0 ≤ x ∧ x ≤ 1000 := fun k x h => split_at hfit (by rw [hat_]; exact h)
    have hRt := (split_right hfit).2
    have hasc : ∀ n, n < at_.length → 0 < n → at_.getD (n - 1) 0 < at_.getD n 0 := fun n hn h0 => by
      have h := hRt.2.2.1 n (by rw [← hRt.1, hat_]; exact hn)
      unfold pinOk at h
      simp only [Bool.and_eq_true, Bool.or_eq_true, decide_eq_true_eq, hat_] at h
      omega
    rw [hat_] at hb_
    have hbl : b.length = at_.length := by rw [hb_, shtsM_len]
    have hbg : ∀ n, n < at_.length → b[n]? = some (shtS 62 L at_ (20 + aroundI wd 60) n L.length) := fun n hn => by rw [hb_]; simp [shtsM, hn]
    have hal := allL_length L
    clear ca hco hRt
    refine aw_skip ?_
    refine aw_seq ?_
    refine aw_seq ?_
    refine aw_region 316 hE (by decide) rfl rfl ?_
    refine sq_op (some 33) 268 rfl rfl rfl (withEv (x := .tmp 7) rfl (fun h1 => by first | exact ok_fieldr rfl Try.o45_2 h1 | exact ok_fieldp rfl Try.o45_2 h1)) ?_
    refine sq_op (some 34) 276 rfl rfl rfl (withEv (x := .tmp 33) rfl (fun h1 => by first | exact ld1 Try.r43 rfl h1 rfl (by first | assumption | rfl) | exact lp1 Try.r43 rfl h1 (by first | assumption | rfl))) ?_
    refine sq_op (some 35) 284 rfl rfl rfl (withEv (x := .tmp 34) rfl (fun h1 => by first | exact ok_len Try.sl43 rfl rfl (.t h1) | exact ok_len Try.sl43 rfl rfl (.own h1 rfl) | exact ok_len Try.sl43 rfl rfl (.nil h1))) ?_
    refine sq_op (some 36) 292 rfl rfl rfl (withEv (x := .tmp 5) rfl (fun h1 => by first | exact ok_fieldr rfl Try.o45_2 h1 | exact ok_fieldp rfl Try.o45_2 h1)) ?_
    refine sq_op (some 37) 300 rfl rfl rfl (withEv (x := .tmp 36) rfl (fun h1 => by first | exact ld1 Try.r43 rfl h1 rfl (by first | assumption | rfl) | exact lp1 Try.r43 rfl h1 (by first | assumption | rfl))) ?_
    refine sq_op (some 38) 308 rfl rfl rfl (withEv (x := .tmp 37) rfl (fun h1 => by first | exact ok_len Try.sl43 rfl rfl (.t h1) | exact ok_len Try.sl43 rfl rfl (.own h1 rfl) | exact ok_len Try.sl43 rfl rfl (.nil h1))) ?_
    refine sq_op (some 39) 316 rfl rfl rfl (okB (ok_neq rfl rfl rfl) (decide_eq_false (show ¬ ((((allL L).length : Nat) : Int) ≠ ((L.length : Nat) : Int)) by omega))) ?_
    refine sq_nil ?_
    refine aw_cond rfl (fun hb1 => ?_) (fun hb1 => ?_)
    · exact absurd hb1 (by decide)
    · skip
      refine aw_skip ?_
      refine aw_seq ?_
      refine aw_seq ?_
      refine aw_region 324 hE (by decide) rfl rfl ?_
      refine sq_op (some 9) 324 rfl rfl rfl (ok_assign rfl rfl) ?_
      refine sq_nil ?_
      refine aw_block ?_
      refine aw_loop (ι := Nat) (fun i => lit [(5, .ref 0 0), (6, .t (.sl b.length (shtT b))), (7, .ref 1 0), (9, I i)] [(0, .box 45 [I 62, I 62, .t (.sl L.length (shT L))]), (1, .box 45 [I 62, I 62, .t (.sl (allL L).length (shT (allL L)))])] 100) (fun i => i ≤ L.length) (fun i => L.length - i) 0 (ent_of [(0, 124), (1, 212)] 100 (.cons rfl (.ref rfl rfl) (.cons rfl (.t rfl) (.cons rfl (.ref rfl rfl) (.cons rfl (.t rfl) .nil)))) (.cons rfl (.box' (.cons (.t rfl) (.cons (.t rfl) (.cons (.t rfl) .nil)))) (.cons rfl (.box' (.cons (.t rfl) (.cons (.t rfl) (.cons (.t rfl) .nil)))) .nil)) rfl) (by omega) (fun i hC0 => ?_)
      skip
      refine aw_seq ?_
      refine aw_seq ?_
      refine aw_region 140 hE (by decide) rfl rfl ?_
      refine sq_op (some 40) 108 rfl rfl rfl (ok_move rfl rfl) ?_
      refine sq_op (some 41) 116 rfl rfl rfl (withEv (x := .tmp 5) rfl (fun h1 => by first | exact ok_fieldr rfl Try.o45_2 h1 | exact ok_fieldp rfl Try.o45_2 h1)) ?_
      refine sq_op (some 42) 124 rfl rfl rfl (withEv (x := .tmp 41) rfl (fun h1 => by first | exact ld1 Try.r43 rfl h1 rfl (by first | assumption | rfl) | exact lp1 Try.r43 rfl h1 (by first | assumption | rfl))) ?_
      refine sq_op (some 43) 132 rfl rfl rfl (withEv (x := .tmp 42) rfl (fun h1 => by first | exact ok_len Try.sl43 rfl rfl (.t h1) | exact ok_len Try.sl43 rfl rfl (.own h1 rfl) | exact ok_len Try.sl43 rfl rfl (.nil h1))) ?_
      refine sq_op (some 44) 140 rfl rfl rfl (ok_lss rfl rfl rfl) ?_
      refine sq_nil ?_
      refine aw_cond rfl (fun hb2 => ?_) (fun hb2 => ?_)
      · simp at hb2
        have hi : i < L.length := by omega
        refine aw_skip ?_
        refine aw_seq ?_
        refine aw_block ?_
        refine aw_seq ?_
        refine aw_region 148 hE (by decide) rfl rfl ?_
        refine sq_op (some 10) 148 rfl rfl rfl (ok_assign rfl rfl) ?_
        refine sq_nil ?_
        refine aw_block ?_
        refine aw_loop (ι := Nat) (fun k => lit [(5, .ref 0 0), (6, .t (.sl b.length (shtT b))), (7, .ref 1 0), (9, I i), (10, I k)] [(0, .box 45 [I 62, I 62, .t (.sl L.length (shT L))]), (1, .box 45 [I 62, I 62, .t (.sl (allL L).length (shT (allL L)))])] 100) (fun k => k ≤ L.length) (fun k => L.length - k) 0 (ent_of [] 100 (.cons rfl (.ref rfl rfl) (.cons rfl (.t rfl) (.cons rfl (.ref rfl rfl) (.cons rfl (.t rfl) (.cons rfl (.t rfl) .nil))))) (.cons rfl (.box' (.cons (.t rfl) (.cons (.t rfl) (.cons (.t rfl) .nil)))) (.cons rfl (.box' (.cons (.t rfl) (.cons (.t rfl) (.cons (.t rfl) .nil)))) .nil)) rfl) (by omega) (fun k hC1 => ?_)
        skip
        refine aw_seq ?_
        refine aw_seq ?_
        refine aw_region 140 hE (by decide) rfl rfl ?_
        refine sq_op (some 47) 108 rfl rfl rfl (ok_move rfl rfl) ?_
        refine sq_op (some 48) 116 rfl rfl rfl (withEv (x := .tmp 5) rfl (fun h1 => by first | exact ok_fieldr rfl Try.o45_2 h1 | exact ok_fieldp rfl Try.o45_2 h1)) ?_
        refine sq_op (some 49) 124 rfl rfl rfl (withEv (x := .tmp 48) rfl (fun h1 => by first | exact ld1 Try.r43 rfl h1 rfl (by first | assumption | rfl) | exact lp1 Try.r43 rfl h1 (by first | assumption | rfl))) ?_
        refine sq_op (some 50) 132 rfl rfl rfl (withEv (x := .tmp 49) rfl (fun h1 => by first | exact ok_len Try.sl43 rfl rfl (.t h1) | exact ok_len Try.sl43 rfl rfl (.own h1 rfl) | exact ok_len Try.sl43 rfl rfl (.nil h1))) ?_
        refine sq_op (some 51) 140 rfl rfl rfl (ok_lss rfl rfl rfl) ?_
        refine sq_nil ?_
        refine aw_cond rfl (fun hb3 => ?_) (fun hb3 => ?_)
        · simp at hb3
          have hk : k < L.length := by omega
          obtain ⟨⟨ka, pa⟩, ha⟩ : ∃ s, L[i]? = some s := ⟨_, List.getElem?_eq_getElem (by omega)⟩
          have ga := hgen _ (List.mem_iff_getElem?.2 ⟨i, ha⟩)
          have na : pa ≠ [] := fun e => by have := (gen_pts ga).2.1; simp only at this; rw [e] at this; simp at this
          have sa : ScS (ka, pa) := gen_sc ga
          have fa : ((shT L).drop (i * 2)).take 2 = [ti ka, .sl pa.length (ptT pa)] := flat_part (f := fun s : Sh => [ti s.1, .sl s.2.length (ptT s.2)]) (fun _ => rfl) ha
          have hxa : (allL L)[i]? = some (boxS pa) := by unfold allL; rw [List.getElem?_map, ha]; rfl
          have fxa : ((shT (allL L)).drop (i * 2)).take 2 = [ti (boxS pa).1, .sl (boxS pa).2.length (ptT (boxS pa).2)] := flat_part (f := fun s : Sh => [ti s.1, .sl s.2.length (ptT s.2)]) (fun _ => rfl) hxa
          have fya : (shT (allL L))[i * 2 + 1]? = some (.sl (boxS pa).2.length (ptT (boxS pa).2)) := flat_get (f := fun s : Sh => [ti s.1, .sl s.2.length (ptT s.2)]) (fun _ => rfl) hxa 1 (by decide)
          have ma : (boxS pa).2.length ≠ 0 := fun e => (box_lohi pa).1 (List.eq_nil_of_length_eq_zero e)
          have sxa : ScS (boxS pa) := ⟨by have : (boxS pa).2.length ≤ 4 := (box_sc sa.2).2; omega, (box_sc sa.2).1⟩
          obtain ⟨⟨kc, pc⟩, hc⟩ : ∃ s, L[k]? = some s := ⟨_, List.getElem?_eq_getElem (by omega)⟩
          have gc := hgen _ (List.mem_iff_getElem?.2 ⟨k, hc⟩)
          have nc : pc ≠ [] := fun e => by have := (gen_pts gc).2.1; simp only at this; rw [e] at this; simp at this
          have sc : ScS (kc, pc) := gen_sc gc
          have fc : ((shT L).drop (k * 2)).take 2 = [ti kc, .sl pc.length (ptT pc)] := flat_part (f := fun s : Sh => [ti s.1, .sl s.2.length (ptT s.2)]) (fun _ => rfl) hc
          have hxc : (allL L)[k]? = some (boxS pc) := by unfold allL; rw [List.getElem?_map, hc]; rfl
          have fxc : ((shT (allL L)).drop (k * 2)).take 2 = [ti (boxS pc).1, .sl (boxS pc).2.length (ptT (boxS pc).2)] := flat_part (f := fun s : Sh => [ti s.1, .sl s.2.length (ptT s.2)]) (fun _ => rfl) hxc
          have fyc : (shT (allL L))[k * 2 + 1]? = some (.sl (boxS pc).2.length (ptT (boxS pc).2)) := flat_get (f := fun s : Sh => [ti s.1, .sl s.2.length (ptT s.2)]) (fun _ => rfl) hxc 1 (by decide)
          have mc : (boxS pc).2.length ≠ 0 := fun e => (box_lohi pc).1 (List.eq_nil_of_length_eq_zero e)
          have sxc : ScS (boxS pc) := ⟨by have : (boxS pc).2.length ≤ 4 := (box_sc sc.2).2; omega, (box_sc sc.2).1⟩
          have c1 := left_does (ka, pa) (kc, pc) sa sc
          have c2 := left_does (boxS pa) (boxS pc) sxa sxc
          have hbx := box_left na nc
          refine aw_skip ?_
          refine aw_seq ?_
          refine aw_block ?_
          refine aw_seq ?_
          refine aw_any [[], [0], [], [0, 1, 2], [0, 1, 2, 3], [0, 1, 2, 3, 4], [0, 1, 2, 3, 4, 5], [0, 1, 2, 3, 4, 5, 6], [0, 1, 2, 3, 4, 5, 6, 7], [0, 1, 2, 3, 4, 5, 6, 7, 8], [0, 1, 2, 3, 4, 5, 6, 7, 8, 9], [0, 1, 2, 3, 4, 5, 6, 7, 8], [0, 1, 2, 3, 4, 5, 6, 7, 8, 9, 10, 11], [0, 1, 2, 3, 4, 5, 6, 7, 8, 9, 10, 11, 12], [0, 1, 2, 3, 4, 5, 6, 7, 8, 9, 10, 11, 12, 13], [0, 1, 2, 3, 4, 5, 6, 7, 8, 9, 10, 11, 12, 13, 14], [0, 1, 2, 3, 4, 5, 6, 7, 8, 9, 10, 11, 12, 13, 14, 15], [0, 1, 2, 3, 4, 5, 6, 7, 8, 9, 10, 11, 12, 13, 14, 15, 16], [0, 1, 2, 3, 4, 5, 6, 7, 8, 9, 10, 11, 12, 13, 14, 15, 16, 17], [0, 1, 2, 3, 4, 5, 6, 7, 8, 9, 10, 11, 12, 13, 14, 15, 16, 17, 18], [0, 1, 2, 3, 4, 5, 6, 7, 8, 9, 10, 11, 12, 13, 14, 15, 16, 17, 18, 19], [0, 1, 2, 3, 4, 5, 6, 7, 8, 9, 10, 11, 12, 13, 14, 15, 16, 17, 18], [0, 1, 2, 3, 4, 5, 6, 7, 8, 9, 10, 11, 12, 13, 14, 15, 16, 17, 18, 19, 20, 21], [0, 1, 2, 3, 4, 5, 6, 7, 8, 9, 10, 11, 12, 13, 14, 15, 16, 17, 18, 19, 20, 21, 22], [0, 1, 2, 3, 4, 5, 6, 7, 8, 9, 10, 11, 12, 13, 14, 15, 16, 17, 18], [0, 1, 2, 3, 4, 5, 6, 7, 8, 9, 10, 11, 12, 13, 14, 15, 16, 17, 18, 24], [0, 1, 2, 3, 4, 5, 6, 7, 8, 9, 10, 11, 12, 13, 14, 15, 16, 17, 18], [0, 1, 2, 3, 4, 5, 6, 7, 8, 9, 10, 11, 12, 13, 14, 15, 16, 17, 18, 24, 25, 26], [0, 1, 2, 3, 4, 5, 6, 7, 8, 9, 10, 11, 12, 13, 14, 15, 16, 17, 18, 24, 25, 26, 27], [0, 1, 2, 3, 4, 5, 6, 7, 8, 9, 10, 11, 12, 13, 14, 15, 16, 17, 18, 19, 20, 21, 22, 23, 24, 25, 26, 27, 28], [0, 1, 2, 3, 4, 5, 6, 7, 8, 9, 10, 11, 12, 13, 14, 15, 16, 17, 18], [0, 1, 2, 3, 4, 5, 6, 7, 8, 9, 10, 11, 12, 13, 14, 15, 16, 17, 18, 30], [0, 1, 2, 3, 4, 5, 6, 7, 8, 9, 10, 11, 12, 13, 14, 15, 16, 17, 18], [0, 1, 2, 3, 4, 5, 6, 7, 8, 9, 10, 11, 12, 13, 14, 15, 16, 17, 18, 30, 31, 32], [0, 1, 2, 3, 4, 5, 6, 7, 8, 9, 10, 11, 12, 13, 14, 15, 16, 17, 18, 30, 31, 32, 33], [0, 1, 2, 3, 4, 5, 6, 7, 8, 9, 10, 11, 12, 13, 14, 15, 16, 17, 18], [0, 1, 2, 3, 4, 5, 6, 7, 8, 9, 10, 11, 12, 13, 14, 15, 16, 17, 18, 35], [0, 1, 2, 3, 4, 5, 6, 7, 8, 9, 10, 11, 12, 13, 14, 15, 16, 17, 18], [0, 1, 2, 3, 4, 5, 6, 7, 8, 9, 10, 11, 12, 13, 14, 15, 16, 17, 18, 35, 36, 37], [0, 1, 2, 3, 4, 5, 6, 7, 8, 9, 10, 11, 12, 13, 14, 15, 16, 17, 18, 35, 36, 37, 38], [0, 1, 2, 3, 4, 5, 6, 7, 8, 9, 10, 11, 12, 13, 14, 15, 16, 17, 18, 19, 20, 21, 22, 23, 24, 25, 26, 27, 28, 29, 30, 31, 32, 33, 34, 35, 36, 37, 38, 39], [0, 1, 2, 3, 4, 5, 6, 7, 8, 9, 10, 11, 12, 13, 14, 15, 16, 17, 18, 19, 20, 21, 22, 23, 24, 25, 26, 27, 28, 29, 30, 31, 32, 33, 34, 35, 36, 37, 38, 39, 40], [0, 1, 2, 3, 4, 5, 6, 7, 8, 9, 10, 11, 12, 13, 14, 15, 16, 17, 18, 19, 20, 21, 22, 23, 24, 25, 26, 27, 28, 29, 30, 31, 32, 33, 34, 35, 36, 37, 38, 39, 40, 41]] [[], [], [], [], [], [], [], [], [], [], [], [], [], [], [], [], [], [], [], [], [], [], [], [], [], [], [], [], [], [], [], [], [], [], [], [], [], [], [], [], [], [], []] Try.mix hE (by decide) (by kernel_rfl) 484 rfl (fun hr0 => ?_)
          refine an_op hr0 rfl 140 1 rfl rfl (withEv (x := .tmp 7) (ev_E (by kernel_rfl) rfl) (fun h1 => by first | exact ok_fieldr rfl Try.o45_2 h1 | exact ok_fieldp rfl Try.o45_2 h1)) rfl (fun hr1 => ?_)
          clear hr0
          refine an_op hr1 rfl 148 2 rfl rfl (withEv (x := .tmp 54) (ev_T hr1 0 0 rfl (by kernel_rfl) rfl) (fun h1 => by first | exact ld1 Try.r43 rfl h1 (by first | exact ctx_HE hr1.ok (by kernel_rfl) rfl) (by first | assumption | rfl) | exact lp1 Try.r43 rfl h1 (by first | assumption | rfl))) rfl (fun hr2 => ?_)
          clear hr1
          refine an_op hr2 rfl 156 3 rfl rfl (ok_move rfl (ev_E (by kernel_rfl) rfl)) rfl (fun hr3 => ?_)
          clear hr2
          refine an_op hr3 rfl 164 4 rfl rfl (withEv (x := .tmp 55) (ev_T hr3 1 1 rfl (by kernel_rfl) rfl) (fun h1 => withEv (x := .tmp 56) (ev_T hr3 2 0 rfl (by kernel_rfl) rfl) (fun h2 => by first | exact ix_p Try.e43 rfl h1 h2 (by omega) | exact ix_r Try.e43 rfl h1 (by first | exact ctx_HE hr3.ok (by kernel_rfl) rfl) h2 (by omega) | exact ok_indexp rfl Try.e43 h1 h2 (by omega) (by omega) | exact ok_indexr rfl Try.e43 h1 (by first | exact ctx_HE hr3.ok (by kernel_rfl) rfl) h2 (by omega) (by omega)))) rfl (fun hr4 => ?_)
          clear hr3
          refine an_op hr4 rfl 172 5 rfl rfl (withEv (x := .tmp 57) (ev_T hr4 3 0 rfl (by kernel_rfl) rfl) (fun h1 => by first | exact ok_fieldr rfl Try.o51_1 h1 | exact ok_fieldp rfl Try.o51_1 h1)) rfl (fun hr5 => ?_)
          clear hr4
          refine an_op hr5 rfl 180 6 rfl rfl (withEv (x := .tmp 58) (ev_T hr5 4 0 rfl (by kernel_rfl) rfl) (fun h1 => by first | exact ld1 Try.r49 rfl h1 (by first | exact ctx_HE hr5.ok (by kernel_rfl) rfl) (by first | assumption | rfl) | exact lp1 Try.r49 rfl h1 (by first | assumption | rfl))) rfl (fun hr6 => ?_)
          clear hr5
          refine an_op hr6 rfl 188 7 rfl rfl (withEv (x := .tmp 59) (ev_T hr6 5 0 rfl (by kernel_rfl) rfl) (fun h1 => by first | exact ok_len Try.sl49 rfl rfl (.t h1) | exact ok_len Try.sl49 rfl rfl (.own h1 (by first | exact ctx_HE hr6.ok (by kernel_rfl) rfl)) | exact ok_len Try.sl49 rfl rfl (.nil h1))) rfl (fun hr7 => ?_)
          clear hr6
          refine an_op hr7 rfl 196 8 rfl rfl (okB (ok_eql rfl (ev_T hr7 6 0 rfl (by kernel_rfl) rfl) rfl) (decide_eq_false (by omega))) rfl (fun hr8 => ?_)
          clear hr7
          refine an_op hr8 rfl 204 9 rfl rfl (ok_move rfl (ev_T hr8 7 0 rfl (by kernel_rfl) rfl)) rfl (fun hr9 => ?_)
          clear hr8
          refine an_on hr9 rfl rfl (ctx_T 8 (by kernel_rfl) (RsI.rev hr9 (q := 0) rfl rfl)) 212 10 rfl rfl (withEv (x := .tmp 7) (ev_E (by kernel_rfl) rfl) (fun h1 => by first | exact ok_fieldr rfl Try.o45_2 h1 | exact ok_fieldp rfl Try.o45_2 h1)) rfl (fun hr10 => ?_)
          clear hr9
          refine an_on hr10 rfl rfl (ctx_T 8 (by kernel_rfl) (RsI.rev hr10 (q := 1) rfl rfl)) 220 11 rfl rfl (withEv (x := .tmp 63) (ev_T hr10 9 0 rfl (by kernel_rfl) rfl) (fun h1 => by first | exact ld1 Try.r43 rfl h1 (by first | exact ctx_HE hr10.ok (by kernel_rfl) rfl | exact ev_H hr10 6 3 rfl (by kernel_rfl) rfl rfl) (by first | assumption | rfl) | exact lp1 Try.r43 rfl h1 (by first | assumption | rfl))) rfl (fun hr11 => ?_)
          clear hr10
          refine an_on hr11 rfl rfl (ctx_T 8 (by kernel_rfl) (RsI.rev hr11 (q := 2) rfl rfl)) 228 12 rfl rfl (ok_move rfl (ev_E (by kernel_rfl) rfl)) rfl (fun hr12 => ?_)
          clear hr11
          refine an_on hr12 rfl rfl (ctx_T 8 (by kernel_rfl) (RsI.rev hr12 (q := 3) rfl rfl)) 236 13 rfl rfl (withEv (x := .tmp 64) (ev_T hr12 10 1 rfl (by kernel_rfl) rfl) (fun h1 => withEv (x := .tmp 65) (ev_T hr12 11 0 rfl (by kernel_rfl) rfl) (fun h2 => by first | exact ix_p Try.e43 rfl h1 h2 (by omega) | exact ix_r Try.e43 rfl h1 (by first | exact ctx_HE hr12.ok (by kernel_rfl) rfl | exact ev_H hr12 6 5 rfl (by kernel_rfl) rfl rfl) h2 (by omega) | exact ok_indexp rfl Try.e43 h1 h2 (by omega) (by omega) | exact ok_indexr rfl Try.e43 h1 (by first | exact ctx_HE hr12.ok (by kernel_rfl) rfl | exact ev_H hr12 6 5 rfl (by kernel_rfl) rfl rfl) h2 (by omega) (by omega)))) rfl (fun hr13 => ?_)
          clear hr12
          refine an_on hr13 rfl rfl (ctx_T 8 (by kernel_rfl) (RsI.rev hr13 (q := 4) rfl rfl)) 244 14 rfl rfl (withEv (x := .tmp 66) (ev_T hr13 12 0 rfl (by kernel_rfl) rfl) (fun h1 => by first | exact ok_fieldr rfl Try.o51_1 h1 | exact ok_fieldp rfl Try.o51_1 h1)) rfl (fun hr14 => ?_)
          clear hr13
          refine an_on hr14 rfl rfl (ctx_T 8 (by kernel_rfl) (RsI.rev hr14 (q := 5) rfl rfl)) 252 15 rfl rfl (withEv (x := .tmp 67) (ev_T hr14 13 0 rfl (by kernel_rfl) rfl) (fun h1 => by first | exact ld1 Try.r49 rfl h1 (by first | exact ctx_HE hr14.ok (by kernel_rfl) rfl | exact ev_H hr14 6 7 rfl (by kernel_rfl) rfl rfl) (by first | assumption | rfl) | exact lp1 Try.r49 rfl h1 (by first | assumption | rfl))) rfl (fun hr15 => ?_)
          clear hr14
          refine an_on hr15 rfl rfl (ctx_T 8 (by kernel_rfl) (RsI.rev hr15 (q := 6) rfl rfl)) 260 16 rfl rfl (withEv (x := .tmp 68) (ev_T hr15 14 0 rfl (by kernel_rfl) rfl) (fun h1 => by first | exact ok_len Try.sl49 rfl rfl (.t h1) | exact ok_len Try.sl49 rfl rfl (.own h1 (by first | exact ctx_HE hr15.ok (by kernel_rfl) rfl | exact ev_H hr15 6 8 rfl (by kernel_rfl) rfl rfl)) | exact ok_len Try.sl49 rfl rfl (.nil h1))) rfl (fun hr16 => ?_)
          clear hr15
          refine an_on hr16 rfl rfl (ctx_T 8 (by kernel_rfl) (RsI.rev hr16 (q := 7) rfl rfl)) 268 17 rfl rfl (okB (ok_eql rfl (ev_T hr16 15 0 rfl (by kernel_rfl) rfl) rfl) (decide_eq_false (by omega))) rfl (fun hr17 => ?_)
          clear hr16
          refine an_op hr17 rfl 276 18 rfl rfl (by first | exact ok_pick_t rfl (ev_T hr17 8 8 rfl (by kernel_rfl) rfl) rfl | exact ok_pick_f rfl (ev_T hr17 8 8 rfl (by kernel_rfl) rfl) (ev_T hr17 16 0 rfl (by kernel_rfl) rfl)) rfl (fun hr18 => ?_)
          clear hr17
          refine an_op hr18 rfl 284 19 rfl rfl (ok_move rfl (ev_T hr18 17 0 rfl (by kernel_rfl) rfl)) rfl (fun hr19 => ?_)
          clear hr18
          refine an_on hr19 rfl rfl (ctx_T 18 (by kernel_rfl) (RsI.rev hr19 (q := 0) rfl rfl)) 292 20 rfl rfl (withEv (x := .tmp 5) (ev_E (by kernel_rfl) rfl) (fun h1 => by first | exact ok_fieldr rfl Try.o45_2 h1 | exact ok_fieldp rfl Try.o45_2 h1)) rfl (fun hr20 => ?_)
          clear hr19
          refine an_on hr20 rfl rfl (ctx_T 18 (by kernel_rfl) (RsI.rev hr20 (q := 1) rfl rfl)) 300 21 rfl rfl (withEv (x := .tmp 73) (ev_T hr20 19 0 rfl (by kernel_rfl) rfl) (fun h1 => by first | exact ld1 Try.r43 rfl h1 (by first | exact ctx_HE hr20.ok (by kernel_rfl) rfl | exact ev_H hr20 15 4 rfl (by kernel_rfl) rfl rfl | exact ev_H hr20 6 13 rfl (by kernel_rfl) rfl rfl) (by first | assumption | rfl) | exact lp1 Try.r43 rfl h1 (by first | assumption | rfl))) rfl (fun hr21 => ?_)
          clear hr20
          refine an_on hr21 rfl rfl (ctx_T 18 (by kernel_rfl) (RsI.rev hr21 (q := 2) rfl rfl)) 308 22 rfl rfl (ok_move rfl (ev_E (by kernel_rfl) rfl)) rfl (fun hr22 => ?_)
          clear hr21
          refine an_on hr22 rfl rfl (ctx_T 18 (by kernel_rfl) (RsI.rev hr22 (q := 3) rfl rfl)) 316 23 rfl rfl (withEv (x := .tmp 74) (ev_T hr22 20 1 rfl (by kernel_rfl) rfl) (fun h1 => withEv (x := .tmp 75) (ev_T hr22 21 0 rfl (by kernel_rfl) rfl) (fun h2 => by first | exact ix_p Try.e43 rfl h1 h2 (by omega) | exact ix_r Try.e43 rfl h1 (by first | exact ctx_HE hr22.ok (by kernel_rfl) rfl | exact ev_H hr22 15 6 rfl (by kernel_rfl) rfl rfl | exact ev_H hr22 6 15 rfl (by kernel_rfl) rfl rfl) h2 (by omega) | exact ok_indexp rfl Try.e43 h1 h2 (by omega) (by omega) | exact ok_indexr rfl Try.e43 h1 (by first | exact ctx_HE hr22.ok (by kernel_rfl) rfl | exact ev_H hr22 15 6 rfl (by kernel_rfl) rfl rfl | exact ev_H hr22 6 15 rfl (by kernel_rfl) rfl rfl) h2 (by omega) (by omega)))) rfl (fun hr23 => ?_)
          clear hr22
          refine an_on hr23 rfl rfl (ctx_T 18 (by kernel_rfl) (RsI.rev hr23 (q := 4) rfl rfl)) 324 24 rfl rfl (withEv (x := .tmp 76) (ev_T hr23 22 0 rfl (by kernel_rfl) rfl) (fun h1 => by first | exact ldc Try.r51 Try.s51 rfl h1 (by first | exact ctx_HE hr23.ok (by kernel_rfl) rfl | exact ev_H hr23 15 7 rfl (by kernel_rfl) rfl rfl | exact ev_H hr23 6 16 rfl (by kernel_rfl) rfl rfl) (by first | exact (.take (.take .done)) | exact (.skip (.take (.take .done))) | exact (.skip (.skip (.take (.take .done)))) | exact (.skip (.skip (.skip (.take (.take .done))))) | exact (.skip (.skip (.skip (.skip (.take (.take .done)))))) | exact (.skip (.skip (.skip (.skip (.skip (.take (.take .done))))))) | exact (.skip (.skip (.skip (.skip (.skip (.skip (.take (.take .done)))))))) | exact (.skip (.skip (.skip (.skip (.skip (.skip (.skip (.take (.take .done))))))))) | exact (.skip (.skip (.skip (.skip (.skip (.skip (.skip (.skip (.take (.take .done))))))))))) | exact lpn Try.r51 Try.s51 rfl h1 (by first | assumption | rfl) rfl)) rfl (fun hr24 => ?_)
          clear hr23
          refine an_on hr24 rfl rfl (ctx_T 18 (by kernel_rfl) (RsI.rev hr24 (q := 5) rfl rfl)) 332 25 rfl rfl (withEv (x := .tmp 5) (ev_E (by kernel_rfl) rfl) (fun h1 => by first | exact ok_fieldr rfl Try.o45_2 h1 | exact ok_fieldp rfl Try.o45_2 h1)) rfl (fun hr25 => ?_)
          clear hr24
          refine an_on hr25 rfl rfl (ctx_T 18 (by kernel_rfl) (RsI.rev hr25 (q := 6) rfl rfl)) 340 26 rfl rfl (withEv (x := .tmp 78) (ev_T hr25 24 0 rfl (by kernel_rfl) rfl) (fun h1 => by first | exact ld1 Try.r43 rfl h1 (by first | exact ctx_HE hr25.ok (by kernel_rfl) rfl | exact ev_H hr25 15 9 rfl (by kernel_rfl) rfl rfl | exact ev_H hr25 6 18 rfl (by kernel_rfl) rfl rfl) (by first | assumption | rfl) | exact lp1 Try.r43 rfl h1 (by first | assumption | rfl))) rfl (fun hr26 => ?_)
          clear hr25
          refine an_on hr26 rfl rfl (ctx_T 18 (by kernel_rfl) (RsI.rev hr26 (q := 7) rfl rfl)) 348 27 rfl rfl (ok_move rfl (ev_E (by kernel_rfl) rfl)) rfl (fun hr27 => ?_)
          clear hr26
          refine an_on hr27 rfl rfl (ctx_T 18 (by kernel_rfl) (RsI.rev hr27 (q := 8) rfl rfl)) 356 28 rfl rfl (withEv (x := .tmp 79) (ev_T hr27 25 1 rfl (by kernel_rfl) rfl) (fun h1 => withEv (x := .tmp 80) (ev_T hr27 26 0 rfl (by kernel_rfl) rfl) (fun h2 => by first | exact ix_p Try.e43 rfl h1 h2 (by omega) | exact ix_r Try.e43 rfl h1 (by first | exact ctx_HE hr27.ok (by kernel_rfl) rfl | exact ev_H hr27 15 11 rfl (by kernel_rfl) rfl rfl | exact ev_H hr27 6 20 rfl (by kernel_rfl) rfl rfl) h2 (by omega) | exact ok_indexp rfl Try.e43 h1 h2 (by omega) (by omega) | exact ok_indexr rfl Try.e43 h1 (by first | exact ctx_HE hr27.ok (by kernel_rfl) rfl | exact ev_H hr27 15 11 rfl (by kernel_rfl) rfl rfl | exact ev_H hr27 6 20 rfl (by kernel_rfl) rfl rfl) h2 (by omega) (by omega)))) rfl (fun hr28 => ?_)
          clear hr27
          refine an_on hr28 rfl rfl (ctx_T 18 (by kernel_rfl) (RsI.rev hr28 (q := 9) rfl rfl)) 364 29 rfl rfl (withEv (x := .tmp 81) (ev_T hr28 27 0 rfl (by kernel_rfl) rfl) (fun h1 => by first | exact ldc Try.r51 Try.s51 rfl h1 (by first | exact ctx_HE hr28.ok (by kernel_rfl) rfl | exact ev_H hr28 15 12 rfl (by kernel_rfl) rfl rfl | exact ev_H hr28 6 21 rfl (by kernel_rfl) rfl rfl) (by first | exact (.take (.take .done)) | exact (.skip (.take (.take .done))) | exact (.skip (.skip (.take (.take .done)))) | exact (.skip (.skip (.skip (.take (.take .done))))) | exact (.skip (.skip (.skip (.skip (.take (.take .done)))))) | exact (.skip (.skip (.skip (.skip (.skip (.take (.take .done))))))) | exact (.skip (.skip (.skip (.skip (.skip (.skip (.take (.take .done)))))))) | exact (.skip (.skip (.skip (.skip (.skip (.skip (.skip (.take (.take .done))))))))) | exact (.skip (.skip (.skip (.skip (.skip (.skip (.skip (.skip (.take (.take .done))))))))))) | exact lpn Try.r51 Try.s51 rfl h1 (by first | assumption | rfl) rfl)) rfl (fun hr29 => ?_)
          clear hr28
          refine an_on hr29 rfl rfl (ctx_T 18 (by kernel_rfl) (RsI.rev hr29 (q := 10) rfl rfl)) 372 30 rfl rfl (ok_call [] [] rfl Try.func34 (by simp [Try.f34]) (by simp [Try.f34]) (c1) (.cons (ev_T hr29 23 5 rfl (by kernel_rfl) rfl) (by repeat' first | exact .t rfl | exact .rd rfl rfl rfl rfl | exact .nil | exact DLeL.nil | refine DLeL.cons ?_ ?_ | refine .agg' ?_) (.cons (ev_T hr29 28 0 rfl (by kernel_rfl) rfl) (by repeat' first | exact .t rfl | exact .rd rfl rfl rfl rfl | exact .nil | exact DLeL.nil | refine DLeL.cons ?_ ?_ | refine .agg' ?_) (.nil))) .nil (by repeat' first | exact .t rfl | exact DLeL.nil | refine DLeL.cons ?_ ?_ | refine .agg' ?_ | refine .tup' ?_) .nil rfl rfl) rfl (fun hr30 => ?_)
          clear hr29
          refine an_on hr30 rfl rfl (ctx_T 18 (by kernel_rfl) (RsI.rev hr30 (q := 11) rfl rfl)) 380 31 rfl rfl (withEv (x := .tmp 7) (ev_E (by kernel_rfl) rfl) (fun h1 => by first | exact ok_fieldr rfl Try.o45_2 h1 | exact ok_fieldp rfl Try.o45_2 h1)) rfl (fun hr31 => ?_)
          clear hr30
          refine an_on hr31 rfl rfl (ctx_T 18 (by kernel_rfl) (RsI.rev hr31 (q := 12) rfl rfl)) 388 32 rfl rfl (withEv (x := .tmp 84) (ev_T hr31 30 0 rfl (by kernel_rfl) rfl) (fun h1 => by first | exact ld1 Try.r43 rfl h1 (by first | exact ctx_HE hr31.ok (by kernel_rfl) rfl | exact ev_H hr31 15 15 rfl (by kernel_rfl) rfl rfl | exact ev_H hr31 6 24 rfl (by kernel_rfl) rfl rfl) (by first | assumption | rfl) | exact lp1 Try.r43 rfl h1 (by first | assumption | rfl))) rfl (fun hr32 => ?_)
          clear hr31
          refine an_on hr32 rfl rfl (ctx_T 18 (by kernel_rfl) (RsI.rev hr32 (q := 13) rfl rfl)) 396 33 rfl rfl (ok_move rfl (ev_E (by kernel_rfl) rfl)) rfl (fun hr33 => ?_)
          clear hr32
          refine an_on hr33 rfl rfl (ctx_T 18 (by kernel_rfl) (RsI.rev hr33 (q := 14) rfl rfl)) 404 34 rfl rfl (withEv (x := .tmp 85) (ev_T hr33 31 1 rfl (by kernel_rfl) rfl) (fun h1 => withEv (x := .tmp 86) (ev_T hr33 32 0 rfl (by kernel_rfl) rfl) (fun h2 => by first | exact ix_p Try.e43 rfl h1 h2 (by omega) | exact ix_r Try.e43 rfl h1 (by first | exact ctx_HE hr33.ok (by kernel_rfl) rfl | exact ev_H hr33 15 17 rfl (by kernel_rfl) rfl rfl | exact ev_H hr33 6 26 rfl (by kernel_rfl) rfl rfl) h2 (by omega) | exact ok_indexp rfl Try.e43 h1 h2 (by omega) (by omega) | exact ok_indexr rfl Try.e43 h1 (by first | exact ctx_HE hr33.ok (by kernel_rfl) rfl | exact ev_H hr33 15 17 rfl (by kernel_rfl) rfl rfl | exact ev_H hr33 6 26 rfl (by kernel_rfl) rfl rfl) h2 (by omega) (by omega)))) rfl (fun hr34 => ?_)
          clear hr33
          refine an_on hr34 rfl rfl (ctx_T 18 (by kernel_rfl) (RsI.rev hr34 (q := 15) rfl rfl)) 412 35 rfl rfl (withEv (x := .tmp 87) (ev_T hr34 33 0 rfl (by kernel_rfl) rfl) (fun h1 => by first | exact ldc Try.r51 Try.s51 rfl h1 (by first | exact ctx_HE hr34.ok (by kernel_rfl) rfl | exact ev_H hr34 15 18 rfl (by kernel_rfl) rfl rfl | exact ev_H hr34 6 27 rfl (by kernel_rfl) rfl rfl) (by first | exact (.take (.take .done)) | exact (.skip (.take (.take .done))) | exact (.skip (.skip (.take (.take .done)))) | exact (.skip (.skip (.skip (.take (.take .done))))) | exact (.skip (.skip (.skip (.skip (.take (.take .done)))))) | exact (.skip (.skip (.skip (.skip (.skip (.take (.take .done))))))) | exact (.skip (.skip (.skip (.skip (.skip (.skip (.take (.take .done)))))))) | exact (.skip (.skip (.skip (.skip (.skip (.skip (.skip (.take (.take .done))))))))) | exact (.skip (.skip (.skip (.skip (.skip (.skip (.skip (.skip (.take (.take .done))))))))))) | exact lpn Try.r51 Try.s51 rfl h1 (by first | assumption | rfl) rfl)) rfl (fun hr35 => ?_)
          clear hr34
          refine an_on hr35 rfl rfl (ctx_T 18 (by kernel_rfl) (RsI.rev hr35 (q := 16) rfl rfl)) 420 36 rfl rfl (withEv (x := .tmp 7) (ev_E (by kernel_rfl) rfl) (fun h1 => by first | exact ok_fieldr rfl Try.o45_2 h1 | exact ok_fieldp rfl Try.o45_2 h1)) rfl (fun hr36 => ?_)
          clear hr35
          refine an_on hr36 rfl rfl (ctx_T 18 (by kernel_rfl) (RsI.rev hr36 (q := 17) rfl rfl)) 428 37 rfl rfl (withEv (x := .tmp 89) (ev_T hr36 35 0 rfl (by kernel_rfl) rfl) (fun h1 => by first | exact ld1 Try.r43 rfl h1 (by first | exact ctx_HE hr36.ok (by kernel_rfl) rfl | exact ev_H hr36 15 20 rfl (by kernel_rfl) rfl rfl | exact ev_H hr36 6 29 rfl (by kernel_rfl) rfl rfl) (by first | assumption | rfl) | exact lp1 Try.r43 rfl h1 (by first | assumption | rfl))) rfl (fun hr37 => ?_)
          clear hr36
          refine an_on hr37 rfl rfl (ctx_T 18 (by kernel_rfl) (RsI.rev hr37 (q := 18) rfl rfl)) 436 38 rfl rfl (ok_move rfl (ev_E (by kernel_rfl) rfl)) rfl (fun hr38 => ?_)
          clear hr37
          refine an_on hr38 rfl rfl (ctx_T 18 (by kernel_rfl) (RsI.rev hr38 (q := 19) rfl rfl)) 444 39 rfl rfl (withEv (x := .tmp 90) (ev_T hr38 36 1 rfl (by kernel_rfl) rfl) (fun h1 => withEv (x := .tmp 91) (ev_T hr38 37 0 rfl (by kernel_rfl) rfl) (fun h2 => by first | exact ix_p Try.e43 rfl h1 h2 (by omega) | exact ix_r Try.e43 rfl h1 (by first | exact ctx_HE hr38.ok (by kernel_rfl) rfl | exact ev_H hr38 15 22 rfl (by kernel_rfl) rfl rfl | exact ev_H hr38 6 31 rfl (by kernel_rfl) rfl rfl) h2 (by omega) | exact ok_indexp rfl Try.e43 h1 h2 (by omega) (by omega) | exact ok_indexr rfl Try.e43 h1 (by first | exact ctx_HE hr38.ok (by kernel_rfl) rfl | exact ev_H hr38 15 22 rfl (by kernel_rfl) rfl rfl | exact ev_H hr38 6 31 rfl (by kernel_rfl) rfl rfl) h2 (by omega) (by omega)))) rfl (fun hr39 => ?_)
          clear hr38
          refine an_on hr39 rfl rfl (ctx_T 18 (by kernel_rfl) (RsI.rev hr39 (q := 20) rfl rfl)) 452 40 rfl rfl (withEv (x := .tmp 92) (ev_T hr39 38 0 rfl (by kernel_rfl) rfl) (fun h1 => by first | exact ldc Try.r51 Try.s51 rfl h1 (by first | exact ctx_HE hr39.ok (by kernel_rfl) rfl | exact ev_H hr39 15 23 rfl (by kernel_rfl) rfl rfl | exact ev_H hr39 6 32 rfl (by kernel_rfl) rfl rfl) (by first | exact (.take (.take .done)) | exact (.skip (.take (.take .done))) | exact (.skip (.skip (.take (.take .done)))) | exact (.skip (.skip (.skip (.take (.take .done))))) | exact (.skip (.skip (.skip (.skip (.take (.take .done)))))) | exact (.skip (.skip (.skip (.skip (.skip (.take (.take .done))))))) | exact (.skip (.skip (.skip (.skip (.skip (.skip (.take (.take .done)))))))) | exact (.skip (.skip (.skip (.skip (.skip (.skip (.skip (.take (.take .done))))))))) | exact (.skip (.skip (.skip (.skip (.skip (.skip (.skip (.skip (.take (.take .done))))))))))) | exact lpn Try.r51 Try.s51 rfl h1 (by first | assumption | rfl) rfl)) rfl (fun hr40 => ?_)
          clear hr39
          refine an_on hr40 rfl rfl (ctx_T 18 (by kernel_rfl) (RsI.rev hr40 (q := 21) rfl rfl)) 460 41 rfl rfl (ok_call [] [] rfl Try.func34 (by simp [Try.f34]) (by simp [Try.f34]) (c2) (.cons (ev_T hr40 34 5 rfl (by kernel_rfl) rfl) (by repeat' first | exact .t rfl | exact .rd rfl rfl rfl rfl | exact .nil | exact DLeL.nil | refine DLeL.cons ?_ ?_ | refine .agg' ?_) (.cons (ev_T hr40 39 0 rfl (by kernel_rfl) rfl) (by repeat' first | exact .t rfl | exact .rd rfl rfl rfl rfl | exact .nil | exact DLeL.nil | refine DLeL.cons ?_ ?_ | refine .agg' ?_) (.nil))) .nil (by repeat' first | exact .t rfl | exact DLeL.nil | refine DLeL.cons ?_ ?_ | refine .agg' ?_ | refine .tup' ?_) .nil rfl rfl) rfl (fun hr41 => ?_)
          clear hr40
          refine an_on hr41 rfl rfl (ctx_T 18 (by kernel_rfl) (RsI.rev hr41 (q := 22) rfl rfl)) 468 42 rfl rfl (okB (b := false) (ok_neb Try.u4 rfl (ev_T hr41 29 11 rfl (by kernel_rfl) rfl) (ev_T hr41 40 0 rfl (by kernel_rfl) rfl)) (by rw [hbx]; simp)) rfl (fun hr42 => ?_)
          clear hr41
          refine an_op hr42 rfl 476 43 rfl rfl (by first | exact ok_pick_t rfl (ev_T hr42 18 23 rfl (by kernel_rfl) rfl) rfl | exact ok_pick_f rfl (ev_T hr42 18 23 rfl (by kernel_rfl) rfl) (ev_T hr42 41 0 rfl (by kernel_rfl) rfl)) rfl (fun hr43 => ?_)
          clear hr42
          refine an_nil [some 54, some 55, some 56, some 57, some 58, some 59, some 60, some 61, some 62, some 63, some 64, some 65, some 66, some 67, some 68, some 69, some 70, some 71, some 72, some 73, some 74, some 75, some 76, some 77, some 78, some 79, some 80, some 81, some 82, some 83, some 84, some 85, some 86, some 87, some 88, some 89, some 90, some 91, some 92, some 93, some 94, some 95, some 96] hr43 rfl (by kernel_rfl) ?_
          clear hr43
          refine aw_cond rfl (fun hb4 => ?_) (fun hb4 => ?_)
          · exact absurd hb4 (by decide)
          · skip
            refine aw_skip ?_
            refine aw_region 508 hE (by decide) rfl rfl ?_
            refine sq_op (some 52) 492 rfl rfl rfl (ok_move rfl rfl) ?_
            refine sq_op (some 53) 500 rfl rfl rfl (ok_add rfl rfl rfl (by omega)) ?_
            refine sq_op (some 10) 508 rfl rfl rfl (ok_assign rfl rfl) ?_
            refine sq_nil ?_
            exact ⟨k + 1, by omega, show L.length - (k + 1) < L.length - k by omega, ent_of [] 100 (.cons rfl (.ref rfl rfl) (.cons rfl (.t rfl) (.cons rfl (.ref rfl rfl) (.cons rfl (.t rfl) (.cons rfl (.t rfl) .nil))))) (.cons rfl (.box' (.cons (.t rfl) (.cons (.t rfl) (.cons (.t rfl) .nil)))) (.cons rfl (.box' (.cons (.t rfl) (.cons (.t rfl) (.cons (.t rfl) .nil)))) .nil)) rfl⟩
        · skip
          refine aw_exit ?_
          refine aw_region 164 hE (by decide) rfl rfl ?_
          refine sq_op (some 45) 148 rfl rfl rfl (ok_move rfl rfl) ?_
          refine sq_op (some 46) 156 rfl rfl rfl (ok_add rfl rfl rfl (by omega)) ?_
          refine sq_op (some 9) 164 rfl rfl rfl (ok_assign rfl rfl) ?_
          refine sq_nil ?_
          exact ⟨i + 1, by omega, show L.length - (i + 1) < L.length - i by omega, ent_of [] 100 (.cons rfl (.ref rfl rfl) (.cons rfl (.t rfl) (.cons rfl (.ref rfl rfl) (.cons rfl (.t rfl) .nil)))) (.cons rfl (.box' (.cons (.t rfl) (.cons (.t rfl) (.cons (.t rfl) .nil)))) (.cons rfl (.box' (.cons (.t rfl) (.cons (.t rfl) (.cons (.t rfl) .nil)))) .nil)) rfl⟩
      · skip
        refine aw_exit ?_
        refine aw_seq ?_
        refine aw_seq ?_
        refine aw_region 148 hE (by decide) rfl rfl ?_
        refine sq_op (some 11) 148 rfl rfl rfl (ok_assign rfl rfl) ?_
        refine sq_nil ?_
        refine aw_block ?_
        refine aw_loop (ι := Nat) (fun n => lit [(5, .ref 0 0), (6, .t (.sl b.length (shtT b))), (11, I n)] [(0, .box 45 [I 62, I 62, .t (.sl L.length (shT L))])] 100) (fun n => n ≤ b.length) (fun n => b.length - n) 0 (ent_of [] 100 (.cons rfl (.ref rfl rfl) (.cons rfl (.t rfl) (.cons rfl (.t rfl) .nil))) (.cons rfl (.box' (.cons (.t rfl) (.cons (.t rfl) (.cons (.t rfl) .nil)))) .nil) rfl) (by omega) (fun n hC2 => ?_)
        skip
        refine aw_seq ?_
        refine aw_seq ?_
        refine aw_region 132 hE (by decide) rfl rfl ?_
        refine sq_op (some 97) 108 rfl rfl rfl (ok_move rfl rfl) ?_
        refine sq_op (some 98) 116 rfl rfl rfl (ok_move rfl rfl) ?_
        refine sq_op (some 99) 124 rfl rfl rfl (withEv (x := .tmp 98) rfl (fun h1 => by first | exact ok_len Try.sl81 rfl rfl (.t h1) | exact ok_len Try.sl81 rfl rfl (.own h1 rfl) | exact ok_len Try.sl81 rfl rfl (.nil h1))) ?_
        refine sq_op (some 100) 132 rfl rfl rfl (ok_lss rfl rfl rfl) ?_
        refine sq_nil ?_
        refine aw_cond rfl (fun hb5 => ?_) (fun hb5 => ?_)
        · simp at hb5
          have hn : n < at_.length := by omega
          obtain ⟨s, hs0⟩ : ∃ s, shtS 62 L at_ (20 + aroundI wd 60) n L.length = s := ⟨_, rfl⟩
          have hs : b[n]? = some s := by rw [hbg n hn, hs0]
          have hsx : s.x = at_.getD n 0 := by rw [← hs0]; rfl
          have hsl : s.of_.length = s.sh.length := by rw [← hs0]; simp [shtS]
          have hof5 := (hsm.1 s (List.mem_iff_getElem?.2 ⟨n, hs⟩)).2
          have hx0 : 0 ≤ s.x ∧ s.x ≤ 1000 := by
            rw [hsx, List.getD_eq_getElem?_getD, List.getElem?_eq_getElem hn]
            exact hat2 n _ (List.getElem?_eq_getElem hn)
          have hsa : ∀ i, i < s.of_.length → ∃ p : Nat, p < L.length ∧ s.of_[i]? = some (p : Int) ∧ ∃ q : Sh, L[p]? = some q ∧ s.sh[i]? = some (mvS s.x q) := fun i hi => by
            rw [hsx]
            rw [← hs0] at hi ⊢
            exact sheet_at hi
          have fS : ((shtT b).drop (n * 5)).take 5 = [ti s.x, ti s.wd, ti s.ht, .sl s.sh.length (shT s.sh), .sl s.of_.length (intsT s.of_)] := flat_part (f := shtC) (fun _ => rfl) hs
          refine aw_skip ?_
          refine aw_seq ?_
          refine aw_block ?_
          refine aw_seq ?_
          refine aw_region 180 hE (by decide) rfl rfl ?_
          refine sq_op (some 103) 140 rfl rfl rfl (ok_move rfl rfl) ?_
          refine sq_op (some 104) 148 rfl rfl rfl (ok_move rfl rfl) ?_
          refine sq_op (some 105) 156 rfl rfl rfl (withEv (x := .tmp 103) rfl (fun h1 => withEv (x := .tmp 104) rfl (fun h2 => by first | exact ix_p Try.e81 rfl h1 h2 (by omega) | exact ix_r Try.e81 rfl h1 rfl h2 (by omega) | exact ok_indexp rfl Try.e81 h1 h2 (by omega) (by omega) | exact ok_indexr rfl Try.e81 h1 rfl h2 (by omega) (by omega)))) ?_
          refine sq_op (some 106) 164 rfl rfl rfl (withEv (x := .tmp 105) rfl (fun h1 => by first | exact ldc Try.r96 Try.s96 rfl h1 rfl (by first | exact (.take (.take (.take (.take (.take .done))))) | exact (.skip (.take (.take (.take (.take (.take .done)))))) | exact (.skip (.skip (.take (.take (.take (.take (.take .done))))))) | exact (.skip (.skip (.skip (.take (.take (.take (.take (.take .done)))))))) | exact (.skip (.skip (.skip (.skip (.take (.take (.take (.take (.take .done))))))))) | exact (.skip (.skip (.skip (.skip (.skip (.take (.take (.take (.take (.take .done)))))))))) | exact (.skip (.skip (.skip (.skip (.skip (.skip (.take (.take (.take (.take (.take .done))))))))))) | exact (.skip (.skip (.skip (.skip (.skip (.skip (.skip (.take (.take (.take (.take (.take .done)))))))))))) | exact (.skip (.skip (.skip (.skip (.skip (.skip (.skip (.skip (.take (.take (.take (.take (.take .done)))))))))))))) | exact lpn Try.r96 Try.s96 rfl h1 (by first | assumption | rfl) rfl)) ?_
          refine sq_op (some 12) 172 rfl rfl rfl (ok_alloc rfl Try.z96 rfl) ?_
          refine sq_op none 180 rfl rfl rfl (withEv (x := .tmp 106) rfl (fun h1 => by first | exact stb (.ev h1) rfl Try.s96 rfl rfl rfl (by first | exact (.put (.put (.put (.put (.put .done))))) | exact (.skip (.put (.put (.put (.put (.put .done)))))) | exact (.skip (.skip (.put (.put (.put (.put (.put .done))))))) | exact (.skip (.skip (.skip (.put (.put (.put (.put (.put .done)))))))) | exact (.skip (.skip (.skip (.skip (.put (.put (.put (.put (.put .done))))))))) | exact (.skip (.skip (.skip (.skip (.skip (.put (.put (.put (.put (.put .done)))))))))) | exact (.skip (.skip (.skip (.skip (.skip (.skip (.put (.put (.put (.put (.put .done))))))))))) | exact (.skip (.skip (.skip (.skip (.skip (.skip (.skip (.put (.put (.put (.put (.put .done)))))))))))) | exact (.skip (.skip (.skip (.skip (.skip (.skip (.skip (.skip (.put (.put (.put (.put (.put .done)))))))))))))) (Nat.succ_pos _) | exact str (.ev h1) rfl Try.s96 rfl rfl rfl (by assumption) rfl (Nat.succ_pos _) | exact stb (.own h1 rfl) rfl Try.s96 rfl rfl rfl (by first | exact (.put (.put (.put (.put (.put .done))))) | exact (.skip (.put (.put (.put (.put (.put .done)))))) | exact (.skip (.skip (.put (.put (.put (.put (.put .done))))))) | exact (.skip (.skip (.skip (.put (.put (.put (.put (.put .done)))))))) | exact (.skip (.skip (.skip (.skip (.put (.put (.put (.put (.put .done))))))))) | exact (.skip (.skip (.skip (.skip (.skip (.put (.put (.put (.put (.put .done)))))))))) | exact (.skip (.skip (.skip (.skip (.skip (.skip (.put (.put (.put (.put (.put .done))))))))))) | exact (.skip (.skip (.skip (.skip (.skip (.skip (.skip (.put (.put (.put (.put (.put .done)))))))))))) | exact (.skip (.skip (.skip (.skip (.skip (.skip (.skip (.skip (.put (.put (.put (.put (.put .done)))))))))))))) (Nat.succ_pos _) | exact str (.own h1 rfl) rfl Try.s96 rfl rfl rfl (by assumption) rfl (Nat.succ_pos _))) ?_
          refine sq_nil ?_
          refine aw_seq ?_
          refine aw_seq ?_
          rcases Nat.eq_zero_or_pos n with hn0 | hn0
          · have hn1 := hn0
            refine aw_any [[], [0], [0, 1], [], [3], [3, 4], [3, 4, 5], [0, 1, 2, 3, 4, 5, 6], [0, 1, 2, 3, 4, 5, 6, 7], [0, 1, 2, 3, 4, 5, 6, 7, 8], [0, 1, 2, 3, 4, 5, 6, 7, 8, 9], [0, 1, 2, 3, 4, 5, 6, 7, 8, 9, 10], [0, 1, 2, 3, 4, 5, 6, 7, 8, 9, 10, 11], [0, 1, 2, 3, 4, 5, 6, 7, 8, 9, 10, 11, 12], [0, 1, 2, 3, 4, 5, 6, 7, 8, 9, 10, 11], [0, 1, 2, 3, 4, 5, 6, 7, 8, 9, 10, 11], [0, 1, 2, 3, 4, 5, 6, 7, 8, 9, 10, 11, 15], [0, 1, 2, 3, 4, 5, 6, 7, 8, 9, 10, 11, 14, 15, 16], [0, 1, 2, 3, 4, 5, 6, 7, 8, 9, 10, 11, 14, 15, 16, 17], [0, 1, 2, 3, 4, 5, 6, 7, 8, 9, 10, 11, 14, 15, 16, 17, 18], [0, 1, 2, 3, 4, 5, 6, 7, 8, 9, 10, 11, 12, 13, 14, 15, 16, 17, 18, 19], [0, 1, 2, 3, 4, 5, 6, 7, 8, 9, 10, 11, 12, 13, 14, 15, 16, 17, 18, 19, 20], [0, 1, 2, 3, 4, 5, 6, 7, 8, 9, 10, 11, 12, 13, 14, 15, 16, 17, 18, 19, 20, 21]] [[], [], [], [], [], [], [], [], [], [], [], [], [], [], [], [], [], [], [], [], [], [], []] Try.mix hE (by decide) (by kernel_rfl) 364 rfl (fun hr0 => ?_)
            refine an_op hr0 rfl 180 1 rfl rfl (withEv (x := .tmp 12) (ev_E (by kernel_rfl) rfl) (fun h1 => by first | exact ok_fieldr rfl Try.o96_2 h1 | exact ok_fieldp rfl Try.o96_2 h1)) rfl (fun hr1 => ?_)
            clear hr0
            refine an_op hr1 rfl 188 2 rfl rfl (withEv (x := .tmp 107) (ev_T hr1 0 0 rfl (by kernel_rfl) rfl) (fun h1 => by first | exact ld1 Try.r22 rfl h1 (by first | exact ctx_HE hr1.ok (by kernel_rfl) rfl) (by first | assumption | rfl) | exact lp1 Try.r22 rfl h1 (by first | assumption | rfl))) rfl (fun hr2 => ?_)
            clear hr1
            refine an_op hr2 rfl 196 3 rfl rfl (withEv (x := .tmp 108) (ev_T hr2 1 0 rfl (by kernel_rfl) rfl) (fun h1 => by first | exact ok_len Try.sl22 rfl rfl (.t h1) | exact ok_len Try.sl22 rfl rfl (.own h1 (by first | exact ctx_HE hr2.ok (by kernel_rfl) rfl)) | exact ok_len Try.sl22 rfl rfl (.nil h1))) rfl (fun hr3 => ?_)
            clear hr2
            refine an_op hr3 rfl 204 4 rfl rfl (withEv (x := .tmp 12) (ev_E (by kernel_rfl) rfl) (fun h1 => by first | exact ok_fieldr rfl Try.o96_1 h1 | exact ok_fieldp rfl Try.o96_1 h1)) rfl (fun hr4 => ?_)
            clear hr3
            refine an_op hr4 rfl 212 5 rfl rfl (withEv (x := .tmp 110) (ev_T hr4 3 0 rfl (by kernel_rfl) rfl) (fun h1 => by first | exact ok_fieldr rfl Try.o45_2 h1 | exact ok_fieldp rfl Try.o45_2 h1)) rfl (fun hr5 => ?_)
            clear hr4
            refine an_op hr5 rfl 220 6 rfl rfl (withEv (x := .tmp 111) (ev_T hr5 4 0 rfl (by kernel_rfl) rfl) (fun h1 => by first | exact ld1 Try.r43 rfl h1 (by first | exact ctx_HE hr5.ok (by kernel_rfl) rfl) (by first | assumption | rfl) | exact lp1 Try.r43 rfl h1 (by first | assumption | rfl))) rfl (fun hr6 => ?_)
            clear hr5
            refine an_op hr6 rfl 228 7 rfl rfl (withEv (x := .tmp 112) (ev_T hr6 5 0 rfl (by kernel_rfl) rfl) (fun h1 => by first | exact ok_len Try.sl43 rfl rfl (.t h1) | exact ok_len Try.sl43 rfl rfl (.own h1 (by first | exact ctx_HE hr6.ok (by kernel_rfl) rfl)) | exact ok_len Try.sl43 rfl rfl (.nil h1))) rfl (fun hr7 => ?_)
            clear hr6
            refine an_op hr7 rfl 236 8 rfl rfl (okB (ok_neq rfl (ev_T hr7 2 4 rfl (by kernel_rfl) rfl) (ev_T hr7 6 0 rfl (by kernel_rfl) rfl)) (decide_eq_false (by omega))) rfl (fun hr8 => ?_)
            clear hr7
            refine an_op hr8 rfl 244 9 rfl rfl (ok_move rfl (ev_T hr8 7 0 rfl (by kernel_rfl) rfl)) rfl (fun hr9 => ?_)
            clear hr8
            refine an_on hr9 rfl rfl (ctx_T 8 (by kernel_rfl) (RsI.rev hr9 (q := 0) rfl rfl)) 252 10 rfl rfl (ok_move rfl (ev_E (by kernel_rfl) rfl)) rfl (fun hr10 => ?_)
            clear hr9
            refine an_on hr10 rfl rfl (ctx_T 8 (by kernel_rfl) (RsI.rev hr10 (q := 1) rfl rfl)) 260 11 rfl rfl (okB (ok_gtr rfl (ev_T hr10 9 0 rfl (by kernel_rfl) rfl) rfl) (decide_eq_false (by omega))) rfl (fun hr11 => ?_)
            clear hr10
            refine an_on hr11 rfl rfl (ctx_T 8 (by kernel_rfl) (RsI.rev hr11 (q := 2) rfl rfl)) 268 12 rfl rfl (ok_move rfl (ev_T hr11 10 0 rfl (by kernel_rfl) rfl)) rfl (fun hr12 => ?_)
            clear hr11
            refine an_off hr12 rfl rfl (ctx_T 11 (by kernel_rfl) (RsI.rev hr12 (q := 0) rfl rfl)) (by first | exact .inl rfl | exact .inr rfl) 13 rfl (fun hr13 => ?_)
            clear hr12
            refine an_off hr13 rfl rfl (ctx_T 11 (by kernel_rfl) (RsI.rev hr13 (q := 1) rfl rfl)) (by first | exact .inl rfl | exact .inr rfl) 14 rfl (fun hr14 => ?_)
            clear hr13
            refine an_off hr14 rfl rfl (ctx_T 11 (by kernel_rfl) (RsI.rev hr14 (q := 2) rfl rfl)) (by first | exact .inl rfl | exact .inr rfl) 15 rfl (fun hr15 => ?_)
            clear hr14
            refine an_off hr15 rfl rfl (ctx_T 11 (by kernel_rfl) (RsI.rev hr15 (q := 3) rfl rfl)) (by first | exact .inl rfl | exact .inr rfl) 16 rfl (fun hr16 => ?_)
            clear hr15
            refine an_off hr16 rfl rfl (ctx_T 11 (by kernel_rfl) (RsI.rev hr16 (q := 4) rfl rfl)) (by first | exact .inl rfl | exact .inr rfl) 17 rfl (fun hr17 => ?_)
            clear hr16
            refine an_off hr17 rfl rfl (ctx_T 11 (by kernel_rfl) (RsI.rev hr17 (q := 5) rfl rfl)) (by first | exact .inl rfl | exact .inr rfl) 18 rfl (fun hr18 => ?_)
            clear hr17
            refine an_off hr18 rfl rfl (ctx_T 11 (by kernel_rfl) (RsI.rev hr18 (q := 6) rfl rfl)) (by first | exact .inl rfl | exact .inr rfl) 19 rfl (fun hr19 => ?_)
            clear hr18
            refine an_off hr19 rfl rfl (ctx_T 11 (by kernel_rfl) (RsI.rev hr19 (q := 7) rfl rfl)) (by first | exact .inl rfl | exact .inr rfl) 20 rfl (fun hr20 => ?_)
            clear hr19
            refine an_off hr20 rfl rfl (ctx_T 11 (by kernel_rfl) (RsI.rev hr20 (q := 8) rfl rfl)) (by first | exact .inl rfl | exact .inr rfl) 21 rfl (fun hr21 => ?_)
            clear hr20
            refine an_on hr21 rfl rfl (ctx_T 8 (by kernel_rfl) (RsI.rev hr21 (q := 12) rfl rfl)) 348 22 rfl rfl (by first | exact ok_pick_t rfl (ev_T hr21 11 9 rfl (by kernel_rfl) rfl) (ev_T hr21 20 0 rfl (by kernel_rfl) rfl) | exact ok_pick_f rfl (ev_T hr21 11 9 rfl (by kernel_rfl) rfl) rfl) rfl (fun hr22 => ?_)
            clear hr21
            refine an_op hr22 rfl 356 23 rfl rfl (by first | exact ok_pick_t rfl (ev_T hr22 8 13 rfl (by kernel_rfl) rfl) rfl | exact ok_pick_f rfl (ev_T hr22 8 13 rfl (by kernel_rfl) rfl) (ev_T hr22 21 0 rfl (by kernel_rfl) rfl)) rfl (fun hr23 => ?_)
            clear hr22
            refine an_nil [some 107, some 108, some 109, some 110, some 111, some 112, some 113, some 114, some 115, some 116, some 117, some 118, some 119, some 120, some 121, some 122, some 123, some 124, some 125, some 126, some 127, some 128, some 129] hr23 rfl (by kernel_rfl) ?_
            clear hr23
            refine aw_cond rfl (fun hb6 => ?_) (fun hb6 => ?_)
            · exact absurd hb6 (by decide)
            · skip
              refine aw_skip ?_
              refine aw_seq ?_
              refine aw_region 372 hE (by decide) rfl rfl ?_
              refine sq_op (some 13) 372 rfl rfl rfl (ok_assign rfl rfl) ?_
              refine sq_nil ?_
              refine aw_block ?_
              refine aw_loop (ι := Nat) (fun i => lit [(5, .ref 0 0), (6, .t (.sl b.length (shtT b))), (11, I n), (12, .ref 1 0), (13, I i)] [(0, .box 45 [I 62, I 62, .t (.sl L.length (shT L))]), (1, .box 96 [.t (ti s.x), .t (ti s.wd), .t (ti s.ht), .t (.sl s.sh.length (shT s.sh)), .t (.sl s.of_.length (intsT s.of_))])] 100) (fun i => i ≤ s.of_.length) (fun i => s.of_.length - i) 0 (ent_of [(1, 164)] 100 (.cons rfl (.ref rfl rfl) (.cons rfl (.t rfl) (.cons rfl (.t rfl) (.cons rfl (.ref rfl rfl) (.cons rfl (.t rfl) .nil))))) (.cons rfl (.box' (.cons (.t rfl) (.cons (.t rfl) (.cons (.t rfl) .nil)))) (.cons rfl (.box' (.cons (.t rfl) (.cons (.t rfl) (.cons (.t rfl) (.cons (.t rfl) (.cons (.t rfl) .nil)))))) .nil)) rfl) (by omega) (fun i hC3 => ?_)
              skip
              refine aw_seq ?_
              refine aw_seq ?_
              refine aw_region 140 hE (by decide) rfl rfl ?_
              refine sq_op (some 130) 108 rfl rfl rfl (ok_move rfl rfl) ?_
              refine sq_op (some 131) 116 rfl rfl rfl (withEv (x := .tmp 12) rfl (fun h1 => by first | exact ok_fieldr rfl Try.o96_2 h1 | exact ok_fieldp rfl Try.o96_2 h1)) ?_
              refine sq_op (some 132) 124 rfl rfl rfl (withEv (x := .tmp 131) rfl (fun h1 => by first | exact ld1 Try.r22 rfl h1 rfl (by first | assumption | rfl) | exact lp1 Try.r22 rfl h1 (by first | assumption | rfl))) ?_
              refine sq_op (some 133) 132 rfl rfl rfl (withEv (x := .tmp 132) rfl (fun h1 => by first | exact ok_len Try.sl22 rfl rfl (.t h1) | exact ok_len Try.sl22 rfl rfl (.own h1 rfl) | exact ok_len Try.sl22 rfl rfl (.nil h1))) ?_
              refine sq_op (some 134) 140 rfl rfl rfl (ok_lss rfl rfl rfl) ?_
              refine sq_nil ?_
              refine aw_cond rfl (fun hb7 => ?_) (fun hb7 => ?_)
              · simp at hb7
                have hi : i < s.of_.length := by omega
                refine aw_skip ?_
                refine aw_seq ?_
                refine aw_block ?_
                refine aw_seq ?_
                refine aw_region 148 hE (by decide) rfl rfl ?_
                refine sq_op (some 14) 148 rfl rfl rfl (ok_assign rfl rfl) ?_
                refine sq_nil ?_
                refine aw_block ?_
                refine aw_loop (ι := Nat) (fun k => lit [(5, .ref 0 0), (6, .t (.sl b.length (shtT b))), (11, I n), (12, .ref 1 0), (13, I i), (14, I k)] [(0, .box 45 [I 62, I 62, .t (.sl L.length (shT L))]), (1, .box 96 [.t (ti s.x), .t (ti s.wd), .t (ti s.ht), .t (.sl s.sh.length (shT s.sh)), .t (.sl s.of_.length (intsT s.of_))])] 100) (fun k => k ≤ s.of_.length) (fun k => s.of_.length - k) 0 (ent_of [] 100 (.cons rfl (.ref rfl rfl) (.cons rfl (.t rfl) (.cons rfl (.t rfl) (.cons rfl (.ref rfl rfl) (.cons rfl (.t rfl) (.cons rfl (.t rfl) .nil)))))) (.cons rfl (.box' (.cons (.t rfl) (.cons (.t rfl) (.cons (.t rfl) .nil)))) (.cons rfl (.box' (.cons (.t rfl) (.cons (.t rfl) (.cons (.t rfl) (.cons (.t rfl) (.cons (.t rfl) .nil)))))) .nil)) rfl) (by omega) (fun k hC4 => ?_)
                skip
                refine aw_seq ?_
                refine aw_seq ?_
                refine aw_region 140 hE (by decide) rfl rfl ?_
                refine sq_op (some 137) 108 rfl rfl rfl (ok_move rfl rfl) ?_
                refine sq_op (some 138) 116 rfl rfl rfl (withEv (x := .tmp 12) rfl (fun h1 => by first | exact ok_fieldr rfl Try.o96_2 h1 | exact ok_fieldp rfl Try.o96_2 h1)) ?_
                refine sq_op (some 139) 124 rfl rfl rfl (withEv (x := .tmp 138) rfl (fun h1 => by first | exact ld1 Try.r22 rfl h1 rfl (by first | assumption | rfl) | exact lp1 Try.r22 rfl h1 (by first | assumption | rfl))) ?_
                refine sq_op (some 140) 132 rfl rfl rfl (withEv (x := .tmp 139) rfl (fun h1 => by first | exact ok_len Try.sl22 rfl rfl (.t h1) | exact ok_len Try.sl22 rfl rfl (.own h1 rfl) | exact ok_len Try.sl22 rfl rfl (.nil h1))) ?_
                refine sq_op (some 141) 140 rfl rfl rfl (ok_lss rfl rfl rfl) ?_
                refine sq_nil ?_
                refine aw_cond rfl (fun hb8 => ?_) (fun hb8 => ?_)
                · simp at hb8
                  obtain ⟨pa, hpa, hoa, qa, hqa, hma⟩ := hsa i (by omega)
                  have ga := hgen _ (List.mem_iff_getElem?.2 ⟨pa, hqa⟩)
                  have sa : ScS qa := gen_sc ga
                  have foa : (intsT s.of_)[i * 1]? = some (ti pa) := by rw [Nat.mul_one]; simp [intsT, hoa]
                  have fa : ((shT L).drop (pa * 2)).take 2 = [ti qa.1, .sl qa.2.length (ptT qa.2)] := flat_part (f := fun s : Sh => [ti s.1, .sl s.2.length (ptT s.2)]) (fun _ => rfl) hqa
                  have fxa : ((shT s.sh).drop (i * 2)).take 2 = [ti (mvS s.x qa).1, .sl (mvS s.x qa).2.length (ptT (mvS s.x qa).2)] := flat_part (f := fun s : Sh => [ti s.1, .sl s.2.length (ptT s.2)]) (fun _ => rfl) hma
                  have fya : (shT s.sh)[i * 2 + 1]? = some (.sl (mvS s.x qa).2.length (ptT (mvS s.x qa).2)) := flat_get (f := fun s : Sh => [ti s.1, .sl s.2.length (ptT s.2)]) (fun _ => rfl) hma 1 (by decide)
                  obtain ⟨pc, hpc, hoc, qc, hqc, hmc⟩ := hsa k (by omega)
                  have gc := hgen _ (List.mem_iff_getElem?.2 ⟨pc, hqc⟩)
                  have sc : ScS qc := gen_sc gc
                  have foc : (intsT s.of_)[k * 1]? = some (ti pc) := by rw [Nat.mul_one]; simp [intsT, hoc]
                  have fc : ((shT L).drop (pc * 2)).take 2 = [ti qc.1, .sl qc.2.length (ptT qc.2)] := flat_part (f := fun s : Sh => [ti s.1, .sl s.2.length (ptT s.2)]) (fun _ => rfl) hqc
                  have fxc : ((shT s.sh).drop (k * 2)).take 2 = [ti (mvS s.x qc).1, .sl (mvS s.x qc).2.length (ptT (mvS s.x qc).2)] := flat_part (f := fun s : Sh => [ti s.1, .sl s.2.length (ptT s.2)]) (fun _ => rfl) hmc
                  have fyc : (shT s.sh)[k * 2 + 1]? = some (.sl (mvS s.x qc).2.length (ptT (mvS s.x qc).2)) := flat_get (f := fun s : Sh => [ti s.1, .sl s.2.length (ptT s.2)]) (fun _ => rfl) hmc 1 (by decide)
                  obtain ⟨⟨sxa, nxa⟩, hins, hlef, hlon⟩ := told_mv ga gc hx0
                  obtain ⟨⟨sxc, nxc⟩, _⟩ := told_mv gc ga hx0
                  have ma : (mvS s.x qa).2.length ≠ 0 := fun e => nxa (List.eq_nil_of_length_eq_zero e)
                  have mc : (mvS s.x qc).2.length ≠ 0 := fun e => nxc (List.eq_nil_of_length_eq_zero e)
                  have c1 := inside_does (mvS s.x qa) (mvS s.x qc) sxa sxc
                  have c2 := inside_does qa qc sa sc
                  have c3 := left_does (mvS s.x qa) (mvS s.x qc) sxa sxc
                  have c4 := left_does qa qc sa sc
                  have c5 := longer_does (mvS s.x qa) (mvS s.x qc) sxa sxc
                  have c6 := longer_does qa qc sa sc
                  refine aw_skip ?_
                  refine aw_seq ?_
                  refine aw_block ?_
                  refine aw_seq ?_
                  refine aw_seq ?_
                  refine aw_any [[], [0], [], [0, 1, 2], [0, 1, 2, 3], [0, 1, 2, 3, 4], [0, 1, 2, 3, 4, 5], [0, 1, 2, 3, 4, 5, 6], [0, 1, 2, 3, 4, 5, 6, 7], [0, 1, 2, 3, 4, 5, 6], [0, 1, 2, 3, 4, 5, 6, 7, 8, 9], [0, 1, 2, 3, 4, 5, 6, 7, 8, 9, 10], [0, 1, 2, 3, 4, 5, 6], [0, 1, 2, 3, 4, 5, 6, 12], [0, 1, 2, 3, 4, 5, 6, 12, 13], [0, 1, 2, 3, 4, 5, 6, 7, 8, 9, 10, 11, 12, 13, 14], [0, 1, 2, 3, 4, 5, 6, 7, 8, 9, 10, 11, 12, 13, 14, 15], [0, 1, 2, 3, 4, 5, 6, 7, 8, 9, 10, 11, 12, 13, 14, 15, 16], [0, 1, 2, 3, 4, 5, 6, 7, 8, 9, 10, 11, 12, 13, 14, 15, 16, 17], [0, 1, 2, 3, 4, 5, 6, 7, 8, 9, 10, 11, 12, 13, 14, 15, 16, 17, 18], [0, 1, 2, 3, 4, 5, 6, 7, 8, 9, 10, 11, 12, 13, 14, 15, 16, 17], [0, 1, 2, 3, 4, 5, 6, 7, 8, 9, 10, 11, 12, 13, 14, 15, 16, 17, 18, 19, 20], [0, 1, 2, 3, 4, 5, 6, 7, 8, 9, 10, 11, 12, 13, 14, 15, 16, 17, 18, 19, 20, 21], [0, 1, 2, 3, 4, 5, 6, 7, 8, 9, 10, 11, 12, 13, 14, 15, 16, 17, 18, 19, 20, 21, 22], [0, 1, 2, 3, 4, 5, 6, 7, 8, 9, 10, 11, 12, 13, 14, 15, 16, 17, 18, 19, 20, 21, 22, 23], [0, 1, 2, 3, 4, 5, 6, 7, 8, 9, 10, 11, 12, 13, 14, 15, 16, 17, 18, 19, 20, 21, 22, 23, 24], [0, 1, 2, 3, 4, 5, 6, 7, 8, 9, 10, 11, 12, 13, 14, 15, 16, 17, 18, 19, 20, 21, 22, 23, 24, 25], [0, 1, 2, 3, 4, 5, 6, 7, 8, 9, 10, 11, 12, 13, 14, 15, 16, 17, 18, 19, 20, 21, 22, 23, 24, 25, 26], [0, 1, 2, 3, 4, 5, 6, 7, 8, 9, 10, 11, 12, 13, 14, 15, 16, 17, 18, 19, 20, 21, 22, 23, 24, 25], [0, 1, 2, 3, 4, 5, 6, 7, 8, 9, 10, 11, 12, 13, 14, 15, 16, 17, 18, 19, 20, 21, 22, 23, 24, 25, 26, 27, 28], [0, 1, 2, 3, 4, 5, 6, 7, 8, 9, 10, 11, 12, 13, 14, 15, 16, 17, 18, 19, 20, 21, 22, 23, 24, 25, 26, 27, 28, 29], [0, 1, 2, 3, 4, 5, 6, 7, 8, 9, 10, 11, 12, 13, 14, 15, 16, 17, 18, 19, 20, 21, 22, 23, 24, 25], [0, 1, 2, 3, 4, 5, 6, 7, 8, 9, 10, 11, 12, 13, 14, 15, 16, 17, 18, 19, 20, 21, 22, 23, 24, 25, 31], [0, 1, 2, 3, 4, 5, 6, 7, 8, 9, 10, 11, 12, 13, 14, 15, 16, 17, 18, 19, 20, 21, 22, 23, 24, 25, 31, 32], [0, 1, 2, 3, 4, 5, 6, 7, 8, 9, 10, 11, 12, 13, 14, 15, 16, 17, 18, 19, 20, 21, 22, 23, 24, 25, 26, 27, 28, 29, 30, 31, 32, 33], [0, 1, 2, 3, 4, 5, 6, 7, 8, 9, 10, 11, 12, 13, 14, 15, 16, 17, 18, 19, 20, 21, 22, 23, 24, 25, 26, 27, 28, 29, 30, 31, 32, 33, 34], [0, 1, 2, 3, 4, 5, 6, 7, 8, 9, 10, 11, 12, 13, 14, 15, 16, 17, 18, 19, 20, 21, 22, 23, 24, 25, 26, 27, 28, 29, 30, 31, 32, 33, 34, 35], [0, 1, 2, 3, 4, 5, 6, 7, 8, 9, 10, 11, 12, 13, 14, 15, 16, 17, 18, 19, 20, 21, 22, 23, 24, 25, 26, 27, 28, 29, 30, 31, 32, 33, 34, 35, 36], [0, 1, 2, 3, 4, 5, 6, 7, 8, 9, 10, 11, 12, 13, 14, 15, 16, 17, 18, 19, 20, 21, 22, 23, 24, 25, 26, 27, 28, 29, 30, 31, 32, 33, 34, 35, 36, 37], [0, 1, 2, 3, 4, 5, 6, 7, 8, 9, 10, 11, 12, 13, 14, 15, 16, 17, 18, 19, 20, 21, 22, 23, 24, 25, 26, 27, 28, 29, 30, 31, 32, 33, 34, 35, 36, 37, 38], [0, 1, 2, 3, 4, 5, 6, 7, 8, 9, 10, 11, 12, 13, 14, 15, 16, 17, 18, 19, 20, 21, 22, 23, 24, 25, 26, 27, 28, 29, 30, 31, 32, 33, 34, 35, 36], [0, 1, 2, 3, 4, 5, 6, 7, 8, 9, 10, 11, 12, 13, 14, 15, 16, 17, 18, 19, 20, 21, 22, 23, 24, 25, 26, 27, 28, 29, 30, 31, 32, 33, 34, 35, 36, 37, 38, 39, 40], [0, 1, 2, 3, 4, 5, 6, 7, 8, 9, 10, 11, 12, 13, 14, 15, 16, 17, 18, 19, 20, 21, 22, 23, 24, 25, 26, 27, 28, 29, 30, 31, 32, 33, 34, 35, 36, 37, 38, 39, 40, 41], [0, 1, 2, 3, 4, 5, 6, 7, 8, 9, 10, 11, 12, 13, 14, 15, 16, 17, 18, 19, 20, 21, 22, 23, 24, 25, 26, 27, 28, 29, 30, 31, 32, 33, 34, 35, 36, 37, 38, 39, 40, 41, 42], [0, 1, 2, 3, 4, 5, 6, 7, 8, 9, 10, 11, 12, 13, 14, 15, 16, 17, 18, 19, 20, 21, 22, 23, 24, 25, 26, 27, 28, 29, 30, 31, 32, 33, 34, 35, 36, 37, 38, 39, 40, 41, 42, 43], [0, 1, 2, 3, 4, 5, 6, 7, 8, 9, 10, 11, 12, 13, 14, 15, 16, 17, 18, 19, 20, 21, 22, 23, 24, 25, 26, 27, 28, 29, 30, 31, 32, 33, 34, 35, 36, 37, 38, 39, 40, 41, 42, 43, 44], [0, 1, 2, 3, 4, 5, 6, 7, 8, 9, 10, 11, 12, 13, 14, 15, 16, 17, 18, 19, 20, 21, 22, 23, 24, 25, 26, 27, 28, 29, 30, 31, 32, 33, 34, 35, 36, 37, 38, 39, 40, 41, 42, 43, 44, 45], [0, 1, 2, 3, 4, 5, 6, 7, 8, 9, 10, 11, 12, 13, 14, 15, 16, 17, 18, 19, 20, 21, 22, 23, 24, 25, 26, 27, 28, 29, 30, 31, 32, 33, 34, 35, 36, 37, 38, 39, 40, 41, 42, 43, 44, 45, 46], [0, 1, 2, 3, 4, 5, 6, 7, 8, 9, 10, 11, 12, 13, 14, 15, 16, 17, 18, 19, 20, 21, 22, 23, 24, 25, 26, 27, 28, 29, 30, 31, 32, 33, 34, 35, 36, 37, 38, 39, 40, 41, 42, 43, 44, 45, 46, 47], [0, 1, 2, 3, 4, 5, 6, 7, 8, 9, 10, 11, 12, 13, 14, 15, 16, 17, 18, 19, 20, 21, 22, 23, 24, 25, 26, 27, 28, 29, 30, 31, 32, 33, 34, 35, 36, 37, 38, 39, 40, 41, 42, 43, 44, 45, 46, 47, 48], [0, 1, 2, 3, 4, 5, 6, 7, 8, 9, 10, 11, 12, 13, 14, 15, 16, 17, 18, 19, 20, 21, 22, 23, 24, 25, 26, 27, 28, 29, 30, 31, 32, 33, 34, 35, 36, 37, 38, 39, 40, 41, 42, 43, 44, 45, 46, 47, 48, 49], [0, 1, 2, 3, 4, 5, 6, 7, 8, 9, 10, 11, 12, 13, 14, 15, 16, 17, 18, 19, 20, 21, 22, 23, 24, 25, 26, 27, 28, 29, 30, 31, 32, 33, 34, 35, 36, 37, 38, 39, 40, 41, 42, 43, 44, 45, 46, 47], [0, 1, 2, 3, 4, 5, 6, 7, 8, 9, 10, 11, 12, 13, 14, 15, 16, 17, 18, 19, 20, 21, 22, 23, 24, 25, 26, 27, 28, 29, 30, 31, 32, 33, 34, 35, 36, 37, 38, 39, 40, 41, 42, 43, 44, 45, 46, 47, 48, 49, 50, 51], [0, 1, 2, 3, 4, 5, 6, 7, 8, 9, 10, 11, 12, 13, 14, 15, 16, 17, 18, 19, 20, 21, 22, 23, 24, 25, 26, 27, 28, 29, 30, 31, 32, 33, 34, 35, 36, 37, 38, 39, 40, 41, 42, 43, 44, 45, 46, 47, 48, 49, 50, 51, 52], [0, 1, 2, 3, 4, 5, 6, 7, 8, 9, 10, 11, 12, 13, 14, 15, 16, 17, 18, 19, 20, 21, 22, 23, 24, 25, 26, 27, 28, 29, 30, 31, 32, 33, 34, 35, 36, 37, 38, 39, 40, 41, 42, 43, 44, 45, 46, 47, 48, 49, 50, 51, 52, 53], [0, 1, 2, 3, 4, 5, 6, 7, 8, 9, 10, 11, 12, 13, 14, 15, 16, 17, 18, 19, 20, 21, 22, 23, 24, 25, 26, 27, 28, 29, 30, 31, 32, 33, 34, 35, 36, 37, 38, 39, 40, 41, 42, 43, 44, 45, 46, 47, 48, 49, 50, 51, 52, 53, 54], [0, 1, 2, 3, 4, 5, 6, 7, 8, 9, 10, 11, 12, 13, 14, 15, 16, 17, 18, 19, 20, 21, 22, 23, 24, 25, 26, 27, 28, 29, 30, 31, 32, 33, 34, 35, 36, 37, 38, 39, 40, 41, 42, 43, 44, 45, 46, 47, 48, 49, 50, 51, 52, 53, 54, 55], [0, 1, 2, 3, 4, 5, 6, 7, 8, 9, 10, 11, 12, 13, 14, 15, 16, 17, 18, 19, 20, 21, 22, 23, 24, 25, 26, 27, 28, 29, 30, 31, 32, 33, 34, 35, 36, 37, 38, 39, 40, 41, 42, 43, 44, 45, 46, 47, 48, 49, 50, 51, 52, 53, 54, 55, 56]] [[], [], [], [], [], [], [], [], [], [], [], [], [], [], [], [], [], [], [], [], [], [], [], [], [], [], [], [], [], [], [], [], [], [], [], [], [], [], [], [], [], [], [], [], [], [], [], [], [], [], [], [], [], [], [], [], [], []] Try.mix hE (by decide) (by kernel_rfl) 604 rfl (fun hr0 => ?_)
                  refine an_op hr0 rfl 140 1 rfl rfl (withEv (x := .tmp 12) (ev_E (by kernel_rfl) rfl) (fun h1 => by first | exact ok_fieldr rfl Try.o96_2 h1 | exact ok_fieldp rfl Try.o96_2 h1)) rfl (fun hr1 => ?_)
                  clear hr0
                  refine an_op hr1 rfl 148 2 rfl rfl (withEv (x := .tmp 144) (ev_T hr1 0 0 rfl (by kernel_rfl) rfl) (fun h1 => by first | exact ld1 Try.r22 rfl h1 (by first | exact ctx_HE hr1.ok (by kernel_rfl) rfl) (by first | assumption | rfl) | exact lp1 Try.r22 rfl h1 (by first | assumption | rfl))) rfl (fun hr2 => ?_)
                  clear hr1
                  refine an_op hr2 rfl 156 3 rfl rfl (ok_move rfl (ev_E (by kernel_rfl) rfl)) rfl (fun hr3 => ?_)
                  clear hr2
                  refine an_op hr3 rfl 164 4 rfl rfl (withEv (x := .tmp 145) (ev_T hr3 1 1 rfl (by kernel_rfl) rfl) (fun h1 => withEv (x := .tmp 146) (ev_T hr3 2 0 rfl (by kernel_rfl) rfl) (fun h2 => by first | exact ix_p Try.e22 rfl h1 h2 (by omega) | exact ix_r Try.e22 rfl h1 (by first | exact ctx_HE hr3.ok (by kernel_rfl) rfl) h2 (by omega) | exact ok_indexp rfl Try.e22 h1 h2 (by omega) (by omega) | exact ok_indexr rfl Try.e22 h1 (by first | exact ctx_HE hr3.ok (by kernel_rfl) rfl) h2 (by omega) (by omega)))) rfl (fun hr4 => ?_)
                  clear hr3
                  refine an_op hr4 rfl 172 5 rfl rfl (withEv (x := .tmp 147) (ev_T hr4 3 0 rfl (by kernel_rfl) rfl) (fun h1 => by first | exact ld1 Try.r3 rfl h1 (by first | exact ctx_HE hr4.ok (by kernel_rfl) rfl) (by first | assumption | rfl) | exact lp1 Try.r3 rfl h1 (by first | assumption | rfl))) rfl (fun hr5 => ?_)
                  clear hr4
                  refine an_op hr5 rfl 180 6 rfl rfl (okB (ok_lss rfl (ev_T hr5 4 0 rfl (by kernel_rfl) rfl) rfl) (decide_eq_false (by omega))) rfl (fun hr6 => ?_)
                  clear hr5
                  refine an_op hr6 rfl 188 7 rfl rfl (ok_move rfl (ev_T hr6 5 0 rfl (by kernel_rfl) rfl)) rfl (fun hr7 => ?_)
                  clear hr6
                  refine an_on hr7 rfl rfl (ctx_T 6 (by kernel_rfl) (RsI.rev hr7 (q := 0) rfl rfl)) 196 8 rfl rfl (withEv (x := .tmp 12) (ev_E (by kernel_rfl) rfl) (fun h1 => by first | exact ok_fieldr rfl Try.o96_2 h1 | exact ok_fieldp rfl Try.o96_2 h1)) rfl (fun hr8 => ?_)
                  clear hr7
                  refine an_on hr8 rfl rfl (ctx_T 6 (by kernel_rfl) (RsI.rev hr8 (q := 1) rfl rfl)) 204 9 rfl rfl (withEv (x := .tmp 151) (ev_T hr8 7 0 rfl (by kernel_rfl) rfl) (fun h1 => by first | exact ld1 Try.r22 rfl h1 (by first | exact ctx_HE hr8.ok (by kernel_rfl) rfl) (by first | assumption | rfl) | exact lp1 Try.r22 rfl h1 (by first | assumption | rfl))) rfl (fun hr9 => ?_)
                  clear hr8
                  refine an_on hr9 rfl rfl (ctx_T 6 (by kernel_rfl) (RsI.rev hr9 (q := 2) rfl rfl)) 212 10 rfl rfl (ok_move rfl (ev_E (by kernel_rfl) rfl)) rfl (fun hr10 => ?_)
                  clear hr9
                  refine an_on hr10 rfl rfl (ctx_T 6 (by kernel_rfl) (RsI.rev hr10 (q := 3) rfl rfl)) 220 11 rfl rfl (withEv (x := .tmp 152) (ev_T hr10 8 1 rfl (by kernel_rfl) rfl) (fun h1 => withEv (x := .tmp 153) (ev_T hr10 9 0 rfl (by kernel_rfl) rfl) (fun h2 => by first | exact ix_p Try.e22 rfl h1 h2 (by omega) | exact ix_r Try.e22 rfl h1 (by first | exact ctx_HE hr10.ok (by kernel_rfl) rfl) h2 (by omega) | exact ok_indexp rfl Try.e22 h1 h2 (by omega) (by omega) | exact ok_indexr rfl Try.e22 h1 (by first | exact ctx_HE hr10.ok (by kernel_rfl) rfl) h2 (by omega) (by omega)))) rfl (fun hr11 => ?_)
                  clear hr10
                  refine an_on hr11 rfl rfl (ctx_T 6 (by kernel_rfl) (RsI.rev hr11 (q := 4) rfl rfl)) 228 12 rfl rfl (withEv (x := .tmp 154) (ev_T hr11 10 0 rfl (by kernel_rfl) rfl) (fun h1 => by first | exact ld1 Try.r3 rfl h1 (by first | exact ctx_HE hr11.ok (by kernel_rfl) rfl) (by first | assumption | rfl) | exact lp1 Try.r3 rfl h1 (by first | assumption | rfl))) rfl (fun hr12 => ?_)
                  clear hr11
                  refine an_on hr12 rfl rfl (ctx_T 6 (by kernel_rfl) (RsI.rev hr12 (q := 5) rfl rfl)) 236 13 rfl rfl (withEv (x := .tmp 5) (ev_E (by kernel_rfl) rfl) (fun h1 => by first | exact ok_fieldr rfl Try.o45_2 h1 | exact ok_fieldp rfl Try.o45_2 h1)) rfl (fun hr13 => ?_)
                  clear hr12
                  refine an_on hr13 rfl rfl (ctx_T 6 (by kernel_rfl) (RsI.rev hr13 (q := 6) rfl rfl)) 244 14 rfl rfl (withEv (x := .tmp 156) (ev_T hr13 12 0 rfl (by kernel_rfl) rfl) (fun h1 => by first | exact ld1 Try.r43 rfl h1 (by first | exact ctx_HE hr13.ok (by kernel_rfl) rfl) (by first | assumption | rfl) | exact lp1 Try.r43 rfl h1 (by first | assumption | rfl))) rfl (fun hr14 => ?_)
                  clear hr13
                  refine an_on hr14 rfl rfl (ctx_T 6 (by kernel_rfl) (RsI.rev hr14 (q := 7) rfl rfl)) 252 15 rfl rfl (withEv (x := .tmp 157) (ev_T hr14 13 0 rfl (by kernel_rfl) rfl) (fun h1 => by first | exact ok_len Try.sl43 rfl rfl (.t h1) | exact ok_len Try.sl43 rfl rfl (.own h1 (by first | exact ctx_HE hr14.ok (by kernel_rfl) rfl)) | exact ok_len Try.sl43 rfl rfl (.nil h1))) rfl (fun hr15 => ?_)
                  clear hr14
                  refine an_on hr15 rfl rfl (ctx_T 6 (by kernel_rfl) (RsI.rev hr15 (q := 8) rfl rfl)) 260 16 rfl rfl (okB (ok_geq rfl (ev_T hr15 11 3 rfl (by kernel_rfl) rfl) (ev_T hr15 14 0 rfl (by kernel_rfl) rfl)) (decide_eq_false (by omega))) rfl (fun hr16 => ?_)
                  clear hr15
                  refine an_op hr16 rfl 268 17 rfl rfl (by first | exact ok_pick_t rfl (ev_T hr16 6 9 rfl (by kernel_rfl) rfl) rfl | exact ok_pick_f rfl (ev_T hr16 6 9 rfl (by kernel_rfl) rfl) (ev_T hr16 15 0 rfl (by kernel_rfl) rfl)) rfl (fun hr17 => ?_)
                  clear hr16
                  refine an_op hr17 rfl 276 18 rfl rfl (ok_move rfl (ev_T hr17 16 0 rfl (by kernel_rfl) rfl)) rfl (fun hr18 => ?_)
                  clear hr17
                  refine an_on hr18 rfl rfl (ctx_T 17 (by kernel_rfl) (RsI.rev hr18 (q := 0) rfl rfl)) 284 19 rfl rfl (withEv (x := .tmp 12) (ev_E (by kernel_rfl) rfl) (fun h1 => by first | exact ok_fieldr rfl Try.o96_2 h1 | exact ok_fieldp rfl Try.o96_2 h1)) rfl (fun hr19 => ?_)
                  clear hr18
                  refine an_on hr19 rfl rfl (ctx_T 17 (by kernel_rfl) (RsI.rev hr19 (q := 1) rfl rfl)) 292 20 rfl rfl (withEv (x := .tmp 162) (ev_T hr19 18 0 rfl (by kernel_rfl) rfl) (fun h1 => by first | exact ld1 Try.r22 rfl h1 (by first | exact ctx_HE hr19.ok (by kernel_rfl) rfl | exact ev_H hr19 14 4 rfl (by kernel_rfl) rfl rfl) (by first | assumption | rfl) | exact lp1 Try.r22 rfl h1 (by first | assumption | rfl))) rfl (fun hr20 => ?_)
                  clear hr19
                  refine an_on hr20 rfl rfl (ctx_T 17 (by kernel_rfl) (RsI.rev hr20 (q := 2) rfl rfl)) 300 21 rfl rfl (ok_move rfl (ev_E (by kernel_rfl) rfl)) rfl (fun hr21 => ?_)
                  clear hr20
                  refine an_on hr21 rfl rfl (ctx_T 17 (by kernel_rfl) (RsI.rev hr21 (q := 3) rfl rfl)) 308 22 rfl rfl (withEv (x := .tmp 163) (ev_T hr21 19 1 rfl (by kernel_rfl) rfl) (fun h1 => withEv (x := .tmp 164) (ev_T hr21 20 0 rfl (by kernel_rfl) rfl) (fun h2 => by first | exact ix_p Try.e22 rfl h1 h2 (by omega) | exact ix_r Try.e22 rfl h1 (by first | exact ctx_HE hr21.ok (by kernel_rfl) rfl | exact ev_H hr21 14 6 rfl (by kernel_rfl) rfl rfl) h2 (by omega) | exact ok_indexp rfl Try.e22 h1 h2 (by omega) (by omega) | exact ok_indexr rfl Try.e22 h1 (by first | exact ctx_HE hr21.ok (by kernel_rfl) rfl | exact ev_H hr21 14 6 rfl (by kernel_rfl) rfl rfl) h2 (by omega) (by omega)))) rfl (fun hr22 => ?_)
                  clear hr21
                  refine an_on hr22 rfl rfl (ctx_T 17 (by kernel_rfl) (RsI.rev hr22 (q := 4) rfl rfl)) 316 23 rfl rfl (withEv (x := .tmp 165) (ev_T hr22 21 0 rfl (by kernel_rfl) rfl) (fun h1 => by first | exact ld1 Try.r3 rfl h1 (by first | exact ctx_HE hr22.ok (by kernel_rfl) rfl | exact ev_H hr22 14 7 rfl (by kernel_rfl) rfl rfl) (by first | assumption | rfl) | exact lp1 Try.r3 rfl h1 (by first | assumption | rfl))) rfl (fun hr23 => ?_)
                  clear hr22
                  refine an_on hr23 rfl rfl (ctx_T 17 (by kernel_rfl) (RsI.rev hr23 (q := 5) rfl rfl)) 324 24 rfl rfl (okB (ok_lss rfl (ev_T hr23 22 0 rfl (by kernel_rfl) rfl) rfl) (decide_eq_false (by omega))) rfl (fun hr24 => ?_)
                  clear hr23
                  refine an_op hr24 rfl 332 25 rfl rfl (by first | exact ok_pick_t rfl (ev_T hr24 17 6 rfl (by kernel_rfl) rfl) rfl | exact ok_pick_f rfl (ev_T hr24 17 6 rfl (by kernel_rfl) rfl) (ev_T hr24 23 0 rfl (by kernel_rfl) rfl)) rfl (fun hr25 => ?_)
                  clear hr24
                  refine an_op hr25 rfl 340 26 rfl rfl (ok_move rfl (ev_T hr25 24 0 rfl (by kernel_rfl) rfl)) rfl (fun hr26 => ?_)
                  clear hr25
                  refine an_on hr26 rfl rfl (ctx_T 25 (by kernel_rfl) (RsI.rev hr26 (q := 0) rfl rfl)) 348 27 rfl rfl (withEv (x := .tmp 12) (ev_E (by kernel_rfl) rfl) (fun h1 => by first | exact ok_fieldr rfl Try.o96_2 h1 | exact ok_fieldp rfl Try.o96_2 h1)) rfl (fun hr27 => ?_)
                  clear hr26
                  refine an_on hr27 rfl rfl (ctx_T 25 (by kernel_rfl) (RsI.rev hr27 (q := 1) rfl rfl)) 356 28 rfl rfl (withEv (x := .tmp 170) (ev_T hr27 26 0 rfl (by kernel_rfl) rfl) (fun h1 => by first | exact ld1 Try.r22 rfl h1 (by first | exact ctx_HE hr27.ok (by kernel_rfl) rfl | exact ev_H hr27 14 12 rfl (by kernel_rfl) rfl rfl) (by first | assumption | rfl) | exact lp1 Try.r22 rfl h1 (by first | assumption | rfl))) rfl (fun hr28 => ?_)
                  clear hr27
                  refine an_on hr28 rfl rfl (ctx_T 25 (by kernel_rfl) (RsI.rev hr28 (q := 2) rfl rfl)) 364 29 rfl rfl (ok_move rfl (ev_E (by kernel_rfl) rfl)) rfl (fun hr29 => ?_)
                  clear hr28
                  refine an_on hr29 rfl rfl (ctx_T 25 (by kernel_rfl) (RsI.rev hr29 (q := 3) rfl rfl)) 372 30 rfl rfl (withEv (x := .tmp 171) (ev_T hr29 27 1 rfl (by kernel_rfl) rfl) (fun h1 => withEv (x := .tmp 172) (ev_T hr29 28 0 rfl (by kernel_rfl) rfl) (fun h2 => by first | exact ix_p Try.e22 rfl h1 h2 (by omega) | exact ix_r Try.e22 rfl h1 (by first | exact ctx_HE hr29.ok (by kernel_rfl) rfl | exact ev_H hr29 14 14 rfl (by kernel_rfl) rfl rfl) h2 (by omega) | exact ok_indexp rfl Try.e22 h1 h2 (by omega) (by omega) | exact ok_indexr rfl Try.e22 h1 (by first | exact ctx_HE hr29.ok (by kernel_rfl) rfl | exact ev_H hr29 14 14 rfl (by kernel_rfl) rfl rfl) h2 (by omega) (by omega)))) rfl (fun hr30 => ?_)
                  clear hr29
                  refine an_on hr30 rfl rfl (ctx_T 25 (by kernel_rfl) (RsI.rev hr30 (q := 4) rfl rfl)) 380 31 rfl rfl (withEv (x := .tmp 173) (ev_T hr30 29 0 rfl (by kernel_rfl) rfl) (fun h1 => by first | exact ld1 Try.r3 rfl h1 (by first | exact ctx_HE hr30.ok (by kernel_rfl) rfl | exact ev_H hr30 14 15 rfl (by kernel_rfl) rfl rfl) (by first | assumption | rfl) | exact lp1 Try.r3 rfl h1 (by first | assumption | rfl))) rfl (fun hr31 => ?_)
                  clear hr30
                  refine an_on hr31 rfl rfl (ctx_T 25 (by kernel_rfl) (RsI.rev hr31 (q := 5) rfl rfl)) 388 32 rfl rfl (withEv (x := .tmp 5) (ev_E (by kernel_rfl) rfl) (fun h1 => by first | exact ok_fieldr rfl Try.o45_2 h1 | exact ok_fieldp rfl Try.o45_2 h1)) rfl (fun hr32 => ?_)
                  clear hr31
                  refine an_on hr32 rfl rfl (ctx_T 25 (by kernel_rfl) (RsI.rev hr32 (q := 6) rfl rfl)) 396 33 rfl rfl (withEv (x := .tmp 175) (ev_T hr32 31 0 rfl (by kernel_rfl) rfl) (fun h1 => by first | exact ld1 Try.r43 rfl h1 (by first | exact ctx_HE hr32.ok (by kernel_rfl) rfl | exact ev_H hr32 14 17 rfl (by kernel_rfl) rfl rfl) (by first | assumption | rfl) | exact lp1 Try.r43 rfl h1 (by first | assumption | rfl))) rfl (fun hr33 => ?_)
                  clear hr32
                  refine an_on hr33 rfl rfl (ctx_T 25 (by kernel_rfl) (RsI.rev hr33 (q := 7) rfl rfl)) 404 34 rfl rfl (withEv (x := .tmp 176) (ev_T hr33 32 0 rfl (by kernel_rfl) rfl) (fun h1 => by first | exact ok_len Try.sl43 rfl rfl (.t h1) | exact ok_len Try.sl43 rfl rfl (.own h1 (by first | exact ctx_HE hr33.ok (by kernel_rfl) rfl | exact ev_H hr33 14 18 rfl (by kernel_rfl) rfl rfl)) | exact ok_len Try.sl43 rfl rfl (.nil h1))) rfl (fun hr34 => ?_)
                  clear hr33
                  refine an_on hr34 rfl rfl (ctx_T 25 (by kernel_rfl) (RsI.rev hr34 (q := 8) rfl rfl)) 412 35 rfl rfl (okB (ok_geq rfl (ev_T hr34 30 3 rfl (by kernel_rfl) rfl) (ev_T hr34 33 0 rfl (by kernel_rfl) rfl)) (decide_eq_false (by omega))) rfl (fun hr35 => ?_)
                  clear hr34
                  refine an_op hr35 rfl 420 36 rfl rfl (by first | exact ok_pick_t rfl (ev_T hr35 25 9 rfl (by kernel_rfl) rfl) rfl | exact ok_pick_f rfl (ev_T hr35 25 9 rfl (by kernel_rfl) rfl) (ev_T hr35 34 0 rfl (by kernel_rfl) rfl)) rfl (fun hr36 => ?_)
                  clear hr35
                  refine an_op hr36 rfl 428 37 rfl rfl (ok_move rfl (ev_T hr36 35 0 rfl (by kernel_rfl) rfl)) rfl (fun hr37 => ?_)
                  clear hr36
                  refine an_on hr37 rfl rfl (ctx_T 36 (by kernel_rfl) (RsI.rev hr37 (q := 0) rfl rfl)) 436 38 rfl rfl (withEv (x := .tmp 12) (ev_E (by kernel_rfl) rfl) (fun h1 => by first | exact ok_fieldr rfl Try.o96_1 h1 | exact ok_fieldp rfl Try.o96_1 h1)) rfl (fun hr38 => ?_)
                  clear hr37
                  refine an_on hr38 rfl rfl (ctx_T 36 (by kernel_rfl) (RsI.rev hr38 (q := 1) rfl rfl)) 444 39 rfl rfl (withEv (x := .tmp 181) (ev_T hr38 37 0 rfl (by kernel_rfl) rfl) (fun h1 => by first | exact ok_fieldr rfl Try.o45_2 h1 | exact ok_fieldp rfl Try.o45_2 h1)) rfl (fun hr39 => ?_)
                  clear hr38
                  refine an_on hr39 rfl rfl (ctx_T 36 (by kernel_rfl) (RsI.rev hr39 (q := 2) rfl rfl)) 452 40 rfl rfl (withEv (x := .tmp 182) (ev_T hr39 38 0 rfl (by kernel_rfl) rfl) (fun h1 => by first | exact ld1 Try.r43 rfl h1 (by first | exact ctx_HE hr39.ok (by kernel_rfl) rfl | exact ev_H hr39 33 5 rfl (by kernel_rfl) rfl rfl | exact ev_H hr39 14 24 rfl (by kernel_rfl) rfl rfl) (by first | assumption | rfl) | exact lp1 Try.r43 rfl h1 (by first | assumption | rfl))) rfl (fun hr40 => ?_)
                  clear hr39
                  refine an_on hr40 rfl rfl (ctx_T 36 (by kernel_rfl) (RsI.rev hr40 (q := 3) rfl rfl)) 460 41 rfl rfl (ok_move rfl (ev_E (by kernel_rfl) rfl)) rfl (fun hr41 => ?_)
                  clear hr40
                  refine an_on hr41 rfl rfl (ctx_T 36 (by kernel_rfl) (RsI.rev hr41 (q := 4) rfl rfl)) 468 42 rfl rfl (withEv (x := .tmp 183) (ev_T hr41 39 1 rfl (by kernel_rfl) rfl) (fun h1 => withEv (x := .tmp 184) (ev_T hr41 40 0 rfl (by kernel_rfl) rfl) (fun h2 => by first | exact ix_p Try.e43 rfl h1 h2 (by omega) | exact ix_r Try.e43 rfl h1 (by first | exact ctx_HE hr41.ok (by kernel_rfl) rfl | exact ev_H hr41 33 7 rfl (by kernel_rfl) rfl rfl | exact ev_H hr41 14 26 rfl (by kernel_rfl) rfl rfl) h2 (by omega) | exact ok_indexp rfl Try.e43 h1 h2 (by omega) (by omega) | exact ok_indexr rfl Try.e43 h1 (by first | exact ctx_HE hr41.ok (by kernel_rfl) rfl | exact ev_H hr41 33 7 rfl (by kernel_rfl) rfl rfl | exact ev_H hr41 14 26 rfl (by kernel_rfl) rfl rfl) h2 (by omega) (by omega)))) rfl (fun hr42 => ?_)
                  clear hr41
                  refine an_on hr42 rfl rfl (ctx_T 36 (by kernel_rfl) (RsI.rev hr42 (q := 5) rfl rfl)) 476 43 rfl rfl (withEv (x := .tmp 185) (ev_T hr42 41 0 rfl (by kernel_rfl) rfl) (fun h1 => by first | exact ok_fieldr rfl Try.o51_1 h1 | exact ok_fieldp rfl Try.o51_1 h1)) rfl (fun hr43 => ?_)
                  clear hr42
                  refine an_on hr43 rfl rfl (ctx_T 36 (by kernel_rfl) (RsI.rev hr43 (q := 6) rfl rfl)) 484 44 rfl rfl (withEv (x := .tmp 186) (ev_T hr43 42 0 rfl (by kernel_rfl) rfl) (fun h1 => by first | exact ld1 Try.r49 rfl h1 (by first | exact ctx_HE hr43.ok (by kernel_rfl) rfl | exact ev_H hr43 33 9 rfl (by kernel_rfl) rfl rfl | exact ev_H hr43 14 28 rfl (by kernel_rfl) rfl rfl) (by first | assumption | rfl) | exact lp1 Try.r49 rfl h1 (by first | assumption | rfl))) rfl (fun hr44 => ?_)
                  clear hr43
                  refine an_on hr44 rfl rfl (ctx_T 36 (by kernel_rfl) (RsI.rev hr44 (q := 7) rfl rfl)) 492 45 rfl rfl (withEv (x := .tmp 187) (ev_T hr44 43 0 rfl (by kernel_rfl) rfl) (fun h1 => by first | exact ok_len Try.sl49 rfl rfl (.t h1) | exact ok_len Try.sl49 rfl rfl (.own h1 (by first | exact ctx_HE hr44.ok (by kernel_rfl) rfl | exact ev_H hr44 33 10 rfl (by kernel_rfl) rfl rfl | exact ev_H hr44 14 29 rfl (by kernel_rfl) rfl rfl)) | exact ok_len Try.sl49 rfl rfl (.nil h1))) rfl (fun hr45 => ?_)
                  clear hr44
                  refine an_on hr45 rfl rfl (ctx_T 36 (by kernel_rfl) (RsI.rev hr45 (q := 8) rfl rfl)) 500 46 rfl rfl (okB (ok_eql rfl (ev_T hr45 44 0 rfl (by kernel_rfl) rfl) rfl) (decide_eq_false (by omega))) rfl (fun hr46 => ?_)
                  clear hr45
                  refine an_op hr46 rfl 508 47 rfl rfl (by first | exact ok_pick_t rfl (ev_T hr46 36 9 rfl (by kernel_rfl) rfl) rfl | exact ok_pick_f rfl (ev_T hr46 36 9 rfl (by kernel_rfl) rfl) (ev_T hr46 45 0 rfl (by kernel_rfl) rfl)) rfl (fun hr47 => ?_)
                  clear hr46
                  refine an_op hr47 rfl 516 48 rfl rfl (ok_move rfl (ev_T hr47 46 0 rfl (by kernel_rfl) rfl)) rfl (fun hr48 => ?_)
                  clear hr47
                  refine an_on hr48 rfl rfl (ctx_T 47 (by kernel_rfl) (RsI.rev hr48 (q := 0) rfl rfl)) 524 49 rfl rfl (withEv (x := .tmp 12) (ev_E (by kernel_rfl) rfl) (fun h1 => by first | exact ok_fieldr rfl Try.o96_1 h1 | exact ok_fieldp rfl Try.o96_1 h1)) rfl (fun hr49 => ?_)
                  clear hr48
                  refine an_on hr49 rfl rfl (ctx_T 47 (by kernel_rfl) (RsI.rev hr49 (q := 1) rfl rfl)) 532 50 rfl rfl (withEv (x := .tmp 192) (ev_T hr49 48 0 rfl (by kernel_rfl) rfl) (fun h1 => by first | exact ok_fieldr rfl Try.o45_2 h1 | exact ok_fieldp rfl Try.o45_2 h1)) rfl (fun hr50 => ?_)
                  clear hr49
                  refine an_on hr50 rfl rfl (ctx_T 47 (by kernel_rfl) (RsI.rev hr50 (q := 2) rfl rfl)) 540 51 rfl rfl (withEv (x := .tmp 193) (ev_T hr50 49 0 rfl (by kernel_rfl) rfl) (fun h1 => by first | exact ld1 Try.r43 rfl h1 (by first | exact ctx_HE hr50.ok (by kernel_rfl) rfl | exact ev_H hr50 44 5 rfl (by kernel_rfl) rfl rfl | exact ev_H hr50 33 16 rfl (by kernel_rfl) rfl rfl | exact ev_H hr50 14 35 rfl (by kernel_rfl) rfl rfl) (by first | assumption | rfl) | exact lp1 Try.r43 rfl h1 (by first | assumption | rfl))) rfl (fun hr51 => ?_)
                  clear hr50
                  refine an_on hr51 rfl rfl (ctx_T 47 (by kernel_rfl) (RsI.rev hr51 (q := 3) rfl rfl)) 548 52 rfl rfl (ok_move rfl (ev_E (by kernel_rfl) rfl)) rfl (fun hr52 => ?_)
                  clear hr51
                  refine an_on hr52 rfl rfl (ctx_T 47 (by kernel_rfl) (RsI.rev hr52 (q := 4) rfl rfl)) 556 53 rfl rfl (withEv (x := .tmp 194) (ev_T hr52 50 1 rfl (by kernel_rfl) rfl) (fun h1 => withEv (x := .tmp 195) (ev_T hr52 51 0 rfl (by kernel_rfl) rfl) (fun h2 => by first | exact ix_p Try.e43 rfl h1 h2 (by omega) | exact ix_r Try.e43 rfl h1 (by first | exact ctx_HE hr52.ok (by kernel_rfl) rfl | exact ev_H hr52 44 7 rfl (by kernel_rfl) rfl rfl | exact ev_H hr52 33 18 rfl (by kernel_rfl) rfl rfl | exact ev_H hr52 14 37 rfl (by kernel_rfl) rfl rfl) h2 (by omega) | exact ok_indexp rfl Try.e43 h1 h2 (by omega) (by omega) | exact ok_indexr rfl Try.e43 h1 (by first | exact ctx_HE hr52.ok (by kernel_rfl) rfl | exact ev_H hr52 44 7 rfl (by kernel_rfl) rfl rfl | exact ev_H hr52 33 18 rfl (by kernel_rfl) rfl rfl | exact ev_H hr52 14 37 rfl (by kernel_rfl) rfl rfl) h2 (by omega) (by omega)))) rfl (fun hr53 => ?_)
                  clear hr52
                  refine an_on hr53 rfl rfl (ctx_T 47 (by kernel_rfl) (RsI.rev hr53 (q := 5) rfl rfl)) 564 54 rfl rfl (withEv (x := .tmp 196) (ev_T hr53 52 0 rfl (by kernel_rfl) rfl) (fun h1 => by first | exact ok_fieldr rfl Try.o51_1 h1 | exact ok_fieldp rfl Try.o51_1 h1)) rfl (fun hr54 => ?_)
                  clear hr53
                  refine an_on hr54 rfl rfl (ctx_T 47 (by kernel_rfl) (RsI.rev hr54 (q := 6) rfl rfl)) 572 55 rfl rfl (withEv (x := .tmp 197) (ev_T hr54 53 0 rfl (by kernel_rfl) rfl) (fun h1 => by first | exact ld1 Try.r49 rfl h1 (by first | exact ctx_HE hr54.ok (by kernel_rfl) rfl | exact ev_H hr54 44 9 rfl (by kernel_rfl) rfl rfl | exact ev_H hr54 33 20 rfl (by kernel_rfl) rfl rfl | exact ev_H hr54 14 39 rfl (by kernel_rfl) rfl rfl) (by first | assumption | rfl) | exact lp1 Try.r49 rfl h1 (by first | assumption | rfl))) rfl (fun hr55 => ?_)
                  clear hr54
                  refine an_on hr55 rfl rfl (ctx_T 47 (by kernel_rfl) (RsI.rev hr55 (q := 7) rfl rfl)) 580 56 rfl rfl (withEv (x := .tmp 198) (ev_T hr55 54 0 rfl (by kernel_rfl) rfl) (fun h1 => by first | exact ok_len Try.sl49 rfl rfl (.t h1) | exact ok_len Try.sl49 rfl rfl (.own h1 (by first | exact ctx_HE hr55.ok (by kernel_rfl) rfl | exact ev_H hr55 44 10 rfl (by kernel_rfl) rfl rfl | exact ev_H hr55 33 21 rfl (by kernel_rfl) rfl rfl | exact ev_H hr55 14 40 rfl (by kernel_rfl) rfl rfl)) | exact ok_len Try.sl49 rfl rfl (.nil h1))) rfl (fun hr56 => ?_)
                  clear hr55
                  refine an_on hr56 rfl rfl (ctx_T 47 (by kernel_rfl) (RsI.rev hr56 (q := 8) rfl rfl)) 588 57 rfl rfl (okB (ok_eql rfl (ev_T hr56 55 0 rfl (by kernel_rfl) rfl) rfl) (decide_eq_false (by omega))) rfl (fun hr57 => ?_)
                  clear hr56
                  refine an_op hr57 rfl 596 58 rfl rfl (by first | exact ok_pick_t rfl (ev_T hr57 47 9 rfl (by kernel_rfl) rfl) rfl | exact ok_pick_f rfl (ev_T hr57 47 9 rfl (by kernel_rfl) rfl) (ev_T hr57 56 0 rfl (by kernel_rfl) rfl)) rfl (fun hr58 => ?_)
                  clear hr57
                  refine an_nil [some 144, some 145, some 146, some 147, some 148, some 149, some 150, some 151, some 152, some 153, some 154, some 155, some 156, some 157, some 158, some 159, some 160, some 161, some 162, some 163, some 164, some 165, some 166, some 167, some 168, some 169, some 170, some 171, some 172, some 173, some 174, some 175, some 176, some 177, some 178, some 179, some 180, some 181, some 182, some 183, some 184, some 185, some 186, some 187, some 188, some 189, some 190, some 191, some 192, some 193, some 194, some 195, some 196, some 197, some 198, some 199, some 200, some 201] hr58 rfl (by kernel_rfl) ?_
                  clear hr58
                  refine aw_cond rfl (fun hb9 => ?_) (fun hb9 => ?_)
                  · exact absurd hb9 (by decide)
                  · skip
                    refine aw_skip ?_
                    refine aw_seq ?_
                    refine aw_region 668 hE (by decide) rfl rfl ?_
                    refine sq_op (some 202) 612 rfl rfl rfl (withEv (x := .tmp 12) rfl (fun h1 => by first | exact ok_fieldr rfl Try.o96_1 h1 | exact ok_fieldp rfl Try.o96_1 h1)) ?_
                    refine sq_op (some 203) 620 rfl rfl rfl (withEv (x := .tmp 202) rfl (fun h1 => by first | exact ok_fieldr rfl Try.o45_2 h1 | exact ok_fieldp rfl Try.o45_2 h1)) ?_
                    refine sq_op (some 204) 628 rfl rfl rfl (withEv (x := .tmp 203) rfl (fun h1 => by first | exact ld1 Try.r43 rfl h1 rfl (by first | assumption | rfl) | exact lp1 Try.r43 rfl h1 (by first | assumption | rfl))) ?_
                    refine sq_op (some 205) 636 rfl rfl rfl (ok_move rfl rfl) ?_
                    refine sq_op (some 206) 644 rfl rfl rfl (withEv (x := .tmp 204) rfl (fun h1 => withEv (x := .tmp 205) rfl (fun h2 => by first | exact ix_p Try.e43 rfl h1 h2 (by omega) | exact ix_r Try.e43 rfl h1 rfl h2 (by omega) | exact ok_indexp rfl Try.e43 h1 h2 (by omega) (by omega) | exact ok_indexr rfl Try.e43 h1 rfl h2 (by omega) (by omega)))) ?_
                    refine sq_op (some 207) 652 rfl rfl rfl (withEv (x := .tmp 206) rfl (fun h1 => by first | exact ldc Try.r51 Try.s51 rfl h1 rfl (by first | exact (.take (.take .done)) | exact (.skip (.take (.take .done))) | exact (.skip (.skip (.take (.take .done)))) | exact (.skip (.skip (.skip (.take (.take .done))))) | exact (.skip (.skip (.skip (.skip (.take (.take .done)))))) | exact (.skip (.skip (.skip (.skip (.skip (.take (.take .done))))))) | exact (.skip (.skip (.skip (.skip (.skip (.skip (.take (.take .done)))))))) | exact (.skip (.skip (.skip (.skip (.skip (.skip (.skip (.take (.take .done))))))))) | exact (.skip (.skip (.skip (.skip (.skip (.skip (.skip (.skip (.take (.take .done))))))))))) | exact lpn Try.r51 Try.s51 rfl h1 (by first | assumption | rfl) rfl)) ?_
                    refine sq_op (some 15) 660 rfl rfl rfl (ok_alloc rfl Try.z51 rfl) ?_
                    refine sq_op none 668 rfl rfl rfl (withEv (x := .tmp 207) rfl (fun h1 => by first | exact stb (.ev h1) rfl Try.s51 rfl rfl rfl (by first | exact (.put (.put .done)) | exact (.skip (.put (.put .done))) | exact (.skip (.skip (.put (.put .done)))) | exact (.skip (.skip (.skip (.put (.put .done))))) | exact (.skip (.skip (.skip (.skip (.put (.put .done)))))) | exact (.skip (.skip (.skip (.skip (.skip (.put (.put .done))))))) | exact (.skip (.skip (.skip (.skip (.skip (.skip (.put (.put .done)))))))) | exact (.skip (.skip (.skip (.skip (.skip (.skip (.skip (.put (.put .done))))))))) | exact (.skip (.skip (.skip (.skip (.skip (.skip (.skip (.skip (.put (.put .done))))))))))) (Nat.succ_pos _) | exact str (.ev h1) rfl Try.s51 rfl rfl rfl (by assumption) rfl (Nat.succ_pos _) | exact stb (.own h1 rfl) rfl Try.s51 rfl rfl rfl (by first | exact (.put (.put .done)) | exact (.skip (.put (.put .done))) | exact (.skip (.skip (.put (.put .done)))) | exact (.skip (.skip (.skip (.put (.put .done))))) | exact (.skip (.skip (.skip (.skip (.put (.put .done)))))) | exact (.skip (.skip (.skip (.skip (.skip (.put (.put .done))))))) | exact (.skip (.skip (.skip (.skip (.skip (.skip (.put (.put .done)))))))) | exact (.skip (.skip (.skip (.skip (.skip (.skip (.skip (.put (.put .done))))))))) | exact (.skip (.skip (.skip (.skip (.skip (.skip (.skip (.skip (.put (.put .done))))))))))) (Nat.succ_pos _) | exact str (.own h1 rfl) rfl Try.s51 rfl rfl rfl (by assumption) rfl (Nat.succ_pos _))) ?_
                    refine sq_nil ?_
                    refine aw_seq ?_
                    refine aw_region 732 hE (by decide) rfl rfl ?_
                    refine sq_op (some 208) 676 rfl rfl rfl (withEv (x := .tmp 12) rfl (fun h1 => by first | exact ok_fieldr rfl Try.o96_1 h1 | exact ok_fieldp rfl Try.o96_1 h1)) ?_
                    refine sq_op (some 209) 684 rfl rfl rfl (withEv (x := .tmp 208) rfl (fun h1 => by first | exact ok_fieldr rfl Try.o45_2 h1 | exact ok_fieldp rfl Try.o45_2 h1)) ?_
                    refine sq_op (some 210) 692 rfl rfl rfl (withEv (x := .tmp 209) rfl (fun h1 => by first | exact ld1 Try.r43 rfl h1 rfl (by first | assumption | rfl) | exact lp1 Try.r43 rfl h1 (by first | assumption | rfl))) ?_
                    refine sq_op (some 211) 700 rfl rfl rfl (ok_move rfl rfl) ?_
                    refine sq_op (some 212) 708 rfl rfl rfl (withEv (x := .tmp 210) rfl (fun h1 => withEv (x := .tmp 211) rfl (fun h2 => by first | exact ix_p Try.e43 rfl h1 h2 (by omega) | exact ix_r Try.e43 rfl h1 rfl h2 (by omega) | exact ok_indexp rfl Try.e43 h1 h2 (by omega) (by omega) | exact ok_indexr rfl Try.e43 h1 rfl h2 (by omega) (by omega)))) ?_
                    refine sq_op (some 213) 716 rfl rfl rfl (withEv (x := .tmp 212) rfl (fun h1 => by first | exact ldc Try.r51 Try.s51 rfl h1 rfl (by first | exact (.take (.take .done)) | exact (.skip (.take (.take .done))) | exact (.skip (.skip (.take (.take .done)))) | exact (.skip (.skip (.skip (.take (.take .done))))) | exact (.skip (.skip (.skip (.skip (.take (.take .done)))))) | exact (.skip (.skip (.skip (.skip (.skip (.take (.take .done))))))) | exact (.skip (.skip (.skip (.skip (.skip (.skip (.take (.take .done)))))))) | exact (.skip (.skip (.skip (.skip (.skip (.skip (.skip (.take (.take .done))))))))) | exact (.skip (.skip (.skip (.skip (.skip (.skip (.skip (.skip (.take (.take .done))))))))))) | exact lpn Try.r51 Try.s51 rfl h1 (by first | assumption | rfl) rfl)) ?_
                    refine sq_op (some 16) 724 rfl rfl rfl (ok_alloc rfl Try.z51 rfl) ?_
                    refine sq_op none 732 rfl rfl rfl (withEv (x := .tmp 213) rfl (fun h1 => by first | exact stb (.ev h1) rfl Try.s51 rfl rfl rfl (by first | exact (.put (.put .done)) | exact (.skip (.put (.put .done))) | exact (.skip (.skip (.put (.put .done)))) | exact (.skip (.skip (.skip (.put (.put .done))))) | exact (.skip (.skip (.skip (.skip (.put (.put .done)))))) | exact (.skip (.skip (.skip (.skip (.skip (.put (.put .done))))))) | exact (.skip (.skip (.skip (.skip (.skip (.skip (.put (.put .done)))))))) | exact (.skip (.skip (.skip (.skip (.skip (.skip (.skip (.put (.put .done))))))))) | exact (.skip (.skip (.skip (.skip (.skip (.skip (.skip (.skip (.put (.put .done))))))))))) (Nat.succ_pos _) | exact str (.ev h1) rfl Try.s51 rfl rfl rfl (by assumption) rfl (Nat.succ_pos _) | exact stb (.own h1 rfl) rfl Try.s51 rfl rfl rfl (by first | exact (.put (.put .done)) | exact (.skip (.put (.put .done))) | exact (.skip (.skip (.put (.put .done)))) | exact (.skip (.skip (.skip (.put (.put .done))))) | exact (.skip (.skip (.skip (.skip (.put (.put .done)))))) | exact (.skip (.skip (.skip (.skip (.skip (.put (.put .done))))))) | exact (.skip (.skip (.skip (.skip (.skip (.skip (.put (.put .done)))))))) | exact (.skip (.skip (.skip (.skip (.skip (.skip (.skip (.put (.put .done))))))))) | exact (.skip (.skip (.skip (.skip (.skip (.skip (.skip (.skip (.put (.put .done))))))))))) (Nat.succ_pos _) | exact str (.own h1 rfl) rfl Try.s51 rfl rfl rfl (by assumption) rfl (Nat.succ_pos _))) ?_
                    refine sq_nil ?_
                    refine aw_seq ?_
                    refine aw_any [[], [0], [], [2], [], [2, 3, 4], [2, 3, 4, 5], [0, 1, 2, 3, 4, 5, 6], [0, 1, 2, 3, 4, 5, 6, 7], [], [0, 1, 2, 3, 4, 5, 6, 7, 8, 9]] [[], [], [], [], [], [], [], [], [], [], [804]] Try.mix hE (by decide) (by kernel_rfl) 820 rfl (fun hr0 => ?_)
                    refine an_op hr0 rfl 732 1 rfl rfl (withEv (x := .tmp 5) (ev_E (by kernel_rfl) rfl) (fun h1 => by first | exact ok_fieldr rfl Try.o45_2 h1 | exact ok_fieldp rfl Try.o45_2 h1)) rfl (fun hr1 => ?_)
                    clear hr0
                    refine an_op hr1 rfl 740 2 rfl rfl (withEv (x := .tmp 214) (ev_T hr1 0 0 rfl (by kernel_rfl) rfl) (fun h1 => by first | exact ld1 Try.r43 rfl h1 (by first | exact ctx_HE hr1.ok (by kernel_rfl) rfl) (by first | assumption | rfl) | exact lp1 Try.r43 rfl h1 (by first | assumption | rfl))) rfl (fun hr2 => ?_)
                    clear hr1
                    refine an_op hr2 rfl 748 3 rfl rfl (withEv (x := .tmp 12) (ev_E (by kernel_rfl) rfl) (fun h1 => by first | exact ok_fieldr rfl Try.o96_2 h1 | exact ok_fieldp rfl Try.o96_2 h1)) rfl (fun hr3 => ?_)
                    clear hr2
                    refine an_op hr3 rfl 756 4 rfl rfl (withEv (x := .tmp 216) (ev_T hr3 2 0 rfl (by kernel_rfl) rfl) (fun h1 => by first | exact ld1 Try.r22 rfl h1 (by first | exact ctx_HE hr3.ok (by kernel_rfl) rfl) (by first | assumption | rfl) | exact lp1 Try.r22 rfl h1 (by first | assumption | rfl))) rfl (fun hr4 => ?_)
                    clear hr3
                    refine an_op hr4 rfl 764 5 rfl rfl (ok_move rfl (ev_E (by kernel_rfl) rfl)) rfl (fun hr5 => ?_)
                    clear hr4
                    refine an_op hr5 rfl 772 6 rfl rfl (withEv (x := .tmp 217) (ev_T hr5 3 1 rfl (by kernel_rfl) rfl) (fun h1 => withEv (x := .tmp 218) (ev_T hr5 4 0 rfl (by kernel_rfl) rfl) (fun h2 => by first | exact ix_p Try.e22 rfl h1 h2 (by omega) | exact ix_r Try.e22 rfl h1 (by first | exact ctx_HE hr5.ok (by kernel_rfl) rfl) h2 (by omega) | exact ok_indexp rfl Try.e22 h1 h2 (by omega) (by omega) | exact ok_indexr rfl Try.e22 h1 (by first | exact ctx_HE hr5.ok (by kernel_rfl) rfl) h2 (by omega) (by omega)))) rfl (fun hr6 => ?_)
                    clear hr5
                    refine an_op hr6 rfl 780 7 rfl rfl (withEv (x := .tmp 219) (ev_T hr6 5 0 rfl (by kernel_rfl) rfl) (fun h1 => by first | exact ld1 Try.r3 rfl h1 (by first | exact ctx_HE hr6.ok (by kernel_rfl) rfl) (by first | assumption | rfl) | exact lp1 Try.r3 rfl h1 (by first | assumption | rfl))) rfl (fun hr7 => ?_)
                    clear hr6
                    refine an_op hr7 rfl 788 8 rfl rfl (withEv (x := .tmp 215) (ev_T hr7 1 5 rfl (by kernel_rfl) rfl) (fun h1 => withEv (x := .tmp 220) (ev_T hr7 6 0 rfl (by kernel_rfl) rfl) (fun h2 => by first | exact ix_p Try.e43 rfl h1 h2 (by omega) | exact ix_r Try.e43 rfl h1 (by first | exact ctx_HE hr7.ok (by kernel_rfl) rfl) h2 (by omega) | exact ok_indexp rfl Try.e43 h1 h2 (by omega) (by omega) | exact ok_indexr rfl Try.e43 h1 (by first | exact ctx_HE hr7.ok (by kernel_rfl) rfl) h2 (by omega) (by omega)))) rfl (fun hr8 => ?_)
                    clear hr7
                    refine an_op hr8 rfl 796 9 rfl rfl (withEv (x := .tmp 221) (ev_T hr8 7 0 rfl (by kernel_rfl) rfl) (fun h1 => by first | exact ldc Try.r51 Try.s51 rfl h1 (by first | exact ctx_HE hr8.ok (by kernel_rfl) rfl) (by first | exact (.take (.take .done)) | exact (.skip (.take (.take .done))) | exact (.skip (.skip (.take (.take .done)))) | exact (.skip (.skip (.skip (.take (.take .done))))) | exact (.skip (.skip (.skip (.skip (.take (.take .done)))))) | exact (.skip (.skip (.skip (.skip (.skip (.take (.take .done))))))) | exact (.skip (.skip (.skip (.skip (.skip (.skip (.take (.take .done)))))))) | exact (.skip (.skip (.skip (.skip (.skip (.skip (.skip (.take (.take .done))))))))) | exact (.skip (.skip (.skip (.skip (.skip (.skip (.skip (.skip (.take (.take .done))))))))))) | exact lpn Try.r51 Try.s51 rfl h1 (by first | assumption | rfl) rfl)) rfl (fun hr9 => ?_)
                    clear hr8
                    refine an_op hr9 rfl 804 10 rfl rfl (ok_alloc rfl Try.z51 rfl) rfl (fun hr10 => ?_)
                    clear hr9
                    refine an_op hr10 rfl 812 11 rfl rfl (withEv (x := .tmp 222) (ev_T hr10 8 1 rfl (by kernel_rfl) rfl) (fun h1 => by first | exact stb (.ev h1) rfl Try.s51 (ev_T hr10 9 0 rfl (by kernel_rfl) rfl) rfl (by first | exact ctx_HE hr10.ok (by kernel_rfl) rfl | exact ev_H hr10 9 0 rfl (by kernel_rfl) rfl rfl) (by first | exact (.put (.put .done)) | exact (.skip (.put (.put .done))) | exact (.skip (.skip (.put (.put .done)))) | exact (.skip (.skip (.skip (.put (.put .done))))) | exact (.skip (.skip (.skip (.skip (.put (.put .done)))))) | exact (.skip (.skip (.skip (.skip (.skip (.put (.put .done))))))) | exact (.skip (.skip (.skip (.skip (.skip (.skip (.put (.put .done)))))))) | exact (.skip (.skip (.skip (.skip (.skip (.skip (.skip (.put (.put .done))))))))) | exact (.skip (.skip (.skip (.skip (.skip (.skip (.skip (.skip (.put (.put .done))))))))))) (Nat.succ_pos _) | exact str (.ev h1) rfl Try.s51 (ev_T hr10 9 0 rfl (by kernel_rfl) rfl) rfl (by first | exact ctx_HE hr10.ok (by kernel_rfl) rfl | exact ev_H hr10 9 0 rfl (by kernel_rfl) rfl rfl) (by assumption) rfl (Nat.succ_pos _) | exact stb (.own h1 (by first | exact ctx_HE hr10.ok (by kernel_rfl) rfl | exact ev_H hr10 9 0 rfl (by kernel_rfl) rfl rfl)) rfl Try.s51 (ev_T hr10 9 0 rfl (by kernel_rfl) rfl) rfl (by first | exact ctx_HE hr10.ok (by kernel_rfl) rfl | exact ev_H hr10 9 0 rfl (by kernel_rfl) rfl rfl) (by first | exact (.put (.put .done)) | exact (.skip (.put (.put .done))) | exact (.skip (.skip (.put (.put .done)))) | exact (.skip (.skip (.skip (.put (.put .done))))) | exact (.skip (.skip (.skip (.skip (.put (.put .done)))))) | exact (.skip (.skip (.skip (.skip (.skip (.put (.put .done))))))) | exact (.skip (.skip (.skip (.skip (.skip (.skip (.put (.put .done)))))))) | exact (.skip (.skip (.skip (.skip (.skip (.skip (.skip (.put (.put .done))))))))) | exact (.skip (.skip (.skip (.skip (.skip (.skip (.skip (.skip (.put (.put .done))))))))))) (Nat.succ_pos _) | exact str (.own h1 (by first | exact ctx_HE hr10.ok (by kernel_rfl) rfl | exact ev_H hr10 9 0 rfl (by kernel_rfl) rfl rfl)) rfl Try.s51 (ev_T hr10 9 0 rfl (by kernel_rfl) rfl) rfl (by first | exact ctx_HE hr10.ok (by kernel_rfl) rfl | exact ev_H hr10 9 0 rfl (by kernel_rfl) rfl rfl) (by assumption) rfl (Nat.succ_pos _))) rfl (fun hr11 => ?_)
                    clear hr10
                    refine an_nil [some 214, some 215, some 216, some 217, some 218, some 219, some 220, some 221, some 222, some 17, none] hr11 rfl (by kernel_rfl) ?_
                    clear hr11
                    refine aw_seq ?_
                    refine aw_any [[], [0], [], [2], [], [2, 3, 4], [2, 3, 4, 5], [0, 1, 2, 3, 4, 5, 6], [0, 1, 2, 3, 4, 5, 6, 7], [], [0, 1, 2, 3, 4, 5, 6, 7, 8, 9]] [[], [], [], [], [], [], [], [], [], [], [892]] Try.mix hE (by decide) (by kernel_rfl) 908 rfl (fun hr0 => ?_)
                    refine an_op hr0 rfl 820 1 rfl rfl (withEv (x := .tmp 5) (ev_E (by kernel_rfl) rfl) (fun h1 => by first | exact ok_fieldr rfl Try.o45_2 h1 | exact ok_fieldp rfl Try.o45_2 h1)) rfl (fun hr1 => ?_)
                    clear hr0
                    refine an_op hr1 rfl 828 2 rfl rfl (withEv (x := .tmp 223) (ev_T hr1 0 0 rfl (by kernel_rfl) rfl) (fun h1 => by first | exact ld1 Try.r43 rfl h1 (by first | exact ctx_HE hr1.ok (by kernel_rfl) rfl) (by first | assumption | rfl) | exact lp1 Try.r43 rfl h1 (by first | assumption | rfl))) rfl (fun hr2 => ?_)
                    clear hr1
                    refine an_op hr2 rfl 836 3 rfl rfl (withEv (x := .tmp 12) (ev_E (by kernel_rfl) rfl) (fun h1 => by first | exact ok_fieldr rfl Try.o96_2 h1 | exact ok_fieldp rfl Try.o96_2 h1)) rfl (fun hr3 => ?_)
                    clear hr2
                    refine an_op hr3 rfl 844 4 rfl rfl (withEv (x := .tmp 225) (ev_T hr3 2 0 rfl (by kernel_rfl) rfl) (fun h1 => by first | exact ld1 Try.r22 rfl h1 (by first | exact ctx_HE hr3.ok (by kernel_rfl) rfl) (by first | assumption | rfl) | exact lp1 Try.r22 rfl h1 (by first | assumption | rfl))) rfl (fun hr4 => ?_)
                    clear hr3
                    refine an_op hr4 rfl 852 5 rfl rfl (ok_move rfl (ev_E (by kernel_rfl) rfl)) rfl (fun hr5 => ?_)
                    clear hr4
                    refine an_op hr5 rfl 860 6 rfl rfl (withEv (x := .tmp 226) (ev_T hr5 3 1 rfl (by kernel_rfl) rfl) (fun h1 => withEv (x := .tmp 227) (ev_T hr5 4 0 rfl (by kernel_rfl) rfl) (fun h2 => by first | exact ix_p Try.e22 rfl h1 h2 (by omega) | exact ix_r Try.e22 rfl h1 (by first | exact ctx_HE hr5.ok (by kernel_rfl) rfl) h2 (by omega) | exact ok_indexp rfl Try.e22 h1 h2 (by omega) (by omega) | exact ok_indexr rfl Try.e22 h1 (by first | exact ctx_HE hr5.ok (by kernel_rfl) rfl) h2 (by omega) (by omega)))) rfl (fun hr6 => ?_)
                    clear hr5
                    refine an_op hr6 rfl 868 7 rfl rfl (withEv (x := .tmp 228) (ev_T hr6 5 0 rfl (by kernel_rfl) rfl) (fun h1 => by first | exact ld1 Try.r3 rfl h1 (by first | exact ctx_HE hr6.ok (by kernel_rfl) rfl) (by first | assumption | rfl) | exact lp1 Try.r3 rfl h1 (by first | assumption | rfl))) rfl (fun hr7 => ?_)
                    clear hr6
                    refine an_op hr7 rfl 876 8 rfl rfl (withEv (x := .tmp 224) (ev_T hr7 1 5 rfl (by kernel_rfl) rfl) (fun h1 => withEv (x := .tmp 229) (ev_T hr7 6 0 rfl (by kernel_rfl) rfl) (fun h2 => by first | exact ix_p Try.e43 rfl h1 h2 (by omega) | exact ix_r Try.e43 rfl h1 (by first | exact ctx_HE hr7.ok (by kernel_rfl) rfl) h2 (by omega) | exact ok_indexp rfl Try.e43 h1 h2 (by omega) (by omega) | exact ok_indexr rfl Try.e43 h1 (by first | exact ctx_HE hr7.ok (by kernel_rfl) rfl) h2 (by omega) (by omega)))) rfl (fun hr8 => ?_)
                    clear hr7
                    refine an_op hr8 rfl 884 9 rfl rfl (withEv (x := .tmp 230) (ev_T hr8 7 0 rfl (by kernel_rfl) rfl) (fun h1 => by first | exact ldc Try.r51 Try.s51 rfl h1 (by first | exact ctx_HE hr8.ok (by kernel_rfl) rfl) (by first | exact (.take (.take .done)) | exact (.skip (.take (.take .done))) | exact (.skip (.skip (.take (.take .done)))) | exact (.skip (.skip (.skip (.take (.take .done))))) | exact (.skip (.skip (.skip (.skip (.take (.take .done)))))) | exact (.skip (.skip (.skip (.skip (.skip (.take (.take .done))))))) | exact (.skip (.skip (.skip (.skip (.skip (.skip (.take (.take .done)))))))) | exact (.skip (.skip (.skip (.skip (.skip (.skip (.skip (.take (.take .done))))))))) | exact (.skip (.skip (.skip (.skip (.skip (.skip (.skip (.skip (.take (.take .done))))))))))) | exact lpn Try.r51 Try.s51 rfl h1 (by first | assumption | rfl) rfl)) rfl (fun hr9 => ?_)
                    clear hr8
                    refine an_op hr9 rfl 892 10 rfl rfl (ok_alloc rfl Try.z51 rfl) rfl (fun hr10 => ?_)
                    clear hr9
                    refine an_op hr10 rfl 900 11 rfl rfl (withEv (x := .tmp 231) (ev_T hr10 8 1 rfl (by kernel_rfl) rfl) (fun h1 => by first | exact stb (.ev h1) rfl Try.s51 (ev_T hr10 9 0 rfl (by kernel_rfl) rfl) rfl (by first | exact ctx_HE hr10.ok (by kernel_rfl) rfl | exact ev_H hr10 9 0 rfl (by kernel_rfl) rfl rfl) (by first | exact (.put (.put .done)) | exact (.skip (.put (.put .done))) | exact (.skip (.skip (.put (.put .done)))) | exact (.skip (.skip (.skip (.put (.put .done))))) | exact (.skip (.skip (.skip (.skip (.put (.put .done)))))) | exact (.skip (.skip (.skip (.skip (.skip (.put (.put .done))))))) | exact (.skip (.skip (.skip (.skip (.skip (.skip (.put (.put .done)))))))) | exact (.skip (.skip (.skip (.skip (.skip (.skip (.skip (.put (.put .done))))))))) | exact (.skip (.skip (.skip (.skip (.skip (.skip (.skip (.skip (.put (.put .done))))))))))) (Nat.succ_pos _) | exact str (.ev h1) rfl Try.s51 (ev_T hr10 9 0 rfl (by kernel_rfl) rfl) rfl (by first | exact ctx_HE hr10.ok (by kernel_rfl) rfl | exact ev_H hr10 9 0 rfl (by kernel_rfl) rfl rfl) (by assumption) rfl (Nat.succ_pos _) | exact stb (.own h1 (by first | exact ctx_HE hr10.ok (by kernel_rfl) rfl | exact ev_H hr10 9 0 rfl (by kernel_rfl) rfl rfl)) rfl Try.s51 (ev_T hr10 9 0 rfl (by kernel_rfl) rfl) rfl (by first | exact ctx_HE hr10.ok (by kernel_rfl) rfl | exact ev_H hr10 9 0 rfl (by kernel_rfl) rfl rfl) (by first | exact (.put (.put .done)) | exact (.skip (.put (.put .done))) | exact (.skip (.skip (.put (.put .done)))) | exact (.skip (.skip (.skip (.put (.put .done))))) | exact (.skip (.skip (.skip (.skip (.put (.put .done)))))) | exact (.skip (.skip (.skip (.skip (.skip (.put (.put .done))))))) | exact (.skip (.skip (.skip (.skip (.skip (.skip (.put (.put .done)))))))) | exact (.skip (.skip (.skip (.skip (.skip (.skip (.skip (.put (.put .done))))))))) | exact (.skip (.skip (.skip (.skip (.skip (.skip (.skip (.skip (.put (.put .done))))))))))) (Nat.succ_pos _) | exact str (.own h1 (by first | exact ctx_HE hr10.ok (by kernel_rfl) rfl | exact ev_H hr10 9 0 rfl (by kernel_rfl) rfl rfl)) rfl Try.s51 (ev_T hr10 9 0 rfl (by kernel_rfl) rfl) rfl (by first | exact ctx_HE hr10.ok (by kernel_rfl) rfl | exact ev_H hr10 9 0 rfl (by kernel_rfl) rfl rfl) (by assumption) rfl (Nat.succ_pos _))) rfl (fun hr11 => ?_)
                    clear hr10
                    refine an_nil [some 223, some 224, some 225, some 226, some 227, some 228, some 229, some 230, some 231, some 18, none] hr11 rfl (by kernel_rfl) ?_
                    clear hr11
                    refine aw_seq ?_
                    refine aw_any [[], [], [0, 1], [], [], [0, 1, 2, 3, 4], [0, 1, 2, 3, 4, 5], [0, 1, 2, 3, 4, 5, 6], [0, 1, 2, 3, 4, 5, 6, 7], [0, 1, 2, 3, 4, 5, 6, 7], [0, 1, 2, 3, 4, 5, 6, 7, 8, 9], [0, 1, 2, 3, 4, 5, 6, 7], [0, 1, 2, 3, 4, 5, 6, 7], [0, 1, 2, 3, 4, 5, 6, 7, 8, 9, 10, 11, 12], [0, 1, 2, 3, 4, 5, 6, 7, 8, 9, 10, 11, 12, 13], [0, 1, 2, 3, 4, 5, 6, 7, 8, 9, 10, 11, 12, 13, 14], [0, 1, 2, 3, 4, 5, 6, 7, 8, 9, 10, 11, 12, 13, 14, 15], [0, 1, 2, 3, 4, 5, 6, 7, 8, 9, 10, 11, 12, 13, 14, 15, 16], [0, 1, 2, 3, 4, 5, 6, 7, 8, 9, 10, 11, 12, 13, 14, 15, 16], [0, 1, 2, 3, 4, 5, 6, 7, 8, 9, 10, 11, 12, 13, 14, 15, 16, 17, 18], [0, 1, 2, 3, 4, 5, 6, 7, 8, 9, 10, 11, 12, 13, 14, 15, 16], [0, 1, 2, 3, 4, 5, 6, 7, 8, 9, 10, 11, 12, 13, 14, 15, 16], [0, 1, 2, 3, 4, 5, 6, 7, 8, 9, 10, 11, 12, 13, 14, 15, 16, 17, 18, 19, 20, 21], [0, 1, 2, 3, 4, 5, 6, 7, 8, 9, 10, 11, 12, 13, 14, 15, 16, 17, 18, 19, 20, 21, 22], [0, 1, 2, 3, 4, 5, 6, 7, 8, 9, 10, 11, 12, 13, 14, 15, 16, 17, 18, 19, 20, 21, 22, 23]] [[], [], [], [], [], [], [], [], [], [], [], [], [], [], [], [], [], [], [], [], [], [], [], [], []] Try.mix hE (by decide) (by kernel_rfl) 1108 rfl (fun hr0 => ?_)
                    refine an_op hr0 rfl 908 1 rfl rfl (withEv (x := .tmp 15) (ev_E (by kernel_rfl) rfl) (fun h1 => by first | exact ldc Try.r51 Try.s51 rfl h1 (by first | exact ctx_HE hr0.ok (by kernel_rfl) rfl) (by first | exact (.take (.take .done)) | exact (.skip (.take (.take .done))) | exact (.skip (.skip (.take (.take .done)))) | exact (.skip (.skip (.skip (.take (.take .done))))) | exact (.skip (.skip (.skip (.skip (.take (.take .done)))))) | exact (.skip (.skip (.skip (.skip (.skip (.take (.take .done))))))) | exact (.skip (.skip (.skip (.skip (.skip (.skip (.take (.take .done)))))))) | exact (.skip (.skip (.skip (.skip (.skip (.skip (.skip (.take (.take .done))))))))) | exact (.skip (.skip (.skip (.skip (.skip (.skip (.skip (.skip (.take (.take .done))))))))))) | exact lpn Try.r51 Try.s51 rfl h1 (by first | assumption | rfl) rfl)) rfl (fun hr1 => ?_)
                    clear hr0
                    refine an_op hr1 rfl 916 2 rfl rfl (withEv (x := .tmp 16) (ev_E (by kernel_rfl) rfl) (fun h1 => by first | exact ldc Try.r51 Try.s51 rfl h1 (by first | exact ctx_HE hr1.ok (by kernel_rfl) rfl) (by first | exact (.take (.take .done)) | exact (.skip (.take (.take .done))) | exact (.skip (.skip (.take (.take .done)))) | exact (.skip (.skip (.skip (.take (.take .done))))) | exact (.skip (.skip (.skip (.skip (.take (.take .done)))))) | exact (.skip (.skip (.skip (.skip (.skip (.take (.take .done))))))) | exact (.skip (.skip (.skip (.skip (.skip (.skip (.take (.take .done)))))))) | exact (.skip (.skip (.skip (.skip (.skip (.skip (.skip (.take (.take .done))))))))) | exact (.skip (.skip (.skip (.skip (.skip (.skip (.skip (.skip (.take (.take .done))))))))))) | exact lpn Try.r51 Try.s51 rfl h1 (by first | assumption | rfl) rfl)) rfl (fun hr2 => ?_)
                    clear hr1
                    refine an_op hr2 rfl 924 3 rfl rfl (ok_call [] [] rfl Try.func40 (by simp [Try.f40]) (by simp [Try.f40]) (c1) (.cons (ev_T hr2 0 1 rfl (by kernel_rfl) rfl) (by repeat' first | exact .t rfl | exact .rd rfl rfl rfl rfl | exact .nil | exact DLeL.nil | refine DLeL.cons ?_ ?_ | refine .agg' ?_) (.cons (ev_T hr2 1 0 rfl (by kernel_rfl) rfl) (by repeat' first | exact .t rfl | exact .rd rfl rfl rfl rfl | exact .nil | exact DLeL.nil | refine DLeL.cons ?_ ?_ | refine .agg' ?_) (.nil))) .nil (by repeat' first | exact .t rfl | exact DLeL.nil | refine DLeL.cons ?_ ?_ | refine .agg' ?_ | refine .tup' ?_) .nil rfl rfl) rfl (fun hr3 => ?_)
                    clear hr2
                    refine an_op hr3 rfl 932 4 rfl rfl (withEv (x := .tmp 17) (ev_E (by kernel_rfl) rfl) (fun h1 => by first | exact ldc Try.r51 Try.s51 rfl h1 (by first | exact ctx_HE hr3.ok (by kernel_rfl) rfl) (by first | exact (.take (.take .done)) | exact (.skip (.take (.take .done))) | exact (.skip (.skip (.take (.take .done)))) | exact (.skip (.skip (.skip (.take (.take .done))))) | exact (.skip (.skip (.skip (.skip (.take (.take .done)))))) | exact (.skip (.skip (.skip (.skip (.skip (.take (.take .done))))))) | exact (.skip (.skip (.skip (.skip (.skip (.skip (.take (.take .done)))))))) | exact (.skip (.skip (.skip (.skip (.skip (.skip (.skip (.take (.take .done))))))))) | exact (.skip (.skip (.skip (.skip (.skip (.skip (.skip (.skip (.take (.take .done))))))))))) | exact lpn Try.r51 Try.s51 rfl h1 (by first | assumption | rfl) rfl)) rfl (fun hr4 => ?_)
                    clear hr3
                    refine an_op hr4 rfl 940 5 rfl rfl (withEv (x := .tmp 18) (ev_E (by kernel_rfl) rfl) (fun h1 => by first | exact ldc Try.r51 Try.s51 rfl h1 (by first | exact ctx_HE hr4.ok (by kernel_rfl) rfl) (by first | exact (.take (.take .done)) | exact (.skip (.take (.take .done))) | exact (.skip (.skip (.take (.take .done)))) | exact (.skip (.skip (.skip (.take (.take .done))))) | exact (.skip (.skip (.skip (.skip (.take (.take .done)))))) | exact (.skip (.skip (.skip (.skip (.skip (.take (.take .done))))))) | exact (.skip (.skip (.skip (.skip (.skip (.skip (.take (.take .done)))))))) | exact (.skip (.skip (.skip (.skip (.skip (.skip (.skip (.take (.take .done))))))))) | exact (.skip (.skip (.skip (.skip (.skip (.skip (.skip (.skip (.take (.take .done))))))))))) | exact lpn Try.r51 Try.s51 rfl h1 (by first | assumption | rfl) rfl)) rfl (fun hr5 => ?_)
                    clear hr4
                    refine an_op hr5 rfl 948 6 rfl rfl (ok_call [] [] rfl Try.func40 (by simp [Try.f40]) (by simp [Try.f40]) (c2) (.cons (ev_T hr5 3 1 rfl (by kernel_rfl) rfl) (by repeat' first | exact .t rfl | exact .rd rfl rfl rfl rfl | exact .nil | exact DLeL.nil | refine DLeL.cons ?_ ?_ | refine .agg' ?_) (.cons (ev_T hr5 4 0 rfl (by kernel_rfl) rfl) (by repeat' first | exact .t rfl | exact .rd rfl rfl rfl rfl | exact .nil | exact DLeL.nil | refine DLeL.cons ?_ ?_ | refine .agg' ?_) (.nil))) .nil (by repeat' first | exact .t rfl | exact DLeL.nil | refine DLeL.cons ?_ ?_ | refine .agg' ?_ | refine .tup' ?_) .nil rfl rfl) rfl (fun hr6 => ?_)
                    clear hr5
                    refine an_op hr6 rfl 956 7 rfl rfl (okB (b := false) (ok_neb Try.u4 rfl (ev_T hr6 2 3 rfl (by kernel_rfl) rfl) (ev_T hr6 5 0 rfl (by kernel_rfl) rfl)) (by rw [hins]; simp)) rfl (fun hr7 => ?_)
                    clear hr6
                    refine an_op hr7 rfl 964 8 rfl rfl (ok_move rfl (ev_T hr7 6 0 rfl (by kernel_rfl) rfl)) rfl (fun hr8 => ?_)
                    clear hr7
                    refine an_on hr8 rfl rfl (ctx_T 7 (by kernel_rfl) (RsI.rev hr8 (q := 0) rfl rfl)) 972 9 rfl rfl (withEv (x := .tmp 15) (ev_E (by kernel_rfl) rfl) (fun h1 => by first | exact ldc Try.r51 Try.s51 rfl h1 (by first | exact ctx_HE hr8.ok (by kernel_rfl) rfl | exact ev_H hr8 5 2 rfl (by kernel_rfl) rfl rfl | exact ev_H hr8 2 5 rfl (by kernel_rfl) rfl rfl) (by first | exact (.take (.take .done)) | exact (.skip (.take (.take .done))) | exact (.skip (.skip (.take (.take .done)))) | exact (.skip (.skip (.skip (.take (.take .done))))) | exact (.skip (.skip (.skip (.skip (.take (.take .done)))))) | exact (.skip (.skip (.skip (.skip (.skip (.take (.take .done))))))) | exact (.skip (.skip (.skip (.skip (.skip (.skip (.take (.take .done)))))))) | exact (.skip (.skip (.skip (.skip (.skip (.skip (.skip (.take (.take .done))))))))) | exact (.skip (.skip (.skip (.skip (.skip (.skip (.skip (.skip (.take (.take .done))))))))))) | exact lpn Try.r51 Try.s51 rfl h1 (by first | assumption | rfl) rfl)) rfl (fun hr9 => ?_)
                    clear hr8
                    refine an_on hr9 rfl rfl (ctx_T 7 (by kernel_rfl) (RsI.rev hr9 (q := 1) rfl rfl)) 980 10 rfl rfl (withEv (x := .tmp 16) (ev_E (by kernel_rfl) rfl) (fun h1 => by first | exact ldc Try.r51 Try.s51 rfl h1 (by first | exact ctx_HE hr9.ok (by kernel_rfl) rfl | exact ev_H hr9 5 3 rfl (by kernel_rfl) rfl rfl | exact ev_H hr9 2 6 rfl (by kernel_rfl) rfl rfl) (by first | exact (.take (.take .done)) | exact (.skip (.take (.take .done))) | exact (.skip (.skip (.take (.take .done)))) | exact (.skip (.skip (.skip (.take (.take .done))))) | exact (.skip (.skip (.skip (.skip (.take (.take .done)))))) | exact (.skip (.skip (.skip (.skip (.skip (.take (.take .done))))))) | exact (.skip (.skip (.skip (.skip (.skip (.skip (.take (.take .done)))))))) | exact (.skip (.skip (.skip (.skip (.skip (.skip (.skip (.take (.take .done))))))))) | exact (.skip (.skip (.skip (.skip (.skip (.skip (.skip (.skip (.take (.take .done))))))))))) | exact lpn Try.r51 Try.s51 rfl h1 (by first | assumption | rfl) rfl)) rfl (fun hr10 => ?_)
                    clear hr9
                    refine an_on hr10 rfl rfl (ctx_T 7 (by kernel_rfl) (RsI.rev hr10 (q := 2) rfl rfl)) 988 11 rfl rfl (ok_call [] [] rfl Try.func34 (by simp [Try.f34]) (by simp [Try.f34]) (c3) (.cons (ev_T hr10 8 1 rfl (by kernel_rfl) rfl) (by repeat' first | exact .t rfl | exact .rd rfl rfl rfl rfl | exact .nil | exact DLeL.nil | refine DLeL.cons ?_ ?_ | refine .agg' ?_) (.cons (ev_T hr10 9 0 rfl (by kernel_rfl) rfl) (by repeat' first | exact .t rfl | exact .rd rfl rfl rfl rfl | exact .nil | exact DLeL.nil | refine DLeL.cons ?_ ?_ | refine .agg' ?_) (.nil))) .nil (by repeat' first | exact .t rfl | exact DLeL.nil | refine DLeL.cons ?_ ?_ | refine .agg' ?_ | refine .tup' ?_) .nil rfl rfl) rfl (fun hr11 => ?_)
                    clear hr10
                    refine an_on hr11 rfl rfl (ctx_T 7 (by kernel_rfl) (RsI.rev hr11 (q := 3) rfl rfl)) 996 12 rfl rfl (withEv (x := .tmp 17) (ev_E (by kernel_rfl) rfl) (fun h1 => by first | exact ldc Try.r51 Try.s51 rfl h1 (by first | exact ctx_HE hr11.ok (by kernel_rfl) rfl | exact ev_H hr11 5 5 rfl (by kernel_rfl) rfl rfl | exact ev_H hr11 2 8 rfl (by kernel_rfl) rfl rfl) (by first | exact (.take (.take .done)) | exact (.skip (.take (.take .done))) | exact (.skip (.skip (.take (.take .done)))) | exact (.skip (.skip (.skip (.take (.take .done))))) | exact (.skip (.skip (.skip (.skip (.take (.take .done)))))) | exact (.skip (.skip (.skip (.skip (.skip (.take (.take .done))))))) | exact (.skip (.skip (.skip (.skip (.skip (.skip (.take (.take .done)))))))) | exact (.skip (.skip (.skip (.skip (.skip (.skip (.skip (.take (.take .done))))))))) | exact (.skip (.skip (.skip (.skip (.skip (.skip (.skip (.skip (.take (.take .done))))))))))) | exact lpn Try.r51 Try.s51 rfl h1 (by first | assumption | rfl) rfl)) rfl (fun hr12 => ?_)
                    clear hr11
                    refine an_on hr12 rfl rfl (ctx_T 7 (by kernel_rfl) (RsI.rev hr12 (q := 4) rfl rfl)) 1004 13 rfl rfl (withEv (x := .tmp 18) (ev_E (by kernel_rfl) rfl) (fun h1 => by first | exact ldc Try.r51 Try.s51 rfl h1 (by first | exact ctx_HE hr12.ok (by kernel_rfl) rfl | exact ev_H hr12 5 6 rfl (by kernel_rfl) rfl rfl | exact ev_H hr12 2 9 rfl (by kernel_rfl) rfl rfl) (by first | exact (.take (.take .done)) | exact (.skip (.take (.take .done))) | exact (.skip (.skip (.take (.take .done)))) | exact (.skip (.skip (.skip (.take (.take .done))))) | exact (.skip (.skip (.skip (.skip (.take (.take .done)))))) | exact (.skip (.skip (.skip (.skip (.skip (.take (.take .done))))))) | exact (.skip (.skip (.skip (.skip (.skip (.skip (.take (.take .done)))))))) | exact (.skip (.skip (.skip (.skip (.skip (.skip (.skip (.take (.take .done))))))))) | exact (.skip (.skip (.skip (.skip (.skip (.skip (.skip (.skip (.take (.take .done))))))))))) | exact lpn Try.r51 Try.s51 rfl h1 (by first | assumption | rfl) rfl)) rfl (fun hr13 => ?_)
                    clear hr12
                    refine an_on hr13 rfl rfl (ctx_T 7 (by kernel_rfl) (RsI.rev hr13 (q := 5) rfl rfl)) 1012 14 rfl rfl (ok_call [] [] rfl Try.func34 (by simp [Try.f34]) (by simp [Try.f34]) (c4) (.cons (ev_T hr13 11 1 rfl (by kernel_rfl) rfl) (by repeat' first | exact .t rfl | exact .rd rfl rfl rfl rfl | exact .nil | exact DLeL.nil | refine DLeL.cons ?_ ?_ | refine .agg' ?_) (.cons (ev_T hr13 12 0 rfl (by kernel_rfl) rfl) (by repeat' first | exact .t rfl | exact .rd rfl rfl rfl rfl | exact .nil | exact DLeL.nil | refine DLeL.cons ?_ ?_ | refine .agg' ?_) (.nil))) .nil (by repeat' first | exact .t rfl | exact DLeL.nil | refine DLeL.cons ?_ ?_ | refine .agg' ?_ | refine .tup' ?_) .nil rfl rfl) rfl (fun hr14 => ?_)
                    clear hr13
                    refine an_on hr14 rfl rfl (ctx_T 7 (by kernel_rfl) (RsI.rev hr14 (q := 6) rfl rfl)) 1020 15 rfl rfl (okB (b := false) (ok_neb Try.u4 rfl (ev_T hr14 10 3 rfl (by kernel_rfl) rfl) (ev_T hr14 13 0 rfl (by kernel_rfl) rfl)) (by rw [hlef]; simp)) rfl (fun hr15 => ?_)
                    clear hr14
                    refine an_op hr15 rfl 1028 16 rfl rfl (by first | exact ok_pick_t rfl (ev_T hr15 7 7 rfl (by kernel_rfl) rfl) rfl | exact ok_pick_f rfl (ev_T hr15 7 7 rfl (by kernel_rfl) rfl) (ev_T hr15 14 0 rfl (by kernel_rfl) rfl)) rfl (fun hr16 => ?_)
                    clear hr15
                    refine an_op hr16 rfl 1036 17 rfl rfl (ok_move rfl (ev_T hr16 15 0 rfl (by kernel_rfl) rfl)) rfl (fun hr17 => ?_)
                    clear hr16
                    refine an_on hr17 rfl rfl (ctx_T 16 (by kernel_rfl) (RsI.rev hr17 (q := 0) rfl rfl)) 1044 18 rfl rfl (withEv (x := .tmp 15) (ev_E (by kernel_rfl) rfl) (fun h1 => by first | exact ldc Try.r51 Try.s51 rfl h1 (by first | exact ctx_HE hr17.ok (by kernel_rfl) rfl | exact ev_H hr17 13 3 rfl (by kernel_rfl) rfl rfl | exact ev_H hr17 10 6 rfl (by kernel_rfl) rfl rfl | exact ev_H hr17 5 11 rfl (by kernel_rfl) rfl rfl | exact ev_H hr17 2 14 rfl (by kernel_rfl) rfl rfl) (by first | exact (.take (.take .done)) | exact (.skip (.take (.take .done))) | exact (.skip (.skip (.take (.take .done)))) | exact (.skip (.skip (.skip (.take (.take .done))))) | exact (.skip (.skip (.skip (.skip (.take (.take .done)))))) | exact (.skip (.skip (.skip (.skip (.skip (.take (.take .done))))))) | exact (.skip (.skip (.skip (.skip (.skip (.skip (.take (.take .done)))))))) | exact (.skip (.skip (.skip (.skip (.skip (.skip (.skip (.take (.take .done))))))))) | exact (.skip (.skip (.skip (.skip (.skip (.skip (.skip (.skip (.take (.take .done))))))))))) | exact lpn Try.r51 Try.s51 rfl h1 (by first | assumption | rfl) rfl)) rfl (fun hr18 => ?_)
                    clear hr17
                    refine an_on hr18 rfl rfl (ctx_T 16 (by kernel_rfl) (RsI.rev hr18 (q := 1) rfl rfl)) 1052 19 rfl rfl (withEv (x := .tmp 16) (ev_E (by kernel_rfl) rfl) (fun h1 => by first | exact ldc Try.r51 Try.s51 rfl h1 (by first | exact ctx_HE hr18.ok (by kernel_rfl) rfl | exact ev_H hr18 13 4 rfl (by kernel_rfl) rfl rfl | exact ev_H hr18 10 7 rfl (by kernel_rfl) rfl rfl | exact ev_H hr18 5 12 rfl (by kernel_rfl) rfl rfl | exact ev_H hr18 2 15 rfl (by kernel_rfl) rfl rfl) (by first | exact (.take (.take .done)) | exact (.skip (.take (.take .done))) | exact (.skip (.skip (.take (.take .done)))) | exact (.skip (.skip (.skip (.take (.take .done))))) | exact (.skip (.skip (.skip (.skip (.take (.take .done)))))) | exact (.skip (.skip (.skip (.skip (.skip (.take (.take .done))))))) | exact (.skip (.skip (.skip (.skip (.skip (.skip (.take (.take .done)))))))) | exact (.skip (.skip (.skip (.skip (.skip (.skip (.skip (.take (.take .done))))))))) | exact (.skip (.skip (.skip (.skip (.skip (.skip (.skip (.skip (.take (.take .done))))))))))) | exact lpn Try.r51 Try.s51 rfl h1 (by first | assumption | rfl) rfl)) rfl (fun hr19 => ?_)
                    clear hr18
                    refine an_on hr19 rfl rfl (ctx_T 16 (by kernel_rfl) (RsI.rev hr19 (q := 2) rfl rfl)) 1060 20 rfl rfl (ok_call [] [] rfl Try.func43 (by simp [Try.f43]) (by simp [Try.f43]) (c5) (.cons (ev_T hr19 17 1 rfl (by kernel_rfl) rfl) (by repeat' first | exact .t rfl | exact .rd rfl rfl rfl rfl | exact .nil | exact DLeL.nil | refine DLeL.cons ?_ ?_ | refine .agg' ?_) (.cons (ev_T hr19 18 0 rfl (by kernel_rfl) rfl) (by repeat' first | exact .t rfl | exact .rd rfl rfl rfl rfl | exact .nil | exact DLeL.nil | refine DLeL.cons ?_ ?_ | refine .agg' ?_) (.nil))) .nil (by repeat' first | exact .t rfl | exact DLeL.nil | refine DLeL.cons ?_ ?_ | refine .agg' ?_ | refine .tup' ?_) .nil rfl rfl) rfl (fun hr20 => ?_)
                    clear hr19
                    refine an_on hr20 rfl rfl (ctx_T 16 (by kernel_rfl) (RsI.rev hr20 (q := 3) rfl rfl)) 1068 21 rfl rfl (withEv (x := .tmp 17) (ev_E (by kernel_rfl) rfl) (fun h1 => by first | exact ldc Try.r51 Try.s51 rfl h1 (by first | exact ctx_HE hr20.ok (by kernel_rfl) rfl | exact ev_H hr20 13 6 rfl (by kernel_rfl) rfl rfl | exact ev_H hr20 10 9 rfl (by kernel_rfl) rfl rfl | exact ev_H hr20 5 14 rfl (by kernel_rfl) rfl rfl | exact ev_H hr20 2 17 rfl (by kernel_rfl) rfl rfl) (by first | exact (.take (.take .done)) | exact (.skip (.take (.take .done))) | exact (.skip (.skip (.take (.take .done)))) | exact (.skip (.skip (.skip (.take (.take .done))))) | exact (.skip (.skip (.skip (.skip (.take (.take .done)))))) | exact (.skip (.skip (.skip (.skip (.skip (.take (.take .done))))))) | exact (.skip (.skip (.skip (.skip (.skip (.skip (.take (.take .done)))))))) | exact (.skip (.skip (.skip (.skip (.skip (.skip (.skip (.take (.take .done))))))))) | exact (.skip (.skip (.skip (.skip (.skip (.skip (.skip (.skip (.take (.take .done))))))))))) | exact lpn Try.r51 Try.s51 rfl h1 (by first | assumption | rfl) rfl)) rfl (fun hr21 => ?_)
                    clear hr20
                    refine an_on hr21 rfl rfl (ctx_T 16 (by kernel_rfl) (RsI.rev hr21 (q := 4) rfl rfl)) 1076 22 rfl rfl (withEv (x := .tmp 18) (ev_E (by kernel_rfl) rfl) (fun h1 => by first | exact ldc Try.r51 Try.s51 rfl h1 (by first | exact ctx_HE hr21.ok (by kernel_rfl) rfl | exact ev_H hr21 13 7 rfl (by kernel_rfl) rfl rfl | exact ev_H hr21 10 10 rfl (by kernel_rfl) rfl rfl | exact ev_H hr21 5 15 rfl (by kernel_rfl) rfl rfl | exact ev_H hr21 2 18 rfl (by kernel_rfl) rfl rfl) (by first | exact (.take (.take .done)) | exact (.skip (.take (.take .done))) | exact (.skip (.skip (.take (.take .done)))) | exact (.skip (.skip (.skip (.take (.take .done))))) | exact (.skip (.skip (.skip (.skip (.take (.take .done)))))) | exact (.skip (.skip (.skip (.skip (.skip (.take (.take .done))))))) | exact (.skip (.skip (.skip (.skip (.skip (.skip (.take (.take .done)))))))) | exact (.skip (.skip (.skip (.skip (.skip (.skip (.skip (.take (.take .done))))))))) | exact (.skip (.skip (.skip (.skip (.skip (.skip (.skip (.skip (.take (.take .done))))))))))) | exact lpn Try.r51 Try.s51 rfl h1 (by first | assumption | rfl) rfl)) rfl (fun hr22 => ?_)
                    clear hr21
                    refine an_on hr22 rfl rfl (ctx_T 16 (by kernel_rfl) (RsI.rev hr22 (q := 5) rfl rfl)) 1084 23 rfl rfl (ok_call [] [] rfl Try.func43 (by simp [Try.f43]) (by simp [Try.f43]) (c6) (.cons (ev_T hr22 20 1 rfl (by kernel_rfl) rfl) (by repeat' first | exact .t rfl | exact .rd rfl rfl rfl rfl | exact .nil | exact DLeL.nil | refine DLeL.cons ?_ ?_ | refine .agg' ?_) (.cons (ev_T hr22 21 0 rfl (by kernel_rfl) rfl) (by repeat' first | exact .t rfl | exact .rd rfl rfl rfl rfl | exact .nil | exact DLeL.nil | refine DLeL.cons ?_ ?_ | refine .agg' ?_) (.nil))) .nil (by repeat' first | exact .t rfl | exact DLeL.nil | refine DLeL.cons ?_ ?_ | refine .agg' ?_ | refine .tup' ?_) .nil rfl rfl) rfl (fun hr23 => ?_)
                    clear hr22
                    refine an_on hr23 rfl rfl (ctx_T 16 (by kernel_rfl) (RsI.rev hr23 (q := 6) rfl rfl)) 1092 24 rfl rfl (okB (b := false) (ok_neb Try.u4 rfl (ev_T hr23 19 3 rfl (by kernel_rfl) rfl) (ev_T hr23 22 0 rfl (by kernel_rfl) rfl)) (by rw [hlon]; simp)) rfl (fun hr24 => ?_)
                    clear hr23
                    refine an_op hr24 rfl 1100 25 rfl rfl (by first | exact ok_pick_t rfl (ev_T hr24 16 7 rfl (by kernel_rfl) rfl) rfl | exact ok_pick_f rfl (ev_T hr24 16 7 rfl (by kernel_rfl) rfl) (ev_T hr24 23 0 rfl (by kernel_rfl) rfl)) rfl (fun hr25 => ?_)
                    clear hr24
                    refine an_nil [some 232, some 233, some 234, some 235, some 236, some 237, some 238, some 239, some 240, some 241, some 242, some 243, some 244, some 245, some 246, some 247, some 248, some 249, some 250, some 251, some 252, some 253, some 254, some 255, some 256] hr25 rfl (by kernel_rfl) ?_
                    clear hr25
                    refine aw_cond rfl (fun hb10 => ?_) (fun hb10 => ?_)
                    · exact absurd hb10 (by decide)
                    · skip
                      refine aw_skip ?_
                      refine aw_region 1132 hE (by decide) rfl rfl ?_
                      refine sq_op (some 142) 1116 rfl rfl rfl (ok_move rfl rfl) ?_
                      refine sq_op (some 143) 1124 rfl rfl rfl (ok_add rfl rfl rfl (by omega)) ?_
                      refine sq_op (some 14) 1132 rfl rfl rfl (ok_assign rfl rfl) ?_
                      refine sq_nil ?_
                      exact ⟨k + 1, by omega, show s.of_.length - (k + 1) < s.of_.length - k by omega, ent_of [] 100 (.cons rfl (.ref rfl rfl) (.cons rfl (.t rfl) (.cons rfl (.t rfl) (.cons rfl (.ref rfl rfl) (.cons rfl (.t rfl) (.cons rfl (.t rfl) .nil)))))) (.cons rfl (.box' (.cons (.t rfl) (.cons (.t rfl) (.cons (.t rfl) .nil)))) (.cons rfl (.box' (.cons (.t rfl) (.cons (.t rfl) (.cons (.t rfl) (.cons (.t rfl) (.cons (.t rfl) .nil)))))) .nil)) rfl⟩
                · skip
                  refine aw_exit ?_
                  refine aw_region 164 hE (by decide) rfl rfl ?_
                  refine sq_op (some 135) 148 rfl rfl rfl (ok_move rfl rfl) ?_
                  refine sq_op (some 136) 156 rfl rfl rfl (ok_add rfl rfl rfl (by omega)) ?_
                  refine sq_op (some 13) 164 rfl rfl rfl (ok_assign rfl rfl) ?_
                  refine sq_nil ?_
                  exact ⟨i + 1, by omega, show s.of_.length - (i + 1) < s.of_.length - i by omega, ent_of [] 100 (.cons rfl (.ref rfl rfl) (.cons rfl (.t rfl) (.cons rfl (.t rfl) (.cons rfl (.ref rfl rfl) (.cons rfl (.t rfl) .nil))))) (.cons rfl (.box' (.cons (.t rfl) (.cons (.t rfl) (.cons (.t rfl) .nil)))) (.cons rfl (.box' (.cons (.t rfl) (.cons (.t rfl) (.cons (.t rfl) (.cons (.t rfl) (.cons (.t rfl) .nil)))))) .nil)) rfl⟩
              · skip
                refine aw_exit ?_
                refine aw_region 164 hE (by decide) rfl rfl ?_
                refine sq_op (some 101) 148 rfl rfl rfl (ok_move rfl rfl) ?_
                refine sq_op (some 102) 156 rfl rfl rfl (ok_add rfl rfl rfl (by omega)) ?_
                refine sq_op (some 11) 164 rfl rfl rfl (ok_assign rfl rfl) ?_
                refine sq_nil ?_
                exact ⟨n + 1, by omega, show b.length - (n + 1) < b.length - n by omega, ent_of [] 100 (.cons rfl (.ref rfl rfl) (.cons rfl (.t rfl) (.cons rfl (.t rfl) .nil))) (.cons rfl (.box' (.cons (.t rfl) (.cons (.t rfl) (.cons (.t rfl) .nil)))) .nil) rfl⟩
          · obtain ⟨s', hs'⟩ : ∃ s', b[n - 1]? = some s' := ⟨_, List.getElem?_eq_getElem (by omega)⟩
            have hsx' : s'.x = at_.getD (n - 1) 0 := by
              rw [hbg (n - 1) (by omega)] at hs'
              cases hs'
              rfl
            have hlt := hasc n hn hn0
            have fx' : (shtT b)[(n - 1) * 5 + 0]? = some (ti s'.x) := flat_get (f := shtC) (fun _ => rfl) hs' 0 (by decide)
            refine aw_any [[], [0], [0, 1], [], [3], [3, 4], [3, 4, 5], [0, 1, 2, 3, 4, 5, 6], [0, 1, 2, 3, 4, 5, 6, 7], [0, 1, 2, 3, 4, 5, 6, 7, 8], [0, 1, 2, 3, 4, 5, 6, 7, 8, 9], [0, 1, 2, 3, 4, 5, 6, 7, 8, 9, 10], [0, 1, 2, 3, 4, 5, 6, 7, 8, 9, 10, 11], [0, 1, 2, 3, 4, 5, 6, 7, 8, 9, 10, 11, 12], [0, 1, 2, 3, 4, 5, 6, 7, 8, 9, 10, 11], [0, 1, 2, 3, 4, 5, 6, 7, 8, 9, 10, 11], [0, 1, 2, 3, 4, 5, 6, 7, 8, 9, 10, 11, 15], [0, 1, 2, 3, 4, 5, 6, 7, 8, 9, 10, 11, 14, 15, 16], [0, 1, 2, 3, 4, 5, 6, 7, 8, 9, 10, 11, 14, 15, 16, 17], [0, 1, 2, 3, 4, 5, 6, 7, 8, 9, 10, 11, 14, 15, 16, 17, 18], [0, 1, 2, 3, 4, 5, 6, 7, 8, 9, 10, 11, 12, 13, 14, 15, 16, 17, 18, 19], [0, 1, 2, 3, 4, 5, 6, 7, 8, 9, 10, 11, 12, 13, 14, 15, 16, 17, 18, 19, 20], [0, 1, 2, 3, 4, 5, 6, 7, 8, 9, 10, 11, 12, 13, 14, 15, 16, 17, 18, 19, 20, 21]] [[], [], [], [], [], [], [], [], [], [], [], [], [], [], [], [], [], [], [], [], [], [], []] Try.mix hE (by decide) (by kernel_rfl) 364 rfl (fun hr0 => ?_)
            refine an_op hr0 rfl 180 1 rfl rfl (withEv (x := .tmp 12) (ev_E (by kernel_rfl) rfl) (fun h1 => by first | exact ok_fieldr rfl Try.o96_2 h1 | exact ok_fieldp rfl Try.o96_2 h1)) rfl (fun hr1 => ?_)
            clear hr0
            refine an_op hr1 rfl 188 2 rfl rfl (withEv (x := .tmp 107) (ev_T hr1 0 0 rfl (by kernel_rfl) rfl) (fun h1 => by first | exact ld1 Try.r22 rfl h1 (by first | exact ctx_HE hr1.ok (by kernel_rfl) rfl) (by first | assumption | rfl) | exact lp1 Try.r22 rfl h1 (by first | assumption | rfl))) rfl (fun hr2 => ?_)
            clear hr1
            refine an_op hr2 rfl 196 3 rfl rfl (withEv (x := .tmp 108) (ev_T hr2 1 0 rfl (by kernel_rfl) rfl) (fun h1 => by first | exact ok_len Try.sl22 rfl rfl (.t h1) | exact ok_len Try.sl22 rfl rfl (.own h1 (by first | exact ctx_HE hr2.ok (by kernel_rfl) rfl)) | exact ok_len Try.sl22 rfl rfl (.nil h1))) rfl (fun hr3 => ?_)
            clear hr2
            refine an_op hr3 rfl 204 4 rfl rfl (withEv (x := .tmp 12) (ev_E (by kernel_rfl) rfl) (fun h1 => by first | exact ok_fieldr rfl Try.o96_1 h1 | exact ok_fieldp rfl Try.o96_1 h1)) rfl (fun hr4 => ?_)
            clear hr3
            refine an_op hr4 rfl 212 5 rfl rfl (withEv (x := .tmp 110) (ev_T hr4 3 0 rfl (by kernel_rfl) rfl) (fun h1 => by first | exact ok_fieldr rfl Try.o45_2 h1 | exact ok_fieldp rfl Try.o45_2 h1)) rfl (fun hr5 => ?_)
            clear hr4
            refine an_op hr5 rfl 220 6 rfl rfl (withEv (x := .tmp 111) (ev_T hr5 4 0 rfl (by kernel_rfl) rfl) (fun h1 => by first | exact ld1 Try.r43 rfl h1 (by first | exact ctx_HE hr5.ok (by kernel_rfl) rfl) (by first | assumption | rfl) | exact lp1 Try.r43 rfl h1 (by first | assumption | rfl))) rfl (fun hr6 => ?_)
            clear hr5
            refine an_op hr6 rfl 228 7 rfl rfl (withEv (x := .tmp 112) (ev_T hr6 5 0 rfl (by kernel_rfl) rfl) (fun h1 => by first | exact ok_len Try.sl43 rfl rfl (.t h1) | exact ok_len Try.sl43 rfl rfl (.own h1 (by first | exact ctx_HE hr6.ok (by kernel_rfl) rfl)) | exact ok_len Try.sl43 rfl rfl (.nil h1))) rfl (fun hr7 => ?_)
            clear hr6
            refine an_op hr7 rfl 236 8 rfl rfl (okB (ok_neq rfl (ev_T hr7 2 4 rfl (by kernel_rfl) rfl) (ev_T hr7 6 0 rfl (by kernel_rfl) rfl)) (decide_eq_false (by omega))) rfl (fun hr8 => ?_)
            clear hr7
            refine an_op hr8 rfl 244 9 rfl rfl (ok_move rfl (ev_T hr8 7 0 rfl (by kernel_rfl) rfl)) rfl (fun hr9 => ?_)
            clear hr8
            refine an_on hr9 rfl rfl (ctx_T 8 (by kernel_rfl) (RsI.rev hr9 (q := 0) rfl rfl)) 252 10 rfl rfl (ok_move rfl (ev_E (by kernel_rfl) rfl)) rfl (fun hr10 => ?_)
            clear hr9
            refine an_on hr10 rfl rfl (ctx_T 8 (by kernel_rfl) (RsI.rev hr10 (q := 1) rfl rfl)) 260 11 rfl rfl (okB (ok_gtr rfl (ev_T hr10 9 0 rfl (by kernel_rfl) rfl) rfl) (decide_eq_true (by omega))) rfl (fun hr11 => ?_)
            clear hr10
            refine an_on hr11 rfl rfl (ctx_T 8 (by kernel_rfl) (RsI.rev hr11 (q := 2) rfl rfl)) 268 12 rfl rfl (ok_move rfl (ev_T hr11 10 0 rfl (by kernel_rfl) rfl)) rfl (fun hr12 => ?_)
            clear hr11
            refine an_on hr12 rfl rfl (ctx_T 11 (by kernel_rfl) (RsI.rev hr12 (q := 0) rfl rfl)) 276 13 rfl rfl (withEv (x := .tmp 12) (ev_E (by kernel_rfl) rfl) (fun h1 => by first | exact ok_fieldr rfl Try.o96_0 h1 | exact ok_fieldp rfl Try.o96_0 h1)) rfl (fun hr13 => ?_)
            clear hr12
            refine an_on hr13 rfl rfl (ctx_T 11 (by kernel_rfl) (RsI.rev hr13 (q := 1) rfl rfl)) 284 14 rfl rfl (withEv (x := .tmp 119) (ev_T hr13 12 0 rfl (by kernel_rfl) rfl) (fun h1 => by first | exact ld1 Try.r3 rfl h1 (by first | exact ctx_HE hr13.ok (by kernel_rfl) rfl | exact ev_H hr13 6 6 rfl (by kernel_rfl) rfl rfl | exact ev_H hr13 2 10 rfl (by kernel_rfl) rfl rfl) (by first | assumption | rfl) | exact lp1 Try.r3 rfl h1 (by first | assumption | rfl))) rfl (fun hr14 => ?_)
            clear hr13
            refine an_on hr14 rfl rfl (ctx_T 11 (by kernel_rfl) (RsI.rev hr14 (q := 2) rfl rfl)) 292 15 rfl rfl (ok_move rfl (ev_E (by kernel_rfl) rfl)) rfl (fun hr15 => ?_)
            clear hr14
            refine an_on hr15 rfl rfl (ctx_T 11 (by kernel_rfl) (RsI.rev hr15 (q := 3) rfl rfl)) 300 16 rfl rfl (ok_move rfl (ev_E (by kernel_rfl) rfl)) rfl (fun hr16 => ?_)
            clear hr15
            refine an_on hr16 rfl rfl (ctx_T 11 (by kernel_rfl) (RsI.rev hr16 (q := 4) rfl rfl)) 308 17 rfl rfl (okNum (c := ((n : Nat) : Int) - 1) (d := ((n - 1 : Nat) : Int)) (ok_sub rfl (ev_T hr16 15 0 rfl (by kernel_rfl) rfl) rfl (by omega)) (by omega)) rfl (fun hr17 => ?_)
            clear hr16
            refine an_on hr17 rfl rfl (ctx_T 11 (by kernel_rfl) (RsI.rev hr17 (q := 5) rfl rfl)) 316 18 rfl rfl (withEv (x := .tmp 121) (ev_T hr17 14 2 rfl (by kernel_rfl) rfl) (fun h1 => withEv (x := .tmp 123) (ev_T hr17 16 0 rfl (by kernel_rfl) rfl) (fun h2 => by first | exact ix_p Try.e81 rfl h1 h2 (by omega) | exact ix_r Try.e81 rfl h1 (by first | exact ctx_HE hr17.ok (by kernel_rfl) rfl | exact ev_H hr17 6 10 rfl (by kernel_rfl) rfl rfl | exact ev_H hr17 2 14 rfl (by kernel_rfl) rfl rfl) h2 (by omega) | exact ok_indexp rfl Try.e81 h1 h2 (by omega) (by omega) | exact ok_indexr rfl Try.e81 h1 (by first | exact ctx_HE hr17.ok (by kernel_rfl) rfl | exact ev_H hr17 6 10 rfl (by kernel_rfl) rfl rfl | exact ev_H hr17 2 14 rfl (by kernel_rfl) rfl rfl) h2 (by omega) (by omega)))) rfl (fun hr18 => ?_)
            clear hr17
            refine an_on hr18 rfl rfl (ctx_T 11 (by kernel_rfl) (RsI.rev hr18 (q := 6) rfl rfl)) 324 19 rfl rfl (withEv (x := .tmp 124) (ev_T hr18 17 0 rfl (by kernel_rfl) rfl) (fun h1 => by first | exact ok_fieldr rfl Try.o96_0 h1 | exact ok_fieldp rfl Try.o96_0 h1)) rfl (fun hr19 => ?_)
            clear hr18
            refine an_on hr19 rfl rfl (ctx_T 11 (by kernel_rfl) (RsI.rev hr19 (q := 7) rfl rfl)) 332 20 rfl rfl (withEv (x := .tmp 125) (ev_T hr19 18 0 rfl (by kernel_rfl) rfl) (fun h1 => by first | exact ld1 Try.r3 rfl h1 (by first | exact ctx_HE hr19.ok (by kernel_rfl) rfl | exact ev_H hr19 6 12 rfl (by kernel_rfl) rfl rfl | exact ev_H hr19 2 16 rfl (by kernel_rfl) rfl rfl) (by first | assumption | rfl) | exact lp1 Try.r3 rfl h1 (by first | assumption | rfl))) rfl (fun hr20 => ?_)
            clear hr19
            refine an_on hr20 rfl rfl (ctx_T 11 (by kernel_rfl) (RsI.rev hr20 (q := 8) rfl rfl)) 340 21 rfl rfl (okB (ok_leq rfl (ev_T hr20 13 6 rfl (by kernel_rfl) rfl) (ev_T hr20 19 0 rfl (by kernel_rfl) rfl)) (decide_eq_false (by omega))) rfl (fun hr21 => ?_)
            clear hr20
            refine an_on hr21 rfl rfl (ctx_T 8 (by kernel_rfl) (RsI.rev hr21 (q := 12) rfl rfl)) 348 22 rfl rfl (by first | exact ok_pick_t rfl (ev_T hr21 11 9 rfl (by kernel_rfl) rfl) (ev_T hr21 20 0 rfl (by kernel_rfl) rfl) | exact ok_pick_f rfl (ev_T hr21 11 9 rfl (by kernel_rfl) rfl) rfl) rfl (fun hr22 => ?_)
            clear hr21
            refine an_op hr22 rfl 356 23 rfl rfl (by first | exact ok_pick_t rfl (ev_T hr22 8 13 rfl (by kernel_rfl) rfl) rfl | exact ok_pick_f rfl (ev_T hr22 8 13 rfl (by kernel_rfl) rfl) (ev_T hr22 21 0 rfl (by kernel_rfl) rfl)) rfl (fun hr23 => ?_)
            clear hr22
            refine an_nil [some 107, some 108, some 109, some 110, some 111, some 112, some 113, some 114, some 115, some 116, some 117, some 118, some 119, some 120, some 121, some 122, some 123, some 124, some 125, some 126, some 127, some 128, some 129] hr23 rfl (by kernel_rfl) ?_
            clear hr23
            refine aw_cond rfl (fun hb6 => ?_) (fun hb6 => ?_)
            · exact absurd hb6 (by decide)
            · skip
              refine aw_skip ?_
              refine aw_seq ?_
              refine aw_region 372 hE (by decide) rfl rfl ?_
              refine sq_op (some 13) 372 rfl rfl rfl (ok_assign rfl rfl) ?_
              refine sq_nil ?_
              refine aw_block ?_
              refine aw_loop (ι := Nat) (fun i => lit [(5, .ref 0 0), (6, .t (.sl b.length (shtT b))), (11, I n), (12, .ref 1 0), (13, I i)] [(0, .box 45 [I 62, I 62, .t (.sl L.length (shT L))]), (1, .box 96 [.t (ti s.x), .t (ti s.wd), .t (ti s.ht), .t (.sl s.sh.length (shT s.sh)), .t (.sl s.of_.length (intsT s.of_))])] 100) (fun i => i ≤ s.of_.length) (fun i => s.of_.length - i) 0 (ent_of [(1, 164)] 100 (.cons rfl (.ref rfl rfl) (.cons rfl (.t rfl) (.cons rfl (.t rfl) (.cons rfl (.ref rfl rfl) (.cons rfl (.t rfl) .nil))))) (.cons rfl (.box' (.cons (.t rfl) (.cons (.t rfl) (.cons (.t rfl) .nil)))) (.cons rfl (.box' (.cons (.t rfl) (.cons (.t rfl) (.cons (.t rfl) (.cons (.t rfl) (.cons (.t rfl) .nil)))))) .nil)) rfl) (by omega) (fun i hC3 => ?_)
              skip
              refine aw_seq ?_
              refine aw_seq ?_
              refine aw_region 140 hE (by decide) rfl rfl ?_
              refine sq_op (some 130) 108 rfl rfl rfl (ok_move rfl rfl) ?_
              refine sq_op (some 131) 116 rfl rfl rfl (withEv (x := .tmp 12) rfl (fun h1 => by first | exact ok_fieldr rfl Try.o96_2 h1 | exact ok_fieldp rfl Try.o96_2 h1)) ?_
              refine sq_op (some 132) 124 rfl rfl rfl (withEv (x := .tmp 131) rfl (fun h1 => by first | exact ld1 Try.r22 rfl h1 rfl (by first | assumption | rfl) | exact lp1 Try.r22 rfl h1 (by first | assumption | rfl))) ?_
              refine sq_op (some 133) 132 rfl rfl rfl (withEv (x := .tmp 132) rfl (fun h1 => by first | exact ok_len Try.sl22 rfl rfl (.t h1) | exact ok_len Try.sl22 rfl rfl (.own h1 rfl) | exact ok_len Try.sl22 rfl rfl (.nil h1))) ?_
              refine sq_op (some 134) 140 rfl rfl rfl (ok_lss rfl rfl rfl) ?_
              refine sq_nil ?_
              refine aw_cond rfl (fun hb7 => ?_) (fun hb7 => ?_)
              · simp at hb7
                have hi : i < s.of_.length := by omega
                refine aw_skip ?_
                refine aw_seq ?_
                refine aw_block ?_
                refine aw_seq ?_
                refine aw_region 148 hE (by decide) rfl rfl ?_
                refine sq_op (some 14) 148 rfl rfl rfl (ok_assign rfl rfl) ?_
                refine sq_nil ?_
                refine aw_block ?_
                refine aw_loop (ι := Nat) (fun k => lit [(5, .ref 0 0), (6, .t (.sl b.length (shtT b))), (11, I n), (12, .ref 1 0), (13, I i), (14, I k)] [(0, .box 45 [I 62, I 62, .t (.sl L.length (shT L))]), (1, .box 96 [.t (ti s.x), .t (ti s.wd), .t (ti s.ht), .t (.sl s.sh.length (shT s.sh)), .t (.sl s.of_.length (intsT s.of_))])] 100) (fun k => k ≤ s.of_.length) (fun k => s.of_.length - k) 0 (ent_of [] 100 (.cons rfl (.ref rfl rfl) (.cons rfl (.t rfl) (.cons rfl (.t rfl) (.cons rfl (.ref rfl rfl) (.cons rfl (.t rfl) (.cons rfl (.t rfl) .nil)))))) (.cons rfl (.box' (.cons (.t rfl) (.cons (.t rfl) (.cons (.t rfl) .nil)))) (.cons rfl (.box' (.cons (.t rfl) (.cons (.t rfl) (.cons (.t rfl) (.cons (.t rfl) (.cons (.t rfl) .nil)))))) .nil)) rfl) (by omega) (fun k hC4 => ?_)
                skip
                refine aw_seq ?_
                refine aw_seq ?_
                refine aw_region 140 hE (by decide) rfl rfl ?_
                refine sq_op (some 137) 108 rfl rfl rfl (ok_move rfl rfl) ?_
                refine sq_op (some 138) 116 rfl rfl rfl (withEv (x := .tmp 12) rfl (fun h1 => by first | exact ok_fieldr rfl Try.o96_2 h1 | exact ok_fieldp rfl Try.o96_2 h1)) ?_
                refine sq_op (some 139) 124 rfl rfl rfl (withEv (x := .tmp 138) rfl (fun h1 => by first | exact ld1 Try.r22 rfl h1 rfl (by first | assumption | rfl) | exact lp1 Try.r22 rfl h1 (by first | assumption | rfl))) ?_
                refine sq_op (some 140) 132 rfl rfl rfl (withEv (x := .tmp 139) rfl (fun h1 => by first | exact ok_len Try.sl22 rfl rfl (.t h1) | exact ok_len Try.sl22 rfl rfl (.own h1 rfl) | exact ok_len Try.sl22 rfl rfl (.nil h1))) ?_
                refine sq_op (some 141) 140 rfl rfl rfl (ok_lss rfl rfl rfl) ?_
                refine sq_nil ?_
                refine aw_cond rfl (fun hb8 => ?_) (fun hb8 => ?_)
                · simp at hb8
                  obtain ⟨pa, hpa, hoa, qa, hqa, hma⟩ := hsa i (by omega)
                  have ga := hgen _ (List.mem_iff_getElem?.2 ⟨pa, hqa⟩)
                  have sa : ScS qa := gen_sc ga
                  have foa : (intsT s.of_)[i * 1]? = some (ti pa) := by rw [Nat.mul_one]; simp [intsT, hoa]
                  have fa : ((shT L).drop (pa * 2)).take 2 = [ti qa.1, .sl qa.2.length (ptT qa.2)] := flat_part (f := fun s : Sh => [ti s.1, .sl s.2.length (ptT s.2)]) (fun _ => rfl) hqa
                  have fxa : ((shT s.sh).drop (i * 2)).take 2 = [ti (mvS s.x qa).1, .sl (mvS s.x qa).2.length (ptT (mvS s.x qa).2)] := flat_part (f := fun s : Sh => [ti s.1, .sl s.2.length (ptT s.2)]) (fun _ => rfl) hma
                  have fya : (shT s.sh)[i * 2 + 1]? = some (.sl (mvS s.x qa).2.length (ptT (mvS s.x qa).2)) := flat_get (f := fun s : Sh => [ti s.1, .sl s.2.length (ptT s.2)]) (fun _ => rfl) hma 1 (by decide)
                  obtain ⟨pc, hpc, hoc, qc, hqc, hmc⟩ := hsa k (by omega)
                  have gc := hgen _ (List.mem_iff_getElem?.2 ⟨pc, hqc⟩)
                  have sc : ScS qc := gen_sc gc
                  have foc : (intsT s.of_)[k * 1]? = some (ti pc) := by rw [Nat.mul_one]; simp [intsT, hoc]
                  have fc : ((shT L).drop (pc * 2)).take 2 = [ti qc.1, .sl qc.2.length (ptT qc.2)] := flat_part (f := fun s : Sh => [ti s.1, .sl s.2.length (ptT s.2)]) (fun _ => rfl) hqc
                  have fxc : ((shT s.sh).drop (k * 2)).take 2 = [ti (mvS s.x qc).1, .sl (mvS s.x qc).2.length (ptT (mvS s.x qc).2)] := flat_part (f := fun s : Sh => [ti s.1, .sl s.2.length (ptT s.2)]) (fun _ => rfl) hmc
                  have fyc : (shT s.sh)[k * 2 + 1]? = some (.sl (mvS s.x qc).2.length (ptT (mvS s.x qc).2)) := flat_get (f := fun s : Sh => [ti s.1, .sl s.2.length (ptT s.2)]) (fun _ => rfl) hmc 1 (by decide)
                  obtain ⟨⟨sxa, nxa⟩, hins, hlef, hlon⟩ := told_mv ga gc hx0
                  obtain ⟨⟨sxc, nxc⟩, _⟩ := told_mv gc ga hx0
                  have ma : (mvS s.x qa).2.length ≠ 0 := fun e => nxa (List.eq_nil_of_length_eq_zero e)
                  have mc : (mvS s.x qc).2.length ≠ 0 := fun e => nxc (List.eq_nil_of_length_eq_zero e)
                  have c1 := inside_does (mvS s.x qa) (mvS s.x qc) sxa sxc
                  have c2 := inside_does qa qc sa sc
                  have c3 := left_does (mvS s.x qa) (mvS s.x qc) sxa sxc
                  have c4 := left_does qa qc sa sc
                  have c5 := longer_does (mvS s.x qa) (mvS s.x qc) sxa sxc
                  have c6 := longer_does qa qc sa sc
                  refine aw_skip ?_
                  refine aw_seq ?_
                  refine aw_block ?_
                  refine aw_seq ?_
                  refine aw_seq ?_
                  refine aw_any [[], [0], [], [0, 1, 2], [0, 1, 2, 3], [0, 1, 2, 3, 4], [0, 1, 2, 3, 4, 5], [0, 1, 2, 3, 4, 5, 6], [0, 1, 2, 3, 4, 5, 6, 7], [0, 1, 2, 3, 4, 5, 6], [0, 1, 2, 3, 4, 5, 6, 7, 8, 9], [0, 1, 2, 3, 4, 5, 6, 7, 8, 9, 10], [0, 1, 2, 3, 4, 5, 6], [0, 1, 2, 3, 4, 5, 6, 12], [0, 1, 2, 3, 4, 5, 6, 12, 13], [0, 1, 2, 3, 4, 5, 6, 7, 8, 9, 10, 11, 12, 13, 14], [0, 1, 2, 3, 4, 5, 6, 7, 8, 9, 10, 11, 12, 13, 14, 15], [0, 1, 2, 3, 4, 5, 6, 7, 8, 9, 10, 11, 12, 13, 14, 15, 16], [0, 1, 2, 3, 4, 5, 6, 7, 8, 9, 10, 11, 12, 13, 14, 15, 16, 17], [0, 1, 2, 3, 4, 5, 6, 7, 8, 9, 10, 11, 12, 13, 14, 15, 16, 17, 18], [0, 1, 2, 3, 4, 5, 6, 7, 8, 9, 10, 11, 12, 13, 14, 15, 16, 17], [0, 1, 2, 3, 4, 5, 6, 7, 8, 9, 10, 11, 12, 13, 14, 15, 16, 17, 18, 19, 20], [0, 1, 2, 3, 4, 5, 6, 7, 8, 9, 10, 11, 12, 13, 14, 15, 16, 17, 18, 19, 20, 21], [0, 1, 2, 3, 4, 5, 6, 7, 8, 9, 10, 11, 12, 13, 14, 15, 16, 17, 18, 19, 20, 21, 22], [0, 1, 2, 3, 4, 5, 6, 7, 8, 9, 10, 11, 12, 13, 14, 15, 16, 17, 18, 19, 20, 21, 22, 23], [0, 1, 2, 3, 4, 5, 6, 7, 8, 9, 10, 11, 12, 13, 14, 15, 16, 17, 18, 19, 20, 21, 22, 23, 24], [0, 1, 2, 3, 4, 5, 6, 7, 8, 9, 10, 11, 12, 13, 14, 15, 16, 17, 18, 19, 20, 21, 22, 23, 24, 25], [0, 1, 2, 3, 4, 5, 6, 7, 8, 9, 10, 11, 12, 13, 14, 15, 16, 17, 18, 19, 20, 21, 22, 23, 24, 25, 26], [0, 1, 2, 3, 4, 5, 6, 7, 8, 9, 10, 11, 12, 13, 14, 15, 16, 17, 18, 19, 20, 21, 22, 23, 24, 25], [0, 1, 2, 3, 4, 5, 6, 7, 8, 9, 10, 11, 12, 13, 14, 15, 16, 17, 18, 19, 20, 21, 22, 23, 24, 25, 26, 27, 28], [0, 1, 2, 3, 4, 5, 6, 7, 8, 9, 10, 11, 12, 13, 14, 15, 16, 17, 18, 19, 20, 21, 22, 23, 24, 25, 26, 27, 28, 29], [0, 1, 2, 3, 4, 5, 6, 7, 8, 9, 10, 11, 12, 13, 14, 15, 16, 17, 18, 19, 20, 21, 22, 23, 24, 25], [0, 1, 2, 3, 4, 5, 6, 7, 8, 9, 10, 11, 12, 13, 14, 15, 16, 17, 18, 19, 20, 21, 22, 23, 24, 25, 31], [0, 1, 2, 3, 4, 5, 6, 7, 8, 9, 10, 11, 12, 13, 14, 15, 16, 17, 18, 19, 20, 21, 22, 23, 24, 25, 31, 32], [0, 1, 2, 3, 4, 5, 6, 7, 8, 9, 10, 11, 12, 13, 14, 15, 16, 17, 18, 19, 20, 21, 22, 23, 24, 25, 26, 27, 28, 29, 30, 31, 32, 33], [0, 1, 2, 3, 4, 5, 6, 7, 8, 9, 10, 11, 12, 13, 14, 15, 16, 17, 18, 19, 20, 21, 22, 23, 24, 25, 26, 27, 28, 29, 30, 31, 32, 33, 34], [0, 1, 2, 3, 4, 5, 6, 7, 8, 9, 10, 11, 12, 13, 14, 15, 16, 17, 18, 19, 20, 21, 22, 23, 24, 25, 26, 27, 28, 29, 30, 31, 32, 33, 34, 35], [0, 1, 2, 3, 4, 5, 6, 7, 8, 9, 10, 11, 12, 13, 14, 15, 16, 17, 18, 19, 20, 21, 22, 23, 24, 25, 26, 27, 28, 29, 30, 31, 32, 33, 34, 35, 36], [0, 1, 2, 3, 4, 5, 6, 7, 8, 9, 10, 11, 12, 13, 14, 15, 16, 17, 18, 19, 20, 21, 22, 23, 24, 25, 26, 27, 28, 29, 30, 31, 32, 33, 34, 35, 36, 37], [0, 1, 2, 3, 4, 5, 6, 7, 8, 9, 10, 11, 12, 13, 14, 15, 16, 17, 18, 19, 20, 21, 22, 23, 24, 25, 26, 27, 28, 29, 30, 31, 32, 33, 34, 35, 36, 37, 38], [0, 1, 2, 3, 4, 5, 6, 7, 8, 9, 10, 11, 12, 13, 14, 15, 16, 17, 18, 19, 20, 21, 22, 23, 24, 25, 26, 27, 28, 29, 30, 31, 32, 33, 34, 35, 36], [0, 1, 2, 3, 4, 5, 6, 7, 8, 9, 10, 11, 12, 13, 14, 15, 16, 17, 18, 19, 20, 21, 22, 23, 24, 25, 26, 27, 28, 29, 30, 31, 32, 33, 34, 35, 36, 37, 38, 39, 40], [0, 1, 2, 3, 4, 5, 6, 7, 8, 9, 10, 11, 12, 13, 14, 15, 16, 17, 18, 19, 20, 21, 22, 23, 24, 25, 26, 27, 28, 29, 30, 31, 32, 33, 34, 35, 36, 37, 38, 39, 40, 41], [0, 1, 2, 3, 4, 5, 6, 7, 8, 9, 10, 11, 12, 13, 14, 15, 16, 17, 18, 19, 20, 21, 22, 23, 24, 25, 26, 27, 28, 29, 30, 31, 32, 33, 34, 35, 36, 37, 38, 39, 40, 41, 42], [0, 1, 2, 3, 4, 5, 6, 7, 8, 9, 10, 11, 12, 13, 14, 15, 16, 17, 18, 19, 20, 21, 22, 23, 24, 25, 26, 27, 28, 29, 30, 31, 32, 33, 34, 35, 36, 37, 38, 39, 40, 41, 42, 43], [0, 1, 2, 3, 4, 5, 6, 7, 8, 9, 10, 11, 12, 13, 14, 15, 16, 17, 18, 19, 20, 21, 22, 23, 24, 25, 26, 27, 28, 29, 30, 31, 32, 33, 34, 35, 36, 37, 38, 39, 40, 41, 42, 43, 44], [0, 1, 2, 3, 4, 5, 6, 7, 8, 9, 10, 11, 12, 13, 14, 15, 16, 17, 18, 19, 20, 21, 22, 23, 24, 25, 26, 27, 28, 29, 30, 31, 32, 33, 34, 35, 36, 37, 38, 39, 40, 41, 42, 43, 44, 45], [0, 1, 2, 3, 4, 5, 6, 7, 8, 9, 10, 11, 12, 13, 14, 15, 16, 17, 18, 19, 20, 21, 22, 23, 24, 25, 26, 27, 28, 29, 30, 31, 32, 33, 34, 35, 36, 37, 38, 39, 40, 41, 42, 43, 44, 45, 46], [0, 1, 2, 3, 4, 5, 6, 7, 8, 9, 10, 11, 12, 13, 14, 15, 16, 17, 18, 19, 20, 21, 22, 23, 24, 25, 26, 27, 28, 29, 30, 31, 32, 33, 34, 35, 36, 37, 38, 39, 40, 41, 42, 43, 44, 45, 46, 47], [0, 1, 2, 3, 4, 5, 6, 7, 8, 9, 10, 11, 12, 13, 14, 15, 16, 17, 18, 19, 20, 21, 22, 23, 24, 25, 26, 27, 28, 29, 30, 31, 32, 33, 34, 35, 36, 37, 38, 39, 40, 41, 42, 43, 44, 45, 46, 47, 48], [0, 1, 2, 3, 4, 5, 6, 7, 8, 9, 10, 11, 12, 13, 14, 15, 16, 17, 18, 19, 20, 21, 22, 23, 24, 25, 26, 27, 28, 29, 30, 31, 32, 33, 34, 35, 36, 37, 38, 39, 40, 41, 42, 43, 44, 45, 46, 47, 48, 49], [0, 1, 2, 3, 4, 5, 6, 7, 8, 9, 10, 11, 12, 13, 14, 15, 16, 17, 18, 19, 20, 21, 22, 23, 24, 25, 26, 27, 28, 29, 30, 31, 32, 33, 34, 35, 36, 37, 38, 39, 40, 41, 42, 43, 44, 45, 46, 47], [0, 1, 2, 3, 4, 5, 6, 7, 8, 9, 10, 11, 12, 13, 14, 15, 16, 17, 18, 19, 20, 21, 22, 23, 24, 25, 26, 27, 28, 29, 30, 31, 32, 33, 34, 35, 36, 37, 38, 39, 40, 41, 42, 43, 44, 45, 46, 47, 48, 49, 50, 51], [0, 1, 2, 3, 4, 5, 6, 7, 8, 9, 10, 11, 12, 13, 14, 15, 16, 17, 18, 19, 20, 21, 22, 23, 24, 25, 26, 27, 28, 29, 30, 31, 32, 33, 34, 35, 36, 37, 38, 39, 40, 41, 42, 43, 44, 45, 46, 47, 48, 49, 50, 51, 52], [0, 1, 2, 3, 4, 5, 6, 7, 8, 9, 10, 11, 12, 13, 14, 15, 16, 17, 18, 19, 20, 21, 22, 23, 24, 25, 26, 27, 28, 29, 30, 31, 32, 33, 34, 35, 36, 37, 38, 39, 40, 41, 42, 43, 44, 45, 46, 47, 48, 49, 50, 51, 52, 53], [0, 1, 2, 3, 4, 5, 6, 7, 8, 9, 10, 11, 12, 13, 14, 15, 16, 17, 18, 19, 20, 21, 22, 23, 24, 25, 26, 27, 28, 29, 30, 31, 32, 33, 34, 35, 36, 37, 38, 39, 40, 41, 42, 43, 44, 45, 46, 47, 48, 49, 50, 51, 52, 53, 54], [0, 1, 2, 3, 4, 5, 6, 7, 8, 9, 10, 11, 12, 13, 14, 15, 16, 17, 18, 19, 20, 21, 22, 23, 24, 25, 26, 27, 28, 29, 30, 31, 32, 33, 34, 35, 36, 37, 38, 39, 40, 41, 42, 43, 44, 45, 46, 47, 48, 49, 50, 51, 52, 53, 54, 55], [0, 1, 2, 3, 4, 5, 6, 7, 8, 9, 10, 11, 12, 13, 14, 15, 16, 17, 18, 19, 20, 21, 22, 23, 24, 25, 26, 27, 28, 29, 30, 31, 32, 33, 34, 35, 36, 37, 38, 39, 40, 41, 42, 43, 44, 45, 46, 47, 48, 49, 50, 51, 52, 53, 54, 55, 56]] [[], [], [], [], [], [], [], [], [], [], [], [], [], [], [], [], [], [], [], [], [], [], [], [], [], [], [], [], [], [], [], [], [], [], [], [], [], [], [], [], [], [], [], [], [], [], [], [], [], [], [], [], [], [], [], [], [], []] Try.mix hE (by decide) (by kernel_rfl) 604 rfl (fun hr0 => ?_)
                  refine an_op hr0 rfl 140 1 rfl rfl (withEv (x := .tmp 12) (ev_E (by kernel_rfl) rfl) (fun h1 => by first | exact ok_fieldr rfl Try.o96_2 h1 | exact ok_fieldp rfl Try.o96_2 h1)) rfl (fun hr1 => ?_)
                  clear hr0
                  refine an_op hr1 rfl 148 2 rfl rfl (withEv (x := .tmp 144) (ev_T hr1 0 0 rfl (by kernel_rfl) rfl) (fun h1 => by first | exact ld1 Try.r22 rfl h1 (by first | exact ctx_HE hr1.ok (by kernel_rfl) rfl) (by first | assumption | rfl) | exact lp1 Try.r22 rfl h1 (by first | assumption | rfl))) rfl (fun hr2 => ?_)
                  clear hr1
                  refine an_op hr2 rfl 156 3 rfl rfl (ok_move rfl (ev_E (by kernel_rfl) rfl)) rfl (fun hr3 => ?_)
                  clear hr2
                  refine an_op hr3 rfl 164 4 rfl rfl (withEv (x := .tmp 145) (ev_T hr3 1 1 rfl (by kernel_rfl) rfl) (fun h1 => withEv (x := .tmp 146) (ev_T hr3 2 0 rfl (by kernel_rfl) rfl) (fun h2 => by first | exact ix_p Try.e22 rfl h1 h2 (by omega) | exact ix_r Try.e22 rfl h1 (by first | exact ctx_HE hr3.ok (by kernel_rfl) rfl) h2 (by omega) | exact ok_indexp rfl Try.e22 h1 h2 (by omega) (by omega) | exact ok_indexr rfl Try.e22 h1 (by first | exact ctx_HE hr3.ok (by kernel_rfl) rfl) h2 (by omega) (by omega)))) rfl (fun hr4 => ?_)
                  clear hr3
                  refine an_op hr4 rfl 172 5 rfl rfl (withEv (x := .tmp 147) (ev_T hr4 3 0 rfl (by kernel_rfl) rfl) (fun h1 => by first | exact ld1 Try.r3 rfl h1 (by first | exact ctx_HE hr4.ok (by kernel_rfl) rfl) (by first | assumption | rfl) | exact lp1 Try.r3 rfl h1 (by first | assumption | rfl))) rfl (fun hr5 => ?_)
                  clear hr4
                  refine an_op hr5 rfl 180 6 rfl rfl (okB (ok_lss rfl (ev_T hr5 4 0 rfl (by kernel_rfl) rfl) rfl) (decide_eq_false (by omega))) rfl (fun hr6 => ?_)
                  clear hr5
                  refine an_op hr6 rfl 188 7 rfl rfl (ok_move rfl (ev_T hr6 5 0 rfl (by kernel_rfl) rfl)) rfl (fun hr7 => ?_)
                  clear hr6
                  refine an_on hr7 rfl rfl (ctx_T 6 (by kernel_rfl) (RsI.rev hr7 (q := 0) rfl rfl)) 196 8 rfl rfl (withEv (x := .tmp 12) (ev_E (by kernel_rfl) rfl) (fun h1 => by first | exact ok_fieldr rfl Try.o96_2 h1 | exact ok_fieldp rfl Try.o96_2 h1)) rfl (fun hr8 => ?_)
                  clear hr7
                  refine an_on hr8 rfl rfl (ctx_T 6 (by kernel_rfl) (RsI.rev hr8 (q := 1) rfl rfl)) 204 9 rfl rfl (withEv (x := .tmp 151) (ev_T hr8 7 0 rfl (by kernel_rfl) rfl) (fun h1 => by first | exact ld1 Try.r22 rfl h1 (by first | exact ctx_HE hr8.ok (by kernel_rfl) rfl) (by first | assumption | rfl) | exact lp1 Try.r22 rfl h1 (by first | assumption | rfl))) rfl (fun hr9 => ?_)
                  clear hr8
                  refine an_on hr9 rfl rfl (ctx_T 6 (by kernel_rfl) (RsI.rev hr9 (q := 2) rfl rfl)) 212 10 rfl rfl (ok_move rfl (ev_E (by kernel_rfl) rfl)) rfl (fun hr10 => ?_)
                  clear hr9
                  refine an_on hr10 rfl rfl (ctx_T 6 (by kernel_rfl) (RsI.rev hr10 (q := 3) rfl rfl)) 220 11 rfl rfl (withEv (x := .tmp 152) (ev_T hr10 8 1 rfl (by kernel_rfl) rfl) (fun h1 => withEv (x := .tmp 153) (ev_T hr10 9 0 rfl (by kernel_rfl) rfl) (fun h2 => by first | exact ix_p Try.e22 rfl h1 h2 (by omega) | exact ix_r Try.e22 rfl h1 (by first | exact ctx_HE hr10.ok (by kernel_rfl) rfl) h2 (by omega) | exact ok_indexp rfl Try.e22 h1 h2 (by omega) (by omega) | exact ok_indexr rfl Try.e22 h1 (by first | exact ctx_HE hr10.ok (by kernel_rfl) rfl) h2 (by omega) (by omega)))) rfl (fun hr11 => ?_)
                  clear hr10
                  refine an_on hr11 rfl rfl (ctx_T 6 (by kernel_rfl) (RsI.rev hr11 (q := 4) rfl rfl)) 228 12 rfl rfl (withEv (x := .tmp 154) (ev_T hr11 10 0 rfl (by kernel_rfl) rfl) (fun h1 => by first | exact ld1 Try.r3 rfl h1 (by first | exact ctx_HE hr11.ok (by kernel_rfl) rfl) (by first | assumption | rfl) | exact lp1 Try.r3 rfl h1 (by first | assumption | rfl))) rfl (fun hr12 => ?_)
                  clear hr11
                  refine an_on hr12 rfl rfl (ctx_T 6 (by kernel_rfl) (RsI.rev hr12 (q := 5) rfl rfl)) 236 13 rfl rfl (withEv (x := .tmp 5) (ev_E (by kernel_rfl) rfl) (fun h1 => by first | exact ok_fieldr rfl Try.o45_2 h1 | exact ok_fieldp rfl Try.o45_2 h1)) rfl (fun hr13 => ?_)
                  clear hr12
                  refine an_on hr13 rfl rfl (ctx_T 6 (by kernel_rfl) (RsI.rev hr13 (q := 6) rfl rfl)) 244 14 rfl rfl (withEv (x := .tmp 156) (ev_T hr13 12 0 rfl (by kernel_rfl) rfl) (fun h1 => by first | exact ld1 Try.r43 rfl h1 (by first | exact ctx_HE hr13.ok (by kernel_rfl) rfl) (by first | assumption | rfl) | exact lp1 Try.r43 rfl h1 (by first | assumption | rfl))) rfl (fun hr14 => ?_)
                  clear hr13
                  refine an_on hr14 rfl rfl (ctx_T 6 (by kernel_rfl) (RsI.rev hr14 (q := 7) rfl rfl)) 252 15 rfl rfl (withEv (x := .tmp 157) (ev_T hr14 13 0 rfl (by kernel_rfl) rfl) (fun h1 => by first | exact ok_len Try.sl43 rfl rfl (.t h1) | exact ok_len Try.sl43 rfl rfl (.own h1 (by first | exact ctx_HE hr14.ok (by kernel_rfl) rfl)) | exact ok_len Try.sl43 rfl rfl (.nil h1))) rfl (fun hr15 => ?_)
                  clear hr14
                  refine an_on hr15 rfl rfl (ctx_T 6 (by kernel_rfl) (RsI.rev hr15 (q := 8) rfl rfl)) 260 16 rfl rfl (okB (ok_geq rfl (ev_T hr15 11 3 rfl (by kernel_rfl) rfl) (ev_T hr15 14 0 rfl (by kernel_rfl) rfl)) (decide_eq_false (by omega))) rfl (fun hr16 => ?_)
                  clear hr15
                  refine an_op hr16 rfl 268 17 rfl rfl (by first | exact ok_pick_t rfl (ev_T hr16 6 9 rfl (by kernel_rfl) rfl) rfl | exact ok_pick_f rfl (ev_T hr16 6 9 rfl (by kernel_rfl) rfl) (ev_T hr16 15 0 rfl (by kernel_rfl) rfl)) rfl (fun hr17 => ?_)
                  clear hr16
                  refine an_op hr17 rfl 276 18 rfl rfl (ok_move rfl (ev_T hr17 16 0 rfl (by kernel_rfl) rfl)) rfl (fun hr18 => ?_)
                  clear hr17
                  refine an_on hr18 rfl rfl (ctx_T 17 (by kernel_rfl) (RsI.rev hr18 (q := 0) rfl rfl)) 284 19 rfl rfl (withEv (x := .tmp 12) (ev_E (by kernel_rfl) rfl) (fun h1 => by first | exact ok_fieldr rfl Try.o96_2 h1 | exact ok_fieldp rfl Try.o96_2 h1)) rfl (fun hr19 => ?_)
                  clear hr18
                  refine an_on hr19 rfl rfl (ctx_T 17 (by kernel_rfl) (RsI.rev hr19 (q := 1) rfl rfl)) 292 20 rfl rfl (withEv (x := .tmp 162) (ev_T hr19 18 0 rfl (by kernel_rfl) rfl) (fun h1 => by first | exact ld1 Try.r22 rfl h1 (by first | exact ctx_HE hr19.ok (by kernel_rfl) rfl | exact ev_H hr19 14 4 rfl (by kernel_rfl) rfl rfl) (by first | assumption | rfl) | exact lp1 Try.r22 rfl h1 (by first | assumption | rfl))) rfl (fun hr20 => ?_)
                  clear hr19
                  refine an_on hr20 rfl rfl (ctx_T 17 (by kernel_rfl) (RsI.rev hr20 (q := 2) rfl rfl)) 300 21 rfl rfl (ok_move rfl (ev_E (by kernel_rfl) rfl)) rfl (fun hr21 => ?_)
                  clear hr20
                  refine an_on hr21 rfl rfl (ctx_T 17 (by kernel_rfl) (RsI.rev hr21 (q := 3) rfl rfl)) 308 22 rfl rfl (withEv (x := .tmp 163) (ev_T hr21 19 1 rfl (by kernel_rfl) rfl) (fun h1 => withEv (x := .tmp 164) (ev_T hr21 20 0 rfl (by kernel_rfl) rfl) (fun h2 => by first | exact ix_p Try.e22 rfl h1 h2 (by omega) | exact ix_r Try.e22 rfl h1 (by first | exact ctx_HE hr21.ok (by kernel_rfl) rfl | exact ev_H hr21 14 6 rfl (by kernel_rfl) rfl rfl) h2 (by omega) | exact ok_indexp rfl Try.e22 h1 h2 (by omega) (by omega) | exact ok_indexr rfl Try.e22 h1 (by first | exact ctx_HE hr21.ok (by kernel_rfl) rfl | exact ev_H hr21 14 6 rfl (by kernel_rfl) rfl rfl) h2 (by omega) (by omega)))) rfl (fun hr22 => ?_)
                  clear hr21
                  refine an_on hr22 rfl rfl (ctx_T 17 (by kernel_rfl) (RsI.rev hr22 (q := 4) rfl rfl)) 316 23 rfl rfl (withEv (x := .tmp 165) (ev_T hr22 21 0 rfl (by kernel_rfl) rfl) (fun h1 => by first | exact ld1 Try.r3 rfl h1 (by first | exact ctx_HE hr22.ok (by kernel_rfl) rfl | exact ev_H hr22 14 7 rfl (by kernel_rfl) rfl rfl) (by first | assumption | rfl) | exact lp1 Try.r3 rfl h1 (by first | assumption | rfl))) rfl (fun hr23 => ?_)
                  clear hr22
                  refine an_on hr23 rfl rfl (ctx_T 17 (by kernel_rfl) (RsI.rev hr23 (q := 5) rfl rfl)) 324 24 rfl rfl (okB (ok_lss rfl (ev_T hr23 22 0 rfl (by kernel_rfl) rfl) rfl) (decide_eq_false (by omega))) rfl (fun hr24 => ?_)
                  clear hr23
                  refine an_op hr24 rfl 332 25 rfl rfl (by first | exact ok_pick_t rfl (ev_T hr24 17 6 rfl (by kernel_rfl) rfl) rfl | exact ok_pick_f rfl (ev_T hr24 17 6 rfl (by kernel_rfl) rfl) (ev_T hr24 23 0 rfl (by kernel_rfl) rfl)) rfl (fun hr25 => ?_)
                  clear hr24
                  refine an_op hr25 rfl 340 26 rfl rfl (ok_move rfl (ev_T hr25 24 0 rfl (by kernel_rfl) rfl)) rfl (fun hr26 => ?_)
                  clear hr25
                  refine an_on hr26 rfl rfl (ctx_T 25 (by kernel_rfl) (RsI.rev hr26 (q := 0) rfl rfl)) 348 27 rfl rfl (withEv (x := .tmp 12) (ev_E (by kernel_rfl) rfl) (fun h1 => by first | exact ok_fieldr rfl Try.o96_2 h1 | exact ok_fieldp rfl Try.o96_2 h1)) rfl (fun hr27 => ?_)
                  clear hr26
                  refine an_on hr27 rfl rfl (ctx_T 25 (by kernel_rfl) (RsI.rev hr27 (q := 1) rfl rfl)) 356 28 rfl rfl (withEv (x := .tmp 170) (ev_T hr27 26 0 rfl (by kernel_rfl) rfl) (fun h1 => by first | exact ld1 Try.r22 rfl h1 (by first | exact ctx_HE hr27.ok (by kernel_rfl) rfl | exact ev_H hr27 14 12 rfl (by kernel_rfl) rfl rfl) (by first | assumption | rfl) | exact lp1 Try.r22 rfl h1 (by first | assumption | rfl))) rfl (fun hr28 => ?_)
                  clear hr27
                  refine an_on hr28 rfl rfl (ctx_T 25 (by kernel_rfl) (RsI.rev hr28 (q := 2) rfl rfl)) 364 29 rfl rfl (ok_move rfl (ev_E (by kernel_rfl) rfl)) rfl (fun hr29 => ?_)
                  clear hr28
                  refine an_on hr29 rfl rfl (ctx_T 25 (by kernel_rfl) (RsI.rev hr29 (q := 3) rfl rfl)) 372 30 rfl rfl (withEv (x := .tmp 171) (ev_T hr29 27 1 rfl (by kernel_rfl) rfl) (fun h1 => withEv (x := .tmp 172) (ev_T hr29 28 0 rfl (by kernel_rfl) rfl) (fun h2 => by first | exact ix_p Try.e22 rfl h1 h2 (by omega) | exact ix_r Try.e22 rfl h1 (by first | exact ctx_HE hr29.ok (by kernel_rfl) rfl | exact ev_H hr29 14 14 rfl (by kernel_rfl) rfl rfl) h2 (by omega) | exact ok_indexp rfl Try.e22 h1 h2 (by omega) (by omega) | exact ok_indexr rfl Try.e22 h1 (by first | exact ctx_HE hr29.ok (by kernel_rfl) rfl | exact ev_H hr29 14 14 rfl (by kernel_rfl) rfl rfl) h2 (by omega) (by omega)))) rfl (fun hr30 => ?_)
                  clear hr29
                  refine an_on hr30 rfl rfl (ctx_T 25 (by kernel_rfl) (RsI.rev hr30 (q := 4) rfl rfl)) 380 31 rfl rfl (withEv (x := .tmp 173) (ev_T hr30 29 0 rfl (by kernel_rfl) rfl) (fun h1 => by first | exact ld1 Try.r3 rfl h1 (by first | exact ctx_HE hr30.ok (by kernel_rfl) rfl | exact ev_H hr30 14 15 rfl (by kernel_rfl) rfl rfl) (by first | assumption | rfl) | exact lp1 Try.r3 rfl h1 (by first | assumption | rfl))) rfl (fun hr31 => ?_)
                  clear hr30
                  refine an_on hr31 rfl rfl (ctx_T 25 (by kernel_rfl) (RsI.rev hr31 (q := 5) rfl rfl)) 388 32 rfl rfl (withEv (x := .tmp 5) (ev_E (by kernel_rfl) rfl) (fun h1 => by first | exact ok_fieldr rfl Try.o45_2 h1 | exact ok_fieldp rfl Try.o45_2 h1)) rfl (fun hr32 => ?_)
                  clear hr31
                  refine an_on hr32 rfl rfl (ctx_T 25 (by kernel_rfl) (RsI.rev hr32 (q := 6) rfl rfl)) 396 33 rfl rfl (withEv (x := .tmp 175) (ev_T hr32 31 0 rfl (by kernel_rfl) rfl) (fun h1 => by first | exact ld1 Try.r43 rfl h1 (by first | exact ctx_HE hr32.ok (by kernel_rfl) rfl | exact ev_H hr32 14 17 rfl (by kernel_rfl) rfl rfl) (by first | assumption | rfl) | exact lp1 Try.r43 rfl h1 (by first | assumption | rfl))) rfl (fun hr33 => ?_)
                  clear hr32
                  refine an_on hr33 rfl rfl (ctx_T 25 (by kernel_rfl) (RsI.rev hr33 (q := 7) rfl rfl)) 404 34 rfl rfl (withEv (x := .tmp 176) (ev_T hr33 32 0 rfl (by kernel_rfl) rfl) (fun h1 => by first | exact ok_len Try.sl43 rfl rfl (.t h1) | exact ok_len Try.sl43 rfl rfl (.own h1 (by first | exact ctx_HE hr33.ok (by kernel_rfl) rfl | exact ev_H hr33 14 18 rfl (by kernel_rfl) rfl rfl)) | exact ok_len Try.sl43 rfl rfl (.nil h1))) rfl (fun hr34 => ?_)
                  clear hr33
                  refine an_on hr34 rfl rfl (ctx_T 25 (by kernel_rfl) (RsI.rev hr34 (q := 8) rfl rfl)) 412 35 rfl rfl (okB (ok_geq rfl (ev_T hr34 30 3 rfl (by kernel_rfl) rfl) (ev_T hr34 33 0 rfl (by kernel_rfl) rfl)) (decide_eq_false (by omega))) rfl (fun hr35 => ?_)
                  clear hr34
                  refine an_op hr35 rfl 420 36 rfl rfl (by first | exact ok_pick_t rfl (ev_T hr35 25 9 rfl (by kernel_rfl) rfl) rfl | exact ok_pick_f rfl (ev_T hr35 25 9 rfl (by kernel_rfl) rfl) (ev_T hr35 34 0 rfl (by kernel_rfl) rfl)) rfl (fun hr36 => ?_)
                  clear hr35
                  refine an_op hr36 rfl 428 37 rfl rfl (ok_move rfl (ev_T hr36 35 0 rfl (by kernel_rfl) rfl)) rfl (fun hr37 => ?_)
                  clear hr36
                  refine an_on hr37 rfl rfl (ctx_T 36 (by kernel_rfl) (RsI.rev hr37 (q := 0) rfl rfl)) 436 38 rfl rfl (withEv (x := .tmp 12) (ev_E (by kernel_rfl) rfl) (fun h1 => by first | exact ok_fieldr rfl Try.o96_1 h1 | exact ok_fieldp rfl Try.o96_1 h1)) rfl (fun hr38 => ?_)
                  clear hr37
                  refine an_on hr38 rfl rfl (ctx_T 36 (by kernel_rfl) (RsI.rev hr38 (q := 1) rfl rfl)) 444 39 rfl rfl (withEv (x := .tmp 181) (ev_T hr38 37 0 rfl (by kernel_rfl) rfl) (fun h1 => by first | exact ok_fieldr rfl Try.o45_2 h1 | exact ok_fieldp rfl Try.o45_2 h1)) rfl (fun hr39 => ?_)
                  clear hr38
                  refine an_on hr39 rfl rfl (ctx_T 36 (by kernel_rfl) (RsI.rev hr39 (q := 2) rfl rfl)) 452 40 rfl rfl (withEv (x := .tmp 182) (ev_T hr39 38 0 rfl (by kernel_rfl) rfl) (fun h1 => by first | exact ld1 Try.r43 rfl h1 (by first | exact ctx_HE hr39.ok (by kernel_rfl) rfl | exact ev_H hr39 33 5 rfl (by kernel_rfl) rfl rfl | exact ev_H hr39 14 24 rfl (by kernel_rfl) rfl rfl) (by first | assumption | rfl) | exact lp1 Try.r43 rfl h1 (by first | assumption | rfl))) rfl (fun hr40 => ?_)
                  clear hr39
                  refine an_on hr40 rfl rfl (ctx_T 36 (by kernel_rfl) (RsI.rev hr40 (q := 3) rfl rfl)) 460 41 rfl rfl (ok_move rfl (ev_E (by kernel_rfl) rfl)) rfl (fun hr41 => ?_)
                  clear hr40
                  refine an_on hr41 rfl rfl (ctx_T 36 (by kernel_rfl) (RsI.rev hr41 (q := 4) rfl rfl)) 468 42 rfl rfl (withEv (x := .tmp 183) (ev_T hr41 39 1 rfl (by kernel_rfl) rfl) (fun h1 => withEv (x := .tmp 184) (ev_T hr41 40 0 rfl (by kernel_rfl) rfl) (fun h2 => by first | exact ix_p Try.e43 rfl h1 h2 (by omega) | exact ix_r Try.e43 rfl h1 (by first | exact ctx_HE hr41.ok (by kernel_rfl) rfl | exact ev_H hr41 33 7 rfl (by kernel_rfl) rfl rfl | exact ev_H hr41 14 26 rfl (by kernel_rfl) rfl rfl) h2 (by omega) | exact ok_indexp rfl Try.e43 h1 h2 (by omega) (by omega) | exact ok_indexr rfl Try.e43 h1 (by first | exact ctx_HE hr41.ok (by kernel_rfl) rfl | exact ev_H hr41 33 7 rfl (by kernel_rfl) rfl rfl | exact ev_H hr41 14 26 rfl (by kernel_rfl) rfl rfl) h2 (by omega) (by omega)))) rfl (fun hr42 => ?_)
                  clear hr41
                  refine an_on hr42 rfl rfl (ctx_T 36 (by kernel_rfl) (RsI.rev hr42 (q := 5) rfl rfl)) 476 43 rfl rfl (withEv (x := .tmp 185) (ev_T hr42 41 0 rfl (by kernel_rfl) rfl) (fun h1 => by first | exact ok_fieldr rfl Try.o51_1 h1 | exact ok_fieldp rfl Try.o51_1 h1)) rfl (fun hr43 => ?_)
                  clear hr42
                  refine an_on hr43 rfl rfl (ctx_T 36 (by kernel_rfl) (RsI.rev hr43 (q := 6) rfl rfl)) 484 44 rfl rfl (withEv (x := .tmp 186) (ev_T hr43 42 0 rfl (by kernel_rfl) rfl) (fun h1 => by first | exact ld1 Try.r49 rfl h1 (by first | exact ctx_HE hr43.ok (by kernel_rfl) rfl | exact ev_H hr43 33 9 rfl (by kernel_rfl) rfl rfl | exact ev_H hr43 14 28 rfl (by kernel_rfl) rfl rfl) (by first | assumption | rfl) | exact lp1 Try.r49 rfl h1 (by first | assumption | rfl))) rfl (fun hr44 => ?_)
                  clear hr43
                  refine an_on hr44 rfl rfl (ctx_T 36 (by kernel_rfl) (RsI.rev hr44 (q := 7) rfl rfl)) 492 45 rfl rfl (withEv (x := .tmp 187) (ev_T hr44 43 0 rfl (by kernel_rfl) rfl) (fun h1 => by first | exact ok_len Try.sl49 rfl rfl (.t h1) | exact ok_len Try.sl49 rfl rfl (.own h1 (by first | exact ctx_HE hr44.ok (by kernel_rfl) rfl | exact ev_H hr44 33 10 rfl (by kernel_rfl) rfl rfl | exact ev_H hr44 14 29 rfl (by kernel_rfl) rfl rfl)) | exact ok_len Try.sl49 rfl rfl (.nil h1))) rfl (fun hr45 => ?_)
                  clear hr44
                  refine an_on hr45 rfl rfl (ctx_T 36 (by kernel_rfl) (RsI.rev hr45 (q := 8) rfl rfl)) 500 46 rfl rfl (okB (ok_eql rfl (ev_T hr45 44 0 rfl (by kernel_rfl) rfl) rfl) (decide_eq_false (by omega))) rfl (fun hr46 => ?_)
                  clear hr45
                  refine an_op hr46 rfl 508 47 rfl rfl (by first | exact ok_pick_t rfl (ev_T hr46 36 9 rfl (by kernel_rfl) rfl) rfl | exact ok_pick_f rfl (ev_T hr46 36 9 rfl (by kernel_rfl) rfl) (ev_T hr46 45 0 rfl (by kernel_rfl) rfl)) rfl (fun hr47 => ?_)
                  clear hr46
                  refine an_op hr47 rfl 516 48 rfl rfl (ok_move rfl (ev_T hr47 46 0 rfl (by kernel_rfl) rfl)) rfl (fun hr48 => ?_)
                  clear hr47
                  refine an_on hr48 rfl rfl (ctx_T 47 (by kernel_rfl) (RsI.rev hr48 (q := 0) rfl rfl)) 524 49 rfl rfl (withEv (x := .tmp 12) (ev_E (by kernel_rfl) rfl) (fun h1 => by first | exact ok_fieldr rfl Try.o96_1 h1 | exact ok_fieldp rfl Try.o96_1 h1)) rfl (fun hr49 => ?_)
                  clear hr48
                  refine an_on hr49 rfl rfl (ctx_T 47 (by kernel_rfl) (RsI.rev hr49 (q := 1) rfl rfl)) 532 50 rfl rfl (withEv (x := .tmp 192) (ev_T hr49 48 0 rfl (by kernel_rfl) rfl) (fun h1 => by first | exact ok_fieldr rfl Try.o45_2 h1 | exact ok_fieldp rfl Try.o45_2 h1)) rfl (fun hr50 => ?_)
                  clear hr49
                  refine an_on hr50 rfl rfl (ctx_T 47 (by kernel_rfl) (RsI.rev hr50 (q := 2) rfl rfl)) 540 51 rfl rfl (withEv (x := .tmp 193) (ev_T hr50 49 0 rfl (by kernel_rfl) rfl) (fun h1 => by first | exact ld1 Try.r43 rfl h1 (by first | exact ctx_HE hr50.ok (by kernel_rfl) rfl | exact ev_H hr50 44 5 rfl (by kernel_rfl) rfl rfl | exact ev_H hr50 33 16 rfl (by kernel_rfl) rfl rfl | exact ev_H hr50 14 35 rfl (by kernel_rfl) rfl rfl) (by first | assumption | rfl) | exact lp1 Try.r43 rfl h1 (by first | assumption | rfl))) rfl (fun hr51 => ?_)
                  clear hr50
                  refine an_on hr51 rfl rfl (ctx_T 47 (by kernel_rfl) (RsI.rev hr51 (q := 3) rfl rfl)) 548 52 rfl rfl (ok_move rfl (ev_E (by kernel_rfl) rfl)) rfl (fun hr52 => ?_)
                  clear hr51
                  refine an_on hr52 rfl rfl (ctx_T 47 (by kernel_rfl) (RsI.rev hr52 (q := 4) rfl rfl)) 556 53 rfl rfl (withEv (x := .tmp 194) (ev_T hr52 50 1 rfl (by kernel_rfl) rfl) (fun h1 => withEv (x := .tmp 195) (ev_T hr52 51 0 rfl (by kernel_rfl) rfl) (fun h2 => by first | exact ix_p Try.e43 rfl h1 h2 (by omega) | exact ix_r Try.e43 rfl h1 (by first | exact ctx_HE hr52.ok (by kernel_rfl) rfl | exact ev_H hr52 44 7 rfl (by kernel_rfl) rfl rfl | exact ev_H hr52 33 18 rfl (by kernel_rfl) rfl rfl | exact ev_H hr52 14 37 rfl (by kernel_rfl) rfl rfl) h2 (by omega) | exact ok_indexp rfl Try.e43 h1 h2 (by omega) (by omega) | exact ok_indexr rfl Try.e43 h1 (by first | exact ctx_HE hr52.ok (by kernel_rfl) rfl | exact ev_H hr52 44 7 rfl (by kernel_rfl) rfl rfl | exact ev_H hr52 33 18 rfl (by kernel_rfl) rfl rfl | exact ev_H hr52 14 37 rfl (by kernel_rfl) rfl rfl) h2 (by omega) (by omega)))) rfl (fun hr53 => ?_)
                  clear hr52
                  refine an_on hr53 rfl rfl (ctx_T 47 (by kernel_rfl) (RsI.rev hr53 (q := 5) rfl rfl)) 564 54 rfl rfl (withEv (x := .tmp 196) (ev_T hr53 52 0 rfl (by kernel_rfl) rfl) (fun h1 => by first | exact ok_fieldr rfl Try.o51_1 h1 | exact ok_fieldp rfl Try.o51_1 h1)) rfl (fun hr54 => ?_)
                  clear hr53
                  refine an_on hr54 rfl rfl (ctx_T 47 (by kernel_rfl) (RsI.rev hr54 (q := 6) rfl rfl)) 572 55 rfl rfl (withEv (x := .tmp 197) (ev_T hr54 53 0 rfl (by kernel_rfl) rfl) (fun h1 => by first | exact ld1 Try.r49 rfl h1 (by first | exact ctx_HE hr54.ok (by kernel_rfl) rfl | exact ev_H hr54 44 9 rfl (by kernel_rfl) rfl rfl | exact ev_H hr54 33 20 rfl (by kernel_rfl) rfl rfl | exact ev_H hr54 14 39 rfl (by kernel_rfl) rfl rfl) (by first | assumption | rfl) | exact lp1 Try.r49 rfl h1 (by first | assumption | rfl))) rfl (fun hr55 => ?_)
                  clear hr54
                  refine an_on hr55 rfl rfl (ctx_T 47 (by kernel_rfl) (RsI.rev hr55 (q := 7) rfl rfl)) 580 56 rfl rfl (withEv (x := .tmp 198) (ev_T hr55 54 0 rfl (by kernel_rfl) rfl) (fun h1 => by first | exact ok_len Try.sl49 rfl rfl (.t h1) | exact ok_len Try.sl49 rfl rfl (.own h1 (by first | exact ctx_HE hr55.ok (by kernel_rfl) rfl | exact ev_H hr55 44 10 rfl (by kernel_rfl) rfl rfl | exact ev_H hr55 33 21 rfl (by kernel_rfl) rfl rfl | exact ev_H hr55 14 40 rfl (by kernel_rfl) rfl rfl)) | exact ok_len Try.sl49 rfl rfl (.nil h1))) rfl (fun hr56 => ?_)
                  clear hr55
                  refine an_on hr56 rfl rfl (ctx_T 47 (by kernel_rfl) (RsI.rev hr56 (q := 8) rfl rfl)) 588 57 rfl rfl (okB (ok_eql rfl (ev_T hr56 55 0 rfl (by kernel_rfl) rfl) rfl) (decide_eq_false (by omega))) rfl (fun hr57 => ?_)
                  clear hr56
                  refine an_op hr57 rfl 596 58 rfl rfl (by first | exact ok_pick_t rfl (ev_T hr57 47 9 rfl (by kernel_rfl) rfl) rfl | exact ok_pick_f rfl (ev_T hr57 47 9 rfl (by kernel_rfl) rfl) (ev_T hr57 56 0 rfl (by kernel_rfl) rfl)) rfl (fun hr58 => ?_)
                  clear hr57
                  refine an_nil [some 144, some 145, some 146, some 147, some 148, some 149, some 150, some 151, some 152, some 153, some 154, some 155, some 156, some 157, some 158, some 159, some 160, some 161, some 162, some 163, some 164, some 165, some 166, some 167, some 168, some 169, some 170, some 171, some 172, some 173, some 174, some 175, some 176, some 177, some 178, some 179, some 180, some 181, some 182, some 183, some 184, some 185, some 186, some 187, some 188, some 189, some 190, some 191, some 192, some 193, some 194, some 195, some 196, some 197, some 198, some 199, some 200, some 201] hr58 rfl (by kernel_rfl) ?_
                  clear hr58
                  refine aw_cond rfl (fun hb9 => ?_) (fun hb9 => ?_)
                  · exact absurd hb9 (by decide)
                  · skip
                    refine aw_skip ?_
                    refine aw_seq ?_
                    refine aw_region 668 hE (by decide) rfl rfl ?_
                    refine sq_op (some 202) 612 rfl rfl rfl (withEv (x := .tmp 12) rfl (fun h1 => by first | exact ok_fieldr rfl Try.o96_1 h1 | exact ok_fieldp rfl Try.o96_1 h1)) ?_
                    refine sq_op (some 203) 620 rfl rfl rfl (withEv (x := .tmp 202) rfl (fun h1 => by first | exact ok_fieldr rfl Try.o45_2 h1 | exact ok_fieldp rfl Try.o45_2 h1)) ?_
                    refine sq_op (some 204) 628 rfl rfl rfl (withEv (x := .tmp 203) rfl (fun h1 => by first | exact ld1 Try.r43 rfl h1 rfl (by first | assumption | rfl) | exact lp1 Try.r43 rfl h1 (by first | assumption | rfl))) ?_
                    refine sq_op (some 205) 636 rfl rfl rfl (ok_move rfl rfl) ?_
                    refine sq_op (some 206) 644 rfl rfl rfl (withEv (x := .tmp 204) rfl (fun h1 => withEv (x := .tmp 205) rfl (fun h2 => by first | exact ix_p Try.e43 rfl h1 h2 (by omega) | exact ix_r Try.e43 rfl h1 rfl h2 (by omega) | exact ok_indexp rfl Try.e43 h1 h2 (by omega) (by omega) | exact ok_indexr rfl Try.e43 h1 rfl h2 (by omega) (by omega)))) ?_
                    refine sq_op (some 207) 652 rfl rfl rfl (withEv (x := .tmp 206) rfl (fun h1 => by first | exact ldc Try.r51 Try.s51 rfl h1 rfl (by first | exact (.take (.take .done)) | exact (.skip (.take (.take .done))) | exact (.skip (.skip (.take (.take .done)))) | exact (.skip (.skip (.skip (.take (.take .done))))) | exact (.skip (.skip (.skip (.skip (.take (.take .done)))))) | exact (.skip (.skip (.skip (.skip (.skip (.take (.take .done))))))) | exact (.skip (.skip (.skip (.skip (.skip (.skip (.take (.take .done)))))))) | exact (.skip (.skip (.skip (.skip (.skip (.skip (.skip (.take (.take .done))))))))) | exact (.skip (.skip (.skip (.skip (.skip (.skip (.skip (.skip (.take (.take .done))))))))))) | exact lpn Try.r51 Try.s51 rfl h1 (by first | assumption | rfl) rfl)) ?_
                    refine sq_op (some 15) 660 rfl rfl rfl (ok_alloc rfl Try.z51 rfl) ?_
                    refine sq_op none 668 rfl rfl rfl (withEv (x := .tmp 207) rfl (fun h1 => by first | exact stb (.ev h1) rfl Try.s51 rfl rfl rfl (by first | exact (.put (.put .done)) | exact (.skip (.put (.put .done))) | exact (.skip (.skip (.put (.put .done)))) | exact (.skip (.skip (.skip (.put (.put .done))))) | exact (.skip (.skip (.skip (.skip (.put (.put .done)))))) | exact (.skip (.skip (.skip (.skip (.skip (.put (.put .done))))))) | exact (.skip (.skip (.skip (.skip (.skip (.skip (.put (.put .done)))))))) | exact (.skip (.skip (.skip (.skip (.skip (.skip (.skip (.put (.put .done))))))))) | exact (.skip (.skip (.skip (.skip (.skip (.skip (.skip (.skip (.put (.put .done))))))))))) (Nat.succ_pos _) | exact str (.ev h1) rfl Try.s51 rfl rfl rfl (by assumption) rfl (Nat.succ_pos _) | exact stb (.own h1 rfl) rfl Try.s51 rfl rfl rfl (by first | exact (.put (.put .done)) | exact (.skip (.put (.put .done))) | exact (.skip (.skip (.put (.put .done)))) | exact (.skip (.skip (.skip (.put (.put .done))))) | exact (.skip (.skip (.skip (.skip (.put (.put .done)))))) | exact (.skip (.skip (.skip (.skip (.skip (.put (.put .done))))))) | exact (.skip (.skip (.skip (.skip (.skip (.skip (.put (.put .done)))))))) | exact (.skip (.skip (.skip (.skip (.skip (.skip (.skip (.put (.put .done))))))))) | exact (.skip (.skip (.skip (.skip (.skip (.skip (.skip (.skip (.put (.put .done))))))))))) (Nat.succ_pos _) | exact str (.own h1 rfl) rfl Try.s51 rfl rfl rfl (by assumption) rfl (Nat.succ_pos _))) ?_
                    refine sq_nil ?_
                    refine aw_seq ?_
                    refine aw_region 732 hE (by decide) rfl rfl ?_
                    refine sq_op (some 208) 676 rfl rfl rfl (withEv (x := .tmp 12) rfl (fun h1 => by first | exact ok_fieldr rfl Try.o96_1 h1 | exact ok_fieldp rfl Try.o96_1 h1)) ?_
                    refine sq_op (some 209) 684 rfl rfl rfl (withEv (x := .tmp 208) rfl (fun h1 => by first | exact ok_fieldr rfl Try.o45_2 h1 | exact ok_fieldp rfl Try.o45_2 h1)) ?_
                    refine sq_op (some 210) 692 rfl rfl rfl (withEv (x := .tmp 209) rfl (fun h1 => by first | exact ld1 Try.r43 rfl h1 rfl (by first | assumption | rfl) | exact lp1 Try.r43 rfl h1 (by first | assumption | rfl))) ?_
                    refine sq_op (some 211) 700 rfl rfl rfl (ok_move rfl rfl) ?_
                    refine sq_op (some 212) 708 rfl rfl rfl (withEv (x := .tmp 210) rfl (fun h1 => withEv (x := .tmp 211) rfl (fun h2 => by first | exact ix_p Try.e43 rfl h1 h2 (by omega) | exact ix_r Try.e43 rfl h1 rfl h2 (by omega) | exact ok_indexp rfl Try.e43 h1 h2 (by omega) (by omega) | exact ok_indexr rfl Try.e43 h1 rfl h2 (by omega) (by omega)))) ?_
                    refine sq_op (some 213) 716 rfl rfl rfl (withEv (x := .tmp 212) rfl (fun h1 => by first | exact ldc Try.r51 Try.s51 rfl h1 rfl (by first | exact (.take (.take .done)) | exact (.skip (.take (.take .done))) | exact (.skip (.skip (.take (.take .done)))) | exact (.skip (.skip (.skip (.take (.take .done))))) | exact (.skip (.skip (.skip (.skip (.take (.take .done)))))) | exact (.skip (.skip (.skip (.skip (.skip (.take (.take .done))))))) | exact (.skip (.skip (.skip (.skip (.skip (.skip (.take (.take .done)))))))) | exact (.skip (.skip (.skip (.skip (.skip (.skip (.skip (.take (.take .done))))))))) | exact (.skip (.skip (.skip (.skip (.skip (.skip (.skip (.skip (.take (.take .done))))))))))) | exact lpn Try.r51 Try.s51 rfl h1 (by first | assumption | rfl) rfl)) ?_
                    refine sq_op (some 16) 724 rfl rfl rfl (ok_alloc rfl Try.z51 rfl) ?_
                    refine sq_op none 732 rfl rfl rfl (withEv (x := .tmp 213) rfl (fun h1 => by first | exact stb (.ev h1) rfl Try.s51 rfl rfl rfl (by first | exact (.put (.put .done)) | exact (.skip (.put (.put .done))) | exact (.skip (.skip (.put (.put .done)))) | exact (.skip (.skip (.skip (.put (.put .done))))) | exact (.skip (.skip (.skip (.skip (.put (.put .done)))))) | exact (.skip (.skip (.skip (.skip (.skip (.put (.put .done))))))) | exact (.skip (.skip (.skip (.skip (.skip (.skip (.put (.put .done)))))))) | exact (.skip (.skip (.skip (.skip (.skip (.skip (.skip (.put (.put .done))))))))) | exact (.skip (.skip (.skip (.skip (.skip (.skip (.skip (.skip (.put (.put .done))))))))))) (Nat.succ_pos _) | exact str (.ev h1) rfl Try.s51 rfl rfl rfl (by assumption) rfl (Nat.succ_pos _) | exact stb (.own h1 rfl) rfl Try.s51 rfl rfl rfl (by first | exact (.put (.put .done)) | exact (.skip (.put (.put .done))) | exact (.skip (.skip (.put (.put .done)))) | exact (.skip (.skip (.skip (.put (.put .done))))) | exact (.skip (.skip (.skip (.skip (.put (.put .done)))))) | exact (.skip (.skip (.skip (.skip (.skip (.put (.put .done))))))) | exact (.skip (.skip (.skip (.skip (.skip (.skip (.put (.put .done)))))))) | exact (.skip (.skip (.skip (.skip (.skip (.skip (.skip (.put (.put .done))))))))) | exact (.skip (.skip (.skip (.skip (.skip (.skip (.skip (.skip (.put (.put .done))))))))))) (Nat.succ_pos _) | exact str (.own h1 rfl) rfl Try.s51 rfl rfl rfl (by assumption) rfl (Nat.succ_pos _))) ?_
                    refine sq_nil ?_
                    refine aw_seq ?_
                    refine aw_any [[], [0], [], [2], [], [2, 3, 4], [2, 3, 4, 5], [0, 1, 2, 3, 4, 5, 6], [0, 1, 2, 3, 4, 5, 6, 7], [], [0, 1, 2, 3, 4, 5, 6, 7, 8, 9]] [[], [], [], [], [], [], [], [], [], [], [804]] Try.mix hE (by decide) (by kernel_rfl) 820 rfl (fun hr0 => ?_)
                    refine an_op hr0 rfl 732 1 rfl rfl (withEv (x := .tmp 5) (ev_E (by kernel_rfl) rfl) (fun h1 => by first | exact ok_fieldr rfl Try.o45_2 h1 | exact ok_fieldp rfl Try.o45_2 h1)) rfl (fun hr1 => ?_)
                    clear hr0
                    refine an_op hr1 rfl 740 2 rfl rfl (withEv (x := .tmp 214) (ev_T hr1 0 0 rfl (by kernel_rfl) rfl) (fun h1 => by first | exact ld1 Try.r43 rfl h1 (by first | exact ctx_HE hr1.ok (by kernel_rfl) rfl) (by first | assumption | rfl) | exact lp1 Try.r43 rfl h1 (by first | assumption | rfl))) rfl (fun hr2 => ?_)
                    clear hr1
                    refine an_op hr2 rfl 748 3 rfl rfl (withEv (x := .tmp 12) (ev_E (by kernel_rfl) rfl) (fun h1 => by first | exact ok_fieldr rfl Try.o96_2 h1 | exact ok_fieldp rfl Try.o96_2 h1)) rfl (fun hr3 => ?_)
                    clear hr2
                    refine an_op hr3 rfl 756 4 rfl rfl (withEv (x := .tmp 216) (ev_T hr3 2 0 rfl (by kernel_rfl) rfl) (fun h1 => by first | exact ld1 Try.r22 rfl h1 (by first | exact ctx_HE hr3.ok (by kernel_rfl) rfl) (by first | assumption | rfl) | exact lp1 Try.r22 rfl h1 (by first | assumption | rfl))) rfl (fun hr4 => ?_)
                    clear hr3
                    refine an_op hr4 rfl 764 5 rfl rfl (ok_move rfl (ev_E (by kernel_rfl) rfl)) rfl (fun hr5 => ?_)
                    clear hr4
                    refine an_op hr5 rfl 772 6 rfl rfl (withEv (x := .tmp 217) (ev_T hr5 3 1 rfl (by kernel_rfl) rfl) (fun h1 => withEv (x := .tmp 218) (ev_T hr5 4 0 rfl (by kernel_rfl) rfl) (fun h2 => by first | exact ix_p Try.e22 rfl h1 h2 (by omega) | exact ix_r Try.e22 rfl h1 (by first | exact ctx_HE hr5.ok (by kernel_rfl) rfl) h2 (by omega) | exact ok_indexp rfl Try.e22 h1 h2 (by omega) (by omega) | exact ok_indexr rfl Try.e22 h1 (by first | exact ctx_HE hr5.ok (by kernel_rfl) rfl) h2 (by omega) (by omega)))) rfl (fun hr6 => ?_)
                    clear hr5
                    refine an_op hr6 rfl 780 7 rfl rfl (withEv (x := .tmp 219) (ev_T hr6 5 0 rfl (by kernel_rfl) rfl) (fun h1 => by first | exact ld1 Try.r3 rfl h1 (by first | exact ctx_HE hr6.ok (by kernel_rfl) rfl) (by first | assumption | rfl) | exact lp1 Try.r3 rfl h1 (by first | assumption | rfl))) rfl (fun hr7 => ?_)
                    clear hr6
                    refine an_op hr7 rfl 788 8 rfl rfl (withEv (x := .tmp 215) (ev_T hr7 1 5 rfl (by kernel_rfl) rfl) (fun h1 => withEv (x := .tmp 220) (ev_T hr7 6 0 rfl (by kernel_rfl) rfl) (fun h2 => by first | exact ix_p Try.e43 rfl h1 h2 (by omega) | exact ix_r Try.e43 rfl h1 (by first | exact ctx_HE hr7.ok (by kernel_rfl) rfl) h2 (by omega) | exact ok_indexp rfl Try.e43 h1 h2 (by omega) (by omega) | exact ok_indexr rfl Try.e43 h1 (by first | exact ctx_HE hr7.ok (by kernel_rfl) rfl) h2 (by omega) (by omega)))) rfl (fun hr8 => ?_)
                    clear hr7
                    refine an_op hr8 rfl 796 9 rfl rfl (withEv (x := .tmp 221) (ev_T hr8 7 0 rfl (by kernel_rfl) rfl) (fun h1 => by first | exact ldc Try.r51 Try.s51 rfl h1 (by first | exact ctx_HE hr8.ok (by kernel_rfl) rfl) (by first | exact (.take (.take .done)) | exact (.skip (.take (.take .done))) | exact (.skip (.skip (.take (.take .done)))) | exact (.skip (.skip (.skip (.take (.take .done))))) | exact (.skip (.skip (.skip (.skip (.take (.take .done)))))) | exact (.skip (.skip (.skip (.skip (.skip (.take (.take .done))))))) | exact (.skip (.skip (.skip (.skip (.skip (.skip (.take (.take .done)))))))) | exact (.skip (.skip (.skip (.skip (.skip (.skip (.skip (.take (.take .done))))))))) | exact (.skip (.skip (.skip (.skip (.skip (.skip (.skip (.skip (.take (.take .done))))))))))) | exact lpn Try.r51 Try.s51 rfl h1 (by first | assumption | rfl) rfl)) rfl (fun hr9 => ?_)
                    clear hr8
                    refine an_op hr9 rfl 804 10 rfl rfl (ok_alloc rfl Try.z51 rfl) rfl (fun hr10 => ?_)
                    clear hr9
                    refine an_op hr10 rfl 812 11 rfl rfl (withEv (x := .tmp 222) (ev_T hr10 8 1 rfl (by kernel_rfl) rfl) (fun h1 => by first | exact stb (.ev h1) rfl Try.s51 (ev_T hr10 9 0 rfl (by kernel_rfl) rfl) rfl (by first | exact ctx_HE hr10.ok (by kernel_rfl) rfl | exact ev_H hr10 9 0 rfl (by kernel_rfl) rfl rfl) (by first | exact (.put (.put .done)) | exact (.skip (.put (.put .done))) | exact (.skip (.skip (.put (.put .done)))) | exact (.skip (.skip (.skip (.put (.put .done))))) | exact (.skip (.skip (.skip (.skip (.put (.put .done)))))) | exact (.skip (.skip (.skip (.skip (.skip (.put (.put .done))))))) | exact (.skip (.skip (.skip (.skip (.skip (.skip (.put (.put .done)))))))) | exact (.skip (.skip (.skip (.skip (.skip (.skip (.skip (.put (.put .done))))))))) | exact (.skip (.skip (.skip (.skip (.skip (.skip (.skip (.skip (.put (.put .done))))))))))) (Nat.succ_pos _) | exact str (.ev h1) rfl Try.s51 (ev_T hr10 9 0 rfl (by kernel_rfl) rfl) rfl (by first | exact ctx_HE hr10.ok (by kernel_rfl) rfl | exact ev_H hr10 9 0 rfl (by kernel_rfl) rfl rfl) (by assumption) rfl (Nat.succ_pos _) | exact stb (.own h1 (by first | exact ctx_HE hr10.ok (by kernel_rfl) rfl | exact ev_H hr10 9 0 rfl (by kernel_rfl) rfl rfl)) rfl Try.s51 (ev_T hr10 9 0 rfl (by kernel_rfl) rfl) rfl (by first | exact ctx_HE hr10.ok (by kernel_rfl) rfl | exact ev_H hr10 9 0 rfl (by kernel_rfl) rfl rfl) (by first | exact (.put (.put .done)) | exact (.skip (.put (.put .done))) | exact (.skip (.skip (.put (.put .done)))) | exact (.skip (.skip (.skip (.put (.put .done))))) | exact (.skip (.skip (.skip (.skip (.put (.put .done)))))) | exact (.skip (.skip (.skip (.skip (.skip (.put (.put .done))))))) | exact (.skip (.skip (.skip (.skip (.skip (.skip (.put (.put .done)))))))) | exact (.skip (.skip (.skip (.skip (.skip (.skip (.skip (.put (.put .done))))))))) | exact (.skip (.skip (.skip (.skip (.skip (.skip (.skip (.skip (.put (.put .done))))))))))) (Nat.succ_pos _) | exact str (.own h1 (by first | exact ctx_HE hr10.ok (by kernel_rfl) rfl | exact ev_H hr10 9 0 rfl (by kernel_rfl) rfl rfl)) rfl Try.s51 (ev_T hr10 9 0 rfl (by kernel_rfl) rfl) rfl (by first | exact ctx_HE hr10.ok (by kernel_rfl) rfl | exact ev_H hr10 9 0 rfl (by kernel_rfl) rfl rfl) (by assumption) rfl (Nat.succ_pos _))) rfl (fun hr11 => ?_)
                    clear hr10
                    refine an_nil [some 214, some 215, some 216, some 217, some 218, some 219, some 220, some 221, some 222, some 17, none] hr11 rfl (by kernel_rfl) ?_
                    clear hr11
                    refine aw_seq ?_
                    refine aw_any [[], [0], [], [2], [], [2, 3, 4], [2, 3, 4, 5], [0, 1, 2, 3, 4, 5, 6], [0, 1, 2, 3, 4, 5, 6, 7], [], [0, 1, 2, 3, 4, 5, 6, 7, 8, 9]] [[], [], [], [], [], [], [], [], [], [], [892]] Try.mix hE (by decide) (by kernel_rfl) 908 rfl (fun hr0 => ?_)
                    refine an_op hr0 rfl 820 1 rfl rfl (withEv (x := .tmp 5) (ev_E (by kernel_rfl) rfl) (fun h1 => by first | exact ok_fieldr rfl Try.o45_2 h1 | exact ok_fieldp rfl Try.o45_2 h1)) rfl (fun hr1 => ?_)
                    clear hr0
                    refine an_op hr1 rfl 828 2 rfl rfl (withEv (x := .tmp 223) (ev_T hr1 0 0 rfl (by kernel_rfl) rfl) (fun h1 => by first | exact ld1 Try.r43 rfl h1 (by first | exact ctx_HE hr1.ok (by kernel_rfl) rfl) (by first | assumption | rfl) | exact lp1 Try.r43 rfl h1 (by first | assumption | rfl))) rfl (fun hr2 => ?_)
                    clear hr1
                    refine an_op hr2 rfl 836 3 rfl rfl (withEv (x := .tmp 12) (ev_E (by kernel_rfl) rfl) (fun h1 => by first | exact ok_fieldr rfl Try.o96_2 h1 | exact ok_fieldp rfl Try.o96_2 h1)) rfl (fun hr3 => ?_)
                    clear hr2
                    refine an_op hr3 rfl 844 4 rfl rfl (withEv (x := .tmp 225) (ev_T hr3 2 0 rfl (by kernel_rfl) rfl) (fun h1 => by first | exact ld1 Try.r22 rfl h1 (by first | exact ctx_HE hr3.ok (by kernel_rfl) rfl) (by first | assumption | rfl) | exact lp1 Try.r22 rfl h1 (by first | assumption | rfl))) rfl (fun hr4 => ?_)
                    clear hr3
                    refine an_op hr4 rfl 852 5 rfl rfl (ok_move rfl (ev_E (by kernel_rfl) rfl)) rfl (fun hr5 => ?_)
                    clear hr4
                    refine an_op hr5 rfl 860 6 rfl rfl (withEv (x := .tmp 226) (ev_T hr5 3 1 rfl (by kernel_rfl) rfl) (fun h1 => withEv (x := .tmp 227) (ev_T hr5 4 0 rfl (by kernel_rfl) rfl) (fun h2 => by first | exact ix_p Try.e22 rfl h1 h2 (by omega) | exact ix_r Try.e22 rfl h1 (by first | exact ctx_HE hr5.ok (by kernel_rfl) rfl) h2 (by omega) | exact ok_indexp rfl Try.e22 h1 h2 (by omega) (by omega) | exact ok_indexr rfl Try.e22 h1 (by first | exact ctx_HE hr5.ok (by kernel_rfl) rfl) h2 (by omega) (by omega)))) rfl (fun hr6 => ?_)
                    clear hr5
                    refine an_op hr6 rfl 868 7 rfl rfl (withEv (x := .tmp 228) (ev_T hr6 5 0 rfl (by kernel_rfl) rfl) (fun h1 => by first | exact ld1 Try.r3 rfl h1 (by first | exact ctx_HE hr6.ok (by kernel_rfl) rfl) (by first | assumption | rfl) | exact lp1 Try.r3 rfl h1 (by first | assumption | rfl))) rfl (fun hr7 => ?_)
                    clear hr6
                    refine an_op hr7 rfl 876 8 rfl rfl (withEv (x := .tmp 224) (ev_T hr7 1 5 rfl (by kernel_rfl) rfl) (fun h1 => withEv (x := .tmp 229) (ev_T hr7 6 0 rfl (by kernel_rfl) rfl) (fun h2 => by first | exact ix_p Try.e43 rfl h1 h2 (by omega) | exact ix_r Try.e43 rfl h1 (by first | exact ctx_HE hr7.ok (by kernel_rfl) rfl) h2 (by omega) | exact ok_indexp rfl Try.e43 h1 h2 (by omega) (by omega) | exact ok_indexr rfl Try.e43 h1 (by first | exact ctx_HE hr7.ok (by kernel_rfl) rfl) h2 (by omega) (by omega)))) rfl (fun hr8 => ?_)
                    clear hr7
                    refine an_op hr8 rfl 884 9 rfl rfl (withEv (x := .tmp 230) (ev_T hr8 7 0 rfl (by kernel_rfl) rfl) (fun h1 => by first | exact ldc Try.r51 Try.s51 rfl h1 (by first | exact ctx_HE hr8.ok (by kernel_rfl) rfl) (by first | exact (.take (.take .done)) | exact (.skip (.take (.take .done))) | exact (.skip (.skip (.take (.take .done)))) | exact (.skip (.skip (.skip (.take (.take .done))))) | exact (.skip (.skip (.skip (.skip (.take (.take .done)))))) | exact (.skip (.skip (.skip (.skip (.skip (.take (.take .done))))))) | exact (.skip (.skip (.skip (.skip (.skip (.skip (.take (.take .done)))))))) | exact (.skip (.skip (.skip (.skip (.skip (.skip (.skip (.take (.take .done))))))))) | exact (.skip (.skip (.skip (.skip (.skip (.skip (.skip (.skip (.take (.take .done))))))))))) | exact lpn Try.r51 Try.s51 rfl h1 (by first | assumption | rfl) rfl)) rfl (fun hr9 => ?_)
                    clear hr8
                    refine an_op hr9 rfl 892 10 rfl rfl (ok_alloc rfl Try.z51 rfl) rfl (fun hr10 => ?_)
                    clear hr9
                    refine an_op hr10 rfl 900 11 rfl rfl (withEv (x := .tmp 231) (ev_T hr10 8 1 rfl (by kernel_rfl) rfl) (fun h1 => by first | exact stb (.ev h1) rfl Try.s51 (ev_T hr10 9 0 rfl (by kernel_rfl) rfl) rfl (by first | exact ctx_HE hr10.ok (by kernel_rfl) rfl | exact ev_H hr10 9 0 rfl (by kernel_rfl) rfl rfl) (by first | exact (.put (.put .done)) | exact (.skip (.put (.put .done))) | exact (.skip (.skip (.put (.put .done)))) | exact (.skip (.skip (.skip (.put (.put .done))))) | exact (.skip (.skip (.skip (.skip (.put (.put .done)))))) | exact (.skip (.skip (.skip (.skip (.skip (.put (.put .done))))))) | exact (.skip (.skip (.skip (.skip (.skip (.skip (.put (.put .done)))))))) | exact (.skip (.skip (.skip (.skip (.skip (.skip (.skip (.put (.put .done))))))))) | exact (.skip (.skip (.skip (.skip (.skip (.skip (.skip (.skip (.put (.put .done))))))))))) (Nat.succ_pos _) | exact str (.ev h1) rfl Try.s51 (ev_T hr10 9 0 rfl (by kernel_rfl) rfl) rfl (by first | exact ctx_HE hr10.ok (by kernel_rfl) rfl | exact ev_H hr10 9 0 rfl (by kernel_rfl) rfl rfl) (by assumption) rfl (Nat.succ_pos _) | exact stb (.own h1 (by first | exact ctx_HE hr10.ok (by kernel_rfl) rfl | exact ev_H hr10 9 0 rfl (by kernel_rfl) rfl rfl)) rfl Try.s51 (ev_T hr10 9 0 rfl (by kernel_rfl) rfl) rfl (by first | exact ctx_HE hr10.ok (by kernel_rfl) rfl | exact ev_H hr10 9 0 rfl (by kernel_rfl) rfl rfl) (by first | exact (.put (.put .done)) | exact (.skip (.put (.put .done))) | exact (.skip (.skip (.put (.put .done)))) | exact (.skip (.skip (.skip (.put (.put .done))))) | exact (.skip (.skip (.skip (.skip (.put (.put .done)))))) | exact (.skip (.skip (.skip (.skip (.skip (.put (.put .done))))))) | exact (.skip (.skip (.skip (.skip (.skip (.skip (.put (.put .done)))))))) | exact (.skip (.skip (.skip (.skip (.skip (.skip (.skip (.put (.put .done))))))))) | exact (.skip (.skip (.skip (.skip (.skip (.skip (.skip (.skip (.put (.put .done))))))))))) (Nat.succ_pos _) | exact str (.own h1 (by first | exact ctx_HE hr10.ok (by kernel_rfl) rfl | exact ev_H hr10 9 0 rfl (by kernel_rfl) rfl rfl)) rfl Try.s51 (ev_T hr10 9 0 rfl (by kernel_rfl) rfl) rfl (by first | exact ctx_HE hr10.ok (by kernel_rfl) rfl | exact ev_H hr10 9 0 rfl (by kernel_rfl) rfl rfl) (by assumption) rfl (Nat.succ_pos _))) rfl (fun hr11 => ?_)
                    clear hr10
                    refine an_nil [some 223, some 224, some 225, some 226, some 227, some 228, some 229, some 230, some 231, some 18, none] hr11 rfl (by kernel_rfl) ?_
                    clear hr11
                    refine aw_seq ?_
                    refine aw_any [[], [], [0, 1], [], [], [0, 1, 2, 3, 4], [0, 1, 2, 3, 4, 5], [0, 1, 2, 3, 4, 5, 6], [0, 1, 2, 3, 4, 5, 6, 7], [0, 1, 2, 3, 4, 5, 6, 7], [0, 1, 2, 3, 4, 5, 6, 7, 8, 9], [0, 1, 2, 3, 4, 5, 6, 7], [0, 1, 2, 3, 4, 5, 6, 7], [0, 1, 2, 3, 4, 5, 6, 7, 8, 9, 10, 11, 12], [0, 1, 2, 3, 4, 5, 6, 7, 8, 9, 10, 11, 12, 13], [0, 1, 2, 3, 4, 5, 6, 7, 8, 9, 10, 11, 12, 13, 14], [0, 1, 2, 3, 4, 5, 6, 7, 8, 9, 10, 11, 12, 13, 14, 15], [0, 1, 2, 3, 4, 5, 6, 7, 8, 9, 10, 11, 12, 13, 14, 15, 16], [0, 1, 2, 3, 4, 5, 6, 7, 8, 9, 10, 11, 12, 13, 14, 15, 16], [0, 1, 2, 3, 4, 5, 6, 7, 8, 9, 10, 11, 12, 13, 14, 15, 16, 17, 18], [0, 1, 2, 3, 4, 5, 6, 7, 8, 9, 10, 11, 12, 13, 14, 15, 16], [0, 1, 2, 3, 4, 5, 6, 7, 8, 9, 10, 11, 12, 13, 14, 15, 16], [0, 1, 2, 3, 4, 5, 6, 7, 8, 9, 10, 11, 12, 13, 14, 15, 16, 17, 18, 19, 20, 21], [0, 1, 2, 3, 4, 5, 6, 7, 8, 9, 10, 11, 12, 13, 14, 15, 16, 17, 18, 19, 20, 21, 22], [0, 1, 2, 3, 4, 5, 6, 7, 8, 9, 10, 11, 12, 13, 14, 15, 16, 17, 18, 19, 20, 21, 22, 23]] [[], [], [], [], [], [], [], [], [], [], [], [], [], [], [], [], [], [], [], [], [], [], [], [], []] Try.mix hE (by decide) (by kernel_rfl) 1108 rfl (fun hr0 => ?_)
                    refine an_op hr0 rfl 908 1 rfl rfl (withEv (x := .tmp 15) (ev_E (by kernel_rfl) rfl) (fun h1 => by first | exact ldc Try.r51 Try.s51 rfl h1 (by first | exact ctx_HE hr0.ok (by kernel_rfl) rfl) (by first | exact (.take (.take .done)) | exact (.skip (.take (.take .done))) | exact (.skip (.skip (.take (.take .done)))) | exact (.skip (.skip (.skip (.take (.take .done))))) | exact (.skip (.skip (.skip (.skip (.take (.take .done)))))) | exact (.skip (.skip (.skip (.skip (.skip (.take (.take .done))))))) | exact (.skip (.skip (.skip (.skip (.skip (.skip (.take (.take .done)))))))) | exact (.skip (.skip (.skip (.skip (.skip (.skip (.skip (.take (.take .done))))))))) | exact (.skip (.skip (.skip (.skip (.skip (.skip (.skip (.skip (.take (.take .done))))))))))) | exact lpn Try.r51 Try.s51 rfl h1 (by first | assumption | rfl) rfl)) rfl (fun hr1 => ?_)
                    clear hr0
                    refine an_op hr1 rfl 916 2 rfl rfl (withEv (x := .tmp 16) (ev_E (by kernel_rfl) rfl) (fun h1 => by first | exact ldc Try.r51 Try.s51 rfl h1 (by first | exact ctx_HE hr1.ok (by kernel_rfl) rfl) (by first | exact (.take (.take .done)) | exact (.skip (.take (.take .done))) | exact (.skip (.skip (.take (.take .done)))) | exact (.skip (.skip (.skip (.take (.take .done))))) | exact (.skip (.skip (.skip (.skip (.take (.take .done)))))) | exact (.skip (.skip (.skip (.skip (.skip (.take (.take .done))))))) | exact (.skip (.skip (.skip (.skip (.skip (.skip (.take (.take .done)))))))) | exact (.skip (.skip (.skip (.skip (.skip (.skip (.skip (.take (.take .done))))))))) | exact (.skip (.skip (.skip (.skip (.skip (.skip (.skip (.skip (.take (.take .done))))))))))) | exact lpn Try.r51 Try.s51 rfl h1 (by first | assumption | rfl) rfl)) rfl (fun hr2 => ?_)
                    clear hr1
                    refine an_op hr2 rfl 924 3 rfl rfl (ok_call [] [] rfl Try.func40 (by simp [Try.f40]) (by simp [Try.f40]) (c1) (.cons (ev_T hr2 0 1 rfl (by kernel_rfl) rfl) (by repeat' first | exact .t rfl | exact .rd rfl rfl rfl rfl | exact .nil | exact DLeL.nil | refine DLeL.cons ?_ ?_ | refine .agg' ?_) (.cons (ev_T hr2 1 0 rfl (by kernel_rfl) rfl) (by repeat' first | exact .t rfl | exact .rd rfl rfl rfl rfl | exact .nil | exact DLeL.nil | refine DLeL.cons ?_ ?_ | refine .agg' ?_) (.nil))) .nil (by repeat' first | exact .t rfl | exact DLeL.nil | refine DLeL.cons ?_ ?_ | refine .agg' ?_ | refine .tup' ?_) .nil rfl rfl) rfl (fun hr3 => ?_)
                    clear hr2
                    refine an_op hr3 rfl 932 4 rfl rfl (withEv (x := .tmp 17) (ev_E (by kernel_rfl) rfl) (fun h1 => by first | exact ldc Try.r51 Try.s51 rfl h1 (by first | exact ctx_HE hr3.ok (by kernel_rfl) rfl) (by first | exact (.take (.take .done)) | exact (.skip (.take (.take .done))) | exact (.skip (.skip (.take (.take .done)))) | exact (.skip (.skip (.skip (.take (.take .done))))) | exact (.skip (.skip (.skip (.skip (.take (.take .done)))))) | exact (.skip (.skip (.skip (.skip (.skip (.take (.take .done))))))) | exact (.skip (.skip (.skip (.skip (.skip (.skip (.take (.take .done)))))))) | exact (.skip (.skip (.skip (.skip (.skip (.skip (.skip (.take (.take .done))))))))) | exact (.skip (.skip (.skip (.skip (.skip (.skip (.skip (.skip (.take (.take .done))))))))))) | exact lpn Try.r51 Try.s51 rfl h1 (by first | assumption | rfl) rfl)) rfl (fun hr4 => ?_)
                    clear hr3
                    refine an_op hr4 rfl 940 5 rfl rfl (withEv (x := .tmp 18) (ev_E (by kernel_rfl) rfl) (fun h1 => by first | exact ldc Try.r51 Try.s51 rfl h1 (by first | exact ctx_HE hr4.ok (by kernel_rfl) rfl) (by first | exact (.take (.take .done)) | exact (.skip (.take (.take .done))) | exact (.skip (.skip (.take (.take .done)))) | exact (.skip (.skip (.skip (.take (.take .done))))) | exact (.skip (.skip (.skip (.skip (.take (.take .done)))))) | exact (.skip (.skip (.skip (.skip (.skip (.take (.take .done))))))) | exact (.skip (.skip (.skip (.skip (.skip (.skip (.take (.take .done)))))))) | exact (.skip (.skip (.skip (.skip (.skip (.skip (.skip (.take (.take .done))))))))) | exact (.skip (.skip (.skip (.skip (.skip (.skip (.skip (.skip (.take (.take .done))))))))))) | exact lpn Try.r51 Try.s51 rfl h1 (by first | assumption | rfl) rfl)) rfl (fun hr5 => ?_)
                    clear hr4
                    refine an_op hr5 rfl 948 6 rfl rfl (ok_call [] [] rfl Try.func40 (by simp [Try.f40]) (by simp [Try.f40]) (c2) (.cons (ev_T hr5 3 1 rfl (by kernel_rfl) rfl) (by repeat' first | exact .t rfl | exact .rd rfl rfl rfl rfl | exact .nil | exact DLeL.nil | refine DLeL.cons ?_ ?_ | refine .agg' ?_) (.cons (ev_T hr5 4 0 rfl (by kernel_rfl) rfl) (by repeat' first | exact .t rfl | exact .rd rfl rfl rfl rfl | exact .nil | exact DLeL.nil | refine DLeL.cons ?_ ?_ | refine .agg' ?_) (.nil))) .nil (by repeat' first | exact .t rfl | exact DLeL.nil | refine DLeL.cons ?_ ?_ | refine .agg' ?_ | refine .tup' ?_) .nil rfl rfl) rfl (fun hr6 => ?_)
                    clear hr5
                    refine an_op hr6 rfl 956 7 rfl rfl (okB (b := false) (ok_neb Try.u4 rfl (ev_T hr6 2 3 rfl (by kernel_rfl) rfl) (ev_T hr6 5 0 rfl (by kernel_rfl) rfl)) (by rw [hins]; simp)) rfl (fun hr7 => ?_)
                    clear hr6
                    refine an_op hr7 rfl 964 8 rfl rfl (ok_move rfl (ev_T hr7 6 0 rfl (by kernel_rfl) rfl)) rfl (fun hr8 => ?_)
                    clear hr7
                    refine an_on hr8 rfl rfl (ctx_T 7 (by kernel_rfl) (RsI.rev hr8 (q := 0) rfl rfl)) 972 9 rfl rfl (withEv (x := .tmp 15) (ev_E (by kernel_rfl) rfl) (fun h1 => by first | exact ldc Try.r51 Try.s51 rfl h1 (by first | exact ctx_HE hr8.ok (by kernel_rfl) rfl | exact ev_H hr8 5 2 rfl (by kernel_rfl) rfl rfl | exact ev_H hr8 2 5 rfl (by kernel_rfl) rfl rfl) (by first | exact (.take (.take .done)) | exact (.skip (.take (.take .done))) | exact (.skip (.skip (.take (.take .done)))) | exact (.skip (.skip (.skip (.take (.take .done))))) | exact (.skip (.skip (.skip (.skip (.take (.take .done)))))) | exact (.skip (.skip (.skip (.skip (.skip (.take (.take .done))))))) | exact (.skip (.skip (.skip (.skip (.skip (.skip (.take (.take .done)))))))) | exact (.skip (.skip (.skip (.skip (.skip (.skip (.skip (.take (.take .done))))))))) | exact (.skip (.skip (.skip (.skip (.skip (.skip (.skip (.skip (.take (.take .done))))))))))) | exact lpn Try.r51 Try.s51 rfl h1 (by first | assumption | rfl) rfl)) rfl (fun hr9 => ?_)
                    clear hr8
                    refine an_on hr9 rfl rfl (ctx_T 7 (by kernel_rfl) (RsI.rev hr9 (q := 1) rfl rfl)) 980 10 rfl rfl (withEv (x := .tmp 16) (ev_E (by kernel_rfl) rfl) (fun h1 => by first | exact ldc Try.r51 Try.s51 rfl h1 (by first | exact ctx_HE hr9.ok (by kernel_rfl) rfl | exact ev_H hr9 5 3 rfl (by kernel_rfl) rfl rfl | exact ev_H hr9 2 6 rfl (by kernel_rfl) rfl rfl) (by first | exact (.take (.take .done)) | exact (.skip (.take (.take .done))) | exact (.skip (.skip (.take (.take .done)))) | exact (.skip (.skip (.skip (.take (.take .done))))) | exact (.skip (.skip (.skip (.skip (.take (.take .done)))))) | exact (.skip (.skip (.skip (.skip (.skip (.take (.take .done))))))) | exact (.skip (.skip (.skip (.skip (.skip (.skip (.take (.take .done)))))))) | exact (.skip (.skip (.skip (.skip (.skip (.skip (.skip (.take (.take .done))))))))) | exact (.skip (.skip (.skip (.skip (.skip (.skip (.skip (.skip (.take (.take .done))))))))))) | exact lpn Try.r51 Try.s51 rfl h1 (by first | assumption | rfl) rfl)) rfl (fun hr10 => ?_)
                    clear hr9
                    refine an_on hr10 rfl rfl (ctx_T 7 (by kernel_rfl) (RsI.rev hr10 (q := 2) rfl rfl)) 988 11 rfl rfl (ok_call [] [] rfl Try.func34 (by simp [Try.f34]) (by simp [Try.f34]) (c3) (.cons (ev_T hr10 8 1 rfl (by kernel_rfl) rfl) (by repeat' first | exact .t rfl | exact .rd rfl rfl rfl rfl | exact .nil | exact DLeL.nil | refine DLeL.cons ?_ ?_ | refine .agg' ?_) (.cons (ev_T hr10 9 0 rfl (by kernel_rfl) rfl) (by repeat' first | exact .t rfl | exact .rd rfl rfl rfl rfl | exact .nil | exact DLeL.nil | refine DLeL.cons ?_ ?_ | refine .agg' ?_) (.nil))) .nil (by repeat' first | exact .t rfl | exact DLeL.nil | refine DLeL.cons ?_ ?_ | refine .agg' ?_ | refine .tup' ?_) .nil rfl rfl) rfl (fun hr11 => ?_)
                    clear hr10
                    refine an_on hr11 rfl rfl (ctx_T 7 (by kernel_rfl) (RsI.rev hr11 (q := 3) rfl rfl)) 996 12 rfl rfl (withEv (x := .tmp 17) (ev_E (by kernel_rfl) rfl) (fun h1 => by first | exact ldc Try.r51 Try.s51 rfl h1 (by first | exact ctx_HE hr11.ok (by kernel_rfl) rfl | exact ev_H hr11 5 5 rfl (by kernel_rfl) rfl rfl | exact ev_H hr11 2 8 rfl (by kernel_rfl) rfl rfl) (by first | exact (.take (.take .done)) | exact (.skip (.take (.take .done))) | exact (.skip (.skip (.take (.take .done)))) | exact (.skip (.skip (.skip (.take (.take .done))))) | exact (.skip (.skip (.skip (.skip (.take (.take .done)))))) | exact (.skip (.skip (.skip (.skip (.skip (.take (.take .done))))))) | exact (.skip (.skip (.skip (.skip (.skip (.skip (.take (.take .done)))))))) | exact (.skip (.skip (.skip (.skip (.skip (.skip (.skip (.take (.take .done))))))))) | exact (.skip (.skip (.skip (.skip (.skip (.skip (.skip (.skip (.take (.take .done))))))))))) | exact lpn Try.r51 Try.s51 rfl h1 (by first | assumption | rfl) rfl)) rfl (fun hr12 => ?_)
                    clear hr11
                    refine an_on hr12 rfl rfl (ctx_T 7 (by kernel_rfl) (RsI.rev hr12 (q := 4) rfl rfl)) 1004 13 rfl rfl (withEv (x := .tmp 18) (ev_E (by kernel_rfl) rfl) (fun h1 => by first | exact ldc Try.r51 Try.s51 rfl h1 (by first | exact ctx_HE hr12.ok (by kernel_rfl) rfl | exact ev_H hr12 5 6 rfl (by kernel_rfl) rfl rfl | exact ev_H hr12 2 9 rfl (by kernel_rfl) rfl rfl) (by first | exact (.take (.take .done)) | exact (.skip (.take (.take .done))) | exact (.skip (.skip (.take (.take .done)))) | exact (.skip (.skip (.skip (.take (.take .done))))) | exact (.skip (.skip (.skip (.skip (.take (.take .done)))))) | exact (.skip (.skip (.skip (.skip (.skip (.take (.take .done))))))) | exact (.skip (.skip (.skip (.skip (.skip (.skip (.take (.take .done)))))))) | exact (.skip (.skip (.skip (.skip (.skip (.skip (.skip (.take (.take .done))))))))) | exact (.skip (.skip (.skip (.skip (.skip (.skip (.skip (.skip (.take (.take .done))))))))))) | exact lpn Try.r51 Try.s51 rfl h1 (by first | assumption | rfl) rfl)) rfl (fun hr13 => ?_)
                    clear hr12
                    refine an_on hr13 rfl rfl (ctx_T 7 (by kernel_rfl) (RsI.rev hr13 (q := 5) rfl rfl)) 1012 14 rfl rfl (ok_call [] [] rfl Try.func34 (by simp [Try.f34]) (by simp [Try.f34]) (c4) (.cons (ev_T hr13 11 1 rfl (by kernel_rfl) rfl) (by repeat' first | exact .t rfl | exact .rd rfl rfl rfl rfl | exact .nil | exact DLeL.nil | refine DLeL.cons ?_ ?_ | refine .agg' ?_) (.cons (ev_T hr13 12 0 rfl (by kernel_rfl) rfl) (by repeat' first | exact .t rfl | exact .rd rfl rfl rfl rfl | exact .nil | exact DLeL.nil | refine DLeL.cons ?_ ?_ | refine .agg' ?_) (.nil))) .nil (by repeat' first | exact .t rfl | exact DLeL.nil | refine DLeL.cons ?_ ?_ | refine .agg' ?_ | refine .tup' ?_) .nil rfl rfl) rfl (fun hr14 => ?_)
                    clear hr13
                    refine an_on hr14 rfl rfl (ctx_T 7 (by kernel_rfl) (RsI.rev hr14 (q := 6) rfl rfl)) 1020 15 rfl rfl (okB (b := false) (ok_neb Try.u4 rfl (ev_T hr14 10 3 rfl (by kernel_rfl) rfl) (ev_T hr14 13 0 rfl (by kernel_rfl) rfl)) (by rw [hlef]; simp)) rfl (fun hr15 => ?_)
                    clear hr14
                    refine an_op hr15 rfl 1028 16 rfl rfl (by first | exact ok_pick_t rfl (ev_T hr15 7 7 rfl (by kernel_rfl) rfl) rfl | exact ok_pick_f rfl (ev_T hr15 7 7 rfl (by kernel_rfl) rfl) (ev_T hr15 14 0 rfl (by kernel_rfl) rfl)) rfl (fun hr16 => ?_)
                    clear hr15
                    refine an_op hr16 rfl 1036 17 rfl rfl (ok_move rfl (ev_T hr16 15 0 rfl (by kernel_rfl) rfl)) rfl (fun hr17 => ?_)
                    clear hr16
                    refine an_on hr17 rfl rfl (ctx_T 16 (by kernel_rfl) (RsI.rev hr17 (q := 0) rfl rfl)) 1044 18 rfl rfl (withEv (x := .tmp 15) (ev_E (by kernel_rfl) rfl) (fun h1 => by first | exact ldc Try.r51 Try.s51 rfl h1 (by first | exact ctx_HE hr17.ok (by kernel_rfl) rfl | exact ev_H hr17 13 3 rfl (by kernel_rfl) rfl rfl | exact ev_H hr17 10 6 rfl (by kernel_rfl) rfl rfl | exact ev_H hr17 5 11 rfl (by kernel_rfl) rfl rfl | exact ev_H hr17 2 14 rfl (by kernel_rfl) rfl rfl) (by first | exact (.take (.take .done)) | exact (.skip (.take (.take .done))) | exact (.skip (.skip (.take (.take .done)))) | exact (.skip (.skip (.skip (.take (.take .done))))) | exact (.skip (.skip (.skip (.skip (.take (.take .done)))))) | exact (.skip (.skip (.skip (.skip (.skip (.take (.take .done))))))) | exact (.skip (.skip (.skip (.skip (.skip (.skip (.take (.take .done)))))))) | exact (.skip (.skip (.skip (.skip (.skip (.skip (.skip (.take (.take .done))))))))) | exact (.skip (.skip (.skip (.skip (.skip (.skip (.skip (.skip (.take (.take .done))))))))))) | exact lpn Try.r51 Try.s51 rfl h1 (by first | assumption | rfl) rfl)) rfl (fun hr18 => ?_)
                    clear hr17
                    refine an_on hr18 rfl rfl (ctx_T 16 (by kernel_rfl) (RsI.rev hr18 (q := 1) rfl rfl)) 1052 19 rfl rfl (withEv (x := .tmp 16) (ev_E (by kernel_rfl) rfl) (fun h1 => by first | exact ldc Try.r51 Try.s51 rfl h1 (by first | exact ctx_HE hr18.ok (by kernel_rfl) rfl | exact ev_H hr18 13 4 rfl (by kernel_rfl) rfl rfl | exact ev_H hr18 10 7 rfl (by kernel_rfl) rfl rfl | exact ev_H hr18 5 12 rfl (by kernel_rfl) rfl rfl | exact ev_H hr18 2 15 rfl (by kernel_rfl) rfl rfl) (by first | exact (.take (.take .done)) | exact (.skip (.take (.take .done))) | exact (.skip (.skip (.take (.take .done)))) | exact (.skip (.skip (.skip (.take (.take .done))))) | exact (.skip (.skip (.skip (.skip (.take (.take .done)))))) | exact (.skip (.skip (.skip (.skip (.skip (.take (.take .done))))))) | exact (.skip (.skip (.skip (.skip (.skip (.skip (.take (.take .done)))))))) | exact (.skip (.skip (.skip (.skip (.skip (.skip (.skip (.take (.take .done))))))))) | exact (.skip (.skip (.skip (.skip (.skip (.skip (.skip (.skip (.take (.take .done))))))))))) | exact lpn Try.r51 Try.s51 rfl h1 (by first | assumption | rfl) rfl)) rfl (fun hr19 => ?_)
                    clear hr18
                    refine an_on hr19 rfl rfl (ctx_T 16 (by kernel_rfl) (RsI.rev hr19 (q := 2) rfl rfl)) 1060 20 rfl rfl (ok_call [] [] rfl Try.func43 (by simp [Try.f43]) (by simp [Try.f43]) (c5) (.cons (ev_T hr19 17 1 rfl (by kernel_rfl) rfl) (by repeat' first | exact .t rfl | exact .rd rfl rfl rfl rfl | exact .nil | exact DLeL.nil | refine DLeL.cons ?_ ?_ | refine .agg' ?_) (.cons (ev_T hr19 18 0 rfl (by kernel_rfl) rfl) (by repeat' first | exact .t rfl | exact .rd rfl rfl rfl rfl | exact .nil | exact DLeL.nil | refine DLeL.cons ?_ ?_ | refine .agg' ?_) (.nil))) .nil (by repeat' first | exact .t rfl | exact DLeL.nil | refine DLeL.cons ?_ ?_ | refine .agg' ?_ | refine .tup' ?_) .nil rfl rfl) rfl (fun hr20 => ?_)
                    clear hr19
                    refine an_on hr20 rfl rfl (ctx_T 16 (by kernel_rfl) (RsI.rev hr20 (q := 3) rfl rfl)) 1068 21 rfl rfl (withEv (x := .tmp 17) (ev_E (by kernel_rfl) rfl) (fun h1 => by first | exact ldc Try.r51 Try.s51 rfl h1 (by first | exact ctx_HE hr20.ok (by kernel_rfl) rfl | exact ev_H hr20 13 6 rfl (by kernel_rfl) rfl rfl | exact ev_H hr20 10 9 rfl (by kernel_rfl) rfl rfl | exact ev_H hr20 5 14 rfl (by kernel_rfl) rfl rfl | exact ev_H hr20 2 17 rfl (by kernel_rfl) rfl rfl) (by first | exact (.take (.take .done)) | exact (.skip (.take (.take .done))) | exact (.skip (.skip (.take (.take .done)))) | exact (.skip (.skip (.skip (.take (.take .done))))) | exact (.skip (.skip (.skip (.skip (.take (.take .done)))))) | exact (.skip (.skip (.skip (.skip (.skip (.take (.take .done))))))) | exact (.skip (.skip (.skip (.skip (.skip (.skip (.take (.take .done)))))))) | exact (.skip (.skip (.skip (.skip (.skip (.skip (.skip (.take (.take .done))))))))) | exact (.skip (.skip (.skip (.skip (.skip (.skip (.skip (.skip (.take (.take .done))))))))))) | exact lpn Try.r51 Try.s51 rfl h1 (by first | assumption | rfl) rfl)) rfl (fun hr21 => ?_)
                    clear hr20
                    refine an_on hr21 rfl rfl (ctx_T 16 (by kernel_rfl) (RsI.rev hr21 (q := 4) rfl rfl)) 1076 22 rfl rfl (withEv (x := .tmp 18) (ev_E (by kernel_rfl) rfl) (fun h1 => by first | exact ldc Try.r51 Try.s51 rfl h1 (by first | exact ctx_HE hr21.ok (by kernel_rfl) rfl | exact ev_H hr21 13 7 rfl (by kernel_rfl) rfl rfl | exact ev_H hr21 10 10 rfl (by kernel_rfl) rfl rfl | exact ev_H hr21 5 15 rfl (by kernel_rfl) rfl rfl | exact ev_H hr21 2 18 rfl (by kernel_rfl) rfl rfl) (by first | exact (.take (.take .done)) | exact (.skip (.take (.take .done))) | exact (.skip (.skip (.take (.take .done)))) | exact (.skip (.skip (.skip (.take (.take .done))))) | exact (.skip (.skip (.skip (.skip (.take (.take .done)))))) | exact (.skip (.skip (.skip (.skip (.skip (.take (.take .done))))))) | exact (.skip (.skip (.skip (.skip (.skip (.skip (.take (.take .done)))))))) | exact (.skip (.skip (.skip (.skip (.skip (.skip (.skip (.take (.take .done))))))))) | exact (.skip (.skip (.skip (.skip (.skip (.skip (.skip (.skip (.take (.take .done))))))))))) | exact lpn Try.r51 Try.s51 rfl h1 (by first | assumption | rfl) rfl)) rfl (fun hr22 => ?_)
                    clear hr21
                    refine an_on hr22 rfl rfl (ctx_T 16 (by kernel_rfl) (RsI.rev hr22 (q := 5) rfl rfl)) 1084 23 rfl rfl (ok_call [] [] rfl Try.func43 (by simp [Try.f43]) (by simp [Try.f43]) (c6) (.cons (ev_T hr22 20 1 rfl (by kernel_rfl) rfl) (by repeat' first | exact .t rfl | exact .rd rfl rfl rfl rfl | exact .nil | exact DLeL.nil | refine DLeL.cons ?_ ?_ | refine .agg' ?_) (.cons (ev_T hr22 21 0 rfl (by kernel_rfl) rfl) (by repeat' first | exact .t rfl | exact .rd rfl rfl rfl rfl | exact .nil | exact DLeL.nil | refine DLeL.cons ?_ ?_ | refine .agg' ?_) (.nil))) .nil (by repeat' first | exact .t rfl | exact DLeL.nil | refine DLeL.cons ?_ ?_ | refine .agg' ?_ | refine .tup' ?_) .nil rfl rfl) rfl (fun hr23 => ?_)
                    clear hr22
                    refine an_on hr23 rfl rfl (ctx_T 16 (by kernel_rfl) (RsI.rev hr23 (q := 6) rfl rfl)) 1092 24 rfl rfl (okB (b := false) (ok_neb Try.u4 rfl (ev_T hr23 19 3 rfl (by kernel_rfl) rfl) (ev_T hr23 22 0 rfl (by kernel_rfl) rfl)) (by rw [hlon]; simp)) rfl (fun hr24 => ?_)
                    clear hr23
                    refine an_op hr24 rfl 1100 25 rfl rfl (by first | exact ok_pick_t rfl (ev_T hr24 16 7 rfl (by kernel_rfl) rfl) rfl | exact ok_pick_f rfl (ev_T hr24 16 7 rfl (by kernel_rfl) rfl) (ev_T hr24 23 0 rfl (by kernel_rfl) rfl)) rfl (fun hr25 => ?_)
                    clear hr24
                    refine an_nil [some 232, some 233, some 234, some 235, some 236, some 237, some 238, some 239, some 240, some 241, some 242, some 243, some 244, some 245, some 246, some 247, some 248, some 249, some 250, some 251, some 252, some 253, some 254, some 255, some 256] hr25 rfl (by kernel_rfl) ?_
                    clear hr25
                    refine aw_cond rfl (fun hb10 => ?_) (fun hb10 => ?_)
                    · exact absurd hb10 (by decide)
                    · skip
                      refine aw_skip ?_
                      refine aw_region 1132 hE (by decide) rfl rfl ?_
                      refine sq_op (some 142) 1116 rfl rfl rfl (ok_move rfl rfl) ?_
                      refine sq_op (some 143) 1124 rfl rfl rfl (ok_add rfl rfl rfl (by omega)) ?_
                      refine sq_op (some 14) 1132 rfl rfl rfl (ok_assign rfl rfl) ?_
                      refine sq_nil ?_
                      exact ⟨k + 1, by omega, show s.of_.length - (k + 1) < s.of_.length - k by omega, ent_of [] 100 (.cons rfl (.ref rfl rfl) (.cons rfl (.t rfl) (.cons rfl (.t rfl) (.cons rfl (.ref rfl rfl) (.cons rfl (.t rfl) (.cons rfl (.t rfl) .nil)))))) (.cons rfl (.box' (.cons (.t rfl) (.cons (.t rfl) (.cons (.t rfl) .nil)))) (.cons rfl (.box' (.cons (.t rfl) (.cons (.t rfl) (.cons (.t rfl) (.cons (.t rfl) (.cons (.t rfl) .nil)))))) .nil)) rfl⟩
                · skip
                  refine aw_exit ?_
                  refine aw_region 164 hE (by decide) rfl rfl ?_
                  refine sq_op (some 135) 148 rfl rfl rfl (ok_move rfl rfl) ?_
                  refine sq_op (some 136) 156 rfl rfl rfl (ok_add rfl rfl rfl (by omega)) ?_
                  refine sq_op (some 13) 164 rfl rfl rfl (ok_assign rfl rfl) ?_
                  refine sq_nil ?_
                  exact ⟨i + 1, by omega, show s.of_.length - (i + 1) < s.of_.length - i by omega, ent_of [] 100 (.cons rfl (.ref rfl rfl) (.cons rfl (.t rfl) (.cons rfl (.t rfl) (.cons rfl (.ref rfl rfl) (.cons rfl (.t rfl) .nil))))) (.cons rfl (.box' (.cons (.t rfl) (.cons (.t rfl) (.cons (.t rfl) .nil)))) (.cons rfl (.box' (.cons (.t rfl) (.cons (.t rfl) (.cons (.t rfl) (.cons (.t rfl) (.cons (.t rfl) .nil)))))) .nil)) rfl⟩
              · skip
                refine aw_exit ?_
                refine aw_region 164 hE (by decide) rfl rfl ?_
                refine sq_op (some 101) 148 rfl rfl rfl (ok_move rfl rfl) ?_
                refine sq_op (some 102) 156 rfl rfl rfl (ok_add rfl rfl rfl (by omega)) ?_
                refine sq_op (some 11) 164 rfl rfl rfl (ok_assign rfl rfl) ?_
                refine sq_nil ?_
                exact ⟨n + 1, by omega, show b.length - (n + 1) < b.length - n by omega, ent_of [] 100 (.cons rfl (.ref rfl rfl) (.cons rfl (.t rfl) (.cons rfl (.t rfl) .nil))) (.cons rfl (.box' (.cons (.t rfl) (.cons (.t rfl) (.cons (.t rfl) .nil)))) .nil) rfl⟩
        · skip
          refine aw_exit ?_
          refine aw_seq ?_
          refine aw_region 148 hE (by decide) rfl rfl ?_
          refine sq_op (some 257) 140 rfl rfl rfl (ok_call [] [] rfl Try.func22 (by simp [Try.f22]) (by simp [Try.f22]) (lives_does) (.nil) .nil (by repeat' first | exact .t rfl | exact DLeL.nil | refine DLeL.cons ?_ ?_ | refine .agg' ?_ | refine .tup' ?_) .nil rfl rfl) ?_
          refine sq_op (some 4) 148 rfl rfl rfl (ok_assign rfl rfl) ?_
          refine sq_nil ?_
          refine aw_ret ?_
          exact ret1 [] rfl rfl (.t rfl) .nil rfl
theorem facts_any (v : Value) (l : List Int) (wd : Int) (w : World) (hl : Ints w v l) (h1 : kOk wd) : Calls Try.prog 15 #[v, .int .i64 wd] w fun e w' => e = .returned (.bool true) ∧ Aft w w' := by
  have hok : okI l ∧ l.length ≤ 17592186043904 := by
    obtain ⟨a, c, rfl, h⟩ := hl
    have := h.size
    exact ⟨h.ok, by omega⟩
  refine calls_of (facts_does l wd hok.1 hok.2 h1) rfl (fun i u d hu hd => ?_)
  match i with
  | 0 => simp at hu hd; subst hu hd; exact .t (ints_tree hl)
  | 1 => simp at hu hd; subst hu hd; exact .t (.v _ rfl)
  | i + 2 => simp at hu
end Go.Proofs.Ytokdclbfjlnnjaa
