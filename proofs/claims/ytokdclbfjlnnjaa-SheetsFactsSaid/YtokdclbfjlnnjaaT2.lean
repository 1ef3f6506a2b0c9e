/- What the law on Cut calls, told of data. -/
import Derived.Test.YtokdclbfjlnnjaaT1
namespace Go.Proofs.Ytokdclbfjlnnjaa
open Go.RowKit Go.Ab

theorem pure_t {xs : List Tree} : ∀ d ∈ xs.map D.t, Pure d := fun d hd => by
  obtain ⟨x, _, rfl⟩ := List.mem_map.1 hd
  exact .t
theorem dr_t {w : World} {G : Lim} {v : Value} {x : Tree} (h : DR0 w G v (.t x)) : TR w G v x := by cases h with | t h => exact h
theorem vs_of1 {vs : Array Value} {d : D} (h : vs.size = [d].length) : ∃ u, vs = #[u] := by
  obtain ⟨l⟩ := vs
  match l, h with
  | [u], _ => exact ⟨u, rfl⟩
theorem vs_of2 {vs : Array Value} {d e : D} (h : vs.size = [d, e].length) : ∃ u v, vs = #[u, v] := by
  obtain ⟨l⟩ := vs
  match l, h with
  | [u, v], _ => exact ⟨u, v, rfl⟩

theorem around_does (n m : Int) (h1 : -9223372036854775808 ≤ n ∧ n ≤ 9223372036854775807) : Does Try.prog 18 [I n, I m] [] (I (aroundI n m)) [] :=
  does_calls1 (pure_t (xs := [ti n, ti m])) .t fun w G vs hl hd => by
    obtain ⟨u, v, rfl⟩ := vs_of2 hl
    have e1 := tr_v (dr_t (hd 0 u _ rfl rfl))
    have e2 := tr_v (dr_t (hd 1 v _ rfl rfl))
    subst e1 e2
    exact (around_any n m w h1.1 h1.2).mono fun e w' ⟨he, hw⟩ => by
      subst hw
      exact ⟨_, he, Aft.refl _, .t (.v _ rfl)⟩

/-- A struct of two numbers and a slice. -/
abbrev figD (W H : Int) (L : List Sh) : D := .agg [I W, I H, .t (.sl L.length (shT L))]
theorem fig_pure (W H : Int) (L : List Sh) : Pure (figD W H L) := .agg (pure_t (xs := [ti W, ti H, .sl L.length (shT L)]))
theorem fig_open {w : World} {G : Lim} {u : Value} {W H : Int} {L : List Sh} (h : DR0 w G u (figD W H L)) : ∃ v, u = .agg #[.int .i64 W, .int .i64 H, v] ∧ TR w G v (.sl L.length (shT L)) := by
  cases h with
  | @agg vs _ hl h h1 =>
    obtain ⟨l⟩ := vs
    match l, hl with
    | [a, b, c], _ =>
      have e1 := tr_v (dr_t (h 0 a _ rfl rfl))
      have e2 := tr_v (dr_t (h 1 b _ rfl rfl))
      subst e1 e2
      exact ⟨c, rfl, dr_t (h 2 c _ rfl rfl)⟩
theorem agg3 {w : World} {G : Lim} {W H : Int} {v : Value} {L : List Sh} (h : TR w G v (.sl L.length (shT L))) : DR0 w G (.agg #[.int .i64 W, .int .i64 H, v]) (figD W H L) := by
  refine .agg rfl (fun i u d hu hd => ?_) (fun u hu => ?_)
  · match i with
    | 0 => simp at hu hd; subst hu hd; exact .t (.v _ rfl)
    | 1 => simp at hu hd; subst hu hd; exact .t (.v _ rfl)
    | 2 => simp at hu hd; subst hu hd; exact .t h
    | i + 3 => simp at hu
  · simp at hu
    rcases hu with rfl | rfl | rfl
    · rfl
    · rfl
    · exact h.one

theorem prs_tree {w w' : World} {G : Lim} {g n c : Nat} {ps : List Pt} (h : Prs w' (.slice (some ⟨g, 0, none⟩) n c) ps) (hg : w.heap.size ≤ g) : TR w' (newG w w' G) (.slice (some ⟨g, 0, none⟩) n c) (.sl ps.length (ptT ps)) := by
  obtain ⟨a', c', e, hp⟩ := h
  simp only [Value.slice.injEq] at e
  obtain ⟨e1, e2, rfl⟩ := e
  subst e2
  refine .sl g 0 _ c (prs ps) (ptT ps) (pts_len ps) (fun i u hu => ?_) hp.cap (pts_rel ps)
  · obtain ⟨ad, e3, hc⟩ := hp.rd i u hu
    rw [← e1] at e3
    cases e3
    rw [Addr.add_mid] at hc
    refine ⟨hc, ?_⟩
    unfold newG
    rw [if_neg (by omega)]
    unfold World.cell? at hc
    unfold blkSize
    split at hc
    · rename_i cs _ _ hh
      rw [hh]
      simp only [Option.isSome_none, Bool.false_eq_true, if_false] at hc ⊢
      exact (Array.getElem?_eq_some_iff.1 hc).1
    · cases hc

theorem shs_len : ∀ (R : List (Int × Value)) (L : List Sh), R.length = L.length → (shCells R).length = (shT L).length
  | [], [], _ => rfl
  | [], _ :: _, h => by cases h
  | _ :: _, [], h => by cases h
  | r :: R, s :: L, h => by
    have e1 : (shCells (r :: R)).length = 2 + (shCells R).length := by simp [shCells]; omega
    have e2 : (shT (s :: L)).length = 2 + (shT L).length := by simp [shT]; omega
    rw [e1, e2, shs_len R L (by simpa using h)]
theorem shs_rel {w : World} {G : Lim} : ∀ (R : List (Int × Value)) (L : List Sh), R.length = L.length → (∀ (i : Nat) (r : Int × Value) (s : Sh), R[i]? = some r → L[i]? = some s → r.1 = s.1 ∧ TR w G r.2 (.sl s.2.length (ptT s.2))) → Rel2 w G (shCells R) (shT L)
  | [], [], _, _ => rel_of_nil
  | [], _ :: _, h, _ => by cases h
  | _ :: _, [], h, _ => by cases h
  | r :: R, s :: L, h, hr => by
    obtain ⟨q1, q2⟩ := hr 0 r s rfl rfl
    show Rel2 w G (.int .i64 r.1 :: r.2 :: shCells R) (ti s.1 :: .sl s.2.length (ptT s.2) :: shT L)
    rw [q1]
    exact rel_cons' (.v _ rfl) (rel_cons' q2 (shs_rel R L (by simpa using h) (fun i r s h h' => hr (i + 1) r s (by simpa using h) (by simpa using h'))))
theorem figure_does (l : List Int) (ok : okI l) (hl : l.length ≤ 17592186043904) : DoesN Try.prog 27 [.t (.sl l.length (intsT l))] [] (fun L => GenL L ∧ L.length ≤ 5 ∧ validZ 62 62 L = 0) (fun L => figD 62 62 L) (fun _ => []) :=
  does_calls (pure_t (xs := [.sl l.length (intsT l)])) (fun L _ => fig_pure 62 62 L) fun w G vs hv hd => by
    obtain ⟨u, rfl⟩ := vs_of1 hv
    have h := tr_ints (dr_t (hd 0 u _ rfl rfl)) ok hl
    refine (figure_any u l w h).mono ?_
    rintro e w' ⟨a, c, R, L, he, hB, hG, h5, hval, hA⟩
    refine ⟨_, he, hA, L, ⟨hG, h5, hval⟩, agg3 ?_⟩
    refine owned_tree hB.own (Nat.le_refl _) (shs_len R L hB.sh.lenR) (shs_rel R L hB.sh.lenR fun i r s hr hs => ?_)
    obtain ⟨q1, q2⟩ := hB.sh.el i r s hr hs
    obtain ⟨g, n, c', e1, e2⟩ := hB.from_ r (List.mem_iff_getElem?.2 ⟨i, hr⟩)
    refine ⟨q1, ?_⟩
    rw [e1] at q2 ⊢
    exact prs_tree q2 e2

def cutD (r : List Sht × (Int × Int × List Sh) × Int) : D := .tup [.t (.sl r.1.length (shtT r.1)), figD r.2.1.1 r.2.1.2.1 r.2.1.2.2, I r.2.2]
theorem cutD_pure (r : List Sht × (Int × Int × List Sh) × Int) : Pure (cutD r) := .tup fun d hd => by
  simp at hd
  rcases hd with rfl | rfl | rfl
  · exact .t
  · exact fig_pure _ _ _
  · exact .t
theorem cut_post {e5 : TypeId} {w w' : World} {G : Lim} {r : List Sht × (Int × Int × List Sh) × Int} {e : Ending} (h : CutPost e5 w r e w') : ∃ v, e = .returned v ∧ Aft w w' ∧ DR0 w' (newG w w' G) v (cutD r) := by
  obtain ⟨v, v', b1, b2, he, h1, h2, h3, _, ⟨a, n, c, R, hv', h4, _⟩, hA⟩ := h
  refine ⟨_, he, hA, .tup rfl fun i u d hu hd => ?_⟩
  match i with
  | 0 => simp at hu hd; subst hu hd; exact .t (sx_tree h3 h1)
  | 1 => simp at hu hd; subst hu hd; exact agg3 (by rw [hv']; exact gx_tree h4 h2)
  | 2 => simp at hu hd; subst hu hd; exact .t (.v _ rfl)
  | i + 3 => simp at hu
theorem cut_does (W H wd : Int) (L : List Sh) (hsc : ShSc L) (hkk : ∀ s ∈ L, -9223372036854775808 ≤ s.1 ∧ s.1 ≤ 9223372036854775807) (hl : L.length ≤ 1000) : Does Try.prog 55 [figD W H L, I wd] [] (cutD (cutM W H L wd)) [] :=
  does_calls1 (fun d hd => by simp at hd; rcases hd with rfl | rfl <;> first | exact fig_pure _ _ _ | exact .t) (cutD_pure _) fun w G vs hv hd => by
    obtain ⟨u, v, rfl⟩ := vs_of2 hv
    obtain ⟨q, rfl, hq⟩ := fig_open (hd 0 u _ rfl rfl)
    have e2 := tr_v (dr_t (hd 1 v _ rfl rfl))
    subst e2
    exact (cut_any W H wd q L w (tr_shs hq (fun s hs => ⟨okP_of_sc (hsc s hs).2, (hsc s hs).1⟩) hl) hsc hkk).mono fun e w' h => cut_post h
theorem lives_does : Does Try.prog 22 [] [] (B true) [] :=
  does_calls1 (fun d hd => by simp at hd) .t fun w G vs hv hd => by
    have : vs = #[] := by simpa using hv
    subst this
    exact (lives_any w).mono fun e w' h => ⟨_, h.1, h.2, .t (.v _ rfl)⟩
end Go.Proofs.Ytokdclbfjlnnjaa
