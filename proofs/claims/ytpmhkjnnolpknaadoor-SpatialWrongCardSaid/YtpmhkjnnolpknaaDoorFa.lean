/- The contract of Clone. Conditions are in the theorems. -/
import Derived.Test.YtpmhkjnnolpknaaDoorE7
import Derived.Test.YtpmhkjnnolpknaaDoorF0
import Derived.Shelf.RegionOpenPlain
import Derived.WalkKit
import Derived.Deep.LoopGhost
import Derived.Lib.Walk
import Derived.Lib.SliceRun
/- slices.Clone of a page: nil, or a row of the call's own. -/
namespace Go.Proofs
open Go Go.RowKit Go.Lib
set_option maxRecDepth 100000 in
theorem clone_some (ad : Addr) (n c : Nat) (news : List Value) (w : World) (hl : news.length = n) (hbig : n * 24 ≤ 140737488355328)
    (hc : ∀ j u, news[j]? = some u → w.cell? (ad.add j) = some u) (h1 : ∀ u ∈ news, u.oneCell' = true) :
    Calls Tryd.prog 74 #[.slice (some ad) n c] w fun e w' => ∃ v', e = .returned v' ∧ w'.ownsRow w.heap.size 42 1 v' n news ∧ Below w.heap.size w w' := by
  have q22 : ∀ (w : World) (a : Option Addr) (n c n' c' : Nat), (binOp .eql 37 (.slice a n c) (.slice none n' c')).run Tryd.prog w = .ok (.bool a.isNone) w := fun w a n c n' c' => Lib.run_eql_slice_nil w _ _ a n c n' c' Tryd.underlying37
  obtain ⟨i0, hi, hq⟩ := Option.map_eq_some_iff.1 (show (Tryd.prog.info? 42).map (fun i => (i.zero, i.size, i.bytes)) = some (some (.slice none 0 0), 1, 24) by kernel_rfl)
  simp only [Prod.mk.injEq] at hq
  obtain ⟨hz0, hz1, hz2⟩ := hq
  have A : Aside (∀ j u, news[j]? = some u → w.cell? (ad.add j) = some u) := hc
  clear hc
  go_enter Tryd.func74, Tryd.ntmps74
  go_wp2_with (at_builtin; refine wpList_append_own _ rfl _ _ 37 rfl w.heap.size 42 i0 (.slice none 0 0) 1 24 Tryd.underlying37 hi hz0 hz1 hz2 rfl (by decide) _ _ _ rfl (World.ownsRow_made w #[] 0 (Nat.le_refl _) (Nat.zero_le _) rfl) ad n c news rfl ?qc1 ?qc2 ?qc3 ?qc4 ?qc5 ?qc6 ?_)
  case qc1 => omega
  case qc2 =>
    intro j u hj
    exact Lib.cell?_alloc_some _ (A.out j u hj)
  case qc3 => exact h1
  case qc4 => rw [Nat.zero_add]; unfold maxLen; omega
  case qc5 => rw [Nat.zero_add]; exact hbig
  case qc6 => simp
  intro v' w1 hown hgrow hnil
  go_wp2
  go_ret
  exact ⟨v', rfl, by simpa using hown, ((Below.refl _ w).alloc (Nat.le_refl _) _).grown hgrow (by simp) (by intro k hk; simp [Value.ownBlock] at hk; omega)⟩
theorem clone_nil (n c : Nat) (w : World) :
    Calls Tryd.prog 74 #[.slice none n c] w fun e w' => e = .returned (.slice none 0 0) ∧ w' = w := by
  have q22 : ∀ (w : World) (a : Option Addr) (n c n' c' : Nat), (binOp .eql 37 (.slice a n c) (.slice none n' c')).run Tryd.prog w = .ok (.bool a.isNone) w := fun w a n c n' c' => Lib.run_eql_slice_nil w _ _ a n c n' c' Tryd.underlying37
  go_enter Tryd.func74, Tryd.ntmps74
  go_wp2
  go_ret
  exact ⟨rfl, rfl⟩
end Go.Proofs
/- slices.Clone of a page, as a contract. -/
namespace Go.Proofs
open Go Go.Ax Go.Ab Go.RowKit
theorem TR.aft {w w' : World} {G G' : Lim} {v : Value} {t : Tree} (h : TR w G v t) (hA : Aft w w') (hG : ∀ b, b < w.heap.size → G' b = G b) : TR w' G' v t := h.mono fun _ _ _ hc => hc.aft hA hG
/-- A function that hands in no objects and gives back a row of its own. -/
theorem Does.rowOut {P : Program} {f : FuncId} {d : D} {e : TypeId} {n : Nat} {ts : List Tree}
    (h : ∀ (w : World) (G : Lim) (ν : Nat → Value) (nm : Nat → Bool) (v : Value), DR ν nm w G v d →
      Calls P f #[v] w fun en w' => ∃ v' news, en = .returned v' ∧ w'.ownsRow w.heap.size e 1 v' n news ∧ Aft w w' ∧ news.length = ts.length ∧ ∀ (i : Nat) (u : Value) (t : Tree), news[i]? = some u → ts[i]? = some t → TR w G u t) :
    Does P f [d] [] (.own 100) [(100, .row e 1 n ts true)] := by
  intro E w vs hE0 hm hsz ⟨ν, G, I⟩
  obtain ⟨v, hv, hd⟩ := I.T 0 d rfl
  have hvs : vs = #[v] := by
    have h1 : vs.size = 1 := hsz
    apply Array.ext_getElem?
    intro i
    cases i with
    | zero => rw [hv]; rfl
    | succ i => rw [Array.getElem?_eq_none (by omega)]; simp
  subst hvs
  refine (h w G ν _ v hd).mono ?_
  rintro en w' ⟨v', news, rfl, hown, hA, hnl, hnews⟩
  refine ⟨v', rfl, fun k => if k = 100 then v' else ν k, fun b => if b < w.heap.size then G b else n, ?_⟩
  have hG : ∀ b, b < w.heap.size → (fun b => if b < w.heap.size then G b else n) b = G b := fun b hb => by simp [hb]
  have J := I.aft hA hG
  have hblk : ∀ g, blk v' = some g → w.heap.size ≤ g := fun g hg => by
    rcases hown.2 with ⟨rfl, _⟩ | ⟨g', cap, cur, rfl, h2, _⟩
    · cases hg
    · cases hg; exact h2
  have hE : E.w0.heap.size = w.heap.size := by rw [hE0]
  refine ⟨⟨J.kept.os, J.kept.tape, J.kept.output, J.kept.size, J.kept.block⟩, J.keep, fun k h1 h2 => ?_, J.g0, rfl, fun t d' ht => ?_, fun k o hk => ?_, fun k o k' o' hk hk' hne => ?_⟩
  · show (if k = 100 then v' else ν k) = _
    rw [if_neg (by omega)]
    exact J.pin k h1 h2
  · cases t with
    | zero =>
      cases ht
      refine ⟨v', rfl, ?_⟩
      have : DR (fun k => if k = 100 then v' else ν k) (fun k => decide (k < 108)) w' (fun b => if b < w.heap.size then G b else n) ((fun k => if k = 100 then v' else ν k) 100) (.own 100) := .own rfl (by show (if 100 = 100 then v' else ν 100).oneCell' = true; rw [if_pos rfl]; exact ownsRow_one hown)
      simpa using this
    | succ t => exact absurd (show (none : Option D) = some _ from ht) (by simp)
  · have hk' : Go.Ab.look k [(100, AObj.row e 1 n ts true)] = some o := hk
    by_cases h100 : k = 100
    · subst h100
      have : o = AObj.row e 1 n ts true := by simpa [Go.Ab.look] using hk'.symm
      subst this
      refine ⟨rfl, news, ?_, hnl, fun i u t hu ht => TR.aft (hnews i u t hu ht) hA hG, fun g hg => ?_⟩
      · show w'.ownsRow 0 e 1 (if 100 = 100 then v' else ν 100) n news
        rw [if_pos rfl]
        exact ⟨hown.1, hown.2.imp id fun ⟨g, cap, cur, h1, _, h3⟩ => ⟨g, cap, cur, h1, Nat.zero_le _, h3⟩⟩
      · have hg : blk (if 100 = 100 then v' else ν 100) = some g := hg
        rw [if_pos rfl] at hg
        have := hblk g hg
        refine ⟨.inl (by show E.w0.heap.size ≤ g; omega), ?_⟩
        show (if g < w.heap.size then G g else n) = n * 1
        rw [if_neg (by omega), Nat.mul_one]
    · exfalso
      simp [Go.Ab.look] at hk'
      exact h100 hk'.1.symm
  · exfalso
    have a1 : Go.Ab.look k [(100, AObj.row e 1 n ts true)] = some o := hk
    have a2 : Go.Ab.look k' [(100, AObj.row e 1 n ts true)] = some o' := hk'
    by_cases h1 : k = 100
    · by_cases h2 : k' = 100
      · exact hne (h1.trans h2.symm)
      · simp [Go.Ab.look] at a2
        exact h2 a2.1.symm
    · simp [Go.Ab.look] at a1
      exact h1 a1.1.symm
theorem w74ok (N : Nat) : EOk Tryd.prog 74 (w74e N) := EOk.e1 fun l h => by
  have h : lim (List.length (α := List UInt8) l) 24 = true := h
  have hb := (of_decide_eq_true h).1
  show Does Tryd.prog 74 [.t (.sl (List.length (α := List UInt8) l) (List.flatMap (encs (.sl .u8)) l))] [] (.own 100) [(100, .row 42 1 (List.length (α := List UInt8) l) (List.flatMap (encs (.sl .u8)) l) true)]
  have hlen : (List.flatMap (encs (.sl .u8)) l).length = List.length (α := List UInt8) l := (encs_flat_len (τ := .sl .u8) l).trans (Nat.mul_one _)
  generalize List.flatMap (encs (.sl .u8)) l = ts at *
  generalize List.length (α := List UInt8) l = n at *
  refine Does.rowOut fun w G ν nm v hd => ?_
  cases hd with
  | t hd =>
    cases hd with
    | @nil a c hc =>
      cases a with
      | none =>
        refine (clone_nil 0 c w).mono ?_
        rintro e w' ⟨rfl, rfl⟩
        exact ⟨_, [], rfl, ⟨by simp, .inl ⟨rfl, rfl⟩⟩, Aft.refl _, rfl, fun i u t hu => by cases hu⟩
      | some ad =>
        refine (clone_some ad 0 c [] w rfl (by omega) (fun j u h => by cases h) (fun u h => by cases h)).mono ?_
        rintro e w' ⟨v', rfl, hown, hb⟩
        exact ⟨v', [], rfl, hown, hb, rfl, fun i u t hu => by cases hu⟩
    | sl b o n c us ts hl hc hn hr =>
      refine (clone_some ⟨b, o, none⟩ n c us w (by omega) hb (fun j u hj => ?_) (fun u hu => ?_)).mono ?_
      · have := (hc j u hj).1
        rw [show (⟨b, o, none⟩ : Addr).add j = ⟨b, o + j, none⟩ by unfold Addr.add; by_cases h0 : j = 0 <;> simp [h0]]
        exact this
      · obtain ⟨i, hi⟩ := List.mem_iff_getElem?.1 hu
        obtain ⟨t, ht⟩ : ∃ t, ts[i]? = some t := ⟨_, List.getElem?_eq_getElem (by rw [← hl]; exact (List.getElem?_eq_some_iff.1 hi).1)⟩
        exact (hr i u t hi ht).one
      · rintro e w' ⟨v', rfl, hown, hb⟩
        exact ⟨v', us, rfl, hown, hb, hl, fun i u t hu ht => hr i u t hu ht⟩
end Go.Proofs
