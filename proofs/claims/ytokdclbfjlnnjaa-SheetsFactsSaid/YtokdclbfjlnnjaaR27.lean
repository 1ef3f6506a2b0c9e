/- Moved to the side: the sheets' own, and the reference's. -/
import Derived.Test.YtokdclbfjlnnjaaR10
namespace Go.Proofs.Ytokdclbfjlnnjaa
open Go.RowKit Go.BigFrame

def trW (dx : Int) (p : Pt) : Pt := (wrap64 (p.1 + dx), p.2)
def mvL (dx : Int) (l : List Pt) : List Pt := l.map (trW dx)
theorem mvL_range (dx : Int) (l : List Pt) : (List.range l.length).map (fun i => trW dx (ptZ l i)) = mvL dx l := by
  refine List.ext_getElem (by simp [mvL]) (fun i h1 h2 => ?_)
  simp at h1
  simp only [List.getElem_map, List.getElem_range, mvL]
  rw [ptZ_get (List.getElem?_eq_getElem h1)]

set_option maxRecDepth 100000 in
set_option maxHeartbeats 8000000 in
theorem mov_any (k dx : Int) (vp : Value) (l : List Pt) (w : World) (hl : Prs w vp l) (hsm : l.length ≤ 1000) :
    Calls Try.prog 103 #[.agg #[.int .i64 k, vp], .int .i64 dx] w fun e w' => ∃ v, e = .returned (.agg #[.int .i64 k, v]) ∧ w'.ownsRow w.heap.size 57 2 v l.length (prs (mvL dx l)) ∧ Aft w w' := by
  obtain ⟨a, c, rfl, hl⟩ := hl
  go_enter Try.func103, Try.ntmps103
  go_upto_region 1 with fail
  obtain ⟨W0, eW0, hw0, hlt0, hbox0⟩ := two_boxes w #[.int .i64 k, .slice a l.length c] #[.int .i64 0, .slice none 0 0] 51 51
  have hf6 : W0.frozen? ⟨w.heap.size + 1, 0, none⟩ = false ∧ W0.frozen? ⟨w.heap.size + 1, 1, none⟩ = false := by
    rw [← eW0]
    exact ⟨by simp, by simp⟩
  rw [eW0]
  clear eW0
  have hF : Hid (∀ W, Aft W0 W → (W.cell? ⟨w.heap.size, 0, none⟩ = some (.int .i64 k) ∧ W.cell? ⟨w.heap.size, 1, none⟩ = some (.slice a l.length c)) ∧ W.cell? ⟨w.heap.size + 1, 0, none⟩ = some (.int .i64 0) ∧ W.cell? ⟨w.heap.size + 1, 1, none⟩ = some (.slice none 0 0)) := hid fun W hW =>
    ⟨⟨(hbox0.out W hW).1 0 _ rfl, (hbox0.out W hW).1 1 _ rfl⟩, (hbox0.out W hW).2 0 _ rfl, (hbox0.out W hW).2 1 _ rfl⟩
  clear hbox0
  obtain ⟨n6, hn6⟩ : ∃ n, w.heap.size + 1 = n := ⟨_, rfl⟩
  rw [hn6] at hF hf6 hlt0 ⊢
  have hn6w : w.heap.size ≤ n6 := by omega
  obtain ⟨n3, hn3⟩ : ∃ n, w.heap.size = n := ⟨_, rfl⟩
  rw [hn3] at hF ⊢
  clear hn6
  obtain ⟨⟨p1, p2⟩, -, -⟩ := hF.out W0 (Aft.refl _)
  go_upto_region 2 with fail
  obtain ⟨W1, eW1, hw1, hlt1, hbox1⟩ := one_box W0 #[.int .i64 k, .slice none 0 0] 51
  have f9 : W1.frozen? ⟨W0.heap.size, 1, none⟩ = false := eW1 ▸ frozen_new W0 _ _ 1
  rw [eW1]
  clear eW1 p1 p2
  have e9 := hbox1.out W1 (Aft.refl _) 0 (.int .i64 k) rfl
  have c9 := hbox1.out W1 (Aft.refl _) 1 (.slice none 0 0) rfl
  clear hbox1
  obtain ⟨n7, hn7⟩ : ∃ n, W0.heap.size = n := ⟨_, rfl⟩
  rw [hn7] at f9 e9 c9 hlt1 hlt0 ⊢
  obtain ⟨⟨p1, p2⟩, -, -⟩ := hF.out W1 hw1
  have hnil : W1.ownsRow (n7 + 1) 57 2 (.slice none 0 0) 0 (prs ((List.range 0).map (fun i => trW dx (ptZ l i)))) := World.ownsRow_nil _ _ _ _
  have E9 := hid e9
  have C9 := hid c9
  have F9 := hid f9
  clear e9 c9 f9
  go_wp2
  go_loopw [14] (fun i wr => ∃ r : Nat, r ≤ l.length ∧ i = .int .i64 r ∧ ∃ v, wr.cell? ⟨n7, 0, none⟩ = some (.int .i64 k) ∧ wr.cell? ⟨n7, 1, none⟩ = some v ∧ wr.frozen? ⟨n7, 1, none⟩ = false ∧ wr.ownsRow (n7 + 1) 57 2 v r (prs ((List.range r).map (fun i => trW dx (ptZ l i)))) ∧ Aft W0 wr) (fun i _ => l.length - (intOf i).toNat)
  case atStart => exact ⟨0, by omega, rfl, _, E9.out, C9.out, F9.out, hnil, hw1⟩
  case round =>
    clear E9 C9 F9 hnil
    obtain ⟨r, hr, rfl, v, e9, c9, f9, hown, hwr⟩ := hrel
    have hg9 : n7 < wr.heap.size := World.block_lt_of_cell? _ _ c9
    obtain ⟨⟨p1, p2⟩, p3, p4⟩ := hF.out wr hwr
    rcases Nat.lt_or_ge r l.length with hltr | hger
    · have hri : (r : Int) < l.length := by omega
      have hlr := hl.aft (hw0.trans hwr)
      obtain ⟨b, off, x, y, rfl, c1, c2, hb, hx, _⟩ := hlr.rd.pair hlr.ok hltr
      have HSN := hid (show prs ((List.range (r + 1)).map (fun i => trW dx (ptZ l i))) = prs ((List.range r).map (fun i => trW dx (ptZ l i))) ++ prs [(wrap64 (x + dx), y)] by
        rw [List.range_succ, List.map_append, prs_append]
        simp only [List.map_cons, List.map_nil, ptZ_get hx.out, trW])
      clear p1 p3 p4
      go_upto_region 5 with fail
      obtain ⟨W3, eW3, hw3, hlt3, hbox3⟩ := one_box wr #[.int .i64 x, .int .i64 y] 57
      rw [eW3]
      clear eW3 c1 c2 p2
      have q1 := hbox3.out W3 (Aft.refl _) 0 _ rfl
      have q2 := hbox3.out W3 (Aft.refl _) 1 _ rfl
      clear hbox3
      obtain ⟨n9, hn9⟩ : ∃ n, wr.heap.size = n := ⟨_, rfl⟩
      rw [hn9] at q1 q2 hlt3 ⊢
      have hown3 := ownsRow_aft hown hw3
      have h93 : n7 < W3.heap.size := by have := hw3.size; omega
      have e93 := (hw3.cell hg9).trans e9
      have c93 := (hw3.cell hg9).trans c9
      have f93 := (hw3.frozen hg9).trans f9
      have hw03 := hwr.trans hw3
      clear e9 c9 f9
      have hz3 : (W3.alloc (.cells #[.int .i64 (wrap64 (x + dx)), .int .i64 y] 57)).heap.size = W3.heap.size + 1 := by simp
      go_wp2_with (at_builtin; refine wpList_app (W3.alloc (.cells #[.int .i64 (wrap64 (x + dx)), .int .i64 y] 57)) rfl (.tmp 19) (.tmp 27) 49 rfl (n7 + 1) 57 (.agg #[.int .i64 0, .int .i64 0]) 2 16 Try.underlying49 Try.info57 rfl (by decide) _ r _ rfl (ownsRow_aft hown3 ((Aft.refl W3).alloc _)) (some ⟨W3.heap.size, 0, none⟩) 1 1 (prs [(wrap64 (x + dx), y)]) rfl (fun h => by cases h) rfl Rd.new (prs_one _) (by unfold maxLen; omega) (by omega) (by omega) ?_; intro v' w' hown' hgrow hloc; rw [← HSN.out] at hown'; obtain ⟨g', cap', rfl⟩ := ownsRow_some' hown' (by omega); obtain ⟨⟨c9W, f9W⟩, HK⟩ := box_row (by omega) (hw03.alloc _) (ownsRow_aft hown3 ((Aft.refl W3).alloc _)) hgrow ((((Aft.refl W3).alloc _).cell h93).trans e93) ((((Aft.refl W3).alloc _).cell h93).trans c93) ((((Aft.refl W3).alloc _).frozen h93).trans f93) hown')
      go_roundw
      case rel => exact ⟨r + 1, by omega, by go_num, _, HK.out⟩
      case measure => simp only [intOf]; omega
    · obtain rfl : r = l.length := by omega
      obtain ⟨a', c', rfl, -⟩ := ownsRow_at hown
      have hf6r : wr.frozen? ⟨n6, 0, none⟩ = false ∧ wr.frozen? ⟨n6, 1, none⟩ = false := ⟨(hwr.frozen (by omega)).trans hf6.1, (hwr.frozen (by omega)).trans hf6.2⟩
      obtain ⟨r1, r2⟩ := hf6r
      have HP := store2b (hw0.trans hwr) (by rw [hn3] at hn6w ⊢; exact hn6w) (show n6 < n7 + 1 by omega) hown p3 p4 (.int .i64 k) (.slice a' l.length c')
      have HL := hid (mvL_range dx l)
      clear p1 hown
      go_wp2
      obtain ⟨h1, h2, h3, h4⟩ := HP.out
      refine bodyPost_ret (results_shape rfl _ _ n6 k _ rfl h1 h2) rfl ?_
      rw [HL.out] at h3
      exact ⟨_, rfl, ownsRow_mono h3 (by omega), h4⟩
end Go.Proofs.Ytokdclbfjlnnjaa
