/- Small functions of the statements about the plane: near, dot, rect. -/
import Derived.Test.YtokdclbfjlnnjaaP18
namespace Go.Proofs.Ytokdclbfjlnnjaa
open Go.RowKit Go.BigFrame

set_option maxRecDepth 100000 in
set_option maxHeartbeats 2000000 in
theorem nearIs_any (ka kb n d : Int) (va vb : Value) (la lb : List Pt) (ox oy : Int) (w : World) (hla : Prs w va la) (hlb : Prs w vb lb) (hsa : la.length ≤ 1000) (hsb : lb.length ≤ 1000) (hsca : ScL la) (hscb : ScL lb)
    (hda : ka = 0 → la.length = 1) (hdb : kb = 0 → lb.length = 1) (hna : ∀ j, Near1 ox oy (ptZ la j)) (hnb : ∀ j, Near1 ox oy (ptZ lb j)) :
    Calls Try.prog 29 #[.agg #[.int .i64 ka, va], .agg #[.int .i64 kb, vb], .int .i64 n, .int .i64 d] w fun e w' => e = .returned (.bool (decide ((nearZ ka la kb lb).1 = n) && decide ((nearZ ka la kb lb).2 = d))) ∧ Aft w w' := by
  have hPa := hla
  have hPb := hlb
  obtain ⟨aa, ca, rfl, hla⟩ := hla
  obtain ⟨ab, cb, rfl, hlb⟩ := hlb
  obtain ⟨W0, eW0, hw0, hlt, hbox⟩ := two_boxes w #[.int .i64 ka, .slice aa la.length ca] #[.int .i64 kb, .slice ab lb.length cb] 51 51
  go_enter Try.func29, Try.ntmps29
  go_upto_region 1 with fail
  clear eW0
  have p1 := (hbox.out W0 (Aft.refl _)).1 0 (.int .i64 ka) rfl
  have p2 := (hbox.out W0 (Aft.refl _)).1 1 (.slice aa la.length ca) rfl
  have p3 := (hbox.out W0 (Aft.refl _)).2 0 (.int .i64 kb) rfl
  have p4 := (hbox.out W0 (Aft.refl _)).2 1 (.slice ab lb.length cb) rfl
  clear hbox
  generalize hn0 : w.heap.size = n0 at *
  go_wp2_with fail
  refine (near_any ka kb _ _ la lb ox oy W0 (hPa.aft hw0) (hPb.aft hw0) hsa hsb hsca hscb hda hdb hna hnb).mono ?_
  rintro e W1 ⟨rfl, hw1⟩
  have hw := hw0.trans hw1
  obtain ⟨⟨x, y⟩, hxy⟩ : ∃ s, nearZ ka la kb lb = s := ⟨_, rfl⟩
  rw [hxy]
  have HX := hid hxy; clear hxy
  simp only
  by_cases h1 : x = n
  · have HQ := hid (show (decide ((nearZ ka la kb lb).1 = n) && decide ((nearZ ka la kb lb).2 = d)) = decide (y = d) by rw [HX.out]; simp [h1])
    have h1' : (x == n) = true := by simpa using h1
    clear h1
    go_wp2
    go_ret
    exact ⟨by rw [HQ.out]; rfl, hw⟩
  · have HQ := hid (show (decide ((nearZ ka la kb lb).1 = n) && decide ((nearZ ka la kb lb).2 = d)) = false by rw [HX.out]; simp [h1])
    have h1' : (x == n) = false := by simpa using h1
    clear h1
    go_wp2
    go_ret
    exact ⟨by rw [HQ.out]; rfl, hw⟩

theorem results_shape {fn : Func} {p : Tmp} (h : fn.results = #[.cell p 51]) (tmps : Array Value) (w : World) (b : Nat) (k : Int) (vp : Value) (hp : tmps.getD p undef = .pointer (some ⟨b, 0, none⟩)) (hc : w.cell? ⟨b, 0, none⟩ = some (.int .i64 k)) (hc' : w.cell? ⟨b, 1, none⟩ = some vp) :
    (results fn tmps).run Try.prog w = .ok (.agg #[.int .i64 k, vp]) w := by
  have hp' : tmps[p]?.getD undef = .pointer (some ⟨b, 0, none⟩) := by simpa using hp
  simp only [Go.results, h]
  simp [hp', asAddr, go_sem, hc, hc']

theorem shape_new (w : World) (k : Int) (cs : Array Value) (l : List Pt) (hcs : cs.toList = prs l) (ok : okP l) (hs : l.length ≤ 1000) (u : Value) :
    let W' := (w.alloc (.cells #[.int .i64 k, u] 51)).alloc (.cells cs 57)
    W'.cell? ⟨w.heap.size, 0, none⟩ = some (.int .i64 k) ∧ W'.cell? ⟨w.heap.size, 1, none⟩ = some u ∧ Prs W' (.slice (some ⟨w.heap.size + 1, 0, none⟩) l.length l.length) l ∧ Aft w W' := by
  have h := box_cells w #[.int .i64 k, u] cs 51 57 _ (Aft.refl _)
  have hr := Rd.new (w := w.alloc (.cells #[.int .i64 k, u] 51)) (cs := cs) (e := 57)
  rw [World.size_alloc, hcs] at hr
  exact ⟨h.1 0 _ rfl, h.1 1 _ rfl, ⟨_, _, rfl, rfl, hr, ok, Nat.le_refl _, (fun h => by cases h), by omega⟩, ((Aft.refl w).alloc _).alloc _⟩

set_option maxRecDepth 100000 in
set_option maxHeartbeats 2000000 in
theorem dot_any (x y : Int) (w : World) (hx : Sc x) (hy : Sc y) :
    Calls Try.prog 82 #[.int .i64 x, .int .i64 y] w fun e w' => ∃ vp, e = .returned (.agg #[.int .i64 0, vp]) ∧ Prs w' vp [(x, y)] ∧ Aft w w' := by
  have hn := shape_new w 0 #[.int .i64 x, .int .i64 y] [(x, y)] rfl (by unfold Sc at *; intro p hp; simp at hp; subst hp; exact ⟨by simp; omega, by simp; omega⟩) (by simp) (.slice (some ⟨w.heap.size + 1, 0, none⟩) 1 1)
  have HN := hid hn
  clear hn
  go_enter Try.func82, Try.ntmps82
  go_wp2
  obtain ⟨h1, h2, h3, h4⟩ := HN.out
  refine bodyPost_ret (results_shape rfl _ _ w.heap.size 0 _ rfl h1 h2) rfl ?_
  exact ⟨_, rfl, h3, h4⟩

def rectL (x y wd h : Int) : List Pt := [(x, y), (x + wd, y), (x + wd, y + h), (x, y + h)]
set_option maxRecDepth 100000 in
set_option maxHeartbeats 2000000 in
theorem rect_any (x y wd h : Int) (w : World) (hx : 0 ≤ x ∧ x ≤ 1000) (hy : 0 ≤ y ∧ y ≤ 1000) (hw : 0 ≤ wd ∧ wd ≤ 1000) (hh : 0 ≤ h ∧ h ≤ 1000) :
    Calls Try.prog 113 #[.int .i64 x, .int .i64 y, .int .i64 wd, .int .i64 h] w fun e w' => ∃ vp, e = .returned (.agg #[.int .i64 2, vp]) ∧ Prs w' vp (rectL x y wd h) ∧ Aft w w' := by
  have hn := shape_new w 2 #[.int .i64 x, .int .i64 y, .int .i64 (x + wd), .int .i64 y, .int .i64 (x + wd), .int .i64 (y + h), .int .i64 x, .int .i64 (y + h)] (rectL x y wd h) rfl
    (by intro p hp; simp [rectL] at hp; rcases hp with rfl | rfl | rfl | rfl <;> (refine ⟨?_, ?_⟩ <;> simp <;> omega)) (by simp [rectL]) (.slice (some ⟨w.heap.size + 1, 0, none⟩) 4 4)
  have HN := hid hn
  clear hn
  go_enter Try.func113, Try.ntmps113
  go_wp2
  obtain ⟨h1, h2, h3, h4⟩ := HN.out
  refine bodyPost_ret (results_shape rfl _ _ w.heap.size 2 _ rfl h1 h2) rfl ?_
  exact ⟨_, rfl, h3, h4⟩
end Go.Proofs.Ytokdclbfjlnnjaa
