/- Rows of sheets; plain, and same of equal ones. -/
import Derived.Test.YtokdclbfjlnnjaaR30
namespace Go.Proofs.Ytokdclbfjlnnjaa
open Go.RowKit Go.BigFrame

/-- A sheet: where it begins, its figure's width, height and shapes, and whose they are. -/
structure Sht where
  x : Int
  wd : Int
  ht : Int
  sh : List Sh
  of_ : List Int
/-- A sheet's five cells. -/
def ShtAt (w : World) (b off i : Nat) (s : Sht) (av : Option Addr) (cv : Nat) (ao : Option Addr) (co : Nat) : Prop :=
  w.cell? ⟨b, off + i * 5, none⟩ = some (.int .i64 s.x) ∧ w.cell? ⟨b, off + i * 5 + 1, none⟩ = some (.int .i64 s.wd) ∧ w.cell? ⟨b, off + i * 5 + 2, none⟩ = some (.int .i64 s.ht) ∧ w.cell? ⟨b, off + i * 5 + 3, none⟩ = some (.slice av s.sh.length cv) ∧
    w.cell? ⟨b, off + i * 5 + 4, none⟩ = some (.slice ao s.of_.length co) ∧ Shs w (.slice av s.sh.length cv) s.sh ∧ Ints w (.slice ao s.of_.length co) s.of_
def Shts (w : World) (v : Value) (l : List Sht) : Prop := ∃ a c, v = .slice a l.length c ∧ l.length ≤ 1000 ∧ (a = none → c = 0) ∧ ∀ i s, l[i]? = some s → ∃ b off av cv ao co, a = some ⟨b, off, none⟩ ∧ ShtAt w b off i s av cv ao co
theorem ShtAt.aft {w w' : World} {b off i : Nat} {s : Sht} {av : Option Addr} {cv : Nat} {ao : Option Addr} {co : Nat} (h : ShtAt w b off i s av cv ao co) (hw : Aft w w') : ShtAt w' b off i s av cv ao co := by
  obtain ⟨h0, h1, h2, h3, h4, h5, h6⟩ := h
  have tr : ∀ {b o : Nat} {v : Value}, w.cell? ⟨b, o, none⟩ = some v → w'.cell? ⟨b, o, none⟩ = some v := fun h => (hw.cell (World.block_lt_of_cell? _ _ h)).trans h
  exact ⟨tr h0, tr h1, tr h2, tr h3, tr h4, h5.aft hw, h6.aft hw⟩
theorem Shts.aft {w w' : World} {v : Value} {l : List Sht} (h : Shts w v l) (hw : Aft w w') : Shts w' v l := by
  obtain ⟨a, c, e, hl, hn, h⟩ := h
  refine ⟨a, c, e, hl, hn, fun i s hs => ?_⟩
  obtain ⟨b, off, av, cv, ao, co, e, h⟩ := h i s hs
  exact ⟨b, off, av, cv, ao, co, e, h.aft hw⟩
theorem Shts.nil (w : World) : Shts w (.slice none 0 0) [] := ⟨none, 0, rfl, by simp, fun _ => rfl, fun i s h => by simp at h⟩

set_option maxRecDepth 100000 in
set_option maxHeartbeats 8000000 in
theorem samesh_any (v v' : Value) (l : List Sht) (w : World) (hv : Shts w v l) (hv' : Shts w v' l) :
    Calls Try.prog 57 #[v, v'] w fun e w' => e = .returned (.bool true) ∧ Aft w w' := by
  have hv0 := hid hv
  have hv0' := hid hv'
  obtain ⟨av, cv, rfl, hle, -, -⟩ := hv
  obtain ⟨av', cv', rfl, -, -, -⟩ := hv'
  go_enter Try.func57, Try.ntmps57
  go_wp2
  go_loopw [5] (fun i wr => ∃ r : Nat, r ≤ l.length ∧ i = .int .i64 r ∧ Aft w wr) (fun i _ => l.length - (intOf i).toNat)
  case atStart => exact ⟨0, by omega, rfl, Aft.refl _⟩
  case round =>
    obtain ⟨r, hr, rfl, hwr⟩ := hrel
    rcases Nat.lt_or_ge r l.length with hltr | hger
    · have hri : (r : Int) < l.length := by omega
      have hs : l[r]? = some l[r] := List.getElem?_eq_getElem hltr
      obtain ⟨s, hse⟩ : ∃ s, l[r] = s := ⟨_, rfl⟩
      rw [hse] at hs
      obtain ⟨a1, c1, e1, -, -, hat⟩ := hv0.out.aft hwr
      simp only [Value.slice.injEq, true_and] at e1
      obtain ⟨rfl, rfl⟩ := e1
      obtain ⟨a2, c2, e2, -, -, hat2⟩ := hv0'.out.aft hwr
      simp only [Value.slice.injEq, true_and] at e2
      obtain ⟨rfl, rfl⟩ := e2
      obtain ⟨b1, o1, aS, cs, ao, co, rfl, p0, p1, p2, p3, p4, HA, IA⟩ := hat r s hs
      obtain ⟨b2, o2, bs, ds, bo, do_, rfl, q0, q1, q2, q3, q4, HB, IB⟩ := hat2 r s hs
      obtain ⟨sx, sw, sht, ssh, sof⟩ := s
      simp only at p0 p1 p2 p3 p4 q0 q1 q2 q3 q4 HA HB IA IB
      have HA := hid HA
      have HB := hid HB
      have IA := hid IA
      have IB := hid IB
      clear hat hat2 hs hse
      go_upto_region 6 with fail
      refine wp_region_flow _ (Aft.refl _) [FV.is (.slice (some ⟨b1, o1, none⟩) l.length cv), FV.is (.int .i64 r), FV.is (.pointer (some ⟨b1, o1 + r * 5, none⟩)), FV.is (.pointer (some ⟨b1, o1 + r * 5, none⟩)), FV.is (.int .i64 sx), FV.is (.slice (some ⟨b2, o2, none⟩) l.length cv'), FV.is (.int .i64 r), FV.is (.pointer (some ⟨b2, o2 + r * 5, none⟩)), FV.is (.pointer (some ⟨b2, o2 + r * 5, none⟩)), FV.is (.int .i64 sx), FV.is (.bool false), FV.is (.bool false), FV.is (.slice (some ⟨b1, o1, none⟩) l.length cv), FV.is (.int .i64 r), FV.is (.pointer (some ⟨b1, o1 + r * 5, none⟩)), FV.is (.pointer (some ⟨b1, o1 + r * 5 + 4, none⟩)), FV.is (.slice ao sof.length co), FV.is (.slice (some ⟨b2, o2, none⟩) l.length cv'), FV.is (.int .i64 r), FV.is (.pointer (some ⟨b2, o2 + r * 5, none⟩)), FV.is (.pointer (some ⟨b2, o2 + r * 5 + 4, none⟩)), FV.is (.slice bo sof.length do_), FV.is (.bool true), FV.is (.bool false), FV.is (.bool false), FV.is (.bool false), FV.is (.slice (some ⟨b1, o1, none⟩) l.length cv), FV.is (.int .i64 r), FV.is (.pointer (some ⟨b1, o1 + r * 5, none⟩)), FV.is (.pointer (some ⟨b1, o1 + r * 5 + 1, none⟩)), FV.is (.agg #[.int .i64 sw, .int .i64 sht, .slice aS ssh.length cs]), FV.is (.slice (some ⟨b2, o2, none⟩) l.length cv'), FV.is (.int .i64 r), FV.is (.pointer (some ⟨b2, o2 + r * 5, none⟩)), FV.is (.pointer (some ⟨b2, o2 + r * 5 + 1, none⟩)), FV.is (.agg #[.int .i64 sw, .int .i64 sht, .slice bs ssh.length ds]), FV.is (.bool true), FV.is (.bool false), FV.is (.bool false)]
        [(0, 17), (1, 18), (2, 19), (3, 20), (4, 21), (5, 22), (6, 23), (7, 24), (8, 25), (9, 26), (10, 27), (11, 28), (12, 29), (13, 30), (14, 31), (15, 32), (16, 33), (17, 34), (18, 35), (19, 36), (20, 37), (21, 38), (22, 39), (23, 40), (24, 41), (25, 42), (26, 43), (27, 44), (28, 45), (29, 46), (30, 47), (31, 48), (32, 49), (33, 50), (34, 51), (35, 52), (36, 53), (37, 54), (38, 55)]
        [[], [], [(0, 17), (1, 18)], [(2, 19)], [(3, 20)], [], [], [(5, 22), (6, 23)], [(7, 24)], [(8, 25)], [(4, 21), (9, 26)], [(10, 27)], [(11, 28)], [(11, 28)], [(12, 29), (13, 30), (11, 28)], [(14, 31), (11, 28)], [(15, 32), (11, 28)], [(11, 28)], [(11, 28)], [(17, 34), (18, 35), (11, 28)], [(19, 36), (11, 28)], [(20, 37), (11, 28)], [(16, 33), (21, 38), (11, 28)], [(22, 39), (11, 28)], [(11, 28), (23, 40)], [(24, 41)], [(25, 42)], [(25, 42)], [(26, 43), (27, 44), (25, 42)], [(28, 45), (25, 42)], [(29, 46), (25, 42)], [(25, 42)], [(25, 42)], [(31, 48), (32, 49), (25, 42)], [(33, 50), (25, 42)], [(34, 51), (25, 42)], [(30, 47), (35, 52), (25, 42)], [(36, 53), (25, 42)], [(25, 42), (37, 54)]] (by kernel_rfl) (by kernel_rfl) ?_ ?_
      · refine flowObs_cons (fun W hW => flowOb_nil ?_) ?_
        · go_wp2
          exact ⟨rfl, Aft.refl W⟩
        refine flowObs_cons (fun W hW => flowOb_nil ?_) ?_
        · go_wp2
          exact ⟨rfl, Aft.refl W⟩
        refine flowObs_cons (fun W hW => flowOb_cons fun v0 h0 => flowOb_cons fun v1 h1 => flowOb_nil ?_) ?_
        · obtain rfl := h0
          obtain rfl := h1
          go_wp2
          exact ⟨rfl, Aft.refl W⟩
        refine flowObs_cons (fun W hW => flowOb_cons fun v0 h0 => flowOb_nil ?_) ?_
        · obtain rfl := h0
          go_wp2
          exact ⟨rfl, Aft.refl W⟩
        refine flowObs_cons (fun W hW => flowOb_cons fun v0 h0 => flowOb_nil ?_) ?_
        · obtain rfl := h0
          have p0W := (hW.cell (World.block_lt_of_cell? _ _ p0)).trans p0
          have p1W := (hW.cell (World.block_lt_of_cell? _ _ p1)).trans p1
          have p2W := (hW.cell (World.block_lt_of_cell? _ _ p2)).trans p2
          have p3W := (hW.cell (World.block_lt_of_cell? _ _ p3)).trans p3
          have p4W := (hW.cell (World.block_lt_of_cell? _ _ p4)).trans p4
          have q0W := (hW.cell (World.block_lt_of_cell? _ _ q0)).trans q0
          have q1W := (hW.cell (World.block_lt_of_cell? _ _ q1)).trans q1
          have q2W := (hW.cell (World.block_lt_of_cell? _ _ q2)).trans q2
          have q3W := (hW.cell (World.block_lt_of_cell? _ _ q3)).trans q3
          have q4W := (hW.cell (World.block_lt_of_cell? _ _ q4)).trans q4
          go_wp2
          exact ⟨rfl, Aft.refl W⟩
        refine flowObs_cons (fun W hW => flowOb_nil ?_) ?_
        · go_wp2
          exact ⟨rfl, Aft.refl W⟩
        refine flowObs_cons (fun W hW => flowOb_nil ?_) ?_
        · go_wp2
          exact ⟨rfl, Aft.refl W⟩
        refine flowObs_cons (fun W hW => flowOb_cons fun v0 h0 => flowOb_cons fun v1 h1 => flowOb_nil ?_) ?_
        · obtain rfl := h0
          obtain rfl := h1
          go_wp2
          exact ⟨rfl, Aft.refl W⟩
        refine flowObs_cons (fun W hW => flowOb_cons fun v0 h0 => flowOb_nil ?_) ?_
        · obtain rfl := h0
          go_wp2
          exact ⟨rfl, Aft.refl W⟩
        refine flowObs_cons (fun W hW => flowOb_cons fun v0 h0 => flowOb_nil ?_) ?_
        · obtain rfl := h0
          have p0W := (hW.cell (World.block_lt_of_cell? _ _ p0)).trans p0
          have p1W := (hW.cell (World.block_lt_of_cell? _ _ p1)).trans p1
          have p2W := (hW.cell (World.block_lt_of_cell? _ _ p2)).trans p2
          have p3W := (hW.cell (World.block_lt_of_cell? _ _ p3)).trans p3
          have p4W := (hW.cell (World.block_lt_of_cell? _ _ p4)).trans p4
          have q0W := (hW.cell (World.block_lt_of_cell? _ _ q0)).trans q0
          have q1W := (hW.cell (World.block_lt_of_cell? _ _ q1)).trans q1
          have q2W := (hW.cell (World.block_lt_of_cell? _ _ q2)).trans q2
          have q3W := (hW.cell (World.block_lt_of_cell? _ _ q3)).trans q3
          have q4W := (hW.cell (World.block_lt_of_cell? _ _ q4)).trans q4
          go_wp2
          exact ⟨rfl, Aft.refl W⟩
        refine flowObs_cons (fun W hW => flowOb_cons fun v0 h0 => flowOb_cons fun v1 h1 => flowOb_nil ?_) ?_
        · obtain rfl := h0
          obtain rfl := h1
          go_wp2
          exact ⟨rfl, Aft.refl W⟩
        refine flowObs_cons (fun W hW => flowOb_cons fun v0 h0 => flowOb_nil ?_) ?_
        · obtain rfl := h0
          go_wp2
          exact ⟨rfl, Aft.refl W⟩
        refine flowObs_cons (fun W hW => flowOb_cons fun v0 h0 => flowOb_nil ?_) ?_
        · obtain rfl := h0
          go_wp2
          exact ⟨rfl, Aft.refl W⟩
        refine flowObs_cons (fun W hW => flowOb_cons fun v0 h0 => flowOb_nil ?_) ?_
        · obtain rfl := h0
          go_wp2
          exact ⟨rfl, Aft.refl W⟩
        refine flowObs_cons (fun W hW => flowOb_cons fun v0 h0 => flowOb_cons fun v1 h1 => flowOb_cons fun v2 h2 => flowOb_nil ?_) ?_
        · obtain rfl := h0
          obtain rfl := h1
          obtain rfl := h2
          go_wp2
          exact ⟨rfl, Aft.refl W⟩
        refine flowObs_cons (fun W hW => flowOb_cons fun v0 h0 => flowOb_cons fun v1 h1 => flowOb_nil ?_) ?_
        · obtain rfl := h0
          obtain rfl := h1
          go_wp2
          exact ⟨rfl, Aft.refl W⟩
        refine flowObs_cons (fun W hW => flowOb_cons fun v0 h0 => flowOb_cons fun v1 h1 => flowOb_nil ?_) ?_
        · obtain rfl := h0
          obtain rfl := h1
          have p0W := (hW.cell (World.block_lt_of_cell? _ _ p0)).trans p0
          have p1W := (hW.cell (World.block_lt_of_cell? _ _ p1)).trans p1
          have p2W := (hW.cell (World.block_lt_of_cell? _ _ p2)).trans p2
          have p3W := (hW.cell (World.block_lt_of_cell? _ _ p3)).trans p3
          have p4W := (hW.cell (World.block_lt_of_cell? _ _ p4)).trans p4
          have q0W := (hW.cell (World.block_lt_of_cell? _ _ q0)).trans q0
          have q1W := (hW.cell (World.block_lt_of_cell? _ _ q1)).trans q1
          have q2W := (hW.cell (World.block_lt_of_cell? _ _ q2)).trans q2
          have q3W := (hW.cell (World.block_lt_of_cell? _ _ q3)).trans q3
          have q4W := (hW.cell (World.block_lt_of_cell? _ _ q4)).trans q4
          go_wp2
          exact ⟨rfl, Aft.refl W⟩
        refine flowObs_cons (fun W hW => flowOb_cons fun v0 h0 => flowOb_nil ?_) ?_
        · obtain rfl := h0
          go_wp2
          exact ⟨rfl, Aft.refl W⟩
        refine flowObs_cons (fun W hW => flowOb_cons fun v0 h0 => flowOb_nil ?_) ?_
        · obtain rfl := h0
          go_wp2
          exact ⟨rfl, Aft.refl W⟩
        refine flowObs_cons (fun W hW => flowOb_cons fun v0 h0 => flowOb_cons fun v1 h1 => flowOb_cons fun v2 h2 => flowOb_nil ?_) ?_
        · obtain rfl := h0
          obtain rfl := h1
          obtain rfl := h2
          go_wp2
          exact ⟨rfl, Aft.refl W⟩
        refine flowObs_cons (fun W hW => flowOb_cons fun v0 h0 => flowOb_cons fun v1 h1 => flowOb_nil ?_) ?_
        · obtain rfl := h0
          obtain rfl := h1
          go_wp2
          exact ⟨rfl, Aft.refl W⟩
        refine flowObs_cons (fun W hW => flowOb_cons fun v0 h0 => flowOb_cons fun v1 h1 => flowOb_nil ?_) ?_
        · obtain rfl := h0
          obtain rfl := h1
          have p0W := (hW.cell (World.block_lt_of_cell? _ _ p0)).trans p0
          have p1W := (hW.cell (World.block_lt_of_cell? _ _ p1)).trans p1
          have p2W := (hW.cell (World.block_lt_of_cell? _ _ p2)).trans p2
          have p3W := (hW.cell (World.block_lt_of_cell? _ _ p3)).trans p3
          have p4W := (hW.cell (World.block_lt_of_cell? _ _ p4)).trans p4
          have q0W := (hW.cell (World.block_lt_of_cell? _ _ q0)).trans q0
          have q1W := (hW.cell (World.block_lt_of_cell? _ _ q1)).trans q1
          have q2W := (hW.cell (World.block_lt_of_cell? _ _ q2)).trans q2
          have q3W := (hW.cell (World.block_lt_of_cell? _ _ q3)).trans q3
          have q4W := (hW.cell (World.block_lt_of_cell? _ _ q4)).trans q4
          go_wp2
          exact ⟨rfl, Aft.refl W⟩
        refine flowObs_cons (fun W hW => flowOb_cons fun v0 h0 => flowOb_cons fun v1 h1 => flowOb_cons fun v2 h2 => flowOb_nil ?_) ?_
        · obtain rfl := h0
          obtain rfl := h1
          obtain rfl := h2
          go_wp2_with fail
          refine (same_any _ _ sof sof W (IA.out.aft hW) (IB.out.aft hW)).mono ?_
          rintro e W' ⟨rfl, hw'⟩
          go_wp2
          exact beq_self_eq_true sof ▸ rfl
        refine flowObs_cons (fun W hW => flowOb_cons fun v0 h0 => flowOb_cons fun v1 h1 => flowOb_nil ?_) ?_
        · obtain rfl := h0
          obtain rfl := h1
          go_wp2
          exact ⟨rfl, Aft.refl W⟩
        refine flowObs_cons (fun W hW => flowOb_cons fun v0 h0 => flowOb_cons fun v1 h1 => flowOb_nil ?_) ?_
        · obtain rfl := h0
          obtain rfl := h1
          go_wp2
          exact ⟨rfl, Aft.refl W⟩
        refine flowObs_cons (fun W hW => flowOb_cons fun v0 h0 => flowOb_nil ?_) ?_
        · obtain rfl := h0
          go_wp2
          exact ⟨rfl, Aft.refl W⟩
        refine flowObs_cons (fun W hW => flowOb_cons fun v0 h0 => flowOb_nil ?_) ?_
        · obtain rfl := h0
          go_wp2
          exact ⟨rfl, Aft.refl W⟩
        refine flowObs_cons (fun W hW => flowOb_cons fun v0 h0 => flowOb_nil ?_) ?_
        · obtain rfl := h0
          go_wp2
          exact ⟨rfl, Aft.refl W⟩
        refine flowObs_cons (fun W hW => flowOb_cons fun v0 h0 => flowOb_cons fun v1 h1 => flowOb_cons fun v2 h2 => flowOb_nil ?_) ?_
        · obtain rfl := h0
          obtain rfl := h1
          obtain rfl := h2
          go_wp2
          exact ⟨rfl, Aft.refl W⟩
        refine flowObs_cons (fun W hW => flowOb_cons fun v0 h0 => flowOb_cons fun v1 h1 => flowOb_nil ?_) ?_
        · obtain rfl := h0
          obtain rfl := h1
          go_wp2
          exact ⟨rfl, Aft.refl W⟩
        refine flowObs_cons (fun W hW => flowOb_cons fun v0 h0 => flowOb_cons fun v1 h1 => flowOb_nil ?_) ?_
        · obtain rfl := h0
          obtain rfl := h1
          have p0W := (hW.cell (World.block_lt_of_cell? _ _ p0)).trans p0
          have p1W := (hW.cell (World.block_lt_of_cell? _ _ p1)).trans p1
          have p2W := (hW.cell (World.block_lt_of_cell? _ _ p2)).trans p2
          have p3W := (hW.cell (World.block_lt_of_cell? _ _ p3)).trans p3
          have p4W := (hW.cell (World.block_lt_of_cell? _ _ p4)).trans p4
          have q0W := (hW.cell (World.block_lt_of_cell? _ _ q0)).trans q0
          have q1W := (hW.cell (World.block_lt_of_cell? _ _ q1)).trans q1
          have q2W := (hW.cell (World.block_lt_of_cell? _ _ q2)).trans q2
          have q3W := (hW.cell (World.block_lt_of_cell? _ _ q3)).trans q3
          have q4W := (hW.cell (World.block_lt_of_cell? _ _ q4)).trans q4
          go_wp2
          exact ⟨rfl, Aft.refl W⟩
        refine flowObs_cons (fun W hW => flowOb_cons fun v0 h0 => flowOb_nil ?_) ?_
        · obtain rfl := h0
          go_wp2
          exact ⟨rfl, Aft.refl W⟩
        refine flowObs_cons (fun W hW => flowOb_cons fun v0 h0 => flowOb_nil ?_) ?_
        · obtain rfl := h0
          go_wp2
          exact ⟨rfl, Aft.refl W⟩
        refine flowObs_cons (fun W hW => flowOb_cons fun v0 h0 => flowOb_cons fun v1 h1 => flowOb_cons fun v2 h2 => flowOb_nil ?_) ?_
        · obtain rfl := h0
          obtain rfl := h1
          obtain rfl := h2
          go_wp2
          exact ⟨rfl, Aft.refl W⟩
        refine flowObs_cons (fun W hW => flowOb_cons fun v0 h0 => flowOb_cons fun v1 h1 => flowOb_nil ?_) ?_
        · obtain rfl := h0
          obtain rfl := h1
          go_wp2
          exact ⟨rfl, Aft.refl W⟩
        refine flowObs_cons (fun W hW => flowOb_cons fun v0 h0 => flowOb_cons fun v1 h1 => flowOb_nil ?_) ?_
        · obtain rfl := h0
          obtain rfl := h1
          have p0W := (hW.cell (World.block_lt_of_cell? _ _ p0)).trans p0
          have p1W := (hW.cell (World.block_lt_of_cell? _ _ p1)).trans p1
          have p2W := (hW.cell (World.block_lt_of_cell? _ _ p2)).trans p2
          have p3W := (hW.cell (World.block_lt_of_cell? _ _ p3)).trans p3
          have p4W := (hW.cell (World.block_lt_of_cell? _ _ p4)).trans p4
          have q0W := (hW.cell (World.block_lt_of_cell? _ _ q0)).trans q0
          have q1W := (hW.cell (World.block_lt_of_cell? _ _ q1)).trans q1
          have q2W := (hW.cell (World.block_lt_of_cell? _ _ q2)).trans q2
          have q3W := (hW.cell (World.block_lt_of_cell? _ _ q3)).trans q3
          have q4W := (hW.cell (World.block_lt_of_cell? _ _ q4)).trans q4
          go_wp2
          exact ⟨rfl, Aft.refl W⟩
        refine flowObs_cons (fun W hW => flowOb_cons fun v0 h0 => flowOb_cons fun v1 h1 => flowOb_cons fun v2 h2 => flowOb_nil ?_) ?_
        · obtain rfl := h0
          obtain rfl := h1
          obtain rfl := h2
          go_wp2_with fail
          refine (samefig_any sw sht _ _ ssh W (HA.out.aft hW) (HB.out.aft hW)).mono ?_
          rintro e W' ⟨rfl, hw'⟩
          go_wp2
          exact rfl
        refine flowObs_cons (fun W hW => flowOb_cons fun v0 h0 => flowOb_cons fun v1 h1 => flowOb_nil ?_) ?_
        · obtain rfl := h0
          obtain rfl := h1
          go_wp2
          exact ⟨rfl, Aft.refl W⟩
        refine flowObs_cons (fun W hW => flowOb_cons fun v0 h0 => flowOb_cons fun v1 h1 => flowOb_nil ?_) flowObs_nil
        · obtain rfl := h0
          obtain rfl := h1
          go_wp2
          exact ⟨rfl, Aft.refl W⟩
      intro U hU
      iterate 38 refine flowEnd_cons fun _ _ => ?_
      refine flowEnd_cons fun v1 h1 => flowEnd_nil ?_
      obtain rfl := h1
      have hfin := hwr.trans hU
      clear p0 p1 p2 p3 p4 q0 q1 q2 q3 q4
      go_wp2
      go_roundw
      case rel => exact ⟨r + 1, by omega, by go_num, hfin⟩
      case measure => simp only [intOf]; omega
    · obtain rfl : r = l.length := by omega
      go_wp2
      go_ret
      exact ⟨rfl, hwr⟩
end Go.Proofs.Ytokdclbfjlnnjaa
