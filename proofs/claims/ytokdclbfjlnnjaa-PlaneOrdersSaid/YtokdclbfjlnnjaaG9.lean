/- Two regions of PlaneOrders: the orders go on from one shape over a second to a third. -/
import Derived.Test.YtokdclbfjlnnjaaA5
namespace Go.Proofs.Ytokdclbfjlnnjaa
open Go.RowKit Go.BigFrame

set_option maxRecDepth 1000000 in
set_option maxHeartbeats 4000000 in
theorem reg9_18 {a : Act} {W0 : World} {b off c i q s : Nat} {L : List Sh} {ka kb kc : Int} {la lb lc : List Pt} {apa apb apc : Option Addr} {cpa cpb cpc : Nat} (hs : a.tmps.size = 235) (e3 : a.tmps[3]? = some (.slice (some ⟨b, off, none⟩) L.length c)) (e4 : a.tmps[4]? = some (.int .i64 i)) (e5 : a.tmps[5]? = some (.int .i64 q)) (e10 : a.tmps[10]? = some (.int .i64 s))
    (hi : i < L.length) (hq : q < L.length) (hss : s < L.length) (x1 : W0.cell? ⟨b, off + i * 2, none⟩ = some (.int .i64 ka)) (x2 : W0.cell? ⟨b, off + i * 2 + 1, none⟩ = some (.slice apa la.length cpa)) (y1 : W0.cell? ⟨b, off + q * 2, none⟩ = some (.int .i64 kb)) (y2 : W0.cell? ⟨b, off + q * 2 + 1, none⟩ = some (.slice apb lb.length cpb))
    (z1 : W0.cell? ⟨b, off + s * 2, none⟩ = some (.int .i64 kc)) (z2 : W0.cell? ⟨b, off + s * 2 + 1, none⟩ = some (.slice apc lc.length cpc)) (hpA : Prs W0 (.slice apa la.length cpa) la) (hpB : Prs W0 (.slice apb lb.length cpb) lb) (hpC : Prs W0 (.slice apc lc.length cpc) lc) (sa : Sm 0 0 ka la) (sb : Sm 0 0 kb lb) (sc : Sm 0 0 kc lc) {o1 o2 o3 : Bool} (ho1 : insideZ ka la kb lb = o1) (ho2 : insideZ kb lb kc lc = o2) (ho3 : insideZ ka la kc lc = o3) (HI : ((o1 && o2) && !o3) = false)
    {Q : Exit → Act → World → Prop} (hQ : ∀ (v136 v137 v138 v139 v140 v141 v142 v143 v144 v145 v146 v147 v148 v149 v150 v151 v152 v153 v154 v155 v156 v157 v158 v159 v160 v161 v162 v163 v164 v165 v166 : Value) (W' : World) (a' : Act), Aft W0 W' → a' = ((((((((((((((((((((((((((((((((a.put (some 136) v136).put (some 137) v137).put (some 138) v138).put (some 139) v139).put (some 140) v140).put (some 141) v141).put (some 142) v142).put (some 143) v143).put (some 144) v144).put (some 145) v145).put (some 146) v146).put (some 147) v147).put (some 148) v148).put (some 149) v149).put (some 150) v150).put (some 151) v151).put (some 152) v152).put (some 153) v153).put (some 154) v154).put (some 155) v155).put (some 156) v156).put (some 157) v157).put (some 158) v158).put (some 159) v159).put (some 160) v160).put (some 161) v161).put (some 162) v162).put (some 163) v163).put (some 164) v164).put (some 165) v165).put (some 166) v166).put (some 167) (.bool false)) → Q .normal a' W') :
    Code.wp Try.prog ((Try.f9.body.bind (findRegion 18)).getD .skip) Q a W0 := by
  conv => arg 2; whnf
  obtain ⟨n155, e155⟩ : ∃ b, (o1 && o2) = b := ⟨_, rfl⟩
  obtain ⟨n166, e166⟩ : ∃ b, (!o3) = b := ⟨_, rfl⟩
  obtain ⟨n167, e167⟩ : ∃ b, (n155 && n166) = b := ⟨_, rfl⟩
  refine wp_region_flow _ (Aft.refl _) (FV.is (.slice (some ⟨b, off, none⟩) L.length c) :: FV.is (.int .i64 i) :: FV.is (.pointer (some ⟨b, off + i * 2, none⟩)) :: FV.is (.agg #[.int .i64 ka, .slice apa la.length cpa]) :: FV.is (.slice (some ⟨b, off, none⟩) L.length c) :: FV.is (.int .i64 q) :: FV.is (.pointer (some ⟨b, off + q * 2, none⟩)) :: FV.is (.agg #[.int .i64 kb, .slice apb lb.length cpb]) :: FV.is (.bool o1) :: FV.is (.bool o1) :: FV.pure (fun v => o1 = true → v = .slice (some ⟨b, off, none⟩) L.length c) :: FV.pure (fun v => o1 = true → v = .int .i64 q) :: FV.pure (fun v => o1 = true → v = .pointer (some ⟨b, off + q * 2, none⟩)) :: FV.pure (fun v => o1 = true → v = .agg #[.int .i64 kb, .slice apb lb.length cpb]) :: FV.pure (fun v => o1 = true → v = .slice (some ⟨b, off, none⟩) L.length c) :: FV.pure (fun v => o1 = true → v = .int .i64 s) :: FV.pure (fun v => o1 = true → v = .pointer (some ⟨b, off + s * 2, none⟩)) :: FV.pure (fun v => o1 = true → v = .agg #[.int .i64 kc, .slice apc lc.length cpc]) :: FV.pure (fun v => o1 = true → v = .bool o2) :: FV.is (.bool n155) :: FV.is (.bool n155) :: FV.pure (fun v => n155 = true → v = .slice (some ⟨b, off, none⟩) L.length c) :: FV.pure (fun v => n155 = true → v = .int .i64 i) :: FV.pure (fun v => n155 = true → v = .pointer (some ⟨b, off + i * 2, none⟩)) :: FV.pure (fun v => n155 = true → v = .agg #[.int .i64 ka, .slice apa la.length cpa]) :: FV.pure (fun v => n155 = true → v = .slice (some ⟨b, off, none⟩) L.length c) :: FV.pure (fun v => n155 = true → v = .int .i64 s) :: FV.pure (fun v => n155 = true → v = .pointer (some ⟨b, off + s * 2, none⟩)) :: FV.pure (fun v => n155 = true → v = .agg #[.int .i64 kc, .slice apc lc.length cpc]) :: FV.pure (fun v => n155 = true → v = .bool o3) :: FV.pure (fun v => n155 = true → v = .bool n166) :: FV.is (.bool n167) :: [])
    ((0, 136) :: (1, 137) :: (2, 138) :: (3, 139) :: (4, 140) :: (5, 141) :: (6, 142) :: (7, 143) :: (8, 144) :: (9, 145) :: (10, 146) :: (11, 147) :: (12, 148) :: (13, 149) :: (14, 150) :: (15, 151) :: (16, 152) :: (17, 153) :: (18, 154) :: (19, 155) :: (20, 156) :: (21, 157) :: (22, 158) :: (23, 159) :: (24, 160) :: (25, 161) :: (26, 162) :: (27, 163) :: (28, 164) :: (29, 165) :: (30, 166) :: (31, 167) :: [])
    ([] :: [] :: [(0, 136), (1, 137)] :: [(2, 138)] :: [] :: [] :: [(4, 140), (5, 141)] :: [(6, 142)] :: [(3, 139), (7, 143)] :: [(8, 144)] :: [(9, 145)] :: [(9, 145)] :: [(10, 146), (11, 147), (9, 145)] :: [(12, 148), (9, 145)] :: [(9, 145)] :: [(9, 145)] :: [(14, 150), (15, 151), (9, 145)] :: [(16, 152), (9, 145)] :: [(13, 149), (17, 153), (9, 145)] :: [(9, 145), (18, 154)] :: [(19, 155)] :: [(20, 156)] :: [(20, 156)] :: [(21, 157), (22, 158), (20, 156)] :: [(23, 159), (20, 156)] :: [(20, 156)] :: [(20, 156)] :: [(25, 161), (26, 162), (20, 156)] :: [(27, 163), (20, 156)] :: [(24, 160), (28, 164), (20, 156)] :: [(29, 165), (20, 156)] :: [(20, 156), (30, 166)] :: []) (by kernel_rfl) (by rw [hs]; kernel_rfl) ?_ ?_
  · refine flowObs_cons (fun W hW => flowOb_nil ?_) ?_
    · exact duty_val (wants_none rfl) rfl (size_lt hs (by decide)) (do_move rfl (eval_of e3)) rfl (Aft.refl W)
    refine flowObs_cons (fun W hW => flowOb_nil ?_) ?_
    · exact duty_val (wants_none rfl) rfl (size_lt hs (by decide)) (do_move rfl (eval_of e4)) rfl (Aft.refl W)
    refine flowObs_cons (fun W hW => flowOb_cons fun v0 h0 => flowOb_cons fun v1 h1 => flowOb_nil ?_) ?_
    · obtain rfl := h0
      obtain rfl := h1
      exact duty_val (wants_none rfl) rfl (put_lt (put_lt (size_lt hs (by decide)))) (idx43 W rfl (eval_of ((put_other _ (by decide)).trans (put_same _ (size_lt hs (by decide))))) (eval_of (put_same _ (put_lt (size_lt hs (by decide))))) (by assumption)) rfl (Aft.refl W)
    refine flowObs_cons (fun W hW => flowOb_cons fun v0 h0 => flowOb_nil ?_) ?_
    · obtain rfl := h0
      exact duty_val (wants_none rfl) rfl (put_lt (size_lt hs (by decide))) (load51 W rfl (eval_of (put_same _ (size_lt hs (by decide)))) ((hW.cell (World.block_lt_of_cell? _ _ x1)).trans x1) ((hW.cell (World.block_lt_of_cell? _ _ x2)).trans x2)) rfl (Aft.refl W)
    refine flowObs_cons (fun W hW => flowOb_nil ?_) ?_
    · exact duty_val (wants_none rfl) rfl (size_lt hs (by decide)) (do_move rfl (eval_of e3)) rfl (Aft.refl W)
    refine flowObs_cons (fun W hW => flowOb_nil ?_) ?_
    · exact duty_val (wants_none rfl) rfl (size_lt hs (by decide)) (do_move rfl (eval_of e5)) rfl (Aft.refl W)
    refine flowObs_cons (fun W hW => flowOb_cons fun v0 h0 => flowOb_cons fun v1 h1 => flowOb_nil ?_) ?_
    · obtain rfl := h0
      obtain rfl := h1
      exact duty_val (wants_none rfl) rfl (put_lt (put_lt (size_lt hs (by decide)))) (idx43 W rfl (eval_of ((put_other _ (by decide)).trans (put_same _ (size_lt hs (by decide))))) (eval_of (put_same _ (put_lt (size_lt hs (by decide))))) (by assumption)) rfl (Aft.refl W)
    refine flowObs_cons (fun W hW => flowOb_cons fun v0 h0 => flowOb_nil ?_) ?_
    · obtain rfl := h0
      exact duty_val (wants_none rfl) rfl (put_lt (size_lt hs (by decide))) (load51 W rfl (eval_of (put_same _ (size_lt hs (by decide)))) ((hW.cell (World.block_lt_of_cell? _ _ y1)).trans y1) ((hW.cell (World.block_lt_of_cell? _ _ y2)).trans y2)) rfl (Aft.refl W)
    refine flowObs_cons (fun W hW => flowOb_cons fun v0 h0 => flowOb_cons fun v1 h1 => flowOb_nil ?_) ?_
    · obtain rfl := h0
      obtain rfl := h1
      exact duty_call (wants_none rfl) rfl (put_lt (put_lt (size_lt hs (by decide)))) (call40 W rfl (eval_of ((put_other _ (by decide)).trans (put_same _ (size_lt hs (by decide))))) (eval_of (put_same _ (put_lt (size_lt hs (by decide)))))) (inside_sm (by assumption) W (hpA.aft hW) (hpB.aft hW) sa sb) rfl
    refine flowObs_cons (fun W hW => flowOb_cons fun v0 h0 => flowOb_nil ?_) ?_
    · obtain rfl := h0
      exact duty_val (wants_none rfl) rfl (put_lt (size_lt hs (by decide))) (do_move rfl (eval_of (put_same _ (size_lt hs (by decide))))) rfl (Aft.refl W)
    refine flowObs_cons (fun W hW => flowOb_cons fun v0 h0 => flowOb_nil ?_) ?_
    · obtain rfl := h0
      cases o1
      case false =>
        exact duty_off rfl rfl (put_same _ (size_lt hs (by decide))) (by decide) rfl (put_lt (size_lt hs (by decide))) (fun h => Bool.noConfusion h)
      case true =>
        exact duty_val (wants_some rfl rfl (put_same _ (size_lt hs (by decide)))) rfl (put_lt (size_lt hs (by decide))) (do_move rfl (eval_of ((put_other _ (by decide)).trans e3))) (fun _ => rfl) (Aft.refl W)
    refine flowObs_cons (fun W hW => flowOb_cons fun v0 h0 => flowOb_nil ?_) ?_
    · obtain rfl := h0
      cases o1
      case false =>
        exact duty_off rfl rfl (put_same _ (size_lt hs (by decide))) (by decide) rfl (put_lt (size_lt hs (by decide))) (fun h => Bool.noConfusion h)
      case true =>
        exact duty_val (wants_some rfl rfl (put_same _ (size_lt hs (by decide)))) rfl (put_lt (size_lt hs (by decide))) (do_move rfl (eval_of ((put_other _ (by decide)).trans e5))) (fun _ => rfl) (Aft.refl W)
    refine flowObs_cons (fun W hW => flowOb_cons fun v0 h0 => flowOb_cons fun v1 h1 => flowOb_cons fun v2 h2 => flowOb_nil ?_) ?_
    · obtain rfl := h2
      cases o1
      case false =>
        exact duty_off rfl rfl (put_same _ (put_lt (put_lt (size_lt hs (by decide))))) (by decide) rfl (put_lt (put_lt (put_lt (size_lt hs (by decide))))) (fun h => Bool.noConfusion h)
      case true =>
        obtain rfl := h0 rfl
        obtain rfl := h1 rfl
        exact duty_val (wants_some rfl rfl (put_same _ (put_lt (put_lt (size_lt hs (by decide)))))) rfl (put_lt (put_lt (put_lt (size_lt hs (by decide))))) (idx43 W rfl (eval_of ((put_other _ (by decide)).trans ((put_other _ (by decide)).trans (put_same _ (size_lt hs (by decide)))))) (eval_of ((put_other _ (by decide)).trans (put_same _ (put_lt (size_lt hs (by decide)))))) (by assumption)) (fun _ => rfl) (Aft.refl W)
    refine flowObs_cons (fun W hW => flowOb_cons fun v0 h0 => flowOb_cons fun v1 h1 => flowOb_nil ?_) ?_
    · obtain rfl := h1
      cases o1
      case false =>
        exact duty_off rfl rfl (put_same _ (put_lt (size_lt hs (by decide)))) (by decide) rfl (put_lt (put_lt (size_lt hs (by decide)))) (fun h => Bool.noConfusion h)
      case true =>
        obtain rfl := h0 rfl
        exact duty_val (wants_some rfl rfl (put_same _ (put_lt (size_lt hs (by decide))))) rfl (put_lt (put_lt (size_lt hs (by decide)))) (load51 W rfl (eval_of ((put_other _ (by decide)).trans (put_same _ (size_lt hs (by decide))))) ((hW.cell (World.block_lt_of_cell? _ _ y1)).trans y1) ((hW.cell (World.block_lt_of_cell? _ _ y2)).trans y2)) (fun _ => rfl) (Aft.refl W)
    refine flowObs_cons (fun W hW => flowOb_cons fun v0 h0 => flowOb_nil ?_) ?_
    · obtain rfl := h0
      cases o1
      case false =>
        exact duty_off rfl rfl (put_same _ (size_lt hs (by decide))) (by decide) rfl (put_lt (size_lt hs (by decide))) (fun h => Bool.noConfusion h)
      case true =>
        exact duty_val (wants_some rfl rfl (put_same _ (size_lt hs (by decide)))) rfl (put_lt (size_lt hs (by decide))) (do_move rfl (eval_of ((put_other _ (by decide)).trans e3))) (fun _ => rfl) (Aft.refl W)
    refine flowObs_cons (fun W hW => flowOb_cons fun v0 h0 => flowOb_nil ?_) ?_
    · obtain rfl := h0
      cases o1
      case false =>
        exact duty_off rfl rfl (put_same _ (size_lt hs (by decide))) (by decide) rfl (put_lt (size_lt hs (by decide))) (fun h => Bool.noConfusion h)
      case true =>
        exact duty_val (wants_some rfl rfl (put_same _ (size_lt hs (by decide)))) rfl (put_lt (size_lt hs (by decide))) (do_move rfl (eval_of ((put_other _ (by decide)).trans e10))) (fun _ => rfl) (Aft.refl W)
    refine flowObs_cons (fun W hW => flowOb_cons fun v0 h0 => flowOb_cons fun v1 h1 => flowOb_cons fun v2 h2 => flowOb_nil ?_) ?_
    · obtain rfl := h2
      cases o1
      case false =>
        exact duty_off rfl rfl (put_same _ (put_lt (put_lt (size_lt hs (by decide))))) (by decide) rfl (put_lt (put_lt (put_lt (size_lt hs (by decide))))) (fun h => Bool.noConfusion h)
      case true =>
        obtain rfl := h0 rfl
        obtain rfl := h1 rfl
        exact duty_val (wants_some rfl rfl (put_same _ (put_lt (put_lt (size_lt hs (by decide)))))) rfl (put_lt (put_lt (put_lt (size_lt hs (by decide))))) (idx43 W rfl (eval_of ((put_other _ (by decide)).trans ((put_other _ (by decide)).trans (put_same _ (size_lt hs (by decide)))))) (eval_of ((put_other _ (by decide)).trans (put_same _ (put_lt (size_lt hs (by decide)))))) (by assumption)) (fun _ => rfl) (Aft.refl W)
    refine flowObs_cons (fun W hW => flowOb_cons fun v0 h0 => flowOb_cons fun v1 h1 => flowOb_nil ?_) ?_
    · obtain rfl := h1
      cases o1
      case false =>
        exact duty_off rfl rfl (put_same _ (put_lt (size_lt hs (by decide)))) (by decide) rfl (put_lt (put_lt (size_lt hs (by decide)))) (fun h => Bool.noConfusion h)
      case true =>
        obtain rfl := h0 rfl
        exact duty_val (wants_some rfl rfl (put_same _ (put_lt (size_lt hs (by decide))))) rfl (put_lt (put_lt (size_lt hs (by decide)))) (load51 W rfl (eval_of ((put_other _ (by decide)).trans (put_same _ (size_lt hs (by decide))))) ((hW.cell (World.block_lt_of_cell? _ _ z1)).trans z1) ((hW.cell (World.block_lt_of_cell? _ _ z2)).trans z2)) (fun _ => rfl) (Aft.refl W)
    refine flowObs_cons (fun W hW => flowOb_cons fun v0 h0 => flowOb_cons fun v1 h1 => flowOb_cons fun v2 h2 => flowOb_nil ?_) ?_
    · obtain rfl := h2
      cases o1
      case false =>
        exact duty_off rfl rfl (put_same _ (put_lt (put_lt (size_lt hs (by decide))))) (by decide) rfl (put_lt (put_lt (put_lt (size_lt hs (by decide))))) (fun h => Bool.noConfusion h)
      case true =>
        obtain rfl := h0 rfl
        obtain rfl := h1 rfl
        exact duty_call (wants_some rfl rfl (put_same _ (put_lt (put_lt (size_lt hs (by decide)))))) rfl (put_lt (put_lt (put_lt (size_lt hs (by decide))))) (call40 W rfl (eval_of ((put_other _ (by decide)).trans ((put_other _ (by decide)).trans (put_same _ (size_lt hs (by decide)))))) (eval_of ((put_other _ (by decide)).trans (put_same _ (put_lt (size_lt hs (by decide))))))) (inside_sm (by assumption) W (hpB.aft hW) (hpC.aft hW) sb sc) (fun _ => rfl)
    refine flowObs_cons (fun W hW => flowOb_cons fun v0 h0 => flowOb_cons fun v1 h1 => flowOb_nil ?_) ?_
    · obtain rfl := h0
      cases o1
      case false =>
        obtain rfl : n155 = false := by rw [← e155]; simp
        exact duty_val (wants_none rfl) rfl (put_lt (put_lt (size_lt hs (by decide)))) (do_pick (p := false) rfl (eval_of ((put_other _ (by decide)).trans (put_same _ (size_lt hs (by decide))))) rfl) rfl (Aft.refl W)
      case true =>
        obtain rfl := h1 rfl
        obtain rfl : n155 = o2 := by rw [← e155]; simp
        exact duty_val (wants_none rfl) rfl (put_lt (put_lt (size_lt hs (by decide)))) (do_pick (p := true) rfl (eval_of ((put_other _ (by decide)).trans (put_same _ (size_lt hs (by decide))))) (eval_of (put_same _ (put_lt (size_lt hs (by decide)))))) rfl (Aft.refl W)
    refine flowObs_cons (fun W hW => flowOb_cons fun v0 h0 => flowOb_nil ?_) ?_
    · obtain rfl := h0
      exact duty_val (wants_none rfl) rfl (put_lt (size_lt hs (by decide))) (do_move rfl (eval_of (put_same _ (size_lt hs (by decide))))) rfl (Aft.refl W)
    refine flowObs_cons (fun W hW => flowOb_cons fun v0 h0 => flowOb_nil ?_) ?_
    · obtain rfl := h0
      cases n155
      case false =>
        exact duty_off rfl rfl (put_same _ (size_lt hs (by decide))) (by decide) rfl (put_lt (size_lt hs (by decide))) (fun h => Bool.noConfusion h)
      case true =>
        exact duty_val (wants_some rfl rfl (put_same _ (size_lt hs (by decide)))) rfl (put_lt (size_lt hs (by decide))) (do_move rfl (eval_of ((put_other _ (by decide)).trans e3))) (fun _ => rfl) (Aft.refl W)
    refine flowObs_cons (fun W hW => flowOb_cons fun v0 h0 => flowOb_nil ?_) ?_
    · obtain rfl := h0
      cases n155
      case false =>
        exact duty_off rfl rfl (put_same _ (size_lt hs (by decide))) (by decide) rfl (put_lt (size_lt hs (by decide))) (fun h => Bool.noConfusion h)
      case true =>
        exact duty_val (wants_some rfl rfl (put_same _ (size_lt hs (by decide)))) rfl (put_lt (size_lt hs (by decide))) (do_move rfl (eval_of ((put_other _ (by decide)).trans e4))) (fun _ => rfl) (Aft.refl W)
    refine flowObs_cons (fun W hW => flowOb_cons fun v0 h0 => flowOb_cons fun v1 h1 => flowOb_cons fun v2 h2 => flowOb_nil ?_) ?_
    · obtain rfl := h2
      cases n155
      case false =>
        exact duty_off rfl rfl (put_same _ (put_lt (put_lt (size_lt hs (by decide))))) (by decide) rfl (put_lt (put_lt (put_lt (size_lt hs (by decide))))) (fun h => Bool.noConfusion h)
      case true =>
        obtain rfl := h0 rfl
        obtain rfl := h1 rfl
        exact duty_val (wants_some rfl rfl (put_same _ (put_lt (put_lt (size_lt hs (by decide)))))) rfl (put_lt (put_lt (put_lt (size_lt hs (by decide))))) (idx43 W rfl (eval_of ((put_other _ (by decide)).trans ((put_other _ (by decide)).trans (put_same _ (size_lt hs (by decide)))))) (eval_of ((put_other _ (by decide)).trans (put_same _ (put_lt (size_lt hs (by decide)))))) (by assumption)) (fun _ => rfl) (Aft.refl W)
    refine flowObs_cons (fun W hW => flowOb_cons fun v0 h0 => flowOb_cons fun v1 h1 => flowOb_nil ?_) ?_
    · obtain rfl := h1
      cases n155
      case false =>
        exact duty_off rfl rfl (put_same _ (put_lt (size_lt hs (by decide)))) (by decide) rfl (put_lt (put_lt (size_lt hs (by decide)))) (fun h => Bool.noConfusion h)
      case true =>
        obtain rfl := h0 rfl
        exact duty_val (wants_some rfl rfl (put_same _ (put_lt (size_lt hs (by decide))))) rfl (put_lt (put_lt (size_lt hs (by decide)))) (load51 W rfl (eval_of ((put_other _ (by decide)).trans (put_same _ (size_lt hs (by decide))))) ((hW.cell (World.block_lt_of_cell? _ _ x1)).trans x1) ((hW.cell (World.block_lt_of_cell? _ _ x2)).trans x2)) (fun _ => rfl) (Aft.refl W)
    refine flowObs_cons (fun W hW => flowOb_cons fun v0 h0 => flowOb_nil ?_) ?_
    · obtain rfl := h0
      cases n155
      case false =>
        exact duty_off rfl rfl (put_same _ (size_lt hs (by decide))) (by decide) rfl (put_lt (size_lt hs (by decide))) (fun h => Bool.noConfusion h)
      case true =>
        exact duty_val (wants_some rfl rfl (put_same _ (size_lt hs (by decide)))) rfl (put_lt (size_lt hs (by decide))) (do_move rfl (eval_of ((put_other _ (by decide)).trans e3))) (fun _ => rfl) (Aft.refl W)
    refine flowObs_cons (fun W hW => flowOb_cons fun v0 h0 => flowOb_nil ?_) ?_
    · obtain rfl := h0
      cases n155
      case false =>
        exact duty_off rfl rfl (put_same _ (size_lt hs (by decide))) (by decide) rfl (put_lt (size_lt hs (by decide))) (fun h => Bool.noConfusion h)
      case true =>
        exact duty_val (wants_some rfl rfl (put_same _ (size_lt hs (by decide)))) rfl (put_lt (size_lt hs (by decide))) (do_move rfl (eval_of ((put_other _ (by decide)).trans e10))) (fun _ => rfl) (Aft.refl W)
    refine flowObs_cons (fun W hW => flowOb_cons fun v0 h0 => flowOb_cons fun v1 h1 => flowOb_cons fun v2 h2 => flowOb_nil ?_) ?_
    · obtain rfl := h2
      cases n155
      case false =>
        exact duty_off rfl rfl (put_same _ (put_lt (put_lt (size_lt hs (by decide))))) (by decide) rfl (put_lt (put_lt (put_lt (size_lt hs (by decide))))) (fun h => Bool.noConfusion h)
      case true =>
        obtain rfl := h0 rfl
        obtain rfl := h1 rfl
        exact duty_val (wants_some rfl rfl (put_same _ (put_lt (put_lt (size_lt hs (by decide)))))) rfl (put_lt (put_lt (put_lt (size_lt hs (by decide))))) (idx43 W rfl (eval_of ((put_other _ (by decide)).trans ((put_other _ (by decide)).trans (put_same _ (size_lt hs (by decide)))))) (eval_of ((put_other _ (by decide)).trans (put_same _ (put_lt (size_lt hs (by decide)))))) (by assumption)) (fun _ => rfl) (Aft.refl W)
    refine flowObs_cons (fun W hW => flowOb_cons fun v0 h0 => flowOb_cons fun v1 h1 => flowOb_nil ?_) ?_
    · obtain rfl := h1
      cases n155
      case false =>
        exact duty_off rfl rfl (put_same _ (put_lt (size_lt hs (by decide)))) (by decide) rfl (put_lt (put_lt (size_lt hs (by decide)))) (fun h => Bool.noConfusion h)
      case true =>
        obtain rfl := h0 rfl
        exact duty_val (wants_some rfl rfl (put_same _ (put_lt (size_lt hs (by decide))))) rfl (put_lt (put_lt (size_lt hs (by decide)))) (load51 W rfl (eval_of ((put_other _ (by decide)).trans (put_same _ (size_lt hs (by decide))))) ((hW.cell (World.block_lt_of_cell? _ _ z1)).trans z1) ((hW.cell (World.block_lt_of_cell? _ _ z2)).trans z2)) (fun _ => rfl) (Aft.refl W)
    refine flowObs_cons (fun W hW => flowOb_cons fun v0 h0 => flowOb_cons fun v1 h1 => flowOb_cons fun v2 h2 => flowOb_nil ?_) ?_
    · obtain rfl := h2
      cases n155
      case false =>
        exact duty_off rfl rfl (put_same _ (put_lt (put_lt (size_lt hs (by decide))))) (by decide) rfl (put_lt (put_lt (put_lt (size_lt hs (by decide))))) (fun h => Bool.noConfusion h)
      case true =>
        obtain rfl := h0 rfl
        obtain rfl := h1 rfl
        exact duty_call (wants_some rfl rfl (put_same _ (put_lt (put_lt (size_lt hs (by decide)))))) rfl (put_lt (put_lt (put_lt (size_lt hs (by decide))))) (call40 W rfl (eval_of ((put_other _ (by decide)).trans ((put_other _ (by decide)).trans (put_same _ (size_lt hs (by decide)))))) (eval_of ((put_other _ (by decide)).trans (put_same _ (put_lt (size_lt hs (by decide))))))) (inside_sm (by assumption) W (hpA.aft hW) (hpC.aft hW) sa sc) (fun _ => rfl)
    refine flowObs_cons (fun W hW => flowOb_cons fun v0 h0 => flowOb_cons fun v1 h1 => flowOb_nil ?_) ?_
    · obtain rfl := h1
      cases n155
      case false =>
        exact duty_off rfl rfl (put_same _ (put_lt (size_lt hs (by decide)))) (by decide) rfl (put_lt (put_lt (size_lt hs (by decide)))) (fun h => Bool.noConfusion h)
      case true =>
        obtain rfl := h0 rfl
        subst e166
        exact duty_val (wants_some rfl rfl (put_same _ (put_lt (size_lt hs (by decide))))) rfl (put_lt (put_lt (size_lt hs (by decide)))) (do_not rfl (eval_of ((put_other _ (by decide)).trans (put_same _ (size_lt hs (by decide)))))) (fun _ => rfl) (Aft.refl W)
    refine flowObs_cons (fun W hW => flowOb_cons fun v0 h0 => flowOb_cons fun v1 h1 => flowOb_nil ?_) flowObs_nil
    · obtain rfl := h0
      cases n155
      case false =>
        obtain rfl : n167 = false := by rw [← e167]; simp
        exact duty_val (wants_none rfl) rfl (put_lt (put_lt (size_lt hs (by decide)))) (do_pick (p := false) rfl (eval_of ((put_other _ (by decide)).trans (put_same _ (size_lt hs (by decide))))) rfl) rfl (Aft.refl W)
      case true =>
        obtain rfl := h1 rfl
        obtain rfl : n167 = n166 := by rw [← e167]; simp
        exact duty_val (wants_none rfl) rfl (put_lt (put_lt (size_lt hs (by decide)))) (do_pick (p := true) rfl (eval_of ((put_other _ (by decide)).trans (put_same _ (size_lt hs (by decide))))) (eval_of (put_same _ (put_lt (size_lt hs (by decide)))))) rfl (Aft.refl W)
  · intro W' hW'
    refine flowEnd_cons fun v136 _ => ?_
    refine flowEnd_cons fun v137 _ => ?_
    refine flowEnd_cons fun v138 _ => ?_
    refine flowEnd_cons fun v139 _ => ?_
    refine flowEnd_cons fun v140 _ => ?_
    refine flowEnd_cons fun v141 _ => ?_
    refine flowEnd_cons fun v142 _ => ?_
    refine flowEnd_cons fun v143 _ => ?_
    refine flowEnd_cons fun v144 _ => ?_
    refine flowEnd_cons fun v145 _ => ?_
    refine flowEnd_cons fun v146 _ => ?_
    refine flowEnd_cons fun v147 _ => ?_
    refine flowEnd_cons fun v148 _ => ?_
    refine flowEnd_cons fun v149 _ => ?_
    refine flowEnd_cons fun v150 _ => ?_
    refine flowEnd_cons fun v151 _ => ?_
    refine flowEnd_cons fun v152 _ => ?_
    refine flowEnd_cons fun v153 _ => ?_
    refine flowEnd_cons fun v154 _ => ?_
    refine flowEnd_cons fun v155 _ => ?_
    refine flowEnd_cons fun v156 _ => ?_
    refine flowEnd_cons fun v157 _ => ?_
    refine flowEnd_cons fun v158 _ => ?_
    refine flowEnd_cons fun v159 _ => ?_
    refine flowEnd_cons fun v160 _ => ?_
    refine flowEnd_cons fun v161 _ => ?_
    refine flowEnd_cons fun v162 _ => ?_
    refine flowEnd_cons fun v163 _ => ?_
    refine flowEnd_cons fun v164 _ => ?_
    refine flowEnd_cons fun v165 _ => ?_
    refine flowEnd_cons fun v166 _ => ?_
    refine flowEnd_cons fun v167 hE => flowEnd_nil ?_
    obtain rfl := hE
    obtain rfl : n167 = false := by
      rw [← e167, ← e166, ← e155]; exact HI
    exact hQ v136 v137 v138 v139 v140 v141 v142 v143 v144 v145 v146 v147 v148 v149 v150 v151 v152 v153 v154 v155 v156 v157 v158 v159 v160 v161 v162 v163 v164 v165 v166 W' _ hW' rfl

set_option maxRecDepth 1000000 in
set_option maxHeartbeats 4000000 in
theorem reg9_20 {a : Act} {W0 : World} {b off c i q s : Nat} {L : List Sh} {ka kb kc : Int} {la lb lc : List Pt} {apa apb apc : Option Addr} {cpa cpb cpc : Nat} (hs : a.tmps.size = 235) (e3 : a.tmps[3]? = some (.slice (some ⟨b, off, none⟩) L.length c)) (e4 : a.tmps[4]? = some (.int .i64 i)) (e5 : a.tmps[5]? = some (.int .i64 q)) (e10 : a.tmps[10]? = some (.int .i64 s))
    (hi : i < L.length) (hq : q < L.length) (hss : s < L.length) (x1 : W0.cell? ⟨b, off + i * 2, none⟩ = some (.int .i64 ka)) (x2 : W0.cell? ⟨b, off + i * 2 + 1, none⟩ = some (.slice apa la.length cpa)) (y1 : W0.cell? ⟨b, off + q * 2, none⟩ = some (.int .i64 kb)) (y2 : W0.cell? ⟨b, off + q * 2 + 1, none⟩ = some (.slice apb lb.length cpb))
    (z1 : W0.cell? ⟨b, off + s * 2, none⟩ = some (.int .i64 kc)) (z2 : W0.cell? ⟨b, off + s * 2 + 1, none⟩ = some (.slice apc lc.length cpc)) (hpA : Prs W0 (.slice apa la.length cpa) la) (hpB : Prs W0 (.slice apb lb.length cpb) lb) (hpC : Prs W0 (.slice apc lc.length cpc) lc) (sa : Sm 0 0 ka la) (sb : Sm 0 0 kb lb) (sc : Sm 0 0 kc lc) {l1 l2 l3 m1 m2 m3 : Bool} (hl1 : leftZ la lb = l1) (hl2 : leftZ lb lc = l2) (hl3 : leftZ la lc = l3) (hm1 : longerZ ka la kb lb = m1) (hm2 : longerZ kb lb kc lc = m2) (hm3 : longerZ ka la kc lc = m3) (HI : (((l1 && l2) && !l3) || ((m1 && m2) && !m3)) = false)
    {Q : Exit → Act → World → Prop} (hQ : ∀ (v168 v169 v170 v171 v172 v173 v174 v175 v176 v177 v178 v179 v180 v181 v182 v183 v184 v185 v186 v187 v188 v189 v190 v191 v192 v193 v194 v195 v196 v197 v198 v199 v200 v201 v202 v203 v204 v205 v206 v207 v208 v209 v210 v211 v212 v213 v214 v215 v216 v217 v218 v219 v220 v221 v222 v223 v224 v225 v226 v227 v228 v229 v230 v231 v232 : Value) (W' : World) (a' : Act), Aft W0 W' → a' = ((((((((((((((((((((((((((((((((((((((((((((((((((((((((((((((((((a.put (some 168) v168).put (some 169) v169).put (some 170) v170).put (some 171) v171).put (some 172) v172).put (some 173) v173).put (some 174) v174).put (some 175) v175).put (some 176) v176).put (some 177) v177).put (some 178) v178).put (some 179) v179).put (some 180) v180).put (some 181) v181).put (some 182) v182).put (some 183) v183).put (some 184) v184).put (some 185) v185).put (some 186) v186).put (some 187) v187).put (some 188) v188).put (some 189) v189).put (some 190) v190).put (some 191) v191).put (some 192) v192).put (some 193) v193).put (some 194) v194).put (some 195) v195).put (some 196) v196).put (some 197) v197).put (some 198) v198).put (some 199) v199).put (some 200) v200).put (some 201) v201).put (some 202) v202).put (some 203) v203).put (some 204) v204).put (some 205) v205).put (some 206) v206).put (some 207) v207).put (some 208) v208).put (some 209) v209).put (some 210) v210).put (some 211) v211).put (some 212) v212).put (some 213) v213).put (some 214) v214).put (some 215) v215).put (some 216) v216).put (some 217) v217).put (some 218) v218).put (some 219) v219).put (some 220) v220).put (some 221) v221).put (some 222) v222).put (some 223) v223).put (some 224) v224).put (some 225) v225).put (some 226) v226).put (some 227) v227).put (some 228) v228).put (some 229) v229).put (some 230) v230).put (some 231) v231).put (some 232) v232).put (some 233) (.bool false)) → Q .normal a' W') :
    Code.wp Try.prog ((Try.f9.body.bind (findRegion 20)).getD .skip) Q a W0 := by
  conv => arg 2; whnf
  obtain ⟨n187, e187⟩ : ∃ b, (l1 && l2) = b := ⟨_, rfl⟩
  obtain ⟨n198, e198⟩ : ∃ b, (!l3) = b := ⟨_, rfl⟩
  obtain ⟨n199, e199⟩ : ∃ b, (n187 && n198) = b := ⟨_, rfl⟩
  obtain ⟨n220, e220⟩ : ∃ b, (m1 && m2) = b := ⟨_, rfl⟩
  obtain ⟨n231, e231⟩ : ∃ b, (!m3) = b := ⟨_, rfl⟩
  obtain ⟨n232, e232⟩ : ∃ b, (n220 && n231) = b := ⟨_, rfl⟩
  obtain ⟨n233, e233⟩ : ∃ b, (n199 || n232) = b := ⟨_, rfl⟩
  refine wp_region_flow _ (Aft.refl _) (FV.is (.slice (some ⟨b, off, none⟩) L.length c) :: FV.is (.int .i64 i) :: FV.is (.pointer (some ⟨b, off + i * 2, none⟩)) :: FV.is (.agg #[.int .i64 ka, .slice apa la.length cpa]) :: FV.is (.slice (some ⟨b, off, none⟩) L.length c) :: FV.is (.int .i64 q) :: FV.is (.pointer (some ⟨b, off + q * 2, none⟩)) :: FV.is (.agg #[.int .i64 kb, .slice apb lb.length cpb]) :: FV.is (.bool l1) :: FV.is (.bool l1) :: FV.pure (fun v => l1 = true → v = .slice (some ⟨b, off, none⟩) L.length c) :: FV.pure (fun v => l1 = true → v = .int .i64 q) :: FV.pure (fun v => l1 = true → v = .pointer (some ⟨b, off + q * 2, none⟩)) :: FV.pure (fun v => l1 = true → v = .agg #[.int .i64 kb, .slice apb lb.length cpb]) :: FV.pure (fun v => l1 = true → v = .slice (some ⟨b, off, none⟩) L.length c) :: FV.pure (fun v => l1 = true → v = .int .i64 s) :: FV.pure (fun v => l1 = true → v = .pointer (some ⟨b, off + s * 2, none⟩)) :: FV.pure (fun v => l1 = true → v = .agg #[.int .i64 kc, .slice apc lc.length cpc]) :: FV.pure (fun v => l1 = true → v = .bool l2) :: FV.is (.bool n187) :: FV.is (.bool n187) :: FV.pure (fun v => n187 = true → v = .slice (some ⟨b, off, none⟩) L.length c) :: FV.pure (fun v => n187 = true → v = .int .i64 i) :: FV.pure (fun v => n187 = true → v = .pointer (some ⟨b, off + i * 2, none⟩)) :: FV.pure (fun v => n187 = true → v = .agg #[.int .i64 ka, .slice apa la.length cpa]) :: FV.pure (fun v => n187 = true → v = .slice (some ⟨b, off, none⟩) L.length c) :: FV.pure (fun v => n187 = true → v = .int .i64 s) :: FV.pure (fun v => n187 = true → v = .pointer (some ⟨b, off + s * 2, none⟩)) :: FV.pure (fun v => n187 = true → v = .agg #[.int .i64 kc, .slice apc lc.length cpc]) :: FV.pure (fun v => n187 = true → v = .bool l3) :: FV.pure (fun v => n187 = true → v = .bool n198) :: FV.is (.bool n199) :: FV.is (.bool n199) :: FV.pure (fun v => n199 = false → v = .slice (some ⟨b, off, none⟩) L.length c) :: FV.pure (fun v => n199 = false → v = .int .i64 i) :: FV.pure (fun v => n199 = false → v = .pointer (some ⟨b, off + i * 2, none⟩)) :: FV.pure (fun v => n199 = false → v = .agg #[.int .i64 ka, .slice apa la.length cpa]) :: FV.pure (fun v => n199 = false → v = .slice (some ⟨b, off, none⟩) L.length c) :: FV.pure (fun v => n199 = false → v = .int .i64 q) :: FV.pure (fun v => n199 = false → v = .pointer (some ⟨b, off + q * 2, none⟩)) :: FV.pure (fun v => n199 = false → v = .agg #[.int .i64 kb, .slice apb lb.length cpb]) :: FV.pure (fun v => n199 = false → v = .bool m1) :: FV.pure (fun v => (n199 = false → v = .bool m1) ∧ (n199 = true → v = undef)) :: FV.pure (fun v => n199 = false → m1 = true → v = .slice (some ⟨b, off, none⟩) L.length c) :: FV.pure (fun v => n199 = false → m1 = true → v = .int .i64 q) :: FV.pure (fun v => n199 = false → m1 = true → v = .pointer (some ⟨b, off + q * 2, none⟩)) :: FV.pure (fun v => n199 = false → m1 = true → v = .agg #[.int .i64 kb, .slice apb lb.length cpb]) :: FV.pure (fun v => n199 = false → m1 = true → v = .slice (some ⟨b, off, none⟩) L.length c) :: FV.pure (fun v => n199 = false → m1 = true → v = .int .i64 s) :: FV.pure (fun v => n199 = false → m1 = true → v = .pointer (some ⟨b, off + s * 2, none⟩)) :: FV.pure (fun v => n199 = false → m1 = true → v = .agg #[.int .i64 kc, .slice apc lc.length cpc]) :: FV.pure (fun v => n199 = false → m1 = true → v = .bool m2) :: FV.pure (fun v => n199 = false → v = .bool n220) :: FV.pure (fun v => (n199 = false → v = .bool n220) ∧ (n199 = true → v = undef)) :: FV.pure (fun v => n199 = false → n220 = true → v = .slice (some ⟨b, off, none⟩) L.length c) :: FV.pure (fun v => n199 = false → n220 = true → v = .int .i64 i) :: FV.pure (fun v => n199 = false → n220 = true → v = .pointer (some ⟨b, off + i * 2, none⟩)) :: FV.pure (fun v => n199 = false → n220 = true → v = .agg #[.int .i64 ka, .slice apa la.length cpa]) :: FV.pure (fun v => n199 = false → n220 = true → v = .slice (some ⟨b, off, none⟩) L.length c) :: FV.pure (fun v => n199 = false → n220 = true → v = .int .i64 s) :: FV.pure (fun v => n199 = false → n220 = true → v = .pointer (some ⟨b, off + s * 2, none⟩)) :: FV.pure (fun v => n199 = false → n220 = true → v = .agg #[.int .i64 kc, .slice apc lc.length cpc]) :: FV.pure (fun v => n199 = false → n220 = true → v = .bool m3) :: FV.pure (fun v => n199 = false → n220 = true → v = .bool n231) :: FV.pure (fun v => n199 = false → v = .bool n232) :: FV.is (.bool n233) :: [])
    ((0, 168) :: (1, 169) :: (2, 170) :: (3, 171) :: (4, 172) :: (5, 173) :: (6, 174) :: (7, 175) :: (8, 176) :: (9, 177) :: (10, 178) :: (11, 179) :: (12, 180) :: (13, 181) :: (14, 182) :: (15, 183) :: (16, 184) :: (17, 185) :: (18, 186) :: (19, 187) :: (20, 188) :: (21, 189) :: (22, 190) :: (23, 191) :: (24, 192) :: (25, 193) :: (26, 194) :: (27, 195) :: (28, 196) :: (29, 197) :: (30, 198) :: (31, 199) :: (32, 200) :: (33, 201) :: (34, 202) :: (35, 203) :: (36, 204) :: (37, 205) :: (38, 206) :: (39, 207) :: (40, 208) :: (41, 209) :: (42, 210) :: (43, 211) :: (44, 212) :: (45, 213) :: (46, 214) :: (47, 215) :: (48, 216) :: (49, 217) :: (50, 218) :: (51, 219) :: (52, 220) :: (53, 221) :: (54, 222) :: (55, 223) :: (56, 224) :: (57, 225) :: (58, 226) :: (59, 227) :: (60, 228) :: (61, 229) :: (62, 230) :: (63, 231) :: (64, 232) :: (65, 233) :: [])
    ([] :: [] :: [(0, 168), (1, 169)] :: [(2, 170)] :: [] :: [] :: [(4, 172), (5, 173)] :: [(6, 174)] :: [(3, 171), (7, 175)] :: [(8, 176)] :: [(9, 177)] :: [(9, 177)] :: [(10, 178), (11, 179), (9, 177)] :: [(12, 180), (9, 177)] :: [(9, 177)] :: [(9, 177)] :: [(14, 182), (15, 183), (9, 177)] :: [(16, 184), (9, 177)] :: [(13, 181), (17, 185), (9, 177)] :: [(9, 177), (18, 186)] :: [(19, 187)] :: [(20, 188)] :: [(20, 188)] :: [(21, 189), (22, 190), (20, 188)] :: [(23, 191), (20, 188)] :: [(20, 188)] :: [(20, 188)] :: [(25, 193), (26, 194), (20, 188)] :: [(27, 195), (20, 188)] :: [(24, 192), (28, 196), (20, 188)] :: [(29, 197), (20, 188)] :: [(20, 188), (30, 198)] :: [(31, 199)] :: [(32, 200)] :: [(32, 200)] :: [(33, 201), (34, 202), (32, 200)] :: [(35, 203), (32, 200)] :: [(32, 200)] :: [(32, 200)] :: [(37, 205), (38, 206), (32, 200)] :: [(39, 207), (32, 200)] :: [(36, 204), (40, 208), (32, 200)] :: [(41, 209), (32, 200)] :: [(42, 210)] :: [(42, 210)] :: [(43, 211), (44, 212), (42, 210)] :: [(45, 213), (42, 210)] :: [(42, 210)] :: [(42, 210)] :: [(47, 215), (48, 216), (42, 210)] :: [(49, 217), (42, 210)] :: [(46, 214), (50, 218), (42, 210)] :: [(42, 210), (51, 219), (32, 200)] :: [(52, 220), (32, 200)] :: [(53, 221)] :: [(53, 221)] :: [(54, 222), (55, 223), (53, 221)] :: [(56, 224), (53, 221)] :: [(53, 221)] :: [(53, 221)] :: [(58, 226), (59, 227), (53, 221)] :: [(60, 228), (53, 221)] :: [(57, 225), (61, 229), (53, 221)] :: [(62, 230), (53, 221)] :: [(53, 221), (63, 231), (32, 200)] :: [(32, 200), (64, 232)] :: []) (by kernel_rfl) (by rw [hs]; kernel_rfl) ?_ ?_
  · refine flowObs_cons (fun W hW => flowOb_nil ?_) ?_
    · exact duty_val (wants_none rfl) rfl (size_lt hs (by decide)) (do_move rfl (eval_of e3)) rfl (Aft.refl W)
    refine flowObs_cons (fun W hW => flowOb_nil ?_) ?_
    · exact duty_val (wants_none rfl) rfl (size_lt hs (by decide)) (do_move rfl (eval_of e4)) rfl (Aft.refl W)
    refine flowObs_cons (fun W hW => flowOb_cons fun v0 h0 => flowOb_cons fun v1 h1 => flowOb_nil ?_) ?_
    · obtain rfl := h0
      obtain rfl := h1
      exact duty_val (wants_none rfl) rfl (put_lt (put_lt (size_lt hs (by decide)))) (idx43 W rfl (eval_of ((put_other _ (by decide)).trans (put_same _ (size_lt hs (by decide))))) (eval_of (put_same _ (put_lt (size_lt hs (by decide))))) (by assumption)) rfl (Aft.refl W)
    refine flowObs_cons (fun W hW => flowOb_cons fun v0 h0 => flowOb_nil ?_) ?_
    · obtain rfl := h0
      exact duty_val (wants_none rfl) rfl (put_lt (size_lt hs (by decide))) (load51 W rfl (eval_of (put_same _ (size_lt hs (by decide)))) ((hW.cell (World.block_lt_of_cell? _ _ x1)).trans x1) ((hW.cell (World.block_lt_of_cell? _ _ x2)).trans x2)) rfl (Aft.refl W)
    refine flowObs_cons (fun W hW => flowOb_nil ?_) ?_
    · exact duty_val (wants_none rfl) rfl (size_lt hs (by decide)) (do_move rfl (eval_of e3)) rfl (Aft.refl W)
    refine flowObs_cons (fun W hW => flowOb_nil ?_) ?_
    · exact duty_val (wants_none rfl) rfl (size_lt hs (by decide)) (do_move rfl (eval_of e5)) rfl (Aft.refl W)
    refine flowObs_cons (fun W hW => flowOb_cons fun v0 h0 => flowOb_cons fun v1 h1 => flowOb_nil ?_) ?_
    · obtain rfl := h0
      obtain rfl := h1
      exact duty_val (wants_none rfl) rfl (put_lt (put_lt (size_lt hs (by decide)))) (idx43 W rfl (eval_of ((put_other _ (by decide)).trans (put_same _ (size_lt hs (by decide))))) (eval_of (put_same _ (put_lt (size_lt hs (by decide))))) (by assumption)) rfl (Aft.refl W)
    refine flowObs_cons (fun W hW => flowOb_cons fun v0 h0 => flowOb_nil ?_) ?_
    · obtain rfl := h0
      exact duty_val (wants_none rfl) rfl (put_lt (size_lt hs (by decide))) (load51 W rfl (eval_of (put_same _ (size_lt hs (by decide)))) ((hW.cell (World.block_lt_of_cell? _ _ y1)).trans y1) ((hW.cell (World.block_lt_of_cell? _ _ y2)).trans y2)) rfl (Aft.refl W)
    refine flowObs_cons (fun W hW => flowOb_cons fun v0 h0 => flowOb_cons fun v1 h1 => flowOb_nil ?_) ?_
    · obtain rfl := h0
      obtain rfl := h1
      exact duty_call (wants_none rfl) rfl (put_lt (put_lt (size_lt hs (by decide)))) (call34 W rfl (eval_of ((put_other _ (by decide)).trans (put_same _ (size_lt hs (by decide))))) (eval_of (put_same _ (put_lt (size_lt hs (by decide)))))) (left_sm (by assumption) W (hpA.aft hW) (hpB.aft hW)) rfl
    refine flowObs_cons (fun W hW => flowOb_cons fun v0 h0 => flowOb_nil ?_) ?_
    · obtain rfl := h0
      exact duty_val (wants_none rfl) rfl (put_lt (size_lt hs (by decide))) (do_move rfl (eval_of (put_same _ (size_lt hs (by decide))))) rfl (Aft.refl W)
    refine flowObs_cons (fun W hW => flowOb_cons fun v0 h0 => flowOb_nil ?_) ?_
    · obtain rfl := h0
      cases l1
      case false =>
        exact duty_off rfl rfl (put_same _ (size_lt hs (by decide))) (by decide) rfl (put_lt (size_lt hs (by decide))) (fun h => Bool.noConfusion h)
      case true =>
        exact duty_val (wants_some rfl rfl (put_same _ (size_lt hs (by decide)))) rfl (put_lt (size_lt hs (by decide))) (do_move rfl (eval_of ((put_other _ (by decide)).trans e3))) (fun _ => rfl) (Aft.refl W)
    refine flowObs_cons (fun W hW => flowOb_cons fun v0 h0 => flowOb_nil ?_) ?_
    · obtain rfl := h0
      cases l1
      case false =>
        exact duty_off rfl rfl (put_same _ (size_lt hs (by decide))) (by decide) rfl (put_lt (size_lt hs (by decide))) (fun h => Bool.noConfusion h)
      case true =>
        exact duty_val (wants_some rfl rfl (put_same _ (size_lt hs (by decide)))) rfl (put_lt (size_lt hs (by decide))) (do_move rfl (eval_of ((put_other _ (by decide)).trans e5))) (fun _ => rfl) (Aft.refl W)
    refine flowObs_cons (fun W hW => flowOb_cons fun v0 h0 => flowOb_cons fun v1 h1 => flowOb_cons fun v2 h2 => flowOb_nil ?_) ?_
    · obtain rfl := h2
      cases l1
      case false =>
        exact duty_off rfl rfl (put_same _ (put_lt (put_lt (size_lt hs (by decide))))) (by decide) rfl (put_lt (put_lt (put_lt (size_lt hs (by decide))))) (fun h => Bool.noConfusion h)
      case true =>
        obtain rfl := h0 rfl
        obtain rfl := h1 rfl
        exact duty_val (wants_some rfl rfl (put_same _ (put_lt (put_lt (size_lt hs (by decide)))))) rfl (put_lt (put_lt (put_lt (size_lt hs (by decide))))) (idx43 W rfl (eval_of ((put_other _ (by decide)).trans ((put_other _ (by decide)).trans (put_same _ (size_lt hs (by decide)))))) (eval_of ((put_other _ (by decide)).trans (put_same _ (put_lt (size_lt hs (by decide)))))) (by assumption)) (fun _ => rfl) (Aft.refl W)
    refine flowObs_cons (fun W hW => flowOb_cons fun v0 h0 => flowOb_cons fun v1 h1 => flowOb_nil ?_) ?_
    · obtain rfl := h1
      cases l1
      case false =>
        exact duty_off rfl rfl (put_same _ (put_lt (size_lt hs (by decide)))) (by decide) rfl (put_lt (put_lt (size_lt hs (by decide)))) (fun h => Bool.noConfusion h)
      case true =>
        obtain rfl := h0 rfl
        exact duty_val (wants_some rfl rfl (put_same _ (put_lt (size_lt hs (by decide))))) rfl (put_lt (put_lt (size_lt hs (by decide)))) (load51 W rfl (eval_of ((put_other _ (by decide)).trans (put_same _ (size_lt hs (by decide))))) ((hW.cell (World.block_lt_of_cell? _ _ y1)).trans y1) ((hW.cell (World.block_lt_of_cell? _ _ y2)).trans y2)) (fun _ => rfl) (Aft.refl W)
    refine flowObs_cons (fun W hW => flowOb_cons fun v0 h0 => flowOb_nil ?_) ?_
    · obtain rfl := h0
      cases l1
      case false =>
        exact duty_off rfl rfl (put_same _ (size_lt hs (by decide))) (by decide) rfl (put_lt (size_lt hs (by decide))) (fun h => Bool.noConfusion h)
      case true =>
        exact duty_val (wants_some rfl rfl (put_same _ (size_lt hs (by decide)))) rfl (put_lt (size_lt hs (by decide))) (do_move rfl (eval_of ((put_other _ (by decide)).trans e3))) (fun _ => rfl) (Aft.refl W)
    refine flowObs_cons (fun W hW => flowOb_cons fun v0 h0 => flowOb_nil ?_) ?_
    · obtain rfl := h0
      cases l1
      case false =>
        exact duty_off rfl rfl (put_same _ (size_lt hs (by decide))) (by decide) rfl (put_lt (size_lt hs (by decide))) (fun h => Bool.noConfusion h)
      case true =>
        exact duty_val (wants_some rfl rfl (put_same _ (size_lt hs (by decide)))) rfl (put_lt (size_lt hs (by decide))) (do_move rfl (eval_of ((put_other _ (by decide)).trans e10))) (fun _ => rfl) (Aft.refl W)
    refine flowObs_cons (fun W hW => flowOb_cons fun v0 h0 => flowOb_cons fun v1 h1 => flowOb_cons fun v2 h2 => flowOb_nil ?_) ?_
    · obtain rfl := h2
      cases l1
      case false =>
        exact duty_off rfl rfl (put_same _ (put_lt (put_lt (size_lt hs (by decide))))) (by decide) rfl (put_lt (put_lt (put_lt (size_lt hs (by decide))))) (fun h => Bool.noConfusion h)
      case true =>
        obtain rfl := h0 rfl
        obtain rfl := h1 rfl
        exact duty_val (wants_some rfl rfl (put_same _ (put_lt (put_lt (size_lt hs (by decide)))))) rfl (put_lt (put_lt (put_lt (size_lt hs (by decide))))) (idx43 W rfl (eval_of ((put_other _ (by decide)).trans ((put_other _ (by decide)).trans (put_same _ (size_lt hs (by decide)))))) (eval_of ((put_other _ (by decide)).trans (put_same _ (put_lt (size_lt hs (by decide)))))) (by assumption)) (fun _ => rfl) (Aft.refl W)
    refine flowObs_cons (fun W hW => flowOb_cons fun v0 h0 => flowOb_cons fun v1 h1 => flowOb_nil ?_) ?_
    · obtain rfl := h1
      cases l1
      case false =>
        exact duty_off rfl rfl (put_same _ (put_lt (size_lt hs (by decide)))) (by decide) rfl (put_lt (put_lt (size_lt hs (by decide)))) (fun h => Bool.noConfusion h)
      case true =>
        obtain rfl := h0 rfl
        exact duty_val (wants_some rfl rfl (put_same _ (put_lt (size_lt hs (by decide))))) rfl (put_lt (put_lt (size_lt hs (by decide)))) (load51 W rfl (eval_of ((put_other _ (by decide)).trans (put_same _ (size_lt hs (by decide))))) ((hW.cell (World.block_lt_of_cell? _ _ z1)).trans z1) ((hW.cell (World.block_lt_of_cell? _ _ z2)).trans z2)) (fun _ => rfl) (Aft.refl W)
    refine flowObs_cons (fun W hW => flowOb_cons fun v0 h0 => flowOb_cons fun v1 h1 => flowOb_cons fun v2 h2 => flowOb_nil ?_) ?_
    · obtain rfl := h2
      cases l1
      case false =>
        exact duty_off rfl rfl (put_same _ (put_lt (put_lt (size_lt hs (by decide))))) (by decide) rfl (put_lt (put_lt (put_lt (size_lt hs (by decide))))) (fun h => Bool.noConfusion h)
      case true =>
        obtain rfl := h0 rfl
        obtain rfl := h1 rfl
        exact duty_call (wants_some rfl rfl (put_same _ (put_lt (put_lt (size_lt hs (by decide)))))) rfl (put_lt (put_lt (put_lt (size_lt hs (by decide))))) (call34 W rfl (eval_of ((put_other _ (by decide)).trans ((put_other _ (by decide)).trans (put_same _ (size_lt hs (by decide)))))) (eval_of ((put_other _ (by decide)).trans (put_same _ (put_lt (size_lt hs (by decide))))))) (left_sm (by assumption) W (hpB.aft hW) (hpC.aft hW)) (fun _ => rfl)
    refine flowObs_cons (fun W hW => flowOb_cons fun v0 h0 => flowOb_cons fun v1 h1 => flowOb_nil ?_) ?_
    · obtain rfl := h0
      cases l1
      case false =>
        obtain rfl : n187 = false := by rw [← e187]; simp
        exact duty_val (wants_none rfl) rfl (put_lt (put_lt (size_lt hs (by decide)))) (do_pick (p := false) rfl (eval_of ((put_other _ (by decide)).trans (put_same _ (size_lt hs (by decide))))) rfl) rfl (Aft.refl W)
      case true =>
        obtain rfl := h1 rfl
        obtain rfl : n187 = l2 := by rw [← e187]; simp
        exact duty_val (wants_none rfl) rfl (put_lt (put_lt (size_lt hs (by decide)))) (do_pick (p := true) rfl (eval_of ((put_other _ (by decide)).trans (put_same _ (size_lt hs (by decide))))) (eval_of (put_same _ (put_lt (size_lt hs (by decide)))))) rfl (Aft.refl W)
    refine flowObs_cons (fun W hW => flowOb_cons fun v0 h0 => flowOb_nil ?_) ?_
    · obtain rfl := h0
      exact duty_val (wants_none rfl) rfl (put_lt (size_lt hs (by decide))) (do_move rfl (eval_of (put_same _ (size_lt hs (by decide))))) rfl (Aft.refl W)
    refine flowObs_cons (fun W hW => flowOb_cons fun v0 h0 => flowOb_nil ?_) ?_
    · obtain rfl := h0
      cases n187
      case false =>
        exact duty_off rfl rfl (put_same _ (size_lt hs (by decide))) (by decide) rfl (put_lt (size_lt hs (by decide))) (fun h => Bool.noConfusion h)
      case true =>
        exact duty_val (wants_some rfl rfl (put_same _ (size_lt hs (by decide)))) rfl (put_lt (size_lt hs (by decide))) (do_move rfl (eval_of ((put_other _ (by decide)).trans e3))) (fun _ => rfl) (Aft.refl W)
    refine flowObs_cons (fun W hW => flowOb_cons fun v0 h0 => flowOb_nil ?_) ?_
    · obtain rfl := h0
      cases n187
      case false =>
        exact duty_off rfl rfl (put_same _ (size_lt hs (by decide))) (by decide) rfl (put_lt (size_lt hs (by decide))) (fun h => Bool.noConfusion h)
      case true =>
        exact duty_val (wants_some rfl rfl (put_same _ (size_lt hs (by decide)))) rfl (put_lt (size_lt hs (by decide))) (do_move rfl (eval_of ((put_other _ (by decide)).trans e4))) (fun _ => rfl) (Aft.refl W)
    refine flowObs_cons (fun W hW => flowOb_cons fun v0 h0 => flowOb_cons fun v1 h1 => flowOb_cons fun v2 h2 => flowOb_nil ?_) ?_
    · obtain rfl := h2
      cases n187
      case false =>
        exact duty_off rfl rfl (put_same _ (put_lt (put_lt (size_lt hs (by decide))))) (by decide) rfl (put_lt (put_lt (put_lt (size_lt hs (by decide))))) (fun h => Bool.noConfusion h)
      case true =>
        obtain rfl := h0 rfl
        obtain rfl := h1 rfl
        exact duty_val (wants_some rfl rfl (put_same _ (put_lt (put_lt (size_lt hs (by decide)))))) rfl (put_lt (put_lt (put_lt (size_lt hs (by decide))))) (idx43 W rfl (eval_of ((put_other _ (by decide)).trans ((put_other _ (by decide)).trans (put_same _ (size_lt hs (by decide)))))) (eval_of ((put_other _ (by decide)).trans (put_same _ (put_lt (size_lt hs (by decide)))))) (by assumption)) (fun _ => rfl) (Aft.refl W)
    refine flowObs_cons (fun W hW => flowOb_cons fun v0 h0 => flowOb_cons fun v1 h1 => flowOb_nil ?_) ?_
    · obtain rfl := h1
      cases n187
      case false =>
        exact duty_off rfl rfl (put_same _ (put_lt (size_lt hs (by decide)))) (by decide) rfl (put_lt (put_lt (size_lt hs (by decide)))) (fun h => Bool.noConfusion h)
      case true =>
        obtain rfl := h0 rfl
        exact duty_val (wants_some rfl rfl (put_same _ (put_lt (size_lt hs (by decide))))) rfl (put_lt (put_lt (size_lt hs (by decide)))) (load51 W rfl (eval_of ((put_other _ (by decide)).trans (put_same _ (size_lt hs (by decide))))) ((hW.cell (World.block_lt_of_cell? _ _ x1)).trans x1) ((hW.cell (World.block_lt_of_cell? _ _ x2)).trans x2)) (fun _ => rfl) (Aft.refl W)
    refine flowObs_cons (fun W hW => flowOb_cons fun v0 h0 => flowOb_nil ?_) ?_
    · obtain rfl := h0
      cases n187
      case false =>
        exact duty_off rfl rfl (put_same _ (size_lt hs (by decide))) (by decide) rfl (put_lt (size_lt hs (by decide))) (fun h => Bool.noConfusion h)
      case true =>
        exact duty_val (wants_some rfl rfl (put_same _ (size_lt hs (by decide)))) rfl (put_lt (size_lt hs (by decide))) (do_move rfl (eval_of ((put_other _ (by decide)).trans e3))) (fun _ => rfl) (Aft.refl W)
    refine flowObs_cons (fun W hW => flowOb_cons fun v0 h0 => flowOb_nil ?_) ?_
    · obtain rfl := h0
      cases n187
      case false =>
        exact duty_off rfl rfl (put_same _ (size_lt hs (by decide))) (by decide) rfl (put_lt (size_lt hs (by decide))) (fun h => Bool.noConfusion h)
      case true =>
        exact duty_val (wants_some rfl rfl (put_same _ (size_lt hs (by decide)))) rfl (put_lt (size_lt hs (by decide))) (do_move rfl (eval_of ((put_other _ (by decide)).trans e10))) (fun _ => rfl) (Aft.refl W)
    refine flowObs_cons (fun W hW => flowOb_cons fun v0 h0 => flowOb_cons fun v1 h1 => flowOb_cons fun v2 h2 => flowOb_nil ?_) ?_
    · obtain rfl := h2
      cases n187
      case false =>
        exact duty_off rfl rfl (put_same _ (put_lt (put_lt (size_lt hs (by decide))))) (by decide) rfl (put_lt (put_lt (put_lt (size_lt hs (by decide))))) (fun h => Bool.noConfusion h)
      case true =>
        obtain rfl := h0 rfl
        obtain rfl := h1 rfl
        exact duty_val (wants_some rfl rfl (put_same _ (put_lt (put_lt (size_lt hs (by decide)))))) rfl (put_lt (put_lt (put_lt (size_lt hs (by decide))))) (idx43 W rfl (eval_of ((put_other _ (by decide)).trans ((put_other _ (by decide)).trans (put_same _ (size_lt hs (by decide)))))) (eval_of ((put_other _ (by decide)).trans (put_same _ (put_lt (size_lt hs (by decide)))))) (by assumption)) (fun _ => rfl) (Aft.refl W)
    refine flowObs_cons (fun W hW => flowOb_cons fun v0 h0 => flowOb_cons fun v1 h1 => flowOb_nil ?_) ?_
    · obtain rfl := h1
      cases n187
      case false =>
        exact duty_off rfl rfl (put_same _ (put_lt (size_lt hs (by decide)))) (by decide) rfl (put_lt (put_lt (size_lt hs (by decide)))) (fun h => Bool.noConfusion h)
      case true =>
        obtain rfl := h0 rfl
        exact duty_val (wants_some rfl rfl (put_same _ (put_lt (size_lt hs (by decide))))) rfl (put_lt (put_lt (size_lt hs (by decide)))) (load51 W rfl (eval_of ((put_other _ (by decide)).trans (put_same _ (size_lt hs (by decide))))) ((hW.cell (World.block_lt_of_cell? _ _ z1)).trans z1) ((hW.cell (World.block_lt_of_cell? _ _ z2)).trans z2)) (fun _ => rfl) (Aft.refl W)
    refine flowObs_cons (fun W hW => flowOb_cons fun v0 h0 => flowOb_cons fun v1 h1 => flowOb_cons fun v2 h2 => flowOb_nil ?_) ?_
    · obtain rfl := h2
      cases n187
      case false =>
        exact duty_off rfl rfl (put_same _ (put_lt (put_lt (size_lt hs (by decide))))) (by decide) rfl (put_lt (put_lt (put_lt (size_lt hs (by decide))))) (fun h => Bool.noConfusion h)
      case true =>
        obtain rfl := h0 rfl
        obtain rfl := h1 rfl
        exact duty_call (wants_some rfl rfl (put_same _ (put_lt (put_lt (size_lt hs (by decide)))))) rfl (put_lt (put_lt (put_lt (size_lt hs (by decide))))) (call34 W rfl (eval_of ((put_other _ (by decide)).trans ((put_other _ (by decide)).trans (put_same _ (size_lt hs (by decide)))))) (eval_of ((put_other _ (by decide)).trans (put_same _ (put_lt (size_lt hs (by decide))))))) (left_sm (by assumption) W (hpA.aft hW) (hpC.aft hW)) (fun _ => rfl)
    refine flowObs_cons (fun W hW => flowOb_cons fun v0 h0 => flowOb_cons fun v1 h1 => flowOb_nil ?_) ?_
    · obtain rfl := h1
      cases n187
      case false =>
        exact duty_off rfl rfl (put_same _ (put_lt (size_lt hs (by decide)))) (by decide) rfl (put_lt (put_lt (size_lt hs (by decide)))) (fun h => Bool.noConfusion h)
      case true =>
        obtain rfl := h0 rfl
        subst e198
        exact duty_val (wants_some rfl rfl (put_same _ (put_lt (size_lt hs (by decide))))) rfl (put_lt (put_lt (size_lt hs (by decide)))) (do_not rfl (eval_of ((put_other _ (by decide)).trans (put_same _ (size_lt hs (by decide)))))) (fun _ => rfl) (Aft.refl W)
    refine flowObs_cons (fun W hW => flowOb_cons fun v0 h0 => flowOb_cons fun v1 h1 => flowOb_nil ?_) ?_
    · obtain rfl := h0
      cases n187
      case false =>
        obtain rfl : n199 = false := by rw [← e199]; simp
        exact duty_val (wants_none rfl) rfl (put_lt (put_lt (size_lt hs (by decide)))) (do_pick (p := false) rfl (eval_of ((put_other _ (by decide)).trans (put_same _ (size_lt hs (by decide))))) rfl) rfl (Aft.refl W)
      case true =>
        obtain rfl := h1 rfl
        obtain rfl : n199 = n198 := by rw [← e199]; simp
        exact duty_val (wants_none rfl) rfl (put_lt (put_lt (size_lt hs (by decide)))) (do_pick (p := true) rfl (eval_of ((put_other _ (by decide)).trans (put_same _ (size_lt hs (by decide))))) (eval_of (put_same _ (put_lt (size_lt hs (by decide)))))) rfl (Aft.refl W)
    refine flowObs_cons (fun W hW => flowOb_cons fun v0 h0 => flowOb_nil ?_) ?_
    · obtain rfl := h0
      exact duty_val (wants_none rfl) rfl (put_lt (size_lt hs (by decide))) (do_move rfl (eval_of (put_same _ (size_lt hs (by decide))))) rfl (Aft.refl W)
    refine flowObs_cons (fun W hW => flowOb_cons fun v0 h0 => flowOb_nil ?_) ?_
    · obtain rfl := h0
      cases n199
      case true =>
        exact duty_off rfl rfl (put_same _ (size_lt hs (by decide))) (by decide) rfl (put_lt (size_lt hs (by decide))) (fun h => Bool.noConfusion h)
      case false =>
        exact duty_val (wants_some rfl rfl (put_same _ (size_lt hs (by decide)))) rfl (put_lt (size_lt hs (by decide))) (do_move rfl (eval_of ((put_other _ (by decide)).trans e3))) (fun _ => rfl) (Aft.refl W)
    refine flowObs_cons (fun W hW => flowOb_cons fun v0 h0 => flowOb_nil ?_) ?_
    · obtain rfl := h0
      cases n199
      case true =>
        exact duty_off rfl rfl (put_same _ (size_lt hs (by decide))) (by decide) rfl (put_lt (size_lt hs (by decide))) (fun h => Bool.noConfusion h)
      case false =>
        exact duty_val (wants_some rfl rfl (put_same _ (size_lt hs (by decide)))) rfl (put_lt (size_lt hs (by decide))) (do_move rfl (eval_of ((put_other _ (by decide)).trans e4))) (fun _ => rfl) (Aft.refl W)
    refine flowObs_cons (fun W hW => flowOb_cons fun v0 h0 => flowOb_cons fun v1 h1 => flowOb_cons fun v2 h2 => flowOb_nil ?_) ?_
    · obtain rfl := h2
      cases n199
      case true =>
        exact duty_off rfl rfl (put_same _ (put_lt (put_lt (size_lt hs (by decide))))) (by decide) rfl (put_lt (put_lt (put_lt (size_lt hs (by decide))))) (fun h => Bool.noConfusion h)
      case false =>
        obtain rfl := h0 rfl
        obtain rfl := h1 rfl
        exact duty_val (wants_some rfl rfl (put_same _ (put_lt (put_lt (size_lt hs (by decide)))))) rfl (put_lt (put_lt (put_lt (size_lt hs (by decide))))) (idx43 W rfl (eval_of ((put_other _ (by decide)).trans ((put_other _ (by decide)).trans (put_same _ (size_lt hs (by decide)))))) (eval_of ((put_other _ (by decide)).trans (put_same _ (put_lt (size_lt hs (by decide)))))) (by assumption)) (fun _ => rfl) (Aft.refl W)
    refine flowObs_cons (fun W hW => flowOb_cons fun v0 h0 => flowOb_cons fun v1 h1 => flowOb_nil ?_) ?_
    · obtain rfl := h1
      cases n199
      case true =>
        exact duty_off rfl rfl (put_same _ (put_lt (size_lt hs (by decide)))) (by decide) rfl (put_lt (put_lt (size_lt hs (by decide)))) (fun h => Bool.noConfusion h)
      case false =>
        obtain rfl := h0 rfl
        exact duty_val (wants_some rfl rfl (put_same _ (put_lt (size_lt hs (by decide))))) rfl (put_lt (put_lt (size_lt hs (by decide)))) (load51 W rfl (eval_of ((put_other _ (by decide)).trans (put_same _ (size_lt hs (by decide))))) ((hW.cell (World.block_lt_of_cell? _ _ x1)).trans x1) ((hW.cell (World.block_lt_of_cell? _ _ x2)).trans x2)) (fun _ => rfl) (Aft.refl W)
    refine flowObs_cons (fun W hW => flowOb_cons fun v0 h0 => flowOb_nil ?_) ?_
    · obtain rfl := h0
      cases n199
      case true =>
        exact duty_off rfl rfl (put_same _ (size_lt hs (by decide))) (by decide) rfl (put_lt (size_lt hs (by decide))) (fun h => Bool.noConfusion h)
      case false =>
        exact duty_val (wants_some rfl rfl (put_same _ (size_lt hs (by decide)))) rfl (put_lt (size_lt hs (by decide))) (do_move rfl (eval_of ((put_other _ (by decide)).trans e3))) (fun _ => rfl) (Aft.refl W)
    refine flowObs_cons (fun W hW => flowOb_cons fun v0 h0 => flowOb_nil ?_) ?_
    · obtain rfl := h0
      cases n199
      case true =>
        exact duty_off rfl rfl (put_same _ (size_lt hs (by decide))) (by decide) rfl (put_lt (size_lt hs (by decide))) (fun h => Bool.noConfusion h)
      case false =>
        exact duty_val (wants_some rfl rfl (put_same _ (size_lt hs (by decide)))) rfl (put_lt (size_lt hs (by decide))) (do_move rfl (eval_of ((put_other _ (by decide)).trans e5))) (fun _ => rfl) (Aft.refl W)
    refine flowObs_cons (fun W hW => flowOb_cons fun v0 h0 => flowOb_cons fun v1 h1 => flowOb_cons fun v2 h2 => flowOb_nil ?_) ?_
    · obtain rfl := h2
      cases n199
      case true =>
        exact duty_off rfl rfl (put_same _ (put_lt (put_lt (size_lt hs (by decide))))) (by decide) rfl (put_lt (put_lt (put_lt (size_lt hs (by decide))))) (fun h => Bool.noConfusion h)
      case false =>
        obtain rfl := h0 rfl
        obtain rfl := h1 rfl
        exact duty_val (wants_some rfl rfl (put_same _ (put_lt (put_lt (size_lt hs (by decide)))))) rfl (put_lt (put_lt (put_lt (size_lt hs (by decide))))) (idx43 W rfl (eval_of ((put_other _ (by decide)).trans ((put_other _ (by decide)).trans (put_same _ (size_lt hs (by decide)))))) (eval_of ((put_other _ (by decide)).trans (put_same _ (put_lt (size_lt hs (by decide)))))) (by assumption)) (fun _ => rfl) (Aft.refl W)
    refine flowObs_cons (fun W hW => flowOb_cons fun v0 h0 => flowOb_cons fun v1 h1 => flowOb_nil ?_) ?_
    · obtain rfl := h1
      cases n199
      case true =>
        exact duty_off rfl rfl (put_same _ (put_lt (size_lt hs (by decide)))) (by decide) rfl (put_lt (put_lt (size_lt hs (by decide)))) (fun h => Bool.noConfusion h)
      case false =>
        obtain rfl := h0 rfl
        exact duty_val (wants_some rfl rfl (put_same _ (put_lt (size_lt hs (by decide))))) rfl (put_lt (put_lt (size_lt hs (by decide)))) (load51 W rfl (eval_of ((put_other _ (by decide)).trans (put_same _ (size_lt hs (by decide))))) ((hW.cell (World.block_lt_of_cell? _ _ y1)).trans y1) ((hW.cell (World.block_lt_of_cell? _ _ y2)).trans y2)) (fun _ => rfl) (Aft.refl W)
    refine flowObs_cons (fun W hW => flowOb_cons fun v0 h0 => flowOb_cons fun v1 h1 => flowOb_cons fun v2 h2 => flowOb_nil ?_) ?_
    · obtain rfl := h2
      cases n199
      case true =>
        exact duty_off rfl rfl (put_same _ (put_lt (put_lt (size_lt hs (by decide))))) (by decide) rfl (put_lt (put_lt (put_lt (size_lt hs (by decide))))) (fun h => Bool.noConfusion h)
      case false =>
        obtain rfl := h0 rfl
        obtain rfl := h1 rfl
        exact duty_call (wants_some rfl rfl (put_same _ (put_lt (put_lt (size_lt hs (by decide)))))) rfl (put_lt (put_lt (put_lt (size_lt hs (by decide))))) (call43 W rfl (eval_of ((put_other _ (by decide)).trans ((put_other _ (by decide)).trans (put_same _ (size_lt hs (by decide)))))) (eval_of ((put_other _ (by decide)).trans (put_same _ (put_lt (size_lt hs (by decide))))))) (longer_sm (by assumption) W (hpA.aft hW) (hpB.aft hW) sa sb) (fun _ => rfl)
    refine flowObs_cons (fun W hW => flowOb_cons fun v0 h0 => flowOb_cons fun v1 h1 => flowOb_nil ?_) ?_
    · obtain rfl := h1
      cases n199
      case true =>
        exact duty_off rfl rfl (put_same _ (put_lt (size_lt hs (by decide)))) (by decide) rfl (put_lt (put_lt (size_lt hs (by decide)))) ⟨fun h => Bool.noConfusion h, fun _ => rfl⟩
      case false =>
        obtain rfl := h0 rfl
        exact duty_val (wants_some rfl rfl (put_same _ (put_lt (size_lt hs (by decide))))) rfl (put_lt (put_lt (size_lt hs (by decide)))) (do_move rfl (eval_of ((put_other _ (by decide)).trans (put_same _ (size_lt hs (by decide)))))) ⟨fun _ => rfl, fun h => Bool.noConfusion h⟩ (Aft.refl W)
    refine flowObs_cons (fun W hW => flowOb_cons fun v0 h0 => flowOb_nil ?_) ?_
    · cases n199
      case true =>
        obtain rfl := h0.2 rfl
        exact duty_und rfl rfl (put_same _ (size_lt hs (by decide))) rfl (put_lt (size_lt hs (by decide))) (fun h => Bool.noConfusion h)
      case false =>
        obtain rfl := h0.1 rfl
        cases m1
        case false =>
          exact duty_off rfl rfl (put_same _ (size_lt hs (by decide))) (by decide) rfl (put_lt (size_lt hs (by decide))) (fun _ h => Bool.noConfusion h)
        case true =>
          exact duty_val (wants_some rfl rfl (put_same _ (size_lt hs (by decide)))) rfl (put_lt (size_lt hs (by decide))) (do_move rfl (eval_of ((put_other _ (by decide)).trans e3))) (fun _ _ => rfl) (Aft.refl W)
    refine flowObs_cons (fun W hW => flowOb_cons fun v0 h0 => flowOb_nil ?_) ?_
    · cases n199
      case true =>
        obtain rfl := h0.2 rfl
        exact duty_und rfl rfl (put_same _ (size_lt hs (by decide))) rfl (put_lt (size_lt hs (by decide))) (fun h => Bool.noConfusion h)
      case false =>
        obtain rfl := h0.1 rfl
        cases m1
        case false =>
          exact duty_off rfl rfl (put_same _ (size_lt hs (by decide))) (by decide) rfl (put_lt (size_lt hs (by decide))) (fun _ h => Bool.noConfusion h)
        case true =>
          exact duty_val (wants_some rfl rfl (put_same _ (size_lt hs (by decide)))) rfl (put_lt (size_lt hs (by decide))) (do_move rfl (eval_of ((put_other _ (by decide)).trans e5))) (fun _ _ => rfl) (Aft.refl W)
    refine flowObs_cons (fun W hW => flowOb_cons fun v0 h0 => flowOb_cons fun v1 h1 => flowOb_cons fun v2 h2 => flowOb_nil ?_) ?_
    · cases n199
      case true =>
        obtain rfl := h2.2 rfl
        exact duty_und rfl rfl (put_same _ (put_lt (put_lt (size_lt hs (by decide))))) rfl (put_lt (put_lt (put_lt (size_lt hs (by decide))))) (fun h => Bool.noConfusion h)
      case false =>
        obtain rfl := h2.1 rfl
        cases m1
        case false =>
          exact duty_off rfl rfl (put_same _ (put_lt (put_lt (size_lt hs (by decide))))) (by decide) rfl (put_lt (put_lt (put_lt (size_lt hs (by decide))))) (fun _ h => Bool.noConfusion h)
        case true =>
          obtain rfl := h0 rfl rfl
          obtain rfl := h1 rfl rfl
          exact duty_val (wants_some rfl rfl (put_same _ (put_lt (put_lt (size_lt hs (by decide)))))) rfl (put_lt (put_lt (put_lt (size_lt hs (by decide))))) (idx43 W rfl (eval_of ((put_other _ (by decide)).trans ((put_other _ (by decide)).trans (put_same _ (size_lt hs (by decide)))))) (eval_of ((put_other _ (by decide)).trans (put_same _ (put_lt (size_lt hs (by decide)))))) (by assumption)) (fun _ _ => rfl) (Aft.refl W)
    refine flowObs_cons (fun W hW => flowOb_cons fun v0 h0 => flowOb_cons fun v1 h1 => flowOb_nil ?_) ?_
    · cases n199
      case true =>
        obtain rfl := h1.2 rfl
        exact duty_und rfl rfl (put_same _ (put_lt (size_lt hs (by decide)))) rfl (put_lt (put_lt (size_lt hs (by decide)))) (fun h => Bool.noConfusion h)
      case false =>
        obtain rfl := h1.1 rfl
        cases m1
        case false =>
          exact duty_off rfl rfl (put_same _ (put_lt (size_lt hs (by decide)))) (by decide) rfl (put_lt (put_lt (size_lt hs (by decide)))) (fun _ h => Bool.noConfusion h)
        case true =>
          obtain rfl := h0 rfl rfl
          exact duty_val (wants_some rfl rfl (put_same _ (put_lt (size_lt hs (by decide))))) rfl (put_lt (put_lt (size_lt hs (by decide)))) (load51 W rfl (eval_of ((put_other _ (by decide)).trans (put_same _ (size_lt hs (by decide))))) ((hW.cell (World.block_lt_of_cell? _ _ y1)).trans y1) ((hW.cell (World.block_lt_of_cell? _ _ y2)).trans y2)) (fun _ _ => rfl) (Aft.refl W)
    refine flowObs_cons (fun W hW => flowOb_cons fun v0 h0 => flowOb_nil ?_) ?_
    · cases n199
      case true =>
        obtain rfl := h0.2 rfl
        exact duty_und rfl rfl (put_same _ (size_lt hs (by decide))) rfl (put_lt (size_lt hs (by decide))) (fun h => Bool.noConfusion h)
      case false =>
        obtain rfl := h0.1 rfl
        cases m1
        case false =>
          exact duty_off rfl rfl (put_same _ (size_lt hs (by decide))) (by decide) rfl (put_lt (size_lt hs (by decide))) (fun _ h => Bool.noConfusion h)
        case true =>
          exact duty_val (wants_some rfl rfl (put_same _ (size_lt hs (by decide)))) rfl (put_lt (size_lt hs (by decide))) (do_move rfl (eval_of ((put_other _ (by decide)).trans e3))) (fun _ _ => rfl) (Aft.refl W)
    refine flowObs_cons (fun W hW => flowOb_cons fun v0 h0 => flowOb_nil ?_) ?_
    · cases n199
      case true =>
        obtain rfl := h0.2 rfl
        exact duty_und rfl rfl (put_same _ (size_lt hs (by decide))) rfl (put_lt (size_lt hs (by decide))) (fun h => Bool.noConfusion h)
      case false =>
        obtain rfl := h0.1 rfl
        cases m1
        case false =>
          exact duty_off rfl rfl (put_same _ (size_lt hs (by decide))) (by decide) rfl (put_lt (size_lt hs (by decide))) (fun _ h => Bool.noConfusion h)
        case true =>
          exact duty_val (wants_some rfl rfl (put_same _ (size_lt hs (by decide)))) rfl (put_lt (size_lt hs (by decide))) (do_move rfl (eval_of ((put_other _ (by decide)).trans e10))) (fun _ _ => rfl) (Aft.refl W)
    refine flowObs_cons (fun W hW => flowOb_cons fun v0 h0 => flowOb_cons fun v1 h1 => flowOb_cons fun v2 h2 => flowOb_nil ?_) ?_
    · cases n199
      case true =>
        obtain rfl := h2.2 rfl
        exact duty_und rfl rfl (put_same _ (put_lt (put_lt (size_lt hs (by decide))))) rfl (put_lt (put_lt (put_lt (size_lt hs (by decide))))) (fun h => Bool.noConfusion h)
      case false =>
        obtain rfl := h2.1 rfl
        cases m1
        case false =>
          exact duty_off rfl rfl (put_same _ (put_lt (put_lt (size_lt hs (by decide))))) (by decide) rfl (put_lt (put_lt (put_lt (size_lt hs (by decide))))) (fun _ h => Bool.noConfusion h)
        case true =>
          obtain rfl := h0 rfl rfl
          obtain rfl := h1 rfl rfl
          exact duty_val (wants_some rfl rfl (put_same _ (put_lt (put_lt (size_lt hs (by decide)))))) rfl (put_lt (put_lt (put_lt (size_lt hs (by decide))))) (idx43 W rfl (eval_of ((put_other _ (by decide)).trans ((put_other _ (by decide)).trans (put_same _ (size_lt hs (by decide)))))) (eval_of ((put_other _ (by decide)).trans (put_same _ (put_lt (size_lt hs (by decide)))))) (by assumption)) (fun _ _ => rfl) (Aft.refl W)
    refine flowObs_cons (fun W hW => flowOb_cons fun v0 h0 => flowOb_cons fun v1 h1 => flowOb_nil ?_) ?_
    · cases n199
      case true =>
        obtain rfl := h1.2 rfl
        exact duty_und rfl rfl (put_same _ (put_lt (size_lt hs (by decide)))) rfl (put_lt (put_lt (size_lt hs (by decide)))) (fun h => Bool.noConfusion h)
      case false =>
        obtain rfl := h1.1 rfl
        cases m1
        case false =>
          exact duty_off rfl rfl (put_same _ (put_lt (size_lt hs (by decide)))) (by decide) rfl (put_lt (put_lt (size_lt hs (by decide)))) (fun _ h => Bool.noConfusion h)
        case true =>
          obtain rfl := h0 rfl rfl
          exact duty_val (wants_some rfl rfl (put_same _ (put_lt (size_lt hs (by decide))))) rfl (put_lt (put_lt (size_lt hs (by decide)))) (load51 W rfl (eval_of ((put_other _ (by decide)).trans (put_same _ (size_lt hs (by decide))))) ((hW.cell (World.block_lt_of_cell? _ _ z1)).trans z1) ((hW.cell (World.block_lt_of_cell? _ _ z2)).trans z2)) (fun _ _ => rfl) (Aft.refl W)
    refine flowObs_cons (fun W hW => flowOb_cons fun v0 h0 => flowOb_cons fun v1 h1 => flowOb_cons fun v2 h2 => flowOb_nil ?_) ?_
    · cases n199
      case true =>
        obtain rfl := h2.2 rfl
        exact duty_und rfl rfl (put_same _ (put_lt (put_lt (size_lt hs (by decide))))) rfl (put_lt (put_lt (put_lt (size_lt hs (by decide))))) (fun h => Bool.noConfusion h)
      case false =>
        obtain rfl := h2.1 rfl
        cases m1
        case false =>
          exact duty_off rfl rfl (put_same _ (put_lt (put_lt (size_lt hs (by decide))))) (by decide) rfl (put_lt (put_lt (put_lt (size_lt hs (by decide))))) (fun _ h => Bool.noConfusion h)
        case true =>
          obtain rfl := h0 rfl rfl
          obtain rfl := h1 rfl rfl
          exact duty_call (wants_some rfl rfl (put_same _ (put_lt (put_lt (size_lt hs (by decide)))))) rfl (put_lt (put_lt (put_lt (size_lt hs (by decide))))) (call43 W rfl (eval_of ((put_other _ (by decide)).trans ((put_other _ (by decide)).trans (put_same _ (size_lt hs (by decide)))))) (eval_of ((put_other _ (by decide)).trans (put_same _ (put_lt (size_lt hs (by decide))))))) (longer_sm (by assumption) W (hpB.aft hW) (hpC.aft hW) sb sc) (fun _ _ => rfl)
    refine flowObs_cons (fun W hW => flowOb_cons fun v0 h0 => flowOb_cons fun v1 h1 => flowOb_cons fun v2 h2 => flowOb_nil ?_) ?_
    · obtain rfl := h2
      cases n199
      case true =>
        exact duty_off rfl rfl (put_same _ (put_lt (put_lt (size_lt hs (by decide))))) (by decide) rfl (put_lt (put_lt (put_lt (size_lt hs (by decide))))) (fun h => Bool.noConfusion h)
      case false =>
        obtain rfl := h0.1 rfl
        cases m1
        case false =>
          obtain rfl : n220 = false := by rw [← e220]; simp
          exact duty_val (wants_some rfl rfl (put_same _ (put_lt (put_lt (size_lt hs (by decide)))))) rfl (put_lt (put_lt (put_lt (size_lt hs (by decide))))) (do_pick (p := false) rfl (eval_of ((put_other _ (by decide)).trans ((put_other _ (by decide)).trans (put_same _ (size_lt hs (by decide)))))) rfl) (fun _ => rfl) (Aft.refl W)
        case true =>
          obtain rfl := h1 rfl rfl
          obtain rfl : n220 = m2 := by rw [← e220]; simp
          exact duty_val (wants_some rfl rfl (put_same _ (put_lt (put_lt (size_lt hs (by decide)))))) rfl (put_lt (put_lt (put_lt (size_lt hs (by decide))))) (do_pick (p := true) rfl (eval_of ((put_other _ (by decide)).trans ((put_other _ (by decide)).trans (put_same _ (size_lt hs (by decide)))))) (eval_of ((put_other _ (by decide)).trans (put_same _ (put_lt (size_lt hs (by decide))))))) (fun _ => rfl) (Aft.refl W)
    refine flowObs_cons (fun W hW => flowOb_cons fun v0 h0 => flowOb_cons fun v1 h1 => flowOb_nil ?_) ?_
    · obtain rfl := h1
      cases n199
      case true =>
        exact duty_off rfl rfl (put_same _ (put_lt (size_lt hs (by decide)))) (by decide) rfl (put_lt (put_lt (size_lt hs (by decide)))) ⟨fun h => Bool.noConfusion h, fun _ => rfl⟩
      case false =>
        obtain rfl := h0 rfl
        exact duty_val (wants_some rfl rfl (put_same _ (put_lt (size_lt hs (by decide))))) rfl (put_lt (put_lt (size_lt hs (by decide)))) (do_move rfl (eval_of ((put_other _ (by decide)).trans (put_same _ (size_lt hs (by decide)))))) ⟨fun _ => rfl, fun h => Bool.noConfusion h⟩ (Aft.refl W)
    refine flowObs_cons (fun W hW => flowOb_cons fun v0 h0 => flowOb_nil ?_) ?_
    · cases n199
      case true =>
        obtain rfl := h0.2 rfl
        exact duty_und rfl rfl (put_same _ (size_lt hs (by decide))) rfl (put_lt (size_lt hs (by decide))) (fun h => Bool.noConfusion h)
      case false =>
        obtain rfl := h0.1 rfl
        cases n220
        case false =>
          exact duty_off rfl rfl (put_same _ (size_lt hs (by decide))) (by decide) rfl (put_lt (size_lt hs (by decide))) (fun _ h => Bool.noConfusion h)
        case true =>
          exact duty_val (wants_some rfl rfl (put_same _ (size_lt hs (by decide)))) rfl (put_lt (size_lt hs (by decide))) (do_move rfl (eval_of ((put_other _ (by decide)).trans e3))) (fun _ _ => rfl) (Aft.refl W)
    refine flowObs_cons (fun W hW => flowOb_cons fun v0 h0 => flowOb_nil ?_) ?_
    · cases n199
      case true =>
        obtain rfl := h0.2 rfl
        exact duty_und rfl rfl (put_same _ (size_lt hs (by decide))) rfl (put_lt (size_lt hs (by decide))) (fun h => Bool.noConfusion h)
      case false =>
        obtain rfl := h0.1 rfl
        cases n220
        case false =>
          exact duty_off rfl rfl (put_same _ (size_lt hs (by decide))) (by decide) rfl (put_lt (size_lt hs (by decide))) (fun _ h => Bool.noConfusion h)
        case true =>
          exact duty_val (wants_some rfl rfl (put_same _ (size_lt hs (by decide)))) rfl (put_lt (size_lt hs (by decide))) (do_move rfl (eval_of ((put_other _ (by decide)).trans e4))) (fun _ _ => rfl) (Aft.refl W)
    refine flowObs_cons (fun W hW => flowOb_cons fun v0 h0 => flowOb_cons fun v1 h1 => flowOb_cons fun v2 h2 => flowOb_nil ?_) ?_
    · cases n199
      case true =>
        obtain rfl := h2.2 rfl
        exact duty_und rfl rfl (put_same _ (put_lt (put_lt (size_lt hs (by decide))))) rfl (put_lt (put_lt (put_lt (size_lt hs (by decide))))) (fun h => Bool.noConfusion h)
      case false =>
        obtain rfl := h2.1 rfl
        cases n220
        case false =>
          exact duty_off rfl rfl (put_same _ (put_lt (put_lt (size_lt hs (by decide))))) (by decide) rfl (put_lt (put_lt (put_lt (size_lt hs (by decide))))) (fun _ h => Bool.noConfusion h)
        case true =>
          obtain rfl := h0 rfl rfl
          obtain rfl := h1 rfl rfl
          exact duty_val (wants_some rfl rfl (put_same _ (put_lt (put_lt (size_lt hs (by decide)))))) rfl (put_lt (put_lt (put_lt (size_lt hs (by decide))))) (idx43 W rfl (eval_of ((put_other _ (by decide)).trans ((put_other _ (by decide)).trans (put_same _ (size_lt hs (by decide)))))) (eval_of ((put_other _ (by decide)).trans (put_same _ (put_lt (size_lt hs (by decide)))))) (by assumption)) (fun _ _ => rfl) (Aft.refl W)
    refine flowObs_cons (fun W hW => flowOb_cons fun v0 h0 => flowOb_cons fun v1 h1 => flowOb_nil ?_) ?_
    · cases n199
      case true =>
        obtain rfl := h1.2 rfl
        exact duty_und rfl rfl (put_same _ (put_lt (size_lt hs (by decide)))) rfl (put_lt (put_lt (size_lt hs (by decide)))) (fun h => Bool.noConfusion h)
      case false =>
        obtain rfl := h1.1 rfl
        cases n220
        case false =>
          exact duty_off rfl rfl (put_same _ (put_lt (size_lt hs (by decide)))) (by decide) rfl (put_lt (put_lt (size_lt hs (by decide)))) (fun _ h => Bool.noConfusion h)
        case true =>
          obtain rfl := h0 rfl rfl
          exact duty_val (wants_some rfl rfl (put_same _ (put_lt (size_lt hs (by decide))))) rfl (put_lt (put_lt (size_lt hs (by decide)))) (load51 W rfl (eval_of ((put_other _ (by decide)).trans (put_same _ (size_lt hs (by decide))))) ((hW.cell (World.block_lt_of_cell? _ _ x1)).trans x1) ((hW.cell (World.block_lt_of_cell? _ _ x2)).trans x2)) (fun _ _ => rfl) (Aft.refl W)
    refine flowObs_cons (fun W hW => flowOb_cons fun v0 h0 => flowOb_nil ?_) ?_
    · cases n199
      case true =>
        obtain rfl := h0.2 rfl
        exact duty_und rfl rfl (put_same _ (size_lt hs (by decide))) rfl (put_lt (size_lt hs (by decide))) (fun h => Bool.noConfusion h)
      case false =>
        obtain rfl := h0.1 rfl
        cases n220
        case false =>
          exact duty_off rfl rfl (put_same _ (size_lt hs (by decide))) (by decide) rfl (put_lt (size_lt hs (by decide))) (fun _ h => Bool.noConfusion h)
        case true =>
          exact duty_val (wants_some rfl rfl (put_same _ (size_lt hs (by decide)))) rfl (put_lt (size_lt hs (by decide))) (do_move rfl (eval_of ((put_other _ (by decide)).trans e3))) (fun _ _ => rfl) (Aft.refl W)
    refine flowObs_cons (fun W hW => flowOb_cons fun v0 h0 => flowOb_nil ?_) ?_
    · cases n199
      case true =>
        obtain rfl := h0.2 rfl
        exact duty_und rfl rfl (put_same _ (size_lt hs (by decide))) rfl (put_lt (size_lt hs (by decide))) (fun h => Bool.noConfusion h)
      case false =>
        obtain rfl := h0.1 rfl
        cases n220
        case false =>
          exact duty_off rfl rfl (put_same _ (size_lt hs (by decide))) (by decide) rfl (put_lt (size_lt hs (by decide))) (fun _ h => Bool.noConfusion h)
        case true =>
          exact duty_val (wants_some rfl rfl (put_same _ (size_lt hs (by decide)))) rfl (put_lt (size_lt hs (by decide))) (do_move rfl (eval_of ((put_other _ (by decide)).trans e10))) (fun _ _ => rfl) (Aft.refl W)
    refine flowObs_cons (fun W hW => flowOb_cons fun v0 h0 => flowOb_cons fun v1 h1 => flowOb_cons fun v2 h2 => flowOb_nil ?_) ?_
    · cases n199
      case true =>
        obtain rfl := h2.2 rfl
        exact duty_und rfl rfl (put_same _ (put_lt (put_lt (size_lt hs (by decide))))) rfl (put_lt (put_lt (put_lt (size_lt hs (by decide))))) (fun h => Bool.noConfusion h)
      case false =>
        obtain rfl := h2.1 rfl
        cases n220
        case false =>
          exact duty_off rfl rfl (put_same _ (put_lt (put_lt (size_lt hs (by decide))))) (by decide) rfl (put_lt (put_lt (put_lt (size_lt hs (by decide))))) (fun _ h => Bool.noConfusion h)
        case true =>
          obtain rfl := h0 rfl rfl
          obtain rfl := h1 rfl rfl
          exact duty_val (wants_some rfl rfl (put_same _ (put_lt (put_lt (size_lt hs (by decide)))))) rfl (put_lt (put_lt (put_lt (size_lt hs (by decide))))) (idx43 W rfl (eval_of ((put_other _ (by decide)).trans ((put_other _ (by decide)).trans (put_same _ (size_lt hs (by decide)))))) (eval_of ((put_other _ (by decide)).trans (put_same _ (put_lt (size_lt hs (by decide)))))) (by assumption)) (fun _ _ => rfl) (Aft.refl W)
    refine flowObs_cons (fun W hW => flowOb_cons fun v0 h0 => flowOb_cons fun v1 h1 => flowOb_nil ?_) ?_
    · cases n199
      case true =>
        obtain rfl := h1.2 rfl
        exact duty_und rfl rfl (put_same _ (put_lt (size_lt hs (by decide)))) rfl (put_lt (put_lt (size_lt hs (by decide)))) (fun h => Bool.noConfusion h)
      case false =>
        obtain rfl := h1.1 rfl
        cases n220
        case false =>
          exact duty_off rfl rfl (put_same _ (put_lt (size_lt hs (by decide)))) (by decide) rfl (put_lt (put_lt (size_lt hs (by decide)))) (fun _ h => Bool.noConfusion h)
        case true =>
          obtain rfl := h0 rfl rfl
          exact duty_val (wants_some rfl rfl (put_same _ (put_lt (size_lt hs (by decide))))) rfl (put_lt (put_lt (size_lt hs (by decide)))) (load51 W rfl (eval_of ((put_other _ (by decide)).trans (put_same _ (size_lt hs (by decide))))) ((hW.cell (World.block_lt_of_cell? _ _ z1)).trans z1) ((hW.cell (World.block_lt_of_cell? _ _ z2)).trans z2)) (fun _ _ => rfl) (Aft.refl W)
    refine flowObs_cons (fun W hW => flowOb_cons fun v0 h0 => flowOb_cons fun v1 h1 => flowOb_cons fun v2 h2 => flowOb_nil ?_) ?_
    · cases n199
      case true =>
        obtain rfl := h2.2 rfl
        exact duty_und rfl rfl (put_same _ (put_lt (put_lt (size_lt hs (by decide))))) rfl (put_lt (put_lt (put_lt (size_lt hs (by decide))))) (fun h => Bool.noConfusion h)
      case false =>
        obtain rfl := h2.1 rfl
        cases n220
        case false =>
          exact duty_off rfl rfl (put_same _ (put_lt (put_lt (size_lt hs (by decide))))) (by decide) rfl (put_lt (put_lt (put_lt (size_lt hs (by decide))))) (fun _ h => Bool.noConfusion h)
        case true =>
          obtain rfl := h0 rfl rfl
          obtain rfl := h1 rfl rfl
          exact duty_call (wants_some rfl rfl (put_same _ (put_lt (put_lt (size_lt hs (by decide)))))) rfl (put_lt (put_lt (put_lt (size_lt hs (by decide))))) (call43 W rfl (eval_of ((put_other _ (by decide)).trans ((put_other _ (by decide)).trans (put_same _ (size_lt hs (by decide)))))) (eval_of ((put_other _ (by decide)).trans (put_same _ (put_lt (size_lt hs (by decide))))))) (longer_sm (by assumption) W (hpA.aft hW) (hpC.aft hW) sa sc) (fun _ _ => rfl)
    refine flowObs_cons (fun W hW => flowOb_cons fun v0 h0 => flowOb_cons fun v1 h1 => flowOb_nil ?_) ?_
    · cases n199
      case true =>
        obtain rfl := h1.2 rfl
        exact duty_und rfl rfl (put_same _ (put_lt (size_lt hs (by decide)))) rfl (put_lt (put_lt (size_lt hs (by decide)))) (fun h => Bool.noConfusion h)
      case false =>
        obtain rfl := h1.1 rfl
        cases n220
        case false =>
          exact duty_off rfl rfl (put_same _ (put_lt (size_lt hs (by decide)))) (by decide) rfl (put_lt (put_lt (size_lt hs (by decide)))) (fun _ h => Bool.noConfusion h)
        case true =>
          obtain rfl := h0 rfl rfl
          subst e231
          exact duty_val (wants_some rfl rfl (put_same _ (put_lt (size_lt hs (by decide))))) rfl (put_lt (put_lt (size_lt hs (by decide)))) (do_not rfl (eval_of ((put_other _ (by decide)).trans (put_same _ (size_lt hs (by decide)))))) (fun _ _ => rfl) (Aft.refl W)
    refine flowObs_cons (fun W hW => flowOb_cons fun v0 h0 => flowOb_cons fun v1 h1 => flowOb_cons fun v2 h2 => flowOb_nil ?_) ?_
    · obtain rfl := h2
      cases n199
      case true =>
        exact duty_off rfl rfl (put_same _ (put_lt (put_lt (size_lt hs (by decide))))) (by decide) rfl (put_lt (put_lt (put_lt (size_lt hs (by decide))))) (fun h => Bool.noConfusion h)
      case false =>
        obtain rfl := h0.1 rfl
        cases n220
        case false =>
          obtain rfl : n232 = false := by rw [← e232]; simp
          exact duty_val (wants_some rfl rfl (put_same _ (put_lt (put_lt (size_lt hs (by decide)))))) rfl (put_lt (put_lt (put_lt (size_lt hs (by decide))))) (do_pick (p := false) rfl (eval_of ((put_other _ (by decide)).trans ((put_other _ (by decide)).trans (put_same _ (size_lt hs (by decide)))))) rfl) (fun _ => rfl) (Aft.refl W)
        case true =>
          obtain rfl := h1 rfl rfl
          obtain rfl : n232 = n231 := by rw [← e232]; simp
          exact duty_val (wants_some rfl rfl (put_same _ (put_lt (put_lt (size_lt hs (by decide)))))) rfl (put_lt (put_lt (put_lt (size_lt hs (by decide))))) (do_pick (p := true) rfl (eval_of ((put_other _ (by decide)).trans ((put_other _ (by decide)).trans (put_same _ (size_lt hs (by decide)))))) (eval_of ((put_other _ (by decide)).trans (put_same _ (put_lt (size_lt hs (by decide))))))) (fun _ => rfl) (Aft.refl W)
    refine flowObs_cons (fun W hW => flowOb_cons fun v0 h0 => flowOb_cons fun v1 h1 => flowOb_nil ?_) flowObs_nil
    · obtain rfl := h0
      cases n199
      case true =>
        obtain rfl : n233 = true := by rw [← e233]; simp
        exact duty_val (wants_none rfl) rfl (put_lt (put_lt (size_lt hs (by decide)))) (do_pick (p := true) rfl (eval_of ((put_other _ (by decide)).trans (put_same _ (size_lt hs (by decide))))) rfl) rfl (Aft.refl W)
      case false =>
        obtain rfl := h1 rfl
        obtain rfl : n233 = n232 := by rw [← e233]; simp
        exact duty_val (wants_none rfl) rfl (put_lt (put_lt (size_lt hs (by decide)))) (do_pick (p := false) rfl (eval_of ((put_other _ (by decide)).trans (put_same _ (size_lt hs (by decide))))) (eval_of (put_same _ (put_lt (size_lt hs (by decide)))))) rfl (Aft.refl W)
  · intro W' hW'
    refine flowEnd_cons fun v168 _ => ?_
    refine flowEnd_cons fun v169 _ => ?_
    refine flowEnd_cons fun v170 _ => ?_
    refine flowEnd_cons fun v171 _ => ?_
    refine flowEnd_cons fun v172 _ => ?_
    refine flowEnd_cons fun v173 _ => ?_
    refine flowEnd_cons fun v174 _ => ?_
    refine flowEnd_cons fun v175 _ => ?_
    refine flowEnd_cons fun v176 _ => ?_
    refine flowEnd_cons fun v177 _ => ?_
    refine flowEnd_cons fun v178 _ => ?_
    refine flowEnd_cons fun v179 _ => ?_
    refine flowEnd_cons fun v180 _ => ?_
    refine flowEnd_cons fun v181 _ => ?_
    refine flowEnd_cons fun v182 _ => ?_
    refine flowEnd_cons fun v183 _ => ?_
    refine flowEnd_cons fun v184 _ => ?_
    refine flowEnd_cons fun v185 _ => ?_
    refine flowEnd_cons fun v186 _ => ?_
    refine flowEnd_cons fun v187 _ => ?_
    refine flowEnd_cons fun v188 _ => ?_
    refine flowEnd_cons fun v189 _ => ?_
    refine flowEnd_cons fun v190 _ => ?_
    refine flowEnd_cons fun v191 _ => ?_
    refine flowEnd_cons fun v192 _ => ?_
    refine flowEnd_cons fun v193 _ => ?_
    refine flowEnd_cons fun v194 _ => ?_
    refine flowEnd_cons fun v195 _ => ?_
    refine flowEnd_cons fun v196 _ => ?_
    refine flowEnd_cons fun v197 _ => ?_
    refine flowEnd_cons fun v198 _ => ?_
    refine flowEnd_cons fun v199 _ => ?_
    refine flowEnd_cons fun v200 _ => ?_
    refine flowEnd_cons fun v201 _ => ?_
    refine flowEnd_cons fun v202 _ => ?_
    refine flowEnd_cons fun v203 _ => ?_
    refine flowEnd_cons fun v204 _ => ?_
    refine flowEnd_cons fun v205 _ => ?_
    refine flowEnd_cons fun v206 _ => ?_
    refine flowEnd_cons fun v207 _ => ?_
    refine flowEnd_cons fun v208 _ => ?_
    refine flowEnd_cons fun v209 _ => ?_
    refine flowEnd_cons fun v210 _ => ?_
    refine flowEnd_cons fun v211 _ => ?_
    refine flowEnd_cons fun v212 _ => ?_
    refine flowEnd_cons fun v213 _ => ?_
    refine flowEnd_cons fun v214 _ => ?_
    refine flowEnd_cons fun v215 _ => ?_
    refine flowEnd_cons fun v216 _ => ?_
    refine flowEnd_cons fun v217 _ => ?_
    refine flowEnd_cons fun v218 _ => ?_
    refine flowEnd_cons fun v219 _ => ?_
    refine flowEnd_cons fun v220 _ => ?_
    refine flowEnd_cons fun v221 _ => ?_
    refine flowEnd_cons fun v222 _ => ?_
    refine flowEnd_cons fun v223 _ => ?_
    refine flowEnd_cons fun v224 _ => ?_
    refine flowEnd_cons fun v225 _ => ?_
    refine flowEnd_cons fun v226 _ => ?_
    refine flowEnd_cons fun v227 _ => ?_
    refine flowEnd_cons fun v228 _ => ?_
    refine flowEnd_cons fun v229 _ => ?_
    refine flowEnd_cons fun v230 _ => ?_
    refine flowEnd_cons fun v231 _ => ?_
    refine flowEnd_cons fun v232 _ => ?_
    refine flowEnd_cons fun v233 hE => flowEnd_nil ?_
    obtain rfl := hE
    obtain rfl : n233 = false := by
      rw [← e233, ← e232, ← e231, ← e220, ← e199, ← e198, ← e187]; exact HI
    exact hQ v168 v169 v170 v171 v172 v173 v174 v175 v176 v177 v178 v179 v180 v181 v182 v183 v184 v185 v186 v187 v188 v189 v190 v191 v192 v193 v194 v195 v196 v197 v198 v199 v200 v201 v202 v203 v204 v205 v206 v207 v208 v209 v210 v211 v212 v213 v214 v215 v216 v217 v218 v219 v220 v221 v222 v223 v224 v225 v226 v227 v228 v229 v230 v231 v232 W' _ hW' rfl
end Go.Proofs.Ytokdclbfjlnnjaa
