/- The innermost loop of PlaneOrders. -/
import Derived.Test.YtokdclbfjlnnjaaG9
namespace Go.Proofs.Ytokdclbfjlnnjaa
open Go.RowKit Go.BigFrame

noncomputable def kBody9 : Code := ((((Try.f9.body.bind firstLoop).bind firstLoop).bind firstLoop).getD .skip)

theorem two_of_three : ∀ a b c d e f : Bool, (a = true → b = true → c = true) → (d = true → e = true → f = true) → (((a && b) && !c) || ((d && e) && !f)) = false := by decide
theorem one_of_three : ∀ a b c : Bool, (a = true → b = true → c = true) → ((a && b) && !c) = false := by decide

set_option maxRecDepth 1000000 in
set_option maxHeartbeats 16000000 in
theorem kLoop9 {W4 : World} {b off c : Nat} {R : List (Int × Value)} {L : List Sh} (hSA : ShsAt W4 (some ⟨b, off, none⟩) L.length c R L) (hGL : GenL L) (hn : L.length ≤ 5)
    {i q : Nat} {ka kb : Int} {la lb : List Pt} {apa apb : Option Addr} {cpa cpb : Nat} (ga : Gen ka la) (gb : Gen kb lb)
    (HA : Hid (∀ W, Aft W4 W → W.cell? ⟨b, off + i * 2, none⟩ = some (.int .i64 ka) ∧ W.cell? ⟨b, off + i * 2 + 1, none⟩ = some (.slice apa (List.length la) cpa) ∧ b < W.heap.size ∧ Prs W (.slice apa (List.length la) cpa) la))
    (HB : Hid (∀ W, Aft W4 W → W.cell? ⟨b, off + q * 2, none⟩ = some (.int .i64 kb) ∧ W.cell? ⟨b, off + q * 2 + 1, none⟩ = some (.slice apb (List.length lb) cpb) ∧ b < W.heap.size ∧ Prs W (.slice apb (List.length lb) cpb) lb))
    (hlti : i < L.length) (hltq : q < L.length)
    (s0 s1 s2 s6 s7 s8 s9 s11 s12 s13 s14 s15 s16 s17 s18 s19 s20 s21 s22 s23 s24 s25 s26 s27 s28 s29 s30 s31 s32 s33 s34 s35 s36 s37 s38 s39 s40 s41 s42 s43 s44 s45 s46 s47 s48 s49 s50 s51 s52 s53 s54 s55 s56 s57 s58 s59 s60 s61 s62 s63 s64 s65 s66 s67 s68 s69 s70 s71 s72 s73 s74 s75 s76 s77 s78 s79 s80 s81 s82 s83 s84 s85 s86 s87 s88 s89 s90 s91 s92 s93 s94 s95 s96 s97 s98 s99 s100 s101 s102 s103 s104 s105 s106 s107 s108 s109 s110 s111 s112 s113 s114 s115 s116 s117 s118 s119 s120 s121 s122 s123 s124 s125 s126 s127 s128 s129 s130 s131 s132 s133 s134 s135 s136 s137 s138 s139 s140 s141 s142 s143 s144 s145 s146 s147 s148 s149 s150 s151 s152 s153 s154 s155 s156 s157 s158 s159 s160 s161 s162 s163 s164 s165 s166 s167 s168 s169 s170 s171 s172 s173 s174 s175 s176 s177 s178 s179 s180 s181 s182 s183 s184 s185 s186 s187 s188 s189 s190 s191 s192 s193 s194 s195 s196 s197 s198 s199 s200 s201 s202 s203 s204 s205 s206 s207 s208 s209 s210 s211 s212 s213 s214 s215 s216 s217 s218 s219 s220 s221 s222 s223 s224 s225 s226 s227 s228 s229 s230 s231 s232 s233 s234 : Value) (Q0 : Exit → Act → World → Prop) (W : World) (hw : Aft W4 W)
    (hexit : ∀ (u2 u10 u130 u131 u132 u133 u134 u135 u136 u137 u138 u139 u140 u141 u142 u143 u144 u145 u146 u147 u148 u149 u150 u151 u152 u153 u154 u155 u156 u157 u158 u159 u160 u161 u162 u163 u164 u165 u166 u167 u168 u169 u170 u171 u172 u173 u174 u175 u176 u177 u178 u179 u180 u181 u182 u183 u184 u185 u186 u187 u188 u189 u190 u191 u192 u193 u194 u195 u196 u197 u198 u199 u200 u201 u202 u203 u204 u205 u206 u207 u208 u209 u210 u211 u212 u213 u214 u215 u216 u217 u218 u219 u220 u221 u222 u223 u224 u225 u226 u227 u228 u229 u230 u231 u232 u233 : Value) (W' : World), Aft W4 W' → Q0 (.exit 4) ⟨List.toArray (s0 :: s1 :: u2 :: .slice (some ⟨b, off, none⟩) L.length c :: .int .i64 i :: .int .i64 q :: s6 :: s7 :: s8 :: s9 :: u10 :: s11 :: s12 :: s13 :: s14 :: s15 :: s16 :: s17 :: s18 :: s19 :: s20 :: s21 :: s22 :: s23 :: s24 :: s25 :: s26 :: s27 :: s28 :: s29 :: s30 :: s31 :: s32 :: s33 :: s34 :: s35 :: s36 :: s37 :: s38 :: s39 :: s40 :: s41 :: s42 :: s43 :: s44 :: s45 :: s46 :: s47 :: s48 :: s49 :: s50 :: s51 :: s52 :: s53 :: s54 :: s55 :: s56 :: s57 :: s58 :: s59 :: s60 :: s61 :: s62 :: s63 :: s64 :: s65 :: s66 :: s67 :: s68 :: s69 :: s70 :: s71 :: s72 :: s73 :: s74 :: s75 :: s76 :: s77 :: s78 :: s79 :: s80 :: s81 :: s82 :: s83 :: s84 :: s85 :: s86 :: s87 :: s88 :: s89 :: s90 :: s91 :: s92 :: s93 :: s94 :: s95 :: s96 :: s97 :: s98 :: s99 :: s100 :: s101 :: s102 :: s103 :: s104 :: s105 :: s106 :: s107 :: s108 :: s109 :: s110 :: s111 :: s112 :: s113 :: s114 :: s115 :: s116 :: s117 :: s118 :: s119 :: s120 :: s121 :: s122 :: s123 :: s124 :: s125 :: s126 :: s127 :: s128 :: s129 :: u130 :: u131 :: u132 :: u133 :: u134 :: u135 :: u136 :: u137 :: u138 :: u139 :: u140 :: u141 :: u142 :: u143 :: u144 :: u145 :: u146 :: u147 :: u148 :: u149 :: u150 :: u151 :: u152 :: u153 :: u154 :: u155 :: u156 :: u157 :: u158 :: u159 :: u160 :: u161 :: u162 :: u163 :: u164 :: u165 :: u166 :: u167 :: u168 :: u169 :: u170 :: u171 :: u172 :: u173 :: u174 :: u175 :: u176 :: u177 :: u178 :: u179 :: u180 :: u181 :: u182 :: u183 :: u184 :: u185 :: u186 :: u187 :: u188 :: u189 :: u190 :: u191 :: u192 :: u193 :: u194 :: u195 :: u196 :: u197 :: u198 :: u199 :: u200 :: u201 :: u202 :: u203 :: u204 :: u205 :: u206 :: u207 :: u208 :: u209 :: u210 :: u211 :: u212 :: u213 :: u214 :: u215 :: u216 :: u217 :: u218 :: u219 :: u220 :: u221 :: u222 :: u223 :: u224 :: u225 :: u226 :: u227 :: u228 :: u229 :: u230 :: u231 :: u232 :: u233 :: s234 :: []), []⟩ W') :
    Code.wp Try.prog (Code.loop kBody9) Q0 ⟨List.toArray (s0 :: s1 :: s2 :: .slice (some ⟨b, off, none⟩) L.length c :: .int .i64 i :: .int .i64 q :: s6 :: s7 :: s8 :: s9 :: .int .i64 0 :: s11 :: s12 :: s13 :: s14 :: s15 :: s16 :: s17 :: s18 :: s19 :: s20 :: s21 :: s22 :: s23 :: s24 :: s25 :: s26 :: s27 :: s28 :: s29 :: s30 :: s31 :: s32 :: s33 :: s34 :: s35 :: s36 :: s37 :: s38 :: s39 :: s40 :: s41 :: s42 :: s43 :: s44 :: s45 :: s46 :: s47 :: s48 :: s49 :: s50 :: s51 :: s52 :: s53 :: s54 :: s55 :: s56 :: s57 :: s58 :: s59 :: s60 :: s61 :: s62 :: s63 :: s64 :: s65 :: s66 :: s67 :: s68 :: s69 :: s70 :: s71 :: s72 :: s73 :: s74 :: s75 :: s76 :: s77 :: s78 :: s79 :: s80 :: s81 :: s82 :: s83 :: s84 :: s85 :: s86 :: s87 :: s88 :: s89 :: s90 :: s91 :: s92 :: s93 :: s94 :: s95 :: s96 :: s97 :: s98 :: s99 :: s100 :: s101 :: s102 :: s103 :: s104 :: s105 :: s106 :: s107 :: s108 :: s109 :: s110 :: s111 :: s112 :: s113 :: s114 :: s115 :: s116 :: s117 :: s118 :: s119 :: s120 :: s121 :: s122 :: s123 :: s124 :: s125 :: s126 :: s127 :: s128 :: s129 :: s130 :: s131 :: s132 :: s133 :: s134 :: s135 :: s136 :: s137 :: s138 :: s139 :: s140 :: s141 :: s142 :: s143 :: s144 :: s145 :: s146 :: s147 :: s148 :: s149 :: s150 :: s151 :: s152 :: s153 :: s154 :: s155 :: s156 :: s157 :: s158 :: s159 :: s160 :: s161 :: s162 :: s163 :: s164 :: s165 :: s166 :: s167 :: s168 :: s169 :: s170 :: s171 :: s172 :: s173 :: s174 :: s175 :: s176 :: s177 :: s178 :: s179 :: s180 :: s181 :: s182 :: s183 :: s184 :: s185 :: s186 :: s187 :: s188 :: s189 :: s190 :: s191 :: s192 :: s193 :: s194 :: s195 :: s196 :: s197 :: s198 :: s199 :: s200 :: s201 :: s202 :: s203 :: s204 :: s205 :: s206 :: s207 :: s208 :: s209 :: s210 :: s211 :: s212 :: s213 :: s214 :: s215 :: s216 :: s217 :: s218 :: s219 :: s220 :: s221 :: s222 :: s223 :: s224 :: s225 :: s226 :: s227 :: s228 :: s229 :: s230 :: s231 :: s232 :: s233 :: s234 :: []), []⟩ W := by
  have hii : (i : Int) < L.length := by omega
  have hqi : (q : Int) < L.length := by omega
  have sa := gen_sm ga
  have sb := gen_sm gb
  have hAn := sa.ne
  have hBn := sb.ne
  obtain ⟨o1, ho1⟩ : ∃ o, insideZ ka la kb lb = o := ⟨_, rfl⟩
  obtain ⟨l1, hl1⟩ : ∃ o, leftZ la lb = o := ⟨_, rfl⟩
  obtain ⟨m1, hm1⟩ : ∃ o, longerZ ka la kb lb = o := ⟨_, rfl⟩
  have HE := hid hexit
  clear hexit
  unfold kBody9
  conv => arg 2; arg 1; whnf
  go_loopw [10] (fun j wr => ∃ s : Nat, s ≤ L.length ∧ j = .int .i64 s ∧ Aft W4 wr) (fun j _ => L.length - (intOf j).toNat)
  case atStart => exact ⟨0, by omega, rfl, hw⟩
  case round =>
    obtain ⟨s, hs, rfl, hws⟩ := hrel
    rcases Nat.lt_or_ge s L.length with hlts | hges
    · have hsi : (s : Int) < L.length := by omega
      obtain ⟨b'', off'', kc, lc, apc, cpc, e, hgc, HC⟩ := shs_fix hSA hlts
      simp only [Option.some.injEq, Addr.mk.injEq, and_true] at e
      obtain ⟨rfl, rfl⟩ := e
      have gc : Gen kc lc := hGL _ (List.mem_of_getElem? hgc.out)
      have sc := gen_sm gc
      have hCn := sc.ne
      obtain ⟨o2, ho2⟩ : ∃ o, insideZ kb lb kc lc = o := ⟨_, rfl⟩
      obtain ⟨o3, ho3⟩ : ∃ o, insideZ ka la kc lc = o := ⟨_, rfl⟩
      obtain ⟨l2, hl2⟩ : ∃ o, leftZ lb lc = o := ⟨_, rfl⟩
      obtain ⟨l3, hl3⟩ : ∃ o, leftZ la lc = o := ⟨_, rfl⟩
      obtain ⟨m2, hm2⟩ : ∃ o, longerZ kb lb kc lc = o := ⟨_, rfl⟩
      obtain ⟨m3, hm3⟩ : ∃ o, longerZ ka la kc lc = o := ⟨_, rfl⟩
      have HI := one_of_three o1 o2 o3 (fun e1 e2 => ho3.symm.trans (inside_trans gb gc (ho1.trans e1) (ho2.trans e2)))
      have HLM := two_of_three l1 l2 l3 m1 m2 m3 (fun e1 e2 => hl3.symm.trans (left_trans hAn hBn hCn (hl1.trans e1) (hl2.trans e2))) (fun e1 e2 => hm3.symm.trans (longer_trans (hm1.trans e1) (hm2.trans e2)))
      go_upto_region 18 with fail
      obtain ⟨x1, x2, -, hpA⟩ := HA.out wr hws
      obtain ⟨y1, y2, -, hpB⟩ := HB.out wr hws
      obtain ⟨z1, z2, -, hpC⟩ := HC.out wr hws
      refine reg9_18 (c := c) (by kernel_rfl) (by kernel_rfl) (by kernel_rfl) (by kernel_rfl) (by kernel_rfl) hlti hltq hlts x1 x2 y1 y2 z1 z2 hpA hpB hpC sa sb sc ho1 ho2 ho3 HI ?_
      intro v136 v137 v138 v139 v140 v141 v142 v143 v144 v145 v146 v147 v148 v149 v150 v151 v152 v153 v154 v155 v156 v157 v158 v159 v160 v161 v162 v163 v164 v165 v166 WT aT hWT haT
      replace haT : aT = ⟨List.toArray (s0 :: s1 :: u2 :: .slice (some ⟨b, off, none⟩) L.length c :: .int .i64 i :: .int .i64 q :: s6 :: s7 :: s8 :: s9 :: .int .i64 s :: s11 :: s12 :: s13 :: s14 :: s15 :: s16 :: s17 :: s18 :: s19 :: s20 :: s21 :: s22 :: s23 :: s24 :: s25 :: s26 :: s27 :: s28 :: s29 :: s30 :: s31 :: s32 :: s33 :: s34 :: s35 :: s36 :: s37 :: s38 :: s39 :: s40 :: s41 :: s42 :: s43 :: s44 :: s45 :: s46 :: s47 :: s48 :: s49 :: s50 :: s51 :: s52 :: s53 :: s54 :: s55 :: s56 :: s57 :: s58 :: s59 :: s60 :: s61 :: s62 :: s63 :: s64 :: s65 :: s66 :: s67 :: s68 :: s69 :: s70 :: s71 :: s72 :: s73 :: s74 :: s75 :: s76 :: s77 :: s78 :: s79 :: s80 :: s81 :: s82 :: s83 :: s84 :: s85 :: s86 :: s87 :: s88 :: s89 :: s90 :: s91 :: s92 :: s93 :: s94 :: s95 :: s96 :: s97 :: s98 :: s99 :: s100 :: s101 :: s102 :: s103 :: s104 :: s105 :: s106 :: s107 :: s108 :: s109 :: s110 :: s111 :: s112 :: s113 :: s114 :: s115 :: s116 :: s117 :: s118 :: s119 :: s120 :: s121 :: s122 :: s123 :: s124 :: s125 :: s126 :: s127 :: s128 :: s129 :: .int .i64 s :: .slice (some ⟨b, off, none⟩) L.length c :: .int .i64 L.length :: .bool true :: u134 :: u135 :: v136 :: v137 :: v138 :: v139 :: v140 :: v141 :: v142 :: v143 :: v144 :: v145 :: v146 :: v147 :: v148 :: v149 :: v150 :: v151 :: v152 :: v153 :: v154 :: v155 :: v156 :: v157 :: v158 :: v159 :: v160 :: v161 :: v162 :: v163 :: v164 :: v165 :: v166 :: .bool false :: u168 :: u169 :: u170 :: u171 :: u172 :: u173 :: u174 :: u175 :: u176 :: u177 :: u178 :: u179 :: u180 :: u181 :: u182 :: u183 :: u184 :: u185 :: u186 :: u187 :: u188 :: u189 :: u190 :: u191 :: u192 :: u193 :: u194 :: u195 :: u196 :: u197 :: u198 :: u199 :: u200 :: u201 :: u202 :: u203 :: u204 :: u205 :: u206 :: u207 :: u208 :: u209 :: u210 :: u211 :: u212 :: u213 :: u214 :: u215 :: u216 :: u217 :: u218 :: u219 :: u220 :: u221 :: u222 :: u223 :: u224 :: u225 :: u226 :: u227 :: u228 :: u229 :: u230 :: u231 :: u232 :: u233 :: s234 :: []), []⟩ := haT.trans (by kernel_rfl)
      subst haT
      replace hws := hws.trans hWT
      clear x1 x2 y1 y2 z1 z2 hpA hpB hpC
      go_upto_region 20 with fail
      obtain ⟨x1, x2, -, hpA⟩ := HA.out WT hws
      obtain ⟨y1, y2, -, hpB⟩ := HB.out WT hws
      obtain ⟨z1, z2, -, hpC⟩ := HC.out WT hws
      refine reg9_20 (c := c) (by kernel_rfl) (by kernel_rfl) (by kernel_rfl) (by kernel_rfl) (by kernel_rfl) hlti hltq hlts x1 x2 y1 y2 z1 z2 hpA hpB hpC sa sb sc hl1 hl2 hl3 hm1 hm2 hm3 HLM ?_
      intro v168 v169 v170 v171 v172 v173 v174 v175 v176 v177 v178 v179 v180 v181 v182 v183 v184 v185 v186 v187 v188 v189 v190 v191 v192 v193 v194 v195 v196 v197 v198 v199 v200 v201 v202 v203 v204 v205 v206 v207 v208 v209 v210 v211 v212 v213 v214 v215 v216 v217 v218 v219 v220 v221 v222 v223 v224 v225 v226 v227 v228 v229 v230 v231 v232 WU aU hWU haU
      replace haU : aU = ⟨List.toArray (s0 :: s1 :: u2 :: .slice (some ⟨b, off, none⟩) L.length c :: .int .i64 i :: .int .i64 q :: s6 :: s7 :: s8 :: s9 :: .int .i64 s :: s11 :: s12 :: s13 :: s14 :: s15 :: s16 :: s17 :: s18 :: s19 :: s20 :: s21 :: s22 :: s23 :: s24 :: s25 :: s26 :: s27 :: s28 :: s29 :: s30 :: s31 :: s32 :: s33 :: s34 :: s35 :: s36 :: s37 :: s38 :: s39 :: s40 :: s41 :: s42 :: s43 :: s44 :: s45 :: s46 :: s47 :: s48 :: s49 :: s50 :: s51 :: s52 :: s53 :: s54 :: s55 :: s56 :: s57 :: s58 :: s59 :: s60 :: s61 :: s62 :: s63 :: s64 :: s65 :: s66 :: s67 :: s68 :: s69 :: s70 :: s71 :: s72 :: s73 :: s74 :: s75 :: s76 :: s77 :: s78 :: s79 :: s80 :: s81 :: s82 :: s83 :: s84 :: s85 :: s86 :: s87 :: s88 :: s89 :: s90 :: s91 :: s92 :: s93 :: s94 :: s95 :: s96 :: s97 :: s98 :: s99 :: s100 :: s101 :: s102 :: s103 :: s104 :: s105 :: s106 :: s107 :: s108 :: s109 :: s110 :: s111 :: s112 :: s113 :: s114 :: s115 :: s116 :: s117 :: s118 :: s119 :: s120 :: s121 :: s122 :: s123 :: s124 :: s125 :: s126 :: s127 :: s128 :: s129 :: .int .i64 s :: .slice (some ⟨b, off, none⟩) L.length c :: .int .i64 L.length :: .bool true :: u134 :: u135 :: v136 :: v137 :: v138 :: v139 :: v140 :: v141 :: v142 :: v143 :: v144 :: v145 :: v146 :: v147 :: v148 :: v149 :: v150 :: v151 :: v152 :: v153 :: v154 :: v155 :: v156 :: v157 :: v158 :: v159 :: v160 :: v161 :: v162 :: v163 :: v164 :: v165 :: v166 :: .bool false :: v168 :: v169 :: v170 :: v171 :: v172 :: v173 :: v174 :: v175 :: v176 :: v177 :: v178 :: v179 :: v180 :: v181 :: v182 :: v183 :: v184 :: v185 :: v186 :: v187 :: v188 :: v189 :: v190 :: v191 :: v192 :: v193 :: v194 :: v195 :: v196 :: v197 :: v198 :: v199 :: v200 :: v201 :: v202 :: v203 :: v204 :: v205 :: v206 :: v207 :: v208 :: v209 :: v210 :: v211 :: v212 :: v213 :: v214 :: v215 :: v216 :: v217 :: v218 :: v219 :: v220 :: v221 :: v222 :: v223 :: v224 :: v225 :: v226 :: v227 :: v228 :: v229 :: v230 :: v231 :: v232 :: .bool false :: s234 :: []), []⟩ := haU.trans (by kernel_rfl)
      subst haU
      replace hws := hws.trans hWU
      clear x1 x2 y1 y2 z1 z2 hpA hpB hpC
      go_wp2
      go_roundw
      case rel => exact ⟨s + 1, by omega, by go_num, hws⟩
      case measure => simp only [intOf]; omega
    · obtain rfl : s = L.length := by omega
      have hexit := HE.out
      clear HE
      go_wp2
      exact hws
end Go.Proofs.Ytokdclbfjlnnjaa
