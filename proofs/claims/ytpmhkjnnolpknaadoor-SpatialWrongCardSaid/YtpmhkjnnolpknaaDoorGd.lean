/- SpatialWrong in plain words. Conditions are in the theorems. -/
import Derived.Test.YtpmhkjnnolpknaaDoorGc
/- SpatialWrong in plain words: a page with one cell changed. -/
namespace Go.Proofs
open Go Go.Ax Go.Ax.Alg
/-! ### Pages of the same shape -/
theorem dropE_nil (q : List (List UInt8)) : ∀ n i, dropE q n ≤ i → i < n → q[i]? = some []
  | 0, i, _, h => by omega
  | n + 1, i, h1, h2 => by
    unfold dropE at h1
    split at h1
    · rename_i h
      by_cases hi : i = n
      · rw [hi]; exact h
      · exact dropE_nil q n i h1 (by omega)
    · omega
theorem plain_get (p : List (List UInt8)) (i : Nat) : ((plainZ p)[i]?).getD [] = trimL ((p[i]?).getD []) := by
  unfold plainZ
  rw [List.getElem?_take]
  by_cases hi : i < p.length
  · have hg : (p.map trimL)[i]? = some (trimL p[i]) := by rw [List.getElem?_map, List.getElem?_eq_getElem hi]; rfl
    rw [List.getElem?_eq_getElem hi]
    split
    · rw [hg]; rfl
    · rename_i h
      have := dropE_nil (p.map trimL) p.length i (by omega) hi
      rw [hg] at this
      have e : trimL p[i] = [] := Option.some.inj this
      show [] = trimL p[i]
      rw [e]
  · have h1 : p[i]? = none := List.getElem?_eq_none (by omega)
    have h2 : (p.map trimL)[i]? = none := List.getElem?_eq_none (by simp; omega)
    rw [h1, h2]
    split <;> rfl
theorem trim_inj {l l' : List UInt8} (h : trimL l = trimL l') (hn : l.length = l'.length) : l = l' := by
  obtain ⟨k, hk⟩ := trim_zeros l
  obtain ⟨k', hk'⟩ := trim_zeros l'
  have h1 := congrArg List.length hk
  have h2 := congrArg List.length hk'
  rw [List.length_append, List.length_replicate] at h1 h2
  rw [h] at h1
  rw [hk, hk', h, show k = k' by omega]
theorem plain_inj {p q : List (List UInt8)} (hn : p.length = q.length) (hl : ∀ (i : Nat) (l l' : List UInt8), p[i]? = some l → q[i]? = some l' → l.length = l'.length) (h : plainZ p = plainZ q) : p = q := by
  apply List.ext_getElem hn
  intro i h1 h2
  have e := plain_get p i
  rw [h, plain_get q i, List.getElem?_eq_getElem h1, List.getElem?_eq_getElem h2] at e
  exact trim_inj e.symm (hl i _ _ (List.getElem?_eq_getElem h1) (List.getElem?_eq_getElem h2))
/-! ### The number of a line, however long -/
def numF : List UInt8 → Nat → Nat
  | [], n => n
  | c :: l, n => match cdig c with
    | none => numF l n
    | some d => numF l (10 * n + d)
theorem numF_app : ∀ (a b : List UInt8) (n : Nat), numF (a ++ b) n = numF b (numF a n)
  | [], b, n => rfl
  | c :: a, b, n => by
    show (match cdig c with | none => numF (a ++ b) n | some d => numF (a ++ b) (10 * n + d)) = numF b (match cdig c with | none => numF a n | some d => numF a (10 * n + d))
    cases cdig c with
    | none => exact numF_app a b n
    | some d => exact numF_app a b _
theorem numF_zeros (k n : Nat) : numF (List.replicate k 0) n = n := by
  induction k with
  | zero => rfl
  | succ k ih =>
    rw [List.replicate_succ]
    show (match cdig 0 with | none => numF (List.replicate k 0) n | some d => numF (List.replicate k 0) (10 * n + d)) = n
    rw [show cdig 0 = none by decide]
    exact ih
theorem numF_dec (u : Nat) : numF (dcells u) 0 = u := by
  induction u using Nat.strongRecOn with
  | _ u ih =>
    have h1 : ∀ d n, d < 10 → numF [cellB (UInt8.ofNat (48 + d))] n = 10 * n + d := by
      intro d n hd
      show (match cdig (cellB (UInt8.ofNat (48 + d))) with | none => n | some d => 10 * n + d) = _
      rw [(cdig_dig hd).2]
    by_cases hu : u < 10
    · rw [dcells_small hu, h1 u 0 hu]; omega
    · rw [dcells_big hu, numF_app, ih (u / 10) (by omega), h1 _ _ (by omega)]; omega
theorem numF_line {w n left : Nat} (h : left + lenN n ≤ w) : numF (lineZ w n left) 0 = n := by
  rw [lineZ_eq h, numF_app, numF_app, numF_zeros, numF_zeros, numF_dec]
theorem numF_trim (l : List UInt8) : numF (trimL l) 0 = numF l 0 := by
  obtain ⟨k, hk⟩ := trim_zeros l
  conv => rhs; rw [hk]
  rw [numF_app, numF_zeros]
/-! ### What is guessed of a page of an addition or a subtraction -/
theorem guess_gen {op : Int} (ho : op = 3 ∨ op = 4) {F t : List UInt8} {M rest : List (List UInt8)} (hF : ∀ c ∈ F, isD c = true) (hM : ∀ l ∈ M, ∀ c ∈ l, isD c = true) (hn : 0 < M.length) :
    guessZ ((F :: M) ++ ((signOf op :: t) :: rest)) = withZ op (M ++ [t]) := by
  have hop : opOf (signOf op) = some op := by
    unfold signOf
    rcases ho with rfl | rfl <;> decide
  have hfr : frOf op = 1 := by
    unfold frOf
    rw [if_neg (by omega)]
  have hq : ∀ l ∈ F :: M, ∀ c ∈ l, isD c = true := by
    intro l hl
    rcases List.mem_cons.1 hl with rfl | hl
    · exact hF
    · exact hM l hl
  have hg : ((F :: M) ++ (signOf op :: t) :: rest).getD 1 [] ∈ F :: M := by
    rw [List.getD_eq_getElem?_getD, List.getElem?_append_left (by simp; omega), List.getElem?_eq_getElem (by simp; omega)]
    exact List.getElem_mem _
  unfold guessZ
  rw [if_neg (by simp; omega), find_isD (hq _ hg)]
  simp only []
  rw [scan_skip _ (F :: M) _ 0 hq, scan_op hop, hfr, if_neg (by rw [List.length_cons]; omega), show 0 + (F :: M).length = (F :: M).length by omega, List.take_left]
  rfl
theorem valsF_set : ∀ {L : List (List UInt8)} {a b : List Int} {m : Nat} {y : List UInt8}, valsF L = some a → valsF (L.set m y) = some b → m < L.length → b = a.set m (valZ y).1
  | [], _, _, _, _, _, _, h => by simp at h
  | x :: L, a, b, 0, y, ha, hb, _ => by
    have ha : (if (valZ x).2 then (valsF L).map ((valZ x).1 :: ·) else none) = some a := ha
    have hb : (if (valZ y).2 then (valsF L).map ((valZ y).1 :: ·) else none) = some b := hb
    split at ha
    · obtain ⟨u, hu, rfl⟩ := Option.map_eq_some_iff.1 ha
      split at hb
      · obtain ⟨v, hv, rfl⟩ := Option.map_eq_some_iff.1 hb
        rw [hu] at hv
        obtain rfl := Option.some.inj hv
        rfl
      · cases hb
    · cases ha
  | x :: L, a, b, m + 1, y, ha, hb, h => by
    have ha : (if (valZ x).2 then (valsF L).map ((valZ x).1 :: ·) else none) = some a := ha
    have hb : (if (valZ x).2 then (valsF (L.set m y)).map ((valZ x).1 :: ·) else none) = some b := hb
    split at ha
    · rename_i hx
      obtain ⟨u, hu, rfl⟩ := Option.map_eq_some_iff.1 ha
      rw [if_pos hx] at hb
      obtain ⟨v, hv, rfl⟩ := Option.map_eq_some_iff.1 hb
      rw [valsF_set hu hv (by simpa using h)]
      rfl
    · cases ha
theorem sum_set : ∀ {a : List Int} {m : Nat} {v : Int}, (h : m < a.length) → (a.set m v).sum = a.sum - a[m] + v
  | x :: a, 0, v, _ => by simp; omega
  | x :: a, m + 1, v, h => by
    rw [List.set_cons_succ, List.sum_cons, List.sum_cons, sum_set (by simpa using h)]
    simp
    omega
theorem read_ok {q : List (List UInt8)} (h : (readZ q).2.2 = 0) : ∃ op a, guessZ q = (op, a, true) ∧ Val op a ∧ plainZ q = plainZ (pageZ op a) ∧ readZ q = (op, a, 0) := by
  unfold readZ at h ⊢
  generalize guessZ q = g at *
  obtain ⟨op, a, b⟩ := g
  split at h
  · rename_i h1
    split at h
    · rename_i h2
      have hb : b = true := h1
      refine ⟨op, a, by rw [hb], val_of h2.1, h2.2, ?_⟩
      rw [if_pos hb, if_pos h2]
    · cases h
  · cases h
theorem isD_set {l : List UInt8} (h : ∀ c ∈ l, isD c = true) {j : Nat} {c : UInt8} (hc : isD c = true) : ∀ d ∈ l.set j c, isD d = true := by
  intro d hd
  rcases List.mem_or_eq_of_mem_set hd with h' | h'
  · exact h d h'
  · rw [h']; exact hc
/-- Another digit in the place of a digit of an addition or a subtraction: there is no such layout. -/
theorem wrong_digit {op : Int} {a : List Int} (V : Val op a) (ho : op = 3 ∨ op = 4) {k j : Nat} {l : List UInt8} {old c : UInt8} (hk : (pageZ op a)[k]? = some l) (hj : l[j]? = some old) (h1 : old ∈ digs10) (h2 : c ∈ digs10) (hne : plainZ (pageZ op a) ≠ plainZ ((pageZ op a).set k (l.set j c))) : (readZ ((pageZ op a).set k (l.set j c))).2.2 ≠ 0 := by
  intro hr
  obtain ⟨op', a', hg, V', hpl, _⟩ := read_ok hr
  obtain ⟨ini, z, r, w, S⟩ := sums_shape V ho
  have h8 := V.eight
  have hall := S.all
  have hne0 := S.ne
  have ha := S.ha
  have hz := hall z (by rw [ha]; simp)
  have hz' : lenN z.toNat + 1 ≤ w := hz.2.2
  have hc : isD c = true := by unfold isD; rw [Bool.or_eq_true]; exact .inr (List.any_eq_true.2 ⟨_, h2, decide_eq_true rfl⟩)
  have hb : pageZ op a = (firstZ w op (ini ++ [z]) :: (ini.map fun x => lineZ w x.toNat 0)) ++ ((signOf op :: lineZ (w - 1) z.toNat 0) :: [List.replicate w 18, lineZ w r.toNat 0]) := by
    rw [S.page]
    unfold sumsZ signOf
    rw [signed_line hz']
  have hF : ∀ c ∈ firstZ w op (ini ++ [z]), isD c = true := first_isD (by rw [← ha]; exact h8)
  have hM : ∀ l ∈ ini.map fun x => lineZ w x.toNat 0, ∀ c ∈ l, isD c = true := by
    intro l hl
    obtain ⟨x, _, rfl⟩ := List.mem_map.1 hl
    exact line_isD _ _ _
  have hvals : valsF ((ini.map fun x => lineZ w x.toNat 0) ++ [lineZ (w - 1) z.toNat 0]) = some a := by
    rw [valsF_app, valsF_lines (fun x hx => by have := hall x (by rw [ha]; simp [hx]); omega), valsF_one (valZ_line hz.1 hz.2.1 (by omega)), ha]
    rfl
  have hMl : (ini.map fun x => lineZ w x.toNat 0).length = ini.length := by simp
  -- the same numbers: the same page
  have same : ¬ (op', a') = (op, a) := by
    intro h
    obtain ⟨rfl, rfl⟩ := Prod.mk.inj h
    exact hne hpl.symm
  -- one number changed: another result
  have other : ∀ (q : List (List UInt8)) (m : Nat) (y : List UInt8), q = (pageZ op a).set k (l.set j c) → q.length = a.length + 3 → q[a.length + 2]? = some (lineZ w r.toNat 0) → guessZ q = withZ op (((ini.map fun x => lineZ w x.toNat 0) ++ [lineZ (w - 1) z.toNat 0]).set m y) → m < a.length → False := by
    intro q m y hq hlen hlast hgq hm
    rw [← hq] at hg hpl
    rw [hg] at hgq
    unfold withZ at hgq
    cases hv : valsF (((ini.map fun x => lineZ w x.toNat 0) ++ [lineZ (w - 1) z.toNat 0]).set m y) with
    | none => rw [hv] at hgq; cases hgq
    | some b =>
      rw [hv] at hgq
      have hgq : (op', a', true) = (op, b, true) := hgq
      have e1 : op' = op := congrArg (·.1) hgq
      have e2 : a' = b := congrArg (·.2.1) hgq
      have e3 := valsF_set hvals hv (by rw [List.length_append, hMl]; rw [ha] at hm; simpa using hm)
      subst e1
      subst e2
      obtain ⟨ini', z', r', w', S'⟩ := sums_shape V' ho
      have hla : a'.length = a.length := by rw [e3]; simp
      have hla' : ini'.length + 1 = a.length := by rw [← hla, S'.ha]; simp
      have hlast' : (pageZ op' a')[a.length + 2]? = some (lineZ w' r'.toNat 0) := by
        rw [S'.page]
        unfold sumsZ
        rw [show a.length + 2 = (firstZ w' op' (ini' ++ [z']) :: (ini'.map fun x => lineZ w' x.toNat 0)).length + 2 by simp; omega, List.getElem?_append_right (by omega)]
        simp
      have e4 := plain_get q (a.length + 2)
      rw [hpl, plain_get, hlast, hlast'] at e4
      have e5 : trimL (lineZ w' r'.toNat 0) = trimL (lineZ w r.toNat 0) := e4
      have e6 := congrArg (numF · 0) e5
      simp only [numF_trim] at e6
      rw [numF_line (by have := S'.rw'; show 0 + lenZ r' ≤ w'; omega), numF_line (by have := S.rw'; show 0 + lenZ r ≤ w; omega)] at e6
      have hr0 := S.r0
      have hr0' := S'.r0
      have e7 : r' = r := by omega
      have hres := S.res
      have hres' := S'.res
      apply same
      rw [Prod.mk.injEq]
      refine ⟨rfl, ?_⟩
      rcases ho with rfl | rfl
      · have h1 : r = a.sum := hres
        have h2 : r' = a'.sum := hres'
        rw [e3] at h2
        have h3 := sum_set (v := (valZ y).1) hm
        rw [e3, show (valZ y).1 = a[m] by omega, List.set_getElem_self]
      · have hp := V.pair (by omega)
        have hp' := V'.pair (by omega)
        have h1 : r = a.getD 0 0 - a.getD 1 0 := hres
        have h2 : r' = a'.getD 0 0 - a'.getD 1 0 := hres'
        generalize (valZ y).1 = v at e3
        match a, hp, hm, e3, h1, h2 with
        | [x, y], _, hm, e3, h1, h2 =>
          subst e3
          match m, hm with
          | 0, _ =>
            have h1 : r = x - y := h1
            have h2 : r' = v - y := h2
            show [v, y] = [x, y]
            rw [show v = x by omega]
          | 1, _ =>
            have h1 : r = x - y := h1
            have h2 : r' = x - v := h2
            show [x, v] = [x, y]
            rw [show v = y by omega]
  have hal : a.length = ini.length + 1 := by rw [ha]; simp
  generalize hM' : (ini.map fun x => lineZ w x.toNat 0) = M at *
  generalize hF' : firstZ w op (ini ++ [z]) = F at *
  generalize ht' : lineZ (w - 1) z.toNat 0 = t at *
  rw [hb] at hk
  have hwith : withZ op (M ++ [t]) = (op, a, true) := by unfold withZ; rw [hvals]
  by_cases c0 : k = 0
  · subst c0
    have hl : l = F := by simpa using hk.symm
    rw [hb] at hg
    have : ((F :: M) ++ ((signOf op :: t) :: [List.replicate w 18, lineZ w r.toNat 0])).set 0 (l.set j c) = (l.set j c :: M) ++ ((signOf op :: t) :: [List.replicate w 18, lineZ w r.toNat 0]) := rfl
    rw [this, guess_gen ho (isD_set (by rw [hl]; exact hF) hc) hM (by omega), hwith] at hg
    exact same (by rw [Prod.mk.injEq]; exact ⟨(congrArg (·.1) hg).symm, (congrArg (·.2.1) hg).symm⟩)
  by_cases c1 : k ≤ M.length
  · obtain ⟨m, rfl⟩ : ∃ m, k = m + 1 := ⟨k - 1, by omega⟩
    have hl : M[m]? = some l := by
      rw [List.getElem?_append_left (by simp; omega)] at hk
      simpa using hk
    have hq : ((F :: M) ++ ((signOf op :: t) :: [List.replicate w 18, lineZ w r.toNat 0])).set (m + 1) (l.set j c) = (F :: M.set m (l.set j c)) ++ ((signOf op :: t) :: [List.replicate w 18, lineZ w r.toNat 0]) := by
      rw [List.set_append_left _ _ (by simp; omega)]
      rfl
    refine other _ m (l.set j c) (by rw [hb]) (by rw [hq]; simp; omega) ?_ ?_ (by omega)
    · rw [hq, show a.length + 2 = (F :: M.set m (l.set j c)).length + 2 by simp; omega, List.getElem?_append_right (by omega)]
      simp
    · rw [hq, guess_gen ho hF (fun x hx => ?_) (by simp; omega), List.set_append_left _ _ (by omega)]
      rcases List.mem_or_eq_of_mem_set hx with h | h
      · exact hM x h
      · rw [h]
        exact isD_set (hM l (List.mem_of_getElem? hl)) hc
  · obtain ⟨i, rfl⟩ : ∃ i, k = (F :: M).length + i := ⟨k - (M.length + 1), by simp; omega⟩
    rw [List.getElem?_append_right (by omega), show (F :: M).length + i - (F :: M).length = i by omega] at hk
    have hq : ((F :: M) ++ ((signOf op :: t) :: [List.replicate w 18, lineZ w r.toNat 0])).set ((F :: M).length + i) (l.set j c) = (F :: M) ++ ((signOf op :: t) :: [List.replicate w 18, lineZ w r.toNat 0]).set i (l.set j c) := by
      rw [List.set_append_right _ _ (by omega), show (F :: M).length + i - (F :: M).length = i by omega]
    match i, hk with
    | 0, hk =>
      obtain rfl : signOf op :: t = l := by simpa using hk
      match j, hj with
      | 0, hj =>
        have : signOf op = old := by simpa using hj
        rw [← this] at h1
        unfold signOf at h1
        rcases ho with rfl | rfl <;> exact absurd h1 (by decide)
      | j + 1, hj =>
        have hq' : ((F :: M) ++ ((signOf op :: t) :: [List.replicate w 18, lineZ w r.toNat 0])).set ((F :: M).length + 0) ((signOf op :: t).set (j + 1) c) = (F :: M) ++ ((signOf op :: t.set j c) :: [List.replicate w 18, lineZ w r.toNat 0]) := hq
        refine other _ M.length (t.set j c) (by rw [hb]) (by rw [hq']; simp; omega) ?_ ?_ (by omega)
        · rw [hq', show a.length + 2 = (F :: M).length + 2 by simp; omega, List.getElem?_append_right (by omega)]
          simp
        · rw [hq', guess_gen ho hF hM (by omega), List.set_append_right _ _ (by omega), Nat.sub_self]
          rfl
    | 1, hk =>
      obtain rfl : List.replicate w 18 = l := by simpa using hk
      have : old = 18 := List.eq_of_mem_replicate (List.mem_of_getElem? hj)
      rw [this] at h1
      exact absurd h1 (by decide)
    | 2, hk =>
      have hq' : ((F :: M) ++ ((signOf op :: t) :: [List.replicate w 18, lineZ w r.toNat 0])).set ((F :: M).length + 2) (l.set j c) = (F :: M) ++ ((signOf op :: t) :: [List.replicate w 18, l.set j c]) := hq
      rw [hb, hq', guess_gen ho hF hM (by omega), hwith] at hg
      exact same (by rw [Prod.mk.injEq]; exact ⟨(congrArg (·.1) hg).symm, (congrArg (·.2.1) hg).symm⟩)
    | i + 3, hk => simp at hk
end Go.Proofs
/- SpatialWrong in plain words: the law. -/
namespace Go.Proofs
open Go Go.Ax Go.Ax.Alg
theorem page_pos {op : Int} {a : List Int} (V : Val op a) : (pageZ op a).length ≤ 25 ∧ ∀ l ∈ pageZ op a, (0 < l.length ∧ l.length ≤ 40) := by
  have h8 := V.eight
  have hcols := colsZ_ge V
  by_cases ho : op = 3 ∨ op = 4
  · obtain ⟨_, r0, r1, hc, hw⟩ := sums_facts V ho
    have hsp := split_last V.two
    have hp : pageZ op a = sumsZ op a.dropLast (a.getLastD 0) ((resZ op a).getD 0 0) (widthS ((resZ op a).getD 0 0) a) := by
      unfold pageZ
      rw [if_neg (by omega), if_neg (by omega)]
    rw [hp]
    have hw2 : widthS ((resZ op a).getD 0 0) a = 1 + max (lenZ ((resZ op a).getD 0 0)) (lenZ (a.getD 0 0)) := rfl
    generalize (resZ op a).getD 0 0 = r at *
    generalize widthS r a = w at *
    generalize a.dropLast = ini at *
    generalize a.getLastD 0 = z at *
    subst hsp
    have hln : ∀ x : Int, lenZ x ≤ w → (lineZ w x.toNat 0).length = w := fun x hx => lineZ_len (by show 0 + lenZ x ≤ w; omega)
    refine ⟨by simp [sumsZ] at h8 ⊢; omega, fun l hl => ?_⟩
    unfold sumsZ at hl
    simp only [List.mem_append, List.mem_cons, List.mem_map, List.not_mem_nil, or_false, List.cons_append] at hl
    rcases hl with rfl | ⟨x, hx, rfl⟩ | rfl | rfl | rfl
    · simp [firstZ]; omega
    · rw [hln x (by have := hcols x (by simp [hx]); omega)]; omega
    · rw [List.length_set, hln z (by have := hcols z (by simp); omega)]; omega
    · simp; omega
    · rw [hln r (by omega)]; omega
  · have hl := V.pair (by omega)
    have hfr := V.frac
    have hopr := V.opr
    obtain ⟨x, y, r, rfl⟩ := two_at V.two
    have hr : r = [] := by simpa using hl
    subst hr
    have hx := V.all x (by simp)
    have hy := V.all y (by simp)
    have l6x := lenZ_six hx.2
    have l6y := lenZ_six hy.2
    by_cases h5 : op = 5
    · subst h5
      show (productZ x y (1 + widthP x y (lenZ y))).length ≤ 25 ∧ ∀ l ∈ productZ x y (1 + widthP x y (lenZ y)), (0 < l.length ∧ l.length ≤ 40)
      have hW := widthP_le hx hy (lenZ y) (by omega)
      obtain ⟨wa, wb, wab⟩ := widthP_base x y (lenZ y)
      have hpart := fun k (hk : k < lenZ y) => widthP_part x y hk
      generalize widthP x y (lenZ y) = wd at *
      have hln : ∀ v : Int, lenZ v ≤ 1 + wd → (lineZ (1 + wd) v.toNat 0).length = 1 + wd := fun v hv => lineZ_len (by show 0 + lenZ v ≤ _; omega)
      unfold productZ
      refine ⟨by rw [List.length_append, List.length_append, partL_len]; split <;> simp <;> omega, fun l hl => ?_⟩
      rcases List.mem_append.1 hl with hl | hl
      · rcases List.mem_append.1 hl with hl | hl
        · simp only [List.mem_cons, List.not_mem_nil, or_false] at hl
          rcases hl with rfl | rfl | rfl
          · rw [hln x (by omega)]; omega
          · rw [List.length_set, hln y (by omega)]; omega
          · simp; omega
        · unfold partL at hl
          obtain ⟨k, hk, rfl⟩ := List.mem_map.1 hl
          rw [lineZ_len (by have := hpart k (List.mem_range.1 hk); show k + lenZ (partZ x y k) ≤ _; omega)]
          omega
      · split at hl
        · simp only [List.mem_cons, List.not_mem_nil, or_false] at hl
          rcases hl with rfl | rfl
          · simp; omega
          · rw [hln (x * y) (by omega)]; omega
        · cases hl
    · have h6 : op = 6 := by omega
      subst h6
      have hy0 : y ≠ 0 := hfr rfl
      show (divZ x y).length ≤ 25 ∧ ∀ l ∈ divZ x y, (0 < l.length ∧ l.length ≤ 40)
      have hqa : x / y ≤ x := Int.ediv_le_self _ hx.1
      have hLa : lenZ (x / y) ≤ lenZ x := lenZ_mono hqa
      unfold divZ
      refine ⟨by rw [List.length_append, stepsZ_len]; simp; omega, fun l hl => ?_⟩
      rcases List.mem_append.1 hl with hl | hl
      · simp only [List.mem_cons, List.not_mem_nil, or_false] at hl
        rcases hl with rfl | rfl
        · rw [lineZ_len (by show 0 + lenZ (x / y) ≤ _; omega)]; omega
        · rw [List.length_append, List.length_append, dcells_lenZ, dcells_lenZ]; simp; omega
      · unfold stepsZ at hl
        obtain ⟨j, hj, hl⟩ := List.mem_flatMap.1 hl
        have hj := List.mem_range.1 hj
        have h1 := fit_of hx.1 (c := lenZ (x / y) - 1 - j) (by omega) (part_le hx.1 (show 0 < y by omega) (lenZ (x / y) - 1 - j)).2
        have h2 := fit_of hx.1 (c := lenZ (x / y) - 1 - j - 1) (by omega) (next_le hx.1 (show 0 < y by omega) (lenZ (x / y) - 1 - j)).2
        simp only [List.mem_cons, List.not_mem_nil, or_false] at hl
        rcases hl with rfl | rfl
        · rw [lineZ_len (by show _ + lenZ (stepPart x y _) ≤ _; omega)]; omega
        · rw [lineZ_len (by show _ + lenZ (nextZ x y _) ≤ _; omega)]; omega
theorem w8_copy (x0 : Int) (x1 : Bool) (p : List (List UInt8)) (hp : Small p) (x3 x4 x6 : Int) (x7 : List Int) (k0 : Int × Bool × List (List UInt8) × Int × Int × Int × List Int × List (List UInt8) → O) (k1 k2 : Unit → O) : ∀ (n i : Nat), p.length - i < n → i ≤ p.length →
    w8l0 100 n (x0, x1, p, x3, x4, i, x6, x7, p.take i) k0 k1 k2 = k0 (x0, x1, p, x3, x4, x6, x7, p)
  | 0, i, h, _ => by omega
  | n + 1, i, h, hi => by
    show w8F0 100 _ _ x0 x1 p x3 x4 x6 x7 i (p.take i) = _
    unfold w8F0
    have hn := hp.1
    by_cases hlt : i < p.length
    · have hg : p[i]? = some p[i] := List.getElem?_eq_getElem hlt
      have hx := hp.2 p[i] (List.getElem_mem hlt)
      have e : IntKind.i64.wrap ((i : Int) + 1) = ((i + 1 : Nat) : Int) := by rw [wr (by omega) (by omega)]; omega
      have ih := w8_copy x0 x1 p hp x3 x4 x6 x7 k0 k1 k2 n (i + 1) (by omega) (by omega)
      rw [decide_eq_true (show (i : Int) < (p.length : Int) by omega), br_t, gx_at hg, ck_of (lim_of (by simp; omega) (by simp; omega)), ck_of (lim_of (by simp; omega) (by simp; omega)), e, List.nil_append]
      rw [List.take_add_one, hg] at ih
      exact ih
    · rw [decide_eq_false (show ¬ (i : Int) < (p.length : Int) by omega), br_f, List.take_of_length_le (by omega)]
def cntD (c : UInt8) : Nat → Nat → Nat
  | 0, _ => 0
  | n + 1, i => (if c = cellB (UInt8.ofNat (48 + i)) then 1 else 0) + cntD c n (i + 1)
theorem cntD_all : ((List.range 256).all fun n => decide (cntD (UInt8.ofNat n) 10 0 = if UInt8.ofNat n ∈ digs10 then 1 else 0)) = true := by decide +kernel
theorem cntD_eq (c : UInt8) : cntD c 10 0 = if c ∈ digs10 then 1 else 0 := by
  have h' := List.all_eq_true.1 cntD_all c.toNat (List.mem_range.2 c.toNat_lt)
  rw [UInt8.ofNat_toNat] at h'
  exact of_decide_eq_true h'
theorem u8of_cell {i : Nat} (h : i < 10) : u8of (IntKind.i64.wrap (48 + (i : Int))) = UInt8.ofNat (48 + i) := by
  rw [wr (by omega) (by omega)]
  unfold u8of
  congr 1
  omega
theorem w8_count (x0 : Bool) {k j : Nat} (old new : UInt8) (op : Int) (a : List Int) (q : List (List UInt8)) {l : List UInt8} (hk : q[k]? = some l) (hj : l[j]? = some new) (k0 : Bool × Int × Int × List Int → O) (k1 k2 : Unit → O) : ∀ (m n i acc : Nat), m + i = 10 → acc ≤ 2 * i → m < n →
    w8l1 100 n (x0, k, j, old, acc, i, op, a, q) k0 k1 k2 = k0 (x0, ((acc + (cntD old m i + cntD new m i) : Nat) : Int), op, a)
  | _, 0, i, _, _, _, h => by omega
  | m, n + 1, i, acc, h, ha, hmn => by
    show w8F1 100 _ _ x0 k j old op a q acc i = _
    unfold w8F1
    by_cases hlt : i < 10
    · obtain ⟨m, rfl⟩ : ∃ m', m = m' + 1 := ⟨m - 1, by omega⟩
      have e : IntKind.i64.wrap ((i : Int) + 1) = ((i + 1 : Nat) : Int) := by rw [wr (by omega) (by omega)]; omega
      have e1 : IntKind.i64.wrap ((acc : Int) + 1) = ((acc + 1 : Nat) : Int) := by rw [wr (by omega) (by omega)]; omega
      have e2 : IntKind.i64.wrap (((acc + 1 : Nat) : Int) + 1) = ((acc + 2 : Nat) : Int) := by rw [wr (by omega) (by omega)]; omega
      have h31 := w31_eq (UInt8.ofNat (48 + i))
      rw [decide_eq_true (show (i : Int) < 10 by omega), br_t, u8of_cell hlt, ck_of (w31_p h31), w31_y0 h31, gx_at hk, gx_at hj, gx_at hk, gx_at hj, e, e1, e2]
      show _ = k0 (x0, ((acc + (((if old = cellB (UInt8.ofNat (48 + i)) then 1 else 0) + cntD old m (i + 1)) + ((if new = cellB (UInt8.ofNat (48 + i)) then 1 else 0) + cntD new m (i + 1))) : Nat) : Int), op, a)
      have ih := fun acc' h' => w8_count x0 old new op a q hk hj k0 k1 k2 m n (i + 1) acc' (by omega) h' (by omega)
      by_cases c1 : old = cellB (UInt8.ofNat (48 + i))
      · rw [decide_eq_true c1, br_t, if_pos c1]
        by_cases c2 : new = cellB (UInt8.ofNat (48 + i))
        · rw [decide_eq_true c2, br_t, if_pos c2]
          refine (ih (acc + 2) (by omega)).trans ?_
          congr 2; congr 1; congr 1
          show acc + 2 + (cntD old m (i + 1) + cntD new m (i + 1)) = _
          omega
        · rw [decide_eq_false c2, br_f, if_neg c2]
          refine (ih (acc + 1) (by omega)).trans ?_
          congr 2; congr 1; congr 1
          show acc + 1 + (cntD old m (i + 1) + cntD new m (i + 1)) = _
          omega
      · rw [decide_eq_false c1, br_f, if_neg c1]
        by_cases c2 : new = cellB (UInt8.ofNat (48 + i))
        · rw [decide_eq_true c2, br_t, if_pos c2]
          refine (ih (acc + 1) (by omega)).trans ?_
          congr 2; congr 1; congr 1
          show acc + 1 + (cntD old m (i + 1) + cntD new m (i + 1)) = _
          omega
        · rw [decide_eq_false c2, br_f, if_neg c2]
          refine (ih acc (by omega)).trans ?_
          congr 2; congr 1; congr 1
          show acc + (cntD old m (i + 1) + cntD new m (i + 1)) = _
          omega
    · obtain rfl : m = 0 := by omega
      rw [decide_eq_false (show ¬ (i : Int) < 10 by omega), br_f]
      rfl
theorem w8_n1 {k j : Nat} (old new : UInt8) (op : Int) (a : List Int) {q : List (List UInt8)} {l : List UInt8} (hk : q[k]? = some l) (hj : l[j]? = some new) (k0 : Bool → Int → Int → List Int → O) :
    w8n1 100 false k j old 0 0 op a q k0 = k0 false ((((if old ∈ digs10 then 1 else 0) + (if new ∈ digs10 then 1 else 0) : Nat)) : Int) op a := by
  have h := w8_count false old new op a q hk hj (fun y => k0 y.1 y.2.1 y.2.2.1 y.2.2.2) (fun _ => none) (fun _ => none) 10 100 0 0 (by omega) (by omega) (by omega)
  rw [cntD_eq, cntD_eq, Nat.zero_add] at h
  exact h
theorem w8_ur (x : Bool) : (some (w8r0 x) : O).bind w8un = some x := rfl
theorem read_err {q : List (List UInt8)} (h : (readZ q).2.2 ≠ 0) : (readZ q).2.2 = 2 := by
  unfold readZ at h ⊢
  split
  · split
    · rename_i h1 h2
      rw [if_pos h1, if_pos h2] at h
      exact absurd rfl h
    · rfl
  · rfl
theorem wrong_true {l : List Int} (hl : Okl l) {line at_ to : Int} (h1 : I64 line) (h2 : I64 at_) (h3 : I64 to) : w8z 100 l line at_ to = some true := by
  obtain ⟨op, a, h10, V⟩ := w10_eq (N := 100) hl (by omega)
  have h8 := V.eight
  have h21 := w21_eq (op := op) (a := a) (by omega)
  rw [show layZ op a = (pageZ op a, 0) by unfold layZ; rw [if_pos (of_val V)]] at h21
  have hsm := page_small V
  have hpos := (page_pos V).2
  have hpos1 : 1 ≤ (pageZ op a).length := by
    obtain ⟨pre, w, x, left, h, _⟩ := page_last V
    rw [h]; simp
  have hwd := @wrong_digit op a V
  have hread : readZ (pageZ op a) = (op, a, 0) := read_page V
  have hlen := hsm.1
  unfold w8z w8 w8G
  rw [ck_of (w10_p h10), w10_y0 h10, w10_y1 h10, ck_of (w21_p h21), w21_y1 h21, w21_y0 h21]
  have hplain : ∀ (op' : Int) (a' : List Int), Val op' a' → (plainZ (pageZ op' a') = plainZ (pageZ op a) ↔ op' = op ∧ a' = a) := fun op' a' V' => page_inj V' V
  generalize hp : pageZ op a = p at *
  have h25 := w25_eq 100 (m := (p.length : Int)) h1
  have hb := around_lt (n := line) (m := (p.length : Int)) (by omega)
  obtain ⟨k, hk⟩ : ∃ k : Nat, aroundZ line (p.length : Int) = (k : Int) := ⟨(aroundZ line (p.length : Int)).toNat, by omega⟩
  rw [hk] at hb h25
  have hkl : k < p.length := by omega
  have hg : p[k]? = some p[k] := List.getElem?_eq_getElem hkl
  rw [show (decide ((0 : Int) ≠ 0) || decide ((p.length : Int) = 0)) = false by rw [decide_eq_false (show ¬ (p.length : Int) = 0 by omega)]; rfl, br_f, ck_of (w25_p h25), w25_y0 h25, gx_at hg]
  have hlp := hpos p[k] (List.getElem_mem hkl)
  generalize p[k] = L at hg hlp
  rw [decide_eq_false (show ¬ ((L.length : Int) = 0) by omega), br_f, gx_at hg]
  have h25' := w25_eq 100 (m := (L.length : Int)) h2
  have hb' := around_lt (n := at_) (m := (L.length : Int)) (by omega)
  obtain ⟨j, hj⟩ : ∃ j : Nat, aroundZ at_ (L.length : Int) = (j : Int) := ⟨(aroundZ at_ (L.length : Int)).toNat, by omega⟩
  rw [hj] at hb' h25'
  have hjl : j < L.length := by omega
  have hgj : L[j]? = some L[j] := List.getElem?_eq_getElem hjl
  rw [ck_of (w25_p h25'), w25_y0 h25']
  refine (congrArg (fun z : O => z.bind w8un) (w8_copy to false p hsm k j op a _ (fun _ => none) (fun _ => none) 100 0 (by omega) (by omega))).trans ?_
  simp only []
  generalize L[j] = old at hgj
  have h25t := w25_eq 100 (m := 16) h3
  have hbt := around_lt (n := to) (m := 16) (by omega)
  obtain ⟨t, ht⟩ : ∃ t : Nat, aroundZ to 16 = (t : Int) := ⟨(aroundZ to 16).toNat, by omega⟩
  rw [ht] at hbt h25t
  obtain ⟨ch, hch⟩ : ∃ ch, ([48, 49, 50, 51, 52, 53, 54, 55, 56, 57, 95, 43, 45, 42, 61, 91] : List UInt8)[t]? = some ch := ⟨_, List.getElem?_eq_getElem (by simp; omega)⟩
  have h31 := w31_eq ch
  generalize hnew : cellB ch = new at h31
  simp only [Int.toNat_natCast]
  obtain ⟨q, hqq⟩ : ∃ q, q = p.set k (L.set j new) := ⟨_, rfl⟩
  have hq1 : q[k]? = some (L.set j new) := by rw [hqq, List.getElem?_set_self (by omega)]
  have hq2 : (L.set j new)[j]? = some new := by rw [List.getElem?_set_self (by omega)]
  have hqs : Small q := by
    rw [hqq]
    refine ⟨by rw [List.length_set]; exact hsm.1, fun x hx => ?_⟩
    rcases List.mem_or_eq_of_mem_set hx with h | h
    · exact hsm.2 x h
    · rw [h, List.length_set]; omega
  have h32 := w32_eq hsm hqs
  have h28 := w28_eq hqs
  rw [ck_of (decide_eq_true ⟨by omega, by omega⟩), gn_of hg, gn_of hg, ck_of (decide_eq_true ⟨by omega, by omega⟩), gn_of hg, gn_of hgj, ck_of (decide_eq_true ⟨by omega, by omega⟩), gn_of hg, ck_of (w25_p h25t), w25_y0 h25t, gx_at hch, ck_of (w31_p h31), gn_of hg, ck_of (decide_eq_true ⟨by omega, by omega⟩), gn_of hg, gn_of hgj, w31_y0 h31]
  simp only [← hqq]
  rw [ck_of (w32_p h32), w32_y0 h32]
  have hset : q = p → old = new := by
    intro h
    rw [h, hg] at hq1
    rw [← Option.some.inj hq1, hgj] at hq2
    exact Option.some.inj hq2
  have heq : plainZ p = plainZ q → q = p := by
    intro h
    refine (plain_inj (by rw [hqq]; simp) (fun i x y hx hy => ?_) h).symm
    rw [hqq, List.getElem?_set] at hy
    split at hy
    · rename_i hi
      subst hi
      rw [hg] at hx
      rw [← Option.some.inj hx, ← Option.some.inj hy, List.length_set]
    · rw [hx] at hy
      rw [Option.some.inj hy]
  have hdig : op = 3 ∨ op = 4 → old ∈ digs10 → new ∈ digs10 → plainZ p ≠ plainZ q → (readZ q).2.2 ≠ 0 := fun ho h1 h2 h3 => by
    rw [hqq] at h3 ⊢
    exact hwd ho (k := k) (j := j) (l := L) (old := old) (c := new) hg hgj h1 h2 h3
  by_cases hsame : plainZ p = plainZ q
  · rw [decide_eq_true hsame, br_t, gx_at hq1, gx_at hq2, Bool.or_true, ck_t, decide_eq_true (hset (heq hsame)), w8_ur]
    rfl
  · rw [decide_eq_false hsame, br_f, ck_of (w28_p h28), w28_y2 h28]
    by_cases hr : (readZ q).2.2 = 0
    · obtain ⟨op', a', hguess, V', hpl, hrd⟩ := read_ok hr
      have h8' := V'.eight
      have h21' := w21_eq (op := op') (a := a') (by omega)
      rw [show layZ op' a' = (pageZ op' a', 0) by unfold layZ; rw [if_pos (of_val V')]] at h21'
      have h32' := w32_eq (page_small V') hqs
      have h30' := w30_eq (op := op') (op' := op) (a := a') (b := a) (by omega)
      have hno : ¬ (op' = op ∧ a' = a) := fun h => hsame (by rw [hpl]; exact ((hplain op' a' V').2 h).symm)
      rw [hrd] at h28
      rw [hrd, decide_eq_false (show ¬ ((0 : Int) ≠ 0) by omega), br_f, w28_y0 h28, w28_y1 h28, ck_of (w21_p h21'), w21_y0 h21', w21_y1 h21', w32_p h32', w32_y0 h32', w30_p h30', w30_y0 h30', Bool.or_true, Bool.or_true, ck_t, ck_t, decide_eq_true hpl.symm, decide_eq_false hno, decide_eq_false (show ¬ ((0 : Int) ≠ 0) by omega), Bool.not_true, Bool.or_false, Bool.or_false, br_f]
      rw [w8_n1 old new op a hq1 hq2, Bool.or_true, ck_t, w8_ur]
      congr 1
      by_cases ho : op = 3 ∨ op = 4
      · by_cases d1 : old ∈ digs10
        · by_cases d2 : new ∈ digs10
          · exact absurd hr (hdig ho d1 d2 hsame)
          · rw [if_pos d1, if_neg d2]; simp
        · rw [if_neg d1]
          split <;> simp
      · rw [decide_eq_true (show op ≠ 3 by omega), decide_eq_true (show op ≠ 4 by omega)]
        simp
    · rw [read_err hr, decide_eq_true (show (2 : Int) ≠ 0 by omega), br_t, decide_eq_true (show (2 : Int) = 2 from rfl), Bool.or_true, ck_t, w8_ur]
      rfl
end Go.Proofs
