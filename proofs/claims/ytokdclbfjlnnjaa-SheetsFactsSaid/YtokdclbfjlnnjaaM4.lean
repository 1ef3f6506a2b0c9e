/- The abstract machine: operations on numbers, truth values and parts of values. -/
import Derived.Test.YtokdclbfjlnnjaaM3
import Derived.IntWalk
namespace Go.Ab
open Go.RowKit

abbrev I (n : Int) : D := .t (.v (.int .i64 n))
abbrev B (b : Bool) : D := .t (.v (.bool b))
abbrev ti (n : Int) : Tree := .v (.int .i64 n)

section
variable {P : Program} {o : Oper} {σ : St} {fr : Nat}

theorem ok_move {x : Operand} {d : D} (ho : o.op = .move x) (hx : σ.ev x = some d) : OpOk P o σ fr d [] :=
  ok_pure fun _ _ _ _ _ _ _ _ hev => ⟨_, by simp [execOp, ho], hev x d hx⟩
theorem ok_assign {x : Operand} {d : D} (ho : o.op = .assign x) (hx : σ.ev x = some d) : OpOk P o σ fr d [] :=
  ok_pure fun _ _ _ _ _ _ _ _ hev => ⟨_, by simp [execOp, ho], hev x d hx⟩

/-- An operation on two values without parts. -/
theorem ok_bin {op : BinOp} {xt yt : TypeId} {x y : Operand} {va vb vr : Value} (ho : o.op = .binOp op xt x y yt) (hx : σ.ev x = some (.t (.v va))) (hy : σ.ev y = some (.t (.v vb)))
    (hr : ∀ w : World, (do eqGuard op xt x y va vb; binOp op xt va vb : Sem Value).run P w = .ok vr w) (h1 : vr.oneCell' = true) : OpOk P o σ fr (.t (.v vr)) [] :=
  ok_pure fun _ _ _ _ w a _ _ hev => by
    have h1' := bool_of (hev x _ hx)
    have h2' := bool_of (hev y _ hy)
    refine ⟨vr, ?_, .t (.v _ h1)⟩
    have := hr w
    unfold execOp
    rw [ho]
    simp only [h1', h2', Sem.run_bind, Sem.run_pure] at this ⊢
    rw [this]
    rfl

section ints
variable {k : IntKind} {xt yt : TypeId} {x y : Operand} {m n : Int}
theorem ok_addk (ho : o.op = .binOp .add xt x y yt) (hx : σ.ev x = some (.t (.v (.int k m)))) (hy : σ.ev y = some (.t (.v (.int k n)))) : OpOk P o σ fr (.t (.v (.int k (k.wrap (m + n))))) [] :=
  ok_bin ho hx hy (fun w => by simp [eqGuard, binOp, Op.intArith]) rfl
theorem ok_subk (ho : o.op = .binOp .sub xt x y yt) (hx : σ.ev x = some (.t (.v (.int k m)))) (hy : σ.ev y = some (.t (.v (.int k n)))) : OpOk P o σ fr (.t (.v (.int k (k.wrap (m - n))))) [] :=
  ok_bin ho hx hy (fun w => by simp [eqGuard, binOp, Op.intArith]) rfl
theorem ok_add (ho : o.op = .binOp .add xt x y yt) (hx : σ.ev x = some (I m)) (hy : σ.ev y = some (I n)) (hb : -9223372036854775808 ≤ m + n ∧ m + n ≤ 9223372036854775807) : OpOk P o σ fr (I (m + n)) [] := by
  have := ok_addk (P := P) (fr := fr) ho hx hy
  rwa [IntWalk.i64_in _ hb] at this
theorem ok_sub (ho : o.op = .binOp .sub xt x y yt) (hx : σ.ev x = some (I m)) (hy : σ.ev y = some (I n)) (hb : -9223372036854775808 ≤ m - n ∧ m - n ≤ 9223372036854775807) : OpOk P o σ fr (I (m - n)) [] := by
  have := ok_subk (P := P) (fr := fr) ho hx hy
  rwa [IntWalk.i64_in _ hb] at this
theorem ok_lss (ho : o.op = .binOp .lss xt x y yt) (hx : σ.ev x = some (.t (.v (.int k m)))) (hy : σ.ev y = some (.t (.v (.int k n)))) : OpOk P o σ fr (B (decide (m < n))) [] :=
  ok_bin ho hx hy (fun w => by simp [eqGuard, binOp, Op.intCmp]) rfl
theorem ok_leq (ho : o.op = .binOp .leq xt x y yt) (hx : σ.ev x = some (.t (.v (.int k m)))) (hy : σ.ev y = some (.t (.v (.int k n)))) : OpOk P o σ fr (B (decide (m ≤ n))) [] :=
  ok_bin ho hx hy (fun w => by simp [eqGuard, binOp, Op.intCmp]) rfl
theorem ok_gtr (ho : o.op = .binOp .gtr xt x y yt) (hx : σ.ev x = some (.t (.v (.int k m)))) (hy : σ.ev y = some (.t (.v (.int k n)))) : OpOk P o σ fr (B (decide (n < m))) [] :=
  ok_bin ho hx hy (fun w => by simp [eqGuard, binOp, Op.intCmp]) rfl
theorem ok_geq (ho : o.op = .binOp .geq xt x y yt) (hx : σ.ev x = some (.t (.v (.int k m)))) (hy : σ.ev y = some (.t (.v (.int k n)))) : OpOk P o σ fr (B (decide (n ≤ m))) [] :=
  ok_bin ho hx hy (fun w => by simp [eqGuard, binOp, Op.intCmp]) rfl
theorem ok_eql (ho : o.op = .binOp .eql xt x y yt) (hx : σ.ev x = some (.t (.v (.int k m)))) (hy : σ.ev y = some (.t (.v (.int k n)))) : OpOk P o σ fr (B (decide (m = n))) [] :=
  ok_bin ho hx hy (fun w => by simp [eqGuard, binOp, Op.intCmp]; rfl) rfl
theorem ok_neq (ho : o.op = .binOp .neq xt x y yt) (hx : σ.ev x = some (.t (.v (.int k m)))) (hy : σ.ev y = some (.t (.v (.int k n)))) : OpOk P o σ fr (B (decide (m ≠ n))) [] :=
  ok_bin ho hx hy (fun w => by simp [eqGuard, binOp, Op.intCmp, bne]; rfl) rfl
end ints

theorem run_eqb {t : TypeId} (h : P.underlying t = some .bool) (a b : Bool) (w : World) : (Op.equal t (.bool a) (.bool b)).run P w = .ok (a == b) w := by
  show (Op.equalIn (Op.maxDepth) t (.bool a) (.bool b)).run P w = _
  rw [show Op.maxDepth = (Op.maxDepth - 1) + 1 from rfl]
  simp [Op.equalIn, run_underlying h]
theorem ok_neb {xt yt : TypeId} {x y : Operand} {m n : Bool} (hP : P.underlying xt = some .bool) (ho : o.op = .binOp .neq xt x y yt) (hx : σ.ev x = some (B m)) (hy : σ.ev y = some (B n)) : OpOk P o σ fr (B (!(m == n))) [] :=
  ok_bin ho hx hy (fun w => by simp [eqGuard, binOp, run_eqb hP]) rfl
theorem ok_pick_t {c x y : Operand} {d : D} (ho : o.op = .pick c x y) (hc : σ.ev c = some (B true)) (hx : σ.ev x = some d) : OpOk P o σ fr d [] :=
  ok_pure fun _ _ _ _ w a _ _ hev => by
    have h1' := bool_of (hev c _ hc)
    exact ⟨a.eval x, by simp [execOp, ho, h1', asBool], hev x d hx⟩
theorem ok_pick_f {c x y : Operand} {d : D} (ho : o.op = .pick c x y) (hc : σ.ev c = some (B false)) (hy : σ.ev y = some d) : OpOk P o σ fr d [] :=
  ok_pure fun _ _ _ _ w a _ _ hev => by
    have h1' := bool_of (hev c _ hc)
    exact ⟨a.eval y, by simp [execOp, ho, h1', asBool], hev y d hy⟩
theorem ok_extract {x : Operand} {i : Nat} {ds : List D} {d : D} (ho : o.op = .extract x i) (hx : σ.ev x = some (.tup ds)) (hd : ds[i]? = some d) : OpOk P o σ fr d [] :=
  ok_pure fun _ _ ν G w a _ _ hev => by
    have h := hev x _ hx
    obtain ⟨v, hv⟩ : ∃ v, a.eval x = v := ⟨_, rfl⟩
    rw [hv] at h
    cases h with
    | @tup vs _ hl h =>
      have hi : i < vs.size := by rw [hl]; exact (List.getElem?_eq_some_iff.1 hd).1
      refine ⟨vs[i], ?_, h i _ d (Array.getElem?_eq_getElem hi) hd⟩
      unfold execOp
      rw [ho]
      simp [hv, Instr.extract, hi]
end

/-! Results -/
theorem ret1 {P : Program} {fn : Func} {E : Env} {σ : St} {t : Nat} {d r : D} {H' : List (Nat × AObj)} (rn : List (Nat × Nat)) (hr : fn.results = #[.tmp t]) (ht : σ.T t = some d) (hle : DLe false σ.H (fun k => decide (k < 108)) (rnm rn) d r)
    (hH : AllH false σ (fun k => decide (k < 108)) (rnm rn) H') (hc : (rn.all (fun p => decide (p.1 < 50) || decide (100 ≤ p.1)) && decide ((H'.map fun p => rnm rn p.1).Nodup) && H'.all (fun p => decide (p.1 < 108))) = true) :
    ∀ tm w, R E σ tm w → ∃ v, (results fn tm).run P w = .ok v w ∧ R { E with m := 1 } (res r H') #[v] w := by
  intro tm w hR
  refine ⟨tm.getD t undef, ?_, res_of rn hR (fun ν G I => ?_) hle hH hc⟩
  · simp [results, hr]
  · obtain ⟨v, hv, hd⟩ := I.T t d ht
    have : tm.getD t undef = v := by simp [Array.getD_eq_getD_getElem?, hv]
    rw [this]
    exact hd
end Go.Ab
