/- The abstract machine: stores, appends, values that are built. -/
import Derived.Test.YtokdclbfjlnnjaaM5
namespace Go.Ab
open Go.RowKit

/-! ### Stores -/
def splice {α : Type} (l : List α) (off : Nat) (new : List α) : List α := l.take off ++ new ++ l.drop (off + new.length)
theorem splice_length {α : Type} {l : List α} {off : Nat} {new : List α} (h : off + new.length ≤ l.length) : (splice l off new).length = l.length := by
  simp [splice]; omega
theorem splice_get {α : Type} {l : List α} {off : Nat} {new : List α} (h : off + new.length ≤ l.length) (i : Nat) : (splice l off new)[i]? = if i < off then l[i]? else if i < off + new.length then new[i - off]? else l[i]? := by
  unfold splice
  by_cases h1 : i < off
  · rw [if_pos h1, List.append_assoc, List.getElem?_append_left (by simp; omega), List.getElem?_take, if_pos h1]
  · rw [if_neg h1]
    by_cases h2 : i < off + new.length
    · rw [if_pos h2, List.append_assoc, List.getElem?_append_right (by simp; omega), List.getElem?_append_left (by simp; omega)]
      congr 1
      simp; omega
    · rw [if_neg h2, List.getElem?_append_right (by simp; omega), List.getElem?_drop]
      congr 1
      simp; omega

def setMany (cur : Array Value) : Nat → List Value → Array Value
  | _, [] => cur
  | o, v :: r => setMany (cur.setIfInBounds o v) (o + 1) r
theorem setMany_size : ∀ (vs : List Value) (cur : Array Value) (o : Nat), (setMany cur o vs).size = cur.size
  | [], _, _ => rfl
  | v :: r, cur, o => by rw [setMany, setMany_size r]; simp
theorem setMany_get : ∀ (vs : List Value) (cur : Array Value) (o i : Nat), o + vs.length ≤ cur.size → (setMany cur o vs)[i]? = if i < o then cur[i]? else if i < o + vs.length then vs[i - o]? else cur[i]?
  | [], cur, o, i, _ => by simp [setMany]; intro h; omega
  | v :: r, cur, o, i, h => by
    rw [List.length_cons] at h
    rw [setMany, setMany_get r _ _ i (by simp; omega)]
    by_cases h1 : i < o
    · rw [if_pos (by omega), if_pos h1, Array.getElem?_setIfInBounds_ne (by omega)]
    · by_cases h2 : i = o
      · subst h2
        rw [if_pos (by omega), if_neg h1, if_pos (show i < i + (v :: r).length by rw [List.length_cons]; omega), Nat.sub_self]
        have hi : i < cur.size := by omega
        simp [hi]
      · rw [if_neg (by omega), if_neg h1]
        by_cases h3 : i < o + 1 + r.length
        · rw [if_pos h3, if_pos (show i < o + (v :: r).length by rw [List.length_cons]; omega), show i - o = (i - (o + 1)) + 1 by omega]
          simp
        · rw [if_neg h3, if_neg (show ¬ i < o + (v :: r).length by rw [List.length_cons]; omega), Array.getElem?_setIfInBounds_ne (by omega)]
theorem setCell_heap {w : World} {g o : Nat} {cur : Array Value} {e : TypeId} {fr : Nat × Nat} {v : Value} (h : w.heap[g]? = some (.cells cur e fr)) : (w.setCell ⟨g, o, none⟩ v).heap[g]? = some (.cells (cur.setIfInBounds o v) e fr) := by
  have hlt := heap_lt h
  have hv : w.heap[g] = .cells cur e fr := (Array.getElem?_eq_some_iff.1 h).2
  unfold World.setCell
  simp only
  rw [Array.getElem?_eq_getElem (by simpa using hlt), Array.getElem_modify]
  simp [hv]
theorem setCells_heap {g : Nat} {e : TypeId} {fr : Nat × Nat} : ∀ (vs : List Value) (o : Nat) (w : World) (cur : Array Value), w.heap[g]? = some (.cells cur e fr) → (w.setCells g o vs).heap[g]? = some (.cells (setMany cur o vs) e fr)
  | [], _, _, _, h => h
  | _ :: r, o, _, _, h => setCells_heap r (o + 1) _ _ (setCell_heap h)
theorem setCells_same {g : Nat} : ∀ (vs : List Value) (o : Nat) (w : World), (w.setCells g o vs).os = w.os ∧ (w.setCells g o vs).tape = w.tape ∧ (w.setCells g o vs).output = w.output ∧ (w.setCells g o vs).heap.size = w.heap.size ∧ ∀ b, b ≠ g → (w.setCells g o vs).heap[b]? = w.heap[b]?
  | [], _, _ => ⟨rfl, rfl, rfl, rfl, fun _ _ => rfl⟩
  | v :: r, o, w => by
    obtain ⟨h1, h2, h3, h4, h5⟩ := setCells_same r (o + 1) (w.setCell ⟨g, o, none⟩ v)
    refine ⟨h1, h2, h3, h4.trans (by simp [World.setCell]), fun b hb => (h5 b hb).trans ?_⟩
    simp [World.setCell, Array.getElem?_modify, Ne.symm hb]
theorem run_storeCells {P : Program} {w : World} {b o : Nat} {ty : TypeId} {v : Value} (ht : w.there b o v.cells.size) (hi : (P.info? ty).map (·.size) = some v.cells.size) (h1 : ∀ u ∈ v.cells.toList, u.oneCell' = true) :
    (Instr.storeAt ty (.pointer (some ⟨b, o, none⟩)) v).run P w = .ok () (w.setCells b o v.cells.toList) := by
  have := run_storeAt_mid (P := P) w b o ty v.cells ht hi (by rw [Array.all_eq_true_iff_forall_mem]; exact fun x hx => h1 x (Array.mem_toList_iff.2 hx))
  rw [← this]
  rfl

def asTrees : List D → Option (List Tree)
  | [] => some []
  | .t x :: l => (asTrees l).map (x :: ·)
  | _ :: _ => none
theorem asTrees_map : ∀ {new : List D} {xs : List Tree}, asTrees new = some xs → new = xs.map .t
  | [], xs, h => by cases h; rfl
  | d :: l, xs, h => by
    cases d with
    | t x =>
      simp only [asTrees] at h
      obtain ⟨ys, hy, rfl⟩ := Option.map_eq_some_iff.1 h
      rw [asTrees_map hy]
      rfl
    | _ => cases h
/-- What an object becomes where its cells are written over. -/
def AObj.put : AObj → Nat → List D → Option AObj
  | .box e ds, off, new => if off + new.length ≤ ds.length then some (.box e (splice ds off new)) else none
  | .row e s n ts st, off, new => if off + new.length ≤ ts.length ∧ st = false then (asTrees new).map fun xs => .row e s n (splice ts off xs) st else none

theorem ObjOk.put {E : Env} {ν : Nat → Value} {nm : Nat → Bool} {w : World} {G : Lim} {k : Nat} {ob ob' : AObj} {off : Nat} {new : List D} {vs : List Value} (h : ObjOk E ν nm w G k ob) (hp : ob.put off new = some ob') (hl : vs.length = new.length)
    (hv : ∀ (i : Nat) (u : Value) (d : D), vs[i]? = some u → new[i]? = some d → DR ν nm w G u d ∧ u.oneCell' = true) (hpos : 0 < new.length) :
    ∃ g, blk (ν k) = some g ∧ w.there g off vs.length ∧ G g = 0 ∧ ∀ w', (∀ b i u, Cell w G b i u → Cell w' G b i u) → w' = w.setCells g off vs → ObjOk E ν nm w' G k ob' := by
  cases ob with
  | box e ds =>
    obtain ⟨g, cur, h1, h2, h3, h4, h5, h6⟩ := h
    simp only [AObj.put] at hp
    split at hp
    · rename_i hle
      cases hp
      refine ⟨g, by rw [h1]; rfl, fun j hj => ⟨?_, by simp [World.frozen?, h3]⟩, h4, fun w' hx hw => ?_⟩
      · rw [cell_of_row' h3, Array.getElem?_eq_getElem (by omega)]; rfl
      · subst hw
        refine ⟨g, _, h1, h2, setCells_heap vs off w cur h3, h4, by rw [setMany_size, h5, splice_length hle], fun i u d hu hd => ?_⟩
        rw [setMany_get _ _ _ _ (by omega)] at hu
        rw [splice_get hle] at hd
        by_cases c1 : i < off
        · rw [if_pos c1] at hu hd
          exact ⟨(h6 i u d hu hd).1.mono (fun _ h => ⟨h, rfl⟩) hx, (h6 i u d hu hd).2⟩
        · rw [if_neg c1] at hu hd
          by_cases c2 : i < off + vs.length
          · rw [if_pos c2] at hu
            rw [if_pos (by omega)] at hd
            exact ⟨(hv _ u d hu hd).1.mono (fun _ h => ⟨h, rfl⟩) hx, (hv _ u d hu hd).2⟩
          · rw [if_neg c2] at hu
            rw [if_neg (by omega)] at hd
            exact ⟨(h6 i u d hu hd).1.mono (fun _ h => ⟨h, rfl⟩) hx, (h6 i u d hu hd).2⟩
    · cases hp
  | row e s n ts st =>
    obtain ⟨xs, h1, h2, h3, h4⟩ := h
    simp only [AObj.put] at hp
    split at hp
    · rename_i hle
      obtain ⟨hle, rfl⟩ := hle
      obtain ⟨ys, hys, rfl⟩ := Option.map_eq_some_iff.1 hp
      have hnew := asTrees_map hys
      subst hnew
      simp only [List.length_map] at hle hl hpos
      rcases h1.2 with ⟨_, hz⟩ | ⟨g, cap, cur, hvv, r1, r2, r3, r4, r5, r6⟩
      · have := h1.1
        rw [hz, Nat.zero_mul] at this
        omega
      · have hGg := (h4 g (by rw [hvv]; rfl)).2
        simp only [if_false, Bool.false_eq_true] at hGg
        have hxl : xs.length ≤ cur.size := by rw [← r6]; simp; omega
        refine ⟨g, by rw [hvv]; rfl, fun j hj => ⟨?_, by simp [World.frozen?, r2]⟩, hGg, fun w' hx hw => ?_⟩
        · rw [cell_of_row' r2, Array.getElem?_eq_getElem (by omega)]; rfl
        · subst hw
          refine ⟨splice xs off vs, ⟨by rw [splice_length (by omega)]; exact h1.1, .inr ⟨g, cap, _, hvv, r1, setCells_heap vs off w cur r2, r3, r4, by rw [setMany_size]; exact r5, ?_⟩⟩, by rw [splice_length (by omega), splice_length (by omega)]; exact h2, fun i u t hu ht => ?_, fun g' hg' => h4 g' hg'⟩
          · apply List.ext_getElem?
            intro i
            rw [List.getElem?_take, splice_get (by omega)]
            have hxn : xs.length = n * s := h1.1
            have hget : ∀ j, j < n * s → cur[j]? = xs[j]? := fun j hj => by rw [← r6, List.getElem?_take, if_pos hj]; simp
            by_cases c0 : i < n * s
            · rw [if_pos c0]
              have : (setMany cur off vs).toList[i]? = (setMany cur off vs)[i]? := by simp
              rw [this, setMany_get _ _ _ _ (by omega)]
              by_cases c1 : i < off
              · rw [if_pos c1, if_pos c1, hget i c0]
              · rw [if_neg c1, if_neg c1]
                by_cases c2 : i < off + vs.length
                · rw [if_pos c2, if_pos c2]
                · rw [if_neg c2, if_neg c2, hget i c0]
            · rw [if_neg c0, if_neg (by omega), if_neg (by omega), List.getElem?_eq_none (by omega)]
          · rw [splice_get (by omega)] at hu ht
            by_cases c1 : i < off
            · rw [if_pos c1] at hu ht
              exact (h3 i u t hu ht).mono hx
            · rw [if_neg c1] at hu ht
              by_cases c2 : i < off + vs.length
              · rw [if_pos c2] at hu
                rw [if_pos (by omega)] at ht
                have := (hv _ u (.t t) hu (by rw [List.getElem?_map, ht]; rfl)).1
                cases this with | t h => exact h.mono hx
              · rw [if_neg c2] at hu
                rw [if_neg (by omega)] at ht
                exact (h3 i u t hu ht).mono hx
    · cases hp

section
variable {P : Program} {o : Oper} {σ : St} {fr : Nat}
/-- What an operand may be taken for: itself, or what it holds, if it is a row that is only appended to. -/
inductive EvT (σ : St) (y : Operand) : D → Prop
  | ev {d : D} (h : σ.ev y = some d) : EvT σ y d
  | own {k n : Nat} {e : TypeId} {s : Nat} {ts : List Tree} (h : σ.ev y = some (.own k)) (hk : σ.H k = some (.row e s n ts true)) : EvT σ y (.t (.sl n ts))
theorem EvT.rel {y : Operand} {d : D} (h : EvT σ y d) {σ₁ : St} (hT : ∀ t d, σ.T t = some d → σ₁.T t = some d) (hH : ∀ k o, σ.H k = some o → σ₁.H k = some o) {E : Env} {ν : Nat → Value} {G : Lim} {w : World} {a : Act} (I : Inv E σ₁ ν G w a.tmps) : DR ν σ₁.nm w G (a.eval y) d := by
  cases h with
  | ev h => exact I.ev (St.ev_le hT h)
  | own h hk =>
    have hv := I.ev (St.ev_le hT h)
    obtain ⟨v, he⟩ : ∃ v, a.eval y = v := ⟨_, rfl⟩
    rw [he] at hv ⊢
    cases hv with
    | own _ _ => exact .t (I.rows _ _ _ _ _ _ (hH _ _ hk) rfl)
/-- *p = x. -/
theorem ok_store {t : TypeId} {x y : Operand} {k off : Nat} {ob ob' : AObj} {d : D} (ho : o.op = .store t x y) (hi : (P.info? t).map (·.size) = some d.cells.length) (hx : σ.ev x = some (.ref k off)) (hy : EvT σ y d) (hv : d.val = true) (hk : σ.H k = some ob)
    (hp : ob.put off d.cells = some ob') (hpos : 0 < d.cells.length) : OpOk P o σ fr (.tup []) [(k, some ob')] := by
  intro E σ₁ a w hT hH h100 hf hd ⟨ν, G, I⟩ Q
  obtain ⟨g, hg, hvx, hkn⟩ := ref_of (I.ev (St.ev_le hT hx))
  have hdy := hy.rel hT hH I
  obtain ⟨hc1, hc2⟩ := hdy.cells hv
  have hob := (I.H k ob (hH k ob hk)).2
  obtain ⟨g', hg', hthere, hG0, hnew⟩ := hob.put hp (vs := (a.eval y).cells.toList) (by simpa using hc1) (fun i u d' hu hd' => hc2 i u d' (by simpa using hu) hd') hpos
  rw [hg] at hg'
  cases hg'
  have hr : (Instr.storeAt t (.pointer (some ⟨g, off, none⟩)) (a.eval y)).run P w = .ok () (w.setCells g off (a.eval y).cells.toList) :=
    run_storeCells (by simpa using hthere) (by rw [hi, hc1]) (fun u hu => by
      obtain ⟨i, hiu⟩ := List.mem_iff_getElem?.1 hu
      have hlt : i < d.cells.length := by rw [← hc1]; simpa using (List.getElem?_eq_some_iff.1 hiu).1
      exact (hc2 i u _ (by simpa using hiu) (List.getElem?_eq_getElem hlt)).2)
  obtain ⟨s1, s2, s3, s4, s5⟩ := setCells_same (g := g) (a.eval y).cells.toList off w
  obtain ⟨w', hw'⟩ : ∃ w', w.setCells g off (a.eval y).cells.toList = w' := ⟨_, rfl⟩
  rw [hw'] at hr s1 s2 s3 s4 s5
  have hcell : ∀ b i u, Cell w G b i u → Cell w' G b i u := fun b i u h => by
    have hne : b ≠ g := fun e => by have := h.2; rw [e, hG0] at this; omega
    exact ⟨(World.cell?_of_block (a := ⟨b, i, none⟩) (s5 b hne)).trans h.1, h.2⟩
  have hmay : E.may g := hob.mayb hg
  unfold Oper.wp
  have he : (execOp a.eval o).run P w = .ok .skip w' := by
    unfold execOp
    rw [ho]
    simp only [hvx, Sem.run_bind, hr]
    rfl
  rw [he, Oper.upon_skip]
  have hnm : ∀ j, σ₁.nm j = true → (σ₁.upd o.dst (.tup []) [(k, some ob')] fr).nm j = true ∧ ν j = ν j := fun j hj => ⟨by simp [St.upd, hj], rfl⟩
  refine ⟨put_defers .., ν, G, ⟨s1.trans I.kept.os, s2.trans I.kept.tape, s3.trans I.kept.output, by rw [s4]; exact I.kept.size, fun b hb hX => ?_⟩, fun b i u h => hcell b i u (I.keep b i u h), I.pin, I.g0, ?_, fun t' d' h => ?_, fun j oj h => ?_, fun j1 o1 j2 o2 h1 h2 hne => ?_⟩
  · refine (s5 b (fun e => ?_)).trans (I.kept.block b hb hX)
    subst e
    rcases hmay with h | h
    · omega
    · exact hX h
  · cases o.dst <;> simp [Act.put, I.sz]
  · simp only [St.upd] at h
    split at h
    · rename_i he'
      cases h
      have := hd t' he'
      exact ⟨undef, by simp [he', Act.put, I.sz, this], undef_rel⟩
    · rename_i he'
      obtain ⟨u, hu, hdu⟩ := I.T t' d' h
      refine ⟨u, ?_, hdu.mono hnm hcell⟩
      cases hds : o.dst with
      | none => simpa [Act.put] using hu
      | some t'' =>
        have hne : t'' ≠ t' := fun e => he' (by rw [hds, e])
        simp only [Act.put]
        rw [Array.getElem?_setIfInBounds_ne hne]
        exact hu
  · by_cases hj : j = k
    · subst hj
      simp [St.upd, look] at h
      subst h
      have h1 := (I.H j ob (hH j ob hk)).1
      refine ⟨(hnm j h1).1, ObjOk.mono h1 hnm (fun _ _ _ h => h) (fun _ _ => ⟨rfl, rfl⟩) (hnew w' hcell hw'.symm)⟩
    · have h' : σ₁.H j = some oj := by simpa [St.upd, look, Ne.symm hj] using h
      obtain ⟨h1, h2⟩ := I.H j oj h'
      refine ⟨(hnm j h1).1, h2.mono h1 hnm hcell (fun g' hg' => ⟨s5 g' (fun e => ?_), rfl⟩)⟩
      subst e
      exact I.dis j oj k ob h' (hH k ob hk) hj g' hg' hg
  · have back : ∀ j oj, (σ₁.upd o.dst (.tup []) [(k, some ob')] fr).H j = some oj → ∃ oj', σ₁.H j = some oj' := fun j oj h => by
      by_cases hj : j = k
      · subst hj; exact ⟨ob, hH j ob hk⟩
      · exact ⟨oj, by simpa [St.upd, look, Ne.symm hj] using h⟩
    obtain ⟨o1', h1'⟩ := back j1 o1 h1
    obtain ⟨o2', h2'⟩ := back j2 o2 h2
    exact I.dis j1 o1' j2 o2' h1' h2' hne
end
end Go.Ab
