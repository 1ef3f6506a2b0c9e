/- The abstract machine: operations, calls, regions. Conditions are in the theorems. -/
import Derived.Test.YtmbdfpgaokbkkaaDoorE1
import Derived.Deep.MidRow
import Derived.Great.BuildSlice
/- The abstract machine: variables, rows, addresses, loads and stores. -/
namespace Go.Ab
open Go.RowKit
def D.cells:D->List D
 | .agg ds=>ds
 | d=>[d]
def D.val:D->Bool
 | .tup _ | .any=>false
 | _=>true
theorem cells_one {v:Value} (h:v.oneCell'=true):v.cells = #[v]:=by cases v <;> first | rfl | cases h
theorem DR.cells {ν:Nat->Value} {nm:Nat->Bool} {w:World} {G:Lim} {v:Value} {d:D} (h:DR ν nm w G v d) (hd:d.val=true):
    v.cells.size=d.cells.length/\∀ (i:Nat) (u:Value) (e:D),v.cells[i]?=some u->d.cells[i]?=some e->DR ν nm w G u e/\u.oneCell'=true:=by
 have one:d.one=true->v.cells.size=[d].length/\∀ (i:Nat) (u:Value) (e:D),v.cells[i]?=some u->[d][i]?=some e->DR ν nm w G u e/\u.oneCell'=true:=fun ho=>by
  have hv:=h.oneCell ho;rw [cells_one hv];refine ⟨rfl,fun i u e hu he=>?_⟩;cases i with
  | zero=>simp at hu he;subst hu he;exact ⟨h,hv⟩
  | succ i=>simp at he
 cases d with
 | agg ds=>
   cases h with
   | @agg vs _ hl h h1=>
     exact ⟨hl,fun i u e hu he=>⟨h i u e hu he,h1 u (List.mem_iff_getElem?.2 ⟨i,by rw [Array.getElem?_toList];exact hu⟩)⟩⟩
 | tup ds=>cases hd
 | any=>cases hd
 | t x=>exact one rfl
 | own k=>exact one rfl
 | ref k off=>exact one rfl
 | ptr ts off=>exact one rfl
 | fn f caps=>exact one rfl
 | sub k i=>exact one rfl
 | sref k i j=>exact one rfl
 | vw k i j=>exact one rfl
 | via k r=>exact one rfl
def NC.tell:NC->D
 | .dat d=>d
 | .inn ..=>.any
def AObj.cells:AObj->List D
 | .box _ ds=>ds
 | .row _ _ _ ts _=>ts.map .t
 | .nest ..=>[]
 | .mp ..=>[]
 | .it ..=>[]
 | .nst _ _ _ _ _ cs=>cs.map NC.tell
theorem ObjOk.cell {E:Env} {ν:Nat->Value} {nm:Nat->Bool} {w:World} {G:Lim} {k:Nat} {o:AObj} (h:ObjOk E ν nm w G k o) {i:Nat} {d:D} (hd:o.cells[i]?=some d):
    ∃ g u,blk (ν k)=some g/\w.cell? ⟨g,i,none⟩=some u/\DR ν nm w G u d/\u.oneCell'=true:=by
 cases o with
 | nest=>simp [AObj.cells] at hd
 | mp=>simp [AObj.cells] at hd
 | it=>simp [AObj.cells] at hd
 | nst e e' m s n cs=>
   obtain ⟨xs,h1,hxl,hD,h2,h3,h4,h5⟩:=h;simp only [AObj.cells,List.getElem?_map] at hd;obtain ⟨c,hc,rfl⟩:=Option.map_eq_some_iff.1 hd;have hi:i < xs.length:=by rw [hxl];exact (List.getElem?_eq_some_iff.1 hc).1
   have hx:xs[i]?=some xs[i]:=List.getElem?_eq_getElem hi;have hg:∃ g,blk (ν k)=some g:=by
    rcases h1.2 with ⟨_,hn⟩ | ⟨g,cap,cur,hv,_⟩
    ·have:=h1.1
     rw [hn,Nat.zero_mul] at this;omega
    ·exact ⟨g,by rw [hv];rfl⟩
   obtain ⟨g,hg⟩:=hg;refine ⟨g,xs[i],hg,by rw [row_cell h1 hg hi];exact hx,?_⟩;cases c with
   | dat d=>exact hD i _ d hx hc
   | inn q ts=>
     obtain ⟨ys,y1,_⟩:=h2 i _ q ts hx hc;exact ⟨.any,ownsRow_one y1⟩
 | box e ds=>
   obtain ⟨g,cur,h1,h2,h3,h4,h5,h6⟩:=h;have hi:i < cur.size:=by rw [h5];exact (List.getElem?_eq_some_iff.1 hd).1
   obtain ⟨q1,q2⟩:=h6 i cur[i] d (Array.getElem?_eq_getElem hi) hd;exact ⟨g,cur[i],by rw [h1];rfl,by rw [cell_of_row' h3];exact Array.getElem?_eq_getElem hi,q1,q2⟩
 | row e s n ts st=>
   obtain ⟨xs,h1,h2,h3,h4⟩:=h;simp only [AObj.cells,List.getElem?_map] at hd;obtain ⟨t,ht,rfl⟩:=Option.map_eq_some_iff.1 hd;have hi:i < xs.length:=by rw [h2];exact (List.getElem?_eq_some_iff.1 ht).1
   have htr:=h3 i xs[i] t (List.getElem?_eq_getElem hi) ht;rcases h1.2 with ⟨_,hn⟩ | ⟨g,cap,cur,hv,r1,r2,r3,r4,r5,r6⟩
   ·have:=h1.1
    rw [hn,Nat.zero_mul] at this;omega
   ·refine ⟨g,xs[i],by rw [hv];rfl,?_,.t htr,htr.one⟩
    rw [cell_of_row' r2];have hx:(cur.toList.take (n * s))[i]?=some xs[i]:=by rw [r6];exact List.getElem?_eq_getElem hi
    rw [List.getElem?_take] at hx;split at hx
    ·simpa using hx
    ·cases hx
theorem ObjOk.mayb {E:Env} {ν:Nat->Value} {nm:Nat->Bool} {w:World} {G:Lim} {k:Nat} {o:AObj} (h:ObjOk E ν nm w G k o) {g:Nat} (hg:Ab.blk (ν k)=some g):E.may g:=(h.ft (foot_blk hg)).2
def setν (ν:Nat->Value) (k:Nat) (x:Value):Nat->Value:=fun j=>if j=k then x else ν j
theorem setν_same {ν:Nat->Value} {k:Nat} {x:Value}:setν ν k x k=x:=by simp [setν]
theorem setν_ne {ν:Nat->Value} {k j:Nat} {x:Value} (h:j≠k):setν ν k x j=ν j:=by simp [setν,h]
theorem Inv.newL {E:Env} {σ:St} {ν:Nat->Value} {G G':Lim} {w w':World} {a:Act} (I:Inv E σ ν G w a.tmps) {fr:Nat} (h100:100<=fr) (hf:∀ k,fr<=k->k < fr+8->σ.nm k=false) {dst:Option Tmp} (ht:∀ t,dst=some t->t < E.m)
    {W:Wr} (K:List Nat) {o:AObj} (hW:∀ k,look k W=if k=fr then some (some o) else if k ∈ K then some none else none)
    (hos:w'.os=w.os) (htape:w'.tape=w.tape) (hout:w'.output=w.output) (hsize:w.heap.size<=w'.heap.size)
    (hblk:∀ b,b < w.heap.size->(∀ k ∈ K,∀ o,σ.H k=some o->¬ foot w (ν k) o b)->w'.heap[b]?=w.heap[b]?/\G' b=G b) (hcell:∀ b i u,Cell w G b i u->Cell w' G' b i u)
    {x:Value} (hx:∀ g,foot w' x o g->w.heap.size<=g\/∃ k ∈ K,∃ o0,σ.H k=some o0/\foot w (ν k) o0 g) (ho:ObjOk E (setν ν fr x) (σ.upd dst .any W fr).nm w' G' fr o) {v:Value} {d:D} (hd:DR (setν ν fr x) (σ.upd dst .any W fr).nm w' G' v d):
    Inv E (σ.upd dst d W fr) (setν ν fr x) G' w' (a.put dst v).tmps:=by
 have hnf:σ.nm fr=false:=hf fr (Nat.le_refl _) (by omega);have hn:∀ k,σ.nm k=true->(σ.upd dst d W fr).nm k=true/\setν ν fr x k=ν k:=fun k hk=>⟨by simp [St.upd,hk],setν_ne (fun e=>by rw [e,hnf] at hk;cases hk)⟩
 have keep:∀ b,b < E.w0.heap.size->¬ E.X b->∀ k ∈ K,∀ o,σ.H k=some o->¬ foot w (ν k) o b:=fun b hb hX k _ o ho hfo=>by
  rcases ((I.H k o ho).2.ft hfo).2 with h | h
  ·omega
  ·exact hX h
 have other:∀ k o1,σ.H k=some o1->k ∉ K->∀ g,foot w (ν k) o1 g->w'.heap[g]?=w.heap[g]?/\G' g=G g:=fun k o1 h hk g hg=>
  hblk g ((I.H k o1 h).2.ft hg).1 fun j hj oj hoj hfo=>I.dis k o1 j oj h hoj (fun e=>hk (by rw [e];exact hj)) g hg hfo
 have ft':∀ k o1,σ.H k=some o1->k ∉ K->∀ g,foot w' (ν k) o1 g ↔ foot w (ν k) o1 g:=fun k o1 h hk g=>foot_of fun g hg=>(other k o1 h hk g (foot_blk hg)).1
 refine ⟨⟨hos.trans I.kept.os,htape.trans I.kept.tape,hout.trans I.kept.output,Nat.le_trans I.kept.size hsize,fun b hb hX=>?_⟩,fun b i u h=>hcell b i u (I.keep b i u h),fun k h1 h2=>?_,fun b hb hX=>?_,?_,fun t d' h=>?_,fun k o' h=>?_,fun k o1 k' o2 h h' hne g hg=>?_⟩
 ·exact (hblk b (Nat.lt_of_lt_of_le hb I.kept.size) (keep b hb hX)).1.trans (I.kept.block b hb hX)
 ·rw [setν_ne (by omega)]
  exact I.pin k h1 h2
 ·exact (hblk b (Nat.lt_of_lt_of_le hb I.kept.size) (keep b hb hX)).2.trans (I.g0 b hb hX)
 ·cases dst <;> simp [Act.put,I.sz]
 ·simp only [St.upd] at h
  split at h
  ·rename_i he
   cases h;subst he;refine ⟨v,?_,hd⟩;have:=ht t rfl;simp [Act.put,I.sz,this]
  ·rename_i he
   obtain ⟨u,hu,hdu⟩:=I.T t d' h;refine ⟨u,?_,hdu.mono hn hcell⟩;cases dst with
   | none=>simpa [Act.put] using hu
   | some t'=>
     have hne:t'≠t:=fun e=>he (by rw [e])
     simp only [Act.put];rw [Array.getElem?_setIfInBounds_ne hne];exact hu
 ·simp only [St.upd,hW] at h
  by_cases hk:k=fr
  ·subst hk
   simp only [if_true,Option.some.injEq] at h;subst h;exact ⟨by simp [St.upd],ho⟩
  ·rw [if_neg hk] at h
   by_cases hk':k ∈ K
   ·rw [if_pos hk'] at h;cases h
   ·rw [if_neg hk'] at h
    obtain ⟨h1,h2⟩:=I.H k o' h;exact ⟨(hn k h1).1,h2.mono h1 hn hcell (fun g hg=>other k o' h hk' g hg)⟩
 ·simp only [St.upd,hW] at h h'
  by_cases hk:k=fr
  ·subst hk
   rw [setν_same] at hg;simp only [if_true,Option.some.injEq] at h;subst h;have hne':k'≠k:=fun e=>hne e.symm
   rw [if_neg hne'] at h';by_cases hk':k' ∈ K
   ·rw [if_pos hk'] at h';cases h'
   ·rw [if_neg hk'] at h'
    rw [setν_ne hne',ft' k' o2 h' hk'];intro hgk;rcases hx g hg with h0 | ⟨j,hj,oj,hoj,hbj⟩
    ·have:=((I.H k' o2 h').2.ft hgk).1
     omega
    ·exact I.dis k' o2 j oj h' hoj (fun e=>hk' (by rw [e];exact hj)) g hgk hbj
  ·rw [if_neg hk] at h
   by_cases hk1:k ∈ K
   ·rw [if_pos hk1] at h;cases h
   ·rw [if_neg hk1] at h
    rw [setν_ne hk,ft' k o1 h hk1] at hg;by_cases hk':k'=fr
    ·subst hk'
     simp only [if_true,Option.some.injEq] at h';subst h';rw [setν_same];intro hgx;rcases hx g hgx with h0 | ⟨j,hj,oj,hoj,hbj⟩
     ·have:=((I.H k o1 h).2.ft hg).1
      omega
     ·exact I.dis k o1 j oj h hoj (fun e=>hk1 (by rw [e];exact hj)) g hg hbj
    ·rw [if_neg hk'] at h'
     by_cases hk2:k' ∈ K
     ·rw [if_pos hk2] at h';cases h'
     ·rw [if_neg hk2] at h'
      rw [setν_ne hk',ft' k' o2 h' hk2];exact I.dis k o1 k' o2 h h' hne g hg
theorem Inv.new {E:Env} {σ:St} {ν:Nat->Value} {G G':Lim} {w w':World} {a:Act} (I:Inv E σ ν G w a.tmps) {fr:Nat} (h100:100<=fr) (hf:∀ k,fr<=k->k < fr+8->σ.nm k=false) {dst:Option Tmp} (ht:∀ t,dst=some t->t < E.m)
    {W:Wr} (k0:Option Nat) {o:AObj} (hW:∀ k,look k W=if k=fr then some (some o) else if some k=k0 then some none else none)
    (hos:w'.os=w.os) (htape:w'.tape=w.tape) (hout:w'.output=w.output) (hsize:w.heap.size<=w'.heap.size)
    (hblk:∀ b,b < w.heap.size->(∀ k,some k=k0->blk (ν k)≠some b)->w'.heap[b]?=w.heap[b]?/\G' b=G b) (hcell:∀ b i u,Cell w G b i u->Cell w' G' b i u)
    (hk0:∀ k,some k=k0->∃ o,σ.H k=some o)
    {x:Value} (hx:∀ g,blk x=some g->w.heap.size<=g\/∃ k,some k=k0/\blk (ν k)=some g) (ho:ObjOk E (setν ν fr x) (σ.upd dst .any W fr).nm w' G' fr o) {v:Value} {d:D} (hd:DR (setν ν fr x) (σ.upd dst .any W fr).nm w' G' v d)
    (hp:∀ w v g,foot w v o g->blk v=some g:=by intro _ _ _ h;exact h):
    Inv E (σ.upd dst d W fr) (setν ν fr x) G' w' (a.put dst v).tmps:=by
 have hK:∀ k,k ∈ k0.toList ↔ some k=k0:=fun k=>by cases k0 <;> simp [eq_comm]
 refine I.newL h100 hf ht k0.toList (fun k=>?_) hos htape hout hsize (fun b hb h=>hblk b hb fun k hk hbk=>?_) hcell (fun g hg=>?_) ho hd
 ·rw [hW]
  by_cases e:some k=k0
  ·rw [if_pos e,if_pos ((hK k).2 e)]
  ·rw [if_neg e,if_neg (fun h=>e ((hK k).1 h))]
 ·obtain ⟨o,ho⟩:=hk0 k hk
  exact h k ((hK k).2 hk) o ho (foot_blk hbk)
 ·rcases hx g (hp _ _ _ hg) with h | ⟨k,hk,hb⟩
  ·exact .inl h
  ·obtain ⟨o,ho⟩:=hk0 k hk
   exact .inr ⟨k,(hK k).2 hk,o,ho,foot_blk hb⟩
theorem Inv.fresh {E:Env} {σ:St} {ν:Nat->Value} {G G':Lim} {w w':World} {a:Act} (I:Inv E σ ν G w a.tmps) {fr:Nat} (h100:100<=fr) (hf:∀ k,fr<=k->k < fr+8->σ.nm k=false) {dst:Option Tmp} (ht:∀ t,dst=some t->t < E.m)
    {o:AObj} (hA:Aft w w') (hG:∀ b,b < w.heap.size->G' b=G b) {x:Value} (hx:∀ g,blk x=some g->w.heap.size<=g) (ho:ObjOk E (setν ν fr x) (σ.upd dst .any [(fr,some o)] fr).nm w' G' fr o) {v:Value} {d:D}
    (hd:DR (setν ν fr x) (σ.upd dst .any [(fr,some o)] fr).nm w' G' v d) (hp:∀ w v g,foot w v o g->blk v=some g:=by intro _ _ _ h;exact h):Inv E (σ.upd dst d [(fr,some o)] fr) (setν ν fr x) G' w' (a.put dst v).tmps:=
 I.new h100 hf ht none (fun k=>by
  by_cases h:k=fr
  ·subst h;simp [look]
  ·simp [look,h,Ne.symm h]) hA.os hA.tape hA.output hA.size (fun b hb _=>⟨hA.block b hb,hG b hb⟩) (fun _ _ _ h=>h.aft hA hG) (fun _ h=>by cases h) (fun g hg=>.inl (hx g hg)) ho hd hp
theorem upd_nm_fr (σ:St) (dst:Option Tmp) (d:D) (W:Wr) (fr:Nat):(σ.upd dst d W fr).nm fr=true:=by simp [St.upd]
section
variable {P:Program} {o:Oper} {σ:St} {fr:Nat}
theorem ok_box {e:TypeId} {x:Operand} {d:D} (ho:o.op = .box e x) (hx:σ.ev x=some d) (hv:d.val=true):OpOk P o σ fr (.ref fr 0) [(fr,some (.box e d.cells))]:=by
 intro E σ₁ a w hT _ h100 hf hd ⟨ν,G,I⟩ Q;have hdx:=I.ev (St.ev_le hT hx);unfold Oper.wp;have hr:(execOp a.eval o).run P w = .ok (.value (.pointer (some ⟨w.heap.size,0,none⟩))) (w.alloc (.cells (a.eval x).cells e)):=by
  unfold execOp;rw [ho];simp [Instr.box,newVar,newRow]
 rw [hr,Oper.upon_value];have hA:Aft w (w.alloc (.cells (a.eval x).cells e)):=(Aft.refl w).alloc _;refine ⟨put_defers ..,_,_,I.fresh (G':=fun b=>if b=w.heap.size then 0 else G b) h100 hf hd hA (fun b hb=>if_neg (by omega)) (x:=.pointer (some ⟨w.heap.size,0,none⟩)) (fun g hg=>by cases hg;exact Nat.le_refl _) ?_ (.ref (upd_nm_fr ..) (by rw [setν_same];rfl))⟩;obtain ⟨hc1,hc2⟩:=hdx.cells hv;refine ⟨w.heap.size,(a.eval x).cells,setν_same,.inl I.kept.size,heap_alloc_new w _,if_pos rfl,hc1,fun i u d' hu hd'=>?_⟩;obtain ⟨q1,q2⟩:=hc2 i u d' hu hd';refine ⟨q1.mono (fun k hk=>⟨by simp [St.upd,hk],setν_ne (fun e=>?_)⟩) (fun _ _ _ h=>h.aft hA (fun b hb=>if_neg (by omega))),q2⟩;rw [e,hf fr (Nat.le_refl _) (by omega)] at hk;cases hk
theorem run_load1 {t:TypeId} {dsc:TypeDesc} (hu:P.underlying t=some dsc) (hd:dsc.isRow=false) {w:World} {b i:Nat} {u:Value} (hc:w.cell? ⟨b,i,none⟩=some u):(Instr.loadAt t (.pointer (some ⟨b,i,none⟩))).run P w = .ok u w:=by
 have hagg:(isAgg t).run P w = .ok false w:=by
  unfold isAgg;rw [Sem.run_bind,run_underlying hu w];cases dsc <;> simp_all
 simp [Instr.loadAt,Instr.sureAddr,loadVar,Sem.run_bind,hagg,hc]
theorem ref_of {ν:Nat->Value} {nm:Nat->Bool} {w:World} {G:Lim} {v:Value} {k off:Nat} (h:DR ν nm w G v (.ref k off)):∃ g,blk (ν k)=some g/\v = .pointer (some ⟨g,off,none⟩)/\nm k=true:=by
 cases h with | ref hk hg=>exact ⟨_,hg,rfl,hk⟩
theorem ok_load1 {t:TypeId} {dsc:TypeDesc} {x:Operand} {k off:Nat} {ob:AObj} {d:D} (ho:o.op = .load t x) (hu:P.underlying t=some dsc) (hdsc:dsc.isRow=false) (hx:σ.ev x=some (.ref k off)) (hk:σ.H k=some ob) (hc:ob.cells[off]?=some d):OpOk P o σ fr d []:=
 ok_pure fun E σ₁ ν G w a hH I hev=>by
  obtain ⟨g,hg,hv,_⟩:=ref_of (hev x _ hx);obtain ⟨g',u,hg',hcu,hdu,_⟩:=(I.H k ob (hH k ob hk)).2.cell hc;rw [hg] at hg';cases hg';refine ⟨u,?_,hdu⟩;unfold execOp;rw [ho];simp [hv,run_load1 hu hdsc hcu]
theorem ok_loadn {t:TypeId} {dsc:TypeDesc} {x:Operand} {k off m:Nat} {ob:AObj} {ds:List D} (ho:o.op = .load t x) (hu:P.underlying t=some dsc) (hdsc:dsc.isRow=true) (hi:(P.info? t).map (·.size)=some m) (hx:σ.ev x=some (.ref k off)) (hk:σ.H k=some ob)
    (hc:(ob.cells.drop off).take m=ds) (hm:ds.length=m):OpOk P o σ fr (.agg ds) []:=
 ok_pure fun E σ₁ ν G w a hH I hev=>by
  obtain ⟨g,hg,hv,_⟩:=ref_of (hev x _ hx);have hob:=(I.H k ob (hH k ob hk)).2;have hget:∀ i d,ds[i]?=some d->ob.cells[off+i]?=some d:=fun i d h=>by
   rw [← hc,List.getElem?_take] at h;split at h
   ·simpa using h
   ·cases h
  have hall:∀ i,i < m->∃ u,w.cell? ⟨g,off+i,none⟩=some u/\∀ d,ds[i]?=some d->DR ν σ₁.nm w G u d/\u.oneCell'=true:=fun i h=>by
   have hd:ds[i]?=some ds[i]:=List.getElem?_eq_getElem (by omega);obtain ⟨g',u,hg',hcu,hdu,h1⟩:=hob.cell (hget i _ hd);rw [hg] at hg';cases hg';exact ⟨u,hcu,fun d h=>by rw [hd] at h;cases h;exact ⟨hdu,h1⟩⟩
  let cs:List Value:=(List.range m).map fun i=>(w.cell? ⟨g,off+i,none⟩).getD undef
  have hcs:∀ i u,cs[i]?=some u->i < m/\w.cell? ⟨g,off+i,none⟩=some u:=fun i u h=>by
   have hi:i < m:=by simpa [cs] using (List.getElem?_eq_some_iff.1 h).1
   obtain ⟨u',h',_⟩:=hall i hi;simp [cs,hi,h'] at h;exact ⟨hi,by rw [h',h]⟩
  refine ⟨.agg cs.toArray,?_,.agg (by simp [cs,hm]) (fun i u d h h'=>?_) (fun u h=>?_)⟩
  ·unfold execOp
   rw [ho];simp only [hv,Sem.run_bind,run_loadAt_mid w g off t cs dsc (fun j v h=>(hcs j v h).2) hu hdsc (by rw [hi];simp [cs])];rfl
  ·obtain ⟨hi,hcu⟩:=hcs i u (by simpa using h)
   obtain ⟨u',h1,h2⟩:=hall i hi;rw [hcu] at h1;cases h1;exact (h2 d h').1
  ·obtain ⟨i,hiu⟩:=List.mem_iff_getElem?.1 (by simpa using h:u ∈ cs)
   obtain ⟨hi,hcu⟩:=hcs i u hiu;obtain ⟨u',h1,h2⟩:=hall i hi;rw [hcu] at h1;cases h1;exact (h2 _ (List.getElem?_eq_getElem (by omega))).2
theorem ptr_of {ν:Nat->Value} {nm:Nat->Bool} {w:World} {G:Lim} {v:Value} {ts:List Tree} {off:Nat} (h:DR ν nm w G v (.ptr ts off)):∃ (b o:Nat) (us:List Value),v = .pointer (some ⟨b,o+off,none⟩)/\us.length=ts.length/\(∀ (i:Nat) (u:Value),us[i]?=some u->Cell w G b (o+i) u)/\∀ (i:Nat) (u:Value) (t:Tree),us[i]?=some u->ts[i]?=some t->TR w G u t:=by
 cases h with | @ptr b o _ us _ hl hc h=>exact ⟨b,o,us,rfl,hl,hc,h⟩
theorem ok_loadp1 {t:TypeId} {dsc:TypeDesc} {x:Operand} {ts:List Tree} {off:Nat} {tr:Tree} (ho:o.op = .load t x) (hu:P.underlying t=some dsc) (hdsc:dsc.isRow=false) (hx:σ.ev x=some (.ptr ts off)) (hc:ts[off]?=some tr):OpOk P o σ fr (.t tr) []:=
 ok_pure fun E σ₁ ν G w a hH I hev=>by
  obtain ⟨b,q,us,hv,hl,hcu,htr⟩:=ptr_of (hev x _ hx);have hi:off < us.length:=by rw [hl];exact (List.getElem?_eq_some_iff.1 hc).1
  have hu':us[off]?=some us[off]:=List.getElem?_eq_getElem hi;refine ⟨us[off],?_,.t (htr off _ tr hu' hc)⟩;unfold execOp;rw [ho];simp [hv,run_load1 hu hdsc (hcu off _ hu').1]
theorem ok_loadpn {t:TypeId} {dsc:TypeDesc} {x:Operand} {ts xs:List Tree} {off m:Nat} (ho:o.op = .load t x) (hu:P.underlying t=some dsc) (hdsc:dsc.isRow=true) (hi:(P.info? t).map (·.size)=some m) (hx:σ.ev x=some (.ptr ts off))
    (hc:(ts.drop off).take m=xs) (hm:xs.length=m):OpOk P o σ fr (.agg (xs.map .t)) []:=
 ok_pure fun E σ₁ ν G w a hH I hev=>by
  obtain ⟨b,q,us,hv,hl,hcu,htr⟩:=ptr_of (hev x _ hx);have hget:∀ i d,xs[i]?=some d->ts[off+i]?=some d:=fun i d h=>by
   rw [← hc,List.getElem?_take] at h;split at h
   ·simpa using h
   ·cases h
  let cs:List Value:=(us.drop off).take m
  have hlen:cs.length=m:=by
   have h1:xs.length=min m (ts.length - off):=by rw [← hc];simp
   simp only [cs,List.length_take,List.length_drop,hl];omega
  have hcs:∀ i u,cs[i]?=some u->us[off+i]?=some u:=fun i u h=>by
   simp only [cs,List.getElem?_take] at h;split at h
   ·simpa using h
   ·cases h
  refine ⟨.agg cs.toArray,?_,.agg (by simp [hlen,hm]) (fun i u d h h'=>?_) (fun u h=>?_)⟩
  ·unfold execOp
   rw [ho];simp only [hv,Sem.run_bind,run_loadAt_mid w b (q+off) t cs dsc (fun j v h=>by rw [Nat.add_assoc];exact (hcu _ v (hcs j v h)).1) hu hdsc (by rw [hi,hlen])];rfl
  ·rw [List.getElem?_map] at h'
   obtain ⟨tr,h1,rfl⟩:=Option.map_eq_some_iff.1 h';exact .t (htr _ u tr (hcs i u (by simpa using h)) (hget i tr h1))
  ·obtain ⟨i,hiu⟩:=List.mem_iff_getElem?.1 (by simpa using h:u ∈ cs)
   have hi':i < xs.length:=by rw [hm,← hlen];exact (List.getElem?_eq_some_iff.1 hiu).1
   exact (htr _ u _ (hcs i u hiu) (hget i _ (List.getElem?_eq_getElem hi'))).one
def fieldOff (P:Program) (s:TypeId) (f:Nat):Option Nat:=
 match P.underlying s with
 | some (.struct fs)=>match fs[f]? with
   | some fl=>match P.info? fl.type with
     | some i=>if i.size=0 then none else some fl.offset
     | none=>none
   | none=>none
 | _=>none
theorem run_fieldAt {s:TypeId} {f q:Nat} (h:fieldOff P s f=some q) (w:World) (b i:Nat):(Instr.fieldAt s (.pointer (some ⟨b,i,none⟩)) f).run P w = .ok (.pointer (some ⟨b,i+q,none⟩)) w:=by
 unfold fieldOff at h;split at h
 ·rename_i fs hu
  split at h
  ·rename_i fl hfl
   split at h
   ·rename_i inf hinf
    split at h
    ·cases h
    ·rename_i h0
     cases h;simp [Instr.fieldAt,run_underlying hu,hfl,Instr.sureAddr,fieldPlace,sizeOf,typeInfo,hinf,h0,Addr.add_mid]
   ·cases h
  ·cases h
 ·cases h
theorem ok_fieldr {s:TypeId} {x:Operand} {f q k off:Nat} (ho:o.op = .fieldAddr s x f) (hq:fieldOff P s f=some q) (hx:σ.ev x=some (.ref k off)):OpOk P o σ fr (.ref k (off+q)) []:=
 ok_pure fun E σ₁ ν G w a hH I hev=>by
  have hr:=hev x _ hx;obtain ⟨g,hg,hv,hk⟩:=ref_of hr;refine ⟨.pointer (some ⟨g,off+q,none⟩),?_,?_⟩
  ·unfold execOp
   rw [ho];simp [hv,run_fieldAt hq]
  ·exact .ref hk hg
theorem ok_fieldp {s:TypeId} {x:Operand} {f q off:Nat} {ts:List Tree} (ho:o.op = .fieldAddr s x f) (hq:fieldOff P s f=some q) (hx:σ.ev x=some (.ptr ts off)):OpOk P o σ fr (.ptr ts (off+q)) []:=
 ok_pure fun E σ₁ ν G w a hH I hev=>by
  obtain ⟨b,i,us,hv,hl,hcu,htr⟩:=ptr_of (hev x _ hx);refine ⟨.pointer (some ⟨b,i+(off+q),none⟩),?_,.ptr hl hcu htr⟩;unfold execOp;rw [ho];simp [hv,run_fieldAt hq,Nat.add_assoc]
def elemSz (P:Program) (t:TypeId):Option Nat:=
 match P.underlying t with
 | some (.slice e)=>(P.info? e).map (·.size)
 | _=>none
theorem run_indexSl {t:TypeId} {s:Nat} (h:elemSz P t=some s) (w:World) (b i n c:Nat) (k:IntKind) (j:Int) (h0:0<=j) (hn:j < n):
    (Instr.indexAt t (.slice (some ⟨b,i,none⟩) n c) (.int k j)).run P w = .ok (.pointer (some ⟨b,i+j.toNat * s,none⟩)) w:=by
 unfold elemSz at h;split at h
 ·rename_i e hu
  obtain ⟨inf,hinf,hs⟩:=Option.map_eq_some_iff.1 h;simp [Instr.indexAt,run_underlying hu,asIntOf,sizeOf,typeInfo,hinf,hs,h0,hn,Addr.add_mid]
 ·cases h
theorem ok_indexp {t:TypeId} {x y:Operand} {s n:Nat} {ts:List Tree} {k:IntKind} {j:Int} (ho:o.op = .indexAddr t x y) (hs:elemSz P t=some s) (hx:σ.ev x=some (.t (.sl n ts))) (hy:σ.ev y=some (.t (.v (.int k j)))) (h0:0<=j) (hn:j < n):
    OpOk P o σ fr (.ptr ts (j.toNat * s)) []:=
 ok_pure fun E σ₁ ν G w a hH I hev=>by
  have hv:=hev x _ hx;have hj:=bool_of (hev y _ hy);obtain ⟨v,he⟩:∃ v,a.eval x=v:=⟨_,rfl⟩
  rw [he] at hv;cases hv with
  | t hv=>
    cases hv with
    | nil _=>omega
    | sl b i n c us _ hl hc hn' h=>
      refine ⟨.pointer (some ⟨b,i+j.toNat * s,none⟩),?_,.ptr hl hc h⟩;unfold execOp;rw [ho];simp [he,hj,run_indexSl hs w b i n c k j h0 hn]
theorem ok_indexr {t:TypeId} {x y:Operand} {s n q:Nat} {ts:List Tree} {e:TypeId} {st:Bool} {s':Nat} {k:IntKind} {j:Int} (ho:o.op = .indexAddr t x y) (hs:elemSz P t=some s) (hx:σ.ev x=some (.own q)) (hq:σ.H q=some (.row e s' n ts st)) (hy:σ.ev y=some (.t (.v (.int k j)))) (h0:0<=j) (hn:j < n):
    OpOk P o σ fr (.ref q (j.toNat * s)) []:=
 ok_pure fun E σ₁ ν G w a hH I hev=>by
  have hv:=hev x _ hx;have hj:=bool_of (hev y _ hy);obtain ⟨v,he⟩:∃ v,a.eval x=v:=⟨_,rfl⟩
  rw [he] at hv;cases hv with
  | own hk h1=>
    obtain ⟨xs,r1,r2,r3,r4⟩:=(I.H q _ (hH q _ hq)).2;rcases r1.2 with ⟨_,hz⟩ | ⟨g,cap,cur,hvv,_⟩
    ·omega
    ·refine ⟨.pointer (some ⟨g,j.toNat * s,none⟩),?_,.ref hk (by rw [hvv];rfl)⟩
     unfold execOp;rw [ho];simp [he,hj,hvv,run_indexSl hs w g 0 n cap k j h0 hn]
def arrSz (P:Program) (t:TypeId):Option (Nat×Nat):=
 match P.underlying t with
 | some (.array n e)=>(P.info? e).map fun i=>(n,i.size)
 | _=>none
theorem ok_indexa {t:TypeId} {x y:Operand} {s n q off:Nat} {k:IntKind} {j:Int} (ho:o.op = .indexAddr t x y) (hs:arrSz P t=some (n,s)) (hx:σ.ev x=some (.ref q off)) (hy:σ.ev y=some (.t (.v (.int k j)))) (h0:0<=j) (hn:j < n):
    OpOk P o σ fr (.ref q (off+j.toNat * s)) []:=
 ok_pure fun E σ₁ ν G w a hH I hev=>by
  have hr:=hev x _ hx;have hj:=bool_of (hev y _ hy);obtain ⟨g,hg,hv,hk⟩:=ref_of hr;refine ⟨.pointer (some ⟨g,off+j.toNat * s,none⟩),?_,?_⟩
  ·unfold arrSz at hs
   split at hs
   ·rename_i n' e hu
    obtain ⟨inf,hinf,he⟩:=Option.map_eq_some_iff.1 hs;simp only [Prod.mk.injEq] at he;obtain ⟨rfl,rfl⟩:=he;unfold execOp;rw [ho];simp [hv,hj,Instr.indexAt,run_underlying hu,Instr.sureAddr,asIntOf,sizeOf,typeInfo,hinf,h0,hn,Addr.add_mid]
   ·cases hs
  ·exact .ref hk hg
theorem ok_indexpa {t:TypeId} {x y:Operand} {s n off:Nat} {ts:List Tree} {k:IntKind} {j:Int} (ho:o.op = .indexAddr t x y) (hs:arrSz P t=some (n,s)) (hx:σ.ev x=some (.ptr ts off)) (hy:σ.ev y=some (.t (.v (.int k j)))) (h0:0<=j) (hn:j < n):
    OpOk P o σ fr (.ptr ts (off+j.toNat * s)) []:=
 ok_pure fun E σ₁ ν G w a hH I hev=>by
  have hj:=bool_of (hev y _ hy);obtain ⟨b,q,us,hv,hl,hcu,htr⟩:=ptr_of (hev x _ hx);refine ⟨.pointer (some ⟨b,q+(off+j.toNat * s),none⟩),?_,.ptr hl hcu htr⟩;unfold arrSz at hs;split at hs
  ·rename_i n' e hu
   obtain ⟨inf,hinf,he⟩:=Option.map_eq_some_iff.1 hs;simp only [Prod.mk.injEq] at he;obtain ⟨rfl,rfl⟩:=he;unfold execOp;rw [ho];simp [hv,hj,Instr.indexAt,run_underlying hu,Instr.sureAddr,asIntOf,sizeOf,typeInfo,hinf,h0,hn,Addr.add_mid,Nat.add_assoc]
  ·cases hs
end
end Go.Ab
/- The abstract machine: stores, appends, values that are built. -/
namespace Go.Ab
open Go.RowKit
def splice {α:Type} (l:List α) (off:Nat) (new:List α):List α:=l.take off++new++l.drop (off+new.length)
theorem splice_length {α:Type} {l:List α} {off:Nat} {new:List α} (h:off+new.length<=l.length):(splice l off new).length=l.length:=by
 simp [splice];omega
theorem splice_get {α:Type} {l:List α} {off:Nat} {new:List α} (h:off+new.length<=l.length) (i:Nat):(splice l off new)[i]?=if i < off then l[i]? else if i < off+new.length then new[i - off]? else l[i]?:=by
 unfold splice;by_cases h1:i < off
 ·rw [if_pos h1,List.append_assoc,List.getElem?_append_left (by simp;omega),List.getElem?_take,if_pos h1]
 ·rw [if_neg h1]
  by_cases h2:i < off+new.length
  ·rw [if_pos h2,List.append_assoc,List.getElem?_append_right (by simp;omega),List.getElem?_append_left (by simp;omega)]
   congr 1
   simp;omega
  ·rw [if_neg h2,List.getElem?_append_right (by simp;omega),List.getElem?_drop]
   congr 1
   simp;omega
def setMany (cur:Array Value):Nat->List Value->Array Value
 | _,[]=>cur
 | o,v::r=>setMany (cur.setIfInBounds o v) (o+1) r
theorem setMany_size:∀ (vs:List Value) (cur:Array Value) (o:Nat),(setMany cur o vs).size=cur.size
 | [],_,_=>rfl
 | v::r,cur,o=>by rw [setMany,setMany_size r];simp
theorem setMany_get:∀ (vs:List Value) (cur:Array Value) (o i:Nat),o+vs.length<=cur.size->(setMany cur o vs)[i]?=if i < o then cur[i]? else if i < o+vs.length then vs[i - o]? else cur[i]?
 | [],cur,o,i,_=>by simp [setMany];intro h;omega
 | v::r,cur,o,i,h=>by
   rw [List.length_cons] at h;rw [setMany,setMany_get r _ _ i (by simp;omega)];by_cases h1:i < o
   ·rw [if_pos (by omega),if_pos h1,Array.getElem?_setIfInBounds_ne (by omega)]
   ·by_cases h2:i=o
    ·subst h2
     rw [if_pos (by omega),if_neg h1,if_pos (show i < i+(v::r).length by rw [List.length_cons];omega),Nat.sub_self];have hi:i < cur.size:=by omega
     simp [hi]
    ·rw [if_neg (by omega),if_neg h1]
     by_cases h3:i < o+1+r.length
     ·rw [if_pos h3,if_pos (show i < o+(v::r).length by rw [List.length_cons];omega),show i - o=(i - (o+1))+1 by omega]
      simp
     ·rw [if_neg h3,if_neg (show ¬ i < o+(v::r).length by rw [List.length_cons];omega),Array.getElem?_setIfInBounds_ne (by omega)]
theorem setCell_heap {w:World} {g o:Nat} {cur:Array Value} {e:TypeId} {fr:Nat×Nat} {v:Value} (h:w.heap[g]?=some (.cells cur e fr)):(w.setCell ⟨g,o,none⟩ v).heap[g]?=some (.cells (cur.setIfInBounds o v) e fr):=by
 have hlt:=heap_lt h;have hv:w.heap[g] = .cells cur e fr:=(Array.getElem?_eq_some_iff.1 h).2;unfold World.setCell;simp only;rw [Array.getElem?_eq_getElem (by simpa using hlt),Array.getElem_modify];simp [hv]
theorem setCells_heap {g:Nat} {e:TypeId} {fr:Nat×Nat}:∀ (vs:List Value) (o:Nat) (w:World) (cur:Array Value),w.heap[g]?=some (.cells cur e fr)->(w.setCells g o vs).heap[g]?=some (.cells (setMany cur o vs) e fr)
 | [],_,_,_,h=>h
 | _::r,o,_,_,h=>setCells_heap r (o+1) _ _ (setCell_heap h)
theorem setCells_same {g:Nat}:∀ (vs:List Value) (o:Nat) (w:World),(w.setCells g o vs).os=w.os/\(w.setCells g o vs).tape=w.tape/\(w.setCells g o vs).output=w.output/\(w.setCells g o vs).heap.size=w.heap.size/\∀ b,b≠g->(w.setCells g o vs).heap[b]?=w.heap[b]?
 | [],_,_=>⟨rfl,rfl,rfl,rfl,fun _ _=>rfl⟩
 | v::r,o,w=>by
   obtain ⟨h1,h2,h3,h4,h5⟩:=setCells_same r (o+1) (w.setCell ⟨g,o,none⟩ v);refine ⟨h1,h2,h3,h4.trans (by simp [World.setCell]),fun b hb=>(h5 b hb).trans ?_⟩;simp [World.setCell,Array.getElem?_modify,Ne.symm hb]
theorem run_storeCells {P:Program} {w:World} {b o:Nat} {ty:TypeId} {v:Value} (ht:w.there b o v.cells.size) (hi:(P.info? ty).map (·.size)=some v.cells.size) (h1:∀ u ∈ v.cells.toList,u.oneCell'=true):
    (Instr.storeAt ty (.pointer (some ⟨b,o,none⟩)) v).run P w = .ok () (w.setCells b o v.cells.toList):=by
 have:=run_storeAt_mid (P:=P) w b o ty v.cells ht hi (by rw [Array.all_eq_true_iff_forall_mem];exact fun x hx=>h1 x (Array.mem_toList_iff.2 hx));rw [← this];rfl
def asTrees:List D->Option (List Tree)
 | []=>some []
 | .t x::l=>(asTrees l).map (x :: ·)
 | _::_=>none
theorem asTrees_map:∀ {new:List D} {xs:List Tree},asTrees new=some xs->new=xs.map .t
 | [],xs,h=>by cases h;rfl
 | d::l,xs,h=>by
   cases d with
   | t x=>
     simp only [asTrees] at h;obtain ⟨ys,hy,rfl⟩:=Option.map_eq_some_iff.1 h;rw [asTrees_map hy];rfl
   | _=>cases h
def AObj.put:AObj->Nat->List D->Option AObj
 | .box e ds,off,new=>if off+new.length<=ds.length then some (.box e (splice ds off new)) else none
 | .row e s n ts st,off,new=>if off+new.length<=ts.length/\st=false then (asTrees new).map fun xs=>.row e s n (splice ts off xs) st else none
 | .nest ..,_,_=>none
 | .mp ..,_,_=>none
 | .it ..,_,_=>none
 | .nst ..,_,_=>none
theorem AObj.put_foot {ob ob':AObj} {off:Nat} {new:List D} (hp:ob.put off new=some ob') {w w':World} {v:Value} {g:Nat}:(foot w' v ob' g ↔ blk v=some g)/\(foot w v ob g ↔ blk v=some g):=by
 cases ob with
 | nest=>cases hp
 | mp=>cases hp
 | it=>cases hp
 | nst=>cases hp
 | box e ds=>
   simp only [AObj.put] at hp;split at hp
   ·cases hp;exact ⟨Iff.rfl,Iff.rfl⟩
   ·cases hp
 | row e s n ts st=>
   simp only [AObj.put] at hp;split at hp
   ·obtain ⟨ys,_,rfl⟩:=Option.map_eq_some_iff.1 hp
    exact ⟨Iff.rfl,Iff.rfl⟩
   ·cases hp
theorem ObjOk.put {E:Env} {ν:Nat->Value} {nm:Nat->Bool} {w:World} {G:Lim} {k:Nat} {ob ob':AObj} {off:Nat} {new:List D} {vs:List Value} (h:ObjOk E ν nm w G k ob) (hp:ob.put off new=some ob') (hl:vs.length=new.length)
    (hv:∀ (i:Nat) (u:Value) (d:D),vs[i]?=some u->new[i]?=some d->DR ν nm w G u d/\u.oneCell'=true) (hpos:0 < new.length):
    ∃ g,blk (ν k)=some g/\w.there g off vs.length/\G g=0/\∀ w',(∀ b i u,Cell w G b i u->Cell w' G b i u)->w'=w.setCells g off vs->ObjOk E ν nm w' G k ob':=by
 cases ob with
 | nest=>cases hp
 | mp=>cases hp
 | it=>cases hp
 | nst=>cases hp
 | box e ds=>
   obtain ⟨g,cur,h1,h2,h3,h4,h5,h6⟩:=h;simp only [AObj.put] at hp;split at hp
   ·rename_i hle
    cases hp;refine ⟨g,by rw [h1];rfl,fun j hj=>⟨?_,by simp [World.frozen?,h3]⟩,h4,fun w' hx hw=>?_⟩
    ·rw [cell_of_row' h3,Array.getElem?_eq_getElem (by omega)];rfl
    ·subst hw
     refine ⟨g,_,h1,h2,setCells_heap vs off w cur h3,h4,by rw [setMany_size,h5,splice_length hle],fun i u d hu hd=>?_⟩;rw [setMany_get _ _ _ _ (by omega)] at hu;rw [splice_get hle] at hd;by_cases c1:i < off
     ·rw [if_pos c1] at hu hd
      exact ⟨(h6 i u d hu hd).1.mono (fun _ h=>⟨h,rfl⟩) hx,(h6 i u d hu hd).2⟩
     ·rw [if_neg c1] at hu hd
      by_cases c2:i < off+vs.length
      ·rw [if_pos c2] at hu
       rw [if_pos (by omega)] at hd;exact ⟨(hv _ u d hu hd).1.mono (fun _ h=>⟨h,rfl⟩) hx,(hv _ u d hu hd).2⟩
      ·rw [if_neg c2] at hu
       rw [if_neg (by omega)] at hd;exact ⟨(h6 i u d hu hd).1.mono (fun _ h=>⟨h,rfl⟩) hx,(h6 i u d hu hd).2⟩
   ·cases hp
 | row e s n ts st=>
   obtain ⟨xs,h1,h2,h3,h4⟩:=h;simp only [AObj.put] at hp;split at hp
   ·rename_i hle
    obtain ⟨hle,rfl⟩:=hle;obtain ⟨ys,hys,rfl⟩:=Option.map_eq_some_iff.1 hp;have hnew:=asTrees_map hys;subst hnew;simp only [List.length_map] at hle hl hpos;rcases h1.2 with ⟨_,hz⟩ | ⟨g,cap,cur,hvv,r1,r2,r3,r4,r5,r6⟩
    ·have:=h1.1
     rw [hz,Nat.zero_mul] at this;omega
    ·have hGg:=(h4 g (by rw [hvv];rfl)).2
     simp only [if_false,Bool.false_eq_true] at hGg;have hxl:xs.length<=cur.size:=by rw [← r6];simp;omega
     refine ⟨g,by rw [hvv];rfl,fun j hj=>⟨?_,by simp [World.frozen?,r2]⟩,hGg,fun w' hx hw=>?_⟩
     ·rw [cell_of_row' r2,Array.getElem?_eq_getElem (by omega)];rfl
     ·subst hw
      refine ⟨splice xs off vs,⟨by rw [splice_length (by omega)];exact h1.1,.inr ⟨g,cap,_,hvv,r1,setCells_heap vs off w cur r2,r3,r4,by rw [setMany_size];exact r5,?_⟩⟩,by rw [splice_length (by omega),splice_length (by omega)];exact h2,fun i u t hu ht=>?_,fun g' hg'=>h4 g' hg'⟩
      ·apply List.ext_getElem?
       intro i;rw [List.getElem?_take,splice_get (by omega)];have hxn:xs.length=n * s:=h1.1;have hget:∀ j,j < n * s->cur[j]?=xs[j]?:=fun j hj=>by rw [← r6,List.getElem?_take,if_pos hj];simp
       by_cases c0:i < n * s
       ·rw [if_pos c0]
        have:(setMany cur off vs).toList[i]?=(setMany cur off vs)[i]?:=by simp
        rw [this,setMany_get _ _ _ _ (by omega)];by_cases c1:i < off
        ·rw [if_pos c1,if_pos c1,hget i c0]
        ·rw [if_neg c1,if_neg c1]
         by_cases c2:i < off+vs.length
         ·rw [if_pos c2,if_pos c2]
         ·rw [if_neg c2,if_neg c2,hget i c0]
       ·rw [if_neg c0,if_neg (by omega),if_neg (by omega),List.getElem?_eq_none (by omega)]
      ·rw [splice_get (by omega)] at hu ht
       by_cases c1:i < off
       ·rw [if_pos c1] at hu ht
        exact (h3 i u t hu ht).mono hx
       ·rw [if_neg c1] at hu ht
        by_cases c2:i < off+vs.length
        ·rw [if_pos c2] at hu
         rw [if_pos (by omega)] at ht;have:=(hv _ u (.t t) hu (by rw [List.getElem?_map,ht];rfl)).1;cases this with | t h=>exact h.mono hx
        ·rw [if_neg c2] at hu
         rw [if_neg (by omega)] at ht;exact (h3 i u t hu ht).mono hx
   ·cases hp
section
variable {P:Program} {o:Oper} {σ:St} {fr:Nat}
inductive EvT (σ:St) (y:Operand):D->Prop
 | ev {d:D} (h:σ.ev y=some d):EvT σ y d
 | own {k n:Nat} {e:TypeId} {s:Nat} {ts:List Tree} (h:σ.ev y=some (.own k)) (hk:σ.H k=some (.row e s n ts true)):EvT σ y (.t (.sl n ts))
 | wk {d d':D} (h:σ.ev y=some d) (hw:DWk σ.H d d'):EvT σ y d'
theorem EvT.rel {y:Operand} {d:D} (h:EvT σ y d) {σ₁:St} (hT:∀ t d,σ.T t=some d->σ₁.T t=some d) (hH:∀ k o,σ.H k=some o->σ₁.H k=some o) {E:Env} {ν:Nat->Value} {G:Lim} {w:World} {a:Act} (I:Inv E σ₁ ν G w a.tmps):DR ν σ₁.nm w G (a.eval y) d:=by
 cases h with
 | ev h=>exact I.ev (St.ev_le hT h)
 | own h hk=>
   have hv:=I.ev (St.ev_le hT h);obtain ⟨v,he⟩:∃ v,a.eval y=v:=⟨_,rfl⟩
   rw [he] at hv ⊢;cases hv with
   | own _ _=>exact .t (I.rows _ _ _ _ _ _ (hH _ _ hk) rfl)
 | wk h hw=>exact hw _ _ _ _ _ _ hH I _ (I.ev (St.ev_le hT h))
theorem ok_store {t:TypeId} {x y:Operand} {k off:Nat} {ob ob':AObj} {d:D} (ho:o.op = .store t x y) (hi:(P.info? t).map (·.size)=some d.cells.length) (hx:σ.ev x=some (.ref k off)) (hy:EvT σ y d) (hv:d.val=true) (hk:σ.H k=some ob)
    (hp:ob.put off d.cells=some ob') (hpos:0 < d.cells.length):OpOk P o σ fr (.tup []) [(k,some ob')]:=by
 intro E σ₁ a w hT hH h100 hf hd ⟨ν,G,I⟩ Q;obtain ⟨g,hg,hvx,hkn⟩:=ref_of (I.ev (St.ev_le hT hx));have hdy:=hy.rel hT hH I;obtain ⟨hc1,hc2⟩:=hdy.cells hv;have hob:=(I.H k ob (hH k ob hk)).2;obtain ⟨g',hg',hthere,hG0,hnew⟩:=hob.put hp (vs:=(a.eval y).cells.toList) (by simpa using hc1) (fun i u d' hu hd'=>hc2 i u d' (by simpa using hu) hd') hpos;rw [hg] at hg';cases hg';have hr:(Instr.storeAt t (.pointer (some ⟨g,off,none⟩)) (a.eval y)).run P w = .ok () (w.setCells g off (a.eval y).cells.toList):=
  run_storeCells (by simpa using hthere) (by rw [hi,hc1]) (fun u hu=>by
   obtain ⟨i,hiu⟩:=List.mem_iff_getElem?.1 hu;have hlt:i < d.cells.length:=by rw [← hc1];simpa using (List.getElem?_eq_some_iff.1 hiu).1
   exact (hc2 i u _ (by simpa using hiu) (List.getElem?_eq_getElem hlt)).2)
 obtain ⟨s1,s2,s3,s4,s5⟩:=setCells_same (g:=g) (a.eval y).cells.toList off w;obtain ⟨w',hw'⟩:∃ w',w.setCells g off (a.eval y).cells.toList=w':=⟨_,rfl⟩
 rw [hw'] at hr s1 s2 s3 s4 s5;have hcell:∀ b i u,Cell w G b i u->Cell w' G b i u:=fun b i u h=>by
  have hne:b≠g:=fun e=>by have:=h.2;rw [e,hG0] at this;omega
  exact ⟨(World.cell?_of_block (a:=⟨b,i,none⟩) (s5 b hne)).trans h.1,h.2⟩
 have hmay:E.may g:=hob.mayb hg;unfold Oper.wp;have he:(execOp a.eval o).run P w = .ok .skip w':=by
  unfold execOp;rw [ho];simp only [hvx,Sem.run_bind,hr];rfl
 rw [he,Oper.upon_skip];have hnm:∀ j,σ₁.nm j=true->(σ₁.upd o.dst (.tup []) [(k,some ob')] fr).nm j=true/\ν j=ν j:=fun j hj=>⟨by simp [St.upd,hj],rfl⟩
 refine ⟨put_defers ..,ν,G,⟨s1.trans I.kept.os,s2.trans I.kept.tape,s3.trans I.kept.output,by rw [s4];exact I.kept.size,fun b hb hX=>?_⟩,fun b i u h=>hcell b i u (I.keep b i u h),I.pin,I.g0,?_,fun t' d' h=>?_,fun j oj h=>?_,fun j1 o1 j2 o2 h1 h2 hne=>?_⟩
 ·refine (s5 b (fun e=>?_)).trans (I.kept.block b hb hX)
  subst e;rcases hmay with h | h
  ·omega
  ·exact hX h
 ·cases o.dst <;> simp [Act.put,I.sz]
 ·simp only [St.upd] at h
  split at h
  ·rename_i he'
   cases h;have:=hd t' he';exact ⟨undef,by simp [he',Act.put,I.sz,this],undef_rel⟩
  ·rename_i he'
   obtain ⟨u,hu,hdu⟩:=I.T t' d' h;refine ⟨u,?_,hdu.mono hnm hcell⟩;cases hds:o.dst with
   | none=>simpa [Act.put] using hu
   | some t''=>
     have hne:t''≠t':=fun e=>he' (by rw [hds,e])
     simp only [Act.put];rw [Array.getElem?_setIfInBounds_ne hne];exact hu
 ·by_cases hj:j=k
  ·subst hj
   simp [St.upd,look] at h;subst h;have h1:=(I.H j ob (hH j ob hk)).1;refine ⟨(hnm j h1).1,ObjOk.mono h1 hnm (fun _ _ _ h=>h) (fun _ _=>⟨rfl,rfl⟩) (hnew w' hcell hw'.symm)⟩
  ·have h':σ₁.H j=some oj:=by simpa [St.upd,look,Ne.symm hj] using h
   obtain ⟨h1,h2⟩:=I.H j oj h';refine ⟨(hnm j h1).1,h2.mono h1 hnm hcell (fun g' hg'=>⟨s5 g' (fun e=>?_),rfl⟩)⟩;subst e;exact I.dis j oj k ob h' (hH k ob hk) hj g' hg' (foot_blk hg)
 ·have back:∀ j oj,(σ₁.upd o.dst (.tup []) [(k,some ob')] fr).H j=some oj->∃ oj',σ₁.H j=some oj'/\∀ g',foot w' (ν j) oj g'->foot w (ν j) oj' g':=fun j oj h=>by
   by_cases hj:j=k
   ·subst hj
    simp [St.upd,look] at h;subst h;exact ⟨ob,hH j ob hk,fun g' hg'=>(AObj.put_foot (w:=w) (w':=w') hp).2.2 ((AObj.put_foot (w:=w) (w':=w') hp).1.1 hg')⟩
   ·have h':σ₁.H j=some oj:=by simpa [St.upd,look,Ne.symm hj] using h
    refine ⟨oj,h',fun g' hg'=>(foot_of fun b hb=>s5 b fun e=>?_).1 hg'⟩;subst e;exact I.dis j oj k ob h' (hH k ob hk) hj b (foot_blk hb) (foot_blk hg)
  obtain ⟨o1',h1',f1⟩:=back j1 o1 h1;obtain ⟨o2',h2',f2⟩:=back j2 o2 h2;exact fun g' hg1 hg2=>I.dis j1 o1' j2 o2' h1' h2' hne g' (f1 g' hg1) (f2 g' hg2)
end
end Go.Ab
/- The abstract machine: appends, values that are built, parts of values, lengths. -/
namespace Go.Ab
open Go.RowKit
structure AppT (P:Program) (t e:TypeId) (z:Value) (s bytes:Nat):Prop where
 u:P.underlying t=some (.slice e)
 i:(P.info? e).map (fun i=>(i.zero,i.size,i.bytes))=some (some z,s,bytes)
 z:z.cells.size=s
 s:0 < s
theorem run_app {P:Program} {t ty e:TypeId} {z:Value} {s bytes:Nat} (hT:AppT P t e z s bytes) {w:World} {v:Value} {n:Nat} {xs:List Value} (hown:w.ownsRow 0 e s v n xs) {ax:Option Addr} {m c:Nat} {news:List Value} (hl:news.length=m * s) (hnews:Rd w ax news) (hc:ax=none->c=0)
    (h1:∀ u ∈ news,u.oneCell'=true) (h63:n+m<=maxLen) (hbytes:(n+m) * bytes<=140737488355328):
    ∃ v' w',(Builtin.append_ #[t,t] ty #[v,.slice ax m c]).run P w = .ok v' w'/\w'.ownsRow 0 e s v' (n+m) (xs++news)/\w'.os=w.os/\w'.tape=w.tape/\w'.output=w.output/\w.heap.size<=w'.heap.size /\
     (∀ b,b < w.heap.size->v.ownBlock≠some b->w'.heap[b]?=w.heap[b]?)/\(∀ g i,v.ownBlock=some g->i < n * s->w'.cell? ⟨g,i,none⟩=w.cell? ⟨g,i,none⟩)/\∀ g,v'.ownBlock=some g->w.heap.size<=g\/v.ownBlock=some g:=by
 obtain ⟨i,hi,hz,h2,h3⟩:=info_parts hT.i;cases ax with
 | none=>
   have hnil:news=[]:=Rd.none_nil hnews;subst hnil;have hm:m=0:=by
    have:=hl;simp only [List.length_nil] at this;rcases Nat.mul_eq_zero.1 this.symm with h | h
    ·exact h
    ·have:=hT.s;omega
   subst hm;have:=hc rfl;subst this;have hsame:(Builtin.append_ #[t,t] ty #[v,.slice none 0 0]).run P w = .ok v w:=by
    rcases hown.2 with ⟨rfl,rfl⟩ | ⟨g,cap,cur,rfl,_,hg,hnc,_,_,_⟩
    ·simp [Builtin.append_,run_underlying hT.u,sizeOf,typeInfo,hi,Builtin.lenOf,Builtin.firstCells]
    ·simp [Builtin.append_,run_underlying hT.u,sizeOf,typeInfo,hi,Builtin.lenOf,Builtin.firstCells,hnc,storeCells]
   exact ⟨v,w,hsame,by simpa using hown,rfl,rfl,rfl,Nat.le_refl _,fun _ _ _=>rfl,fun _ _ _ _=>rfl,fun g hg=>.inr hg⟩
 | some ad=>
   have hn':∀ j u,news[j]?=some u->w.cell? (ad.add j)=some u:=fun j u hj=>by
    obtain ⟨ad',e',hc'⟩:=hnews j u hj;cases e';exact hc'
   obtain ⟨v',w',hr,r2,r3,r4⟩:=run_append_own (P:=P) w 0 t ty e i z s bytes hT.u hi hz h2 h3 hT.z hT.s v n xs hown ad m c news hl hn' h1 h63 hbytes (Nat.zero_le _);have key:(v'.ownBlock=v.ownBlock/\(m=0\/v'.ownBlock≠none))\/(v'.ownBlock=some w.heap.size/\∀ b,b < w.heap.size->w'.heap[b]?=w.heap[b]?):=by
    rcases hown.2 with ⟨rfl,rfl⟩ | ⟨g,cap,cur,rfl,_,hg,hnc,hcm,hcs,htake⟩
    ·by_cases hm:m=0
     ·left
      rw [r4.2 ⟨rfl,hm⟩];exact ⟨rfl,.inl hm⟩
     ·right
      have hr':=run_append_nil (P:=P) w t ty e i z hT.u hi hz ad m c news (by rw [h2];exact hl) hn' (by omega) (by simp only [maxLen] at h63;omega) (by rw [h3];simp only [Nat.zero_add] at hbytes;omega);rw [hr'] at hr;cases hr;exact ⟨rfl,fun b hb=>heap_alloc_old _ _ hb⟩
    ·by_cases hroom:n+m<=cap
     ·left
      have hfit:n * i.size+news.length<=cur.size:=by rw [hl,hcs,h2,← Nat.add_mul];exact Nat.mul_le_mul_right _ hroom
      have hr':=run_append_room (P:=P) w t ty e i hT.u hi g n cap cur hg ad m c news (by rw [h2];exact hl) hn' h1 hroom hfit;rw [hr'] at hr;cases hr;exact ⟨rfl,.inr (by simp [Value.ownBlock])⟩
     ·right
      have holds:∀ j u,xs[j]?=some u->w.cell? ((⟨g,0,none⟩:Addr).add j)=some u:=hown.cells (g:=g) rfl
      have hr':=run_append_grow (P:=P) w t ty e i z hT.u hi hz ⟨g,0,none⟩ n cap xs (by rw [h2];exact hown.1) holds ad m c news (by rw [h2];exact hl) hn' (by omega) (by simp only [maxLen] at h63;omega) (growslice_fits (by omega) (by rw [h3];exact hbytes));rw [hr'] at hr;cases hr;exact ⟨rfl,fun b hb=>heap_alloc_old _ _ hb⟩
   refine ⟨v',w',hr,r2,r3.os,r3.tape,r3.output,r3.size,fun b hb hne=>r3.block b hb (fun e=>hne e.symm),fun g j hg hj=>?_,fun g hg=>?_⟩
   ·have hgl:g < w.heap.size:=(hown.lt g hg).2
    rcases key with ⟨k1,_⟩ | ⟨_,k2⟩
    ·have hx:xs[j]?=some (xs[j]'(by rw [hown.1];exact hj)):=List.getElem?_eq_getElem _
     have c1:=hown.cells hg j _ hx;have c2:=r2.cells (g:=g) (by rw [k1];exact hg) j _ (by rw [List.getElem?_append_left (by rw [hown.1];exact hj)];exact hx);rw [Addr.add_mid,Nat.zero_add] at c1 c2;rw [c1,c2]
    ·exact World.cell?_of_block (a:=⟨g,j,none⟩) (k2 g hgl)
   ·rcases key with ⟨k1,_⟩ | ⟨k1,_⟩
    ·exact .inr (by rw [← k1];exact hg)
    ·rw [k1] at hg;cases hg;exact .inl (Nat.le_refl _)
inductive Src (σ:St) (x:Operand):Nat->List Tree->Prop
 | t {n:Nat} {ts:List Tree} (h:σ.ev x=some (.t (.sl n ts))):Src σ x n ts
 | own {k n:Nat} {ts:List Tree} {e:TypeId} {s:Nat} {st:Bool} (h:σ.ev x=some (.own k)) (hk:σ.H k=some (.row e s n ts st)):Src σ x n ts
 | nil (h:σ.ev x=some (.t (.v (.slice none 0 0)))):Src σ x 0 []
theorem Src.rd {σ σ₁:St} {x:Operand} {n:Nat} {ts:List Tree} (h:Src σ x n ts) {E:Env} {ν:Nat->Value} {G:Lim} {w:World} {a:Act} (hT:∀ t d,σ.T t=some d->σ₁.T t=some d) (hH:∀ k o,σ.H k=some o->σ₁.H k=some o) (I:Inv E σ₁ ν G w a.tmps):
    ∃ ax c us,a.eval x = .slice ax n c/\us.length=ts.length/\Rd w ax us/\(ax=none->c=0/\n=0)/\∀ (i:Nat) (u:Value) (t:Tree),us[i]?=some u->ts[i]?=some t->TR w G u t:=by
 cases h with
 | t h=>
   have hv:=I.ev (St.ev_le hT h);obtain ⟨v,he⟩:∃ v,a.eval x=v:=⟨_,rfl⟩
   rw [he] at hv ⊢;cases hv with
   | t hv=>
     cases hv with
     | nil h0=>exact ⟨_,_,[],rfl,rfl,Rd.nil,fun e=>⟨h0 e,rfl⟩,fun i u t h=>by simp at h⟩
     | sl b q _ c us _ hl hc hn h=>exact ⟨_,c,us,rfl,hl,fun j u hj=>⟨_,rfl,by rw [Addr.add_mid];exact (hc j u hj).1⟩,(fun e=>by cases e),h⟩
 | own h hk=>
   have hv:=I.ev (St.ev_le hT h);obtain ⟨v,he⟩:∃ v,a.eval x=v:=⟨_,rfl⟩
   rw [he] at hv ⊢;cases hv with
   | own _ _=>
     obtain ⟨xs,r1,r2,r3,r4⟩:=(I.H _ _ (hH _ _ hk)).2;rcases r1.2 with ⟨hv,hn⟩ | ⟨g,cap,cur,hv,_⟩
     ·have hx:xs=[]:=List.eq_nil_of_length_eq_zero (by rw [r1.1,hn,Nat.zero_mul])
      exact ⟨none,0,xs,by rw [hv,hn],r2,by rw [hx];exact Rd.nil,fun _=>⟨rfl,hn⟩,r3⟩
     ·exact ⟨_,cap,xs,hv,r2,fun j u hj=>⟨_,rfl,r1.cells (by rw [hv];rfl) j u hj⟩,(fun e=>by cases e),r3⟩
 | nil h=>
   have hv:=bool_of (I.ev (St.ev_le hT h));exact ⟨none,0,[],hv,rfl,Rd.nil,fun _=>⟨rfl,rfl⟩,fun i u t h=>by simp at h⟩
inductive Dst (σ:St) (s:Operand) (e:TypeId) (size:Nat) (st:Bool):Option Nat->Nat->List Tree->Prop
 | own {k n:Nat} {ts:List Tree} (h:σ.ev s=some (.own k)) (hk:σ.H k=some (.row e size n ts st)):Dst σ s e size st (some k) n ts
 | nil (h:σ.ev s=some (.t (.v (.slice none 0 0)))):Dst σ s e size st none 0 []
 | nil' (h:σ.ev s=some (.t (.sl 0 []))) (hnil:False):Dst σ s e size st none 0 []
def appW (k0:Option Nat) (fr:Nat) (o:AObj):Wr:=match k0 with | some k=>[(fr,some o),(k,none)] | none=>[(fr,some o)]
section
variable {P:Program} {o:Oper} {σ:St} {fr:Nat}
theorem ok_append {t e:TypeId} {z:Value} {size bytes:Nat} (st:Bool) {s x:Operand} {k0:Option Nat} {n m:Nat} {ts ys:List Tree} (hT:AppT P t e z size bytes) (ho:o.op = .call { callee:=.builtin .append,args:=#[s,x],argTypes:=#[t,t] })
    (hs:Dst σ s e size st k0 n ts) (hx:Src σ x m ys) (hl:ys.length=m * size) (hb:(n+m) * bytes<=140737488355328/\n+m<=maxLen):OpOk P o σ fr (.own fr) (appW k0 fr (.row e size (n+m) (ts++ys) st)):=by
 intro E σ₁ a w hTT hHH h100 hf hd ⟨ν,G,I⟩ Q;obtain ⟨ax,c,us,hxv,hul,hrd,hnone,htr⟩:=hx.rd hTT hHH I;have hone:∀ u ∈ us,u.oneCell'=true:=fun u hu=>by
  obtain ⟨i,hi⟩:=List.mem_iff_getElem?.1 hu;have hlt:i < ys.length:=by rw [← hul];exact (List.getElem?_eq_some_iff.1 hi).1
  exact (htr i u _ hi (List.getElem?_eq_getElem hlt)).one
 -- the row that grows
 have hrow:∃ v xs,a.eval s=v/\w.ownsRow 0 e size v n xs/\xs.length=ts.length/\(∀ (i:Nat) (u:Value) (t:Tree),xs[i]?=some u->ts[i]?=some t->TR w G u t)/\(∀ k,some k=k0->ν k=v/\∃ ob,σ₁.H k=some ob)/\(k0=none->v.ownBlock=none) /\
     (∀ g,v.ownBlock=some g->E.may g/\G g=if st then n * size else 0):=by
  cases hs with
  | @own k _ _ h hk=>
    have hv:=I.ev (St.ev_le hTT h);obtain ⟨v,he⟩:∃ v,a.eval s=v:=⟨_,rfl⟩
    rw [he] at hv;cases hv with
    | own _ _=>
      obtain ⟨xs,r1,r2,r3,r4⟩:=(I.H _ _ (hHH _ _ hk)).2;exact ⟨_,xs,he,r1,r2,r3,(fun k' hk'=>by cases hk';exact ⟨rfl,_,hHH _ _ hk⟩),(fun e=>by cases e),fun g hg=>r4 g (blk_own hg)⟩
  | nil h=>
    have hv:=bool_of (I.ev (St.ev_le hTT h));exact ⟨_,[],hv,World.ownsRow_nil w 0 e size,rfl,(fun i u t h=>by simp at h),(fun k h=>by cases h),(fun _=>rfl),(fun g hg=>by cases hg)⟩
  | nil' h hn=>exact hn.elim
 obtain ⟨v,xs,hsv,hown,hxl,hxt,hk0,hk0n,hmay⟩:=hrow;obtain ⟨v',w',hr,r2,q1,q2,q3,q4,q5,q6,q7⟩:=run_app (ty:=o.type) hT hown (m:=m) (c:=c) (by rw [hul];exact hl) hrd (fun e=>(hnone e).1) hone hb.2 hb.1;unfold Oper.wp;have he:(execOp a.eval o).run P w = .ok (.value v') w':=by
  unfold execOp;rw [ho];simp [resolve,invoke,builtin,hsv,hxv,hr]
 rw [he,Oper.upon_value];have hcell:∀ b i u,Cell w G b i u->Cell w' (fun b=>if v'.ownBlock=some b then (if st then (n+m) * size else 0) else G b) b i u:=fun b i u h=>by
  by_cases hb':v.ownBlock=some b
  ·have hG:=(hmay b hb').2
   have h2:=h.2;rw [hG] at h2;cases st with
   | false=>simp at h2
   | true=>
     simp only [if_true] at h2 hG;refine ⟨(q6 b i hb' h2).trans h.1,?_⟩;show i < if v'.ownBlock=some b then (if true=true then (n+m) * size else 0) else G b
     split
     ·simp only [if_true]
      exact Nat.lt_of_lt_of_le h2 (Nat.mul_le_mul_right _ (Nat.le_add_right _ _))
     ·rw [hG];exact h2
  ·refine ⟨(World.cell?_of_block (a:=⟨b,i,none⟩) (q5 b h.lt hb')).trans h.1,?_⟩
   have:v'.ownBlock≠some b:=fun e=>by
    rcases q7 b e with h' | h'
    ·have:=h.lt;omega
    ·exact hb' h'
   simp only [if_neg this];exact h.2
 have hblkv:∀ g,blk v'=some g->v'.ownBlock=some g:=fun g hg=>by rw [← ownsRow_blk r2];exact hg
 refine ⟨put_defers ..,setν ν fr v',_,I.new h100 hf hd k0 (o:=.row e size (n+m) (ts++ys) st) (fun k=>?_) q1 q2 q3 q4 (fun b hb hnk=>?_) hcell (fun k hk=>(hk0 k hk).2) (x:=v') (fun g hg=>?_) ?_ ?_⟩
 ·cases k0 with
  | none=>
    by_cases h:k=fr
    ·subst h;simp [appW,look]
    ·simp [appW,look,h,Ne.symm h]
  | some j=>
    by_cases h:k=fr
    ·subst h;simp [appW,look]
    ·by_cases h':k=j
     ·subst h';simp [appW,look,h,Ne.symm h]
     ·simp [appW,look,h,Ne.symm h,h',Ne.symm h']
 ·have hne:v.ownBlock≠some b:=fun e=>by
   cases k0 with
   | none=>rw [hk0n rfl] at e;cases e
   | some j=>exact hnk j rfl (by rw [(hk0 j rfl).1,ownsRow_blk hown];exact e)
  refine ⟨q5 b hb hne,if_neg (fun e=>?_)⟩;rcases q7 b e with h | h
  ·omega
  ·exact hne h
 ·rcases q7 g (hblkv g hg) with h | h
  ·exact .inl h
  ·cases k0 with
   | none=>rw [hk0n rfl] at h;cases h
   | some j=>exact .inr ⟨j,rfl,by rw [(hk0 j rfl).1,ownsRow_blk hown];exact h⟩
 ·refine ⟨xs++us,by rw [setν_same];exact r2,by simp [hxl,hul],fun i u t hu ht=>?_,fun g hg=>?_⟩
  ·by_cases hi:i < xs.length
   ·rw [List.getElem?_append_left hi] at hu
    rw [List.getElem?_append_left (by omega)] at ht;exact (hxt i u t hu ht).mono hcell
   ·rw [List.getElem?_append_right (by omega)] at hu
    rw [List.getElem?_append_right (by omega)] at ht;exact (htr _ u t hu (by rw [hxl];exact ht)).mono hcell
  ·rw [setν_same] at hg
   have hg':=hblkv g hg;refine ⟨?_,if_pos hg'⟩;rcases q7 g hg' with h | h
   ·exact .inl (Nat.le_trans I.kept.size h)
   ·exact (hmay g h).1
 ·have:DR (setν ν fr v') (σ₁.upd o.dst .any (appW k0 fr (.row e size (n+m) (ts++ys) st)) fr).nm w' (fun b=>if v'.ownBlock=some b then (if st then (n+m) * size else 0) else G b) (setν ν fr v' fr) (.own fr):=.own (upd_nm_fr ..) (by rw [setν_same];exact ownsRow_one r2)
  rw [setν_same] at this;exact this
theorem ok_len {t:TypeId} {x:Operand} {n:Nat} {ts:List Tree} {e:TypeId} {tys:Array TypeId} (hu:P.underlying t=some (.slice e)) (ho:o.op = .call { callee:=.builtin .len,args:=#[x],argTypes:=tys }) (hty:tys = #[t]) (hx:Src σ x n ts):OpOk P o σ fr (I n) []:=by
 intro E σ₁ a w hT hH h100 hf hd ⟨ν,G,I⟩ Q;obtain ⟨ax,c,us,hxv,_⟩:=hx.rd hT hH I;subst hty;unfold Oper.wp;have he:(execOp a.eval o).run P w = .ok (.value (.int .i64 n)) w:=by
  unfold execOp;rw [ho];simp [resolve,invoke,builtin,hxv,Builtin.len_,run_underlying hu,goInt]
 rw [he,Oper.upon_value];exact ⟨put_defers ..,ν,G,I.put (.t (.v _ rfl)) hd fr a rfl⟩
def fillD (pl:List (Nat×Nat)):List D->List (Nat×D)->Option (List D)
 | cells,[]=>some cells
 | cells,(i,d)::rest=>match pl[i]? with
   | none=>none
   | some (off,size)=>if d.val&&(d.cells.length == size)&&decide (off+d.cells.length<=cells.length) then fillD pl (splice cells off d.cells) rest else none
theorem foldl_setMany:∀ (vs:List Value) (k off:Nat) (cells:Array Value),(vs.zipIdx k).foldl (fun cs (c,j)=>cs.setIfInBounds (off+j) c) cells=setMany cells (off+k) vs
 | [],_,_,_=>rfl
 | v::r,k,off,cells=>by
   rw [List.zipIdx_cons,List.foldl_cons,foldl_setMany r (k+1) off,setMany,Nat.add_assoc]
theorem fill_rel {ν:Nat->Value} {nm:Nat->Bool} {w:World} {G:Lim} {place:Nat->Option (Nat×Nat)} {pl:List (Nat×Nat)} (hpl:∀ i p,pl[i]?=some p->place i=some p):∀ (parts:List (Nat×Value)) (ds:List (Nat×D)) (cells:Array Value) (cs out:List D),
    parts.length=ds.length->(∀ (i:Nat) (p:Nat×Value) (q:Nat×D),parts[i]?=some p->ds[i]?=some q->p.1=q.1/\DR ν nm w G p.2 q.2)->cells.size=cs.length->(∀ (i:Nat) (u:Value) (d:D),cells[i]?=some u->cs[i]?=some d->DR ν nm w G u d/\u.oneCell'=true)->fillD pl cs ds=some out->
    ∃ res,Instr.fill place cells parts=some res/\res.size=out.length/\∀ (i:Nat) (u:Value) (d:D),res[i]?=some u->out[i]?=some d->DR ν nm w G u d/\u.oneCell'=true
 | [],[],cells,cs,out,_,_,hs,hr,hf=>by cases hf;exact ⟨cells,rfl,hs,hr⟩
 | [],_::_,_,_,_,h,_,_,_,_=>by cases h
 | _::_,[],_,_,_,h,_,_,_,_=>by cases h
 | (i,v)::rest,(i',d)::ds,cells,cs,out,hlen,hp,hs,hr,hf=>by
   obtain ⟨h1,h2⟩:=hp 0 (i,v) (i',d) rfl rfl;simp only at h1 h2;subst h1;simp only [fillD] at hf;split at hf
   ·cases hf
   ·rename_i off size hpi
    split at hf
    ·rename_i hc
     simp only [Bool.and_eq_true,beq_iff_eq,decide_eq_true_eq] at hc;obtain ⟨⟨c1,c2⟩,c3⟩:=hc;obtain ⟨g1,g2⟩:=h2.cells c1;have hstep:Instr.fill place cells ((i,v)::rest)=Instr.fill place (setMany cells off v.cells.toList) rest:=by
      simp only [Instr.fill,hpl i _ hpi];rw [if_neg (by simp [g1,c2];omega)]
      congr 1
      have:=foldl_setMany v.cells.toList 0 off cells;rw [Nat.add_zero] at this;rw [← this,← Array.foldl_toList];simp
     rw [hstep];have hvl:v.cells.toList.length=d.cells.length:=by simpa using g1
     refine fill_rel hpl rest ds _ _ out (by simpa using hlen) (fun j p q h h'=>hp (j+1) p q (by simpa using h) (by simpa using h')) (by rw [setMany_size,splice_length c3];exact hs) (fun j u e hu he=>?_) hf;rw [setMany_get _ _ _ _ (by omega)] at hu;rw [splice_get c3] at he;by_cases k1:j < off
     ·rw [if_pos k1] at hu he;exact hr j u e hu he
     ·rw [if_neg k1] at hu he
      by_cases k2:j < off+d.cells.length
      ·rw [if_pos (by omega)] at hu
       rw [if_pos k2] at he;exact g2 _ u e (by simpa using hu) he
      ·rw [if_neg (by omega)] at hu
       rw [if_neg k2] at he;exact hr j u e hu he
    ·cases hf
inductive PartsW (σ:St):List (Nat×Operand)->List (Nat×D)->Prop
 | nil:PartsW σ [] []
 | cons {i:Nat} {x:Operand} {d d':D} {l:List (Nat×Operand)} {ds:List (Nat×D)} (h:σ.ev x=some d) (hw:DWk σ.H d d') (r:PartsW σ l ds):PartsW σ ((i,x)::l) ((i,d')::ds)
theorem PartsW.rel {σ:St} {ν:Nat->Value} {nm:Nat->Bool} {w:World} {G:Lim} {ρ:Operand->Value} (hev:∀ x d d',σ.ev x=some d->DWk σ.H d d'->DR ν nm w G (ρ x) d') {l:List (Nat×Operand)} {ds:List (Nat×D)} (h:PartsW σ l ds):
    (l.map fun p=>(p.1,ρ p.2)).length=ds.length/\∀ (i:Nat) (p:Nat×Value) (q:Nat×D),(l.map fun p=>(p.1,ρ p.2))[i]?=some p->ds[i]?=some q->p.1=q.1/\DR ν nm w G p.2 q.2:=by
 induction h with
 | nil=>exact ⟨rfl,fun i p q h=>by simp at h⟩
 | cons h hw r ih=>
   refine ⟨by simpa using ih.1,fun i p q hp hq=>?_⟩;cases i with
   | zero=>simp at hp hq;subst hp hq;exact ⟨rfl,hev _ _ _ h hw⟩
   | succ i=>exact ih.2 i p q (by simpa using hp) (by simpa using hq)
structure BuildT (P:Program) (t:TypeId) (zs:List Value) (pl:List (Nat×Nat)):Prop where
 one:∀ u ∈ zs,u.oneCell'=true
 run:∃ place:Nat->Option (Nat×Nat),(∀ i p,pl[i]?=some p->place i=some p)/\∀ parts,P.built t parts=Instr.fill place zs.toArray parts
theorem ok_build {t:TypeId} {zs:List Value} {pl:List (Nat×Nat)} {parts:Array (Nat×Operand)} {ds:List (Nat×D)} {out:List D} (hB:BuildT P t zs pl) (ho:o.op = .build t parts) (hp:PartsW σ parts.toList ds) (hf:fillD pl (zs.map fun u=>.t (.v u)) ds=some out):OpOk P o σ fr (.agg out) []:=
 ok_pure fun E σ₁ ν G w a hH I hev=>by
  obtain ⟨place,hpl,hrun⟩:=hB.run;obtain ⟨h1,h2⟩:=hp.rel (fun x d d' hx hw=>hw _ _ _ _ _ _ hH I _ (hev x d hx));obtain ⟨res,hres,hsz,hrel⟩:=fill_rel hpl _ ds zs.toArray (zs.map fun u=>.t (.v u)) out h1 h2 (by simp) (fun i u d hu hd=>by
   have hz:zs[i]?=some u:=by simpa using hu
   rw [List.getElem?_map,hz] at hd;cases hd;have:=hB.one u (List.mem_iff_getElem?.2 ⟨i,hz⟩);exact ⟨.t (.v u this),this⟩) hf
  refine ⟨.agg res,?_,.agg hsz (fun i u d hu hd=>(hrel i u d hu hd).1) (fun u hu=>?_)⟩
  ·unfold execOp
   rw [ho];have:=run_build (P:=P) w t (parts.map fun (i,x)=>(i,a.eval x)) res (by rw [hrun,Array.toList_map];exact hres);simp [this]
  ·obtain ⟨i,hi⟩:=List.mem_iff_getElem?.1 hu
   have hi':res[i]?=some u:=by simpa using hi
   have hlt:i < out.length:=by rw [← hsz];exact (Array.getElem?_eq_some_iff.1 hi').1
   exact (hrel i u _ hi' (List.getElem?_eq_getElem hlt)).2
inductive Trs (H:Nat->Option AObj):List D->List Tree->Prop
 | nil:Trs H [] []
 | t {x:Tree} {l:List D} {xs:List Tree} (r:Trs H l xs):Trs H (.t x::l) (x::xs)
 | own {k n:Nat} {e:TypeId} {s:Nat} {ts:List Tree} {l:List D} {xs:List Tree} (h:H k=some (.row e s n ts true)) (r:Trs H l xs):Trs H (.own k::l) (.sl n ts::xs)
theorem Trs.len {H:Nat->Option AObj} {l:List D} {xs:List Tree} (h:Trs H l xs):l.length=xs.length:=by
 induction h with
 | nil=>rfl
 | t r ih=>simp [ih]
 | own h r ih=>simp [ih]
theorem Trs.rel {H:Nat->Option AObj} {l:List D} {xs:List Tree} (h:Trs H l xs) {ν:Nat->Value} {nm:Nat->Bool} {w:World} {G:Lim} (hr:∀ k e s n ts,H k=some (.row e s n ts true)->TR w G (ν k) (.sl n ts)):
    ∀ (i:Nat) (u:Value) (d:D) (t:Tree),l[i]?=some d->xs[i]?=some t->DR ν nm w G u d->TR w G u t:=by
 induction h with
 | nil=>intro i u d t h;simp at h
 | t r ih=>
   intro i u d t hd ht hu;cases i with
   | zero=>simp at hd ht;subst hd ht;cases hu with | t h=>exact h
   | succ i=>exact ih i u d t (by simpa using hd) (by simpa using ht) hu
 | own h r ih=>
   intro i u d t hd ht hu;cases i with
   | zero=>simp at hd ht;subst hd ht;cases hu with | own _ _=>exact hr _ _ _ _ _ h
   | succ i=>exact ih i u d t (by simpa using hd) (by simpa using ht) hu
structure LitT (P:Program) (t e:TypeId) (s len:Nat) (zs:List Value):Prop where
 u:P.underlying t=some (.slice e)
 one:∀ u ∈ zs,u.oneCell'=true
 zl:zs.length=len * s
 ml:len<=maxLen
 run:∀ (w:World) (parts:Array (Nat×Value)) (cells:Array Value),Instr.fill (fun i=>some (i * s,s)) zs.toArray parts.toList=some cells->(Instr.buildSlice t len parts).run P w = .ok (.slice (some ⟨w.heap.size,0,none⟩) len len) (w.alloc (.cells cells e))
end
end Go.Ab
/- The abstract machine: calls. -/
namespace Go.Ab
open Go.RowKit
inductive ArgsLe (fl:Bool) (σ:St) (nm':Nat->Bool) (ρ:Nat->Nat):List Operand->List D->Prop
 | nil:ArgsLe fl σ nm' ρ [] []
 | cons {x:Operand} {d0 d d':D} {xs:List Operand} {ds:List D} (h:σ.ev x=some d0) (hw:DWk σ.H d0 d) (hd:DLe fl σ.H nm' ρ d d') (r:ArgsLe fl σ nm' ρ xs ds):ArgsLe fl σ nm' ρ (x::xs) (d'::ds)
theorem ArgsLe.get {fl:Bool} {σ:St} {nm':Nat->Bool} {ρ:Nat->Nat} {xs:List Operand} {ds:List D} (h:ArgsLe fl σ nm' ρ xs ds):xs.length=ds.length/\∀ (i:Nat) (d':D),ds[i]?=some d'->∃ x d0 d,xs[i]?=some x/\σ.ev x=some d0/\DWk σ.H d0 d/\DLe fl σ.H nm' ρ d d':=by
 induction h with
 | nil=>exact ⟨rfl,fun i d' h=>by simp at h⟩
 | cons h hw hd r ih=>
   refine ⟨by simp [ih.1],fun i d' hi=>?_⟩;cases i with
   | zero=>simp at hi;subst hi;exact ⟨_,_,_,rfl,h,hw,hd⟩
   | succ i=>obtain ⟨x,d0,d,h1,h2⟩:=ih.2 i d' (by simpa using hi);exact ⟨x,d0,d,by simpa using h1,h2⟩
theorem DLe.mono {fl:Bool} {H H₁:Nat->Option AObj} {nm':Nat->Bool} {ρ:Nat->Nat} (hH:∀ k o,H k=some o->H₁ k=some o) {d d':D} (h:DLe fl H nm' ρ d d'):DLe fl H₁ nm' ρ d d':=by
 induction h with
 | t h=>exact .t h
 | nil=>exact .nil
 | own h hk=>exact .own h hk
 | ref h hk=>exact .ref h hk
 | rd h hst ht hn=>exact .rd (hH _ _ h) hst ht hn
 | ptr=>exact .ptr
 | agg hl h ih=>exact .agg hl ih
 | tup hl h ih=>exact .tup hl ih
 | fn hl h ih=>exact .fn hl ih
 | any=>exact .any
 | via h hk=>exact .via h hk
theorem OLe.mono {fl:Bool} {H H₁:Nat->Option AObj} {nm':Nat->Bool} {ρ:Nat->Nat} (hH:∀ k o,H k=some o->H₁ k=some o) {o o':AObj} (h:OLe fl H nm' ρ o o'):OLe fl H₁ nm' ρ o o':=by
 cases h with
 | row h hn=>exact .row h hn
 | box hl h=>exact .box hl (fun i d d' h1 h2=>(h i d d' h1 h2).mono hH)
 | nest h=>exact .nest h
 | it=>exact .it
 | mp hl h=>exact .mp hl (fun i p p' h1 h2=>⟨(h i p p' h1 h2).1,(h i p p' h1 h2).2.mono hH⟩)
 | nst hl h=>exact .nst hl (fun i c c' h1 h2=>by
     cases h i c c' h1 h2 with
     | d hd=>exact .d (hd.mono hH)
     | inn=>exact .inn)
def back (fr:Nat) (rb:List (Nat×Nat)) (k:Nat):Nat:=if fr<=k/\k < fr+8 then 100+(k - fr) else rnm rb k
def backNm (fr:Nat) (rb:List (Nat×Nat)) (k:Nat):Bool:=(decide (fr<=k)&&decide (k < fr+8))||(look k rb).isSome
inductive AllW (H':List (Nat×AObj)) (nmd:Nat->Bool) (ρ:Nat->Nat):Wr->Prop
 | nil:AllW H' nmd ρ []
 | gone {k:Nat} {l:Wr} (r:AllW H' nmd ρ l):AllW H' nmd ρ ((k,none)::l)
 | cons {k:Nat} {o o':AObj} {l:Wr} (h:look (ρ k) H'=some o) (ho:OLe false (fun k=>look k H') nmd ρ o o') (r:AllW H' nmd ρ l):AllW H' nmd ρ ((k,some o')::l)
theorem AllW.get {H':List (Nat×AObj)} {nmd:Nat->Bool} {ρ:Nat->Nat} {W:Wr} (h:AllW H' nmd ρ W) {k:Nat} {o':AObj} (hl:look k W=some (some o')):∃ o,look (ρ k) H'=some o/\OLe false (fun k=>look k H') nmd ρ o o':=by
 induction h with
 | nil=>cases hl
 | gone r ih=>
   unfold look at hl;split at hl
   ·cases hl
   ·exact ih hl
 | cons h ho r ih=>
   unfold look at hl;split at hl
   ·rename_i e;cases hl;subst e;exact ⟨_,h,ho⟩
   ·exact ih hl
def callOk0 (rn rb:List (Nat×Nat)) (H:List (Nat×AObj)):Bool:=
 H.all (fun p=>decide (50<=p.1)&&decide (p.1 < 100))&&decide ((H.map fun p=>rnm rn p.1).Nodup)&&H.all (fun p=>look (rnm rn p.1) rb == some p.1)&&rb.all (fun p=>H.any fun q=>q.1 == p.2&&rnm rn q.1 == p.1)
def callOk (fr:Nat) (rn:List (Nat×Nat)) (H:List (Nat×AObj)) (W:Wr):Bool:=
 H.all (fun p=>(look (rnm rn p.1) W).isSome)&&W.all (fun p=>(decide (fr<=p.1)&&decide (p.1 < fr+8))||H.any (fun q=>rnm rn q.1 == p.1))
theorem look_some {α:Type} {k:Nat}:∀ {l:List (Nat×α)},k ∈ l.map (·.1)->∃ x,look k l=some x
 | [],h=>by cases h
 | p::l,h=>by
   unfold look;by_cases e:p.1=k
   ·rw [if_pos e];exact ⟨_,rfl⟩
   ·rw [if_neg e]
    rw [List.map_cons] at h;rcases List.mem_cons.1 h with h | h
    ·exact absurd h.symm e
    ·exact look_some h
section
variable {P:Program} {o:Oper} {σ:St} {fr:Nat}
theorem run_enter {f : FuncId} {fn : Func} (hfn : P.funcs[f]? = some fn) (hname : fn.name ≠ "runtime.NumGoroutine") (hb : fn.body ≠ none) (vs : Array Value) (w : World) : (callFunc f vs).run P w = .ok (.enter f vs) w := by
 unfold callFunc;simp [run_program,hfn,hname,hb]
theorem call_core {H:List (Nat×AObj)} {r d:D} {H':List (Nat×AObj)} {W:Wr} (rn rb:List (Nat×Nat)) {E:Env} {σ₁:St} {ν:Nat->Value} {G:Lim} {w:World} {tm:Array Value} (I:Inv E σ₁ ν G w tm)
    (h100:100<=fr) (hf:∀ k,fr<=k->k < fr+8->σ₁.nm k=false) (hHin:∀ k' ∈ H.map (·.1),∃ o',σ₁.H (rnm rn k')=some o')
    (hres:DLe false (fun k=>look k H') (backNm fr rb) (back fr rb) r d) (hW:AllW H' (backNm fr rb) (back fr rb) W) (hc:callOk fr rn H W=true) (hc0:callOk0 rn rb H=true)
    {m:Nat} {w':World} {v:Value} {ν':Nat->Value} {G':Lim} {tab:Tab w fun b=>∃ k' ∈ H.map (·.1),∃ o',σ₁.H (rnm rn k')=some o'/\foot w (ν (rnm rn k')) o' b}
    {tg:tabG G}
    (I':Inv { (⟨m,w,G,fun b=>∃ k' ∈ H.map (·.1),∃ o',σ₁.H (rnm rn k')=some o'/\foot w (ν (rnm rn k')) o' b,fun k=>ν (rnm rn k),tab,tg,[]⟩:Env) with m:=1 } (res r H') ν' G' w' #[v]) (dst:Option Tmp) (hdst:∀ t,dst=some t->t < E.m) (a:Act) (ha:a.tmps=tm):
    R E (σ₁.upd dst d W fr) (a.put dst v).tmps w':=by
 subst ha;simp only [callOk0,Bool.and_eq_true,decide_eq_true_eq] at hc0;obtain ⟨⟨⟨c1,c2⟩,c3⟩,c6⟩:=hc0;have hin:∀ k' ∈ H.map (·.1),50<=k'/\k' < 100/\look (rnm rn k') rb=some k':=fun k' hk'=>by
  obtain ⟨p,hp,rfl⟩:=List.mem_map.1 hk';have q1:=List.all_eq_true.1 c1 p hp;have q3:=List.all_eq_true.1 c3 p hp;simp only [Bool.and_eq_true,decide_eq_true_eq,beq_iff_eq] at q1 q3;exact ⟨q1.1,q1.2,q3⟩
 have hrb:∀ k x,look k rb=some x->x ∈ H.map (·.1)/\rnm rn x=k:=fun k x hx=>by
  have:=List.all_eq_true.1 c6 _ (look_mem hx);simp only [List.any_eq_true,Bool.and_eq_true,beq_iff_eq] at this;obtain ⟨q,hq,e1,e2⟩:=this;exact ⟨List.mem_map.2 ⟨q,hq,e1⟩,by rw [← e1];exact e2⟩
 have hnr:∀ k,σ₁.nm k=true->¬ (fr<=k/\k < fr+8):=fun k hk h=>by rw [hf k h.1 h.2] at hk;cases hk
 have hinnr:∀ k' ∈ H.map (·.1),¬ (fr<=rnm rn k'/\rnm rn k' < fr+8):=fun k' hk'=>by
  obtain ⟨o',ho'⟩:=hHin k' hk';exact hnr _ (I.H _ _ ho').1
 have hXmay:∀ b,(∃ k' ∈ H.map (·.1),∃ o',σ₁.H (rnm rn k')=some o'/\foot w (ν (rnm rn k')) o' b)->E.may b:=fun b ⟨k',hk',o',ho',hb⟩=>((I.H _ _ ho').2.ft hb).2
 have hXlt:∀ b,(∃ k' ∈ H.map (·.1),∃ o',σ₁.H (rnm rn k')=some o'/\foot w (ν (rnm rn k')) o' b)->b < w.heap.size:=fun b ⟨k',hk',o',ho',hb⟩=>((I.H _ _ ho').2.ft hb).1
 obtain ⟨X',hX'⟩:∃ X':Nat->Prop,X'=fun b=>∃ k' ∈ H.map (·.1),∃ o',σ₁.H (rnm rn k')=some o'/\foot w (ν (rnm rn k')) o' b:=⟨_,rfl⟩
 have hXe:∀ b,X' b ↔ (∃ k' ∈ H.map (·.1),∃ o',σ₁.H (rnm rn k')=some o'/\foot w (ν (rnm rn k')) o' b):=fun b=>by rw [hX']
 simp only [callOk,Bool.and_eq_true] at hc;obtain ⟨c4,c5⟩:=hc;have hin4:∀ k' ∈ H.map (·.1),∃ x,look (rnm rn k') W=some x:=fun k' hk'=>by
  obtain ⟨p,hp,rfl⟩:=List.mem_map.1 hk';exact Option.isSome_iff_exists.1 (List.all_eq_true.1 c4 p hp)
 have hWk:∀ k x,look k W=some x->(fr<=k/\k < fr+8)\/∃ k' ∈ H.map (·.1),rnm rn k'=k:=fun k x hx=>by
  have:=List.all_eq_true.1 c5 _ (look_mem hx);simp only [Bool.or_eq_true,Bool.and_eq_true,decide_eq_true_eq,List.any_eq_true,beq_iff_eq] at this;rcases this with h | ⟨q,hq,he⟩
  ·exact .inl h
  ·exact .inr ⟨q.1,List.mem_map.2 ⟨q,hq,rfl⟩,he⟩
 have hcell:∀ b i u,Cell w G b i u->Cell w' G' b i u:=I'.keep
 have hblk:∀ b,b < w.heap.size->¬ X' b->w'.heap[b]?=w.heap[b]?/\G' b=G b:=fun b hb hX=>⟨I'.kept.block b hb (fun h=>hX ((hXe b).2 h)),I'.g0 b hb (fun h=>hX ((hXe b).2 h))⟩
 obtain ⟨ν'',hν''⟩:∃ ν'':Nat->Value,ν''=fun k=>if fr<=k/\k < fr+8 then ν' (100+(k - fr)) else ν k:=⟨_,rfl⟩
 have hnew:∀ k,backNm fr rb k=true->ν'' k=ν' (back fr rb k):=fun k hk=>by
  rw [hν''];simp only [backNm,Bool.or_eq_true,Bool.and_eq_true,decide_eq_true_eq] at hk;unfold back;by_cases h:fr<=k/\k < fr+8
  ·simp only [if_pos h]
  ·simp only [if_neg h]
   rcases hk with hk | hk
   ·exact absurd hk h
   ·obtain ⟨x,hx⟩:=Option.isSome_iff_exists.1 hk
    obtain ⟨h1,h2⟩:=hrb k x hx;unfold rnm;rw [hx];have:=I'.pin x (hin x h1).1 (hin x h1).2.1;simp only;rw [this];show ν k=ν (rnm rn x);rw [h2]
 have hold:∀ k,¬ (fr<=k/\k < fr+8)->ν'' k=ν k:=fun k h=>by rw [hν''];simp only [if_neg h]
 have hnm:∀ k,σ₁.nm k=true->(σ₁.upd dst d W fr).nm k=true/\ν'' k=ν k:=fun k hk=>⟨by simp [St.upd,hk],hold k (hnr k hk)⟩
 have hnb:∀ k,backNm fr rb k=true->(σ₁.upd dst d W fr).nm k=true:=fun k hk=>by
  simp only [backNm,Bool.or_eq_true,Bool.and_eq_true,decide_eq_true_eq] at hk;rcases hk with hk | hk
  ·simp [St.upd,hk]
  ·obtain ⟨x,hx⟩:=Option.isSome_iff_exists.1 hk
   obtain ⟨h1,h2⟩:=hrb k x hx;obtain ⟨o',ho'⟩:=hHin x h1;rw [h2] at ho';simp [St.upd,(I.H _ _ ho').1]
 have hνr:∀ k',backNm fr rb k'=true->(res r H').nm (back fr rb k')=true->ν'' k'=ν' (back fr rb k'):=fun k hk _=>hnew k hk
 have hWold:∀ k o1,(σ₁.upd dst d W fr).H k=some o1->look k W=none->σ₁.H k=some o1:=fun k o1 h hl=>by
  simp only [St.upd,hl] at h;exact h
 have hnotX:∀ k o1,σ₁.H k=some o1->look k W=none->∀ g,foot w (ν k) o1 g->¬ X' g:=fun k o1 h hl g hg hx=>by
  obtain ⟨k',hk',o',ho',hb⟩:=(hXe g).1 hx;refine I.dis k o1 _ o' h ho' (fun e=>?_) g hg hb;obtain ⟨x,hx⟩:=hin4 k' hk';rw [← e,hl] at hx;cases hx
 have hWnew:∀ k o1,(σ₁.upd dst d W fr).H k=some o1->look k W≠none->backNm fr rb k=true/\∃ o0,look (back fr rb k) H'=some o0/\OLe false (fun k=>look k H') (backNm fr rb) (back fr rb) o0 o1:=fun k o1 h hl=>by
  cases hx:look k W with
  | none=>exact absurd hx hl
  | some x=>
    simp only [St.upd,hx] at h;subst h;refine ⟨?_,hW.get hx⟩;simp only [backNm,Bool.or_eq_true,Bool.and_eq_true,decide_eq_true_eq];rcases hWk k _ hx with h | ⟨k',hk',he⟩
    ·exact .inl h
    ·right
     rw [← he,(hin k' hk').2.2];rfl
 have hmay':∀ g,(w.heap.size<=g\/X' g)->E.may g:=fun g h=>by
  rcases h with h | h
  ·exact .inl (Nat.le_trans I.kept.size h)
  ·exact hXmay g ((hXe g).1 h)
 have hgX:∀ k o0,look (back fr rb k) H'=some o0->backNm fr rb k=true->∀ g,foot w' (ν'' k) o0 g->w.heap.size<=g\/X' g:=fun k o0 h hb g hg=>by
  rw [hnew k hb] at hg;rcases ((I'.H _ o0 h).2.ft hg).2 with h | h
  ·exact .inl h
  ·exact .inr ((hXe g).2 h)
 have hft:∀ k o1,σ₁.H k=some o1->look k W=none->∀ g,foot w' (ν k) o1 g ↔ foot w (ν k) o1 g:=fun k o1 h hl g=>
  foot_of fun b hb=>(hblk b ((I.H k o1 h).2.blk_lt hb) (hnotX k o1 h hl b (foot_blk hb))).1
 have hinj:∀ k k',backNm fr rb k=true->backNm fr rb k'=true->back fr rb k=back fr rb k'->k=k':=fun k k' h h' e=>by
  have val:∀ k,backNm fr rb k=true->(fr<=k/\k < fr+8/\back fr rb k=100+(k - fr))\/∃ x,back fr rb k=x/\x < 100/\rnm rn x=k:=fun k h=>by
   by_cases hc:fr<=k/\k < fr+8
   ·exact .inl ⟨hc.1,hc.2,by unfold back;rw [if_pos hc]⟩
   ·right
    simp only [backNm,Bool.or_eq_true,Bool.and_eq_true,decide_eq_true_eq] at h;rcases h with h | h
    ·exact absurd h hc
    ·obtain ⟨x,hx⟩:=Option.isSome_iff_exists.1 h
     obtain ⟨h1,h2⟩:=hrb k x hx;exact ⟨x,by unfold back;rw [if_neg hc];unfold rnm;rw [hx],(hin x h1).2.1,h2⟩
  rcases val k h with ⟨a1,a2,a3⟩ | ⟨x,a1,a2,a3⟩ <;> rcases val k' h' with ⟨b1,b2,b3⟩ | ⟨y,b1,b2,b3⟩
  ·omega
  ·omega
  ·omega
  ·rw [← a3,← b3,← a1,← b1,e]
 refine ⟨ν'',G',⟨I'.kept.os.trans I.kept.os,I'.kept.tape.trans I.kept.tape,I'.kept.output.trans I.kept.output,Nat.le_trans I.kept.size I'.kept.size,fun b hb hX=>?_⟩,fun b i u h=>hcell b i u (I.keep b i u h),fun k h1 h2=>?_,fun b hb hX=>?_,?_,fun t d' h=>?_,fun k o1 h=>?_,fun k o1 k' o2 h h' hne g hg=>?_⟩
 ·refine (hblk b (Nat.lt_of_lt_of_le hb I.kept.size) (fun hx=>?_)).1.trans (I.kept.block b hb hX)
  rcases hXmay b ((hXe b).1 hx) with h | h
  ·omega
  ·exact hX h
 ·rw [hold k (by omega)];exact I.pin k h1 h2
 ·refine (hblk b (Nat.lt_of_lt_of_le hb I.kept.size) (fun hx=>?_)).2.trans (I.g0 b hb hX)
  rcases hXmay b ((hXe b).1 hx) with h | h
  ·omega
  ·exact hX h
 ·cases dst <;> simp [Act.put,I.sz]
 ·simp only [St.upd] at h
  split at h
  ·rename_i he
   cases h;obtain ⟨v0,hv0,hd0⟩:=I'.T 0 r (by simp);simp at hv0;subst hv0;have hlt:=hdst t he;refine ⟨v,by simp [he,Act.put,I.sz,hlt],(hres.rel (fun _ _ _ h=>h) I'.rows hνr hd0).mono (fun k hk=>⟨hnb k hk,rfl⟩) (fun _ _ _ h=>h)⟩
  ·rename_i he
   obtain ⟨u,hu,hdu⟩:=I.T t d' h;refine ⟨u,?_,hdu.mono hnm hcell⟩;cases hds:dst with
   | none=>simpa [Act.put] using hu
   | some t''=>
     have hne:t''≠t:=fun e=>he (by rw [hds,e])
     simp only [Act.put];rw [Array.getElem?_setIfInBounds_ne hne];exact hu
 ·by_cases hl:look k W=none
  ·have h0:=hWold k o1 h hl
   obtain ⟨q1,q2⟩:=I.H k o1 h0;exact ⟨(hnm k q1).1,q2.mono q1 hnm hcell (fun g hg=>hblk g (q2.ft hg).1 (hnotX k o1 h0 hl g hg))⟩
  ·obtain ⟨q1,o0,q2,q3⟩:=hWnew k o1 h hl
   have hv:=(I'.H _ o0 q2).2.view (E':=E) (ν':=ν'') (k':=k) q3 I'.rows hνr (hnew k q1) (fun g _ hm=>hmay' g (hm.elim .inl fun h=>.inr ((hXe g).2 h)));exact ⟨hnb k q1,ObjOk.mono q1 (fun k hk=>⟨hnb k hk,rfl⟩) (fun _ _ _ h=>h) (fun _ _=>⟨rfl,rfl⟩) hv⟩
 ·by_cases hl:look k W=none
  ·have h0:=hWold k o1 h hl
   obtain ⟨q1,q2⟩:=I.H k o1 h0;rw [(hnm k q1).2,hft k o1 h0 hl] at hg;by_cases hl':look k' W=none
   ·have h0':=hWold k' o2 h' hl'
    rw [(hnm k' (I.H k' o2 h0').1).2,hft k' o2 h0' hl'];exact I.dis k o1 k' o2 h0 h0' hne g hg
   ·obtain ⟨p1,o0,p2,p3⟩:=hWnew k' o2 h' hl'
    intro hg';rcases hgX k' o0 p2 p1 g (p3.ft.1 hg') with hh | hh
    ·have:=(q2.ft hg).1;omega
    ·exact hnotX k o1 h0 hl g hg hh
  ·obtain ⟨p1,o0,p2,p3⟩:=hWnew k o1 h hl
   by_cases hl':look k' W=none
   ·have h0':=hWold k' o2 h' hl'
    obtain ⟨q1,q2⟩:=I.H k' o2 h0';rw [(hnm k' q1).2,hft k' o2 h0' hl'];intro hg';rcases hgX k o0 p2 p1 g (p3.ft.1 hg) with hh | hh
    ·have:=(q2.ft hg').1;omega
    ·exact hnotX k' o2 h0' hl' g hg' hh
   ·obtain ⟨p1',o0',p2',p3'⟩:=hWnew k' o2 h' hl'
    rw [hnew k p1] at hg;rw [hnew k' p1'];exact fun hg'=>I'.dis _ o0 _ o0' p2 p2' (fun e=>hne (hinj k k' p1 p1' e)) g (p3.ft.1 hg) (p3'.ft.1 hg')
theorem ok_calln {ι:Type} {C:ι->Prop} {f:FuncId} {ds:List D} {H:List (Nat×AObj)} {r':ι->D} {H'':ι->List (Nat×AObj)} (rn rb:List (Nat×Nat)) {d':ι->D} {W':ι->Wr}
    (hrun:∀ (E:Env) (σ₁:St) (ν:Nat->Value) (G:Lim) (w:World) (a:Act),(∀ t d,σ.T t=some d->σ₁.T t=some d)->(∀ k o,σ.H k=some o->σ₁.H k=some o)->Inv E σ₁ ν G w a.tmps->
     ∃ vals:List Value,(execOp a.eval o).run P w = .ok (.enter f vals.toArray) w/\vals.length=ds.length/\∀ (t:Nat) (d':D),ds[t]?=some d'->∃ v d0,vals[t]?=some v/\DR ν σ₁.nm w G v d0/\DLe false σ.H (fun k=>decide (k < 100)) (rnm rn) d0 d')
    (hS:DoesN P f ds H C r' H'') (hH:AllH false σ (fun k=>decide (k < 100)) (rnm rn) H)
    (hres:∀ i,C i->DLe false (fun k=>look k (H'' i)) (backNm fr rb) (back fr rb) (r' i) (d' i)) (hW:∀ i,C i->AllW (H'' i) (backNm fr rb) (back fr rb) (W' i)) (hc:∀ i,C i->callOk fr rn H (W' i)=true) (hc0:callOk0 rn rb H=true):OpN P o σ fr C d' W':=by
 intro E σ₁ a w hT hHH h100 hf hdst ⟨ν,G,I⟩ Q;simp only [callOk0,Bool.and_eq_true,decide_eq_true_eq] at hc0;obtain ⟨⟨⟨c1,c2⟩,c3⟩,c6⟩:=hc0;have hin:∀ k' ∈ H.map (·.1),50<=k'/\k' < 100/\look (rnm rn k') rb=some k':=fun k' hk'=>by
  obtain ⟨p,hp,rfl⟩:=List.mem_map.1 hk';have q1:=List.all_eq_true.1 c1 p hp;have q3:=List.all_eq_true.1 c3 p hp;simp only [Bool.and_eq_true,decide_eq_true_eq,beq_iff_eq] at q1 q3;exact ⟨q1.1,q1.2,q3⟩
 have hrb:∀ k x,look k rb=some x->x ∈ H.map (·.1)/\rnm rn x=k:=fun k x hx=>by
  have:=List.all_eq_true.1 c6 _ (look_mem hx);simp only [List.any_eq_true,Bool.and_eq_true,beq_iff_eq] at this;obtain ⟨q,hq,e1,e2⟩:=this;exact ⟨List.mem_map.2 ⟨q,hq,e1⟩,by rw [← e1];exact e2⟩
 have hHin:∀ k' ∈ H.map (·.1),∃ o',σ₁.H (rnm rn k')=some o':=fun k' hk'=>by
  obtain ⟨x,hx⟩:=look_some hk';obtain ⟨o',h1,_⟩:=hH.get hx;exact ⟨o',hHH _ _ h1⟩
 have hnr:∀ k,σ₁.nm k=true->¬ (fr<=k/\k < fr+8):=fun k hk h=>by rw [hf k h.1 h.2] at hk;cases hk
 have hinnr:∀ k' ∈ H.map (·.1),¬ (fr<=rnm rn k'/\rnm rn k' < fr+8):=fun k' hk'=>by
  obtain ⟨o',ho'⟩:=hHin k' hk';exact hnr _ (I.H _ _ ho').1
 unfold Oper.wp;obtain ⟨vals,hrun,hlen,hargs⟩:=hrun E σ₁ ν G w a hT hHH I;rw [hrun,Oper.upon_enter]
 let X':Nat->Prop:=fun b=>∃ k' ∈ H.map (·.1),∃ o',σ₁.H (rnm rn k')=some o'/\foot w (ν (rnm rn k')) o' b
 have hXmay:∀ b,X' b->E.may b:=fun b ⟨k',hk',o',ho',hb⟩=>((I.H _ _ ho').2.ft hb).2
 have hXlt:∀ b,X' b->b < w.heap.size:=fun b ⟨k',hk',o',ho',hb⟩=>((I.H _ _ ho').2.ft hb).1
 let E':Env:=⟨vals.toArray.size,w,G,X',fun k=>ν (rnm rn k),E.tab.keep I.kept.size I.kept.block hXmay,I.tg,[]⟩
 have hρ:∀ k',decide (k' < 100)=true->σ₁.nm (rnm rn k')=true->(fun k=>ν (rnm rn k)) k'=ν (rnm rn k'):=fun _ _ _=>rfl
 have hR:R E' (args ds H) vals.toArray w:=by
  refine ⟨fun k=>ν (rnm rn k),G,⟨rfl,rfl,rfl,Nat.le_refl _,fun _ _ _=>rfl⟩,fun _ _ _ h=>h,fun _ _ _=>rfl,fun _ _ _=>rfl,rfl,fun t d' h=>?_,fun k o' h=>?_,fun k o1 k' o2 h h' hne g hg=>?_⟩
  ·obtain ⟨v,d0,h1,h2,h3⟩:=hargs t d' h
   exact ⟨v,by simp [h1],(h3.mono hHH).rel (fun _ _ _ h=>h) I.rows hρ h2⟩
  ·obtain ⟨o0,h1,h2⟩:=hH.get h
   have hk:k ∈ H.map (·.1):=look_keys h;exact ⟨decide_eq_true (hin k hk).2.1,(I.H _ o0 (hHH _ _ h1)).2.view (h2.mono hHH) I.rows hρ rfl (fun g hg _=>.inr ⟨k,hk,o0,hHH _ _ h1,hg⟩)⟩
  ·obtain ⟨q1,h1,l1⟩:=hH.get h
   obtain ⟨q2,h2,l2⟩:=hH.get h';exact fun hg'=>I.dis _ q1 _ q2 (hHH _ _ h1) (hHH _ _ h2) (fun e=>hne (nodup_inj (by rw [List.map_map];exact c2) k (look_keys h) k' (look_keys h') e)) g (l1.ft.1 hg) (l2.ft.1 hg')
 refine (hS E' w _ rfl rfl (by simpa using hlen) hR).mono ?_;rintro e w' ⟨v,rfl,i0,hC0,ν',G',I'⟩;obtain ⟨r,hr0⟩:∃ r,r' i0=r:=⟨_,rfl⟩
 obtain ⟨H',hH0⟩:∃ H',H'' i0=H':=⟨_,rfl⟩
 obtain ⟨d,hd0⟩:∃ d,d' i0=d:=⟨_,rfl⟩
 obtain ⟨W,hW0⟩:∃ W,W' i0=W:=⟨_,rfl⟩
 have hres:=hres i0 hC0;have hW:=hW i0 hC0;have hc:=hc i0 hC0;rw [hr0,hH0] at I';rw [hr0,hH0,hd0] at hres;rw [hH0,hW0] at hW;rw [hW0] at hc;show (a.put o.dst v).defers=a.defers/\∃ i,C i/\R E (σ₁.upd o.dst (d' i) (W' i) fr) (a.put o.dst v).tmps w'
 refine ⟨put_defers ..,i0,hC0,?_⟩;rw [hd0,hW0];exact call_core (H:=H) rn rb I h100 hf hHin hres hW hc (by simp only [callOk0,Bool.and_eq_true,decide_eq_true_eq];exact ⟨⟨⟨c1,c2⟩,c3⟩,c6⟩) I' o.dst hdst a rfl
theorem ok_callpan {f:FuncId} {ds:List D} {H:List (Nat×AObj)} {pv:Value} {H'':List (Nat×AObj)} (rn rb:List (Nat×Nat)) {W':Wr}
    (hrun:∀ (E:Env) (σ₁:St) (ν:Nat->Value) (G:Lim) (w:World) (a:Act),(∀ t d,σ.T t=some d->σ₁.T t=some d)->(∀ k o,σ.H k=some o->σ₁.H k=some o)->Inv E σ₁ ν G w a.tmps->
     ∃ vals:List Value,(execOp a.eval o).run P w = .ok (.enter f vals.toArray) w/\vals.length=ds.length/\∀ (t:Nat) (d':D),ds[t]?=some d'->∃ v d0,vals[t]?=some v/\DR ν σ₁.nm w G v d0/\DLe false σ.H (fun k=>decide (k < 100)) (rnm rn) d0 d')
    (hS:DoesPan P f ds H pv H'') (hH:AllH false σ (fun k=>decide (k < 100)) (rnm rn) H)
    (hW:AllW H'' (backNm fr rb) (back fr rb) W') (hc:callOk fr rn H W'=true) (hc0:callOk0 rn rb H=true):OpPan P o σ fr pv W':=by
 intro E σ₁ a w hT hHH h100 hf ⟨ν,G,I⟩;simp only [callOk0,Bool.and_eq_true,decide_eq_true_eq] at hc0;obtain ⟨⟨⟨c1,c2⟩,c3⟩,c6⟩:=hc0;have hin:∀ k' ∈ H.map (·.1),50<=k'/\k' < 100/\look (rnm rn k') rb=some k':=fun k' hk'=>by
  obtain ⟨p,hp,rfl⟩:=List.mem_map.1 hk';have q1:=List.all_eq_true.1 c1 p hp;have q3:=List.all_eq_true.1 c3 p hp;simp only [Bool.and_eq_true,decide_eq_true_eq,beq_iff_eq] at q1 q3;exact ⟨q1.1,q1.2,q3⟩
 have hrb:∀ k x,look k rb=some x->x ∈ H.map (·.1)/\rnm rn x=k:=fun k x hx=>by
  have:=List.all_eq_true.1 c6 _ (look_mem hx);simp only [List.any_eq_true,Bool.and_eq_true,beq_iff_eq] at this;obtain ⟨q,hq,e1,e2⟩:=this;exact ⟨List.mem_map.2 ⟨q,hq,e1⟩,by rw [← e1];exact e2⟩
 have hHin:∀ k' ∈ H.map (·.1),∃ o',σ₁.H (rnm rn k')=some o':=fun k' hk'=>by
  obtain ⟨x,hx⟩:=look_some hk';obtain ⟨o',h1,_⟩:=hH.get hx;exact ⟨o',hHH _ _ h1⟩
 have hnr:∀ k,σ₁.nm k=true->¬ (fr<=k/\k < fr+8):=fun k hk h=>by rw [hf k h.1 h.2] at hk;cases hk
 have hinnr:∀ k' ∈ H.map (·.1),¬ (fr<=rnm rn k'/\rnm rn k' < fr+8):=fun k' hk'=>by
  obtain ⟨o',ho'⟩:=hHin k' hk';exact hnr _ (I.H _ _ ho').1
 unfold Oper.wp;obtain ⟨vals,hrun,hlen,hargs⟩:=hrun E σ₁ ν G w a hT hHH I;rw [hrun,Oper.upon_enter]
 let X':Nat->Prop:=fun b=>∃ k' ∈ H.map (·.1),∃ o',σ₁.H (rnm rn k')=some o'/\foot w (ν (rnm rn k')) o' b
 have hXmay:∀ b,X' b->E.may b:=fun b ⟨k',hk',o',ho',hb⟩=>((I.H _ _ ho').2.ft hb).2
 have hXlt:∀ b,X' b->b < w.heap.size:=fun b ⟨k',hk',o',ho',hb⟩=>((I.H _ _ ho').2.ft hb).1
 let E':Env:=⟨vals.toArray.size,w,G,X',fun k=>ν (rnm rn k),E.tab.keep I.kept.size I.kept.block hXmay,I.tg,[]⟩
 have hρ:∀ k',decide (k' < 100)=true->σ₁.nm (rnm rn k')=true->(fun k=>ν (rnm rn k)) k'=ν (rnm rn k'):=fun _ _ _=>rfl
 have hR:R E' (args ds H) vals.toArray w:=by
  refine ⟨fun k=>ν (rnm rn k),G,⟨rfl,rfl,rfl,Nat.le_refl _,fun _ _ _=>rfl⟩,fun _ _ _ h=>h,fun _ _ _=>rfl,fun _ _ _=>rfl,rfl,fun t d' h=>?_,fun k o' h=>?_,fun k o1 k' o2 h h' hne g hg=>?_⟩
  ·obtain ⟨v,d0,h1,h2,h3⟩:=hargs t d' h
   exact ⟨v,by simp [h1],(h3.mono hHH).rel (fun _ _ _ h=>h) I.rows hρ h2⟩
  ·obtain ⟨o0,h1,h2⟩:=hH.get h
   have hk:k ∈ H.map (·.1):=look_keys h;exact ⟨decide_eq_true (hin k hk).2.1,(I.H _ o0 (hHH _ _ h1)).2.view (h2.mono hHH) I.rows hρ rfl (fun g hg _=>.inr ⟨k,hk,o0,hHH _ _ h1,hg⟩)⟩
  ·obtain ⟨q1,h1,l1⟩:=hH.get h
   obtain ⟨q2,h2,l2⟩:=hH.get h';exact fun hg'=>I.dis _ q1 _ q2 (hHH _ _ h1) (hHH _ _ h2) (fun e=>hne (nodup_inj (by rw [List.map_map];exact c2) k (look_keys h) k' (look_keys h') e)) g (l1.ft.1 hg) (l2.ft.1 hg')
 refine (hS E' w _ rfl rfl (by simpa using hlen) hR).mono ?_;rintro e w' ⟨rfl,ν',G',I'⟩;refine ⟨rfl,rfl,?_⟩;exact call_core (d:=.any) (H:=H) rn rb I h100 hf hHin .any hW hc (by simp only [callOk0,Bool.and_eq_true,decide_eq_true_eq];exact ⟨⟨⟨c1,c2⟩,c3⟩,c6⟩) I' none (fun _ h=>by cases h) a rfl
end
end Go.Ab
/- The abstract machine: a region that draws its order. Each operation is looked at once, from what comes before it in every order. -/
namespace Go.Ab
open Go.RowKit
abbrev Rs:=List (D×Wr)
def stOf (ops:Array Oper) (fr:Nat) (S:Nat->Bool):Nat->Rs->St->St
 | _,[],σ=>σ
 | i,(d,W)::rs,σ=>stOf ops fr S (i+1) rs (if S i then σ.upd (Region.dstOf ops i) d W (fr+8 * i) else σ)
def keyIn (kl:List (List Nat)) (fr p k:Nat):Bool:=(kl.getD p []).contains k||(decide (fr+8 * p<=k)&&decide (k < fr+8 * p+8))
def apart (pre:List (List Nat)) (i p:Nat):Bool:=p != i&&!(pre.getD i []).contains p&&!(pre.getD p []).contains i
def ctx (ops:Array Oper) (pre kl:List (List Nat)) (fr i:Nat) (rs:Rs) (σ:St):St:=
 ⟨fun t=>if (List.range ops.size).any (fun p=>apart pre i p&&(Region.dstOf ops p == some t))=true then none else (stOf ops fr (fun j=>(pre.getD i []).contains j) 0 rs σ).T t,
  fun k=>if (List.range ops.size).any (fun p=>apart pre i p&&keyIn kl fr p k)=true then none else (stOf ops fr (fun j=>(pre.getD i []).contains j) 0 rs σ).H k,σ.nm⟩
def AnyGo (P:Program) (ops:Array Oper) (pre kl:List (List Nat)) (fr:Nat) (σ:St) (Post:St->Prop):List Oper->Nat->Rs->Prop
 | [],_,rs=>Post (stOf ops fr (fun _=>true) 0 rs σ)
 | o::rest,i,rs=>∃ d W,StepOk P ops o (ctx ops pre kl fr i rs σ) (fr+8 * i) d W/\(W.all fun p=>keyIn kl fr i p.1)=true/\AnyGo P ops pre kl fr σ Post rest (i+1) (rs++[(d,W)])
def anyOk (ops:Array Oper) (pre kl:List (List Nat)) (fr m:Nat):Bool:=
 Region.noSelect ops &&
 (List.range ops.size).all (fun i=>match ops[i]? with
  | none=>false
  | some o=>o.after.all (fun e=>!Region.binds .any e||decide (e.on < i))&&(match o.dst with | none=>true | some t=>decide (t < m)) &&
    (pre.getD i []).all (fun j=>decide (j < i)&&o.after.any (fun e=>Region.binds .any e&&(e.on == j||(pre.getD e.on []).contains j)))) &&
 (List.range ops.size).all (fun q=>(List.range q).all fun p=>(pre.getD q []).contains p ||
  ((Region.dstOf ops p).isNone||Region.dstOf ops p != Region.dstOf ops q)&&(kl.getD p []).all (fun k=>!keyIn kl fr q k)&&(kl.getD q []).all (fun k=>!keyIn kl fr p k))
structure AnyFacts (ops:Array Oper) (pre kl:List (List Nat)) (fr m:Nat):Prop where
 sel:Region.noSelect ops=true
 back:∀ (i:Nat) (o:Oper),ops[i]?=some o->∀ e ∈ o.after,Region.binds .any e=true->e.on < i
 dst:∀ (i:Nat) (o:Oper),ops[i]?=some o->∀ t,o.dst=some t->t < m
 prior:∀ (i:Nat) (o:Oper),ops[i]?=some o->∀ j ∈ pre.getD i [],j < i/\∃ e ∈ o.after,Region.binds .any e=true/\(e.on=j\/j ∈ pre.getD e.on [])
 clash:∀ p q,p < q->q < ops.size->p ∉ pre.getD q []->(∀ t,Region.dstOf ops p=some t->Region.dstOf ops q≠some t)/\∀ k,keyIn kl fr p k=true->keyIn kl fr q k=false
theorem anyOk_facts {ops:Array Oper} {pre kl:List (List Nat)} {fr m:Nat} (h:anyOk ops pre kl fr m=true):AnyFacts ops pre kl fr m:=by
 unfold anyOk at h;simp only [Bool.and_eq_true] at h;obtain ⟨⟨h1,h3⟩,h4⟩:=h;have lt:∀ {i:Nat} {o:Oper},ops[i]?=some o->i < ops.size:=fun ho=>(Array.getElem?_eq_some_iff.1 ho).1
 have e3:∀ (i:Nat) (o:Oper),ops[i]?=some o->_:=fun i o ho=>by
  have:=List.all_eq_true.1 h3 i (List.mem_range.2 (lt ho));simp only [ho,Bool.and_eq_true] at this;exact this
 refine ⟨h1,fun i o ho e he hb=>?_,fun i o ho t ht=>?_,fun i o ho j hj=>?_,fun p q hpq hq hnp=>?_⟩
 ·have:=(Array.all_eq_true_iff_forall_mem.1 (e3 i o ho).1.1) e he
  simpa [hb] using this
 ·have:=(e3 i o ho).1.2
  rw [ht] at this;exact of_decide_eq_true this
 ·have:=List.all_eq_true.1 (e3 i o ho).2 j hj
  simp only [Bool.and_eq_true,decide_eq_true_eq] at this;refine ⟨this.1,?_⟩;obtain ⟨e,he,hb⟩:=Array.any_eq_true'.1 this.2;simp only [Bool.and_eq_true,Bool.or_eq_true,beq_iff_eq,List.contains_iff_mem] at hb;exact ⟨e,he,hb.1,hb.2⟩
 ·have:=List.all_eq_true.1 (List.all_eq_true.1 h4 q (List.mem_range.2 hq)) p (List.mem_range.2 hpq)
  simp only [Bool.or_eq_true,List.contains_iff_mem,Bool.and_eq_true] at this;rcases this with h | ⟨⟨h1,h2⟩,h3⟩
  ·exact absurd h hnp
  ·refine ⟨fun t ht he=>?_,fun k hk=>?_⟩
   ·rw [ht,he] at h1
    simp at h1
   ·rw [Bool.eq_false_iff]
    intro hkq;have hk':=hk;have hkq':=hkq;simp only [keyIn,Bool.or_eq_true,List.contains_iff_mem,Bool.and_eq_true,decide_eq_true_eq] at hk' hkq';rcases hk' with hk' | hk'
    ·have:=List.all_eq_true.1 h2 k hk'
     simp [hkq] at this
    ·rcases hkq' with hkq' | hkq'
     ·have:=List.all_eq_true.1 h3 k hkq'
      simp [hk] at this
     ·omega
section
variable {ops:Array Oper} {pre kl:List (List Nat)} {fr m:Nat} {listed:Array Bool}
theorem AnyFacts.on_pre (F:AnyFacts ops pre kl fr m) (h:Downs ops listed):∀ (i j:Nat),On listed i->j ∈ pre.getD i []->On listed j:=by
 intro i
 induction i using Nat.strongRecOn with
 | _ i ih=>
   intro j hi hj;have hlt:=On.lt h hi;have ho:ops[i]?=some ops[i]:=by simp [hlt]
   obtain ⟨_,e,he,hb,hc⟩:=F.prior i _ ho j hj;have hon:=h.down i _ hi ho e he hb;rcases hc with hc | hc
   ·exact hc ▸ hon
   ·exact ih e.on (F.back i _ ho e he hb) j hon hc
theorem AnyFacts.ready_pre (F:AnyFacts ops pre kl fr m) (h:Downs ops listed) {i j:Nat} (hr:i ∈ Region.ready .any ops listed) (hj:j ∈ pre.getD i []):On listed j:=by
 obtain ⟨h0,o,ho,hall⟩:=mem_ready.1 hr;obtain ⟨_,e,he,hb,hc⟩:=F.prior i o ho j hj;rcases hc with hc | hc
 ·exact hc ▸ hall e he hb
 ·exact F.on_pre h e.on j (hall e he hb) hc
theorem AnyFacts.least (F:AnyFacts ops pre kl fr m) (h:Downs ops listed):∀ i,i < ops.size->¬ On listed i->∃ k,k<=i/\k ∈ Region.ready .any ops listed:=by
 intro i
 induction i using Nat.strongRecOn with
 | _ i ih=>
   intro hlt hi;by_cases hex:∃ j,j < i/\¬ On listed j
   ·obtain ⟨j,hj,hn⟩:=hex
    obtain ⟨k,hk,hr⟩:=ih j hj (by omega) hn;exact ⟨k,by omega,hr⟩
   ·have ho:ops[i]?=some ops[i]:=by simp [hlt]
    refine ⟨i,Nat.le_refl _,mem_ready.2 ⟨(not_on h.sz hlt).1 hi,_,ho,fun e he hb=>?_⟩⟩;have:=F.back i _ ho e he hb;exact Classical.not_not.1 fun hn=>hex ⟨e.on,this,hn⟩
end
theorem St.ext' {σ σ':St} (h1:∀ t,σ.T t=σ'.T t) (h2:∀ k,σ.H k=σ'.H k) (h3:∀ k,σ.nm k=σ'.nm k):σ=σ':=by
 cases σ;cases σ';simp only [St.mk.injEq];exact ⟨funext h1,funext h2,funext h3⟩
theorem look_none_of {W:Wr} {k:Nat} {f:Nat->Bool} (h:(W.all fun p=>f p.1)=true) (hk:f k=false):look k W=none:=by
 cases hl:look k W with
 | none=>rfl
 | some x=>
   have:=List.all_eq_true.1 h _ (look_mem hl);simp only at this;rw [hk] at this;cases this
theorem upd_comm {σ:St} {t1 t2:Option Tmp} {d1 d2:D} {W1 W2:Wr} {f1 f2:Nat} (ht:∀ t,t1=some t->t2≠some t) (hW:∀ k,look k W1=none\/look k W2=none):(σ.upd t1 d1 W1 f1).upd t2 d2 W2 f2=(σ.upd t2 d2 W2 f2).upd t1 d1 W1 f1:=by
 refine St.ext' (fun t=>?_) (fun k=>?_) (fun k=>?_)
 ·simp only [St.upd]
  by_cases h2:t2=some t
  ·rw [if_pos h2,if_neg (fun h1=>ht t h1 h2)]
   simp [h2]
  ·rw [if_neg h2]
   by_cases h1:t1=some t
   ·rw [if_pos h1,if_pos h1]
   ·rw [if_neg h1,if_neg h1,if_neg h2]
 ·simp only [St.upd]
  rcases hW k with h | h
  ·simp only [h]
  ·simp only [h]
 ·simp only [St.upd]
  cases σ.nm k <;> simp [Bool.or_comm]
section
variable {ops:Array Oper} {pre kl:List (List Nat)} {fr:Nat}
theorem stOf_upd (S:Nat->Bool) {i:Nat} {d:D} {W:Wr} (hW:(W.all fun p=>keyIn kl fr i p.1)=true):∀ (rs:Rs) (j:Nat) (σ:St),(∀ (q:Nat) (d':D) (W':Wr),rs[q]?=some (d',W')->(W'.all fun p=>keyIn kl fr (j+q) p.1)=true)->
    (∀ q,q < rs.length->S (j+q)=true->(∀ t,Region.dstOf ops i=some t->Region.dstOf ops (j+q)≠some t)/\∀ k,keyIn kl fr i k=true->keyIn kl fr (j+q) k=false)->
    stOf ops fr S j rs (σ.upd (Region.dstOf ops i) d W (fr+8 * i))=(stOf ops fr S j rs σ).upd (Region.dstOf ops i) d W (fr+8 * i)
 | [],_,_,_,_=>rfl
 | (d',W')::rs,j,σ,hk,hc=>by
   have hk':=hk 0 d' W' rfl;rw [Nat.add_zero] at hk';have rec_:=fun σ=>stOf_upd (d:=d) S hW rs (j+1) σ (fun q d'' W'' h=>by have:=hk (q+1) d'' W'' (by simpa using h);rwa [show j+(q+1)=j+1+q by omega] at this)
    (fun q hq hS=>by have:=hc (q+1) (by simpa using hq) (by rw [show j+(q+1)=j+1+q by omega];exact hS);rwa [show j+(q+1)=j+1+q by omega] at this)
   unfold stOf;by_cases hS:S j=true
   ·obtain ⟨c1,c2⟩:=hc 0 (by simp) (by simpa using hS)
    rw [Nat.add_zero] at c1 c2;simp only [hS,if_true];rw [upd_comm c1 (fun k=>?_)]
    ·exact rec_ _
    ·by_cases hki:keyIn kl fr i k=true
     ·exact .inr (look_none_of hk' (c2 k hki))
     ·exact .inl (look_none_of hW (by simpa using hki))
   ·simp only [hS,if_false,Bool.false_eq_true]
    exact rec_ σ
theorem stOf_insert {S S':Nat->Bool} {i:Nat} (hi:S i=false) (hi':S' i=true) (hS:∀ j,j≠i->S' j=S j):∀ (rs:Rs) (j:Nat) (σ:St),j<=i->∀ d W,rs[i - j]?=some (d,W)->
    (∀ (q:Nat) (d':D) (W':Wr),rs[q]?=some (d',W')->(W'.all fun p=>keyIn kl fr (j+q) p.1)=true)->
    (∀ p,i < p->p < j+rs.length->S p=true->(∀ t,Region.dstOf ops i=some t->Region.dstOf ops p≠some t)/\∀ k,keyIn kl fr i k=true->keyIn kl fr p k=false)->
    stOf ops fr S' j rs σ=(stOf ops fr S j rs σ).upd (Region.dstOf ops i) d W (fr+8 * i)
 | [],_,_,_,_,_,h,_,_=>by simp at h
 | (d',W')::rs,j,σ,hj,d,W,h,hk,hc=>by
   have hk2:∀ (q:Nat) (d'':D) (W'':Wr),rs[q]?=some (d'',W'')->(W''.all fun p=>keyIn kl fr (j+1+q) p.1)=true:=fun q d'' W'' h=>by have:=hk (q+1) d'' W'' (by simpa using h);rwa [show j+(q+1)=j+1+q by omega] at this
   unfold stOf;by_cases e:j=i
   ·subst e
    simp only [Nat.sub_self,List.getElem?_cons_zero,Option.some.injEq,Prod.mk.injEq] at h;obtain ⟨rfl,rfl⟩:=h;simp only [hi,hi',if_true,if_false,Bool.false_eq_true];have hsame:∀ (rs:Rs) (q:Nat) (σ:St),j < q->stOf ops fr S' q rs σ=stOf ops fr S q rs σ:=by
     intro rs
     induction rs with
     | nil=>intro q σ _;rfl
     | cons r rs ih=>intro q σ hq;unfold stOf;rw [hS q (by omega)];exact ih _ _ (by omega)
    rw [hsame rs (j+1) _ (by omega)];have hk0:=hk 0 d' W' rfl;rw [Nat.add_zero] at hk0;exact stOf_upd S hk0 rs (j+1) σ hk2 (fun q hq hSq=>hc (j+1+q) (by omega) (by simp;omega) hSq)
   ·rw [hS j e]
    refine stOf_insert hi hi' hS rs (j+1) _ (by omega) d W ?_ hk2 (fun p h1 h2 h3=>hc p h1 (by simp;omega) h3);rw [show i - j=(i - (j+1))+1 by omega] at h;simpa using h
theorem stOf_T {S S':Nat->Bool} {t:Nat}:∀ (rs:Rs) (j:Nat) (σ σ':St),σ.T t=σ'.T t->(∀ q,q < rs.length->Region.dstOf ops (j+q)=some t->S (j+q)=S' (j+q))->(stOf ops fr S j rs σ).T t=(stOf ops fr S' j rs σ').T t
 | [],_,_,_,h,_=>h
 | (d,W)::rs,j,σ,σ',h,hq=>by
   unfold stOf;refine stOf_T rs (j+1) _ _ ?_ (fun q h1 h2=>by have:=hq (q+1) (by simpa using h1) (by rw [show j+(q+1)=j+1+q by omega];exact h2);rwa [show j+(q+1)=j+1+q by omega] at this);by_cases hd:Region.dstOf ops j=some t
   ·have:=hq 0 (by simp) (by simpa using hd)
    rw [Nat.add_zero] at this;rw [this];split
    ·simp [St.upd,hd]
    ·exact h
   ·split <;> split <;> simp [St.upd,hd,h]
theorem stOf_H {S S':Nat->Bool} {k:Nat}:∀ (rs:Rs) (j:Nat) (σ σ':St),σ.H k=σ'.H k->(∀ (q:Nat) (d':D) (W':Wr),rs[q]?=some (d',W')->(W'.all fun p=>keyIn kl fr (j+q) p.1)=true)->(∀ q,q < rs.length->keyIn kl fr (j+q) k=true->S (j+q)=S' (j+q))->(stOf ops fr S j rs σ).H k=(stOf ops fr S' j rs σ').H k
 | [],_,_,_,h,_,_=>h
 | (d,W)::rs,j,σ,σ',h,hk,hq=>by
   unfold stOf;refine stOf_H rs (j+1) _ _ ?_ (fun q d'' W'' h=>by have:=hk (q+1) d'' W'' (by simpa using h);rwa [show j+(q+1)=j+1+q by omega] at this)
    (fun q h1 h2=>by have:=hq (q+1) (by simpa using h1) (by rw [show j+(q+1)=j+1+q by omega];exact h2);rwa [show j+(q+1)=j+1+q by omega] at this)
   have hk0:=hk 0 d W rfl;rw [Nat.add_zero] at hk0;by_cases hd:keyIn kl fr j k=true
   ·have:=hq 0 (by simp) (by simpa using hd)
    rw [Nat.add_zero] at this;rw [this];split
    ·simp only [St.upd];rw [h]
    ·exact h
   ·have hl:=look_none_of hk0 (by simpa using hd:keyIn kl fr j k=false)
    split <;> split <;> simp [St.upd,hl,h]
theorem stOf_nm {S:Nat->Bool}:∀ (rs:Rs) (j:Nat) (σ:St) (k:Nat),σ.nm k=false->(∀ q,q < rs.length->S (j+q)=true->¬ (fr+8 * (j+q)<=k/\k < fr+8 * (j+q)+8))->(stOf ops fr S j rs σ).nm k=false
 | [],_,_,_,h,_=>h
 | (d,W)::rs,j,σ,k,h,hq=>by
   unfold stOf;refine stOf_nm rs (j+1) _ k ?_ (fun q h1 h2=>by have:=hq (q+1) (by simpa using h1) (by rw [show j+(q+1)=j+1+q by omega];exact h2);rwa [show j+(q+1)=j+1+q by omega] at this);split
   ·rename_i hS
    have:=hq 0 (by simp) (by simpa using hS);rw [Nat.add_zero] at this;simp only [St.upd,h,Bool.false_or];rw [Bool.eq_false_iff];simp only [ne_eq,Bool.and_eq_true,decide_eq_true_eq];exact this
   ·exact h
theorem AnyGo.all {P:Program} {σ:St} {Post:St->Prop}:∀ (l:List Oper) (i:Nat) (rs:Rs),i=rs.length->(∀ (q:Nat) (d:D) (W:Wr),rs[q]?=some (d,W)->(W.all fun p=>keyIn kl fr q p.1)=true)->AnyGo P ops pre kl fr σ Post l i rs->
    ∃ all:Rs,all.length=rs.length+l.length/\(∀ (q:Nat) (d:D) (W:Wr),all[q]?=some (d,W)->(W.all fun p=>keyIn kl fr q p.1)=true)/\(∀ q,q < rs.length->all[q]?=rs[q]?)/\Post (stOf ops fr (fun _=>true) 0 all σ) /\
     ∀ (q:Nat) (o:Oper),l[q]?=some o->∃ d W,all[i+q]?=some (d,W)/\StepOk P ops o (ctx ops pre kl fr (i+q) (all.take (i+q)) σ) (fr+8 * (i+q)) d W
 | [],i,rs,hi,hk,h=>⟨rs,by simp,hk,fun _ _=>rfl,h,fun q o h=>by simp at h⟩
 | o::rest,i,rs,hi,hk,h=>by
   obtain ⟨d,W,h1,h2,h3⟩:=h;obtain ⟨all,a1,a2,a3,a4,a5⟩:=AnyGo.all rest (i+1) (rs++[(d,W)]) (by simp [hi]) (fun q d' W' hq=>by
    rcases Nat.lt_trichotomy q rs.length with hlt | heq | hgt
    ·rw [List.getElem?_append_left hlt] at hq;exact hk q d' W' hq
    ·subst heq
     simp at hq;obtain ⟨rfl,rfl⟩:=hq;rw [← hi];exact h2
    ·rw [List.getElem?_eq_none (by simp;omega)] at hq;cases hq) h3
   have hat:all[i]?=some (d,W):=by
    rw [a3 i (by simp [hi]),hi];simp
   refine ⟨all,by rw [a1];simp;omega,a2,fun q hq=>by rw [a3 q (by simp;omega),List.getElem?_append_left hq],a4,fun q o' hq=>?_⟩;cases q with
   | zero=>
     simp at hq;subst hq;have htake:all.take i=rs:=by
      apply List.ext_getElem?;intro q;rw [List.getElem?_take];by_cases hlt:q < i
      ·rw [if_pos hlt,a3 q (by simp;omega),List.getElem?_append_left (by omega)]
      ·rw [if_neg hlt,List.getElem?_eq_none (by omega)]
     refine ⟨d,W,hat,?_⟩;rw [Nat.add_zero,htake];exact h1
   | succ q=>
     obtain ⟨d',W',h4,h5⟩:=a5 q o' (by simpa using hq);rw [show i+1+q=i+(q+1) by omega] at h4 h5;exact ⟨d',W',h4,h5⟩
theorem stOf_take {S:Nat->Bool} {n:Nat} (hS:∀ q,n<=q->S q=false):∀ (rs:Rs) (j:Nat) (σ:St),stOf ops fr S j (rs.take (n - j)) σ=stOf ops fr S j rs σ
 | [],_,_=>by simp
 | (d,W)::rs,j,σ=>by
   by_cases h:j < n
   ·rw [show n - j=(n - (j+1))+1 by omega,List.take_succ_cons]
    unfold stOf;exact stOf_take hS rs (j+1) _
   ·have hnone:∀ (rs:Rs) (q:Nat) (σ:St),n<=q->stOf ops fr S q rs σ=σ:=by
     intro rs
     induction rs with
     | nil=>intro q σ _;rfl
     | cons r rs ih=>intro q σ hq;unfold stOf;rw [hS q hq];exact ih _ _ (by omega)
    rw [hnone _ _ _ (by omega),hnone _ _ _ (by omega)]
theorem run_any {P:Program} {E:Env} {σ:St} {all:Rs} {Q:Exit->Act->World->Prop} {m:Nat} (F:AnyFacts ops pre kl fr m) (hm:E.m=m) (h100:100<=fr) (hfree:∀ k,fr<=k->σ.nm k=false) (hlen:all.length=ops.size)
    (hk:∀ (q:Nat) (d:D) (W:Wr),all[q]?=some (d,W)->(W.all fun p=>keyIn kl fr q p.1)=true)
    (hstep:∀ (q:Nat) (o:Oper),ops[q]?=some o->∃ d W,all[q]?=some (d,W)/\StepOk P ops o (ctx ops pre kl fr q (all.take q) σ) (fr+8 * q) d W)
    {a0:Act} (hQ:∀ a' w',a'.defers=a0.defers->R E (stOf ops fr (fun _=>true) 0 all σ) a'.tmps w'->Q .normal a' w'):
    ∀ (fuel:Nat) (listed:Array Bool) (a:Act) (w:World),Downs ops listed->unl ops.size listed<=fuel->a.defers=a0.defers->R E (stOf ops fr (fun j=>listed.getD j false) 0 all σ) a.tmps w->wpAny P .any ops Q fuel listed a w:=by
 have hfin:∀ (listed:Array Bool) (a:Act) (w:World),(∀ j,j < ops.size->On listed j)->a.defers=a0.defers->R E (stOf ops fr (fun j=>listed.getD j false) 0 all σ) a.tmps w->Q .normal a w:=fun listed a w hall hd hR=>by
  refine hQ a w hd ?_;have:stOf ops fr (fun j=>listed.getD j false) 0 all σ=stOf ops fr (fun _=>true) 0 all σ:=by
   have gen:∀ (rs:Rs) (j:Nat) (σ:St),j+rs.length<=ops.size->stOf ops fr (fun j=>listed.getD j false) j rs σ=stOf ops fr (fun _=>true) j rs σ:=by
    intro rs
    induction rs with
    | nil=>intro j σ _;rfl
    | cons r rs ih=>
      intro j σ hj;unfold stOf;have:=hall j (by simp at hj;omega);unfold On at this;rw [this];exact ih _ _ (by simp at hj;omega)
   exact gen all 0 σ (by omega)
  rw [← this];exact hR
 intro fuel
 induction fuel with
 | zero=>
   intro listed a w hd hf hdf hR;have hall:∀ j,j < ops.size->On listed j:=fun j hj=>Classical.not_not.1 fun hn=>by
    have:=unl_pos hj ((not_on hd.sz hj).1 hn);omega
   refine ⟨List.eq_nil_iff_forall_not_mem.2 fun j hj=>?_,hfin listed a w hall hdf hR⟩;obtain ⟨h0,o,ho,_⟩:=mem_ready.1 hj;have hlt:=(Array.getElem?_eq_some_iff.1 ho).1;exact (not_on hd.sz hlt).2 h0 (hall j hlt)
 | succ fuel ih=>
   intro listed a w hd hf hdf hR;refine ⟨fun hr=>?_,fun i hi=>?_⟩
   ·refine hfin listed a w (fun j hj=>Classical.not_not.1 fun hn=>?_) hdf hR
    obtain ⟨k,_,hk'⟩:=F.least hd j hj hn;rw [hr] at hk';cases hk'
   ·obtain ⟨h0,o,ho,_⟩:=mem_ready.1 hi
    have hin:=(Array.getElem?_eq_some_iff.1 ho).1;have hni:¬ On listed i:=(not_on hd.sz hin).2 h0;have hdst:Region.dstOf ops i=o.dst:=by simp [Region.dstOf,ho]
    obtain ⟨d,W,hat,hs⟩:=hstep i o ho;have hpre:∀ j ∈ pre.getD i [],On listed j:=fun j hj=>F.ready_pre hd hi hj
    -- writers of what i may rely on
    have hap:∀ p,p < ops.size->apart pre i p=false->On listed p->p ∈ pre.getD i []:=fun p hp hap hon=>by
     have hpi:p≠i:=fun e=>hni (e ▸ hon)
     simp only [apart,Bool.and_eq_false_iff,bne_eq_false_iff_eq,Bool.not_eq_false',List.contains_iff_mem] at hap;rcases hap with (h | h) | h
     ·exact absurd h hpi
     ·exact h
     ·exact absurd (F.on_pre hd p i hon h) hni
    have hSpre:(fun j=>(pre.getD i []).contains j)=fun j=>(pre.getD i []).contains j:=rfl
    have htake:stOf ops fr (fun j=>(pre.getD i []).contains j) 0 (all.take i) σ=stOf ops fr (fun j=>(pre.getD i []).contains j) 0 all σ:=by
     have:=stOf_take (ops:=ops) (fr:=fr) (S:=fun j=>(pre.getD i []).contains j) (n:=i) (fun q hq=>by
      rw [Bool.eq_false_iff];intro hc;have:=(F.prior i o ho q (List.contains_iff_mem.1 hc)).1;omega) all 0 σ
     simpa using this
    have hsame:∀ p,p < ops.size->(apart pre i p=false)->listed.getD p false=(pre.getD i []).contains p:=fun p hp hq=>by
     rw [Bool.eq_iff_iff,List.contains_iff_mem];exact ⟨fun h=>hap p hp hq h,fun h=>hpre p h⟩
    have hT:∀ t d,(ctx ops pre kl fr i (all.take i) σ).T t=some d->(stOf ops fr (fun j=>listed.getD j false) 0 all σ).T t=some d:=fun t d' h=>by
     simp only [ctx] at h;split at h
     ·cases h
     ·rename_i hno
      rw [htake] at h;rw [← h];refine stOf_T all 0 σ σ rfl (fun q hq hqd=>?_);rw [Nat.zero_add] at hqd ⊢;refine hsame q (by omega) ?_;rw [Bool.eq_false_iff];intro hap';exact hno (List.any_eq_true.2 ⟨q,List.mem_range.2 (by omega),by simp [hap',hqd]⟩)
    have hH:∀ k o',(ctx ops pre kl fr i (all.take i) σ).H k=some o'->(stOf ops fr (fun j=>listed.getD j false) 0 all σ).H k=some o':=fun k o' h=>by
     simp only [ctx] at h;split at h
     ·cases h
     ·rename_i hno
      rw [htake] at h;rw [← h];refine stOf_H (kl:=kl) all 0 σ σ rfl (fun q d' W' hq=>by rw [Nat.zero_add];exact hk q d' W' hq) (fun q hq hqk=>?_);rw [Nat.zero_add] at hqk ⊢;refine hsame q (by omega) ?_;rw [Bool.eq_false_iff];intro hap';exact hno (List.any_eq_true.2 ⟨q,List.mem_range.2 (by omega),by simp [hap',hqk]⟩)
    have hnm:∀ k,fr+8 * i<=k->k < fr+8 * i+8->(stOf ops fr (fun j=>listed.getD j false) 0 all σ).nm k=false:=fun k h1 h2=>by
     refine stOf_nm all 0 σ k (hfree k (by omega)) (fun q hq hS h=>?_);rw [Nat.zero_add] at hS h;have:q=i:=by omega
     subst this;exact hni hS
    have hins:stOf ops fr (fun j=>(listed.setIfInBounds i true).getD j false) 0 all σ=(stOf ops fr (fun j=>listed.getD j false) 0 all σ).upd o.dst d W (fr+8 * i):=by
     rw [← hdst];refine stOf_insert (kl:=kl) (i:=i) (by simpa [On] using hni) (by simp [hd.sz,hin]) (fun j hj=>getD_set_ne false (fun e=>hj e.symm)) all 0 σ (Nat.zero_le _) d W (by simpa using hat) (fun q d' W' hq=>by rw [Nat.zero_add];exact hk q d' W' hq) (fun p hp1 hp2 hS=>?_);refine F.clash i p hp1 (by omega) (fun hip=>hni (F.on_pre hd p i hS hip))
    have hop:=hs.run hT hH (by omega) hnm (fun t ht=>by rw [hm];exact F.dst i o ho t ht) hR (wpAny P .any ops Q fuel (listed.setIfInBounds i true)) Q (fun a' w' hd' hR'=>by
     refine ih (listed.setIfInBounds i true) a' w' (hd.set hi) ?_ (hd'.trans hdf) (by rw [hins];exact hR');have:=unl_set hin h0;omega)
    unfold wpOp;simp only [ho];exact hop
def AnyGoP (P:Program) (ops:Array Oper) (pre kl:List (List Nat)) (fr:Nat) (σ:St) (Post:Exit->St->Prop):List Oper->Nat->Rs->Prop
 | [],_,rs=>Post .normal (stOf ops fr (fun _=>true) 0 rs σ)
 | o::rest,i,rs=>(∃ d W,StepOk P ops o (ctx ops pre kl fr i rs σ) (fr+8 * i) d W/\(W.all fun p=>keyIn kl fr i p.1)=true/\AnyGoP P ops pre kl fr σ Post rest (i+1) (rs++[(d,W)])) \/
     ∃ v W,Guard ops o (ctx ops pre kl fr i rs σ)/\OpPan P o (ctx ops pre kl fr i rs σ) (fr+8 * i) v W/\(∀ p,i < p->p < ops.size->i ∈ pre.getD p [])/\(∀ q ∈ rs,q.2=[])/\Post (.panic [pent v]) ((⟨fun _=>none,σ.H,σ.nm⟩:St).upd none .any W (fr+8 * i))
theorem AnyGoP.all {P:Program} {σ:St} {Post:Exit->St->Prop}:∀ (l:List Oper) (i:Nat) (rs:Rs),i=rs.length->(∀ (q:Nat) (d:D) (W:Wr),rs[q]?=some (d,W)->(W.all fun p=>keyIn kl fr q p.1)=true)->AnyGoP P ops pre kl fr σ Post l i rs->
    (∃ all:Rs,all.length=rs.length+l.length/\(∀ (q:Nat) (d:D) (W:Wr),all[q]?=some (d,W)->(W.all fun p=>keyIn kl fr q p.1)=true)/\(∀ q,q < rs.length->all[q]?=rs[q]?)/\Post .normal (stOf ops fr (fun _=>true) 0 all σ) /\
     ∀ (q:Nat) (o:Oper),l[q]?=some o->∃ d W,all[i+q]?=some (d,W)/\StepOk P ops o (ctx ops pre kl fr (i+q) (all.take (i+q)) σ) (fr+8 * (i+q)) d W) \/
    ∃ (all:Rs) (n:Nat) (o:Oper) (v:Value) (W:Wr),all.length=n/\i<=n/\l[n - i]?=some o/\(∀ (q:Nat) (d:D) (W:Wr),all[q]?=some (d,W)->(W.all fun p=>keyIn kl fr q p.1)=true)/\(∀ q,q < rs.length->all[q]?=rs[q]?) /\
     (∀ (q:Nat) (o:Oper),i+q < n->l[q]?=some o->∃ d W,all[i+q]?=some (d,W)/\StepOk P ops o (ctx ops pre kl fr (i+q) (all.take (i+q)) σ) (fr+8 * (i+q)) d W) /\
     Guard ops o (ctx ops pre kl fr n all σ)/\OpPan P o (ctx ops pre kl fr n all σ) (fr+8 * n) v W/\(∀ p,n < p->p < ops.size->n ∈ pre.getD p [])/\(∀ q ∈ all,q.2=[])/\Post (.panic [pent v]) ((⟨fun _=>none,σ.H,σ.nm⟩:St).upd none .any W (fr+8 * n))
 | [],i,rs,hi,hk,h=>.inl ⟨rs,by simp,hk,fun _ _=>rfl,h,fun q o h=>by simp at h⟩
 | o::rest,i,rs,hi,hk,h=>by
   rcases h with ⟨d,W,h1,h2,h3⟩ | ⟨v,W,h1,h2,h3,h4,h5⟩
   ·have hk':∀ (q:Nat) (d':D) (W':Wr),(rs++[(d,W)])[q]?=some (d',W')->(W'.all fun p=>keyIn kl fr q p.1)=true:=fun q d' W' hq=>by
     rcases Nat.lt_trichotomy q rs.length with hlt | heq | hgt
     ·rw [List.getElem?_append_left hlt] at hq;exact hk q d' W' hq
     ·subst heq
      simp at hq;obtain ⟨rfl,rfl⟩:=hq;rw [← hi];exact h2
     ·rw [List.getElem?_eq_none (by simp;omega)] at hq;cases hq
    have step0:∀ all:Rs,(∀ q,q < (rs++[(d,W)]).length->all[q]?=(rs++[(d,W)])[q]?)->∃ d W,all[i+0]?=some (d,W)/\StepOk P ops o (ctx ops pre kl fr (i+0) (all.take (i+0)) σ) (fr+8 * (i+0)) d W:=fun all a3=>by
     have hat:all[i]?=some (d,W):=by
      rw [a3 i (by simp [hi]),hi];simp
     have htake:all.take i=rs:=by
      apply List.ext_getElem?;intro q;rw [List.getElem?_take];by_cases hlt:q < i
      ·rw [if_pos hlt,a3 q (by simp;omega),List.getElem?_append_left (by omega)]
      ·rw [if_neg hlt,List.getElem?_eq_none (by omega)]
     refine ⟨d,W,hat,?_⟩;rw [Nat.add_zero,htake];exact h1
    rcases AnyGoP.all rest (i+1) (rs++[(d,W)]) (by simp [hi]) hk' h3 with ⟨all,a1,a2,a3,a4,a5⟩ | ⟨all,n,o',v,W',a1,a2,a3,a4,a5,a6,a7⟩
    ·refine .inl ⟨all,by rw [a1];simp;omega,a2,fun q hq=>by rw [a3 q (by simp;omega),List.getElem?_append_left hq],a4,fun q o' hq=>?_⟩
     cases q with
     | zero=>
       simp at hq;subst hq;exact step0 all a3
     | succ q=>
       obtain ⟨d',W',h4,h5⟩:=a5 q o' (by simpa using hq);rw [show i+1+q=i+(q+1) by omega] at h4 h5;exact ⟨d',W',h4,h5⟩
    ·refine .inr ⟨all,n,o',v,W',a1,by omega,?_,a4,fun q hq=>by rw [a5 q (by simp;omega),List.getElem?_append_left hq],fun q o'' hq hq'=>?_,a7⟩
     ·rw [show n - i=(n - (i+1))+1 by omega]
      simpa using a3
     ·cases q with
      | zero=>
        simp at hq';subst hq';exact step0 all a5
      | succ q=>
        obtain ⟨d',W'',h4,h5⟩:=a6 q o'' (by omega) (by simpa using hq');rw [show i+1+q=i+(q+1) by omega] at h4 h5;exact ⟨d',W'',h4,h5⟩
   ·refine .inr ⟨rs,i,o,v,W,hi.symm,Nat.le_refl _,by simp,hk,fun _ _=>rfl,fun q o' hq=>by omega,h1,h2,h3,h4,h5⟩
theorem stOf_nil {S:Nat->Bool}:∀ (rs:Rs) (j:Nat) (σ:St),(∀ q ∈ rs,q.2=[])->(stOf ops fr S j rs σ).H=σ.H
 | [],_,_,_=>rfl
 | (d,W)::rs,j,σ,h=>by
   have hW:W=[]:=h (d,W) (by simp);subst hW;unfold stOf;rw [stOf_nil rs (j+1) _ (fun q hq=>h q (by simp [hq]))];split <;> rfl
theorem run_anyP {P:Program} {E:Env} {σ:St} {all:Rs} {Q:Exit->Act->World->Prop} {m:Nat} (F:AnyFacts ops pre kl fr m) (hm:E.m=m) (h100:100<=fr) (hfree:∀ k,fr<=k->σ.nm k=false) {n:Nat} (hn:n < ops.size) (hlen:all.length=n)
    (hk:∀ (q:Nat) (d:D) (W:Wr),all[q]?=some (d,W)->(W.all fun p=>keyIn kl fr q p.1)=true)
    (hstep:∀ (q:Nat) (o:Oper),q < n->ops[q]?=some o->∃ d W,all[q]?=some (d,W)/\StepOk P ops o (ctx ops pre kl fr q (all.take q) σ) (fr+8 * q) d W)
    {o0:Oper} (ho0:ops[n]?=some o0) {pv:Value} {pW:Wr} (hgd:Guard ops o0 (ctx ops pre kl fr n all σ)) (hpan:OpPan P o0 (ctx ops pre kl fr n all σ) (fr+8 * n) pv pW) (hlater:∀ p,n < p->p < ops.size->n ∈ pre.getD p [])
    {a0:Act} (hQ:∀ (S:Nat->Bool) a' w',a'.defers=a0.defers->R E ((stOf ops fr S 0 all σ).upd none .any pW (fr+8 * n)) a'.tmps w'->Q (.panic [pent pv]) a' w'):
    ∀ (fuel:Nat) (listed:Array Bool) (a:Act) (w:World),Downs ops listed->(∀ j,On listed j->j < n)->unl ops.size listed<=fuel->a.defers=a0.defers->R E (stOf ops fr (fun j=>listed.getD j false) 0 all σ) a.tmps w->wpAny P .any ops Q fuel listed a w:=by
 intro fuel
 induction fuel with
 | zero=>
   intro listed a w hd hltn hf hdf hR;have:On listed n:=Classical.not_not.1 fun hno=>by
    have:=unl_pos hn ((not_on hd.sz hn).1 hno);omega
   exact absurd (hltn n this) (Nat.lt_irrefl _)
 | succ fuel ih=>
   intro listed a w hd hltn hf hdf hR;refine ⟨fun hr=>?_,fun i hi=>?_⟩
   ·exfalso
    obtain ⟨k,_,hk'⟩:=F.least hd n hn (fun h=>Nat.lt_irrefl _ (hltn n h));rw [hr] at hk';cases hk'
   ·obtain ⟨h0,o,ho,_⟩:=mem_ready.1 hi
    have hin:=(Array.getElem?_eq_some_iff.1 ho).1;have hni:¬ On listed i:=(not_on hd.sz hin).2 h0;have hdst:Region.dstOf ops i=o.dst:=by simp [Region.dstOf,ho]
    have hin':i<=n:=Nat.le_of_not_lt fun hlt=>Nat.lt_irrefl _ (hltn n (F.ready_pre hd hi (hlater i hlt hin)))
    have hpre:∀ j ∈ pre.getD i [],On listed j:=fun j hj=>F.ready_pre hd hi hj
    -- writers of what i may rely on
    have hap:∀ p,p < ops.size->apart pre i p=false->On listed p->p ∈ pre.getD i []:=fun p hp hap hon=>by
     have hpi:p≠i:=fun e=>hni (e ▸ hon)
     simp only [apart,Bool.and_eq_false_iff,bne_eq_false_iff_eq,Bool.not_eq_false',List.contains_iff_mem] at hap;rcases hap with (h | h) | h
     ·exact absurd h hpi
     ·exact h
     ·exact absurd (F.on_pre hd p i hon h) hni
    have hSpre:(fun j=>(pre.getD i []).contains j)=fun j=>(pre.getD i []).contains j:=rfl
    have htake:stOf ops fr (fun j=>(pre.getD i []).contains j) 0 (all.take i) σ=stOf ops fr (fun j=>(pre.getD i []).contains j) 0 all σ:=by
     have:=stOf_take (ops:=ops) (fr:=fr) (S:=fun j=>(pre.getD i []).contains j) (n:=i) (fun q hq=>by
      rw [Bool.eq_false_iff];intro hc;have:=(F.prior i o ho q (List.contains_iff_mem.1 hc)).1;omega) all 0 σ
     simpa using this
    have hsame:∀ p,p < ops.size->(apart pre i p=false)->listed.getD p false=(pre.getD i []).contains p:=fun p hp hq=>by
     rw [Bool.eq_iff_iff,List.contains_iff_mem];exact ⟨fun h=>hap p hp hq h,fun h=>hpre p h⟩
    have hT:∀ t d,(ctx ops pre kl fr i (all.take i) σ).T t=some d->(stOf ops fr (fun j=>listed.getD j false) 0 all σ).T t=some d:=fun t d' h=>by
     simp only [ctx] at h;split at h
     ·cases h
     ·rename_i hno
      rw [htake] at h;rw [← h];refine stOf_T all 0 σ σ rfl (fun q hq hqd=>?_);rw [Nat.zero_add] at hqd ⊢;refine hsame q (by omega) ?_;rw [Bool.eq_false_iff];intro hap';exact hno (List.any_eq_true.2 ⟨q,List.mem_range.2 (by omega),by simp [hap',hqd]⟩)
    have hH:∀ k o',(ctx ops pre kl fr i (all.take i) σ).H k=some o'->(stOf ops fr (fun j=>listed.getD j false) 0 all σ).H k=some o':=fun k o' h=>by
     simp only [ctx] at h;split at h
     ·cases h
     ·rename_i hno
      rw [htake] at h;rw [← h];refine stOf_H (kl:=kl) all 0 σ σ rfl (fun q d' W' hq=>by rw [Nat.zero_add];exact hk q d' W' hq) (fun q hq hqk=>?_);rw [Nat.zero_add] at hqk ⊢;refine hsame q (by omega) ?_;rw [Bool.eq_false_iff];intro hap';exact hno (List.any_eq_true.2 ⟨q,List.mem_range.2 (by omega),by simp [hap',hqk]⟩)
    have hnm:∀ k,fr+8 * i<=k->k < fr+8 * i+8->(stOf ops fr (fun j=>listed.getD j false) 0 all σ).nm k=false:=fun k h1 h2=>by
     refine stOf_nm all 0 σ k (hfree k (by omega)) (fun q hq hS h=>?_);rw [Nat.zero_add] at hS h;have:q=i:=by omega
     subst this;exact hni hS
    rcases Nat.lt_or_eq_of_le hin' with hlt | heq
    ·obtain ⟨d,W,hat,hs⟩:=hstep i o hlt ho
     have hins:stOf ops fr (fun j=>(listed.setIfInBounds i true).getD j false) 0 all σ=(stOf ops fr (fun j=>listed.getD j false) 0 all σ).upd o.dst d W (fr+8 * i):=by
      rw [← hdst];refine stOf_insert (kl:=kl) (i:=i) (by simpa [On] using hni) (by simp [hd.sz,hin]) (fun j hj=>getD_set_ne false (fun e=>hj e.symm)) all 0 σ (Nat.zero_le _) d W (by simpa using hat) (fun q d' W' hq=>by rw [Nat.zero_add];exact hk q d' W' hq) (fun p hp1 hp2 hS=>?_);refine F.clash i p hp1 (by omega) (fun hip=>hni (F.on_pre hd p i hS hip))
     have hop:=hs.run hT hH (by omega) hnm (fun t ht=>by rw [hm];exact F.dst i o ho t ht) hR (wpAny P .any ops Q fuel (listed.setIfInBounds i true)) Q (fun a' w' hd' hR'=>by
      refine ih (listed.setIfInBounds i true) a' w' (hd.set hi) (fun j hj=>?_) ?_ (hd'.trans hdf) (by rw [hins];exact hR')
      ·by_cases e:j=i
       ·omega
       ·refine hltn j ?_
        unfold On at hj ⊢;rw [getD_set_ne false (fun h=>e h.symm)] at hj;exact hj
      ·have:=unl_set hin h0
       omega)
     unfold wpOp;simp only [ho];exact hop
    ·subst heq
     rw [ho0] at ho;cases ho;have htk:all.take i=all:=by rw [← hlen];exact List.take_length
     rw [htk] at hT hH;obtain ⟨ν,G,I⟩:=id hR;unfold wpOp;simp only [ho0];rw [hgd.wanted hT I,if_pos rfl];refine .inl (upon_mono2 (fun _ _ h=>h.elim) (fun e a' w' h=>?_) (hpan E _ a w hT hH (by omega) hnm hR));obtain ⟨rfl,he,hR'⟩:=h;exact hQ _ a' w' (he.trans hdf) hR'
end
section
variable {P:Program} {E:Env} {Q:Exit->St->Prop}
theorem aw_drawn {id:Nat} {l:List Oper} {T:Nat->Option D} {H:Nat->Option AObj} {N M:Nat} (pre kl:List (List Nat)) (hmix:P.follows .mixedOrders=true) (hE:E.m=M) (hN:100<=N) (hB:anyOk l.toArray pre kl N M=true)
    (h:AnyGo P l.toArray pre kl N (mk T H N) (fun σ'=>Q .normal (mk σ'.T σ'.H (N+8 * l.length))) l 0 []):AWp P E (.region id l.toArray true) Q (mk T H N):=by
 intro a w hd hR;have F:=anyOk_facts hB;obtain ⟨all,a1,a2,_,a4,a5⟩:=AnyGo.all l 0 [] rfl (fun q d W hq=>by simp at hq) h;have hlen:all.length=l.toArray.size:=by rw [a1];simp
 have hbd:∀ k,N+8 * l.length<=k->(stOf l.toArray N (fun _=>true) 0 all (mk T H N)).nm k=false:=fun k hk=>by
  refine stOf_nm all 0 _ k (by simp;omega) (fun q hq _ h=>?_);rw [a1] at hq;simp at hq;omega
 refine wp_region_any hmix (run_any (a0:=a) (σ:=mk T H N) F hE hN (fun k hk=>by simp;exact hk) hlen a2 (fun q o ho=>?_) (fun a' w' hd' hR'=>⟨hd'.trans hd,_,a4,hR'.bound hbd⟩) l.toArray.size _ a _ ⟨by simp,fun i o hon=>?_⟩ (unl_new _) rfl ?_)
 ·obtain ⟨d,W,h1,h2⟩:=a5 q o (by simpa using ho)
  rw [Nat.zero_add] at h1 h2;exact ⟨d,W,h1,h2⟩
 ·exfalso
  unfold On at hon;simp [Array.getD] at hon
 ·have:stOf l.toArray N (fun j=>(Array.replicate l.toArray.size false).getD j false) 0 all (mk T H N)=mk T H N:=by
   have gen:∀ (rs:Rs) (j:Nat) (σ:St),stOf l.toArray N (fun j=>(Array.replicate l.toArray.size false).getD j false) j rs σ=σ:=by
    intro rs
    induction rs with
    | nil=>intro j σ;rfl
    | cons r rs ih=>
      intro j σ;unfold stOf;have:(Array.replicate l.toArray.size false).getD j false=false:=by simp [Array.getD]
      rw [this];exact ih _ _
   exact gen all 0 _
  rw [this];obtain ⟨ν,G,I⟩:=hR;exact ⟨ν,G,I.aft ((Aft.refl w).drew) (fun _ _=>rfl)⟩
theorem aw_drawnP {id:Nat} {l:List Oper} {T:Nat->Option D} {H:Nat->Option AObj} {N M:Nat} (pre kl:List (List Nat)) (hmix:P.follows .mixedOrders=true) (hE:E.m=M) (hN:100<=N) (hB:anyOk l.toArray pre kl N M=true)
    (h:AnyGoP P l.toArray pre kl N (mk T H N) (fun e σ'=>Q e (mk σ'.T σ'.H (N+8 * l.length))) l 0 []):AWp P E (.region id l.toArray true) Q (mk T H N):=by
 have F:=anyOk_facts hB;rcases AnyGoP.all l 0 [] rfl (fun q d W hq=>by simp at hq) h with ⟨all,a1,a2,_,a4,a5⟩ | ⟨all,n,o,v,W,a1,_,a3,a4,_,a6,a7,a8,a9,a10,a11⟩
 ·refine aw_drawn pre kl hmix hE hN hB ?_
  have go:∀ (l':List Oper) (i:Nat),(∀ (q:Nat),l'[q]?=l[i+q]?)->all.length=i+l'.length->AnyGo P l.toArray pre kl N (mk T H N) (fun σ'=>Q .normal (mk σ'.T σ'.H (N+8 * l.length))) l' i (all.take i):=by
   intro l'
   induction l' with
   | nil=>
     intro i _ hl;have:all.take i=all:=by rw [show i=all.length by simpa using hl.symm];exact List.take_length
     show Q .normal _;rw [this];exact a4
   | cons o' rest ih=>
     intro i hq hl;obtain ⟨d,W,h1,h2⟩:=a5 i o' (by have:=hq 0;simpa using this.symm);rw [Nat.zero_add] at h1 h2;refine ⟨d,W,h2,a2 i d W h1,?_⟩;have:=ih (i+1) (fun q=>by have:=hq (q+1);rw [List.getElem?_cons_succ] at this;rw [this];congr 1;omega) (by simp at hl;omega);rw [List.take_add_one,h1] at this;exact this
  have:=go l 0 (fun q=>by rw [Nat.zero_add]) (by rw [a1];simp);simpa using this
 ·intro a w hd hR
  have hn:n < l.toArray.size:=by have:=(List.getElem?_eq_some_iff.1 a3).1;simpa using this
  refine wp_region_any hmix (run_anyP (a0:=a) (σ:=mk T H N) F hE hN (fun k hk=>by simp;exact hk) hn a1 a4 (fun q o' hq ho=>?_) (o0:=o) (by simpa using a3) a7 a8 a9 (fun S a' w' hd' hR'=>⟨hd'.trans hd,_,a11,?gS⟩) l.toArray.size _ a _ ⟨by simp,fun i o hon=>?gA⟩ (fun j hon=>?gB) (unl_new _) rfl ?gC)
  ·obtain ⟨d,W,h1,h2⟩:=a6 q o' (by omega) (by simpa using ho)
   rw [Nat.zero_add] at h1 h2;exact ⟨d,W,h1,h2⟩
  case gS=>
   have hbd:∀ k,N+8 * l.length<=k->((stOf l.toArray N S 0 all (mk T H N)).upd none .any W (N+8 * n)).nm k=false:=fun k hk=>by
    have hn':n < l.length:=by simpa using hn
    have h1:=stOf_nm (ops:=l.toArray) (fr:=N) (S:=S) all 0 (mk T H N) k (by simp;omega) (fun q hq _ h=>by omega);simp only [St.upd,h1,Bool.false_or];rw [Bool.eq_false_iff];simp only [ne_eq,Bool.and_eq_true,decide_eq_true_eq];omega
   have hR2:=hR'.bound hbd;obtain ⟨ν,G,I⟩:=hR2;refine ⟨ν,G,{ I with T:=fun t d h=>?_,H:=fun k o h=>?_,dis:=fun k o k' o' h h'=>?_ }⟩
   ·simp [St.upd] at h
   ·exact I.H k o (by simp only [St.upd,stOf_nil all 0 _ a10];exact h)
   ·exact I.dis k o k' o' (by simp only [St.upd,stOf_nil all 0 _ a10];exact h) (by simp only [St.upd,stOf_nil all 0 _ a10];exact h')
  case gA=>
   exfalso;unfold On at hon;simp [Array.getD] at hon
  case gB=>
   exfalso;unfold On at hon;simp [Array.getD] at hon
  case gC=>
   have:stOf l.toArray N (fun j=>(Array.replicate l.toArray.size false).getD j false) 0 all (mk T H N)=mk T H N:=by
    have gen:∀ (rs:Rs) (j:Nat) (σ:St),stOf l.toArray N (fun j=>(Array.replicate l.toArray.size false).getD j false) j rs σ=σ:=by
     intro rs
     induction rs with
     | nil=>intro j σ;rfl
     | cons r rs ih=>
       intro j σ;unfold stOf;have:(Array.replicate l.toArray.size false).getD j false=false:=by simp [Array.getD]
       rw [this];exact ih _ _
    exact gen all 0 _
   rw [this];obtain ⟨ν,G,I⟩:=hR;exact ⟨ν,G,I.aft ((Aft.refl w).drew) (fun _ _=>rfl)⟩
end
def RsOk (kl:List (List Nat)) (fr:Nat) (rs:Rs):Prop:=∀ (q:Nat) (d:D) (W:Wr),rs[q]?=some (d,W)->(W.all fun x=>keyIn kl fr q x.1)=true
theorem RsOk.nil {kl:List (List Nat)} {fr:Nat}:RsOk kl fr []:=fun q d W h=>by simp at h
structure RsI (kl:List (List Nat)) (fr:Nat) (rs:Rs) (i:Nat):Prop where
 ok:RsOk kl fr rs
 len:rs.length=i
section
variable {P:Program} {E:Env} {Q:Exit->St->Prop} {ops:Array Oper} {pre kl:List (List Nat)} {fr:Nat} {σ:St} {Post:St->Prop} {o:Oper} {rest:List Oper} {i:Nat} {rr:Rs}
end
end Go.Ab
