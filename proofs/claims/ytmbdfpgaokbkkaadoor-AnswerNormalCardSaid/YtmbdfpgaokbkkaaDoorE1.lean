/- The abstract machine: ground laws, states, contracts. Conditions are in the theorems. -/
import Derived.WalkKit
import Derived.WalkSpells
import Derived.WalkLawsBesides
import Derived.BigQuiet
import Derived.Deep.QuietTactic
import Derived.Laws.AppendOwnNone
import Derived.Maps.AppendAt
import Derived.Test.YtmbdfpgaokbkkaaDoorProg
import Derived.Lib.LaidTab
import Derived.Lib.ItoaNum
import Derived.Scope
import Derived.IntWalk
/- Small laws for the walks of this seat, over any program: worlds that come after a world, slices that read as lists, a region that draws its order and whose callees may make memory. -/
namespace Go
open Go.RowKit
theorem hid {p:Prop} (h:p):Hid p:=h
def Aft (w w':World):Prop:=Below w.heap.size w w'
theorem Aft.refl (w:World):Aft w w:=Below.refl _ _
theorem Aft.trans {a b c:World} (h:Aft a b) (k:Aft b c):Aft a c:=Below.trans h (Below.mono k h.size)
theorem Aft.drew {a w:World} (h:Aft a w):Aft a w.drew:=Below.drew h
theorem Aft.drewN {a w:World} (h:Aft a w) (n:Nat):Aft a (w.drewN n):=⟨h.os,h.tape,h.output,h.size,h.block⟩
theorem Aft.alloc {a w:World} (h:Aft a w) (o:Obj):Aft a (w.alloc o):=Below.alloc h h.size o
theorem Aft.setCell {a w:World} (h:Aft a w) {p:Addr} (hp:a.heap.size<=p.block) (u:Value):Aft a (w.setCell p u):=Below.setCell h hp u
theorem Aft.cell {a w:World} (h:Aft a w) {b o:Nat} (hb:b < a.heap.size):w.cell? ⟨b,o,none⟩=a.cell? ⟨b,o,none⟩:=Below.cell (p:=⟨b,o,none⟩) h hb
def Lat (w:World):Type:={ W:World // Aft w W }
instance Lat.some (w:World):Nonempty (Lat w):=⟨⟨w,Aft.refl w⟩⟩
def Lat.W {w:World} (x:Lat w):World:=x.1
theorem Lat.aft {w:World} (x:Lat w):Aft w x.W:=x.2
@[go_sem] theorem Lat.cell {w:World} (x:Lat w) {b o:Nat} (hb:b < w.heap.size):x.W.cell? ⟨b,o,none⟩=w.cell? ⟨b,o,none⟩:=x.2.cell hb
section
variable {P:Program}
end
def Rd (w:World) (a:Option Addr) (cs:List Value):Prop:=∀ j v,cs[j]?=some v->∃ ad,a=some ad/\w.cell? (ad.add j)=some v
def i64s (l:List Int):List Value:=l.map (Value.int .i64)
def okI (l:List Int):Prop:=∀ x ∈ l,-9223372036854775808<=x/\x<=9223372036854775807
theorem cell_spot {w:World} {b off s:Nat} {v:Value} (h:w.cell? ⟨b,off,some s⟩=some v):False:=by
 unfold World.cell? at h;split at h <;> simp at h
theorem Rd.get {w:World} {a:Option Addr} {cs:List Value} (h:Rd w a cs) {i:Nat} {v:Value} (hi:cs[i]?=some v):
    ∃ b off,a=some ⟨b,off,none⟩/\w.cell? ⟨b,off+i,none⟩=some v/\b < w.heap.size:=by
 obtain ⟨⟨b,off,spot⟩,rfl,hc⟩:=h i v hi;have hlt:i < cs.length:=(List.getElem?_eq_some_iff.1 hi).1;cases spot with
 | some s=>
   exfalso;obtain ⟨ad,e,hc'⟩:=h 0 cs[0] (by simp);simp only [Option.some.injEq] at e;subst e;exact cell_spot hc'
 | none=>
   have hc':w.cell? ⟨b,off+i,none⟩=some v:=by
    unfold Addr.add at hc;by_cases h0:i=0
    ·simpa [h0] using hc
    ·simpa [h0] using hc
   exact ⟨b,off,rfl,hc',World.block_lt_of_cell? w _ hc'⟩
theorem Rd.aft {w w':World} {a:Option Addr} {cs:List Value} (h:Rd w a cs) (hw:Aft w w'):Rd w' a cs:=fun j v hj=>by
 obtain ⟨b,off,e,hc,hb⟩:=h.get hj;obtain ⟨ad,e',hc'⟩:=h j v hj;refine ⟨ad,e',?_⟩;have:ad.add j=⟨b,off+j,none⟩:=by
  rw [e] at e';simp only [Option.some.injEq] at e';subst e';unfold Addr.add;by_cases h0:j=0 <;> simp [h0]
 rw [this] at hc' ⊢;rw [hw.cell hb];exact hc'
theorem Rd.int {w:World} {a:Option Addr} {l:List Int} (h:Rd w a (i64s l)) (ok:okI l) {i:Nat} (hi:i < l.length):
    ∃ b off x,a=some ⟨b,off,none⟩/\w.cell? ⟨b,off+i,none⟩=some (.int .i64 x)/\b < w.heap.size/\Hid (l[i]?=some x) /\ -9223372036854775808<=x/\x<=9223372036854775807:=by
 obtain ⟨b,off,e,hc,hb⟩:=h.get (i:=i) (v:=.int .i64 l[i]) (by simp [i64s,hi]);exact ⟨b,off,l[i],e,hc,hb,by unfold Hid;simp [hi],ok _ (by simp)⟩
end Go
namespace Go
open Go.RowKit
def pcells (p:Int×Int):List Value:=[.int .i64 p.1,.int .i64 p.2]
def prs (l:List (Int×Int)):List Value:=l.flatMap pcells
def okP (l:List (Int×Int)):Prop:=∀ p ∈ l,(-9223372036854775808<=p.1/\p.1<=9223372036854775807)/\(-9223372036854775808<=p.2/\p.2<=9223372036854775807)
def pr (p:Int×Int):Value:=.agg #[.int .i64 p.1,.int .i64 p.2]
theorem Rd.nil {w:World} {a:Option Addr}:Rd w a []:=fun j v hj=>by simp at hj
theorem Rd.none_nil {w:World} {cs:List Value} (h:Rd w none cs):cs=[]:=by
 cases cs with
 | nil=>rfl
 | cons u l=>obtain ⟨ad,e,_⟩:=h 0 u rfl;cases e
theorem Rd.new {w:World} {cs:Array Value} {e:TypeId}:Rd (w.alloc (.cells cs e)) (some ⟨w.heap.size,0,none⟩) cs.toList:=fun j v hj=>by
 refine ⟨_,rfl,?_⟩;have hh:(w.alloc (.cells cs e)).heap[w.heap.size]?=some (.cells cs e):=heap_alloc_new w _;have h0:((⟨w.heap.size,0,none⟩:Addr).add j)=⟨w.heap.size,j,none⟩:=by
  unfold Addr.add;by_cases hj0:j=0 <;> simp [hj0]
 rw [h0];simp only [World.cell?,hh];simpa using hj
end Go
namespace Go
open Go.RowKit
structure IntsAt (w:World) (a:Option Addr) (n c:Nat) (l:List Int):Prop where
 len:n=l.length
 rd:Rd w a (i64s l)
 ok:okI l
 cap:n<=c
 nil:a=none->c=0
 size:n * 8<=140737488351232
def Ints (w:World) (v:Value) (l:List Int):Prop:=∃ a c,v = .slice a l.length c/\IntsAt w a l.length c l
structure PrsAt (w:World) (a:Option Addr) (n c:Nat) (l:List (Int×Int)):Prop where
 len:n=l.length
 rd:Rd w a (prs l)
 ok:okP l
 cap:n<=c
 nil:a=none->c=0
 size:n * 16<=140737488351232
def Prs (w:World) (v:Value) (l:List (Int×Int)):Prop:=∃ a c,v = .slice a l.length c/\PrsAt w a l.length c l
theorem IntsAt.aft {w w':World} {a:Option Addr} {n c:Nat} {l:List Int} (h:IntsAt w a n c l) (hw:Aft w w'):IntsAt w' a n c l:={ h with rd:=h.rd.aft hw }
theorem PrsAt.aft {w w':World} {a:Option Addr} {n c:Nat} {l:List (Int×Int)} (h:PrsAt w a n c l) (hw:Aft w w'):PrsAt w' a n c l:={ h with rd:=h.rd.aft hw }
theorem Ints.aft {w w':World} {v:Value} {l:List Int} (h:Ints w v l) (hw:Aft w w'):Ints w' v l:=let ⟨a,c,e,h⟩:=h;⟨a,c,e,h.aft hw⟩
theorem Prs.aft {w w':World} {v:Value} {l:List (Int×Int)} (h:Prs w v l) (hw:Aft w w'):Prs w' v l:=let ⟨a,c,e,h⟩:=h;⟨a,c,e,h.aft hw⟩
end Go
namespace Go
open Go.RowKit
end Go
namespace Go
def Sep (v v':Value):Prop:=∀ k,v.ownBlock=some k->v'.ownBlock=some k->False
theorem Sep.symm {v v':Value} (h:Sep v v'):Sep v' v:=fun k a b=>h k b a
theorem Sep.kept {v v':Value} (h:Sep v v') {w w':World} {base:Nat} {e:TypeId} {size n:Nat} {xs:List Value} (ho:w.ownsRow base e size v n xs) (hg:w.grownBy w' v'.ownBlock):w'.ownsRow base e size v n xs:=by
 refine ho.kept hg ?_;cases hv:v.ownBlock with
 | none=>exact .inl rfl
 | some k=>exact .inr fun e=>h k hv e.symm
theorem Sep.nil (v:Value):Sep (.slice none 0 0) v:=fun k h=>by cases h
end Go
namespace Go
open Go.RowKit
end Go
/- A region that draws its order, walked as a flow of values: each operation gets a predicate on its value that lasts in later worlds, and is walked once, from its operands' predicates, in any later world. -/
namespace Go
open Go.RowKit
structure FV where
 p:Value->World->Prop
 st:∀ v W W',p v W->Aft W W'->p v W'
def FV.is (u:Value):FV:=⟨fun v _=>v=u,fun _ _ _ h _=>h⟩
def FV.pure (q:Value->Prop):FV:=⟨fun v _=>q v,fun _ _ _ h _=>h⟩
def flowV (Vs:List FV) (i:Nat) (v:Value) (W:World):Prop:=(Vs.getD i (FV.pure fun _=>True)).p v W
def Region.dstOf (ops:Array Oper) (j:Nat):Option Tmp:=(ops[j]?).bind (·.dst)
section
variable (P:Program) (ops:Array Oper) (Vs:List FV) (w0:World)
end
def Act.puts (vals:Nat->Value):List (Nat×Tmp)->Act->Act
 | [],a=>a
 | p::ps,a=>Act.puts vals ps (a.put (some p.2) (vals p.1))
theorem countP_lt' {α:Type} {p q:α->Bool} {i:α}:∀ (l:List α),i ∈ l->p i=true->q i=false->(∀ j,q j=true->p j=true)->l.countP q < l.countP p
 | [],h,_,_,_=>by cases h
 | b::l,h,hp,hq,hle=>by
   have hmono:l.countP q<=l.countP p:=List.countP_mono_left (fun j _=>hle j);rw [List.countP_cons,List.countP_cons];rcases List.mem_cons.1 h with rfl | h
   ·simp [hp,hq];omega
   ·have:=countP_lt' l h hp hq hle
    by_cases hb:q b=true
    ·simp [hb,hle b hb];omega
    ·simp [hb];split <;> omega
def unl (n:Nat) (listed:Array Bool):Nat:=(List.range n).countP fun i=>!listed.getD i true
theorem unl_set {n i:Nat} {listed:Array Bool} (hi:i < n) (h:listed.getD i true=false):unl n (listed.setIfInBounds i true) < unl n listed:=by
 have hlt:i < listed.size:=by
  rcases Nat.lt_or_ge i listed.size with h' | h'
  ·exact h'
  ·simp [Array.getElem?_eq_none h'] at h
 refine countP_lt' (i:=i) _ (List.mem_range.2 hi) (by simpa using h) (by simp [hlt]) (fun j hj=>?_);by_cases hij:i=j
 ·subst hij;simpa using h
 ·rw [getD_set_ne true hij] at hj;exact hj
theorem unl_pos {n i:Nat} {listed:Array Bool} (hi:i < n) (h:listed.getD i true=false):0 < unl n listed:=
 List.countP_pos_iff.2 ⟨i,List.mem_range.2 hi,by simpa using h⟩
theorem unl_new (n:Nat):unl n (Array.replicate n false)<=n:=by
 have:=List.countP_le_length (l:=List.range n) (p:=fun i=>!(Array.replicate n false).getD i true);simpa [unl] using this
structure FlowFacts (ops:Array Oper) (pre:Nat->List Nat) (all:List (Nat×Tmp)) (uses:Nat->List (Nat×Tmp)) (m:Nat):Prop where
 sel:Region.noSelect ops=true
 len:all.length<=ops.size
 back:∀ i o,ops[i]?=some o->∀ e ∈ o.after,Region.binds .any e=true->e.on < i
 prior:∀ i o,ops[i]?=some o->∀ j ∈ pre i,j < i/\∃ e ∈ o.after,Region.binds .any e=true/\(e.on=j\/j ∈ pre e.on)
 tgt:∀ k j d,all[k]?=some (j,d)->j=k/\d < m/\Region.dstOf ops k=some d/\∀ k' j' d',all[k']?=some (j',d')->k'≠k->d'≠d
 use:∀ i o,i < all.length->ops[i]?=some o->(∀ p ∈ uses i,p.1 ∈ pre i/\all[p.1]?=some p)/\∀ t ∈ o.looksAt ops,∀ p ∈ all,p.2=t->(p.1 ∈ pre i/\p ∈ uses i)\/i ∈ pre p.1
 tail:∀ i,all.length<=i->i < ops.size->∀ j,j < i->j ∈ pre i
def On (listed:Array Bool) (j:Nat):Prop:=listed.getD j false=true
theorem not_on {n:Nat} {listed:Array Bool} (hs:listed.size=n) {j:Nat} (hj:j < n):¬ On listed j ↔ listed.getD j true=false:=by
 unfold On;simp [hs,hj]
theorem on_set {listed:Array Bool} {i j:Nat} (h:On (listed.setIfInBounds i true) j):j=i\/On listed j:=by
 by_cases hij:i=j
 ·exact .inl hij.symm
 ·exact .inr (by unfold On at *;rw [getD_set_ne false hij] at h;exact h)
structure Downs (ops:Array Oper) (listed:Array Bool):Prop where
 sz:listed.size=ops.size
 down:∀ i o,On listed i->ops[i]?=some o->∀ e ∈ o.after,Region.binds .any e=true->On listed e.on
theorem On.lt {ops:Array Oper} {listed:Array Bool} (h:Downs ops listed) {j:Nat} (hj:On listed j):j < ops.size:=by
 unfold On at hj;rcases Nat.lt_or_ge j listed.size with h' | h'
 ·rw [← h.sz];exact h'
 ·simp [Array.getElem?_eq_none h'] at hj
theorem Downs.set {ops:Array Oper} {listed:Array Bool} (h:Downs ops listed) {i:Nat} (hr:i ∈ Region.ready .any ops listed):Downs ops (listed.setIfInBounds i true):=by
 refine ⟨by simpa using h.sz,fun k o hk ho e he hb=>?_⟩;obtain ⟨h0,o',ho',hall⟩:=mem_ready.1 hr;rcases on_set hk with rfl | hk
 ·rw [ho] at ho'
  cases ho';exact getD_set_true (hall e he hb)
 ·exact getD_set_true (h.down k o hk ho e he hb)
section
variable {ops:Array Oper} {pre:Nat->List Nat} {all:List (Nat×Tmp)} {uses:Nat->List (Nat×Tmp)} {m:Nat} {listed:Array Bool}
theorem FlowFacts.on_pre (F:FlowFacts ops pre all uses m) (h:Downs ops listed):∀ (i j:Nat),On listed i->j ∈ pre i->On listed j:=by
 intro i
 induction i using Nat.strongRecOn with
 | _ i ih=>
   intro j hi hj;have hlt:=On.lt h hi;have ho:ops[i]?=some ops[i]:=by simp [hlt]
   obtain ⟨_,e,he,hb,hc⟩:=F.prior i _ ho j hj;have hon:=h.down i _ hi ho e he hb;rcases hc with hc | hc
   ·exact hc ▸ hon
   ·exact ih e.on (F.back i _ ho e he hb) j hon hc
theorem FlowFacts.ready_pre (F:FlowFacts ops pre all uses m) (h:Downs ops listed) {i j:Nat} (hr:i ∈ Region.ready .any ops listed) (hj:j ∈ pre i):On listed j:=by
 obtain ⟨h0,o,ho,hall⟩:=mem_ready.1 hr;obtain ⟨_,e,he,hb,hc⟩:=F.prior i o ho j hj;rcases hc with hc | hc
 ·exact hc ▸ hall e he hb
 ·exact F.on_pre h e.on j (hall e he hb) hc
theorem FlowFacts.least (F:FlowFacts ops pre all uses m) (h:Downs ops listed):∀ i,i < ops.size->¬ On listed i->∃ k,k<=i/\k ∈ Region.ready .any ops listed:=by
 intro i
 induction i using Nat.strongRecOn with
 | _ i ih=>
   intro hlt hi;by_cases hex:∃ j,j < i/\¬ On listed j
   ·obtain ⟨j,hj,hn⟩:=hex
    obtain ⟨k,hk,hr⟩:=ih j hj (by omega) hn;exact ⟨k,by omega,hr⟩
   ·have ho:ops[i]?=some ops[i]:=by simp [hlt]
    refine ⟨i,Nat.le_refl _,mem_ready.2 ⟨(not_on h.sz hlt).1 hi,_,ho,fun e he hb=>?_⟩⟩;have:=F.back i _ ho e he hb;exact Classical.not_not.1 fun hn=>hex ⟨e.on,this,hn⟩
end
structure FlowInv (ops:Array Oper) (all:List (Nat×Tmp)) (Vs:List FV) (w0:World) (a:Act) (listed:Array Bool) (a':Act) (W:World) (vals:Nat->Value):Prop where
 notail:∀ i,all.length<=i->¬ On listed i
 df:a'.defers=a.defers
 ts:a'.tmps.size=a.tmps.size
 val:∀ p ∈ all,On listed p.1->a'.tmps[p.2]?=some (vals p.1)
 v:∀ p ∈ all,On listed p.1->flowV Vs p.1 (vals p.1) W
 oth:∀ d,(∀ p ∈ all,On listed p.1->p.2≠d)->a'.tmps[d]?=a.tmps[d]?
 aft:Aft w0 W
section
variable {ops:Array Oper} {pre:Nat->List Nat} {all:List (Nat×Tmp)} {uses:Nat->List (Nat×Tmp)} {listed:Array Bool} {P:Program} {Q:Exit->Act->World->Prop} {Vs:List FV} {w0:World} {a:Act}
theorem FlowFacts.same (F:FlowFacts ops pre all uses a.tmps.size) {p q:Nat×Tmp} (hp:p ∈ all) (hq:q ∈ all) (h:p.2=q.2):p=q:=by
 obtain ⟨k,hk⟩:=List.mem_iff_getElem?.1 hp;obtain ⟨k',hk'⟩:=List.mem_iff_getElem?.1 hq;obtain ⟨h1,h2,h3,h4⟩:=F.tgt k p.1 p.2 hk;by_cases hkk:k'=k
 ·subst hkk;rw [hk] at hk';cases hk';rfl
 ·exact absurd h.symm (h4 k' q.1 q.2 hk' hkk)
end
end Go
/- What a seat knows of its package variables for good. -/
namespace Go.Ab
def globV:Nat->Option (List Value):=fun _=>none
def tabPr (w : World) : Prop := Lib.TabIs Go.Proofs.Tryd.prog w "internal/strconv.uint64pow10" .u64 Lib.pow10Tab ∧ (∀ g vs, globV g = some vs → ∀ i u, vs[i]? = some u → w.cell? ⟨g, i, none⟩ = some u) ∧ (∃ te pe, w.cell? ⟨0, 0, none⟩ = some (.iface te pe)) ∧ ∃ te pe, w.cell? ⟨1, 0, none⟩ = some (.iface te pe)
def tabG (G:Nat->Nat):Prop:=∀ g vs,globV g=some vs->vs.length<=G g
theorem tab_cell {w:World} (h:tabPr w) {g:Nat} {vs:List Value} (hg:globV g=some vs) {i:Nat} {u:Value} (hu:vs[i]?=some u):w.cell? ⟨g,i,none⟩=some u:=h.2.1 g vs hg i u hu
theorem globV_one {g:Nat} {vs:List Value} (h:globV g=some vs) {u:Value} (hu:u ∈ vs):u.oneCell'=true:=by
 have:∀ vs,globV g=some vs->vs.all (·.oneCell')=true:=by
  intro vs h;cases h
 exact List.all_eq_true.1 (this vs h) u hu
end Go.Ab
/- The abstract machine: data that a walk carries, what a world holds of them, and the states of a walk. -/
namespace Go.Ab
open Go.RowKit
inductive Tree where
 | v (x:Value)
 | sl (n:Nat) (ts:List Tree)
abbrev Lim:=Nat->Nat
def Cell (w:World) (G:Lim) (b i:Nat) (u:Value):Prop:=w.cell? ⟨b,i,none⟩=some u/\i < G b
inductive TR (w:World) (G:Lim):Value->Tree->Prop
 | v (x:Value) (h:x.oneCell'=true):TR w G x (.v x)
 | nil {a:Option Addr} {c:Nat} (h:a=none->c=0):TR w G (.slice a 0 c) (.sl 0 [])
 | sl (b o n c:Nat) (us:List Value) (ts:List Tree) (hl:us.length=ts.length) (hc:∀ (i:Nat) (u:Value),us[i]?=some u->Cell w G b (o+i) u)
     (hn:n<=c) (h:∀ (i:Nat) (u:Value) (t:Tree),us[i]?=some u->ts[i]?=some t->TR w G u t):TR w G (.slice (some ⟨b,o,none⟩) n c) (.sl n ts)
theorem TR.mono {w w':World} {G G':Lim} (hx:∀ b i u,Cell w G b i u->Cell w' G' b i u) {v:Value} {t:Tree} (h:TR w G v t):TR w' G' v t:=by
 induction h with
 | v x h=>exact .v x h
 | nil h=>exact .nil h
 | sl b o n c us ts hl hc hn h ih=>exact .sl b o n c us ts hl (fun i u hi=>hx _ _ _ (hc i u hi)) hn ih
theorem TR.one {w:World} {G:Lim} {v:Value} {t:Tree} (h:TR w G v t):v.oneCell'=true:=by
 cases h with
 | v x h=>exact h
 | nil h=>rfl
 | sl b o n c us ts hl hc hn h=>rfl
inductive D where
 | t (x:Tree)
 | agg (ds:List D)
 | tup (ds:List D)
 | own (k:Nat)
 | ref (k off:Nat)
 | ptr (ts:List Tree) (off:Nat)
 | fn (f:FuncId) (caps:List D)
 | any
 | sub (k i:Nat)
 | sref (k i j:Nat)
 | vw (k off n:Nat)
 | via (k:Nat) (r:Value->Value->Prop)
def blk:Value->Option Nat
 | .pointer (some a)=>some a.block
 | .slice (some a) _ _=>some a.block
 | .map (some g)=>some g
 | _=>none
inductive DR (ν:Nat->Value) (nm:Nat->Bool) (w:World) (G:Lim):Value->D->Prop
 | t {v:Value} {x:Tree} (h:TR w G v x):DR ν nm w G v (.t x)
 | agg {vs:Array Value} {ds:List D} (hl:vs.size=ds.length) (h:∀ (i:Nat) (u:Value) (d:D),vs[i]?=some u->ds[i]?=some d->DR ν nm w G u d) (h1:∀ u ∈ vs.toList,u.oneCell'=true):DR ν nm w G (.agg vs) (.agg ds)
 | tup {vs:Array Value} {ds:List D} (hl:vs.size=ds.length) (h:∀ (i:Nat) (u:Value) (d:D),vs[i]?=some u->ds[i]?=some d->DR ν nm w G u d):DR ν nm w G (.tuple vs) (.tup ds)
 | own {k:Nat} (hk:nm k=true) (h1:(ν k).oneCell'=true):DR ν nm w G (ν k) (.own k)
 | ref {k off g:Nat} (hk:nm k=true) (hg:blk (ν k)=some g):DR ν nm w G (.pointer (some ⟨g,off,none⟩)) (.ref k off)
 | ptr {b o off:Nat} {us:List Value} {ts:List Tree} (hl:us.length=ts.length) (hc:∀ (i:Nat) (u:Value),us[i]?=some u->Cell w G b (o+i) u) (h:∀ (i:Nat) (u:Value) (t:Tree),us[i]?=some u->ts[i]?=some t->TR w G u t):
     DR ν nm w G (.pointer (some ⟨b,o+off,none⟩)) (.ptr ts off)
 | fn {f:FuncId} {vs:Array Value} {ds:List D} (hl:vs.size=ds.length) (h:∀ (i:Nat) (u:Value) (d:D),vs[i]?=some u->ds[i]?=some d->DR ν nm w G u d):DR ν nm w G (.func (.func f) #[] vs) (.fn f ds)
 | any {v:Value}:DR ν nm w G v .any
 | sub {k i g:Nat} {v:Value} (hk:nm k=true) (hg:blk (ν k)=some g) (hc:Cell w G g i v) (h1:v.oneCell'=true):DR ν nm w G v (.sub k i)
 | sref {k i j g g' n c:Nat} (hk:nm k=true) (hg:blk (ν k)=some g) (hc:Cell w G g i (.slice (some ⟨g',0,none⟩) n c)):DR ν nm w G (.pointer (some ⟨g',j,none⟩)) (.sref k i j)
 | vw {k off n o c g:Nat} (hk:nm k=true) (hg:blk (ν k)=some g) (ho:0 < n->o=off) (hn:n<=c) (hp:off=0->∃ N,ν k = .slice (some ⟨g,o,none⟩) N c):DR ν nm w G (.slice (some ⟨g,o,none⟩) n c) (.vw k off n)
 | vw0 {k off c:Nat} (hk:nm k=true) (hc:c=0) (hz:ν k = .slice none 0 0):DR ν nm w G (.slice none 0 c) (.vw k off 0)
 | via {k:Nat} {r:Value->Value->Prop} {v:Value} (hk:nm k=true) (h:r (ν k) v) (h1:v.oneCell'=true):DR ν nm w G v (.via k r)
theorem DR.mono {ν ν':Nat->Value} {nm nm':Nat->Bool} {w w':World} {G G':Lim} (hn:∀ k,nm k=true->nm' k=true/\ν' k=ν k) (hx:∀ b i u,Cell w G b i u->Cell w' G' b i u) {v:Value} {d:D} (h:DR ν nm w G v d):DR ν' nm' w' G' v d:=by
 induction h with
 | t h=>exact .t (h.mono hx)
 | agg hl h h1 ih=>exact .agg hl ih h1
 | tup hl h ih=>exact .tup hl ih
 | own hk h1=>rw [← (hn _ hk).2] at h1 ⊢;exact .own (hn _ hk).1 h1
 | ref hk hg=>exact .ref (hn _ hk).1 (by rw [(hn _ hk).2];exact hg)
 | ptr hl hc h=>exact .ptr hl (fun i u hi=>hx _ _ _ (hc i u hi)) (fun i u t hu ht=>(h i u t hu ht).mono hx)
 | fn hl h ih=>exact .fn hl ih
 | any=>exact .any
 | sub hk hg hc h1=>exact .sub (hn _ hk).1 (by rw [(hn _ hk).2];exact hg) (hx _ _ _ hc) h1
 | sref hk hg hc=>exact .sref (hn _ hk).1 (by rw [(hn _ hk).2];exact hg) (hx _ _ _ hc)
 | vw hk hg ho hn' hp=>exact .vw (hn _ hk).1 (by rw [(hn _ hk).2];exact hg) ho hn' (by rw [(hn _ hk).2];exact hp)
 | vw0 hk hc hz=>exact .vw0 (hn _ hk).1 hc (by rw [(hn _ hk).2];exact hz)
 | via hk h h1=>exact .via (hn _ hk).1 (by rw [(hn _ hk).2];exact h) h1
def D.one:D->Bool
 | .agg _ | .tup _ | .any=>false
 | _=>true
theorem DR.oneCell {ν:Nat->Value} {nm:Nat->Bool} {w:World} {G:Lim} {v:Value} {d:D} (h:DR ν nm w G v d) (ho:d.one=true):v.oneCell'=true:=by
 cases h with
 | t h=>exact h.one
 | own hk h1=>exact h1
 | agg=>cases ho
 | tup=>cases ho
 | any=>cases ho
 | ref=>rfl
 | ptr=>rfl
 | fn=>rfl
 | sub hk hg hc h1=>exact h1
 | sref=>rfl
 | vw=>rfl
 | vw0=>rfl
 | via _ _ h1=>exact h1
inductive NC where
 | dat (d:D)
 | inn (n:Nat) (ts:List Tree)
inductive AObj where
 | box (e:TypeId) (ds:List D)
 | row (e:TypeId) (s n:Nat) (ts:List Tree) (st:Bool)
 | nest (e e':TypeId) (s:Nat) (ls:List (Nat×List Tree))
 | mp (l:List (Value×D))
 | nst (e e':TypeId) (m s n:Nat) (cs:List NC)
 | it (s:ByteArray) (pos:Nat)
def foot (w:World) (v:Value):AObj->Nat->Prop
 | .nest _ _ _ ls,g=>blk v=some g\/∃ (g0 i:Nat) (x:Value),blk v=some g0/\i < ls.length/\w.cell? ⟨g0,i,none⟩=some x/\blk x=some g
 | .box ..,g=>blk v=some g
 | .row ..,g=>blk v=some g
 | .mp ..,g=>blk v=some g
 | .it ..,g=>blk v=some g
 | .nst _ _ _ _ _ cs,g=>blk v=some g\/∃ (g0 i:Nat) (x:Value) (q:Nat) (ts:List Tree),blk v=some g0/\cs[i]?=some (.inn q ts)/\w.cell? ⟨g0,i,none⟩=some x/\blk x=some g
theorem foot_blk {w:World} {v:Value} {o:AObj} {g:Nat} (h:blk v=some g):foot w v o g:=by cases o <;> first | exact .inl h | exact h
theorem foot_of {w w':World} {v:Value} {o:AObj} (h:∀ g,blk v=some g->w'.heap[g]?=w.heap[g]?) {g:Nat}:foot w' v o g ↔ foot w v o g:=by
 cases o with
 | box=>exact Iff.rfl
 | row=>exact Iff.rfl
 | mp=>exact Iff.rfl
 | it=>exact Iff.rfl
 | nst e e' m s n cs=>
   have hc:∀ g0 i,blk v=some g0->w'.cell? ⟨g0,i,none⟩=w.cell? ⟨g0,i,none⟩:=fun g0 i h0=>World.cell?_of_block (a:=⟨g0,i,none⟩) (h g0 h0)
   constructor
   ·rintro (h1 | ⟨g0,i,x,q,ts,h1,h2,h3,h4⟩)
    ·exact .inl h1
    ·exact .inr ⟨g0,i,x,q,ts,h1,h2,by rw [← hc g0 i h1];exact h3,h4⟩
   ·rintro (h1 | ⟨g0,i,x,q,ts,h1,h2,h3,h4⟩)
    ·exact .inl h1
    ·exact .inr ⟨g0,i,x,q,ts,h1,h2,by rw [hc g0 i h1];exact h3,h4⟩
 | nest e e' s ls=>
   have hc:∀ g0 i,blk v=some g0->w'.cell? ⟨g0,i,none⟩=w.cell? ⟨g0,i,none⟩:=fun g0 i h0=>World.cell?_of_block (a:=⟨g0,i,none⟩) (h g0 h0)
   constructor
   ·rintro (h1 | ⟨g0,i,x,h1,h2,h3,h4⟩)
    ·exact .inl h1
    ·exact .inr ⟨g0,i,x,h1,h2,by rw [← hc g0 i h1];exact h3,h4⟩
   ·rintro (h1 | ⟨g0,i,x,h1,h2,h3,h4⟩)
    ·exact .inl h1
    ·exact .inr ⟨g0,i,x,h1,h2,by rw [hc g0 i h1];exact h3,h4⟩
def Tab (w:World) (X:Nat->Prop):Prop:=∀ w':World,w.heap.size<=w'.heap.size->(∀ b,b < w.heap.size->¬ X b->w'.heap[b]?=w.heap[b]?)->tabPr w'
theorem Tab.keep {w0 w:World} {X X':Nat->Prop} (h:Tab w0 X) (hs:w0.heap.size<=w.heap.size) (hb:∀ b,b < w0.heap.size->¬ X b->w.heap[b]?=w0.heap[b]?) (hX:∀ b,X' b->w0.heap.size<=b\/X b):Tab w X':=fun w' h1 h2=>
 h w' (Nat.le_trans hs h1) fun b b1 b2=>(h2 b (Nat.lt_of_lt_of_le b1 hs) fun hx=>(hX b hx).elim (fun h=>absurd b1 (Nat.not_lt.2 h)) b2).trans (hb b b1 b2)
structure Env where
 m:Nat
 w0:World
 G0:Lim
 X:Nat->Prop
 ν0:Nat->Value
 tab:Tab w0 X
 tg:tabG G0
 ds:List Deferred
def Env.may (E:Env) (g:Nat):Prop:=E.w0.heap.size<=g\/E.X g
structure St where
 T:Nat->Option D
 H:Nat->Option AObj
 nm:Nat->Bool
def Stm (es:Array MapEntry) (clock:Nat):Prop:=(∀ x ∈ es.toList,x.born < clock)/\(es.toList.map (·.born)).Nodup
def ObjOk (E:Env) (ν:Nat->Value) (nm:Nat->Bool) (w:World) (G:Lim) (k:Nat):AObj->Prop
 | .box e ds=>∃ g cur,ν k = .pointer (some ⟨g,0,none⟩)/\E.may g/\w.heap[g]?=some (.cells cur e (0,0))/\G g=0/\cur.size=ds.length /\
     (∀ (i:Nat) (u:Value) (d:D),cur[i]?=some u->ds[i]?=some d->DR ν nm w G u d/\u.oneCell'=true)
 | .row e s n ts st=>∃ xs,w.ownsRow 0 e s (ν k) n xs/\xs.length=ts.length/\(∀ (i:Nat) (u:Value) (t:Tree),xs[i]?=some u->ts[i]?=some t->TR w G u t) /\
     ∀ g,blk (ν k)=some g->E.may g/\G g=if st then n * s else 0
 | .nest e e' s ls=>∃ xs,w.ownsRow 0 e 1 (ν k) ls.length xs /\
     (∀ (i:Nat) (x:Value) (p:Nat×List Tree),xs[i]?=some x->ls[i]?=some p->∃ ys,w.ownsRow 0 e' s x p.1 ys/\ys.length=p.2.length/\(∀ (i:Nat) (u:Value) (t:Tree),ys[i]?=some u->p.2[i]?=some t->TR w G u t)/\∀ g,blk x=some g->E.may g/\G g=0) /\
     (∀ (i j:Nat) (x y:Value),i≠j->xs[i]?=some x->xs[j]?=some y->∀ g,blk x=some g->blk y≠some g)/\(∀ (i:Nat) (x:Value),xs[i]?=some x->∀ g,blk x=some g->blk (ν k)≠some g) /\
     ∀ g,blk (ν k)=some g->E.may g/\G g=ls.length
 | .mp l=>∃ g es clock,ν k = .map (some g)/\E.may g/\w.heap[g]?=some (.map es clock)/\G g=0/\Stm es clock/\es.size=l.length /\
     ∀ (i:Nat) (en:MapEntry) (p:Value×D),es[i]?=some en->l[i]?=some p->en.key=p.1/\DR ν nm w G en.val p.2
 | .it s pos=>∃ g,ν k = .pointer (some ⟨g,0,none⟩)/\E.may g/\w.heap[g]?=some (.stringIter s pos)/\G g=0
 | .nst e e' m s n cs=>∃ xs,w.ownsRow 0 e m (ν k) n xs/\xs.length=cs.length /\
     (∀ (i:Nat) (x:Value) (d:D),xs[i]?=some x->cs[i]?=some (.dat d)->DR ν nm w G x d/\x.oneCell'=true) /\
     (∀ (i:Nat) (x:Value) (q:Nat) (ts:List Tree),xs[i]?=some x->cs[i]?=some (.inn q ts)->∃ ys,w.ownsRow 0 e' s x q ys/\ys.length=ts.length/\(∀ (i:Nat) (u:Value) (t:Tree),ys[i]?=some u->ts[i]?=some t->TR w G u t)/\∀ g,blk x=some g->E.may g/\G g=0) /\
     (∀ (i j:Nat) (x y:Value) (q q':Nat) (ts ts':List Tree),i≠j->xs[i]?=some x->xs[j]?=some y->cs[i]?=some (.inn q ts)->cs[j]?=some (.inn q' ts')->∀ g,blk x=some g->blk y≠some g)/\(∀ (i:Nat) (x:Value) (q:Nat) (ts:List Tree),xs[i]?=some x->cs[i]?=some (.inn q ts)->∀ g,blk x=some g->blk (ν k)≠some g) /\
     ∀ g,blk (ν k)=some g->E.may g/\G g=0
structure Kept (E:Env) (w:World):Prop where
 os:w.os=E.w0.os
 tape:w.tape=E.w0.tape
 output:w.output=E.w0.output
 size:E.w0.heap.size<=w.heap.size
 block:∀ b,b < E.w0.heap.size->¬ E.X b->w.heap[b]?=E.w0.heap[b]?
structure Inv (E:Env) (σ:St) (ν:Nat->Value) (G:Lim) (w:World) (tm:Array Value):Prop where
 kept:Kept E w
 keep:∀ b i u,Cell E.w0 E.G0 b i u->Cell w G b i u
 pin:∀ k,50<=k->k < 100->ν k=E.ν0 k
 g0:∀ b,b < E.w0.heap.size->¬ E.X b->G b=E.G0 b
 sz:tm.size=E.m
 T:∀ t d,σ.T t=some d->∃ v,tm[t]?=some v/\DR ν σ.nm w G v d
 H:∀ k o,σ.H k=some o->σ.nm k=true/\ObjOk E ν σ.nm w G k o
 dis:∀ k o k' o',σ.H k=some o->σ.H k'=some o'->k≠k'->∀ g,foot w (ν k) o g->¬ foot w (ν k') o' g
def R (E:Env) (σ:St) (tm:Array Value) (w:World):Prop:=∃ ν G,Inv E σ ν G w tm
theorem Inv.tg {E:Env} {σ:St} {ν:Nat->Value} {G:Lim} {w:World} {tm:Array Value} (I:Inv E σ ν G w tm):tabG G:=fun g vs h=>by
 rcases Nat.eq_zero_or_pos vs.length with h0 | h0
 ·omega
 ·have hi:vs.length - 1 < vs.length:=by omega
  have hc:=tab_cell (E.tab E.w0 (Nat.le_refl _) fun _ _ _=>rfl) h (List.getElem?_eq_getElem hi);have:=(I.keep g (vs.length - 1) _ ⟨hc,by have:=E.tg g vs h;omega⟩).2;omega
theorem Inv.glob {E:Env} {σ:St} {ν:Nat->Value} {G:Lim} {w:World} {tm:Array Value} (I:Inv E σ ν G w tm) {g:Nat} {vs:List Value} (h:globV g=some vs) (i:Nat) (u:Value) (hu:vs[i]?=some u):Cell w G g i u:=
 I.keep g i u ⟨tab_cell (E.tab E.w0 (Nat.le_refl _) fun _ _ _=>rfl) h hu,Nat.lt_of_lt_of_le (List.getElem?_eq_some_iff.1 hu).1 (E.tg g vs h)⟩
theorem Kept.aft {E:Env} {w w':World} (h:Kept E w) (hA:Aft w w'):Kept E w':=
 ⟨hA.os.trans h.os,hA.tape.trans h.tape,hA.output.trans h.output,Nat.le_trans h.size hA.size,fun b hb hX=>(hA.block b (Nat.lt_of_lt_of_le hb h.size)).trans (h.block b hb hX)⟩
theorem Cell.lt {w:World} {G:Lim} {b i:Nat} {u:Value} (h:Cell w G b i u):b < w.heap.size:=World.block_lt_of_cell? w ⟨b,i,none⟩ h.1
theorem Cell.aft {w w':World} {G G':Lim} (hA:Aft w w') (hG:∀ b,b < w.heap.size->G' b=G b) {b i:Nat} {u:Value} (h:Cell w G b i u):Cell w' G' b i u:=
 ⟨(hA.cell h.lt).trans h.1,by rw [hG b h.lt];exact h.2⟩
theorem heap_lt {w:World} {g:Nat} {o:Obj} (h:w.heap[g]?=some o):g < w.heap.size:=(Array.getElem?_eq_some_iff.1 h).1
theorem blk_own {v:Value} {g:Nat}:v.ownBlock=some g->blk v=some g:=by
 intro h;unfold Value.ownBlock at h;split at h
 ·simpa [blk] using h
 ·cases h
theorem ownsRow_blk {w:World} {base:Nat} {e:TypeId} {s:Nat} {v:Value} {n:Nat} {xs:List Value} (h:w.ownsRow base e s v n xs):blk v=v.ownBlock:=by
 rcases h.2 with ⟨rfl,_⟩ | ⟨g,cap,cur,rfl,_⟩ <;> rfl
theorem ownsRow_one {w:World} {base:Nat} {e:TypeId} {s:Nat} {v:Value} {n:Nat} {xs:List Value} (h:w.ownsRow base e s v n xs):v.oneCell'=true:=by
 rcases h.2 with ⟨rfl,_⟩ | ⟨g,cap,cur,rfl,_⟩ <;> rfl
theorem row_cell {w:World} {e:TypeId} {v:Value} {m n:Nat} {xs:List Value} (h:w.ownsRow 0 e m v n xs) {g i:Nat} (hg:blk v=some g) (hi:i < xs.length):w.cell? ⟨g,i,none⟩=xs[i]?:=by
 rcases h.2 with ⟨rfl,h0⟩ | ⟨g0,cap,cur,hv,_,r2,_,_,_,r6⟩
 ·cases hg
 ·rw [hv] at hg
  cases hg;rw [h.1] at hi;rw [← r6,List.getElem?_take,if_pos (by omega)];simp [World.cell?,r2]
theorem ObjOk.mono {E:Env} {ν ν':Nat->Value} {nm nm':Nat->Bool} {w w':World} {G G':Lim} {k:Nat} {o:AObj} (hk:nm k=true) (hn:∀ k,nm k=true->nm' k=true/\ν' k=ν k)
    (hx:∀ b i u,Cell w G b i u->Cell w' G' b i u) (hb:∀ g,foot w (ν k) o g->w'.heap[g]?=w.heap[g]?/\G' g=G g) (h:ObjOk E ν nm w G k o):ObjOk E ν' nm' w' G' k o:=by
 have hxx:=hx;have mv:∀ {e:TypeId} {s n:Nat} {v:Value} {xs:List Value},(∀ g,blk v=some g->w'.heap[g]?=w.heap[g]?)->w.ownsRow 0 e s v n xs->w'.ownsRow 0 e s v n xs:=fun hv h1=>by
  refine ⟨h1.1,?_⟩;rcases h1.2 with h | ⟨g,cap,cur,hvv,r1,r2,r3⟩
  ·exact .inl h
  ·exact .inr ⟨g,cap,cur,hvv,r1,by rw [hv g (by rw [hvv];rfl)];exact r2,r3⟩
 cases o with
 | it s pos=>
   obtain ⟨g,h1,h2,h3,h4⟩:=h;obtain ⟨q1,q2⟩:=hb g (foot_blk (by rw [h1];rfl));exact ⟨g,by rw [(hn k hk).2];exact h1,h2,by rw [q1];exact h3,by rw [q2];exact h4⟩
 | mp l=>
   obtain ⟨g,es,clock,h1,h2,h3,h4,hs,h5,h6⟩:=h;obtain ⟨q1,q2⟩:=hb g (foot_blk (by rw [h1];rfl));exact ⟨g,es,clock,by rw [(hn k hk).2];exact h1,h2,by rw [q1];exact h3,by rw [q2];exact h4,hs,h5,fun i en p he hp=>⟨(h6 i en p he hp).1,(h6 i en p he hp).2.mono hn hx⟩⟩
 | nst e e' m s n cs=>
   obtain ⟨xs,h1,hl,hd,h2,h3,h4,h5⟩:=h;have hin:∀ (i:Nat) (x:Value) (q:Nat) (ts:List Tree),xs[i]?=some x->cs[i]?=some (.inn q ts)->∀ g,blk x=some g->foot w (ν k) (.nst e e' m s n cs) g:=fun i x q ts hx hc g hg=>by
    have hi:=(List.getElem?_eq_some_iff.1 hx).1;rcases h1.2 with ⟨_,h0⟩ | ⟨g0,cap,cur,hv,_⟩
    ·rw [h1.1,h0] at hi;omega
    ·refine .inr ⟨g0,i,x,q,ts,by rw [hv];rfl,hc,?_,hg⟩
     rw [row_cell h1 (by rw [hv];rfl) hi];exact hx
   refine ⟨xs,by rw [(hn k hk).2];exact mv (fun g hg=>(hb g (foot_blk hg)).1) h1,hl,fun i x d hx hc=>⟨(hd i x d hx hc).1.mono hn hxx,(hd i x d hx hc).2⟩,fun i x q ts hx hc=>?_,h3,fun i x q ts hx hc g hg=>by rw [(hn k hk).2];exact h4 i x q ts hx hc g hg,fun g hg=>?_⟩
   ·obtain ⟨ys,y1,y2,y3,y4⟩:=h2 i x q ts hx hc
    exact ⟨ys,mv (fun g hg=>(hb g (hin i x q ts hx hc g hg)).1) y1,y2,fun i u t hu ht=>(y3 i u t hu ht).mono ‹_›,fun g hg=>by rw [(hb g (hin i x q ts hx hc g hg)).2];exact y4 g hg⟩
   ·rw [(hn k hk).2] at hg
    rw [(hb g (foot_blk hg)).2];exact h5 g hg
 | nest e e' s ls=>
   obtain ⟨xs,h1,h2,h3,h4,h5⟩:=h;have hin:∀ (i:Nat) (x:Value),xs[i]?=some x->∀ g,blk x=some g->foot w (ν k) (.nest e e' s ls) g:=fun i x hx g hg=>by
    have hi:i < ls.length:=by have:=(List.getElem?_eq_some_iff.1 hx).1;rw [h1.1] at this;omega
    rcases h1.2 with ⟨_,h0⟩ | ⟨g0,cap,cur,hv,_,r2,_,_,_,r6⟩
    ·omega
    ·refine .inr ⟨g0,i,x,by rw [hv];rfl,hi,?_,hg⟩
     rw [← r6,List.getElem?_take,if_pos (by omega)] at hx;simp only [World.cell?,r2];simpa using hx
   refine ⟨xs,by rw [(hn k hk).2];exact mv (fun g hg=>(hb g (foot_blk hg)).1) h1,fun i x p hx hp=>?_,h3,fun i x hx g hg=>by rw [(hn k hk).2];exact h4 i x hx g hg,fun g hg=>?_⟩
   ·obtain ⟨ys,y1,y2,y3,y4⟩:=h2 i x p hx hp
    exact ⟨ys,mv (fun g hg=>(hb g (hin i x hx g hg)).1) y1,y2,fun i u t hu ht=>(y3 i u t hu ht).mono ‹_›,fun g hg=>by rw [(hb g (hin i x hx g hg)).2];exact y4 g hg⟩
   ·rw [(hn k hk).2] at hg
    rw [(hb g (foot_blk hg)).2];exact h5 g hg
 | box e ds=>
   obtain ⟨g,cur,h1,h2,h3,h4,h5,h6⟩:=h;obtain ⟨q1,q2⟩:=hb g (foot_blk (by rw [h1];rfl));exact ⟨g,cur,by rw [(hn k hk).2];exact h1,h2,by rw [q1];exact h3,by rw [q2];exact h4,h5,fun i u d hu hd=>⟨(h6 i u d hu hd).1.mono hn hx,(h6 i u d hu hd).2⟩⟩
 | row e s n ts st=>
   obtain ⟨xs,h1,h2,h3,h4⟩:=h;refine ⟨xs,?_,h2,fun i u t hu ht=>(h3 i u t hu ht).mono hx,fun g hg=>?_⟩
   ·rw [(hn k hk).2]
    refine ⟨h1.1,?_⟩;rcases h1.2 with h | ⟨g,cap,cur,hv,r1,r2,r3⟩
    ·exact .inl h
    ·exact .inr ⟨g,cap,cur,hv,r1,by rw [(hb g (foot_blk (by rw [hv];rfl))).1];exact r2,r3⟩
   ·rw [(hn k hk).2] at hg
    rw [(hb g (foot_blk hg)).2];exact h4 g hg
theorem ObjOk.blk_lt {E:Env} {ν:Nat->Value} {nm:Nat->Bool} {w:World} {G:Lim} {k:Nat} {o:AObj} (h:ObjOk E ν nm w G k o) {g:Nat} (hg:blk (ν k)=some g):g < w.heap.size:=by
 cases o with
 | box e ds=>
   obtain ⟨g',cur,h1,h2,h3,_⟩:=h;rw [h1] at hg;simp only [blk,Option.some.injEq] at hg;subst hg;exact heap_lt h3
 | row e s n ts st=>
   obtain ⟨xs,h1,_⟩:=h;exact (h1.lt g (by rw [← ownsRow_blk h1];exact hg)).2
 | nest e e' s ls=>
   obtain ⟨xs,h1,_⟩:=h;exact (h1.lt g (by rw [← ownsRow_blk h1];exact hg)).2
 | nst e e' m s n cs=>
   obtain ⟨xs,h1,_⟩:=h;exact (h1.lt g (by rw [← ownsRow_blk h1];exact hg)).2
 | it s pos=>
   obtain ⟨g',h1,h2,h3,_⟩:=h;rw [h1] at hg;simp only [blk,Option.some.injEq] at hg;subst hg;exact heap_lt h3
 | mp l=>
   obtain ⟨g',es,clock,h1,h2,h3,_⟩:=h;rw [h1] at hg;simp only [blk,Option.some.injEq] at hg;subst hg;exact heap_lt h3
theorem outer_cell {w:World} {e:TypeId} {v:Value} {n:Nat} {xs:List Value} (h:w.ownsRow 0 e 1 v n xs) {g i:Nat} (hg:blk v=some g) (hi:i < n):w.cell? ⟨g,i,none⟩=xs[i]?:=by
 rcases h.2 with ⟨rfl,h0⟩ | ⟨g0,cap,cur,hv,_,r2,_,_,_,r6⟩
 ·cases hg
 ·rw [hv] at hg
  cases hg;rw [← r6,List.getElem?_take,if_pos (by omega)];simp [World.cell?,r2]
theorem ObjOk.ft {E:Env} {ν:Nat->Value} {nm:Nat->Bool} {w:World} {G:Lim} {k:Nat} {o:AObj} (h:ObjOk E ν nm w G k o) {g:Nat} (hg:foot w (ν k) o g):g < w.heap.size/\E.may g:=by
 cases o with
 | box e ds=>obtain ⟨g',cur,h1,h2,h3,_⟩:=id h;have hg:blk (ν k)=some g:=hg;exact ⟨h.blk_lt hg,by rw [h1] at hg;cases hg;exact h2⟩
 | row e s n ts st=>obtain ⟨xs,h1,h2,h3,h4⟩:=id h;have hg:blk (ν k)=some g:=hg;exact ⟨h.blk_lt hg,(h4 g hg).1⟩
 | it s pos=>obtain ⟨g',h1,h2,h3,_⟩:=id h;have hg:blk (ν k)=some g:=hg;exact ⟨h.blk_lt hg,by rw [h1] at hg;cases hg;exact h2⟩
 | mp l=>obtain ⟨g',es,clock,h1,h2,h3,_⟩:=id h;have hg:blk (ν k)=some g:=hg;exact ⟨h.blk_lt hg,by rw [h1] at hg;cases hg;exact h2⟩
 | nst e e' m s n cs=>
   obtain ⟨xs,h1,hl,hd,h2,h3,h4,h5⟩:=id h;rcases hg with hg | ⟨g0,i,x,q,ts,q1,q2,q3,q4⟩
   ·exact ⟨h.blk_lt hg,(h5 g hg).1⟩
   ·have hi:i < xs.length:=by rw [hl];exact (List.getElem?_eq_some_iff.1 q2).1
    rw [row_cell h1 q1 hi] at q3;obtain ⟨ys,y1,_,_,y4⟩:=h2 i x q ts q3 q2;exact ⟨(y1.lt g (by rw [← ownsRow_blk y1];exact q4)).2,(y4 g q4).1⟩
 | nest e e' s ls=>
   obtain ⟨xs,h1,h2,h3,h4,h5⟩:=id h;rcases hg with hg | ⟨g0,i,x,q1,q2,q3,q4⟩
   ·exact ⟨h.blk_lt hg,(h5 g hg).1⟩
   ·rw [outer_cell h1 q1 q2] at q3
    obtain ⟨p,hp⟩:∃ p,ls[i]?=some p:=⟨_,List.getElem?_eq_getElem q2⟩
    obtain ⟨ys,y1,_,_,y4⟩:=h2 i x p q3 hp;exact ⟨(y1.lt g (by rw [← ownsRow_blk y1];exact q4)).2,(y4 g q4).1⟩
theorem Inv.aft {E:Env} {σ:St} {ν:Nat->Value} {G G':Lim} {w w':World} {tm:Array Value} (I:Inv E σ ν G w tm) (hA:Aft w w') (hG:∀ b,b < w.heap.size->G' b=G b):Inv E σ ν G' w' tm where
 kept:=I.kept.aft hA
 keep:=fun b i u h=>(I.keep b i u h).aft hA hG
 pin:=I.pin
 g0:=fun b hb hX=>(hG b (Nat.lt_of_lt_of_le hb I.kept.size)).trans (I.g0 b hb hX)
 sz:=I.sz
 T:=fun t d h=>let ⟨v,hv,hd⟩:=I.T t d h;⟨v,hv,hd.mono (fun _ h=>⟨h,rfl⟩) (fun _ _ _ hc=>hc.aft hA hG)⟩
 H:=fun k o h=>let ⟨h1,h2⟩:=I.H k o h;⟨h1,h2.mono h1 (fun _ h=>⟨h,rfl⟩) (fun _ _ _ hc=>hc.aft hA hG) (fun g hg=>⟨hA.block g (h2.ft hg).1,hG g (h2.ft hg).1⟩)⟩
 dis:=fun k o k' o' h h' hne g hg hg'=>by
  have q:=(I.H k o h).2;have q':=(I.H k' o' h').2;rw [foot_of (fun g hg=>hA.block g (q.blk_lt hg))] at hg;rw [foot_of (fun g hg=>hA.block g (q'.blk_lt hg))] at hg';exact I.dis k o k' o' h h' hne g hg hg'
def look {α:Type} (k:Nat):List (Nat×α)->Option α
 | []=>none
 | (k',x)::l=>if k'=k then some x else look k l
theorem look_mem {α:Type} {k:Nat} {x:α}:∀ {l:List (Nat×α)},look k l=some x->(k,x) ∈ l
 | [],h=>by cases h
 | p::l,h=>by
   unfold look at h;split at h
   ·rename_i hp;cases h;rw [← hp];exact List.mem_cons_self ..
   ·exact List.mem_cons_of_mem _ (look_mem h)
abbrev Wr:=List (Nat×Option AObj)
def St.upd (σ:St) (dst:Option Tmp) (d:D) (W:Wr) (fr:Nat):St:=
 ⟨fun t=>if dst=some t then some d else σ.T t,fun k=>match look k W with | some r=>r | none=>σ.H k,fun k=>σ.nm k||(decide (fr<=k)&&decide (k < fr+8))⟩
theorem Inv.put {E:Env} {σ:St} {ν:Nat->Value} {G:Lim} {w:World} {tm:Array Value} (I:Inv E σ ν G w tm) {dst:Option Tmp} {v:Value} {d:D} (hd:DR ν σ.nm w G v d) (ht:∀ t,dst=some t->t < E.m) (fr:Nat) (a:Act) (ha:a.tmps=tm):
    Inv E (σ.upd dst d [] fr) ν G w (a.put dst v).tmps where
 kept:=I.kept
 keep:=I.keep
 pin:=I.pin
 g0:=I.g0
 sz:=by cases dst <;> simp [Act.put,ha,I.sz]
 T:=fun t d' h=>by
  simp only [St.upd] at h;split at h
  ·rename_i he
   cases h;subst he;refine ⟨v,?_,hd.mono (fun k hk=>⟨by simp [St.upd,hk],rfl⟩) (fun _ _ _ hc=>hc)⟩;have:=ht t rfl;simp [Act.put,ha,I.sz,this]
  ·rename_i he
   obtain ⟨u,hu,hdu⟩:=I.T t d' h;refine ⟨u,?_,hdu.mono (fun k hk=>⟨by simp [St.upd,hk],rfl⟩) (fun _ _ _ hc=>hc)⟩;cases dst with
   | none=>simpa [Act.put,ha] using hu
   | some t'=>
     have hne:t'≠t:=fun e=>he (by rw [e])
     simp only [Act.put,ha];rw [Array.getElem?_setIfInBounds_ne hne];exact hu
 H:=fun k o h=>by
  obtain ⟨h1,h2⟩:=I.H k o (by simpa [St.upd,look] using h);exact ⟨by simp [St.upd,h1],h2.mono h1 (fun k hk=>⟨by simp [St.upd,hk],rfl⟩) (fun _ _ _ hc=>hc) (fun _ _=>⟨rfl,rfl⟩)⟩
 dis:=fun k o k' o' h h'=>I.dis k o k' o' (by simpa [St.upd,look] using h) (by simpa [St.upd,look] using h')
end Go.Ab
/- The abstract machine: one operation, statements in a row, and the rules of the code. -/
namespace Go.Ab
open Go.RowKit
def constOk:Value->Bool
 | .agg cs=>cs.toList.all (·.oneCell')
 | .tuple _=>false
 | _=>true
def ofVal:Value->D
 | .agg cs=>.agg (cs.toList.map fun c=>.t (.v c))
 | v=>.t (.v v)
theorem ofVal_rel {ν:Nat->Value} {nm:Nat->Bool} {w:World} {G:Lim} {v:Value} (h:constOk v=true):DR ν nm w G v (ofVal v):=by
 cases v with
 | agg cs=>
   have h1:∀ c ∈ cs.toList,c.oneCell'=true:=List.all_eq_true.1 h
   refine .agg (by simp) (fun i u d hu hd=>?_) h1;simp only [List.getElem?_map,Array.getElem?_toList,hu,Option.map_some,Option.some.injEq] at hd;subst hd;exact .t (.v u (h1 u (by rw [List.mem_iff_getElem?];exact ⟨i,by simpa using hu⟩)))
 | tuple vs=>cases h
 | _=>exact .t (.v _ rfl)
def globD (g:Nat):D:=match globV g with
 | some vs=>.ptr (vs.map .v) 0
 | none=>.t (.v (.pointer (some ⟨g,0,none⟩)))
def St.ev (σ:St):Operand->Option D
 | .tmp t=>σ.T t
 | .const v=>if constOk v then some (ofVal v) else none
 | .func f=>some (.fn f [])
 | .global g=>some (globD g)
theorem Inv.ev {E:Env} {σ:St} {ν:Nat->Value} {G:Lim} {w:World} {a:Act} (I:Inv E σ ν G w a.tmps) {x:Operand} {d:D} (h:σ.ev x=some d):DR ν σ.nm w G (a.eval x) d:=by
 cases x with
 | tmp t=>
   obtain ⟨v,hv,hd⟩:=I.T t d h;have he:a.eval (.tmp t)=v:=by simp [Act.eval,Array.getD_eq_getD_getElem?,hv]
   rw [he];exact hd
 | const v=>
   simp only [St.ev] at h;split at h
   ·rename_i hc;cases h;exact ofVal_rel hc
   ·cases h
 | func f=>cases h;exact .fn (by simp) (fun i u d hu=>by simp at hu)
 | global g=>
   cases h;show DR ν σ.nm w G (.pointer (some ⟨g,0,none⟩)) (globD g);unfold globD;split
   ·rename_i vs hvs
    have:=DR.ptr (ν:=ν) (nm:=σ.nm) (w:=w) (G:=G) (b:=g) (o:=0) (off:=0) (us:=vs) (ts:=vs.map .v) (by simp) (fun i u hu=>by rw [Nat.zero_add];exact I.glob hvs i u hu) (fun i u t hu ht=>by
     rw [List.getElem?_map,hu] at ht;cases ht;exact .v u (globV_one hvs (List.mem_iff_getElem?.2 ⟨i,hu⟩)))
    exact this
   ·exact .t (.v _ rfl)
def OpOk (P:Program) (o:Oper) (σ:St) (fr:Nat) (d:D) (W:Wr):Prop:=
 ∀ (E:Env) (σ₁:St) (a:Act) (w:World),(∀ t d,σ.T t=some d->σ₁.T t=some d)->(∀ k o,σ.H k=some o->σ₁.H k=some o)->100<=fr->(∀ k,fr<=k->k < fr+8->σ₁.nm k=false)->
  (∀ t,o.dst=some t->t < E.m)->R E σ₁ a.tmps w->∀ Q,o.wp P a w (fun a' w'=>a'.defers=a.defers/\R E (σ₁.upd o.dst d W fr) a'.tmps w') Q
theorem St.ev_le {σ σ₁:St} (hT:∀ t d,σ.T t=some d->σ₁.T t=some d) {x:Operand} {d:D} (h:σ.ev x=some d):σ₁.ev x=some d:=by
 cases x with
 | tmp t=>exact hT t d h
 | _=>exact h
theorem put_defers (a:Act) (dst:Option Tmp) (v:Value):(a.put dst v).defers=a.defers:=by cases dst <;> rfl
theorem ok_pure {P:Program} {o:Oper} {σ:St} {fr:Nat} {d:D}
    (h:∀ (E:Env) (σ₁:St) (ν:Nat->Value) (G:Lim) (w:World) (a:Act),(∀ k o,σ.H k=some o->σ₁.H k=some o)->Inv E σ₁ ν G w a.tmps->(∀ x d,σ.ev x=some d->DR ν σ₁.nm w G (a.eval x) d)->
     ∃ v,(execOp a.eval o).run P w = .ok (.value v) w/\DR ν σ₁.nm w G v d):OpOk P o σ fr d []:=by
 intro E σ₁ a w hT hH _ _ hd hR Q;obtain ⟨ν,G,I⟩:=hR;obtain ⟨v,hr,hv⟩:=h E σ₁ ν G w a hH I (fun x d hx=>I.ev (St.ev_le hT hx));unfold Oper.wp;rw [hr,Oper.upon_value];exact ⟨put_defers ..,ν,G,I.put hv hd fr a rfl⟩
def OpN (P:Program) (o:Oper) (σ:St) (fr:Nat) {ι:Type} (C:ι->Prop) (d:ι->D) (W:ι->Wr):Prop:=
 ∀ (E:Env) (σ₁:St) (a:Act) (w:World),(∀ t d,σ.T t=some d->σ₁.T t=some d)->(∀ k o,σ.H k=some o->σ₁.H k=some o)->100<=fr->(∀ k,fr<=k->k < fr+8->σ₁.nm k=false)->
  (∀ t,o.dst=some t->t < E.m)->R E σ₁ a.tmps w->∀ Q,o.wp P a w (fun a' w'=>a'.defers=a.defers/\∃ i,C i/\R E (σ₁.upd o.dst (d i) (W i) fr) a'.tmps w') Q
theorem OpOk.n {P:Program} {o:Oper} {σ:St} {fr:Nat} {d:D} {W:Wr} (h:OpOk P o σ fr d W):OpN P o σ fr (fun _:Unit=>True) (fun _=>d) (fun _=>W):=fun E σ₁ a w h1 h2 h3 h4 h5 h6 Q=>Oper.wp_mono (fun _ _ h=>⟨h.1,(),trivial,h.2⟩) (h E σ₁ a w h1 h2 h3 h4 h5 h6 Q)
def Guard (ops:Array Oper) (o:Oper) (σ:St):Prop:=
 o.guard=none\/∃ j want t,o.guard=some (j,want)/\((ops[j]?).bind (·.dst))=some t/\σ.T t=some (.t (.v (.bool want)))
def Off (ops:Array Oper) (o:Oper) (σ:St):Prop:=
 ∃ j want t d,o.guard=some (j,want)/\((ops[j]?).bind (·.dst))=some t/\σ.T t=some d/\(d = .tup []\/d = .t (.v (.bool (!want))))
def StepOk (P:Program) (ops:Array Oper) (o:Oper) (σ:St) (fr:Nat) (d:D) (W:Wr):Prop:=
 (Guard ops o σ/\OpOk P o σ fr d W)\/(Off ops o σ/\d = .tup []/\W=[])
theorem undef_rel {ν:Nat->Value} {nm:Nat->Bool} {w:World} {G:Lim}:DR ν nm w G undef (.tup []):=.tup (by rfl) (fun i u d hu=>by simp at hu)
theorem bool_of {ν:Nat->Value} {nm:Nat->Bool} {w:World} {G:Lim} {v x:Value} (h:DR ν nm w G v (.t (.v x))):v=x:=by
 cases h with | t h=>cases h with | v=>rfl
theorem tup_of {ν:Nat->Value} {nm:Nat->Bool} {w:World} {G:Lim} {v:Value} (h:DR ν nm w G v (.tup [])):v=undef:=by
 cases h with
 | tup hl h=>
   rename_i vs;have:vs = #[]:=by simpa using hl
   rw [this];rfl
theorem Guard.wanted {ops:Array Oper} {o:Oper} {σ σ₁:St} {E:Env} {ν:Nat->Value} {G:Lim} {w:World} {a:Act} (h:Guard ops o σ) (hT:∀ t d,σ.T t=some d->σ₁.T t=some d) (I:Inv E σ₁ ν G w a.tmps):
    Region.wanted o (yielded ops a.tmps)=true:=by
 rcases h with h | ⟨j,want,t,h1,h2,h3⟩
 ·simp [Region.wanted,h]
 ·obtain ⟨v,hv,hd⟩:=I.T t _ (hT t _ h3)
  have:=bool_of hd;subst this;simp [Region.wanted,h1,yielded,h2,hv]
theorem Off.wanted {ops:Array Oper} {o:Oper} {σ σ₁:St} {E:Env} {ν:Nat->Value} {G:Lim} {w:World} {a:Act} (h:Off ops o σ) (hT:∀ t d,σ.T t=some d->σ₁.T t=some d) (I:Inv E σ₁ ν G w a.tmps):
    Region.wanted o (yielded ops a.tmps)=false:=by
 obtain ⟨j,want,t,d,h1,h2,h3,h4⟩:=h;obtain ⟨v,hv,hd⟩:=I.T t _ (hT t _ h3);rcases h4 with rfl | rfl
 ·have:=tup_of hd
  subst this;simp [Region.wanted,h1,yielded,h2,hv,undef]
 ·have:=bool_of hd
  subst this;simp [Region.wanted,h1,yielded,h2,hv]
theorem StepOk.run {P:Program} {ops:Array Oper} {o:Oper} {σ σ₁:St} {fr:Nat} {d:D} {W:Wr} (h:StepOk P ops o σ fr d W) {E:Env} {a:Act} {w:World} (hT:∀ t d,σ.T t=some d->σ₁.T t=some d) (hH:∀ k o,σ.H k=some o->σ₁.H k=some o)
    (h100:100<=fr) (hf:∀ k,fr<=k->k < fr+8->σ₁.nm k=false) (hd:∀ t,o.dst=some t->t < E.m) (hR:R E σ₁ a.tmps w) (K:Act->World->Prop) (Q:Exit->Act->World->Prop)
    (hK:∀ a' w',a'.defers=a.defers->R E (σ₁.upd o.dst d W fr) a'.tmps w'->K a' w'):
    if Region.wanted o (yielded ops a.tmps) then o.wp P a w K Q\/(o.asks P a w/\LetsOut Q) else K (a.put o.dst undef) w:=by
 have hR':=hR;obtain ⟨ν,G,I⟩:=hR';rcases h with ⟨hg,hop⟩ | ⟨ho,rfl,rfl⟩
 ·rw [hg.wanted hT I,if_pos rfl]
  exact .inl (Oper.wp_mono (fun a' w' h=>hK a' w' h.1 h.2) (hop E σ₁ a w hT hH h100 hf hd hR Q))
 ·rw [ho.wanted hT I,if_neg (by simp)]
  exact hK _ _ (put_defers ..) ⟨ν,G,I.put undef_rel hd fr a rfl⟩
abbrev pent (v:Value):PanicEntry:={ v:=v,recovered:=false }
def OpPan (P:Program) (o:Oper) (σ:St) (fr:Nat) (v:Value) (W:Wr):Prop:=
 ∀ (E:Env) (σ₁:St) (a:Act) (w:World),(∀ t d,σ.T t=some d->σ₁.T t=some d)->(∀ k o,σ.H k=some o->σ₁.H k=some o)->100<=fr->(∀ k,fr<=k->k < fr+8->σ₁.nm k=false)->
  R E σ₁ a.tmps w->o.wp P a w (fun _ _=>False) (fun e a' w'=>e = .panic [pent v]/\a'.defers=a.defers/\R E (σ₁.upd none .any W fr) a'.tmps w')
theorem upon_mono2 {P:Program} {o:Oper} {a:Act} {K K':Act->World->Prop} {Q Q':Exit->Act->World->Prop} (h:∀ a w,K a w->K' a w) (hq:∀ e a w,Q e a w->Q' e a w) {w:World}
    (hh:o.wp P a w K Q):o.wp P a w K' Q':=by
 have lo:LetsOut Q->LetsOut Q':=fun ⟨a,w,h⟩=>⟨a,w,hq _ _ _ h⟩
 unfold Oper.wp at *
 generalize (execOp a.eval o).run P w=r at *
 cases r with
 | ok n w'=>
   cases n <;> simp only [Oper.upon] at hh ⊢ <;>
    first
     | exact h _ _ hh
     | exact Calls.mono hh (fun e w'' he=>by cases e <;> first | exact h _ _ he | exact hq _ _ _ he | exact lo he)
     | exact Rows.mono hh (fun _ _ he=>h _ _ he)
 | halt x w'=>cases x <;> simp only [Oper.upon] at hh ⊢ <;> first | exact hq _ _ _ hh | exact hh
def SeqGo (P:Program) (ops:Array Oper) (Post:Exit->St->Prop):List Oper->Nat->St->Prop
 | [],_,σ=>Post .normal σ
 | o::rest,fr,σ=>(∃ d W,StepOk P ops o σ fr d W/\SeqGo P ops Post rest (fr+8) (σ.upd o.dst d W fr)) \/
     (∃ (ι:Type) (C:ι->Prop) (d:ι->D) (W:ι->Wr),o.guard=none/\OpN P o σ fr C d W/\∀ i,C i->SeqGo P ops Post rest (fr+8) (σ.upd o.dst (d i) (W i) fr)) \/
     ∃ v W,Guard ops o σ/\OpPan P o σ fr v W/\Post (.panic [pent v]) (σ.upd none .any W fr)
abbrev mk (T:Nat->Option D) (H:Nat->Option AObj) (N:Nat):St:=⟨T,H,fun k=>decide (k < N)⟩
theorem R.bound {E:Env} {σ:St} {tm:Array Value} {w:World} {N:Nat} (h:R E σ tm w) (hf:∀ k,N<=k->σ.nm k=false):R E (mk σ.T σ.H N) tm w:=by
 obtain ⟨ν,G,I⟩:=h;have hn:∀ k,σ.nm k=true->decide (k < N)=true/\ν k=ν k:=by
  intro k hk;rcases Nat.lt_or_ge k N with h | h
  ·exact ⟨decide_eq_true h,rfl⟩
  ·rw [hf k h] at hk
   cases hk
 exact ⟨ν,G,I.kept,I.keep,I.pin,I.g0,I.sz,fun t d h=>let ⟨v,hv,hd⟩:=I.T t d h;⟨v,hv,hd.mono hn (fun _ _ _ h=>h)⟩,
  fun k o h=>let ⟨h1,h2⟩:=I.H k o h;⟨(hn k h1).1,h2.mono h1 hn (fun _ _ _ h=>h) (fun _ _=>⟨rfl,rfl⟩)⟩,I.dis⟩
def St.free (σ:St) (N:Nat):Prop:=100<=N/\∀ k,N<=k->σ.nm k=false
theorem mk_free {T:Nat->Option D} {H:Nat->Option AObj} {N:Nat} (h:100<=N):(mk T H N).free N:=⟨h,fun k hk=>by simp;exact hk⟩
theorem St.free_upd {σ:St} {N:Nat} (h:σ.free N) (dst:Option Tmp) (d:D) (W:Wr):(σ.upd dst d W N).free (N+8):=⟨by have:=h.1;omega,fun k hk=>by
 simp [St.upd,h.2 k (by omega)];omega⟩
theorem SeqGo.run {P:Program} {ops:Array Oper} {Post:Exit->St->Prop} {E:Env} {Q:Exit->Act->World->Prop}:∀ (l:List Oper) (fr:Nat) (σ:St) (a:Act) (w:World),(∀ o ∈ l,∀ t,o.dst=some t->t < E.m)->σ.free fr->SeqGo P ops Post l fr σ->R E σ a.tmps w->
    (∀ e σ' a' w',Post e σ'->σ'.free (fr+8 * l.length)->a'.defers=a.defers->R E σ' a'.tmps w'->Q e a' w')->wpList P ops Q l a w
 | [],fr,σ,a,w,_,hf,h,hR,hQ=>hQ .normal σ a w h hf rfl hR
 | o::rest,fr,σ,a,w,hd,hf,h,hR,hQ=>by
   unfold wpList;rcases h with ⟨d,W,hs,hr⟩ | ⟨ι,C,d,W,hg,hs,hr⟩ | ⟨v,W,hg,hs,hp⟩
   case inr.inl=>
    rw [if_pos (by simp [Region.wanted,hg])];refine .inl (Oper.wp_mono (fun a' w' h=>?_) (hs E σ a w (fun _ _ h=>h) (fun _ _ h=>h) hf.1 (fun k hk _=>hf.2 k hk) (hd o (by simp)) hR Q));obtain ⟨he,i,hi,hR'⟩:=h;exact SeqGo.run rest (fr+8) _ a' w' (fun o ho=>hd o (by simp [ho])) (St.free_upd hf _ _ _) (hr i hi) hR' (fun e σ' a'' w'' hp hf' he' hR''=>hQ e σ' a'' w'' hp (by rw [List.length_cons,show fr+8 * (rest.length+1)=fr+8+8 * rest.length by omega];exact hf') (he'.trans he) hR'')
   case inr.inr=>
    obtain ⟨ν,G,I⟩:=id hR;rw [hg.wanted (fun _ _ h=>h) I,if_pos rfl];refine .inl (upon_mono2 (fun _ _ h=>h.elim) (fun e a' w' h=>?_) (hs E σ a w (fun _ _ h=>h) (fun _ _ h=>h) hf.1 (fun k hk _=>hf.2 k hk) hR));obtain ⟨rfl,he,hR'⟩:=h;have hf':=St.free_upd hf none .any W;exact hQ _ _ a' w' hp ⟨by have:=hf.1;omega,fun k hk=>hf'.2 k (by rw [List.length_cons] at hk;omega)⟩ he hR'
   exact hs.run (fun _ _ h=>h) (fun _ _ h=>h) hf.1 (fun k hk _=>hf.2 k hk) (hd o (by simp)) hR _ _ (fun a' w' he hR'=>
    SeqGo.run rest (fr+8) _ a' w' (fun o ho=>hd o (by simp [ho])) (St.free_upd hf _ _ _) hr hR' (fun e σ' a'' w'' hp hf' he' hR''=>hQ e σ' a'' w'' hp (by rw [List.length_cons,show fr+8 * (rest.length+1)=fr+8+8 * rest.length by omega];exact hf') (he'.trans he) hR''))
theorem R.eds {E:Env} {σ:St} {tm:Array Value} {w:World} (h:R E σ tm w) (ds:List Deferred):R { E with ds:=ds } σ tm w:=by
 obtain ⟨ν,G,I⟩:=h;exact ⟨ν,G,⟨⟨I.kept.os,I.kept.tape,I.kept.output,I.kept.size,I.kept.block⟩,I.keep,I.pin,I.g0,I.sz,I.T,I.H,I.dis⟩⟩
def AWp (P:Program) (E:Env) (c:Code) (Q:Exit->St->Prop) (σ:St):Prop:=
 ∀ a w,a.defers=E.ds->R E σ a.tmps w->c.wp P (fun e a' w'=>a'.defers=E.ds/\∃ σ',Q e σ'/\R E σ' a'.tmps w') a w
def Ent (E:Env) (σ σ':St):Prop:=∀ tm w,R E σ tm w->R E σ' tm w
def ThenQ (K:St->Prop) (Q:Exit->St->Prop):Exit->St->Prop
 | .normal,σ=>K σ
 | e,σ=>Q e σ
def BlockQ (id:Nat) (Q:Exit->St->Prop):Exit->St->Prop
 | .exit id',σ=>if id'=id then Q .normal σ else Q (.exit id') σ
 | e,σ=>Q e σ
def LoopQ {ι:Type} (I:ι->St) (C:ι->Prop) (μ:ι->Nat) (E:Env) (i:ι) (Q:Exit->St->Prop):Exit->St->Prop
 | .normal,σ=>∃ j,C j/\μ j < μ i/\Ent E σ (I j)
 | e,σ=>Q e σ
section
variable {P:Program} {E:Env} {Q:Exit->St->Prop} {σ:St}
theorem aw_ent {c:Code} {σ':St} (h:Ent E σ σ') (k:AWp P E c Q σ'):AWp P E c Q σ:=fun a w hd hR=>k a w hd (h _ _ hR)
theorem aw_mono {c:Code} {Q':Exit->St->Prop} (h:AWp P E c Q' σ) (hq:∀ e σ',Q' e σ'->Q e σ'):AWp P E c Q σ:=fun a w hd hR=>
 wp_mono (h a w hd hR) fun e _ _ ⟨h1,σ',h2,h3⟩=>⟨h1,σ',hq e σ' h2,h3⟩
theorem aw_seq {x y:Code} (h:AWp P E x (ThenQ (AWp P E y Q) Q) σ):AWp P E (.seq x y) Q σ:=fun a w hd hR=>
 wp_seq (wp_mono (h a w hd hR) fun e a' w' ⟨h1,σ',h2,h3⟩=>by
  cases e with
  | normal=>exact h2 a' w' h1 h3
  | _=>exact ⟨h1,σ',h2,h3⟩)
theorem aw_skip (h:Q .normal σ):AWp P E .skip Q σ:=fun _ _ hd hR=>wp_skip ⟨hd,σ,h,hR⟩
theorem aw_label {l:Nat} (h:Q .normal σ):AWp P E (.label l) Q σ:=fun _ _ hd hR=>wp_label ⟨hd,σ,h,hR⟩
theorem aw_exit {id:Nat} (h:Q (.exit id) σ):AWp P E (.exit id) Q σ:=fun _ _ hd hR=>wp_exit ⟨hd,σ,h,hR⟩
theorem aw_ret (h:Q .ret σ):AWp P E .ret Q σ:=fun _ _ hd hR=>wp_ret ⟨hd,σ,h,hR⟩
theorem aw_cond {c:Operand} {x y:Code} {b:Bool} (hc:σ.ev c=some (.t (.v (.bool b)))) (ht:b=true->AWp P E x Q σ) (hf:b=false->AWp P E y Q σ):AWp P E (.cond c x y) Q σ:=fun a w hd hR=>by
 have he:a.eval c = .bool b:=by
  obtain ⟨ν,G,I⟩:=hR;exact bool_of (I.ev hc)
 exact wp_cond_split he (fun hb=>ht hb a w hd hR) (fun hb=>hf hb a w hd hR)
theorem aw_block {id:Nat} {c:Code} (h:AWp P E c (BlockQ id Q) σ):AWp P E (.block id c) Q σ:=fun a w hd hR=>
 wp_block (wp_mono (h a w hd hR) fun e a' w' ⟨h1,σ',h2,h3⟩=>by
  cases e with
  | exit id'=>
    simp only [BlockQ] at h2;simp only [Exit.inBlock];split
    ·rename_i hi;rw [if_pos hi] at h2;exact ⟨h1,σ',h2,h3⟩
    ·rename_i hi;rw [if_neg hi] at h2;exact ⟨h1,σ',h2,h3⟩
  | _=>exact ⟨h1,σ',h2,h3⟩)
def NoGo (Q:Exit->St->Prop):Exit->St->Prop
 | .goto _,_=>False
 | e,s=>Q e s
theorem aw_scope {c:Code} (h:AWp P E c (NoGo Q) σ):AWp P E (.scope c) Q σ:=fun a w hd hR=>
 wp_scope_straight (wp_mono (h a w hd hR) fun e a' w' ⟨h1,σ',h2,h3⟩=>by
  cases e with
  | goto l=>exact h2.elim
  | _=>exact ⟨h1,σ',h2,h3⟩)
theorem aw_loop {ι:Type} {c:Code} (I:ι->St) (C:ι->Prop) (μ:ι->Nat) (i0:ι) (h0:Ent E σ (I i0)) (hC:C i0) (round:∀ i,C i->AWp P E c (LoopQ I C μ E i Q) (I i)):AWp P E (.loop c) Q σ:=fun a w hd hR b k cs=>by
 have key:∀ n i,μ i=n->C i->∀ a w,a.defers=E.ds->R E (I i) a.tmps w->∃ e a' w',(a'.defers=E.ds/\∃ σ',Q e σ'/\R E σ' a'.tmps w')/\Arrives P (lone (b.at a (.code c :: .inLoop c::k)) cs w) b k cs e a' w':=by
  intro n
  induction n using Nat.strongRecOn with
  | _ n ih=>
    intro i hn hi a w hd hR;obtain ⟨e,a₁,w₁,⟨h1,σ',h2,h3⟩,harr⟩:=round i hi a w hd hR b (.inLoop c::k) cs;cases e with
    | normal=>
      obtain ⟨j,hj,hlt,hE⟩:=h2;obtain ⟨e₂,a₂,w₂,hq₂,harr₂⟩:=ih (μ j) (hn ▸ hlt) j rfl hj a₁ w₁ h1 (hE _ _ h3);exact ⟨e₂,a₂,w₂,hq₂,.of_steps (Steps.trans harr (.one step_inLoop)) harr₂⟩
    | exit id=>exact ⟨_,a₁,w₁,⟨h1,σ',h2,h3⟩,.pass (x:=.inLoop c) rfl (fun _ _=>.inl (by simp)) harr⟩
    | goto l=>exact ⟨_,a₁,w₁,⟨h1,σ',h2,h3⟩,.pass (x:=.inLoop c) rfl (fun _ _=>.inl (by simp)) harr⟩
    | ret=>exact ⟨_,a₁,w₁,⟨h1,σ',h2,h3⟩,.pass (x:=.inLoop c) rfl (fun _ _=>.inl (by simp)) harr⟩
    | panic ch=>exact ⟨_,a₁,w₁,⟨h1,σ',h2,h3⟩,.pass (x:=.inLoop c) rfl (fun _ _=>.inl (by simp)) harr⟩
    | outgrown=>exact ⟨_,a₁,w₁,⟨h1,σ',h2,h3⟩,.pass (x:=.inLoop c) rfl (fun _ _=>.inl (by simp)) harr⟩
 obtain ⟨e,a',w',hq,harr⟩:=key _ i0 rfl hC a w hd (h0 _ _ hR);exact ⟨e,a',w',hq,.of_steps (.one step_loop) harr⟩
theorem aw_region {id:Nat} {l:List Oper} {T:Nat->Option D} {H:Nat->Option AObj} {N M:Nat} (N':Nat) (hE:E.m=M) (hN:100<=N) (hN':N+8 * l.length=N') (hm:(l.all fun o=>match o.dst with | none=>true | some t=>decide (t < M))=true)
    (h:SeqGo P l.toArray (fun e σ'=>Q e (mk σ'.T σ'.H N')) l N (mk T H N)):AWp P E (.region id l.toArray false) Q (mk T H N):=fun a w hd hR=>
 wp_region_lit (SeqGo.run l N (mk T H N) a w (fun o ho t ht=>by have:=List.all_eq_true.1 hm o ho;rw [ht] at this;rw [hE];exact of_decide_eq_true this) (mk_free hN) h hR
  (fun _ σ' a' w' hp hf he hR'=>⟨he.trans hd,_,hp,hR'.bound (by rw [← hN'];exact hf.2)⟩))
end
end Go.Ab
/- The abstract machine: states told in other names, contracts of functions, calls. -/
namespace Go.Ab
open Go.RowKit
def DWk (H:Nat->Option AObj) (d d':D):Prop:=∀ (E:Env) (s:St) (ν:Nat->Value) (G:Lim) (w:World) (tm:Array Value),(∀ k o,H k=some o->s.H k=some o)->Inv E s ν G w tm->∀ v,DR ν s.nm w G v d->DR ν s.nm w G v d'
theorem DWk.refl {H:Nat->Option AObj} {d:D}:DWk H d d:=fun _ _ _ _ _ _ _ _ _ h=>h
theorem DWk.trans {H:Nat->Option AObj} {a b c:D} (h:DWk H a b) (k:DWk H b c):DWk H a c:=fun E s ν G w tm hH I v hv=>k E s ν G w tm hH I v (h E s ν G w tm hH I v hv)
theorem DWk.mono {H H':Nat->Option AObj} {a b:D} (hH:∀ k o,H k=some o->H' k=some o) (h:DWk H a b):DWk H' a b:=fun E s ν G w tm h' I v hv=>h E s ν G w tm (fun k o hk=>h' k o (hH k o hk)) I v hv
inductive DLe (fl:Bool) (H:Nat->Option AObj) (nm':Nat->Bool) (ρ:Nat->Nat):D->D->Prop
 | t {x y:Tree} (h:x=y):DLe fl H nm' ρ (.t x) (.t y)
 | nil:DLe fl H nm' ρ (.t (.v (.slice none 0 0))) (.t (.sl 0 []))
 | own {k k':Nat} (h:nm' k'=true) (hk:k=ρ k'):DLe fl H nm' ρ (.own k) (.own k')
 | ref {k k' off:Nat} (h:nm' k'=true) (hk:k=ρ k'):DLe fl H nm' ρ (.ref k off) (.ref k' off)
 | rd {k n:Nat} {e:TypeId} {s:Nat} {ts ts':List Tree} {st:Bool} (h:H k=some (.row e s n ts st)) (hst:(st||fl)=true) (ht:ts=ts') {n':Nat} (hn:n=n'):DLe fl H nm' ρ (.own k) (.t (.sl n' ts'))
 | ptr {ts:List Tree} {off:Nat}:DLe fl H nm' ρ (.ptr ts off) (.ptr ts off)
 | agg {ds ds':List D} (hl:ds.length=ds'.length) (h:∀ (i:Nat) (d d':D),ds[i]?=some d->ds'[i]?=some d'->DLe fl H nm' ρ d d'):DLe fl H nm' ρ (.agg ds) (.agg ds')
 | tup {ds ds':List D} (hl:ds.length=ds'.length) (h:∀ (i:Nat) (d d':D),ds[i]?=some d->ds'[i]?=some d'->DLe fl H nm' ρ d d'):DLe fl H nm' ρ (.tup ds) (.tup ds')
 | fn {f:FuncId} {ds ds':List D} (hl:ds.length=ds'.length) (h:∀ (i:Nat) (d d':D),ds[i]?=some d->ds'[i]?=some d'->DLe fl H nm' ρ d d'):DLe fl H nm' ρ (.fn f ds) (.fn f ds')
 | any {d:D}:DLe fl H nm' ρ d .any
 | via {k k':Nat} {r:Value->Value->Prop} (h:nm' k'=true) (hk:k=ρ k'):DLe fl H nm' ρ (.via k r) (.via k' r)
inductive DLeL (fl:Bool) (H:Nat->Option AObj) (nm':Nat->Bool) (ρ:Nat->Nat):List D->List D->Prop
 | nil:DLeL fl H nm' ρ [] []
 | cons {d d':D} {l l':List D} (h:DLe fl H nm' ρ d d') (r:DLeL fl H nm' ρ l l'):DLeL fl H nm' ρ (d::l) (d'::l')
theorem DLeL.get {fl:Bool} {H:Nat->Option AObj} {nm':Nat->Bool} {ρ:Nat->Nat} {l l':List D} (h:DLeL fl H nm' ρ l l'):l.length=l'.length/\∀ (i:Nat) (d d':D),l[i]?=some d->l'[i]?=some d'->DLe fl H nm' ρ d d':=by
 induction h with
 | nil=>exact ⟨rfl,fun i d d' h=>by simp at h⟩
 | cons h r ih=>
   refine ⟨by simp [ih.1],fun i d d' hd hd'=>?_⟩;cases i with
   | zero=>simp at hd hd';subst hd hd';exact h
   | succ i=>exact ih.2 i d d' (by simpa using hd) (by simpa using hd')
theorem DLe.agg' {fl:Bool} {H:Nat->Option AObj} {nm':Nat->Bool} {ρ:Nat->Nat} {l l':List D} (h:DLeL fl H nm' ρ l l'):DLe fl H nm' ρ (.agg l) (.agg l'):=.agg h.get.1 h.get.2
theorem DLe.tup' {fl:Bool} {H:Nat->Option AObj} {nm':Nat->Bool} {ρ:Nat->Nat} {l l':List D} (h:DLeL fl H nm' ρ l l'):DLe fl H nm' ρ (.tup l) (.tup l'):=.tup h.get.1 h.get.2
theorem DLe.fn' {fl:Bool} {H:Nat->Option AObj} {nm':Nat->Bool} {ρ:Nat->Nat} {f:FuncId} {l l':List D} (h:DLeL fl H nm' ρ l l'):DLe fl H nm' ρ (.fn f l) (.fn f l'):=.fn h.get.1 h.get.2
theorem DLe.rel {fl:Bool} {H:Nat->Option AObj} {nm nm':Nat->Bool} {ρ:Nat->Nat} {ν ν':Nat->Value} {w w':World} {G G':Lim} (hx:∀ b i u,Cell w G b i u->Cell w' G' b i u)
    (hrow:∀ k e s n ts st,H k=some (.row e s n ts st)->(st||fl)=true->TR w' G' (ν k) (.sl n ts)) (hν:∀ k',nm' k'=true->nm (ρ k')=true->ν' k'=ν (ρ k')):
    ∀ {d d':D},DLe fl H nm' ρ d d'->∀ {v:Value},DR ν nm w G v d->DR ν' nm' w' G' v d':=by
 intro d d' hd
 induction hd with
 | t h=>intro v hv;subst h;cases hv with | t hv=>exact .t (hv.mono hx)
 | nil=>intro v hv;have:=bool_of hv;subst this;exact .t (.nil fun _=>rfl)
 | own h hk=>intro v hv;subst hk;cases hv with | own h1 h2=>rw [← hν _ h h1] at h2 ⊢;exact .own h h2
 | ref h hk=>intro v hv;subst hk;cases hv with | ref h1 h2=>exact .ref h (by rw [hν _ h h1];exact h2)
 | via h hk=>intro v hv;subst hk;cases hv with | via h1 h2 h3=>exact .via h (by rw [hν _ h h1];exact h2) h3
 | rd h hst ht hn=>intro v hv;subst ht hn;cases hv with | own h1 h2=>exact .t (hrow _ _ _ _ _ _ h hst)
 | ptr=>intro v hv;exact (hv.mono (ν':=ν) (nm':=nm) (fun _ h=>⟨h,rfl⟩) hx) |> fun h=>by
           cases h with | ptr hl hc h=>exact .ptr hl hc h
 | @agg ds ds' hl h ih=>
   intro v hv;cases hv with
   | agg hl' h' h1=>
     refine .agg (hl'.trans hl) (fun i u d hu hd=>?_) h1;obtain ⟨d0,hd0⟩:∃ d0,ds[i]?=some d0:=by
      have:i < ds.length:=by rw [← hl'];exact (Array.getElem?_eq_some_iff.1 hu).1
      exact ⟨_,List.getElem?_eq_getElem this⟩
     exact ih i d0 d hd0 hd (h' i u d0 hu hd0)
 | @tup ds ds' hl h ih=>
   intro v hv;cases hv with
   | tup hl' h'=>
     refine .tup (hl'.trans hl) (fun i u d hu hd=>?_);obtain ⟨d0,hd0⟩:∃ d0,ds[i]?=some d0:=by
      have:i < ds.length:=by rw [← hl'];exact (Array.getElem?_eq_some_iff.1 hu).1
      exact ⟨_,List.getElem?_eq_getElem this⟩
     exact ih i d0 d hd0 hd (h' i u d0 hu hd0)
 | @fn f ds ds' hl h ih=>
   intro v hv;cases hv with
   | fn hl' h'=>
     refine .fn (hl'.trans hl) (fun i u d hu hd=>?_);obtain ⟨d0,hd0⟩:∃ d0,ds[i]?=some d0:=by
      have:i < ds.length:=by rw [← hl'];exact (Array.getElem?_eq_some_iff.1 hu).1
      exact ⟨_,List.getElem?_eq_getElem this⟩
     exact ih i d0 d hd0 hd (h' i u d0 hu hd0)
 | any=>intro v _;exact .any
theorem cell_of_row' {w:World} {g i:Nat} {cur:Array Value} {e:TypeId} {fr:Nat×Nat} (h:w.heap[g]?=some (.cells cur e fr)):w.cell? ⟨g,i,none⟩=cur[i]?:=by simp [World.cell?,h]
theorem row_tree {w:World} {G:Lim} {e:TypeId} {s n:Nat} {v:Value} {xs:List Value} {ts:List Tree} (h:w.ownsRow 0 e s v n xs) (hl:xs.length=ts.length) (ht:∀ (i:Nat) (u:Value) (t:Tree),xs[i]?=some u->ts[i]?=some t->TR w G u t)
    (hG:∀ g,blk v=some g->n * s<=G g):TR w G v (.sl n ts):=by
 have hlen:=h.1;rcases h.2 with ⟨rfl,rfl⟩ | ⟨g,cap,cur,rfl,h1,h2,h3,h4,h5,h6⟩
 ·have:ts=[]:=List.eq_nil_of_length_eq_zero (by rw [← hl,hlen];simp)
  subst this;exact .nil fun _=>rfl
 ·refine .sl g 0 n cap xs ts hl (fun i u hu=>?_) h3 ht
  have hi:i < n * s:=by rw [← hlen];exact (List.getElem?_eq_some_iff.1 hu).1
  refine ⟨?_,Nat.lt_of_lt_of_le (by omega) (hG g rfl)⟩;rw [Nat.zero_add,cell_of_row' h2];rw [← h6,List.getElem?_take,if_pos hi] at hu;simpa using hu
theorem ObjOk.row_tree {E:Env} {ν:Nat->Value} {nm:Nat->Bool} {w:World} {G:Lim} {k:Nat} {e:TypeId} {s n:Nat} {ts:List Tree} (h:ObjOk E ν nm w G k (.row e s n ts true)):TR w G (ν k) (.sl n ts):=by
 obtain ⟨xs,h1,h2,h3,h4⟩:=h;exact Ab.row_tree h1 h2 h3 (fun g hg=>by rw [(h4 g hg).2];simp)
inductive NLe (fl:Bool) (H:Nat->Option AObj) (nm':Nat->Bool) (ρ:Nat->Nat):NC->NC->Prop
 | d {d d':D} (h:DLe fl H nm' ρ d d'):NLe fl H nm' ρ (.dat d) (.dat d')
 | inn {q:Nat} {ts:List Tree}:NLe fl H nm' ρ (.inn q ts) (.inn q ts)
inductive OLe (fl:Bool) (H:Nat->Option AObj) (nm':Nat->Bool) (ρ:Nat->Nat):AObj->AObj->Prop
 | row {e:TypeId} {s n:Nat} {ts ts':List Tree} {st:Bool} (h:ts=ts') {n':Nat} (hn:n=n'):OLe fl H nm' ρ (.row e s n ts st) (.row e s n' ts' st)
 | box {e:TypeId} {ds ds':List D} (hl:ds.length=ds'.length) (h:∀ (i:Nat) (d d':D),ds[i]?=some d->ds'[i]?=some d'->DLe fl H nm' ρ d d'):OLe fl H nm' ρ (.box e ds) (.box e ds')
 | nest {e e':TypeId} {s:Nat} {ls ls':List (Nat×List Tree)} (h:ls=ls'):OLe fl H nm' ρ (.nest e e' s ls) (.nest e e' s ls')
 | it {s:ByteArray} {pos:Nat}:OLe fl H nm' ρ (.it s pos) (.it s pos)
 | mp {l l':List (Value×D)} (hl:l.length=l'.length) (h:∀ (i:Nat) (p p':Value×D),l[i]?=some p->l'[i]?=some p'->p.1=p'.1/\DLe fl H nm' ρ p.2 p'.2):OLe fl H nm' ρ (.mp l) (.mp l')
 | nst {e e':TypeId} {m s n:Nat} {cs cs':List NC} (hl:cs.length=cs'.length) (h:∀ (i:Nat) (c c':NC),cs[i]?=some c->cs'[i]?=some c'->NLe fl H nm' ρ c c'):OLe fl H nm' ρ (.nst e e' m s n cs) (.nst e e' m s n cs')
theorem OLe.ft {fl:Bool} {H:Nat->Option AObj} {nm':Nat->Bool} {ρ:Nat->Nat} {o o':AObj} (h:OLe fl H nm' ρ o o') {w:World} {v:Value} {g:Nat}:foot w v o' g ↔ foot w v o g:=by
 cases h with
 | row=>exact Iff.rfl
 | box=>exact Iff.rfl
 | nest h=>subst h;exact Iff.rfl
 | mp=>exact Iff.rfl
 | it=>exact Iff.rfl
 | @nst e e' m s n cs cs' hl h=>
   constructor
   ·rintro (h1 | ⟨g0,i,x,q,ts,h1,h2,h3,h4⟩)
    ·exact .inl h1
    ·have hi:i < cs.length:=by rw [hl];exact (List.getElem?_eq_some_iff.1 h2).1
     have hc:cs[i]?=some cs[i]:=List.getElem?_eq_getElem hi;have:=h i _ _ hc h2;generalize cs[i]=c at hc this;cases this with
     | inn=>exact .inr ⟨g0,i,x,q,ts,h1,hc,h3,h4⟩
   ·rintro (h1 | ⟨g0,i,x,q,ts,h1,h2,h3,h4⟩)
    ·exact .inl h1
    ·have hi:i < cs'.length:=by rw [← hl];exact (List.getElem?_eq_some_iff.1 h2).1
     have hc:cs'[i]?=some cs'[i]:=List.getElem?_eq_getElem hi;have:=h i _ _ h2 hc;generalize cs'[i]=c at hc this;cases this with
     | inn=>exact .inr ⟨g0,i,x,q,ts,h1,hc,h3,h4⟩
theorem OLe.box' {fl:Bool} {H:Nat->Option AObj} {nm':Nat->Bool} {ρ:Nat->Nat} {e:TypeId} {l l':List D} (h:DLeL fl H nm' ρ l l'):OLe fl H nm' ρ (.box e l) (.box e l'):=.box h.get.1 h.get.2
def rnm (rn:List (Nat×Nat)) (k:Nat):Nat:=match look k rn with | some x=>x | none=>k
abbrev lit (T:List (Nat×D)) (H:List (Nat×AObj)) (N:Nat):St:=mk (fun t=>look t T) (fun k=>look k H) N
inductive AllT (fl:Bool) (σ:St) (nm':Nat->Bool) (ρ:Nat->Nat):List (Nat×D)->Prop
 | nil:AllT fl σ nm' ρ []
 | cons {t:Nat} {d d':D} {l:List (Nat×D)} (h:σ.T t=some d) (hd:DLe fl σ.H nm' ρ d d') (r:AllT fl σ nm' ρ l):AllT fl σ nm' ρ ((t,d')::l)
inductive AllH (fl:Bool) (σ:St) (nm':Nat->Bool) (ρ:Nat->Nat):List (Nat×AObj)->Prop
 | nil:AllH fl σ nm' ρ []
 | cons {k:Nat} {o o':AObj} {l:List (Nat×AObj)} (h:σ.H (ρ k)=some o) (ho:OLe fl σ.H nm' ρ o o') (r:AllH fl σ nm' ρ l):AllH fl σ nm' ρ ((k,o')::l)
theorem AllT.get {fl:Bool} {σ:St} {nm':Nat->Bool} {ρ:Nat->Nat} {l:List (Nat×D)} (h:AllT fl σ nm' ρ l) {t:Nat} {d':D} (hl:look t l=some d'):∃ d,σ.T t=some d/\DLe fl σ.H nm' ρ d d':=by
 induction h with
 | nil=>cases hl
 | cons h hd r ih=>
   unfold look at hl;split at hl
   ·rename_i e;cases hl;subst e;exact ⟨_,h,hd⟩
   ·exact ih hl
theorem AllH.get {fl:Bool} {σ:St} {nm':Nat->Bool} {ρ:Nat->Nat} {l:List (Nat×AObj)} (h:AllH fl σ nm' ρ l) {k:Nat} {o':AObj} (hl:look k l=some o'):∃ o,σ.H (ρ k)=some o/\OLe fl σ.H nm' ρ o o':=by
 induction h with
 | nil=>cases hl
 | cons h hd r ih=>
   unfold look at hl;split at hl
   ·rename_i e;cases hl;subst e;exact ⟨_,h,hd⟩
   ·exact ih hl
theorem ObjOk.view {fl:Bool} {H:Nat->Option AObj} {E E':Env} {ν ν':Nat->Value} {nm nm':Nat->Bool} {ρ:Nat->Nat} {w:World} {G:Lim} {k k':Nat} {o o':AObj} (h:ObjOk E ν nm w G k o) (ho:OLe fl H nm' ρ o o')
    (hrow:∀ k e s n ts st,H k=some (.row e s n ts st)->(st||fl)=true->TR w G (ν k) (.sl n ts)) (hν:∀ k',nm' k'=true->nm (ρ k')=true->ν' k'=ν (ρ k')) (hk:ν' k'=ν k) (hE:∀ g,foot w (ν k) o g->E.may g->E'.may g):ObjOk E' ν' nm' w G k' o':=by
 cases ho with
 | it=>
   obtain ⟨g,h1,h2,h3,h4⟩:=h;exact ⟨g,by rw [hk];exact h1,hE g (foot_blk (by rw [h1];rfl)) h2,h3,h4⟩
 | @mp l l' hl hp=>
   obtain ⟨g,es,clock,h1,h2,h3,h4,hs,h5,h6⟩:=h;refine ⟨g,es,clock,by rw [hk];exact h1,hE g (foot_blk (by rw [h1];rfl)) h2,h3,h4,hs,h5.trans hl,fun i en p' he hp'=>?_⟩;have hi:i < l.length:=by rw [hl];exact (List.getElem?_eq_some_iff.1 hp').1
   obtain ⟨e1,e2⟩:=hp i l[i] p' (List.getElem?_eq_getElem hi) hp';obtain ⟨a1,a2⟩:=h6 i en l[i] he (List.getElem?_eq_getElem hi);exact ⟨a1.trans e1,e2.rel (fun _ _ _ h=>h) hrow hν a2⟩
 | @nst e e' m s n cs cs' hl hn=>
   obtain ⟨xs,h1,hxl,hd,h2,h3,h4,h5⟩:=id h;have inv:∀ (i:Nat) (q:Nat) (ts:List Tree),cs'[i]?=some (.inn q ts)->cs[i]?=some (.inn q ts):=fun i q ts hc=>by
    have hi:i < cs.length:=by rw [hl];exact (List.getElem?_eq_some_iff.1 hc).1
    have hc0:cs[i]?=some cs[i]:=List.getElem?_eq_getElem hi;have:=hn i _ _ hc0 hc;generalize cs[i]=c at hc0 this;cases this with
    | inn=>exact hc0
   refine ⟨xs,by rw [hk];exact h1,hxl.trans hl,fun i x d' hx hc=>?_,fun i x q ts hx hc=>?_,fun i j x y q q' ts ts' hij hx hy hc hc'=>h3 i j x y q q' ts ts' hij hx hy (inv i q ts hc) (inv j q' ts' hc'),fun i x q ts hx hc g hg=>by rw [hk];exact h4 i x q ts hx (inv i q ts hc) g hg,fun g hg=>by rw [hk] at hg;exact ⟨hE g (foot_blk hg) (h5 g hg).1,(h5 g hg).2⟩⟩
   ·have hi:i < cs.length:=by rw [hl];exact (List.getElem?_eq_some_iff.1 hc).1
    have hc0:cs[i]?=some cs[i]:=List.getElem?_eq_getElem hi;have:=hn i _ _ hc0 hc;generalize cs[i]=c at hc0 this;cases this with
    | d hdl=>exact ⟨hdl.rel (fun _ _ _ h=>h) hrow hν (hd i x _ hx hc0).1,(hd i x _ hx hc0).2⟩
   ·have hc0:=inv i q ts hc
    obtain ⟨ys,y1,y2,y3,y4⟩:=h2 i x q ts hx hc0;refine ⟨ys,y1,y2,y3,fun g hg=>⟨hE g ?_ (y4 g hg).1,(y4 g hg).2⟩⟩;have hi:=(List.getElem?_eq_some_iff.1 hx).1;rcases h1.2 with ⟨_,h0⟩ | ⟨g0,cap,cur,hv,_⟩
    ·rw [h1.1,h0] at hi;omega
    ·exact .inr ⟨g0,i,x,q,ts,by rw [hv];rfl,hc0,by rw [row_cell h1 (by rw [hv];rfl) hi];exact hx,hg⟩
 | nest h'=>
   subst h';obtain ⟨xs,h1,h2,h3,h4,h5⟩:=id h;refine ⟨xs,by rw [hk];exact h1,fun i x p hx hp=>?_,h3,fun i x hx g hg=>by rw [hk];exact h4 i x hx g hg,fun g hg=>by rw [hk] at hg;exact ⟨hE g (foot_blk hg) (h5 g hg).1,(h5 g hg).2⟩⟩;obtain ⟨ys,y1,y2,y3,y4⟩:=h2 i x p hx hp;refine ⟨ys,y1,y2,y3,fun g hg=>⟨hE g ?_ (y4 g hg).1,(y4 g hg).2⟩⟩;have hi:=(List.getElem?_eq_some_iff.1 hp).1;rcases h1.2 with ⟨_,h0⟩ | ⟨g0,cap,cur,hv,_⟩
   ·omega
   ·exact .inr ⟨g0,i,x,by rw [hv];rfl,hi,by rw [outer_cell h1 (by rw [hv];rfl) hi];exact hx,hg⟩
 | row h' hn=>
   subst h' hn;obtain ⟨xs,h1,h2,h3,h4⟩:=h;exact ⟨xs,by rw [hk];exact h1,h2,h3,fun g hg=>by rw [hk] at hg;exact ⟨hE g (foot_blk hg) (h4 g hg).1,(h4 g hg).2⟩⟩
 | box hl hb=>
   obtain ⟨g,cur,h1,h2,h3,h4,h5,h6⟩:=h;refine ⟨g,cur,by rw [hk];exact h1,hE g (foot_blk (by rw [h1];rfl)) h2,h3,h4,h5.trans hl,fun i u d hu hd=>?_⟩;rename_i e ds ds';obtain ⟨d0,hd0⟩:∃ d0,ds[i]?=some d0:=by
    have:i < ds.length:=by rw [← h5];exact (Array.getElem?_eq_some_iff.1 hu).1
    exact ⟨_,List.getElem?_eq_getElem this⟩
   exact ⟨(hb i d0 d hd0 hd).rel (fun _ _ _ h=>h) hrow hν (h6 i u d0 hu hd0).1,(h6 i u d0 hu hd0).2⟩
theorem Inv.rows {E:Env} {σ:St} {ν:Nat->Value} {G:Lim} {w:World} {tm:Array Value} (I:Inv E σ ν G w tm):∀ k e s n ts st,σ.H k=some (.row e s n ts st)->(st||false)=true->TR w G (ν k) (.sl n ts):=fun k e s n ts st h hst=>by
 have:st=true:=by simpa using hst
 subst this;exact (I.H k _ h).2.row_tree
theorem look_keys {α:Type} {k:Nat} {x:α} {l:List (Nat×α)} (h:look k l=some x):k ∈ l.map (·.1):=List.mem_map.2 ⟨_,look_mem h,rfl⟩
theorem nodup_inj {ρ:Nat->Nat}:∀ {l:List Nat},(l.map ρ).Nodup->∀ a ∈ l,∀ b ∈ l,ρ a=ρ b->a=b
 | [],_,_,h,_,_,_=>by cases h
 | x::l,h,a,ha,b,hb,he=>by
   rw [List.map_cons,List.nodup_cons] at h;rcases List.mem_cons.1 ha with e1 | h1
   ·rcases List.mem_cons.1 hb with e2 | h2
    ·rw [e1,e2]
    ·exact absurd (List.mem_map.2 ⟨b,h2,by rw [← he,e1]⟩) h.1
   ·rcases List.mem_cons.1 hb with e2 | h2
    ·exact absurd (List.mem_map.2 ⟨a,h1,by rw [he,e2]⟩) h.1
    ·exact nodup_inj h.2 a h1 b h2 he
abbrev args (ds:List D) (H:List (Nat×AObj)):St:=mk (fun t=>ds[t]?) (fun k=>look k H) 100
abbrev res (r:D) (H:List (Nat×AObj)):St:=mk (fun t=>if t=0 then some r else none) (fun k=>look k H) 108
def Does (P:Program) (f:FuncId) (ds:List D) (H:List (Nat×AObj)) (r:D) (H':List (Nat×AObj)):Prop:=
 ∀ (E:Env) (w:World) (vs:Array Value),E.w0=w->E.m=vs.size->vs.size=ds.length->R E (args ds H) vs w->
  Calls P f vs w fun e w'=>∃ v,e = .returned v/\R { E with m:=1 } (res r H') #[v] w'
def DoesN (P:Program) (f:FuncId) (ds:List D) (H:List (Nat×AObj)) {ι:Type} (C:ι->Prop) (r:ι->D) (H':ι->List (Nat×AObj)):Prop:=
 ∀ (E:Env) (w:World) (vs:Array Value),E.w0=w->E.m=vs.size->vs.size=ds.length->R E (args ds H) vs w->
  Calls P f vs w fun e w'=>∃ v,e = .returned v/\∃ i,C i/\R { E with m:=1 } (res (r i) (H' i)) #[v] w'
theorem Does.n {P:Program} {f:FuncId} {ds:List D} {H:List (Nat×AObj)} {r:D} {H':List (Nat×AObj)} (h:Does P f ds H r H'):DoesN P f ds H (fun _:Unit=>True) (fun _=>r) (fun _=>H'):=fun E w vs h1 h2 h3 h4=>(h E w vs h1 h2 h3 h4).mono fun _ _ ⟨v,e1,e2⟩=>⟨v,e1,(),trivial,e2⟩
def DoesPan (P:Program) (f:FuncId) (ds:List D) (H:List (Nat×AObj)) (v:Value) (H':List (Nat×AObj)):Prop:=
 ∀ (E:Env) (w:World) (vs:Array Value),E.w0=w->E.m=vs.size->vs.size=ds.length->R E (args ds H) vs w->
  Calls P f vs w fun e w'=>e = .panicked [pent v]/\R { E with m:=1 } (res .any H') #[undef] w'
def RetQ (P:Program) (fn:Func) (E:Env) (r:D) (H':List (Nat×AObj)):Exit->St->Prop
 | .normal,σ | .ret,σ=>∀ tm w,R E σ tm w->∃ v,(results fn tm).run P w = .ok v w/\R { E with m:=1 } (res r H') #[v] w
 | _,_=>False
theorem R.entry {E:Env} {ds:List D} {H:List (Nat×AObj)} {vs:Array Value} {w:World} (h:R E (args ds H) vs w) (n:Nat):R { E with m:=vs.size+n } (args ds H) (vs++Array.replicate n undef) w:=by
 obtain ⟨ν,G,I⟩:=h;refine ⟨ν,G,⟨I.kept.os,I.kept.tape,I.kept.output,I.kept.size,I.kept.block⟩,I.keep,I.pin,I.g0,by simp,fun t d ht=>?_,I.H,I.dis⟩;obtain ⟨v,hv,hd⟩:=I.T t d ht;exact ⟨v,by rw [Array.getElem?_append_left (Array.getElem?_eq_some_iff.1 hv).1];exact hv,hd⟩
theorem spec_of {P:Program} {f:FuncId} {fn:Func} {c:Code} {ds:List D} {H:List (Nat×AObj)} {r:D} {H':List (Nat×AObj)} (hf:P.funcs[f]?=some fn) (hb:fn.body=some c) (hm:ds.length<=fn.ntmps)
    (h:∀ E:Env,E.m=fn.ntmps->AWp P E c (RetQ P fn E r H') (args ds H)):Does P f ds H r H':=by
 intro E w vs _ _ _ hR;have hR':=hR.entry (fn.ntmps - vs.size);rw [show vs.size+(fn.ntmps - vs.size)=fn.ntmps by omega] at hR';refine calls_of_wp hf hb (wp_mono (h { E with m:=fn.ntmps,ds:=[] } rfl _ w rfl (hR'.eds [])) ?_);rintro e a' w' ⟨hd,σ',hq,hRR⟩;cases e with
 | normal=>obtain ⟨v,h1,h2⟩:=hq _ _ hRR;exact ⟨hd,v,h1,v,rfl,h2.eds E.ds⟩
 | ret=>obtain ⟨v,h1,h2⟩:=hq _ _ hRR;exact ⟨hd,v,h1,v,rfl,h2.eds E.ds⟩
 | exit id=>exact hq.elim
 | goto l=>exact hq.elim
 | panic ch=>exact hq.elim
 | outgrown=>exact hq.elim
def PanQ (E:Env) (v:Value) (H':List (Nat×AObj)):Exit->St->Prop
 | .panic ch,σ=>ch=[pent v]/\∀ tm w,R E σ tm w->R { E with m:=1 } (res .any H') #[undef] w
 | _,_=>False
theorem spec_pan {P:Program} {f:FuncId} {fn:Func} {c:Code} {ds:List D} {H:List (Nat×AObj)} {v:Value} {H':List (Nat×AObj)} (hf:P.funcs[f]?=some fn) (hb:fn.body=some c) (hm:ds.length<=fn.ntmps)
    (h:∀ E:Env,E.m=fn.ntmps->AWp P E c (PanQ E v H') (args ds H)):DoesPan P f ds H v H':=by
 intro E w vs _ _ _ hR;have hR':=hR.entry (fn.ntmps - vs.size);rw [show vs.size+(fn.ntmps - vs.size)=fn.ntmps by omega] at hR';refine calls_of_wp hf hb (wp_mono (h { E with m:=fn.ntmps,ds:=[] } rfl _ w rfl (hR'.eds [])) ?_);rintro e a' w' ⟨hd,σ',hq,hRR⟩;cases e with
 | normal=>exact hq.elim
 | ret=>exact hq.elim
 | exit id=>exact hq.elim
 | goto l=>exact hq.elim
 | panic ch=>exact ⟨hd,by rw [hq.1],(hq.2 _ _ hRR).eds E.ds⟩
 | outgrown=>exact hq.elim
end Go.Ab
/- The abstract machine: operations on numbers, truth values and parts of values. -/
namespace Go.Ab
open Go.RowKit
abbrev I (n:Int):D:=.t (.v (.int .i64 n))
abbrev B (b:Bool):D:=.t (.v (.bool b))
abbrev ti (n:Int):Tree:=.v (.int .i64 n)
section
variable {P:Program} {o:Oper} {σ:St} {fr:Nat}
theorem ok_move {x:Operand} {d:D} (ho:o.op = .move x) (hx:σ.ev x=some d):OpOk P o σ fr d []:=
 ok_pure fun _ _ _ _ _ _ _ _ hev=>⟨_,by simp [execOp,ho],hev x d hx⟩
theorem ok_assign {x:Operand} {d:D} (ho:o.op = .assign x) (hx:σ.ev x=some d):OpOk P o σ fr d []:=
 ok_pure fun _ _ _ _ _ _ _ _ hev=>⟨_,by simp [execOp,ho],hev x d hx⟩
theorem ok_bin {op:BinOp} {xt yt:TypeId} {x y:Operand} {va vb vr:Value} (ho:o.op = .binOp op xt x y yt) (hx:σ.ev x=some (.t (.v va))) (hy:σ.ev y=some (.t (.v vb)))
    (hr:∀ w:World,(do eqGuard op xt x y va vb;binOp op xt va vb:Sem Value).run P w = .ok vr w) (h1:vr.oneCell'=true):OpOk P o σ fr (.t (.v vr)) []:=
 ok_pure fun _ _ _ _ w a _ _ hev=>by
  have h1':=bool_of (hev x _ hx);have h2':=bool_of (hev y _ hy);refine ⟨vr,?_,.t (.v _ h1)⟩;have:=hr w;unfold execOp;rw [ho];simp only [h1',h2',Sem.run_bind,Sem.run_pure] at this ⊢;rw [this];rfl
section ints
variable {k:IntKind} {xt yt:TypeId} {x y:Operand} {m n:Int}
theorem ok_addk (ho:o.op = .binOp .add xt x y yt) (hx:σ.ev x=some (.t (.v (.int k m)))) (hy:σ.ev y=some (.t (.v (.int k n)))):OpOk P o σ fr (.t (.v (.int k (k.wrap (m+n))))) []:=
 ok_bin ho hx hy (fun w=>by simp [eqGuard,binOp,Op.intArith]) rfl
theorem ok_subk (ho:o.op = .binOp .sub xt x y yt) (hx:σ.ev x=some (.t (.v (.int k m)))) (hy:σ.ev y=some (.t (.v (.int k n)))):OpOk P o σ fr (.t (.v (.int k (k.wrap (m - n))))) []:=
 ok_bin ho hx hy (fun w=>by simp [eqGuard,binOp,Op.intArith]) rfl
theorem ok_mulk (ho:o.op = .binOp .mul xt x y yt) (hx:σ.ev x=some (.t (.v (.int k m)))) (hy:σ.ev y=some (.t (.v (.int k n)))):OpOk P o σ fr (.t (.v (.int k (k.wrap (m * n))))) []:=
 ok_bin ho hx hy (fun w=>by simp [eqGuard,binOp,Op.intArith]) rfl
theorem ok_quok (ho:o.op = .binOp .quo xt x y yt) (hx:σ.ev x=some (.t (.v (.int k m)))) (hy:σ.ev y=some (.t (.v (.int k n)))) (h0:n≠0):OpOk P o σ fr (.t (.v (.int k (k.wrap (m.tdiv n))))) []:=
 ok_bin ho hx hy (fun w=>by simp [eqGuard,binOp,Op.intDiv,h0]) rfl
theorem ok_rem (ho:o.op = .binOp .rem xt x y yt) (hx:σ.ev x=some (.t (.v (.int k m)))) (hy:σ.ev y=some (.t (.v (.int k n)))) (h0:n≠0):OpOk P o σ fr (.t (.v (.int k (m.tmod n)))) []:=
 ok_bin ho hx hy (fun w=>by simp [eqGuard,binOp,Op.intDiv,h0]) rfl
theorem ok_lss (ho:o.op = .binOp .lss xt x y yt) (hx:σ.ev x=some (.t (.v (.int k m)))) (hy:σ.ev y=some (.t (.v (.int k n)))):OpOk P o σ fr (B (decide (m < n))) []:=
 ok_bin ho hx hy (fun w=>by simp [eqGuard,binOp,Op.intCmp]) rfl
theorem ok_leq (ho:o.op = .binOp .leq xt x y yt) (hx:σ.ev x=some (.t (.v (.int k m)))) (hy:σ.ev y=some (.t (.v (.int k n)))):OpOk P o σ fr (B (decide (m<=n))) []:=
 ok_bin ho hx hy (fun w=>by simp [eqGuard,binOp,Op.intCmp]) rfl
theorem ok_gtr (ho:o.op = .binOp .gtr xt x y yt) (hx:σ.ev x=some (.t (.v (.int k m)))) (hy:σ.ev y=some (.t (.v (.int k n)))):OpOk P o σ fr (B (decide (n < m))) []:=
 ok_bin ho hx hy (fun w=>by simp [eqGuard,binOp,Op.intCmp]) rfl
theorem ok_geq (ho:o.op = .binOp .geq xt x y yt) (hx:σ.ev x=some (.t (.v (.int k m)))) (hy:σ.ev y=some (.t (.v (.int k n)))):OpOk P o σ fr (B (decide (n<=m))) []:=
 ok_bin ho hx hy (fun w=>by simp [eqGuard,binOp,Op.intCmp]) rfl
theorem ok_eql (ho:o.op = .binOp .eql xt x y yt) (hx:σ.ev x=some (.t (.v (.int k m)))) (hy:σ.ev y=some (.t (.v (.int k n)))):OpOk P o σ fr (B (decide (m=n))) []:=
 ok_bin ho hx hy (fun w=>by simp [eqGuard,binOp,Op.intCmp];rfl) rfl
theorem ok_neq (ho:o.op = .binOp .neq xt x y yt) (hx:σ.ev x=some (.t (.v (.int k m)))) (hy:σ.ev y=some (.t (.v (.int k n)))):OpOk P o σ fr (B (decide (m≠n))) []:=
 ok_bin ho hx hy (fun w=>by simp [eqGuard,binOp,Op.intCmp,bne];rfl) rfl
theorem ok_conv {kd:IntKind} (ho:o.op = .convert xt yt x) (hs:(P.underlying xt).isSome=true) (hd:P.underlying yt=some (.int kd)) (hx:σ.ev x=some (.t (.v (.int k m)))):OpOk P o σ fr (.t (.v (.int kd (kd.wrap m)))) []:=
 ok_pure fun _ _ _ _ w a _ _ hev=>by
  have h1':=bool_of (hev x _ hx);obtain ⟨d,hd'⟩:=Option.isSome_iff_exists.mp hs;refine ⟨.int kd (kd.wrap m),?_,.t (.v _ rfl)⟩;unfold execOp;rw [ho];simp only [h1'];simp [convert,run_underlying hd',run_underlying hd,Conv.intToInt]
theorem ok_mkIface {t:TypeId} {ki kk:IntKind} {n:Int} {x:Operand} (ho:o.op = .makeInterface t x) (hu:P.underlying t=some (.int ki)) (hx:σ.ev x=some (.t (.v (.int kk n)))):OpOk P o σ fr (.t (.v (.iface t (.int kk n)))) []:=
 ok_pure fun _ _ _ _ w a _ _ hev=>by
  have h1':=bool_of (hev x _ hx);refine ⟨.iface t (.int kk n),?_,.t (.v _ rfl)⟩;unfold execOp;rw [ho];simp only [h1'];simp [Instr.makeInterface,run_underlying hu]
end ints
theorem run_eqb {t:TypeId} (h:P.underlying t=some .bool) (a b:Bool) (w:World):(Op.equal t (.bool a) (.bool b)).run P w = .ok (a == b) w:=by
 show (Op.equalIn (Op.maxDepth) t (.bool a) (.bool b)).run P w=_;rw [show Op.maxDepth=(Op.maxDepth - 1)+1 from rfl];simp [Op.equalIn,run_underlying h]
theorem ok_eqb {xt yt:TypeId} {x y:Operand} {m n:Bool} (hP:P.underlying xt=some .bool) (ho:o.op = .binOp .eql xt x y yt) (hx:σ.ev x=some (B m)) (hy:σ.ev y=some (B n)):OpOk P o σ fr (B (m == n)) []:=
 ok_bin ho hx hy (fun w=>by simp [eqGuard,binOp,run_eqb hP]) rfl
theorem ok_neb {xt yt:TypeId} {x y:Operand} {m n:Bool} (hP:P.underlying xt=some .bool) (ho:o.op = .binOp .neq xt x y yt) (hx:σ.ev x=some (B m)) (hy:σ.ev y=some (B n)):OpOk P o σ fr (B (!(m == n))) []:=
 ok_bin ho hx hy (fun w=>by simp [eqGuard,binOp,run_eqb hP]) rfl
theorem ok_not {t:TypeId} {x:Operand} {b:Bool} (ho:o.op = .unOp .not t x) (hx:σ.ev x=some (B b)):OpOk P o σ fr (B (!b)) []:=
 ok_pure fun _ _ _ _ w a _ _ hev=>by
  have h1':=bool_of (hev x _ hx);refine ⟨.bool (!b),?_,.t (.v _ rfl)⟩;unfold execOp;rw [ho];simp only [h1'];simp [Op.unary]
theorem ok_pick_t {c x y:Operand} {d:D} (ho:o.op = .pick c x y) (hc:σ.ev c=some (B true)) (hx:σ.ev x=some d):OpOk P o σ fr d []:=
 ok_pure fun _ _ _ _ w a _ _ hev=>by
  have h1':=bool_of (hev c _ hc);exact ⟨a.eval x,by simp [execOp,ho,h1',asBool],hev x d hx⟩
theorem ok_pick_f {c x y:Operand} {d:D} (ho:o.op = .pick c x y) (hc:σ.ev c=some (B false)) (hy:σ.ev y=some d):OpOk P o σ fr d []:=
 ok_pure fun _ _ _ _ w a _ _ hev=>by
  have h1':=bool_of (hev c _ hc);exact ⟨a.eval y,by simp [execOp,ho,h1',asBool],hev y d hy⟩
theorem ok_extract {x:Operand} {i:Nat} {ds:List D} {d:D} (ho:o.op = .extract x i) (hx:σ.ev x=some (.tup ds)) (hd:ds[i]?=some d):OpOk P o σ fr d []:=
 ok_pure fun _ _ ν G w a _ _ hev=>by
  have h:=hev x _ hx;obtain ⟨v,hv⟩:∃ v,a.eval x=v:=⟨_,rfl⟩
  rw [hv] at h;cases h with
  | @tup vs _ hl h=>
    have hi:i < vs.size:=by rw [hl];exact (List.getElem?_eq_some_iff.1 hd).1
    refine ⟨vs[i],?_,h i _ d (Array.getElem?_eq_getElem hi) hd⟩;unfold execOp;rw [ho];simp [hv,Instr.extract,hi]
end
end Go.Ab
