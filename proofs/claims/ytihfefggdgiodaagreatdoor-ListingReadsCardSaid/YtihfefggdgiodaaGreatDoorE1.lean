/- The abstract machine: ground laws, states, contracts. Conditions are in the theorems. -/
import Derived.WalkKit
import Derived.WalkSpells
import Derived.WalkLawsBesides
import Derived.BigQuiet
import Derived.Deep.QuietTactic
import Derived.Laws.AppendOwnNone
import Derived.Maps.AppendAt
import Derived.Test.YtihfefggdgiodaaGreatDoorProg
import Derived.Lib.LaidTab
import Derived.Lib.ItoaNum
import Derived.Scope
import Derived.IntWalk
open Array renaming getD_eq_getD_getElem?->Ak,getElem?_eq_none->GC,getElem?_eq_some_iff->eF,replicate->k4
open Iff renaming rfl->kZ
open List renaming all_eq_true->cT,countP_cons->aXX,getElem?_eq_getElem->bM,getElem?_eq_some_iff->bP,getElem?_map->cD,getElem?_take->eY,length_cons->dK,mem_cons->eD,mem_iff_getElem?->gK,mem_map->eK,mem_range->nE
open Nat renaming le_refl->bX,lt_of_lt_of_le->kL,lt_or_ge->Ft,strongRecOn->MD
open Option.some renaming injEq->gD
theorem kX:type_of% @beq_iff_eq:=@beq_iff_eq
theorem AY:type_of% @beq_self_eq_true:=@beq_self_eq_true
theorem aO:type_of% @congrArg:=@congrArg
theorem aZ:type_of% @decide_eq_false:=@decide_eq_false
theorem Lk:type_of% @decide_eq_false_iff_not:=@decide_eq_false_iff_not
theorem aL:type_of% @decide_eq_true:=@decide_eq_true
theorem eC:type_of% @decide_eq_true_eq:=@decide_eq_true_eq
theorem aC:type_of% @if_neg:=@if_neg
theorem aE:type_of% @if_pos:=@if_pos
theorem fH:type_of% @if_true:=@if_true
theorem cH:type_of% @of_decide_eq_true:=@of_decide_eq_true
/- Small laws for the walks of this seat, over any program: worlds that come after a world, slices that read as lists, a region that draws its order and whose callees may make memory. -/
namespace Go
open Go.RowKit
theorem hid{p:Prop}(h:p):Hid p:=h
def bB(w w':World):Prop:=Below w.heap.size w w'
theorem bB.refl(w:World):bB w w:=Below.refl _ _
theorem bB.trans{a b c:World}(h:bB a b)(k:bB b c):bB a c:=Below.trans h (Below.mono k h.size)
theorem bB.drew{a w:World}(h:bB a w):bB a w.drew:=Below.drew h
theorem bB.drewN{a w:World}(h:bB a w)(n:Nat):bB a (w.drewN n):=⟨h.os,h.tape,h.output,h.size,h.block⟩
theorem bB.alloc{a w:World}(h:bB a w)(o:Obj):bB a (w.alloc o):=Below.alloc h h.size o
theorem bB.setCell{a w:World}(h:bB a w){p:Addr}(hp:a.heap.size<=p.block)(u:Value):bB a (w.setCell p u):=Below.setCell h hp u
theorem bB.cell{a w:World}(h:bB a w){b o:Nat}(hb:b<a.heap.size):w.cell? ⟨b,o,none⟩=a.cell? ⟨b,o,none⟩:=Below.cell (p:=⟨b,o,none⟩) h hb
def vZ(w:World):Type:={ W:World // bB w W }
instance vZ.some (w:World):Nonempty (vZ w):=⟨⟨w,bB.refl w⟩⟩
def vZ.W{w:World}(x:vZ w):World:=x.1
theorem vZ.dI{w:World}(x:vZ w):bB w x.W:=x.2
@[go_sem] theorem vZ.cell{w:World}(x:vZ w){b o:Nat}(hb:b<w.heap.size):x.W.cell? ⟨b,o,none⟩=w.cell? ⟨b,o,none⟩:=x.2.cell hb
section
variable{P:Program}
end
def Rd(w:World)(a:Option Addr)(cs:List Value):Prop:=∀j v,cs[j]?=some v->∃ad,a=some ad/\w.cell? (ad.add j)=some v
def SN(l:List Int):List Value:=l.map (Value.int .i64)
def okI(l:List Int):Prop:=∀x∈l,-9223372036854775808<=x/\x<=9223372036854775807
theorem cell_spot{w:World}{b off s:Nat}{v:Value}(h:w.cell? ⟨b,off,some s⟩=some v):False:=by
 unfold World.cell? at h;split at h <;> simp at h
theorem Rd.get{w:World}{a:Option Addr}{cs:List Value}(h:Rd w a cs){i:Nat}{v:Value}(hi:cs[i]?=some v):
    ∃b off,a=some ⟨b,off,none⟩/\w.cell? ⟨b,off+i,none⟩=some v/\b<w.heap.size:=by
 obtain⟨⟨b,off,spot⟩,rfl,hc⟩:=h i v hi;have hlt:i<cs.length:=(bP.1 hi).1;cases spot with
 |some s=>
   exfalso;obtain⟨ad,e,hc'⟩:=h 0 cs[0] (by simp);simp only[gD]at e;subst e;exact cell_spot hc'
 |none=>
   have hc':w.cell? ⟨b,off+i,none⟩=some v:=by
    unfold Addr.add at hc;by_cases h0:i=0
    .simpa[h0]using hc
    .simpa[h0]using hc
   exact⟨b,off,rfl,hc',World.block_lt_of_cell? w _ hc'⟩
theorem Rd.dI{w w':World}{a:Option Addr}{cs:List Value}(h:Rd w a cs)(hw:bB w w'):Rd w' a cs:=λj v hj=>by
 obtain⟨b,off,e,hc,hb⟩:=h.get hj;obtain⟨ad,e',hc'⟩:=h j v hj;refine⟨ad,e',?_⟩;have:ad.add j=⟨b,off+j,none⟩:=by
  rw[e]at e';simp only[gD]at e';subst e';unfold Addr.add;by_cases h0:j=0 <;> simp[h0]
 rw[this]at hc' ⊢;rw[hw.cell hb];exact hc'
theorem Rd.int{w:World}{a:Option Addr}{l:List Int}(h:Rd w a (SN l))(ok:okI l){i:Nat}(hi:i<l.length):
    ∃b off x,a=some ⟨b,off,none⟩/\w.cell? ⟨b,off+i,none⟩=some (.int .i64 x)/\b<w.heap.size/\Hid (l[i]?=some x) /\ -9223372036854775808<=x/\x<=9223372036854775807:=by
 obtain⟨b,off,e,hc,hb⟩:=h.get (i:=i) (v:=.int .i64 l[i]) (by simp[SN,hi]);exact⟨b,off,l[i],e,hc,hb,by unfold Hid;simp[hi],ok _ (by simp)⟩
end Go
namespace Go
open Go.RowKit
def aRK(p:Int×Int):List Value:=[.int .i64 p.1,.int .i64 p.2]
def Es(l:List (Int×Int)):List Value:=l.flatMap aRK
def okP(l:List (Int×Int)):Prop:=∀p∈l,(-9223372036854775808<=p.1/\p.1<=9223372036854775807)/\(-9223372036854775808<=p.2/\p.2<=9223372036854775807)
def pr(p:Int×Int):Value:=.agg #[.int .i64 p.1,.int .i64 p.2]
theorem aRR{w w':World}{base:Nat}{e:TypeId}{size:Nat}{v:Value}{n:Nat}{xs:List Value}(h:w.ownsRow base e size v n xs)(hw:bB w w'):w'.ownsRow base e size v n xs:=by
 obtain⟨h1,h2⟩:=h;refine⟨h1,?_⟩;rcases h2 with h2|⟨g,cap,cur,hv,hg,hh,r⟩
 .exact Or.inl h2
 .exact Or.inr ⟨g,cap,cur,hv,hg,by rw[hw.block g (eF.1 hh).1];exact hh,r⟩
theorem Rd.nil{w:World}{a:Option Addr}:Rd w a []:=λj v hj=>by simp at hj
theorem Rd.aT4{w:World}{cs:List Value}(h:Rd w none cs):cs=[]:=by
 cases cs with
 |nil=>rfl
 |cons u l=>obtain⟨ad,e,_⟩:=h 0 u rfl;cases e
theorem Rd.new{w:World}{cs:Array Value}{e:TypeId}:Rd (w.alloc (.cells cs e)) (some ⟨w.heap.size,0,none⟩) cs.toList:=λj v hj=>by
 refine⟨_,rfl,?_⟩;have hh:(w.alloc (.cells cs e)).heap[w.heap.size]?=some (.cells cs e):=heap_alloc_new w _;have h0:((⟨w.heap.size,0,none⟩:Addr).add j)=⟨w.heap.size,j,none⟩:=by
  unfold Addr.add;by_cases hj0:j=0 <;> simp[hj0]
 rw[h0];simp only[World.cell?,hh];simpa using hj
end Go
namespace Go
open Go.RowKit
structure MH(w:World)(a:Option Addr)(n c:Nat)(l:List Int):Prop where
 len:n=l.length
 rd:Rd w a (SN l)
 ok:okI l
 cap:n<=c
 nil:a=none->c=0
 size:n*8<=140737488351232
def Tk(w:World)(v:Value)(l:List Int):Prop:=∃a c,v = .slice a l.length c/\MH w a l.length c l
structure Lz(w:World)(a:Option Addr)(n c:Nat)(l:List (Int×Int)):Prop where
 len:n=l.length
 rd:Rd w a (Es l)
 ok:okP l
 cap:n<=c
 nil:a=none->c=0
 size:n*16<=140737488351232
def Ta(w:World)(v:Value)(l:List (Int×Int)):Prop:=∃a c,v = .slice a l.length c/\Lz w a l.length c l
theorem MH.dI{w w':World}{a:Option Addr}{n c:Nat}{l:List Int}(h:MH w a n c l)(hw:bB w w'):MH w' a n c l:={ h with rd:=h.rd.dI hw }
theorem Lz.dI{w w':World}{a:Option Addr}{n c:Nat}{l:List (Int×Int)}(h:Lz w a n c l)(hw:bB w w'):Lz w' a n c l:={ h with rd:=h.rd.dI hw }
theorem Tk.dI{w w':World}{v:Value}{l:List Int}(h:Tk w v l)(hw:bB w w'):Tk w' v l:=let⟨a,c,e,h⟩:=h;⟨a,c,e,h.dI hw⟩
theorem Ta.dI{w w':World}{v:Value}{l:List (Int×Int)}(h:Ta w v l)(hw:bB w w'):Ta w' v l:=let⟨a,c,e,h⟩:=h;⟨a,c,e,h.dI hw⟩
end Go
namespace Go
open Go.RowKit
end Go
namespace Go
def Sep(v v':Value):Prop:=∀k,v.ownBlock=some k->v'.ownBlock=some k->False
theorem Sep.symm{v v':Value}(h:Sep v v'):Sep v' v:=λk a b=>h k b a
theorem Sep.kept{v v':Value}(h:Sep v v'){w w':World}{base:Nat}{e:TypeId}{size n:Nat}{xs:List Value}(ho:w.ownsRow base e size v n xs)(hg:w.grownBy w' v'.ownBlock):w'.ownsRow base e size v n xs:=by
 refine ho.kept hg ?_;cases hv:v.ownBlock with
 |none=>exact .inl rfl
 |some k=>exact .inr λe=>h k hv e.symm
theorem Sep.nil(v:Value):Sep (.slice none 0 0) v:=λk h=>by cases h
end Go
namespace Go
open Go.RowKit
end Go
/- A region that draws its order, walked as a flow of values: each operation gets a predicate on its value that lasts in later worlds, and is walked once, from its operands' predicates, in any later world. -/
namespace Go
open Go.RowKit
structure FV where
 p:Value->World->Prop
 st:∀v W W',p v W->bB W W'->p v W'
def FV.is(u:Value):FV:=⟨λv _=>v=u,λ_ _ _ h _=>h⟩
def FV.pure(q:Value->Prop):FV:=⟨λv _=>q v,λ_ _ _ h _=>h⟩
def aVQ(Vs:List FV)(i:Nat)(v:Value)(W:World):Prop:=(Vs.getD i (FV.pure λ_=>True)).p v W
def Region.dP(ops:Array Oper)(j:Nat):Option Tmp:=(ops[j]?).bind (·.dst)
section
variable(P:Program)(ops:Array Oper)(Vs:List FV)(w0:World)
end
def Act.oA(vals:Nat->Value):List (Nat×Tmp)->Act->Act
 |[],a=>a
 |p::ps,a=>Act.oA vals ps (a.put (some p.2) (vals p.1))
theorem aDD{α:Type}{p q:α->Bool}{i:α}:∀(l:List α),i∈l->p i=true->q i=false->(∀j,q j=true->p j=true)->l.countP q<l.countP p
 |[],h,_,_,_=>by cases h
 |b::l,h,hp,hq,hle=>by
   have hmono:l.countP q<=l.countP p:=List.countP_mono_left (λj _=>hle j);rw[aXX,aXX];rcases eD.1 h with rfl|h
   .simp[hp,hq];omega
   .have:=aDD l h hp hq hle
    by_cases hb:q b=true
    .simp[hb,hle b hb];omega
    .simp[hb];split <;> omega
def zY(n:Nat)(listed:Array Bool):Nat:=(List.range n).countP λi=>!listed.getD i true
theorem aAY{n i:Nat}{listed:Array Bool}(hi:i<n)(h:listed.getD i true=false):zY n (listed.setIfInBounds i true)<zY n listed:=by
 have hlt:i<listed.size:=by
  rcases Ft i listed.size with h'|h'
  .exact h'
  .simp[GC h']at h
 refine aDD (i:=i) _ (nE.2 hi) (by simpa using h) (by simp[hlt]) (λj hj=>?_);by_cases hij:i=j
 .subst hij;simpa using h
 .rw[getD_set_ne true hij]at hj;exact hj
theorem aAZ{n i:Nat}{listed:Array Bool}(hi:i<n)(h:listed.getD i true=false):0<zY n listed:=
 List.countP_pos_iff.2 ⟨i,nE.2 hi,by simpa using h⟩
theorem aA0(n:Nat):zY n (k4 n false)<=n:=by
 have:=List.countP_le_length (l:=List.range n) (p:=λi=>!(k4 n false).getD i true);simpa[zY]using this
structure v7(ops:Array Oper)(pre:Nat->List Nat)(all:List (Nat×Tmp))(uses:Nat->List (Nat×Tmp))(m:Nat):Prop where
 Qs:Region.noSelect ops=true
 len:all.length<=ops.size
 back:∀i o,ops[i]?=some o->∀e∈o.after,Region.binds .any e=true->e.on<i
 AB:∀i o,ops[i]?=some o->∀j∈pre i,j<i/\∃e∈o.after,Region.binds .any e=true/\(e.on=j\/j∈pre e.on)
 tgt:∀k j d,all[k]?=some (j,d)->j=k/\d<m/\Region.dP ops k=some d/\∀k' j' d',all[k']?=some (j',d')->k'≠k->d'≠d
 use:∀i o,i<all.length->ops[i]?=some o->(∀p∈uses i,p.1∈pre i/\all[p.1]?=some p)/\∀t∈o.looksAt ops,∀p∈all,p.2=t->(p.1∈pre i/\p∈uses i)\/i∈pre p.1
 tail:∀i,all.length<=i->i<ops.size->∀j,j<i->j∈pre i
def On(listed:Array Bool)(j:Nat):Prop:=listed.getD j false=true
theorem AL{n:Nat}{listed:Array Bool}(hs:listed.size=n){j:Nat}(hj:j<n):¬ On listed j ↔ listed.getD j true=false:=by
 unfold On;simp[hs,hj]
theorem aR3{listed:Array Bool}{i j:Nat}(h:On (listed.setIfInBounds i true) j):j=i\/On listed j:=by
 by_cases hij:i=j
 .exact .inl hij.symm
 .exact .inr (by unfold On at *;rw[getD_set_ne false hij]at h;exact h)
structure oN(ops:Array Oper)(listed:Array Bool):Prop where
 sz:listed.size=ops.size
 down:∀i o,On listed i->ops[i]?=some o->∀e∈o.after,Region.binds .any e=true->On listed e.on
theorem On.lt{ops:Array Oper}{listed:Array Bool}(h:oN ops listed){j:Nat}(hj:On listed j):j<ops.size:=by
 unfold On at hj;rcases Ft j listed.size with h'|h'
 .rw[<-h.sz];exact h'
 .simp[GC h']at hj
theorem oN.set{ops:Array Oper}{listed:Array Bool}(h:oN ops listed){i:Nat}(hr:i∈Region.ready .any ops listed):oN ops (listed.setIfInBounds i true):=by
 refine⟨by simpa using h.sz,λk o hk ho e he hb=>?_⟩;obtain⟨h0,o',ho',hall⟩:=mem_ready.1 hr;rcases aR3 hk with rfl|hk
 .rw[ho]at ho'
  cases ho';exact getD_set_true (hall e he hb)
 .exact getD_set_true (h.down k o hk ho e he hb)
section
variable{ops:Array Oper}{pre:Nat->List Nat}{all:List (Nat×Tmp)}{uses:Nat->List (Nat×Tmp)}{m:Nat}{listed:Array Bool}
theorem v7.AF(F:v7 ops pre all uses m)(h:oN ops listed):∀(i j:Nat),On listed i->j∈pre i->On listed j:=by
 intro i
 induction i using MD with
 |_ i ih=>
   intro j hi hj;have hlt:=On.lt h hi;have ho:ops[i]?=some ops[i]:=by simp[hlt]
   obtain⟨_,e,he,hb,hc⟩:=F.AB i _ ho j hj;have hon:=h.down i _ hi ho e he hb;rcases hc with hc|hc
   .exact hc ▸ hon
   .exact ih e.on (F.back i _ ho e he hb) j hon hc
theorem v7.Kn(F:v7 ops pre all uses m)(h:oN ops listed){i j:Nat}(hr:i∈Region.ready .any ops listed)(hj:j∈pre i):On listed j:=by
 obtain⟨h0,o,ho,hall⟩:=mem_ready.1 hr;obtain⟨_,e,he,hb,hc⟩:=F.AB i o ho j hj;rcases hc with hc|hc
 .exact hc ▸ hall e he hb
 .exact F.AF h e.on j (hall e he hb) hc
theorem v7.least(F:v7 ops pre all uses m)(h:oN ops listed):∀i,i<ops.size->¬ On listed i->∃k,k<=i/\k∈Region.ready .any ops listed:=by
 intro i
 induction i using MD with
 |_ i ih=>
   intro hlt hi;by_cases hex:∃j,j<i/\¬ On listed j
   .obtain⟨j,hj,hn⟩:=hex
    obtain⟨k,hk,hr⟩:=ih j hj (by omega) hn;exact⟨k,by omega,hr⟩
   .have ho:ops[i]?=some ops[i]:=by simp[hlt]
    refine⟨i,bX _,mem_ready.2 ⟨(AL h.sz hlt).1 hi,_,ho,λe he hb=>?_⟩⟩;have:=F.back i _ ho e he hb;exact Classical.not_not.1 λhn=>hex ⟨e.on,this,hn⟩
end
structure aXj(ops:Array Oper)(all:List (Nat×Tmp))(Vs:List FV)(w0:World)(a:Act)(listed:Array Bool)(a':Act)(W:World)(vals:Nat->Value):Prop where
 aXh:∀i,all.length<=i->¬ On listed i
 df:a'.defers=a.defers
 ts:a'.tmps.size=a.tmps.size
 val:∀p∈all,On listed p.1->a'.tmps[p.2]?=some (vals p.1)
 v:∀p∈all,On listed p.1->aVQ Vs p.1 (vals p.1) W
 oth:∀d,(∀p∈all,On listed p.1->p.2≠d)->a'.tmps[d]?=a.tmps[d]?
 dI:bB w0 W
section
variable{ops:Array Oper}{pre:Nat->List Nat}{all:List (Nat×Tmp)}{uses:Nat->List (Nat×Tmp)}{listed:Array Bool}{P:Program}{Q:Exit->Act->World->Prop}{Vs:List FV}{w0:World}{a:Act}
theorem v7.same(F:v7 ops pre all uses a.tmps.size){p q:Nat×Tmp}(hp:p∈all)(hq:q∈all)(h:p.2=q.2):p=q:=by
 obtain⟨k,hk⟩:=gK.1 hp;obtain⟨k',hk'⟩:=gK.1 hq;obtain⟨h1,h2,h3,h4⟩:=F.tgt k p.1 p.2 hk;by_cases hkk:k'=k
 .subst hkk;rw[hk]at hk';cases hk';rfl
 .exact absurd h.symm (h4 k' q.1 q.2 hk' hkk)
end
end Go
/- What a seat knows of its package variables for good. -/
namespace Go.Ab
def AO:Nat->Option (List Value):=λ_=>none
def CC (w : World) : Prop := Lib.TabIs Go.Proofs.Tryz.prog w "internal/strconv.uint64pow10" .u64 Lib.pow10Tab ∧ (∀ g vs, AO g = some vs → ∀ i u, vs[i]? = some u → w.cell? ⟨g, i, none⟩ = some u) ∧ (∃ te pe, w.cell? ⟨1, 0, none⟩ = some (.iface te pe)) ∧ ∃ te pe, w.cell? ⟨2, 0, none⟩ = some (.iface te pe)
def E8(G:Nat->Nat):Prop:=∀g vs,AO g=some vs->vs.length<=G g
theorem aAe{w:World}(h:CC w){g:Nat}{vs:List Value}(hg:AO g=some vs){i:Nat}{u:Value}(hu:vs[i]?=some u):w.cell? ⟨g,i,none⟩=some u:=h.2.1 g vs hg i u hu
theorem aU5{g:Nat}{vs:List Value}(h:AO g=some vs){u:Value}(hu:u∈vs):u.oneCell'=true:=by
 have:∀vs,AO g=some vs->vs.all (·.oneCell')=true:=by
  intro vs h;cases h
 exact cT.1 (this vs h) u hu
end Go.Ab
/- The abstract machine: data that a walk carries, what a world holds of them, and the states of a walk. -/
namespace Go.Ab
open Go.RowKit
inductive Tree where
 |v (x:Value)
 |sl (n:Nat) (ts:List Tree)
abbrev bQ:=Nat->Nat
def Cell(w:World)(G:bQ)(b i:Nat)(u:Value):Prop:=w.cell? ⟨b,i,none⟩=some u/\i<G b
inductive TR (w:World) (G:bQ):Value->Tree->Prop
 |v (x:Value) (h:x.oneCell'=true):TR w G x (.v x)
 |nil {a:Option Addr} {c:Nat} (h:a=none->c=0):TR w G (.slice a 0 c) (.sl 0 [])
 |sl (b o n c:Nat) (us:List Value) (ts:List Tree) (hl:us.length=ts.length) (hc:∀(i:Nat)(u:Value),us[i]?=some u->Cell w G b (o+i) u)
     (hn:n<=c) (h:∀(i:Nat)(u:Value)(t:Tree),us[i]?=some u->ts[i]?=some t->TR w G u t):TR w G (.slice (some ⟨b,o,none⟩) n c) (.sl n ts)
theorem TR.mono{w w':World}{G G':bQ}(hx:∀b i u,Cell w G b i u->Cell w' G' b i u){v:Value}{t:Tree}(h:TR w G v t):TR w' G' v t:=by
 induction h with
 |v x h=>exact .v x h
 |nil h=>exact .nil h
 |sl b o n c us ts hl hc hn h ih=>exact .sl b o n c us ts hl (λi u hi=>hx _ _ _ (hc i u hi)) hn ih
theorem TR.one{w:World}{G:bQ}{v:Value}{t:Tree}(h:TR w G v t):v.oneCell'=true:=by
 cases h with
 |v x h=>exact h
 |nil h=>rfl
 |sl b o n c us ts hl hc hn h=>rfl
inductive D where
 |t (x:Tree)
 |agg (ds:List D)
 |aT (ds:List D)
 |own (k:Nat)
 |ref (k off:Nat)
 |ptr (ts:List Tree) (off:Nat)
 |fn (f:FuncId) (caps:List D)
 |any
 |sub (k i:Nat)
 |gM (k i j:Nat)
 |vw (k off n:Nat)
 |via (k:Nat) (r:Value->Value->Prop)
def aQ:Value->Option Nat
 |.pointer (some a)=>some a.block
 |.slice (some a) _ _=>some a.block
 |.map (some g)=>some g
 |_=>none
inductive DR (ν:Nat->Value) (nm:Nat->Bool) (w:World) (G:bQ):Value->D->Prop
 |t {v:Value} {x:Tree} (h:TR w G v x):DR ν nm w G v (.t x)
 |agg {vs:Array Value} {ds:List D} (hl:vs.size=ds.length) (h:∀(i:Nat)(u:Value)(d:D),vs[i]?=some u->ds[i]?=some d->DR ν nm w G u d) (h1:∀u∈vs.toList,u.oneCell'=true):DR ν nm w G (.agg vs) (.agg ds)
 |aT {vs:Array Value} {ds:List D} (hl:vs.size=ds.length) (h:∀(i:Nat)(u:Value)(d:D),vs[i]?=some u->ds[i]?=some d->DR ν nm w G u d):DR ν nm w G (.tuple vs) (.aT ds)
 |own {k:Nat} (hk:nm k=true) (h1:(ν k).oneCell'=true):DR ν nm w G (ν k) (.own k)
 |ref {k off g:Nat} (hk:nm k=true) (hg:aQ (ν k)=some g):DR ν nm w G (.pointer (some ⟨g,off,none⟩)) (.ref k off)
 |ptr {b o off:Nat} {us:List Value} {ts:List Tree} (hl:us.length=ts.length) (hc:∀(i:Nat)(u:Value),us[i]?=some u->Cell w G b (o+i) u) (h:∀(i:Nat)(u:Value)(t:Tree),us[i]?=some u->ts[i]?=some t->TR w G u t):
     DR ν nm w G (.pointer (some ⟨b,o+off,none⟩)) (.ptr ts off)
 |fn {f:FuncId} {vs:Array Value} {ds:List D} (hl:vs.size=ds.length) (h:∀(i:Nat)(u:Value)(d:D),vs[i]?=some u->ds[i]?=some d->DR ν nm w G u d):DR ν nm w G (.func (.func f) #[] vs) (.fn f ds)
 |any {v:Value}:DR ν nm w G v .any
 |sub {k i g:Nat} {v:Value} (hk:nm k=true) (hg:aQ (ν k)=some g) (hc:Cell w G g i v) (h1:v.oneCell'=true):DR ν nm w G v (.sub k i)
 |gM {k i j g g' n c:Nat} (hk:nm k=true) (hg:aQ (ν k)=some g) (hc:Cell w G g i (.slice (some ⟨g',0,none⟩) n c)):DR ν nm w G (.pointer (some ⟨g',j,none⟩)) (.gM k i j)
 |vw {k off n o c g:Nat} (hk:nm k=true) (hg:aQ (ν k)=some g) (ho:0<n->o=off) (hn:n<=c) (hp:off=0->∃N,ν k = .slice (some ⟨g,o,none⟩) N c):DR ν nm w G (.slice (some ⟨g,o,none⟩) n c) (.vw k off n)
 |zR {k off c:Nat} (hk:nm k=true) (hc:c=0) (hz:ν k = .slice none 0 0):DR ν nm w G (.slice none 0 c) (.vw k off 0)
 |via {k:Nat} {r:Value->Value->Prop} {v:Value} (hk:nm k=true) (h:r (ν k) v) (h1:v.oneCell'=true):DR ν nm w G v (.via k r)
theorem DR.mono{ν ν':Nat->Value}{nm nm':Nat->Bool}{w w':World}{G G':bQ}(hn:∀k,nm k=true->nm' k=true/\ν' k=ν k)(hx:∀b i u,Cell w G b i u->Cell w' G' b i u){v:Value}{d:D}(h:DR ν nm w G v d):DR ν' nm' w' G' v d:=by
 induction h with
 |t h=>exact .t (h.mono hx)
 |agg hl h h1 ih=>exact .agg hl ih h1
 |aT hl h ih=>exact .aT hl ih
 |own hk h1=>rw[<-(hn _ hk).2]at h1 ⊢;exact .own (hn _ hk).1 h1
 |ref hk hg=>exact .ref (hn _ hk).1 (by rw[(hn _ hk).2];exact hg)
 |ptr hl hc h=>exact .ptr hl (λi u hi=>hx _ _ _ (hc i u hi)) (λi u t hu ht=>(h i u t hu ht).mono hx)
 |fn hl h ih=>exact .fn hl ih
 |any=>exact .any
 |sub hk hg hc h1=>exact .sub (hn _ hk).1 (by rw[(hn _ hk).2];exact hg) (hx _ _ _ hc) h1
 |gM hk hg hc=>exact .gM (hn _ hk).1 (by rw[(hn _ hk).2];exact hg) (hx _ _ _ hc)
 |vw hk hg ho hn' hp=>exact .vw (hn _ hk).1 (by rw[(hn _ hk).2];exact hg) ho hn' (by rw[(hn _ hk).2];exact hp)
 |zR hk hc hz=>exact .zR (hn _ hk).1 hc (by rw[(hn _ hk).2];exact hz)
 |via hk h h1=>exact .via (hn _ hk).1 (by rw[(hn _ hk).2];exact h) h1
def D.one:D->Bool
 |.agg _|.aT _|.any=>false
 |_=>true
theorem DR.LA{ν:Nat->Value}{nm:Nat->Bool}{w:World}{G:bQ}{v:Value}{d:D}(h:DR ν nm w G v d)(ho:d.one=true):v.oneCell'=true:=by
 cases h with
 |t h=>exact h.one
 |own hk h1=>exact h1
 |agg=>cases ho
 |aT=>cases ho
 |any=>cases ho
 |ref=>rfl
 |ptr=>rfl
 |fn=>rfl
 |sub hk hg hc h1=>exact h1
 |gM=>rfl
 |vw=>rfl
 |zR=>rfl
 |via _ _ h1=>exact h1
inductive NC where
 |dH (d:D)
 |cE (n:Nat) (ts:List Tree)
inductive aM where
 |box (e:TypeId) (ds:List D)
 |row (e:TypeId) (s n:Nat) (ts:List Tree) (st:Bool)
 |nest (e e':TypeId) (s:Nat) (ls:List (Nat×List Tree))
 |mp (l:List (Value×D))
 |bI (e e':TypeId) (m s n:Nat) (cs:List NC)
 |it (s:ByteArray) (pos:Nat)
def bK(w:World)(v:Value):aM->Nat->Prop
 |.nest _ _ _ ls,g=>aQ v=some g\/∃(g0 i:Nat)(x:Value),aQ v=some g0/\i<ls.length/\w.cell? ⟨g0,i,none⟩=some x/\aQ x=some g
 |.box ..,g=>aQ v=some g
 |.row ..,g=>aQ v=some g
 |.mp ..,g=>aQ v=some g
 |.it ..,g=>aQ v=some g
 |.bI _ _ _ _ _ cs,g=>aQ v=some g\/∃(g0 i:Nat)(x:Value)(q:Nat)(ts:List Tree),aQ v=some g0/\cs[i]?=some (.cE q ts)/\w.cell? ⟨g0,i,none⟩=some x/\aQ x=some g
theorem dT{w:World}{v:Value}{o:aM}{g:Nat}(h:aQ v=some g):bK w v o g:=by cases o <;> first|exact .inl h|exact h
theorem qY{w w':World}{v:Value}{o:aM}(h:∀g,aQ v=some g->w'.heap[g]?=w.heap[g]?){g:Nat}:bK w' v o g ↔ bK w v o g:=by
 cases o with
 |box=>exact kZ
 |row=>exact kZ
 |mp=>exact kZ
 |it=>exact kZ
 |bI e e' m s n cs=>
   have hc:∀g0 i,aQ v=some g0->w'.cell? ⟨g0,i,none⟩=w.cell? ⟨g0,i,none⟩:=λg0 i h0=>World.cell?_of_block (a:=⟨g0,i,none⟩) (h g0 h0)
   constructor
   .rintro(h1|⟨g0,i,x,q,ts,h1,h2,h3,h4⟩)
    .exact .inl h1
    .exact .inr ⟨g0,i,x,q,ts,h1,h2,by rw[<-hc g0 i h1];exact h3,h4⟩
   .rintro(h1|⟨g0,i,x,q,ts,h1,h2,h3,h4⟩)
    .exact .inl h1
    .exact .inr ⟨g0,i,x,q,ts,h1,h2,by rw[hc g0 i h1];exact h3,h4⟩
 |nest e e' s ls=>
   have hc:∀g0 i,aQ v=some g0->w'.cell? ⟨g0,i,none⟩=w.cell? ⟨g0,i,none⟩:=λg0 i h0=>World.cell?_of_block (a:=⟨g0,i,none⟩) (h g0 h0)
   constructor
   .rintro(h1|⟨g0,i,x,h1,h2,h3,h4⟩)
    .exact .inl h1
    .exact .inr ⟨g0,i,x,h1,h2,by rw[<-hc g0 i h1];exact h3,h4⟩
   .rintro(h1|⟨g0,i,x,h1,h2,h3,h4⟩)
    .exact .inl h1
    .exact .inr ⟨g0,i,x,h1,h2,by rw[hc g0 i h1];exact h3,h4⟩
def hM(w:World)(X:Nat->Prop):Prop:=∀w':World,w.heap.size<=w'.heap.size->(∀b,b<w.heap.size->¬ X b->w'.heap[b]?=w.heap[b]?)->CC w'
theorem hM.cS{w0 w:World}{X X':Nat->Prop}(h:hM w0 X)(hs:w0.heap.size<=w.heap.size)(hb:∀b,b<w0.heap.size->¬ X b->w.heap[b]?=w0.heap[b]?)(hX:∀b,X' b->w0.heap.size<=b\/X b):hM w X':=λw' h1 h2=>
 h w' (Nat.le_trans hs h1) λb b1 b2=>(h2 b (kL b1 hs) λhx=>(hX b hx).elim (λh=>absurd b1 (Nat.not_lt.2 h)) b2).trans (hb b b1 b2)
structure Env where
 m:Nat
 w0:World
 G0:bQ
 X:Nat->Prop
 ν0:Nat->Value
 tC:hM w0 X
 tg:E8 G0
 ds:List Deferred
def Env.may(E:Env)(g:Nat):Prop:=E.w0.heap.size<=g\/E.X g
structure St where
 T:Nat->Option D
 H:Nat->Option aM
 nm:Nat->Bool
def T7(es:Array MapEntry)(clock:Nat):Prop:=(∀x∈es.toList,x.born<clock)/\(es.toList.map (·.born)).Nodup
def eR(E:Env)(ν:Nat->Value)(nm:Nat->Bool)(w:World)(G:bQ)(k:Nat):aM->Prop
 |.box e ds=>∃g cur,ν k = .pointer (some ⟨g,0,none⟩)/\E.may g/\w.heap[g]?=some (.cells cur e (0,0))/\G g=0/\cur.size=ds.length /\
     (∀(i:Nat)(u:Value)(d:D),cur[i]?=some u->ds[i]?=some d->DR ν nm w G u d/\u.oneCell'=true)
 |.row e s n ts st=>∃xs,w.ownsRow 0 e s (ν k) n xs/\xs.length=ts.length/\(∀(i:Nat)(u:Value)(t:Tree),xs[i]?=some u->ts[i]?=some t->TR w G u t) /\
     ∀g,aQ (ν k)=some g->E.may g/\G g=if st then n*s else 0
 |.nest e e' s ls=>∃xs,w.ownsRow 0 e 1 (ν k) ls.length xs /\
     (∀(i:Nat)(x:Value)(p:Nat×List Tree),xs[i]?=some x->ls[i]?=some p->∃ys,w.ownsRow 0 e' s x p.1 ys/\ys.length=p.2.length/\(∀(i:Nat)(u:Value)(t:Tree),ys[i]?=some u->p.2[i]?=some t->TR w G u t)/\∀g,aQ x=some g->E.may g/\G g=0) /\
     (∀(i j:Nat)(x y:Value),i≠j->xs[i]?=some x->xs[j]?=some y->∀g,aQ x=some g->aQ y≠some g)/\(∀(i:Nat)(x:Value),xs[i]?=some x->∀g,aQ x=some g->aQ (ν k)≠some g) /\
     ∀g,aQ (ν k)=some g->E.may g/\G g=ls.length
 |.mp l=>∃g es clock,ν k = .map (some g)/\E.may g/\w.heap[g]?=some (.map es clock)/\G g=0/\T7 es clock/\es.size=l.length /\
     ∀(i:Nat)(en:MapEntry)(p:Value×D),es[i]?=some en->l[i]?=some p->en.key=p.1/\DR ν nm w G en.val p.2
 |.it s pos=>∃g,ν k = .pointer (some ⟨g,0,none⟩)/\E.may g/\w.heap[g]?=some (.stringIter s pos)/\G g=0
 |.bI e e' m s n cs=>∃xs,w.ownsRow 0 e m (ν k) n xs/\xs.length=cs.length /\
     (∀(i:Nat)(x:Value)(d:D),xs[i]?=some x->cs[i]?=some (.dH d)->DR ν nm w G x d/\x.oneCell'=true) /\
     (∀(i:Nat)(x:Value)(q:Nat)(ts:List Tree),xs[i]?=some x->cs[i]?=some (.cE q ts)->∃ys,w.ownsRow 0 e' s x q ys/\ys.length=ts.length/\(∀(i:Nat)(u:Value)(t:Tree),ys[i]?=some u->ts[i]?=some t->TR w G u t)/\∀g,aQ x=some g->E.may g/\G g=0) /\
     (∀(i j:Nat)(x y:Value)(q q':Nat)(ts ts':List Tree),i≠j->xs[i]?=some x->xs[j]?=some y->cs[i]?=some (.cE q ts)->cs[j]?=some (.cE q' ts')->∀g,aQ x=some g->aQ y≠some g)/\(∀(i:Nat)(x:Value)(q:Nat)(ts:List Tree),xs[i]?=some x->cs[i]?=some (.cE q ts)->∀g,aQ x=some g->aQ (ν k)≠some g) /\
     ∀g,aQ (ν k)=some g->E.may g/\G g=0
structure Kept(E:Env)(w:World):Prop where
 os:w.os=E.w0.os
 tape:w.tape=E.w0.tape
 output:w.output=E.w0.output
 size:E.w0.heap.size<=w.heap.size
 block:∀b,b<E.w0.heap.size->¬ E.X b->w.heap[b]?=E.w0.heap[b]?
structure Inv(E:Env)(σ:St)(ν:Nat->Value)(G:bQ)(w:World)(tm:Array Value):Prop where
 kept:Kept E w
 cS:∀b i u,Cell E.w0 E.G0 b i u->Cell w G b i u
 eL:∀k,50<=k->k<100->ν k=E.ν0 k
 g0:∀b,b<E.w0.heap.size->¬ E.X b->G b=E.G0 b
 sz:tm.size=E.m
 T:∀t d,σ.T t=some d->∃v,tm[t]?=some v/\DR ν σ.nm w G v d
 H:∀k o,σ.H k=some o->σ.nm k=true/\eR E ν σ.nm w G k o
 cF:∀k o k' o',σ.H k=some o->σ.H k'=some o'->k≠k'->∀g,bK w (ν k) o g->¬ bK w (ν k') o' g
def R(E:Env)(σ:St)(tm:Array Value)(w:World):Prop:=∃ν G,Inv E σ ν G w tm
theorem Inv.tg{E:Env}{σ:St}{ν:Nat->Value}{G:bQ}{w:World}{tm:Array Value}(I:Inv E σ ν G w tm):E8 G:=λg vs h=>by
 rcases Nat.eq_zero_or_pos vs.length with h0|h0
 .omega
 .have hi:vs.length-1<vs.length:=by omega
  have hc:=aAe (E.tC E.w0 (bX _) λ_ _ _=>rfl) h (bM hi);have:=(I.cS g (vs.length-1) _ ⟨hc,by have:=E.tg g vs h;omega⟩).2;omega
theorem Inv.FW{E:Env}{σ:St}{ν:Nat->Value}{G:bQ}{w:World}{tm:Array Value}(I:Inv E σ ν G w tm){g:Nat}{vs:List Value}(h:AO g=some vs)(i:Nat)(u:Value)(hu:vs[i]?=some u):Cell w G g i u:=
 I.cS g i u ⟨aAe (E.tC E.w0 (bX _) λ_ _ _=>rfl) h hu,kL (bP.1 hu).1 (E.tg g vs h)⟩
theorem Kept.dI{E:Env}{w w':World}(h:Kept E w)(hA:bB w w'):Kept E w':=
 ⟨hA.os.trans h.os,hA.tape.trans h.tape,hA.output.trans h.output,Nat.le_trans h.size hA.size,λb hb hX=>(hA.block b (kL hb h.size)).trans (h.block b hb hX)⟩
theorem Cell.lt{w:World}{G:bQ}{b i:Nat}{u:Value}(h:Cell w G b i u):b<w.heap.size:=World.block_lt_of_cell? w ⟨b,i,none⟩ h.1
theorem Cell.dI{w w':World}{G G':bQ}(hA:bB w w')(hG:∀b,b<w.heap.size->G' b=G b){b i:Nat}{u:Value}(h:Cell w G b i u):Cell w' G' b i u:=
 ⟨(hA.cell h.lt).trans h.1,by rw[hG b h.lt];exact h.2⟩
theorem FR{w:World}{g:Nat}{o:Obj}(h:w.heap[g]?=some o):g<w.heap.size:=(eF.1 h).1
theorem TG{v:Value}{g:Nat}:v.ownBlock=some g->aQ v=some g:=by
 intro h;unfold Value.ownBlock at h;split at h
 .simpa[aQ]using h
 .cases h
theorem iB{w:World}{base:Nat}{e:TypeId}{s:Nat}{v:Value}{n:Nat}{xs:List Value}(h:w.ownsRow base e s v n xs):aQ v=v.ownBlock:=by
 rcases h.2 with⟨rfl,_⟩|⟨g,cap,cur,rfl,_⟩ <;> rfl
theorem kV{w:World}{base:Nat}{e:TypeId}{s:Nat}{v:Value}{n:Nat}{xs:List Value}(h:w.ownsRow base e s v n xs):v.oneCell'=true:=by
 rcases h.2 with⟨rfl,_⟩|⟨g,cap,cur,rfl,_⟩ <;> rfl
theorem kS{w:World}{e:TypeId}{v:Value}{m n:Nat}{xs:List Value}(h:w.ownsRow 0 e m v n xs){g i:Nat}(hg:aQ v=some g)(hi:i<xs.length):w.cell? ⟨g,i,none⟩=xs[i]?:=by
 rcases h.2 with⟨rfl,h0⟩|⟨g0,cap,cur,hv,_,r2,_,_,_,r6⟩
 .cases hg
 .rw[hv]at hg
  cases hg;rw[h.1]at hi;rw[<-r6,eY,aE (by omega)];simp[World.cell?,r2]
theorem eR.mono{E:Env}{ν ν':Nat->Value}{nm nm':Nat->Bool}{w w':World}{G G':bQ}{k:Nat}{o:aM}(hk:nm k=true)(hn:∀k,nm k=true->nm' k=true/\ν' k=ν k)
    (hx:∀b i u,Cell w G b i u->Cell w' G' b i u) (hb:∀g,bK w (ν k) o g->w'.heap[g]?=w.heap[g]?/\G' g=G g) (h:eR E ν nm w G k o):eR E ν' nm' w' G' k o:=by
 have hxx:=hx;have mv:∀{e:TypeId}{s n:Nat}{v:Value}{xs:List Value},(∀g,aQ v=some g->w'.heap[g]?=w.heap[g]?)->w.ownsRow 0 e s v n xs->w'.ownsRow 0 e s v n xs:=λhv h1=>by
  refine⟨h1.1,?_⟩;rcases h1.2 with h|⟨g,cap,cur,hvv,r1,r2,r3⟩
  .exact .inl h
  .exact .inr ⟨g,cap,cur,hvv,r1,by rw[hv g (by rw[hvv];rfl)];exact r2,r3⟩
 cases o with
 |it s pos=>
   obtain⟨g,h1,h2,h3,h4⟩:=h;obtain⟨q1,q2⟩:=hb g (dT (by rw[h1];rfl));exact⟨g,by rw[(hn k hk).2];exact h1,h2,by rw[q1];exact h3,by rw[q2];exact h4⟩
 |mp l=>
   obtain⟨g,es,clock,h1,h2,h3,h4,hs,h5,h6⟩:=h;obtain⟨q1,q2⟩:=hb g (dT (by rw[h1];rfl));exact⟨g,es,clock,by rw[(hn k hk).2];exact h1,h2,by rw[q1];exact h3,by rw[q2];exact h4,hs,h5,λi en p he hp=>⟨(h6 i en p he hp).1,(h6 i en p he hp).2.mono hn hx⟩⟩
 |bI e e' m s n cs=>
   obtain⟨xs,h1,hl,hd,h2,h3,h4,h5⟩:=h;have hin:∀(i:Nat)(x:Value)(q:Nat)(ts:List Tree),xs[i]?=some x->cs[i]?=some (.cE q ts)->∀g,aQ x=some g->bK w (ν k) (.bI e e' m s n cs) g:=λi x q ts hx hc g hg=>by
    have hi:=(bP.1 hx).1;rcases h1.2 with⟨_,h0⟩|⟨g0,cap,cur,hv,_⟩
    .rw[h1.1,h0]at hi;omega
    .refine .inr ⟨g0,i,x,q,ts,by rw[hv];rfl,hc,?_,hg⟩
     rw[kS h1 (by rw[hv];rfl) hi];exact hx
   refine⟨xs,by rw[(hn k hk).2];exact mv (λg hg=>(hb g (dT hg)).1) h1,hl,λi x d hx hc=>⟨(hd i x d hx hc).1.mono hn hxx,(hd i x d hx hc).2⟩,λi x q ts hx hc=>?_,h3,λi x q ts hx hc g hg=>by rw[(hn k hk).2];exact h4 i x q ts hx hc g hg,λg hg=>?_⟩
   .obtain⟨ys,y1,y2,y3,y4⟩:=h2 i x q ts hx hc
    exact⟨ys,mv (λg hg=>(hb g (hin i x q ts hx hc g hg)).1) y1,y2,λi u t hu ht=>(y3 i u t hu ht).mono ‹_›,λg hg=>by rw[(hb g (hin i x q ts hx hc g hg)).2];exact y4 g hg⟩
   .rw[(hn k hk).2]at hg
    rw[(hb g (dT hg)).2];exact h5 g hg
 |nest e e' s ls=>
   obtain⟨xs,h1,h2,h3,h4,h5⟩:=h;have hin:∀(i:Nat)(x:Value),xs[i]?=some x->∀g,aQ x=some g->bK w (ν k) (.nest e e' s ls) g:=λi x hx g hg=>by
    have hi:i<ls.length:=by have:=(bP.1 hx).1;rw[h1.1]at this;omega
    rcases h1.2 with⟨_,h0⟩|⟨g0,cap,cur,hv,_,r2,_,_,_,r6⟩
    .omega
    .refine .inr ⟨g0,i,x,by rw[hv];rfl,hi,?_,hg⟩
     rw[<-r6,eY,aE (by omega)]at hx;simp only[World.cell?,r2];simpa using hx
   refine⟨xs,by rw[(hn k hk).2];exact mv (λg hg=>(hb g (dT hg)).1) h1,λi x p hx hp=>?_,h3,λi x hx g hg=>by rw[(hn k hk).2];exact h4 i x hx g hg,λg hg=>?_⟩
   .obtain⟨ys,y1,y2,y3,y4⟩:=h2 i x p hx hp
    exact⟨ys,mv (λg hg=>(hb g (hin i x hx g hg)).1) y1,y2,λi u t hu ht=>(y3 i u t hu ht).mono ‹_›,λg hg=>by rw[(hb g (hin i x hx g hg)).2];exact y4 g hg⟩
   .rw[(hn k hk).2]at hg
    rw[(hb g (dT hg)).2];exact h5 g hg
 |box e ds=>
   obtain⟨g,cur,h1,h2,h3,h4,h5,h6⟩:=h;obtain⟨q1,q2⟩:=hb g (dT (by rw[h1];rfl));exact⟨g,cur,by rw[(hn k hk).2];exact h1,h2,by rw[q1];exact h3,by rw[q2];exact h4,h5,λi u d hu hd=>⟨(h6 i u d hu hd).1.mono hn hx,(h6 i u d hu hd).2⟩⟩
 |row e s n ts st=>
   obtain⟨xs,h1,h2,h3,h4⟩:=h;refine⟨xs,?_,h2,λi u t hu ht=>(h3 i u t hu ht).mono hx,λg hg=>?_⟩
   .rw[(hn k hk).2]
    refine⟨h1.1,?_⟩;rcases h1.2 with h|⟨g,cap,cur,hv,r1,r2,r3⟩
    .exact .inl h
    .exact .inr ⟨g,cap,cur,hv,r1,by rw[(hb g (dT (by rw[hv];rfl))).1];exact r2,r3⟩
   .rw[(hn k hk).2]at hg
    rw[(hb g (dT hg)).2];exact h4 g hg
theorem eR.pN{E:Env}{ν:Nat->Value}{nm:Nat->Bool}{w:World}{G:bQ}{k:Nat}{o:aM}(h:eR E ν nm w G k o){g:Nat}(hg:aQ (ν k)=some g):g<w.heap.size:=by
 cases o with
 |box e ds=>
   obtain⟨g',cur,h1,h2,h3,_⟩:=h;rw[h1]at hg;simp only[aQ,gD]at hg;subst hg;exact FR h3
 |row e s n ts st=>
   obtain⟨xs,h1,_⟩:=h;exact(h1.lt g (by rw[<-iB h1];exact hg)).2
 |nest e e' s ls=>
   obtain⟨xs,h1,_⟩:=h;exact(h1.lt g (by rw[<-iB h1];exact hg)).2
 |bI e e' m s n cs=>
   obtain⟨xs,h1,_⟩:=h;exact(h1.lt g (by rw[<-iB h1];exact hg)).2
 |it s pos=>
   obtain⟨g',h1,h2,h3,_⟩:=h;rw[h1]at hg;simp only[aQ,gD]at hg;subst hg;exact FR h3
 |mp l=>
   obtain⟨g',es,clock,h1,h2,h3,_⟩:=h;rw[h1]at hg;simp only[aQ,gD]at hg;subst hg;exact FR h3
theorem tF{w:World}{e:TypeId}{v:Value}{n:Nat}{xs:List Value}(h:w.ownsRow 0 e 1 v n xs){g i:Nat}(hg:aQ v=some g)(hi:i<n):w.cell? ⟨g,i,none⟩=xs[i]?:=by
 rcases h.2 with⟨rfl,h0⟩|⟨g0,cap,cur,hv,_,r2,_,_,_,r6⟩
 .cases hg
 .rw[hv]at hg
  cases hg;rw[<-r6,eY,aE (by omega)];simp[World.cell?,r2]
theorem eR.ft{E:Env}{ν:Nat->Value}{nm:Nat->Bool}{w:World}{G:bQ}{k:Nat}{o:aM}(h:eR E ν nm w G k o){g:Nat}(hg:bK w (ν k) o g):g<w.heap.size/\E.may g:=by
 cases o with
 |box e ds=>obtain⟨g',cur,h1,h2,h3,_⟩:=id h;have hg:aQ (ν k)=some g:=hg;exact⟨h.pN hg,by rw[h1]at hg;cases hg;exact h2⟩
 |row e s n ts st=>obtain⟨xs,h1,h2,h3,h4⟩:=id h;have hg:aQ (ν k)=some g:=hg;exact⟨h.pN hg,(h4 g hg).1⟩
 |it s pos=>obtain⟨g',h1,h2,h3,_⟩:=id h;have hg:aQ (ν k)=some g:=hg;exact⟨h.pN hg,by rw[h1]at hg;cases hg;exact h2⟩
 |mp l=>obtain⟨g',es,clock,h1,h2,h3,_⟩:=id h;have hg:aQ (ν k)=some g:=hg;exact⟨h.pN hg,by rw[h1]at hg;cases hg;exact h2⟩
 |bI e e' m s n cs=>
   obtain⟨xs,h1,hl,hd,h2,h3,h4,h5⟩:=id h;rcases hg with hg|⟨g0,i,x,q,ts,q1,q2,q3,q4⟩
   .exact⟨h.pN hg,(h5 g hg).1⟩
   .have hi:i<xs.length:=by rw[hl];exact(bP.1 q2).1
    rw[kS h1 q1 hi]at q3;obtain⟨ys,y1,_,_,y4⟩:=h2 i x q ts q3 q2;exact⟨(y1.lt g (by rw[<-iB y1];exact q4)).2,(y4 g q4).1⟩
 |nest e e' s ls=>
   obtain⟨xs,h1,h2,h3,h4,h5⟩:=id h;rcases hg with hg|⟨g0,i,x,q1,q2,q3,q4⟩
   .exact⟨h.pN hg,(h5 g hg).1⟩
   .rw[tF h1 q1 q2]at q3
    obtain⟨p,hp⟩:∃p,ls[i]?=some p:=⟨_,bM q2⟩
    obtain⟨ys,y1,_,_,y4⟩:=h2 i x p q3 hp;exact⟨(y1.lt g (by rw[<-iB y1];exact q4)).2,(y4 g q4).1⟩
theorem Inv.dI{E:Env}{σ:St}{ν:Nat->Value}{G G':bQ}{w w':World}{tm:Array Value}(I:Inv E σ ν G w tm)(hA:bB w w')(hG:∀b,b<w.heap.size->G' b=G b):Inv E σ ν G' w' tm where
 kept:=I.kept.dI hA
 cS:=λb i u h=>(I.cS b i u h).dI hA hG
 eL:=I.eL
 g0:=λb hb hX=>(hG b (kL hb I.kept.size)).trans (I.g0 b hb hX)
 sz:=I.sz
 T:=λt d h=>let⟨v,hv,hd⟩:=I.T t d h;⟨v,hv,hd.mono (λ_ h=>⟨h,rfl⟩) (λ_ _ _ hc=>hc.dI hA hG)⟩
 H:=λk o h=>let⟨h1,h2⟩:=I.H k o h;⟨h1,h2.mono h1 (λ_ h=>⟨h,rfl⟩) (λ_ _ _ hc=>hc.dI hA hG) (λg hg=>⟨hA.block g (h2.ft hg).1,hG g (h2.ft hg).1⟩)⟩
 cF:=λk o k' o' h h' hne g hg hg'=>by
  have q:=(I.H k o h).2;have q':=(I.H k' o' h').2;rw[qY (λg hg=>hA.block g (q.pN hg))]at hg;rw[qY (λg hg=>hA.block g (q'.pN hg))]at hg';exact I.cF k o k' o' h h' hne g hg hg'
def look{α:Type}(k:Nat):List (Nat×α)->Option α
 |[]=>none
 |(k',x)::l=>if k'=k then some x else look k l
theorem jW{α:Type}{k:Nat}{x:α}:∀{l:List (Nat×α)},look k l=some x->(k,x)∈l
 |[],h=>by cases h
 |p::l,h=>by
   unfold look at h;split at h
   .rename_i hp;cases h;rw[<-hp];exact List.mem_cons_self ..
   .exact List.mem_cons_of_mem _ (jW h)
abbrev Wr:=List (Nat×Option aM)
def St.aN(σ:St)(dst:Option Tmp)(d:D)(W:Wr)(fr:Nat):St:=
 ⟨λt=>if dst=some t then some d else σ.T t,λk=>match look k W with |some r=>r |none=>σ.H k,λk=>σ.nm k||(decide (fr<=k)&&decide (k<fr+8))⟩
theorem Inv.put{E:Env}{σ:St}{ν:Nat->Value}{G:bQ}{w:World}{tm:Array Value}(I:Inv E σ ν G w tm){dst:Option Tmp}{v:Value}{d:D}(hd:DR ν σ.nm w G v d)(ht:∀t,dst=some t->t<E.m)(fr:Nat)(a:Act)(ha:a.tmps=tm):
    Inv E (σ.aN dst d [] fr) ν G w (a.put dst v).tmps where
 kept:=I.kept
 cS:=I.cS
 eL:=I.eL
 g0:=I.g0
 sz:=by cases dst <;> simp[Act.put,ha,I.sz]
 T:=λt d' h=>by
  simp only[St.aN]at h;split at h
  .rename_i he
   cases h;subst he;refine⟨v,?_,hd.mono (λk hk=>⟨by simp[St.aN,hk],rfl⟩) (λ_ _ _ hc=>hc)⟩;have:=ht t rfl;simp[Act.put,ha,I.sz,this]
  .rename_i he
   obtain⟨u,hu,hdu⟩:=I.T t d' h;refine⟨u,?_,hdu.mono (λk hk=>⟨by simp[St.aN,hk],rfl⟩) (λ_ _ _ hc=>hc)⟩;cases dst with
   |none=>simpa[Act.put,ha]using hu
   |some t'=>
     have hne:t'≠t:=λe=>he (by rw[e])
     simp only[Act.put,ha];rw[Array.getElem?_setIfInBounds_ne hne];exact hu
 H:=λk o h=>by
  obtain⟨h1,h2⟩:=I.H k o (by simpa[St.aN,look]using h);exact⟨by simp[St.aN,h1],h2.mono h1 (λk hk=>⟨by simp[St.aN,hk],rfl⟩) (λ_ _ _ hc=>hc) (λ_ _=>⟨rfl,rfl⟩)⟩
 cF:=λk o k' o' h h'=>I.cF k o k' o' (by simpa[St.aN,look]using h) (by simpa[St.aN,look]using h')
end Go.Ab
/- The abstract machine: one operation, statements in a row, and the rules of the code. -/
namespace Go.Ab
open Go.RowKit
def vQ:Value->Bool
 |.agg cs=>cs.toList.all (·.oneCell')
 |.tuple _=>false
 |_=>true
def pC:Value->D
 |.agg cs=>.agg (cs.toList.map λc=>.t (.v c))
 |v=>.t (.v v)
theorem aBo{ν:Nat->Value}{nm:Nat->Bool}{w:World}{G:bQ}{v:Value}(h:vQ v=true):DR ν nm w G v (pC v):=by
 cases v with
 |agg cs=>
   have h1:∀c∈cs.toList,c.oneCell'=true:=cT.1 h
   refine .agg (by simp) (λi u d hu hd=>?_) h1;simp only[cD,Array.getElem?_toList,hu,Option.map_some,gD]at hd;subst hd;exact .t (.v u (h1 u (by rw[gK];exact⟨i,by simpa using hu⟩)))
 |tuple vs=>cases h
 |_=>exact .t (.v _ rfl)
def L7(g:Nat):D:=match AO g with
 |some vs=>.ptr (vs.map .v) 0
 |none=>.t (.v (.pointer (some ⟨g,0,none⟩)))
def St.ev(σ:St):Operand->Option D
 |.tmp t=>σ.T t
 |.const v=>if vQ v then some (pC v)else none
 |.func f=>some (.fn f [])
 |.global g=>some (L7 g)
theorem Inv.ev{E:Env}{σ:St}{ν:Nat->Value}{G:bQ}{w:World}{a:Act}(I:Inv E σ ν G w a.tmps){x:Operand}{d:D}(h:σ.ev x=some d):DR ν σ.nm w G (a.eval x) d:=by
 cases x with
 |tmp t=>
   obtain⟨v,hv,hd⟩:=I.T t d h;have he:a.eval (.tmp t)=v:=by simp[Act.eval,Ak,hv]
   rw[he];exact hd
 |const v=>
   simp only[St.ev]at h;split at h
   .rename_i hc;cases h;exact aBo hc
   .cases h
 |func f=>cases h;exact .fn (by simp) (λi u d hu=>by simp at hu)
 |global g=>
   cases h;show DR ν σ.nm w G (.pointer (some ⟨g,0,none⟩)) (L7 g);unfold L7;split
   .rename_i vs hvs
    have:=DR.ptr (ν:=ν) (nm:=σ.nm) (w:=w) (G:=G) (b:=g) (o:=0) (off:=0) (us:=vs) (ts:=vs.map .v) (by simp) (λi u hu=>by rw[Nat.zero_add];exact I.FW hvs i u hu) (λi u t hu ht=>by
     rw[cD,hu]at ht;cases ht;exact .v u (aU5 hvs (gK.2 ⟨i,hu⟩)))
    exact this
   .exact .t (.v _ rfl)
def aU(P:Program)(o:Oper)(σ:St)(fr:Nat)(d:D)(W:Wr):Prop:=
 ∀(E:Env)(σ₁:St)(a:Act)(w:World),(∀t d,σ.T t=some d->σ₁.T t=some d)->(∀k o,σ.H k=some o->σ₁.H k=some o)->100<=fr->(∀k,fr<=k->k<fr+8->σ₁.nm k=false)->
  (∀t,o.dst=some t->t<E.m)->R E σ₁ a.tmps w->∀Q,o.wp P a w (λa' w'=>a'.defers=a.defers/\R E (σ₁.aN o.dst d W fr) a'.tmps w') Q
theorem St.cP{σ σ₁:St}(hT:∀t d,σ.T t=some d->σ₁.T t=some d){x:Operand}{d:D}(h:σ.ev x=some d):σ₁.ev x=some d:=by
 cases x with
 |tmp t=>exact hT t d h
 |_=>exact h
theorem put_defers(a:Act)(dst:Option Tmp)(v:Value):(a.put dst v).defers=a.defers:=by cases dst <;> rfl
theorem c7{P:Program}{o:Oper}{σ:St}{fr:Nat}{d:D}
    (h:∀(E:Env)(σ₁:St)(ν:Nat->Value)(G:bQ)(w:World)(a:Act),(∀k o,σ.H k=some o->σ₁.H k=some o)->Inv E σ₁ ν G w a.tmps->(∀x d,σ.ev x=some d->DR ν σ₁.nm w G (a.eval x) d)->
     ∃v,(execOp a.eval o).run P w = .ok (.value v) w/\DR ν σ₁.nm w G v d):aU P o σ fr d []:=by
 intro E σ₁ a w hT hH _ _ hd hR Q;obtain⟨ν,G,I⟩:=hR;obtain⟨v,hr,hv⟩:=h E σ₁ ν G w a hH I (λx d hx=>I.ev (St.cP hT hx));unfold Oper.wp;rw[hr,Oper.upon_value];exact⟨put_defers ..,ν,G,I.put hv hd fr a rfl⟩
def A9(P:Program)(o:Oper)(σ:St)(fr:Nat){ι:Type}(C:ι->Prop)(d:ι->D)(W:ι->Wr):Prop:=
 ∀(E:Env)(σ₁:St)(a:Act)(w:World),(∀t d,σ.T t=some d->σ₁.T t=some d)->(∀k o,σ.H k=some o->σ₁.H k=some o)->100<=fr->(∀k,fr<=k->k<fr+8->σ₁.nm k=false)->
  (∀t,o.dst=some t->t<E.m)->R E σ₁ a.tmps w->∀Q,o.wp P a w (λa' w'=>a'.defers=a.defers/\∃i,C i/\R E (σ₁.aN o.dst (d i) (W i) fr) a'.tmps w') Q
theorem aU.n{P:Program}{o:Oper}{σ:St}{fr:Nat}{d:D}{W:Wr}(h:aU P o σ fr d W):A9 P o σ fr (λ_:Unit=>True) (λ_=>d) (λ_=>W):=λE σ₁ a w h1 h2 h3 h4 h5 h6 Q=>Oper.wp_mono (λ_ _ h=>⟨h.1,(),trivial,h.2⟩) (h E σ₁ a w h1 h2 h3 h4 h5 h6 Q)
def pX(ops:Array Oper)(o:Oper)(σ:St):Prop:=
 o.guard=none\/∃j want t,o.guard=some (j,want)/\((ops[j]?).bind (·.dst))=some t/\σ.T t=some (.t (.v (.bool want)))
def Fq(ops:Array Oper)(o:Oper)(σ:St):Prop:=
 ∃j want t d,o.guard=some (j,want)/\((ops[j]?).bind (·.dst))=some t/\σ.T t=some d/\(d = .aT []\/d = .t (.v (.bool (!want))))
def nB(P:Program)(ops:Array Oper)(o:Oper)(σ:St)(fr:Nat)(d:D)(W:Wr):Prop:=
 (pX ops o σ/\aU P o σ fr d W)\/(Fq ops o σ/\d = .aT []/\W=[])
theorem EZ{ν:Nat->Value}{nm:Nat->Bool}{w:World}{G:bQ}:DR ν nm w G undef (.aT []):=.aT (by rfl) (λi u d hu=>by simp at hu)
theorem bY{ν:Nat->Value}{nm:Nat->Bool}{w:World}{G:bQ}{v x:Value}(h:DR ν nm w G v (.t (.v x))):v=x:=by
 cases h with|t h=>cases h with|v=>rfl
theorem aQH{ν:Nat->Value}{nm:Nat->Bool}{w:World}{G:bQ}{v:Value}(h:DR ν nm w G v (.aT [])):v=undef:=by
 cases h with
 |aT hl h=>
   rename_i vs;have:vs = #[]:=by simpa using hl
   rw[this];rfl
theorem pX.wanted{ops:Array Oper}{o:Oper}{σ σ₁:St}{E:Env}{ν:Nat->Value}{G:bQ}{w:World}{a:Act}(h:pX ops o σ)(hT:∀t d,σ.T t=some d->σ₁.T t=some d)(I:Inv E σ₁ ν G w a.tmps):
    Region.wanted o (yielded ops a.tmps)=true:=by
 rcases h with h|⟨j,want,t,h1,h2,h3⟩
 .simp[Region.wanted,h]
 .obtain⟨v,hv,hd⟩:=I.T t _ (hT t _ h3)
  have:=bY hd;subst this;simp[Region.wanted,h1,yielded,h2,hv]
theorem Fq.wanted{ops:Array Oper}{o:Oper}{σ σ₁:St}{E:Env}{ν:Nat->Value}{G:bQ}{w:World}{a:Act}(h:Fq ops o σ)(hT:∀t d,σ.T t=some d->σ₁.T t=some d)(I:Inv E σ₁ ν G w a.tmps):
    Region.wanted o (yielded ops a.tmps)=false:=by
 obtain⟨j,want,t,d,h1,h2,h3,h4⟩:=h;obtain⟨v,hv,hd⟩:=I.T t _ (hT t _ h3);rcases h4 with rfl|rfl
 .have:=aQH hd
  subst this;simp[Region.wanted,h1,yielded,h2,hv,undef]
 .have:=bY hd
  subst this;simp[Region.wanted,h1,yielded,h2,hv]
theorem nB.run{P:Program}{ops:Array Oper}{o:Oper}{σ σ₁:St}{fr:Nat}{d:D}{W:Wr}(h:nB P ops o σ fr d W){E:Env}{a:Act}{w:World}(hT:∀t d,σ.T t=some d->σ₁.T t=some d)(hH:∀k o,σ.H k=some o->σ₁.H k=some o)
    (h100:100<=fr) (hf:∀k,fr<=k->k<fr+8->σ₁.nm k=false) (hd:∀t,o.dst=some t->t<E.m) (hR:R E σ₁ a.tmps w) (K:Act->World->Prop) (Q:Exit->Act->World->Prop)
    (hK:∀a' w',a'.defers=a.defers->R E (σ₁.aN o.dst d W fr) a'.tmps w'->K a' w'):
    if Region.wanted o (yielded ops a.tmps)then o.wp P a w K Q\/(o.asks P a w/\LetsOut Q)else K (a.put o.dst undef) w:=by
 have hR':=hR;obtain⟨ν,G,I⟩:=hR';rcases h with⟨hg,hop⟩|⟨ho,rfl,rfl⟩
 .rw[hg.wanted hT I,aE rfl]
  exact .inl (Oper.wp_mono (λa' w' h=>hK a' w' h.1 h.2) (hop E σ₁ a w hT hH h100 hf hd hR Q))
 .rw[ho.wanted hT I,aC (by simp)]
  exact hK _ _ (put_defers ..) ⟨ν,G,I.put EZ hd fr a rfl⟩
abbrev qN(v:Value):PanicEntry:={ v:=v,recovered:=false }
def rG(P:Program)(o:Oper)(σ:St)(fr:Nat)(v:Value)(W:Wr):Prop:=
 ∀(E:Env)(σ₁:St)(a:Act)(w:World),(∀t d,σ.T t=some d->σ₁.T t=some d)->(∀k o,σ.H k=some o->σ₁.H k=some o)->100<=fr->(∀k,fr<=k->k<fr+8->σ₁.nm k=false)->
  R E σ₁ a.tmps w->o.wp P a w (λ_ _=>False) (λe a' w'=>e = .panic [qN v]/\a'.defers=a.defers/\R E (σ₁.aN none .any W fr) a'.tmps w')
theorem aAX{P:Program}{o:Oper}{a:Act}{K K':Act->World->Prop}{Q Q':Exit->Act->World->Prop}(h:∀a w,K a w->K' a w)(hq:∀e a w,Q e a w->Q' e a w){w:World}
    (hh:o.wp P a w K Q):o.wp P a w K' Q':=by
 have lo:LetsOut Q->LetsOut Q':=λ⟨a,w,h⟩=>⟨a,w,hq _ _ _ h⟩
 unfold Oper.wp at *
 generalize(execOp a.eval o).run P w=r at *
 cases r with
 |ok n w'=>
   cases n <;> simp only[Oper.upon]at hh ⊢ <;>
    first
     |exact h _ _ hh
     |exact Calls.mono hh (λe w'' he=>by cases e <;> first|exact h _ _ he|exact hq _ _ _ he|exact lo he)
     |exact Rows.mono hh (λ_ _ he=>h _ _ he)
 |halt x w'=>cases x <;> simp only[Oper.upon]at hh ⊢ <;> first|exact hq _ _ _ hh|exact hh
def kJ(P:Program)(ops:Array Oper)(Post:Exit->St->Prop):List Oper->Nat->St->Prop
 |[],_,σ=>Post .normal σ
 |o::rest,fr,σ=>(∃d W,nB P ops o σ fr d W/\kJ P ops Post rest (fr+8) (σ.aN o.dst d W fr)) \/
     (∃(ι:Type)(C:ι->Prop)(d:ι->D)(W:ι->Wr),o.guard=none/\A9 P o σ fr C d W/\∀i,C i->kJ P ops Post rest (fr+8) (σ.aN o.dst (d i) (W i) fr)) \/
     ∃v W,pX ops o σ/\rG P o σ fr v W/\Post (.panic [qN v]) (σ.aN none .any W fr)
abbrev mk(T:Nat->Option D)(H:Nat->Option aM)(N:Nat):St:=⟨T,H,λk=>decide (k<N)⟩
theorem R.bound{E:Env}{σ:St}{tm:Array Value}{w:World}{N:Nat}(h:R E σ tm w)(hf:∀k,N<=k->σ.nm k=false):R E (mk σ.T σ.H N) tm w:=by
 obtain⟨ν,G,I⟩:=h;have hn:∀k,σ.nm k=true->decide (k<N)=true/\ν k=ν k:=by
  intro k hk;rcases Ft k N with h|h
  .exact⟨aL h,rfl⟩
  .rw[hf k h]at hk
   cases hk
 exact⟨ν,G,I.kept,I.cS,I.eL,I.g0,I.sz,λt d h=>let⟨v,hv,hd⟩:=I.T t d h;⟨v,hv,hd.mono hn (λ_ _ _ h=>h)⟩,
  λk o h=>let⟨h1,h2⟩:=I.H k o h;⟨(hn k h1).1,h2.mono h1 hn (λ_ _ _ h=>h) (λ_ _=>⟨rfl,rfl⟩)⟩,I.cF⟩
def St.free(σ:St)(N:Nat):Prop:=100<=N/\∀k,N<=k->σ.nm k=false
theorem aTd{T:Nat->Option D}{H:Nat->Option aM}{N:Nat}(h:100<=N):(mk T H N).free N:=⟨h,λk hk=>by simp;exact hk⟩
theorem St.SW{σ:St}{N:Nat}(h:σ.free N)(dst:Option Tmp)(d:D)(W:Wr):(σ.aN dst d W N).free (N+8):=⟨by have:=h.1;omega,λk hk=>by
 simp[St.aN,h.2 k (by omega)];omega⟩
theorem kJ.run{P:Program}{ops:Array Oper}{Post:Exit->St->Prop}{E:Env}{Q:Exit->Act->World->Prop}:∀(l:List Oper)(fr:Nat)(σ:St)(a:Act)(w:World),(∀o∈l,∀t,o.dst=some t->t<E.m)->σ.free fr->kJ P ops Post l fr σ->R E σ a.tmps w->
    (∀e σ' a' w',Post e σ'->σ'.free (fr+8*l.length)->a'.defers=a.defers->R E σ' a'.tmps w'->Q e a' w')->wpList P ops Q l a w
 |[],fr,σ,a,w,_,hf,h,hR,hQ=>hQ .normal σ a w h hf rfl hR
 |o::rest,fr,σ,a,w,hd,hf,h,hR,hQ=>by
   unfold wpList;rcases h with⟨d,W,hs,hr⟩|⟨ι,C,d,W,hg,hs,hr⟩|⟨v,W,hg,hs,hp⟩
   case inr.inl=>
    rw[aE (by simp[Region.wanted,hg])];refine .inl (Oper.wp_mono (λa' w' h=>?_) (hs E σ a w (λ_ _ h=>h) (λ_ _ h=>h) hf.1 (λk hk _=>hf.2 k hk) (hd o (by simp)) hR Q));obtain⟨he,i,hi,hR'⟩:=h;exact kJ.run rest (fr+8) _ a' w' (λo ho=>hd o (by simp[ho])) (St.SW hf _ _ _) (hr i hi) hR' (λe σ' a'' w'' hp hf' he' hR''=>hQ e σ' a'' w'' hp (by rw[dK,show fr+8*(rest.length+1)=fr+8+8*rest.length by omega];exact hf') (he'.trans he) hR'')
   case inr.inr=>
    obtain⟨ν,G,I⟩:=id hR;rw[hg.wanted (λ_ _ h=>h) I,aE rfl];refine .inl (aAX (λ_ _ h=>h.elim) (λe a' w' h=>?_) (hs E σ a w (λ_ _ h=>h) (λ_ _ h=>h) hf.1 (λk hk _=>hf.2 k hk) hR));obtain⟨rfl,he,hR'⟩:=h;have hf':=St.SW hf none .any W;exact hQ _ _ a' w' hp ⟨by have:=hf.1;omega,λk hk=>hf'.2 k (by rw[dK]at hk;omega)⟩ he hR'
   exact hs.run (λ_ _ h=>h) (λ_ _ h=>h) hf.1 (λk hk _=>hf.2 k hk) (hd o (by simp)) hR _ _ (λa' w' he hR'=>
    kJ.run rest (fr+8) _ a' w' (λo ho=>hd o (by simp[ho])) (St.SW hf _ _ _) hr hR' (λe σ' a'' w'' hp hf' he' hR''=>hQ e σ' a'' w'' hp (by rw[dK,show fr+8*(rest.length+1)=fr+8+8*rest.length by omega];exact hf') (he'.trans he) hR''))
theorem R.F3{E:Env}{σ:St}{tm:Array Value}{w:World}(h:R E σ tm w)(ds:List Deferred):R { E with ds:=ds } σ tm w:=by
 obtain⟨ν,G,I⟩:=h;exact⟨ν,G,⟨⟨I.kept.os,I.kept.tape,I.kept.output,I.kept.size,I.kept.block⟩,I.cS,I.eL,I.g0,I.sz,I.T,I.H,I.cF⟩⟩
def fX(P:Program)(E:Env)(c:Code)(Q:Exit->St->Prop)(σ:St):Prop:=
 ∀a w,a.defers=E.ds->R E σ a.tmps w->c.wp P (λe a' w'=>a'.defers=E.ds/\∃σ',Q e σ'/\R E σ' a'.tmps w') a w
def cV(E:Env)(σ σ':St):Prop:=∀tm w,R E σ tm w->R E σ' tm w
def aWs(K:St->Prop)(Q:Exit->St->Prop):Exit->St->Prop
 |.normal,σ=>K σ
 |e,σ=>Q e σ
def Tu(id:Nat)(Q:Exit->St->Prop):Exit->St->Prop
 |.exit id',σ=>if id'=id then Q .normal σ else Q (.exit id') σ
 |e,σ=>Q e σ
def aXC{ι:Type}(I:ι->St)(C:ι->Prop)(μ:ι->Nat)(E:Env)(i:ι)(Q:Exit->St->Prop):Exit->St->Prop
 |.normal,σ=>∃j,C j/\μ j<μ i/\cV E σ (I j)
 |e,σ=>Q e σ
section
variable{P:Program}{E:Env}{Q:Exit->St->Prop}{σ:St}
theorem rA{c:Code}{σ':St}(h:cV E σ σ')(k:fX P E c Q σ'):fX P E c Q σ:=λa w hd hR=>k a w hd (h _ _ hR)
theorem q8{c:Code}{Q':Exit->St->Prop}(h:fX P E c Q' σ)(hq:∀e σ',Q' e σ'->Q e σ'):fX P E c Q σ:=λa w hd hR=>
 wp_mono (h a w hd hR) λe _ _ ⟨h1,σ',h2,h3⟩=>⟨h1,σ',hq e σ' h2,h3⟩
theorem kY{x y:Code}(h:fX P E x (aWs (fX P E y Q) Q) σ):fX P E (.seq x y) Q σ:=λa w hd hR=>
 wp_seq (wp_mono (h a w hd hR) λe a' w' ⟨h1,σ',h2,h3⟩=>by
  cases e with
  |normal=>exact h2 a' w' h1 h3
  |_=>exact⟨h1,σ',h2,h3⟩)
theorem TM(h:Q .normal σ):fX P E .skip Q σ:=λ_ _ hd hR=>wp_skip ⟨hd,σ,h,hR⟩
theorem aWf{l:Nat}(h:Q .normal σ):fX P E (.label l) Q σ:=λ_ _ hd hR=>wp_label ⟨hd,σ,h,hR⟩
theorem aWg{id:Nat}(h:Q (.exit id) σ):fX P E (.exit id) Q σ:=λ_ _ hd hR=>wp_exit ⟨hd,σ,h,hR⟩
theorem TN(h:Q .ret σ):fX P E .ret Q σ:=λ_ _ hd hR=>wp_ret ⟨hd,σ,h,hR⟩
theorem AZ{c:Operand}{x y:Code}{b:Bool}(hc:σ.ev c=some (.t (.v (.bool b))))(ht:b=true->fX P E x Q σ)(hf:b=false->fX P E y Q σ):fX P E (.cond c x y) Q σ:=λa w hd hR=>by
 have he:a.eval c = .bool b:=by
  obtain⟨ν,G,I⟩:=hR;exact bY (I.ev hc)
 exact wp_cond_split he (λhb=>ht hb a w hd hR) (λhb=>hf hb a w hd hR)
theorem aD4{id:Nat}{c:Code}(h:fX P E c (Tu id Q) σ):fX P E (.block id c) Q σ:=λa w hd hR=>
 wp_block (wp_mono (h a w hd hR) λe a' w' ⟨h1,σ',h2,h3⟩=>by
  cases e with
  |exit id'=>
    simp only[Tu]at h2;simp only[Exit.inBlock];split
    .rename_i hi;rw[aE hi]at h2;exact⟨h1,σ',h2,h3⟩
    .rename_i hi;rw[aC hi]at h2;exact⟨h1,σ',h2,h3⟩
  |_=>exact⟨h1,σ',h2,h3⟩)
def aWz(Q:Exit->St->Prop):Exit->St->Prop
 |.goto _,_=>False
 |e,s=>Q e s
theorem aWd{c:Code}(h:fX P E c (aWz Q) σ):fX P E (.scope c) Q σ:=λa w hd hR=>
 wp_scope_straight (wp_mono (h a w hd hR) λe a' w' ⟨h1,σ',h2,h3⟩=>by
  cases e with
  |goto l=>exact h2.elim
  |_=>exact⟨h1,σ',h2,h3⟩)
theorem aWe{ι:Type}{c:Code}(I:ι->St)(C:ι->Prop)(μ:ι->Nat)(i0:ι)(h0:cV E σ (I i0))(hC:C i0)(round:∀i,C i->fX P E c (aXC I C μ E i Q) (I i)):fX P E (.loop c) Q σ:=λa w hd hR b k cs=>by
 have key:∀n i,μ i=n->C i->∀a w,a.defers=E.ds->R E (I i) a.tmps w->∃e a' w',(a'.defers=E.ds/\∃σ',Q e σ'/\R E σ' a'.tmps w')/\Arrives P (lone (b.at a (.code c :: .inLoop c::k)) cs w) b k cs e a' w':=by
  intro n
  induction n using MD with
  |_ n ih=>
    intro i hn hi a w hd hR;obtain⟨e,a₁,w₁,⟨h1,σ',h2,h3⟩,harr⟩:=round i hi a w hd hR b (.inLoop c::k) cs;cases e with
    |normal=>
      obtain⟨j,hj,hlt,hE⟩:=h2;obtain⟨e₂,a₂,w₂,hq₂,harr₂⟩:=ih (μ j) (hn ▸ hlt) j rfl hj a₁ w₁ h1 (hE _ _ h3);exact⟨e₂,a₂,w₂,hq₂,.of_steps (Steps.trans harr (.one step_inLoop)) harr₂⟩
    |exit id=>exact⟨_,a₁,w₁,⟨h1,σ',h2,h3⟩,.pass (x:=.inLoop c) rfl (λ_ _=>.inl (by simp)) harr⟩
    |goto l=>exact⟨_,a₁,w₁,⟨h1,σ',h2,h3⟩,.pass (x:=.inLoop c) rfl (λ_ _=>.inl (by simp)) harr⟩
    |ret=>exact⟨_,a₁,w₁,⟨h1,σ',h2,h3⟩,.pass (x:=.inLoop c) rfl (λ_ _=>.inl (by simp)) harr⟩
    |panic ch=>exact⟨_,a₁,w₁,⟨h1,σ',h2,h3⟩,.pass (x:=.inLoop c) rfl (λ_ _=>.inl (by simp)) harr⟩
    |outgrown=>exact⟨_,a₁,w₁,⟨h1,σ',h2,h3⟩,.pass (x:=.inLoop c) rfl (λ_ _=>.inl (by simp)) harr⟩
 obtain⟨e,a',w',hq,harr⟩:=key _ i0 rfl hC a w hd (h0 _ _ hR);exact⟨e,a',w',hq,.of_steps (.one step_loop) harr⟩
theorem nA{id:Nat}{l:List Oper}{T:Nat->Option D}{H:Nat->Option aM}{N M:Nat}(N':Nat)(hE:E.m=M)(hN:100<=N)(hN':N+8*l.length=N')(hm:(l.all λo=>match o.dst with|none=>true|some t=>decide (t<M))=true)
    (h:kJ P l.toArray (λe σ'=>Q e (mk σ'.T σ'.H N')) l N (mk T H N)):fX P E (.region id l.toArray false) Q (mk T H N):=λa w hd hR=>
 wp_region_lit (kJ.run l N (mk T H N) a w (λo ho t ht=>by have:=cT.1 hm o ho;rw[ht]at this;rw[hE];exact cH this) (aTd hN) h hR
  (λ_ σ' a' w' hp hf he hR'=>⟨he.trans hd,_,hp,hR'.bound (by rw[<-hN'];exact hf.2)⟩))
theorem fB{ops:Array Oper}{Post:Exit->St->Prop}{o:Oper}{rest:List Oper}{fr:Nat}{d:D}{W:Wr}(dst:Option Tmp)(fr':Nat)(hd:o.dst=dst)(hf:fr+8=fr')(hg:o.guard=none)(h:aU P o σ fr d W)(r:kJ P ops Post rest fr' (σ.aN dst d W fr)):kJ P ops Post (o::rest) fr σ:=by
 subst hd hf;exact .inl ⟨d,W,.inl ⟨.inl hg,h⟩,r⟩
theorem nX{ops:Array Oper}{Post:Exit->St->Prop}{fr:Nat}(h:Post .normal σ):kJ P ops Post [] fr σ:=h
end
end Go.Ab
/- The abstract machine: states told in other names, contracts of functions, calls. -/
namespace Go.Ab
open Go.RowKit
def bR(H:Nat->Option aM)(d d':D):Prop:=∀(E:Env)(s:St)(ν:Nat->Value)(G:bQ)(w:World)(tm:Array Value),(∀k o,H k=some o->s.H k=some o)->Inv E s ν G w tm->∀v,DR ν s.nm w G v d->DR ν s.nm w G v d'
theorem bR.refl{H:Nat->Option aM}{d:D}:bR H d d:=λ_ _ _ _ _ _ _ _ _ h=>h
theorem bR.trans{H:Nat->Option aM}{a b c:D}(h:bR H a b)(k:bR H b c):bR H a c:=λE s ν G w tm hH I v hv=>k E s ν G w tm hH I v (h E s ν G w tm hH I v hv)
theorem bR.mono{H H':Nat->Option aM}{a b:D}(hH:∀k o,H k=some o->H' k=some o)(h:bR H a b):bR H' a b:=λE s ν G w tm h' I v hv=>h E s ν G w tm (λk o hk=>h' k o (hH k o hk)) I v hv
inductive dN (fl:Bool) (H:Nat->Option aM) (nm':Nat->Bool) (ρ:Nat->Nat):D->D->Prop
 |t {x y:Tree} (h:x=y):dN fl H nm' ρ (.t x) (.t y)
 |nil:dN fl H nm' ρ (.t (.v (.slice none 0 0))) (.t (.sl 0 []))
 |own {k k':Nat} (h:nm' k'=true) (hk:k=ρ k'):dN fl H nm' ρ (.own k) (.own k')
 |ref {k k' off:Nat} (h:nm' k'=true) (hk:k=ρ k'):dN fl H nm' ρ (.ref k off) (.ref k' off)
 |rd {k n:Nat} {e:TypeId} {s:Nat} {ts ts':List Tree} {st:Bool} (h:H k=some (.row e s n ts st)) (hst:(st||fl)=true) (ht:ts=ts') {n':Nat} (hn:n=n'):dN fl H nm' ρ (.own k) (.t (.sl n' ts'))
 |ptr {ts:List Tree} {off:Nat}:dN fl H nm' ρ (.ptr ts off) (.ptr ts off)
 |agg {ds ds':List D} (hl:ds.length=ds'.length) (h:∀(i:Nat)(d d':D),ds[i]?=some d->ds'[i]?=some d'->dN fl H nm' ρ d d'):dN fl H nm' ρ (.agg ds) (.agg ds')
 |aT {ds ds':List D} (hl:ds.length=ds'.length) (h:∀(i:Nat)(d d':D),ds[i]?=some d->ds'[i]?=some d'->dN fl H nm' ρ d d'):dN fl H nm' ρ (.aT ds) (.aT ds')
 |fn {f:FuncId} {ds ds':List D} (hl:ds.length=ds'.length) (h:∀(i:Nat)(d d':D),ds[i]?=some d->ds'[i]?=some d'->dN fl H nm' ρ d d'):dN fl H nm' ρ (.fn f ds) (.fn f ds')
 |any {d:D}:dN fl H nm' ρ d .any
 |via {k k':Nat} {r:Value->Value->Prop} (h:nm' k'=true) (hk:k=ρ k'):dN fl H nm' ρ (.via k r) (.via k' r)
inductive rK (fl:Bool) (H:Nat->Option aM) (nm':Nat->Bool) (ρ:Nat->Nat):List D->List D->Prop
 |nil:rK fl H nm' ρ [] []
 |cons {d d':D} {l l':List D} (h:dN fl H nm' ρ d d') (r:rK fl H nm' ρ l l'):rK fl H nm' ρ (d::l) (d'::l')
theorem rK.get{fl:Bool}{H:Nat->Option aM}{nm':Nat->Bool}{ρ:Nat->Nat}{l l':List D}(h:rK fl H nm' ρ l l'):l.length=l'.length/\∀(i:Nat)(d d':D),l[i]?=some d->l'[i]?=some d'->dN fl H nm' ρ d d':=by
 induction h with
 |nil=>exact⟨rfl,λi d d' h=>by simp at h⟩
 |cons h r ih=>
   refine⟨by simp[ih.1],λi d d' hd hd'=>?_⟩;cases i with
   |zero=>simp at hd hd';subst hd hd';exact h
   |succ i=>exact ih.2 i d d' (by simpa using hd) (by simpa using hd')
theorem dN.aWp{fl:Bool}{H:Nat->Option aM}{nm':Nat->Bool}{ρ:Nat->Nat}{l l':List D}(h:rK fl H nm' ρ l l'):dN fl H nm' ρ (.agg l) (.agg l'):=.agg h.get.1 h.get.2
theorem dN.CB{fl:Bool}{H:Nat->Option aM}{nm':Nat->Bool}{ρ:Nat->Nat}{l l':List D}(h:rK fl H nm' ρ l l'):dN fl H nm' ρ (.aT l) (.aT l'):=.aT h.get.1 h.get.2
theorem dN.fn'{fl:Bool}{H:Nat->Option aM}{nm':Nat->Bool}{ρ:Nat->Nat}{f:FuncId}{l l':List D}(h:rK fl H nm' ρ l l'):dN fl H nm' ρ (.fn f l) (.fn f l'):=.fn h.get.1 h.get.2
theorem dN.rel{fl:Bool}{H:Nat->Option aM}{nm nm':Nat->Bool}{ρ:Nat->Nat}{ν ν':Nat->Value}{w w':World}{G G':bQ}(hx:∀b i u,Cell w G b i u->Cell w' G' b i u)
    (hrow:∀k e s n ts st,H k=some (.row e s n ts st)->(st||fl)=true->TR w' G' (ν k) (.sl n ts)) (hν:∀k',nm' k'=true->nm (ρ k')=true->ν' k'=ν (ρ k')):
    ∀{d d':D},dN fl H nm' ρ d d'->∀{v:Value},DR ν nm w G v d->DR ν' nm' w' G' v d':=by
 intro d d' hd
 induction hd with
 |t h=>intro v hv;subst h;cases hv with|t hv=>exact .t (hv.mono hx)
 |nil=>intro v hv;have:=bY hv;subst this;exact .t (.nil λ_=>rfl)
 |own h hk=>intro v hv;subst hk;cases hv with|own h1 h2=>rw[<-hν _ h h1]at h2 ⊢;exact .own h h2
 |ref h hk=>intro v hv;subst hk;cases hv with|ref h1 h2=>exact .ref h (by rw[hν _ h h1];exact h2)
 |via h hk=>intro v hv;subst hk;cases hv with|via h1 h2 h3=>exact .via h (by rw[hν _ h h1];exact h2) h3
 |rd h hst ht hn=>intro v hv;subst ht hn;cases hv with|own h1 h2=>exact .t (hrow _ _ _ _ _ _ h hst)
 |ptr=>intro v hv;exact(hv.mono (ν':=ν) (nm':=nm) (λ_ h=>⟨h,rfl⟩) hx) |> λh=>by
           cases h with|ptr hl hc h=>exact .ptr hl hc h
 | @agg ds ds' hl h ih=>
   intro v hv;cases hv with
   |agg hl' h' h1=>
     refine .agg (hl'.trans hl) (λi u d hu hd=>?_) h1;obtain⟨d0,hd0⟩:∃d0,ds[i]?=some d0:=by
      have:i<ds.length:=by rw[<-hl'];exact(eF.1 hu).1
      exact⟨_,bM this⟩
     exact ih i d0 d hd0 hd (h' i u d0 hu hd0)
 | @aT ds ds' hl h ih=>
   intro v hv;cases hv with
   |aT hl' h'=>
     refine .aT (hl'.trans hl) (λi u d hu hd=>?_);obtain⟨d0,hd0⟩:∃d0,ds[i]?=some d0:=by
      have:i<ds.length:=by rw[<-hl'];exact(eF.1 hu).1
      exact⟨_,bM this⟩
     exact ih i d0 d hd0 hd (h' i u d0 hu hd0)
 | @fn f ds ds' hl h ih=>
   intro v hv;cases hv with
   |fn hl' h'=>
     refine .fn (hl'.trans hl) (λi u d hu hd=>?_);obtain⟨d0,hd0⟩:∃d0,ds[i]?=some d0:=by
      have:i<ds.length:=by rw[<-hl'];exact(eF.1 hu).1
      exact⟨_,bM this⟩
     exact ih i d0 d hd0 hd (h' i u d0 hu hd0)
 |any=>intro v _;exact .any
theorem AV{w:World}{g i:Nat}{cur:Array Value}{e:TypeId}{fr:Nat×Nat}(h:w.heap[g]?=some (.cells cur e fr)):w.cell? ⟨g,i,none⟩=cur[i]?:=by simp[World.cell?,h]
theorem Kh{w:World}{G:bQ}{e:TypeId}{s n:Nat}{v:Value}{xs:List Value}{ts:List Tree}(h:w.ownsRow 0 e s v n xs)(hl:xs.length=ts.length)(ht:∀(i:Nat)(u:Value)(t:Tree),xs[i]?=some u->ts[i]?=some t->TR w G u t)
    (hG:∀g,aQ v=some g->n*s<=G g):TR w G v (.sl n ts):=by
 have hlen:=h.1;rcases h.2 with⟨rfl,rfl⟩|⟨g,cap,cur,rfl,h1,h2,h3,h4,h5,h6⟩
 .have:ts=[]:=List.eq_nil_of_length_eq_zero (by rw[<-hl,hlen];simp)
  subst this;exact .nil λ_=>rfl
 .refine .sl g 0 n cap xs ts hl (λi u hu=>?_) h3 ht
  have hi:i<n*s:=by rw[<-hlen];exact(bP.1 hu).1
  refine⟨?_,kL (by omega) (hG g rfl)⟩;rw[Nat.zero_add,AV h2];rw[<-h6,eY,aE hi]at hu;simpa using hu
theorem eR.Kh{E:Env}{ν:Nat->Value}{nm:Nat->Bool}{w:World}{G:bQ}{k:Nat}{e:TypeId}{s n:Nat}{ts:List Tree}(h:eR E ν nm w G k (.row e s n ts true)):TR w G (ν k) (.sl n ts):=by
 obtain⟨xs,h1,h2,h3,h4⟩:=h;exact Ab.Kh h1 h2 h3 (λg hg=>by rw[(h4 g hg).2];simp)
inductive MF (fl:Bool) (H:Nat->Option aM) (nm':Nat->Bool) (ρ:Nat->Nat):NC->NC->Prop
 |d {d d':D} (h:dN fl H nm' ρ d d'):MF fl H nm' ρ (.dH d) (.dH d')
 |cE {q:Nat} {ts:List Tree}:MF fl H nm' ρ (.cE q ts) (.cE q ts)
inductive gQ (fl:Bool) (H:Nat->Option aM) (nm':Nat->Bool) (ρ:Nat->Nat):aM->aM->Prop
 |row {e:TypeId} {s n:Nat} {ts ts':List Tree} {st:Bool} (h:ts=ts') {n':Nat} (hn:n=n'):gQ fl H nm' ρ (.row e s n ts st) (.row e s n' ts' st)
 |box {e:TypeId} {ds ds':List D} (hl:ds.length=ds'.length) (h:∀(i:Nat)(d d':D),ds[i]?=some d->ds'[i]?=some d'->dN fl H nm' ρ d d'):gQ fl H nm' ρ (.box e ds) (.box e ds')
 |nest {e e':TypeId} {s:Nat} {ls ls':List (Nat×List Tree)} (h:ls=ls'):gQ fl H nm' ρ (.nest e e' s ls) (.nest e e' s ls')
 |it {s:ByteArray} {pos:Nat}:gQ fl H nm' ρ (.it s pos) (.it s pos)
 |mp {l l':List (Value×D)} (hl:l.length=l'.length) (h:∀(i:Nat)(p p':Value×D),l[i]?=some p->l'[i]?=some p'->p.1=p'.1/\dN fl H nm' ρ p.2 p'.2):gQ fl H nm' ρ (.mp l) (.mp l')
 |bI {e e':TypeId} {m s n:Nat} {cs cs':List NC} (hl:cs.length=cs'.length) (h:∀(i:Nat)(c c':NC),cs[i]?=some c->cs'[i]?=some c'->MF fl H nm' ρ c c'):gQ fl H nm' ρ (.bI e e' m s n cs) (.bI e e' m s n cs')
theorem gQ.ft{fl:Bool}{H:Nat->Option aM}{nm':Nat->Bool}{ρ:Nat->Nat}{o o':aM}(h:gQ fl H nm' ρ o o'){w:World}{v:Value}{g:Nat}:bK w v o' g ↔ bK w v o g:=by
 cases h with
 |row=>exact kZ
 |box=>exact kZ
 |nest h=>subst h;exact kZ
 |mp=>exact kZ
 |it=>exact kZ
 | @bI e e' m s n cs cs' hl h=>
   constructor
   .rintro(h1|⟨g0,i,x,q,ts,h1,h2,h3,h4⟩)
    .exact .inl h1
    .have hi:i<cs.length:=by rw[hl];exact(bP.1 h2).1
     have hc:cs[i]?=some cs[i]:=bM hi;have:=h i _ _ hc h2;generalize cs[i]=c at hc this;cases this with
     |cE=>exact .inr ⟨g0,i,x,q,ts,h1,hc,h3,h4⟩
   .rintro(h1|⟨g0,i,x,q,ts,h1,h2,h3,h4⟩)
    .exact .inl h1
    .have hi:i<cs'.length:=by rw[<-hl];exact(bP.1 h2).1
     have hc:cs'[i]?=some cs'[i]:=bM hi;have:=h i _ _ h2 hc;generalize cs'[i]=c at hc this;cases this with
     |cE=>exact .inr ⟨g0,i,x,q,ts,h1,hc,h3,h4⟩
theorem gQ.aW3{fl:Bool}{H:Nat->Option aM}{nm':Nat->Bool}{ρ:Nat->Nat}{e:TypeId}{l l':List D}(h:rK fl H nm' ρ l l'):gQ fl H nm' ρ (.box e l) (.box e l'):=.box h.get.1 h.get.2
def bC(rn:List (Nat×Nat))(k:Nat):Nat:=match look k rn with|some x=>x|none=>k
abbrev lit(T:List (Nat×D))(H:List (Nat×aM))(N:Nat):St:=mk (λt=>look t T) (λk=>look k H) N
inductive GF (fl:Bool) (σ:St) (nm':Nat->Bool) (ρ:Nat->Nat):List (Nat×D)->Prop
 |nil:GF fl σ nm' ρ []
 |cons {t:Nat} {d d':D} {l:List (Nat×D)} (h:σ.T t=some d) (hd:dN fl σ.H nm' ρ d d') (r:GF fl σ nm' ρ l):GF fl σ nm' ρ ((t,d')::l)
inductive rN (fl:Bool) (σ:St) (nm':Nat->Bool) (ρ:Nat->Nat):List (Nat×aM)->Prop
 |nil:rN fl σ nm' ρ []
 |cons {k:Nat} {o o':aM} {l:List (Nat×aM)} (h:σ.H (ρ k)=some o) (ho:gQ fl σ.H nm' ρ o o') (r:rN fl σ nm' ρ l):rN fl σ nm' ρ ((k,o')::l)
theorem GF.get{fl:Bool}{σ:St}{nm':Nat->Bool}{ρ:Nat->Nat}{l:List (Nat×D)}(h:GF fl σ nm' ρ l){t:Nat}{d':D}(hl:look t l=some d'):∃d,σ.T t=some d/\dN fl σ.H nm' ρ d d':=by
 induction h with
 |nil=>cases hl
 |cons h hd r ih=>
   unfold look at hl;split at hl
   .rename_i e;cases hl;subst e;exact⟨_,h,hd⟩
   .exact ih hl
theorem rN.get{fl:Bool}{σ:St}{nm':Nat->Bool}{ρ:Nat->Nat}{l:List (Nat×aM)}(h:rN fl σ nm' ρ l){k:Nat}{o':aM}(hl:look k l=some o'):∃o,σ.H (ρ k)=some o/\gQ fl σ.H nm' ρ o o':=by
 induction h with
 |nil=>cases hl
 |cons h hd r ih=>
   unfold look at hl;split at hl
   .rename_i e;cases hl;subst e;exact⟨_,h,hd⟩
   .exact ih hl
theorem eR.view{fl:Bool}{H:Nat->Option aM}{E E':Env}{ν ν':Nat->Value}{nm nm':Nat->Bool}{ρ:Nat->Nat}{w:World}{G:bQ}{k k':Nat}{o o':aM}(h:eR E ν nm w G k o)(ho:gQ fl H nm' ρ o o')
    (hrow:∀k e s n ts st,H k=some (.row e s n ts st)->(st||fl)=true->TR w G (ν k) (.sl n ts)) (hν:∀k',nm' k'=true->nm (ρ k')=true->ν' k'=ν (ρ k')) (hk:ν' k'=ν k) (hE:∀g,bK w (ν k) o g->E.may g->E'.may g):eR E' ν' nm' w G k' o':=by
 cases ho with
 |it=>
   obtain⟨g,h1,h2,h3,h4⟩:=h;exact⟨g,by rw[hk];exact h1,hE g (dT (by rw[h1];rfl)) h2,h3,h4⟩
 | @mp l l' hl hp=>
   obtain⟨g,es,clock,h1,h2,h3,h4,hs,h5,h6⟩:=h;refine⟨g,es,clock,by rw[hk];exact h1,hE g (dT (by rw[h1];rfl)) h2,h3,h4,hs,h5.trans hl,λi en p' he hp'=>?_⟩;have hi:i<l.length:=by rw[hl];exact(bP.1 hp').1
   obtain⟨e1,e2⟩:=hp i l[i] p' (bM hi) hp';obtain⟨a1,a2⟩:=h6 i en l[i] he (bM hi);exact⟨a1.trans e1,e2.rel (λ_ _ _ h=>h) hrow hν a2⟩
 | @bI e e' m s n cs cs' hl hn=>
   obtain⟨xs,h1,hxl,hd,h2,h3,h4,h5⟩:=id h;have inv:∀(i:Nat)(q:Nat)(ts:List Tree),cs'[i]?=some (.cE q ts)->cs[i]?=some (.cE q ts):=λi q ts hc=>by
    have hi:i<cs.length:=by rw[hl];exact(bP.1 hc).1
    have hc0:cs[i]?=some cs[i]:=bM hi;have:=hn i _ _ hc0 hc;generalize cs[i]=c at hc0 this;cases this with
    |cE=>exact hc0
   refine⟨xs,by rw[hk];exact h1,hxl.trans hl,λi x d' hx hc=>?_,λi x q ts hx hc=>?_,λi j x y q q' ts ts' hij hx hy hc hc'=>h3 i j x y q q' ts ts' hij hx hy (inv i q ts hc) (inv j q' ts' hc'),λi x q ts hx hc g hg=>by rw[hk];exact h4 i x q ts hx (inv i q ts hc) g hg,λg hg=>by rw[hk]at hg;exact⟨hE g (dT hg) (h5 g hg).1,(h5 g hg).2⟩⟩
   .have hi:i<cs.length:=by rw[hl];exact(bP.1 hc).1
    have hc0:cs[i]?=some cs[i]:=bM hi;have:=hn i _ _ hc0 hc;generalize cs[i]=c at hc0 this;cases this with
    |d hdl=>exact⟨hdl.rel (λ_ _ _ h=>h) hrow hν (hd i x _ hx hc0).1,(hd i x _ hx hc0).2⟩
   .have hc0:=inv i q ts hc
    obtain⟨ys,y1,y2,y3,y4⟩:=h2 i x q ts hx hc0;refine⟨ys,y1,y2,y3,λg hg=>⟨hE g ?_ (y4 g hg).1,(y4 g hg).2⟩⟩;have hi:=(bP.1 hx).1;rcases h1.2 with⟨_,h0⟩|⟨g0,cap,cur,hv,_⟩
    .rw[h1.1,h0]at hi;omega
    .exact .inr ⟨g0,i,x,q,ts,by rw[hv];rfl,hc0,by rw[kS h1 (by rw[hv];rfl) hi];exact hx,hg⟩
 |nest h'=>
   subst h';obtain⟨xs,h1,h2,h3,h4,h5⟩:=id h;refine⟨xs,by rw[hk];exact h1,λi x p hx hp=>?_,h3,λi x hx g hg=>by rw[hk];exact h4 i x hx g hg,λg hg=>by rw[hk]at hg;exact⟨hE g (dT hg) (h5 g hg).1,(h5 g hg).2⟩⟩;obtain⟨ys,y1,y2,y3,y4⟩:=h2 i x p hx hp;refine⟨ys,y1,y2,y3,λg hg=>⟨hE g ?_ (y4 g hg).1,(y4 g hg).2⟩⟩;have hi:=(bP.1 hp).1;rcases h1.2 with⟨_,h0⟩|⟨g0,cap,cur,hv,_⟩
   .omega
   .exact .inr ⟨g0,i,x,by rw[hv];rfl,hi,by rw[tF h1 (by rw[hv];rfl) hi];exact hx,hg⟩
 |row h' hn=>
   subst h' hn;obtain⟨xs,h1,h2,h3,h4⟩:=h;exact⟨xs,by rw[hk];exact h1,h2,h3,λg hg=>by rw[hk]at hg;exact⟨hE g (dT hg) (h4 g hg).1,(h4 g hg).2⟩⟩
 |box hl hb=>
   obtain⟨g,cur,h1,h2,h3,h4,h5,h6⟩:=h;refine⟨g,cur,by rw[hk];exact h1,hE g (dT (by rw[h1];rfl)) h2,h3,h4,h5.trans hl,λi u d hu hd=>?_⟩;rename_i e ds ds';obtain⟨d0,hd0⟩:∃d0,ds[i]?=some d0:=by
    have:i<ds.length:=by rw[<-h5];exact(eF.1 hu).1
    exact⟨_,bM this⟩
   exact⟨(hb i d0 d hd0 hd).rel (λ_ _ _ h=>h) hrow hν (h6 i u d0 hu hd0).1,(h6 i u d0 hu hd0).2⟩
theorem Inv.rows{E:Env}{σ:St}{ν:Nat->Value}{G:bQ}{w:World}{tm:Array Value}(I:Inv E σ ν G w tm):∀k e s n ts st,σ.H k=some (.row e s n ts st)->(st||false)=true->TR w G (ν k) (.sl n ts):=λk e s n ts st h hst=>by
 have:st=true:=by simpa using hst
 subst this;exact(I.H k _ h).2.Kh
theorem vD{α:Type}{k:Nat}{x:α}{l:List (Nat×α)}(h:look k l=some x):k∈l.map (·.1):=eK.2 ⟨_,jW h,rfl⟩
theorem LJ{ρ:Nat->Nat}:∀{l:List Nat},(l.map ρ).Nodup->∀a∈l,∀b∈l,ρ a=ρ b->a=b
 |[],_,_,h,_,_,_=>by cases h
 |x::l,h,a,ha,b,hb,he=>by
   rw[List.map_cons,List.nodup_cons]at h;rcases eD.1 ha with e1|h1
   .rcases eD.1 hb with e2|h2
    .rw[e1,e2]
    .exact absurd (eK.2 ⟨b,h2,by rw[<-he,e1]⟩) h.1
   .rcases eD.1 hb with e2|h2
    .exact absurd (eK.2 ⟨a,h1,by rw[he,e2]⟩) h.1
    .exact LJ h.2 a h1 b h2 he
abbrev args(ds:List D)(H:List (Nat×aM)):St:=mk (λt=>ds[t]?) (λk=>look k H) 100
abbrev res(r:D)(H:List (Nat×aM)):St:=mk (λt=>if t=0 then some r else none) (λk=>look k H) 108
def cN(P:Program)(f:FuncId)(ds:List D)(H:List (Nat×aM))(r:D)(H':List (Nat×aM)):Prop:=
 ∀(E:Env)(w:World)(vs:Array Value),E.w0=w->E.m=vs.size->vs.size=ds.length->R E (args ds H) vs w->
  Calls P f vs w λe w'=>∃v,e = .returned v/\R { E with m:=1 } (res r H') #[v] w'
def aDz(P:Program)(f:FuncId)(ds:List D)(H:List (Nat×aM)){ι:Type}(C:ι->Prop)(r:ι->D)(H':ι->List (Nat×aM)):Prop:=
 ∀(E:Env)(w:World)(vs:Array Value),E.w0=w->E.m=vs.size->vs.size=ds.length->R E (args ds H) vs w->
  Calls P f vs w λe w'=>∃v,e = .returned v/\∃i,C i/\R { E with m:=1 } (res (r i) (H' i)) #[v] w'
theorem cN.n{P:Program}{f:FuncId}{ds:List D}{H:List (Nat×aM)}{r:D}{H':List (Nat×aM)}(h:cN P f ds H r H'):aDz P f ds H (λ_:Unit=>True) (λ_=>r) (λ_=>H'):=λE w vs h1 h2 h3 h4=>(h E w vs h1 h2 h3 h4).mono λ_ _ ⟨v,e1,e2⟩=>⟨v,e1,(),trivial,e2⟩
def GA(P:Program)(f:FuncId)(ds:List D)(H:List (Nat×aM))(v:Value)(H':List (Nat×aM)):Prop:=
 ∀(E:Env)(w:World)(vs:Array Value),E.w0=w->E.m=vs.size->vs.size=ds.length->R E (args ds H) vs w->
  Calls P f vs w λe w'=>e = .panicked [qN v]/\R { E with m:=1 } (res .any H') #[undef] w'
def aWt(P:Program)(fn:Func)(E:Env)(r:D)(H':List (Nat×aM)):Exit->St->Prop
 |.normal,σ|.ret,σ=>∀tm w,R E σ tm w->∃v,(results fn tm).run P w = .ok v w/\R { E with m:=1 } (res r H') #[v] w
 |_,_=>False
theorem R.entry{E:Env}{ds:List D}{H:List (Nat×aM)}{vs:Array Value}{w:World}(h:R E (args ds H) vs w)(n:Nat):R { E with m:=vs.size+n } (args ds H) (vs++k4 n undef) w:=by
 obtain⟨ν,G,I⟩:=h;refine⟨ν,G,⟨I.kept.os,I.kept.tape,I.kept.output,I.kept.size,I.kept.block⟩,I.cS,I.eL,I.g0,by simp,λt d ht=>?_,I.H,I.cF⟩;obtain⟨v,hv,hd⟩:=I.T t d ht;exact⟨v,by rw[Array.getElem?_append_left (eF.1 hv).1];exact hv,hd⟩
theorem aAp{P:Program}{f:FuncId}{fn:Func}{c:Code}{ds:List D}{H:List (Nat×aM)}{r:D}{H':List (Nat×aM)}(hf:P.funcs[f]?=some fn)(hb:fn.body=some c)(hm:ds.length<=fn.ntmps)
    (h:∀E:Env,E.m=fn.ntmps->fX P E c (aWt P fn E r H') (args ds H)):cN P f ds H r H':=by
 intro E w vs _ _ _ hR;have hR':=hR.entry (fn.ntmps-vs.size);rw[show vs.size+(fn.ntmps-vs.size)=fn.ntmps by omega]at hR';refine calls_of_wp hf hb (wp_mono (h { E with m:=fn.ntmps,ds:=[] } rfl _ w rfl (hR'.F3 [])) ?_);rintro e a' w' ⟨hd,σ',hq,hRR⟩;cases e with
 |normal=>obtain⟨v,h1,h2⟩:=hq _ _ hRR;exact⟨hd,v,h1,v,rfl,h2.F3 E.ds⟩
 |ret=>obtain⟨v,h1,h2⟩:=hq _ _ hRR;exact⟨hd,v,h1,v,rfl,h2.F3 E.ds⟩
 |exit id=>exact hq.elim
 |goto l=>exact hq.elim
 |panic ch=>exact hq.elim
 |outgrown=>exact hq.elim
def aWv(E:Env)(v:Value)(H':List (Nat×aM)):Exit->St->Prop
 |.panic ch,σ=>ch=[qN v]/\∀tm w,R E σ tm w->R { E with m:=1 } (res .any H') #[undef] w
 |_,_=>False
theorem aQ6{P:Program}{f:FuncId}{fn:Func}{c:Code}{ds:List D}{H:List (Nat×aM)}{v:Value}{H':List (Nat×aM)}(hf:P.funcs[f]?=some fn)(hb:fn.body=some c)(hm:ds.length<=fn.ntmps)
    (h:∀E:Env,E.m=fn.ntmps->fX P E c (aWv E v H') (args ds H)):GA P f ds H v H':=by
 intro E w vs _ _ _ hR;have hR':=hR.entry (fn.ntmps-vs.size);rw[show vs.size+(fn.ntmps-vs.size)=fn.ntmps by omega]at hR';refine calls_of_wp hf hb (wp_mono (h { E with m:=fn.ntmps,ds:=[] } rfl _ w rfl (hR'.F3 [])) ?_);rintro e a' w' ⟨hd,σ',hq,hRR⟩;cases e with
 |normal=>exact hq.elim
 |ret=>exact hq.elim
 |exit id=>exact hq.elim
 |goto l=>exact hq.elim
 |panic ch=>exact⟨hd,by rw[hq.1],(hq.2 _ _ hRR).F3 E.ds⟩
 |outgrown=>exact hq.elim
theorem aQu{E:Env}{σ:St}{tm:Array Value}{w:World}(rn:List (Nat×Nat)){d r:D}{H':List (Nat×aM)}(hR:R E σ tm w){v:Value}(hv:∀ν G,Inv E σ ν G w tm->DR ν σ.nm w G v d)
    (hle:dN false σ.H (λk=>decide (k<108)) (bC rn) d r) (hH:rN false σ (λk=>decide (k<108)) (bC rn) H') (hc:(rn.all (λp=>decide (p.1<50)||decide (100<=p.1))&&decide ((H'.map λp=>bC rn p.1).Nodup)&&H'.all (λp=>decide (p.1<108)))=true):
    R { E with m:=1 } (res r H') #[v] w:=by
 obtain⟨ν,G,I⟩:=hR;simp only[Bool.and_eq_true,eC]at hc;obtain⟨⟨hc1,hc2⟩,hc3⟩:=hc;have hρ:∀k',decide (k'<108)=true->σ.nm (bC rn k')=true->(λk=>ν (bC rn k)) k'=ν (bC rn k'):=λ_ _ _=>rfl
 refine⟨λk=>ν (bC rn k),G,⟨I.kept.os,I.kept.tape,I.kept.output,I.kept.size,I.kept.block⟩,I.cS,λk h1 h2=>?_,I.g0,rfl,λt d' h=>?_,λk o' h=>?_,λk o k' o' h h' hne g hg=>?_⟩
 .show ν (bC rn k)=_
  have:bC rn k=k:=by
   unfold bC;cases hl:look k rn with
   |none=>rfl
   |some x=>
     have:=cT.1 hc1 _ (jW hl);simp at this;omega
  rw[this];exact I.eL k h1 h2
 .simp only at h
  split at h
  .rename_i e;subst e;cases h
   exact⟨v,rfl,hle.rel (λ_ _ _ h=>h) I.rows hρ (hv ν G I)⟩
  .cases h
 .obtain⟨o,ho,hle⟩:=hH.get h
  exact⟨cT.1 hc3 _ (jW h),(I.H _ o ho).2.view hle I.rows hρ rfl (λ_ _ h=>h)⟩
 .obtain⟨o1,h1,l1⟩:=hH.get h
  obtain⟨o2,h2,l2⟩:=hH.get h';refine λhg'=>I.cF _ o1 _ o2 h1 h2 (λe=>hne ?_) g (l1.ft.1 hg) (l2.ft.1 hg')
  exact LJ (by rw[List.map_map];exact hc2) k (vD h) k' (vD h') e
end Go.Ab
/- The abstract machine: operations on numbers, truth values and parts of values. -/
namespace Go.Ab
open Go.RowKit
abbrev I(n:Int):D:=.t (.v (.int .i64 n))
abbrev B(b:Bool):D:=.t (.v (.bool b))
abbrev ti(n:Int):Tree:=.v (.int .i64 n)
section
variable{P:Program}{o:Oper}{σ:St}{fr:Nat}
theorem iC{x:Operand}{d:D}(ho:o.op = .move x)(hx:σ.ev x=some d):aU P o σ fr d []:=
 c7 λ_ _ _ _ _ _ _ _ hev=>⟨_,by simp[execOp,ho],hev x d hx⟩
theorem qP{x:Operand}{d:D}(ho:o.op = .assign x)(hx:σ.ev x=some d):aU P o σ fr d []:=
 c7 λ_ _ _ _ _ _ _ _ hev=>⟨_,by simp[execOp,ho],hev x d hx⟩
theorem iY{op:BinOp}{xt yt:TypeId}{x y:Operand}{va vb vr:Value}(ho:o.op = .binOp op xt x y yt)(hx:σ.ev x=some (.t (.v va)))(hy:σ.ev y=some (.t (.v vb)))
    (hr:∀w:World,(do eqGuard op xt x y va vb;binOp op xt va vb:Sem Value).run P w = .ok vr w) (h1:vr.oneCell'=true):aU P o σ fr (.t (.v vr)) []:=
 c7 λ_ _ _ _ w a _ _ hev=>by
  have h1':=bY (hev x _ hx);have h2':=bY (hev y _ hy);refine⟨vr,?_,.t (.v _ h1)⟩;have:=hr w;unfold execOp;rw[ho];simp only[h1',h2',Sem.run_bind,Sem.run_pure]at this ⊢;rw[this];rfl
section ints
variable{k:IntKind}{xt yt:TypeId}{x y:Operand}{m n:Int}
theorem aBj(ho:o.op = .binOp .add xt x y yt)(hx:σ.ev x=some (.t (.v (.int k m))))(hy:σ.ev y=some (.t (.v (.int k n)))):aU P o σ fr (.t (.v (.int k (k.wrap (m+n))))) []:=
 iY ho hx hy (λw=>by simp[eqGuard,binOp,Op.intArith]) rfl
theorem aB5(ho:o.op = .binOp .sub xt x y yt)(hx:σ.ev x=some (.t (.v (.int k m))))(hy:σ.ev y=some (.t (.v (.int k n)))):aU P o σ fr (.t (.v (.int k (k.wrap (m-n))))) []:=
 iY ho hx hy (λw=>by simp[eqGuard,binOp,Op.intArith]) rfl
theorem aRn(ho:o.op = .binOp .mul xt x y yt)(hx:σ.ev x=some (.t (.v (.int k m))))(hy:σ.ev y=some (.t (.v (.int k n)))):aU P o σ fr (.t (.v (.int k (k.wrap (m*n))))) []:=
 iY ho hx hy (λw=>by simp[eqGuard,binOp,Op.intArith]) rfl
theorem aB6(ho:o.op = .binOp .quo xt x y yt)(hx:σ.ev x=some (.t (.v (.int k m))))(hy:σ.ev y=some (.t (.v (.int k n))))(h0:n≠0):aU P o σ fr (.t (.v (.int k (k.wrap (m.tdiv n))))) []:=
 iY ho hx hy (λw=>by simp[eqGuard,binOp,Op.intDiv,h0]) rfl
theorem aRe(ho:o.op = .binOp .rem xt x y yt)(hx:σ.ev x=some (.t (.v (.int k m))))(hy:σ.ev y=some (.t (.v (.int k n))))(h0:n≠0):aU P o σ fr (.t (.v (.int k (m.tmod n)))) []:=
 iY ho hx hy (λw=>by simp[eqGuard,binOp,Op.intDiv,h0]) rfl
theorem aRg(ho:o.op = .binOp .quo xt x y yt)(hx:σ.ev x=some (I m))(hy:σ.ev y=some (I n))(h0:n≠0)(hb:-9223372036854775808<=m.tdiv n/\m.tdiv n<=9223372036854775807):aU P o σ fr (I (m.tdiv n)) []:=by
 have:=aB6 (P:=P) (fr:=fr) ho hx hy h0
 rwa [IntWalk.i64_in _ hb]at this
theorem aB8(ho:o.op = .binOp .lss xt x y yt)(hx:σ.ev x=some (.t (.v (.int k m))))(hy:σ.ev y=some (.t (.v (.int k n)))):aU P o σ fr (B (decide (m<n))) []:=
 iY ho hx hy (λw=>by simp[eqGuard,binOp,Op.intCmp]) rfl
theorem aBa(ho:o.op = .binOp .leq xt x y yt)(hx:σ.ev x=some (.t (.v (.int k m))))(hy:σ.ev y=some (.t (.v (.int k n)))):aU P o σ fr (B (decide (m<=n))) []:=
 iY ho hx hy (λw=>by simp[eqGuard,binOp,Op.intCmp]) rfl
theorem RR(ho:o.op = .binOp .gtr xt x y yt)(hx:σ.ev x=some (.t (.v (.int k m))))(hy:σ.ev y=some (.t (.v (.int k n)))):aU P o σ fr (B (decide (n<m))) []:=
 iY ho hx hy (λw=>by simp[eqGuard,binOp,Op.intCmp]) rfl
theorem aBd(ho:o.op = .binOp .geq xt x y yt)(hx:σ.ev x=some (.t (.v (.int k m))))(hy:σ.ev y=some (.t (.v (.int k n)))):aU P o σ fr (B (decide (n<=m))) []:=
 iY ho hx hy (λw=>by simp[eqGuard,binOp,Op.intCmp]) rfl
theorem AG(ho:o.op = .binOp .eql xt x y yt)(hx:σ.ev x=some (.t (.v (.int k m))))(hy:σ.ev y=some (.t (.v (.int k n)))):aU P o σ fr (B (decide (m=n))) []:=
 iY ho hx hy (λw=>by simp[eqGuard,binOp,Op.intCmp];rfl) rfl
theorem aB7(ho:o.op = .binOp .neq xt x y yt)(hx:σ.ev x=some (.t (.v (.int k m))))(hy:σ.ev y=some (.t (.v (.int k n)))):aU P o σ fr (B (decide (m≠n))) []:=
 iY ho hx hy (λw=>by simp[eqGuard,binOp,Op.intCmp,bne];rfl) rfl
theorem FA{kd:IntKind}(ho:o.op = .convert xt yt x)(hs:(P.underlying xt).isSome=true)(hd:P.underlying yt=some (.int kd))(hx:σ.ev x=some (.t (.v (.int k m)))):aU P o σ fr (.t (.v (.int kd (kd.wrap m)))) []:=
 c7 λ_ _ _ _ w a _ _ hev=>by
  have h1':=bY (hev x _ hx);obtain⟨d,hd'⟩:=Option.isSome_iff_exists.mp hs;refine⟨.int kd (kd.wrap m),?_,.t (.v _ rfl)⟩;unfold execOp;rw[ho];simp only[h1'];simp[convert,run_underlying hd',run_underlying hd,Conv.intToInt]
theorem aRq{t:TypeId}{ki kk:IntKind}{n:Int}{x:Operand}(ho:o.op = .makeInterface t x)(hu:P.underlying t=some (.int ki))(hx:σ.ev x=some (.t (.v (.int kk n)))):aU P o σ fr (.t (.v (.iface t (.int kk n)))) []:=
 c7 λ_ _ _ _ w a _ _ hev=>by
  have h1':=bY (hev x _ hx);refine⟨.iface t (.int kk n),?_,.t (.v _ rfl)⟩;unfold execOp;rw[ho];simp only[h1'];simp[Instr.makeInterface,run_underlying hu]
end ints
theorem aAz{t:TypeId}(h:P.underlying t=some .bool)(a b:Bool)(w:World):(Op.equal t (.bool a) (.bool b)).run P w = .ok (a == b) w:=by
 show(Op.equalIn (Op.maxDepth) t (.bool a) (.bool b)).run P w=_;rw[show Op.maxDepth=(Op.maxDepth-1)+1 from rfl];simp[Op.equalIn,run_underlying h]
theorem aSU{xt yt:TypeId}{x y:Operand}{m n:Bool}(hP:P.underlying xt=some .bool)(ho:o.op = .binOp .eql xt x y yt)(hx:σ.ev x=some (B m))(hy:σ.ev y=some (B n)):aU P o σ fr (B (m == n)) []:=
 iY ho hx hy (λw=>by simp[eqGuard,binOp,aAz hP]) rfl
theorem aRm{xt yt:TypeId}{x y:Operand}{m n:Bool}(hP:P.underlying xt=some .bool)(ho:o.op = .binOp .neq xt x y yt)(hx:σ.ev x=some (B m))(hy:σ.ev y=some (B n)):aU P o σ fr (B (!(m == n))) []:=
 iY ho hx hy (λw=>by simp[eqGuard,binOp,aAz hP]) rfl
theorem aRh{t:TypeId}{x:Operand}{b:Bool}(ho:o.op = .unOp .not t x)(hx:σ.ev x=some (B b)):aU P o σ fr (B (!b)) []:=
 c7 λ_ _ _ _ w a _ _ hev=>by
  have h1':=bY (hev x _ hx);refine⟨.bool (!b),?_,.t (.v _ rfl)⟩;unfold execOp;rw[ho];simp only[h1'];simp[Op.unary]
theorem RP{c x y:Operand}{d:D}(ho:o.op = .pick c x y)(hc:σ.ev c=some (B true))(hx:σ.ev x=some d):aU P o σ fr d []:=
 c7 λ_ _ _ _ w a _ _ hev=>by
  have h1':=bY (hev c _ hc);exact⟨a.eval x,by simp[execOp,ho,h1',asBool],hev x d hx⟩
theorem RQ{c x y:Operand}{d:D}(ho:o.op = .pick c x y)(hc:σ.ev c=some (B false))(hy:σ.ev y=some d):aU P o σ fr d []:=
 c7 λ_ _ _ _ w a _ _ hev=>by
  have h1':=bY (hev c _ hc);exact⟨a.eval y,by simp[execOp,ho,h1',asBool],hev y d hy⟩
theorem aST{x:Operand}{i:Nat}{ds:List D}{d:D}(ho:o.op = .extract x i)(hx:σ.ev x=some (.aT ds))(hd:ds[i]?=some d):aU P o σ fr d []:=
 c7 λ_ _ ν G w a _ _ hev=>by
  have h:=hev x _ hx;obtain⟨v,hv⟩:∃v,a.eval x=v:=⟨_,rfl⟩
  rw[hv]at h;cases h with
  | @aT vs _ hl h=>
    have hi:i<vs.size:=by rw[hl];exact(bP.1 hd).1
    refine⟨vs[i],?_,h i _ d (Array.getElem?_eq_getElem hi) hd⟩;unfold execOp;rw[ho];simp[hv,Instr.extract,hi]
end
theorem aBH{P:Program}{fn:Func}{E:Env}{σ:St}{t:Nat}{d r:D}{H':List (Nat×aM)}(rn:List (Nat×Nat))(hr:fn.results = #[.tmp t])(ht:σ.T t=some d)(hle:dN false σ.H (λk=>decide (k<108)) (bC rn) d r)
    (hH:rN false σ (λk=>decide (k<108)) (bC rn) H') (hc:(rn.all (λp=>decide (p.1<50)||decide (100<=p.1))&&decide ((H'.map λp=>bC rn p.1).Nodup)&&H'.all (λp=>decide (p.1<108)))=true):
    ∀tm w,R E σ tm w->∃v,(results fn tm).run P w = .ok v w/\R { E with m:=1 } (res r H') #[v] w:=by
 intro tm w hR;refine⟨tm.getD t undef,?_,aQu rn hR (λν G I=>?_) hle hH hc⟩
 .simp[results,hr]
 .obtain⟨v,hv,hd⟩:=I.T t d ht
  have:tm.getD t undef=v:=by simp[Ak,hv]
  rw[this];exact hd
end Go.Ab
