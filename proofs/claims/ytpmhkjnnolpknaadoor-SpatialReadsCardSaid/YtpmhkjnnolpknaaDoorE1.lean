/- The abstract machine: ground laws, states, contracts. Conditions are in the theorems. -/
import Derived.WalkKit
import Derived.WalkSpells
import Derived.WalkLawsBesides
import Derived.BigQuiet
import Derived.Deep.QuietTactic
import Derived.Laws.AppendOwnNone
import Derived.Maps.AppendAt
import Derived.Test.YtpmhkjnnolpknaaDoorProg
import Derived.Lib.LaidTab
import Derived.Lib.ItoaNum
import Derived.IntWalk
open Array renaming getElem?_eq_none->EC,getElem?_eq_some_iff->kY,replicate->xV
open Iff renaming rfl->kW
open List renaming all_eq_true->eG,countP_cons->a1s,getElem?_eq_getElem->bJ,getElem?_eq_some_iff->bU,getElem?_map->cY,getElem?_take->eN,length_cons->iG,mem_cons->dT,mem_iff_getElem?->iA,mem_map->dM,mem_range->l6
open Nat renaming le_refl->cQ,lt_of_lt_of_le->tS,lt_or_ge->aGl,strongRecOn->OM
open Option.some renaming injEq->hY
theorem pC:type_of% @beq_iff_eq:=@beq_iff_eq
theorem BN:type_of% @beq_self_eq_true:=@beq_self_eq_true
theorem aY:type_of% @congrArg:=@congrArg
theorem bA:type_of% @decide_eq_false:=@decide_eq_false
theorem aO:type_of% @decide_eq_true:=@decide_eq_true
theorem hJ:type_of% @decide_eq_true_eq:=@decide_eq_true_eq
theorem tI:type_of% @decide_true:=@decide_true
theorem lX:type_of% @if_false:=@if_false
theorem aH:type_of% @if_neg:=@if_neg
theorem aJ:type_of% @if_pos:=@if_pos
theorem fY:type_of% @if_true:=@if_true
theorem cT:type_of% @of_decide_eq_true:=@of_decide_eq_true
theorem lW:type_of% @or_false:=@or_false
/- Small laws for the walks of this seat, over any program: worlds that come after a world, slices that read as lists, a region that draws its order and whose callees may make memory. -/
namespace Go
open Go.RowKit
theorem hid{p:Prop}(h:p):Hid p:=h
def cG(w w':World):Prop:=Below w.heap.size w w'
theorem cG.refl(w:World):cG w w:=Below.refl _ _
theorem cG.trans{a b c:World}(h:cG a b)(k:cG b c):cG a c:=Below.trans h (Below.mono k h.size)
theorem cG.drew{a w:World}(h:cG a w):cG a w.drew:=Below.drew h
theorem cG.drewN{a w:World}(h:cG a w)(n:Nat):cG a (w.drewN n):=⟨h.os,h.tape,h.output,h.size,h.block⟩
theorem cG.alloc{a w:World}(h:cG a w)(o:Obj):cG a (w.alloc o):=Below.alloc h h.size o
theorem cG.setCell{a w:World}(h:cG a w){p:Addr}(hp:a.heap.size<=p.block)(u:Value):cG a (w.setCell p u):=Below.setCell h hp u
theorem cG.cell{a w:World}(h:cG a w){b o:Nat}(hb:b<a.heap.size):w.cell? ⟨b,o,none⟩=a.cell? ⟨b,o,none⟩:=Below.cell (p:=⟨b,o,none⟩) h hb
def xS(w:World):Type:={ W:World // cG w W }
instance xS.some (w:World):Nonempty (xS w):=⟨⟨w,cG.refl w⟩⟩
def xS.W{w:World}(x:xS w):World:=x.1
theorem xS.fN{w:World}(x:xS w):cG w x.W:=x.2
@[go_sem] theorem xS.cell{w:World}(x:xS w){b o:Nat}(hb:b<w.heap.size):x.W.cell? ⟨b,o,none⟩=w.cell? ⟨b,o,none⟩:=x.2.cell hb
section
variable{P:Program}
end
def Rd(w:World)(a:Option Addr)(cs:List Value):Prop:=∀j v,cs[j]?=some v->∃ad,a=some ad/\w.cell? (ad.add j)=some v
def U2(l:List Int):List Value:=l.map (Value.int .i64)
def okI(l:List Int):Prop:=∀x∈l,-9223372036854775808<=x/\x<=9223372036854775807
theorem a07{w:World}{b off s:Nat}{v:Value}(h:w.cell? ⟨b,off,some s⟩=some v):False:=by
 unfold World.cell? at h;split at h <;> simp at h
theorem Rd.get{w:World}{a:Option Addr}{cs:List Value}(h:Rd w a cs){i:Nat}{v:Value}(hi:cs[i]?=some v):
    ∃b off,a=some ⟨b,off,none⟩/\w.cell? ⟨b,off+i,none⟩=some v/\b<w.heap.size:=by
 obtain⟨⟨b,off,spot⟩,rfl,hc⟩:=h i v hi;have hlt:i<cs.length:=(bU.1 hi).1;cases spot with
 |some s=>
   exfalso;obtain⟨ad,e,hc'⟩:=h 0 cs[0] (by simp);simp only[hY]at e;subst e;exact a07 hc'
 |none=>
   have hc':w.cell? ⟨b,off+i,none⟩=some v:=by
    unfold Addr.add at hc;by_cases h0:i=0
    .simpa[h0]using hc
    .simpa[h0]using hc
   exact⟨b,off,rfl,hc',World.block_lt_of_cell? w _ hc'⟩
theorem Rd.fN{w w':World}{a:Option Addr}{cs:List Value}(h:Rd w a cs)(hw:cG w w'):Rd w' a cs:=λj v hj=>by
 obtain⟨b,off,e,hc,hb⟩:=h.get hj;obtain⟨ad,e',hc'⟩:=h j v hj;refine⟨ad,e',?_⟩;have:ad.add j=⟨b,off+j,none⟩:=by
  rw[e]at e';simp only[hY]at e';subst e';unfold Addr.add;by_cases h0:j=0 <;> simp[h0]
 rw[this]at hc' ⊢;rw[hw.cell hb];exact hc'
theorem Rd.int{w:World}{a:Option Addr}{l:List Int}(h:Rd w a (U2 l))(ok:okI l){i:Nat}(hi:i<l.length):
    ∃b off x,a=some ⟨b,off,none⟩/\w.cell? ⟨b,off+i,none⟩=some (.int .i64 x)/\b<w.heap.size/\Hid (l[i]?=some x) /\ -9223372036854775808<=x/\x<=9223372036854775807:=by
 obtain⟨b,off,e,hc,hb⟩:=h.get (i:=i) (v:=.int .i64 l[i]) (by simp[U2,hi]);exact⟨b,off,l[i],e,hc,hb,by unfold Hid;simp[hi],ok _ (by simp)⟩
end Go
namespace Go
open Go.RowKit
def Tc(p:Int×Int):List Value:=[.int .i64 p.1,.int .i64 p.2]
def qT(l:List (Int×Int)):List Value:=l.flatMap Tc
def okP(l:List (Int×Int)):Prop:=∀p∈l,(-9223372036854775808<=p.1/\p.1<=9223372036854775807)/\(-9223372036854775808<=p.2/\p.2<=9223372036854775807)
def pr(p:Int×Int):Value:=.agg #[.int .i64 p.1,.int .i64 p.2]
theorem aWr{l:List (Int×Int)}:∀{k:Nat}{p:Int×Int},l[k]?=some p->(qT l)[k*2]?=some (.int .i64 p.1)/\(qT l)[k*2+1]?=some (.int .i64 p.2):=by
 induction l with
 |nil=>intro k p h;simp at h
 |cons a l ih=>
   intro k p h;cases k with
   |zero=>simp at h;subst h;simp[qT,Tc]
   |succ k=>
     have:=ih (k:=k) (p:=p) (by simpa using h);have e:(k+1)*2=k*2+2:=by omega
     rw[e];simp only[qT,List.flatMap_cons,Tc,List.cons_append,List.nil_append]at *
     exact this
theorem Rd.pair{w:World}{a:Option Addr}{l:List (Int×Int)}(h:Rd w a (qT l))(ok:okP l){i:Nat}(hi:i<l.length):
    ∃b off x y,a=some ⟨b,off,none⟩/\w.cell? ⟨b,off+i*2,none⟩=some (.int .i64 x)/\w.cell? ⟨b,off+i*2+1,none⟩=some (.int .i64 y)/\b<w.heap.size/\Hid (l[i]?=some (x,y)) /\
     -9223372036854775808<=x/\x<=9223372036854775807 /\ -9223372036854775808<=y/\y<=9223372036854775807:=by
 have hg:l[i]?=some (l[i].1,l[i].2):=by simp[hi]
 obtain⟨h1,h2⟩:=aWr hg;obtain⟨b,off,e,hc,hb⟩:=h.get h1;obtain⟨b',off',e',hc',hb'⟩:=h.get h2;rw[e]at e';simp only[hY,Addr.mk.injEq,and_true]at e';obtain⟨rfl,rfl⟩:=e';have hm:=ok l[i] (by simp);exact⟨b,off,_,_,e,hc,by rw[Nat.add_assoc];exact hc',hb,hid hg,hm.1.1,hm.1.2,hm.2.1,hm.2.2⟩
theorem cG.grown{w0 w w':World}{row:Option Nat}(h:cG w0 w)(hg:w.grownBy w' row)(hr:∀k,row=some k->w0.heap.size<=k):cG w0 w':=
 Below.grown h hg h.size hr
theorem Rd.nil{w:World}{a:Option Addr}:Rd w a []:=λj v hj=>by simp at hj
theorem Rd.aYR{w:World}{cs:List Value}(h:Rd w none cs):cs=[]:=by
 cases cs with
 |nil=>rfl
 |cons u l=>obtain⟨ad,e,_⟩:=h 0 u rfl;cases e
theorem Rd.new{w:World}{cs:Array Value}{e:TypeId}:Rd (w.alloc (.cells cs e)) (some ⟨w.heap.size,0,none⟩) cs.toList:=λj v hj=>by
 refine⟨_,rfl,?_⟩;have hh:(w.alloc (.cells cs e)).heap[w.heap.size]?=some (.cells cs e):=heap_alloc_new w _;have h0:((⟨w.heap.size,0,none⟩:Addr).add j)=⟨w.heap.size,j,none⟩:=by
  unfold Addr.add;by_cases hj0:j=0 <;> simp[hj0]
 rw[h0];simp only[World.cell?,hh];simpa using hj
end Go
namespace Go
open Go.RowKit
structure OR(w:World)(a:Option Addr)(n c:Nat)(l:List Int):Prop where
 len:n=l.length
 rd:Rd w a (U2 l)
 ok:okI l
 cap:n<=c
 nil:a=none->c=0
 size:n*8<=140737488351232
def V6(w:World)(v:Value)(l:List Int):Prop:=∃a c,v = .slice a l.length c/\OR w a l.length c l
structure OI(w:World)(a:Option Addr)(n c:Nat)(l:List (Int×Int)):Prop where
 len:n=l.length
 rd:Rd w a (qT l)
 ok:okP l
 cap:n<=c
 nil:a=none->c=0
 size:n*16<=140737488351232
def VY(w:World)(v:Value)(l:List (Int×Int)):Prop:=∃a c,v = .slice a l.length c/\OI w a l.length c l
theorem OR.fN{w w':World}{a:Option Addr}{n c:Nat}{l:List Int}(h:OR w a n c l)(hw:cG w w'):OR w' a n c l:={ h with rd:=h.rd.fN hw }
theorem OI.fN{w w':World}{a:Option Addr}{n c:Nat}{l:List (Int×Int)}(h:OI w a n c l)(hw:cG w w'):OI w' a n c l:={ h with rd:=h.rd.fN hw }
theorem V6.fN{w w':World}{v:Value}{l:List Int}(h:V6 w v l)(hw:cG w w'):V6 w' v l:=let⟨a,c,e,h⟩:=h;⟨a,c,e,h.fN hw⟩
theorem VY.fN{w w':World}{v:Value}{l:List (Int×Int)}(h:VY w v l)(hw:cG w w'):VY w' v l:=let⟨a,c,e,h⟩:=h;⟨a,c,e,h.fN hw⟩
end Go
namespace Go
open Go.RowKit
end Go
namespace Go
def Sep(v v':Value):Prop:=∀k,v.ownBlock=some k->v'.ownBlock=some k->False
theorem Sep.symm{v v':Value}(h:Sep v v'):Sep v' v:=λk a b=>h k b a
theorem Sep.kept{v v':Value}(h:Sep v v'){w w':World}{base:Nat}{e:TypeId}{size n:Nat}{xs:List Value}(ho:w.ownsRow base e size v n xs)(hg:w.grownBy w' v'.ownBlock):w'.ownsRow base e size v n xs:=by
 refine ho.kept hg ?_;cases hv:v.ownBlock with
 |none=>exact .inl rfl
 |some k=>exact .inr λe=>h k hv e.symm
theorem Sep.nil(v:Value):Sep (.slice none 0 0) v:=λk h=>by cases h
end Go
namespace Go
open Go.RowKit
end Go
/- A region that draws its order, walked as a flow of values: each operation gets a predicate on its value that lasts in later worlds, and is walked once, from its operands' predicates, in any later world. -/
namespace Go
open Go.RowKit
structure FV where
 p:Value->World->Prop
 st:∀v W W',p v W->cG W W'->p v W'
def FV.is(u:Value):FV:=⟨λv _=>v=u,λ_ _ _ h _=>h⟩
def FV.pure(q:Value->Prop):FV:=⟨λv _=>q v,λ_ _ _ h _=>h⟩
def aZe(Vs:List FV)(i:Nat)(v:Value)(W:World):Prop:=(Vs.getD i (FV.pure λ_=>True)).p v W
def Region.fB(ops:Array Oper)(j:Nat):Option Tmp:=(ops[j]?).bind (·.dst)
section
variable(P:Program)(ops:Array Oper)(Vs:List FV)(w0:World)
end
def Act.n3(vals:Nat->Value):List (Nat×Tmp)->Act->Act
 |[],a=>a
 |p::ps,a=>Act.n3 vals ps (a.put (some p.2) (vals p.1))
theorem aGN{α:Type}{p q:α->Bool}{i:α}:∀(l:List α),i∈l->p i=true->q i=false->(∀j,q j=true->p j=true)->l.countP q<l.countP p
 |[],h,_,_,_=>by cases h
 |b::l,h,hp,hq,hle=>by
   have hmono:l.countP q<=l.countP p:=List.countP_mono_left (λj _=>hle j);rw[a1s,a1s];rcases dT.1 h with rfl|h
   .simp[hp,hq];omega
   .have:=aGN l h hp hq hle
    by_cases hb:q b=true
    .simp[hb,hle b hb];omega
    .simp[hb];split <;> omega
def Ar(n:Nat)(listed:Array Bool):Nat:=(List.range n).countP λi=>!listed.getD i true
theorem aDr{n i:Nat}{listed:Array Bool}(hi:i<n)(h:listed.getD i true=false):Ar n (listed.setIfInBounds i true)<Ar n listed:=by
 have hlt:i<listed.size:=by
  rcases aGl i listed.size with h'|h'
  .exact h'
  .simp[EC h']at h
 refine aGN (i:=i) _ (l6.2 hi) (by simpa using h) (by simp[hlt]) (λj hj=>?_);by_cases hij:i=j
 .subst hij;simpa using h
 .rw[getD_set_ne true hij]at hj;exact hj
theorem aDs{n i:Nat}{listed:Array Bool}(hi:i<n)(h:listed.getD i true=false):0<Ar n listed:=
 List.countP_pos_iff.2 ⟨i,l6.2 hi,by simpa using h⟩
theorem aDt(n:Nat):Ar n (xV n false)<=n:=by
 have:=List.countP_le_length (l:=List.range n) (p:=λi=>!(xV n false).getD i true);simpa[Ar]using this
structure xT(ops:Array Oper)(pre:Nat->List Nat)(all:List (Nat×Tmp))(uses:Nat->List (Nat×Tmp))(m:Nat):Prop where
 TQ:Region.noSelect ops=true
 len:all.length<=ops.size
 back:∀i o,ops[i]?=some o->∀e∈o.after,Region.binds .any e=true->e.on<i
 Au:∀i o,ops[i]?=some o->∀j∈pre i,j<i/\∃e∈o.after,Region.binds .any e=true/\(e.on=j\/j∈pre e.on)
 tgt:∀k j d,all[k]?=some (j,d)->j=k/\d<m/\Region.fB ops k=some d/\∀k' j' d',all[k']?=some (j',d')->k'≠k->d'≠d
 use:∀i o,i<all.length->ops[i]?=some o->(∀p∈uses i,p.1∈pre i/\all[p.1]?=some p)/\∀t∈o.looksAt ops,∀p∈all,p.2=t->(p.1∈pre i/\p∈uses i)\/i∈pre p.1
 tail:∀i,all.length<=i->i<ops.size->∀j,j<i->j∈pre i
def On(listed:Array Bool)(j:Nat):Prop:=listed.getD j false=true
theorem Az{n:Nat}{listed:Array Bool}(hs:listed.size=n){j:Nat}(hj:j<n):¬ On listed j ↔ listed.getD j true=false:=by
 unfold On;simp[hs,hj]
theorem aXJ{listed:Array Bool}{i j:Nat}(h:On (listed.setIfInBounds i true) j):j=i\/On listed j:=by
 by_cases hij:i=j
 .exact .inl hij.symm
 .exact .inr (by unfold On at *;rw[getD_set_ne false hij]at h;exact h)
structure oG(ops:Array Oper)(listed:Array Bool):Prop where
 sz:listed.size=ops.size
 down:∀i o,On listed i->ops[i]?=some o->∀e∈o.after,Region.binds .any e=true->On listed e.on
theorem On.lt{ops:Array Oper}{listed:Array Bool}(h:oG ops listed){j:Nat}(hj:On listed j):j<ops.size:=by
 unfold On at hj;rcases aGl j listed.size with h'|h'
 .rw[<-h.sz];exact h'
 .simp[EC h']at hj
theorem oG.set{ops:Array Oper}{listed:Array Bool}(h:oG ops listed){i:Nat}(hr:i∈Region.ready .any ops listed):oG ops (listed.setIfInBounds i true):=by
 refine⟨by simpa using h.sz,λk o hk ho e he hb=>?_⟩;obtain⟨h0,o',ho',hall⟩:=mem_ready.1 hr;rcases aXJ hk with rfl|hk
 .rw[ho]at ho'
  cases ho';exact getD_set_true (hall e he hb)
 .exact getD_set_true (h.down k o hk ho e he hb)
section
variable{ops:Array Oper}{pre:Nat->List Nat}{all:List (Nat×Tmp)}{uses:Nat->List (Nat×Tmp)}{m:Nat}{listed:Array Bool}
theorem xT.Ay(F:xT ops pre all uses m)(h:oG ops listed):∀(i j:Nat),On listed i->j∈pre i->On listed j:=by
 intro i
 induction i using OM with
 |_ i ih=>
   intro j hi hj;have hlt:=On.lt h hi;have ho:ops[i]?=some ops[i]:=by simp[hlt]
   obtain⟨_,e,he,hb,hc⟩:=F.Au i _ ho j hj;have hon:=h.down i _ hi ho e he hb;rcases hc with hc|hc
   .exact hc ▸ hon
   .exact ih e.on (F.back i _ ho e he hb) j hon hc
theorem xT.NG(F:xT ops pre all uses m)(h:oG ops listed){i j:Nat}(hr:i∈Region.ready .any ops listed)(hj:j∈pre i):On listed j:=by
 obtain⟨h0,o,ho,hall⟩:=mem_ready.1 hr;obtain⟨_,e,he,hb,hc⟩:=F.Au i o ho j hj;rcases hc with hc|hc
 .exact hc ▸ hall e he hb
 .exact F.Ay h e.on j (hall e he hb) hc
theorem xT.least(F:xT ops pre all uses m)(h:oG ops listed):∀i,i<ops.size->¬ On listed i->∃k,k<=i/\k∈Region.ready .any ops listed:=by
 intro i
 induction i using OM with
 |_ i ih=>
   intro hlt hi;by_cases hex:∃j,j<i/\¬ On listed j
   .obtain⟨j,hj,hn⟩:=hex
    obtain⟨k,hk,hr⟩:=ih j hj (by omega) hn;exact⟨k,by omega,hr⟩
   .have ho:ops[i]?=some ops[i]:=by simp[hlt]
    refine⟨i,cQ _,mem_ready.2 ⟨(Az h.sz hlt).1 hi,_,ho,λe he hb=>?_⟩⟩;have:=F.back i _ ho e he hb;exact Classical.not_not.1 λhn=>hex ⟨e.on,this,hn⟩
end
structure a2V(ops:Array Oper)(all:List (Nat×Tmp))(Vs:List FV)(w0:World)(a:Act)(listed:Array Bool)(a':Act)(W:World)(vals:Nat->Value):Prop where
 a2R:∀i,all.length<=i->¬ On listed i
 df:a'.defers=a.defers
 ts:a'.tmps.size=a.tmps.size
 val:∀p∈all,On listed p.1->a'.tmps[p.2]?=some (vals p.1)
 v:∀p∈all,On listed p.1->aZe Vs p.1 (vals p.1) W
 oth:∀d,(∀p∈all,On listed p.1->p.2≠d)->a'.tmps[d]?=a.tmps[d]?
 fN:cG w0 W
section
variable{ops:Array Oper}{pre:Nat->List Nat}{all:List (Nat×Tmp)}{uses:Nat->List (Nat×Tmp)}{listed:Array Bool}{P:Program}{Q:Exit->Act->World->Prop}{Vs:List FV}{w0:World}{a:Act}
theorem xT.same(F:xT ops pre all uses a.tmps.size){p q:Nat×Tmp}(hp:p∈all)(hq:q∈all)(h:p.2=q.2):p=q:=by
 obtain⟨k,hk⟩:=iA.1 hp;obtain⟨k',hk'⟩:=iA.1 hq;obtain⟨h1,h2,h3,h4⟩:=F.tgt k p.1 p.2 hk;by_cases hkk:k'=k
 .subst hkk;rw[hk]at hk';cases hk';rfl
 .exact absurd h.symm (h4 k' q.1 q.2 hk' hkk)
end
end Go
/- What a seat knows of its package variables for good. -/
namespace Go.Ab
def BC:Nat->Option (List Value):=λ_=>none
def Fp (w : World) : Prop := Lib.TabIs Go.Proofs.Tryd.prog w "internal/strconv.uint64pow10" .u64 Lib.pow10Tab ∧ ∀ g vs, BC g = some vs → ∀ i u, vs[i]? = some u → w.cell? ⟨g, i, none⟩ = some u
def Fq(G:Nat->Nat):Prop:=∀g vs,BC g=some vs->vs.length<=G g
theorem aED{w:World}(h:Fp w){g:Nat}{vs:List Value}(hg:BC g=some vs){i:Nat}{u:Value}(hu:vs[i]?=some u):w.cell? ⟨g,i,none⟩=some u:=h.2 g vs hg i u hu
theorem aYz{g:Nat}{vs:List Value}(h:BC g=some vs){u:Value}(hu:u∈vs):u.oneCell'=true:=by
 have:∀vs,BC g=some vs->vs.all (·.oneCell')=true:=by
  intro vs h;cases h
 exact eG.1 (this vs h) u hu
end Go.Ab
/- The abstract machine: data that a walk carries, what a world holds of them, and the states of a walk. -/
namespace Go.Ab
open Go.RowKit
inductive Tree where
 |v (x:Value)
 |sl (n:Nat) (ts:List Tree)
abbrev bT:=Nat->Nat
def Cell(w:World)(G:bT)(b i:Nat)(u:Value):Prop:=w.cell? ⟨b,i,none⟩=some u/\i<G b
inductive TR (w:World) (G:bT):Value->Tree->Prop
 |v (x:Value) (h:x.oneCell'=true):TR w G x (.v x)
 |nil {a:Option Addr} {c:Nat} (h:a=none->c=0):TR w G (.slice a 0 c) (.sl 0 [])
 |sl (b o n c:Nat) (us:List Value) (ts:List Tree) (hl:us.length=ts.length) (hc:∀(i:Nat)(u:Value),us[i]?=some u->Cell w G b (o+i) u)
     (hn:n<=c) (h:∀(i:Nat)(u:Value)(t:Tree),us[i]?=some u->ts[i]?=some t->TR w G u t):TR w G (.slice (some ⟨b,o,none⟩) n c) (.sl n ts)
theorem TR.mono{w w':World}{G G':bT}(hx:∀b i u,Cell w G b i u->Cell w' G' b i u){v:Value}{t:Tree}(h:TR w G v t):TR w' G' v t:=by
 induction h with
 |v x h=>exact .v x h
 |nil h=>exact .nil h
 |sl b o n c us ts hl hc hn h ih=>exact .sl b o n c us ts hl (λi u hi=>hx _ _ _ (hc i u hi)) hn ih
theorem TR.one{w:World}{G:bT}{v:Value}{t:Tree}(h:TR w G v t):v.oneCell'=true:=by
 cases h with
 |v x h=>exact h
 |nil h=>rfl
 |sl b o n c us ts hl hc hn h=>rfl
inductive D where
 |t (x:Tree)
 |agg (ds:List D)
 |aU (ds:List D)
 |own (k:Nat)
 |ref (k off:Nat)
 |ptr (ts:List Tree) (off:Nat)
 |fn (f:FuncId) (caps:List D)
 |any
 |sub (k i:Nat)
 |gY (k i j:Nat)
 |vw (k off n:Nat)
 |via (k:Nat) (r:Value->Value->Prop)
def aV:Value->Option Nat
 |.pointer (some a)=>some a.block
 |.slice (some a) _ _=>some a.block
 |.map (some g)=>some g
 |_=>none
inductive DR (ν:Nat->Value) (nm:Nat->Bool) (w:World) (G:bT):Value->D->Prop
 |t {v:Value} {x:Tree} (h:TR w G v x):DR ν nm w G v (.t x)
 |agg {vs:Array Value} {ds:List D} (hl:vs.size=ds.length) (h:∀(i:Nat)(u:Value)(d:D),vs[i]?=some u->ds[i]?=some d->DR ν nm w G u d) (h1:∀u∈vs.toList,u.oneCell'=true):DR ν nm w G (.agg vs) (.agg ds)
 |aU {vs:Array Value} {ds:List D} (hl:vs.size=ds.length) (h:∀(i:Nat)(u:Value)(d:D),vs[i]?=some u->ds[i]?=some d->DR ν nm w G u d):DR ν nm w G (.tuple vs) (.aU ds)
 |own {k:Nat} (hk:nm k=true) (h1:(ν k).oneCell'=true):DR ν nm w G (ν k) (.own k)
 |ref {k off g:Nat} (hk:nm k=true) (hg:aV (ν k)=some g):DR ν nm w G (.pointer (some ⟨g,off,none⟩)) (.ref k off)
 |ptr {b o off:Nat} {us:List Value} {ts:List Tree} (hl:us.length=ts.length) (hc:∀(i:Nat)(u:Value),us[i]?=some u->Cell w G b (o+i) u) (h:∀(i:Nat)(u:Value)(t:Tree),us[i]?=some u->ts[i]?=some t->TR w G u t):
     DR ν nm w G (.pointer (some ⟨b,o+off,none⟩)) (.ptr ts off)
 |fn {f:FuncId} {vs:Array Value} {ds:List D} (hl:vs.size=ds.length) (h:∀(i:Nat)(u:Value)(d:D),vs[i]?=some u->ds[i]?=some d->DR ν nm w G u d):DR ν nm w G (.func (.func f) #[] vs) (.fn f ds)
 |any {v:Value}:DR ν nm w G v .any
 |sub {k i g:Nat} {v:Value} (hk:nm k=true) (hg:aV (ν k)=some g) (hc:Cell w G g i v) (h1:v.oneCell'=true):DR ν nm w G v (.sub k i)
 |gY {k i j g g' n c:Nat} (hk:nm k=true) (hg:aV (ν k)=some g) (hc:Cell w G g i (.slice (some ⟨g',0,none⟩) n c)):DR ν nm w G (.pointer (some ⟨g',j,none⟩)) (.gY k i j)
 |vw {k off n o c g:Nat} (hk:nm k=true) (hg:aV (ν k)=some g) (ho:0<n->o=off) (hn:n<=c) (hp:off=0->∃N,ν k = .slice (some ⟨g,o,none⟩) N c):DR ν nm w G (.slice (some ⟨g,o,none⟩) n c) (.vw k off n)
 |Ap {k off c:Nat} (hk:nm k=true) (hc:c=0) (hz:ν k = .slice none 0 0):DR ν nm w G (.slice none 0 c) (.vw k off 0)
 |via {k:Nat} {r:Value->Value->Prop} {v:Value} (hk:nm k=true) (h:r (ν k) v) (h1:v.oneCell'=true):DR ν nm w G v (.via k r)
theorem DR.mono{ν ν':Nat->Value}{nm nm':Nat->Bool}{w w':World}{G G':bT}(hn:∀k,nm k=true->nm' k=true/\ν' k=ν k)(hx:∀b i u,Cell w G b i u->Cell w' G' b i u){v:Value}{d:D}(h:DR ν nm w G v d):DR ν' nm' w' G' v d:=by
 induction h with
 |t h=>exact .t (h.mono hx)
 |agg hl h h1 ih=>exact .agg hl ih h1
 |aU hl h ih=>exact .aU hl ih
 |own hk h1=>rw[<-(hn _ hk).2]at h1 ⊢;exact .own (hn _ hk).1 h1
 |ref hk hg=>exact .ref (hn _ hk).1 (by rw[(hn _ hk).2];exact hg)
 |ptr hl hc h=>exact .ptr hl (λi u hi=>hx _ _ _ (hc i u hi)) (λi u t hu ht=>(h i u t hu ht).mono hx)
 |fn hl h ih=>exact .fn hl ih
 |any=>exact .any
 |sub hk hg hc h1=>exact .sub (hn _ hk).1 (by rw[(hn _ hk).2];exact hg) (hx _ _ _ hc) h1
 |gY hk hg hc=>exact .gY (hn _ hk).1 (by rw[(hn _ hk).2];exact hg) (hx _ _ _ hc)
 |vw hk hg ho hn' hp=>exact .vw (hn _ hk).1 (by rw[(hn _ hk).2];exact hg) ho hn' (by rw[(hn _ hk).2];exact hp)
 |Ap hk hc hz=>exact .Ap (hn _ hk).1 hc (by rw[(hn _ hk).2];exact hz)
 |via hk h h1=>exact .via (hn _ hk).1 (by rw[(hn _ hk).2];exact h) h1
def D.one:D->Bool
 |.agg _|.aU _|.any=>false
 |_=>true
theorem DR.Th{ν:Nat->Value}{nm:Nat->Bool}{w:World}{G:bT}{v:Value}{d:D}(h:DR ν nm w G v d)(ho:d.one=true):v.oneCell'=true:=by
 cases h with
 |t h=>exact h.one
 |own hk h1=>exact h1
 |agg=>cases ho
 |aU=>cases ho
 |any=>cases ho
 |ref=>rfl
 |ptr=>rfl
 |fn=>rfl
 |sub hk hg hc h1=>exact h1
 |gY=>rfl
 |vw=>rfl
 |Ap=>rfl
 |via _ _ h1=>exact h1
inductive NC where
 |eZ (d:D)
 |cM (n:Nat) (ts:List Tree)
inductive aQ where
 |box (e:TypeId) (ds:List D)
 |row (e:TypeId) (s n:Nat) (ts:List Tree) (st:Bool)
 |nest (e e':TypeId) (s:Nat) (ls:List (Nat×List Tree))
 |mp (l:List (Value×D))
 |bE (e e':TypeId) (m s n:Nat) (cs:List NC)
 |it (s:ByteArray) (pos:Nat)
def bN(w:World)(v:Value):aQ->Nat->Prop
 |.nest _ _ _ ls,g=>aV v=some g\/∃(g0 i:Nat)(x:Value),aV v=some g0/\i<ls.length/\w.cell? ⟨g0,i,none⟩=some x/\aV x=some g
 |.box ..,g=>aV v=some g
 |.row ..,g=>aV v=some g
 |.mp ..,g=>aV v=some g
 |.it ..,g=>aV v=some g
 |.bE _ _ _ _ _ cs,g=>aV v=some g\/∃(g0 i:Nat)(x:Value)(q:Nat)(ts:List Tree),aV v=some g0/\cs[i]?=some (.cM q ts)/\w.cell? ⟨g0,i,none⟩=some x/\aV x=some g
theorem dR{w:World}{v:Value}{o:aQ}{g:Nat}(h:aV v=some g):bN w v o g:=by cases o <;> first|exact .inl h|exact h
theorem rC{w w':World}{v:Value}{o:aQ}(h:∀g,aV v=some g->w'.heap[g]?=w.heap[g]?){g:Nat}:bN w' v o g ↔ bN w v o g:=by
 cases o with
 |box=>exact kW
 |row=>exact kW
 |mp=>exact kW
 |it=>exact kW
 |bE e e' m s n cs=>
   have hc:∀g0 i,aV v=some g0->w'.cell? ⟨g0,i,none⟩=w.cell? ⟨g0,i,none⟩:=λg0 i h0=>World.cell?_of_block (a:=⟨g0,i,none⟩) (h g0 h0)
   constructor
   .rintro(h1|⟨g0,i,x,q,ts,h1,h2,h3,h4⟩)
    .exact .inl h1
    .exact .inr ⟨g0,i,x,q,ts,h1,h2,by rw[<-hc g0 i h1];exact h3,h4⟩
   .rintro(h1|⟨g0,i,x,q,ts,h1,h2,h3,h4⟩)
    .exact .inl h1
    .exact .inr ⟨g0,i,x,q,ts,h1,h2,by rw[hc g0 i h1];exact h3,h4⟩
 |nest e e' s ls=>
   have hc:∀g0 i,aV v=some g0->w'.cell? ⟨g0,i,none⟩=w.cell? ⟨g0,i,none⟩:=λg0 i h0=>World.cell?_of_block (a:=⟨g0,i,none⟩) (h g0 h0)
   constructor
   .rintro(h1|⟨g0,i,x,h1,h2,h3,h4⟩)
    .exact .inl h1
    .exact .inr ⟨g0,i,x,h1,h2,by rw[<-hc g0 i h1];exact h3,h4⟩
   .rintro(h1|⟨g0,i,x,h1,h2,h3,h4⟩)
    .exact .inl h1
    .exact .inr ⟨g0,i,x,h1,h2,by rw[hc g0 i h1];exact h3,h4⟩
def BR(w:World)(X:Nat->Prop):Prop:=∀w':World,w.heap.size<=w'.heap.size->(∀b,b<w.heap.size->¬ X b->w'.heap[b]?=w.heap[b]?)->Fp w'
theorem BR.dY{w0 w:World}{X X':Nat->Prop}(h:BR w0 X)(hs:w0.heap.size<=w.heap.size)(hb:∀b,b<w0.heap.size->¬ X b->w.heap[b]?=w0.heap[b]?)(hX:∀b,X' b->w0.heap.size<=b\/X b):BR w X':=λw' h1 h2=>
 h w' (Nat.le_trans hs h1) λb b1 b2=>(h2 b (tS b1 hs) λhx=>(hX b hx).elim (λh=>absurd b1 (Nat.not_lt.2 h)) b2).trans (hb b b1 b2)
structure Env where
 m:Nat
 w0:World
 G0:bT
 X:Nat->Prop
 ν0:Nat->Value
 At:BR w0 X
 tg:Fq G0
 ds:List Deferred
def Env.may(E:Env)(g:Nat):Prop:=E.w0.heap.size<=g\/E.X g
structure St where
 T:Nat->Option D
 H:Nat->Option aQ
 nm:Nat->Bool
def eR(E:Env)(ν:Nat->Value)(nm:Nat->Bool)(w:World)(G:bT)(k:Nat):aQ->Prop
 |.box e ds=>∃g cur,ν k = .pointer (some ⟨g,0,none⟩)/\E.may g/\w.heap[g]?=some (.cells cur e (0,0))/\G g=0/\cur.size=ds.length /\
     (∀(i:Nat)(u:Value)(d:D),cur[i]?=some u->ds[i]?=some d->DR ν nm w G u d/\u.oneCell'=true)
 |.row e s n ts st=>∃xs,w.ownsRow 0 e s (ν k) n xs/\xs.length=ts.length/\(∀(i:Nat)(u:Value)(t:Tree),xs[i]?=some u->ts[i]?=some t->TR w G u t) /\
     ∀g,aV (ν k)=some g->E.may g/\G g=if st then n*s else 0
 |.nest e e' s ls=>∃xs,w.ownsRow 0 e 1 (ν k) ls.length xs /\
     (∀(i:Nat)(x:Value)(p:Nat×List Tree),xs[i]?=some x->ls[i]?=some p->∃ys,w.ownsRow 0 e' s x p.1 ys/\ys.length=p.2.length/\(∀(i:Nat)(u:Value)(t:Tree),ys[i]?=some u->p.2[i]?=some t->TR w G u t)/\∀g,aV x=some g->E.may g/\G g=0) /\
     (∀(i j:Nat)(x y:Value),i≠j->xs[i]?=some x->xs[j]?=some y->∀g,aV x=some g->aV y≠some g)/\(∀(i:Nat)(x:Value),xs[i]?=some x->∀g,aV x=some g->aV (ν k)≠some g) /\
     ∀g,aV (ν k)=some g->E.may g/\G g=ls.length
 |.mp l=>∃g es clock,ν k = .map (some g)/\E.may g/\w.heap[g]?=some (.map es clock)/\G g=0/\es.size=l.length /\
     ∀(i:Nat)(en:MapEntry)(p:Value×D),es[i]?=some en->l[i]?=some p->en.key=p.1/\DR ν nm w G en.val p.2
 |.it s pos=>∃g,ν k = .pointer (some ⟨g,0,none⟩)/\E.may g/\w.heap[g]?=some (.stringIter s pos)/\G g=0
 |.bE e e' m s n cs=>∃xs,w.ownsRow 0 e m (ν k) n xs/\xs.length=cs.length /\
     (∀(i:Nat)(x:Value)(d:D),xs[i]?=some x->cs[i]?=some (.eZ d)->DR ν nm w G x d/\x.oneCell'=true) /\
     (∀(i:Nat)(x:Value)(q:Nat)(ts:List Tree),xs[i]?=some x->cs[i]?=some (.cM q ts)->∃ys,w.ownsRow 0 e' s x q ys/\ys.length=ts.length/\(∀(i:Nat)(u:Value)(t:Tree),ys[i]?=some u->ts[i]?=some t->TR w G u t)/\∀g,aV x=some g->E.may g/\G g=0) /\
     (∀(i j:Nat)(x y:Value)(q q':Nat)(ts ts':List Tree),i≠j->xs[i]?=some x->xs[j]?=some y->cs[i]?=some (.cM q ts)->cs[j]?=some (.cM q' ts')->∀g,aV x=some g->aV y≠some g)/\(∀(i:Nat)(x:Value)(q:Nat)(ts:List Tree),xs[i]?=some x->cs[i]?=some (.cM q ts)->∀g,aV x=some g->aV (ν k)≠some g) /\
     ∀g,aV (ν k)=some g->E.may g/\G g=0
structure Kept(E:Env)(w:World):Prop where
 os:w.os=E.w0.os
 tape:w.tape=E.w0.tape
 output:w.output=E.w0.output
 size:E.w0.heap.size<=w.heap.size
 block:∀b,b<E.w0.heap.size->¬ E.X b->w.heap[b]?=E.w0.heap[b]?
structure Inv(E:Env)(σ:St)(ν:Nat->Value)(G:bT)(w:World)(tm:Array Value):Prop where
 kept:Kept E w
 dY:∀b i u,Cell E.w0 E.G0 b i u->Cell w G b i u
 fA:∀k,50<=k->k<100->ν k=E.ν0 k
 g0:∀b,b<E.w0.heap.size->¬ E.X b->G b=E.G0 b
 sz:tm.size=E.m
 T:∀t d,σ.T t=some d->∃v,tm[t]?=some v/\DR ν σ.nm w G v d
 H:∀k o,σ.H k=some o->σ.nm k=true/\eR E ν σ.nm w G k o
 cK:∀k o k' o',σ.H k=some o->σ.H k'=some o'->k≠k'->∀g,bN w (ν k) o g->¬ bN w (ν k') o' g
def R(E:Env)(σ:St)(tm:Array Value)(w:World):Prop:=∃ν G,Inv E σ ν G w tm
theorem Inv.tg{E:Env}{σ:St}{ν:Nat->Value}{G:bT}{w:World}{tm:Array Value}(I:Inv E σ ν G w tm):Fq G:=λg vs h=>by
 rcases Nat.eq_zero_or_pos vs.length with h0|h0
 .omega
 .have hi:vs.length-1<vs.length:=by omega
  have hc:=aED (E.At E.w0 (cQ _) λ_ _ _=>rfl) h (bJ hi);have:=(I.dY g (vs.length-1) _ ⟨hc,by have:=E.tg g vs h;omega⟩).2;omega
theorem Inv.G6{E:Env}{σ:St}{ν:Nat->Value}{G:bT}{w:World}{tm:Array Value}(I:Inv E σ ν G w tm){g:Nat}{vs:List Value}(h:BC g=some vs)(i:Nat)(u:Value)(hu:vs[i]?=some u):Cell w G g i u:=
 I.dY g i u ⟨aED (E.At E.w0 (cQ _) λ_ _ _=>rfl) h hu,tS (bU.1 hu).1 (E.tg g vs h)⟩
theorem Kept.fN{E:Env}{w w':World}(h:Kept E w)(hA:cG w w'):Kept E w':=
 ⟨hA.os.trans h.os,hA.tape.trans h.tape,hA.output.trans h.output,Nat.le_trans h.size hA.size,λb hb hX=>(hA.block b (tS hb h.size)).trans (h.block b hb hX)⟩
theorem Cell.lt{w:World}{G:bT}{b i:Nat}{u:Value}(h:Cell w G b i u):b<w.heap.size:=World.block_lt_of_cell? w ⟨b,i,none⟩ h.1
theorem Cell.fN{w w':World}{G G':bT}(hA:cG w w')(hG:∀b,b<w.heap.size->G' b=G b){b i:Nat}{u:Value}(h:Cell w G b i u):Cell w' G' b i u:=
 ⟨(hA.cell h.lt).trans h.1,by rw[hG b h.lt];exact h.2⟩
theorem Nc{w:World}{g:Nat}{o:Obj}(h:w.heap[g]?=some o):g<w.heap.size:=(kY.1 h).1
theorem aG2{v:Value}{g:Nat}:v.ownBlock=some g->aV v=some g:=by
 intro h;unfold Value.ownBlock at h;split at h
 .simpa[aV]using h
 .cases h
theorem jR{w:World}{base:Nat}{e:TypeId}{s:Nat}{v:Value}{n:Nat}{xs:List Value}(h:w.ownsRow base e s v n xs):aV v=v.ownBlock:=by
 rcases h.2 with⟨rfl,_⟩|⟨g,cap,cur,rfl,_⟩ <;> rfl
theorem lV{w:World}{base:Nat}{e:TypeId}{s:Nat}{v:Value}{n:Nat}{xs:List Value}(h:w.ownsRow base e s v n xs):v.oneCell'=true:=by
 rcases h.2 with⟨rfl,_⟩|⟨g,cap,cur,rfl,_⟩ <;> rfl
theorem kP{w:World}{e:TypeId}{v:Value}{m n:Nat}{xs:List Value}(h:w.ownsRow 0 e m v n xs){g i:Nat}(hg:aV v=some g)(hi:i<xs.length):w.cell? ⟨g,i,none⟩=xs[i]?:=by
 rcases h.2 with⟨rfl,h0⟩|⟨g0,cap,cur,hv,_,r2,_,_,_,r6⟩
 .cases hg
 .rw[hv]at hg
  cases hg;rw[h.1]at hi;rw[<-r6,eN,aJ (by omega)];simp[World.cell?,r2]
theorem eR.mono{E:Env}{ν ν':Nat->Value}{nm nm':Nat->Bool}{w w':World}{G G':bT}{k:Nat}{o:aQ}(hk:nm k=true)(hn:∀k,nm k=true->nm' k=true/\ν' k=ν k)
    (hx:∀b i u,Cell w G b i u->Cell w' G' b i u) (hb:∀g,bN w (ν k) o g->w'.heap[g]?=w.heap[g]?/\G' g=G g) (h:eR E ν nm w G k o):eR E ν' nm' w' G' k o:=by
 have hxx:=hx;have mv:∀{e:TypeId}{s n:Nat}{v:Value}{xs:List Value},(∀g,aV v=some g->w'.heap[g]?=w.heap[g]?)->w.ownsRow 0 e s v n xs->w'.ownsRow 0 e s v n xs:=λhv h1=>by
  refine⟨h1.1,?_⟩;rcases h1.2 with h|⟨g,cap,cur,hvv,r1,r2,r3⟩
  .exact .inl h
  .exact .inr ⟨g,cap,cur,hvv,r1,by rw[hv g (by rw[hvv];rfl)];exact r2,r3⟩
 cases o with
 |it s pos=>
   obtain⟨g,h1,h2,h3,h4⟩:=h;obtain⟨q1,q2⟩:=hb g (dR (by rw[h1];rfl));exact⟨g,by rw[(hn k hk).2];exact h1,h2,by rw[q1];exact h3,by rw[q2];exact h4⟩
 |mp l=>
   obtain⟨g,es,clock,h1,h2,h3,h4,h5,h6⟩:=h;obtain⟨q1,q2⟩:=hb g (dR (by rw[h1];rfl));exact⟨g,es,clock,by rw[(hn k hk).2];exact h1,h2,by rw[q1];exact h3,by rw[q2];exact h4,h5,λi en p he hp=>⟨(h6 i en p he hp).1,(h6 i en p he hp).2.mono hn hx⟩⟩
 |bE e e' m s n cs=>
   obtain⟨xs,h1,hl,hd,h2,h3,h4,h5⟩:=h;have hin:∀(i:Nat)(x:Value)(q:Nat)(ts:List Tree),xs[i]?=some x->cs[i]?=some (.cM q ts)->∀g,aV x=some g->bN w (ν k) (.bE e e' m s n cs) g:=λi x q ts hx hc g hg=>by
    have hi:=(bU.1 hx).1;rcases h1.2 with⟨_,h0⟩|⟨g0,cap,cur,hv,_⟩
    .rw[h1.1,h0]at hi;omega
    .refine .inr ⟨g0,i,x,q,ts,by rw[hv];rfl,hc,?_,hg⟩
     rw[kP h1 (by rw[hv];rfl) hi];exact hx
   refine⟨xs,by rw[(hn k hk).2];exact mv (λg hg=>(hb g (dR hg)).1) h1,hl,λi x d hx hc=>⟨(hd i x d hx hc).1.mono hn hxx,(hd i x d hx hc).2⟩,λi x q ts hx hc=>?_,h3,λi x q ts hx hc g hg=>by rw[(hn k hk).2];exact h4 i x q ts hx hc g hg,λg hg=>?_⟩
   .obtain⟨ys,y1,y2,y3,y4⟩:=h2 i x q ts hx hc
    exact⟨ys,mv (λg hg=>(hb g (hin i x q ts hx hc g hg)).1) y1,y2,λi u t hu ht=>(y3 i u t hu ht).mono ‹_›,λg hg=>by rw[(hb g (hin i x q ts hx hc g hg)).2];exact y4 g hg⟩
   .rw[(hn k hk).2]at hg
    rw[(hb g (dR hg)).2];exact h5 g hg
 |nest e e' s ls=>
   obtain⟨xs,h1,h2,h3,h4,h5⟩:=h;have hin:∀(i:Nat)(x:Value),xs[i]?=some x->∀g,aV x=some g->bN w (ν k) (.nest e e' s ls) g:=λi x hx g hg=>by
    have hi:i<ls.length:=by have:=(bU.1 hx).1;rw[h1.1]at this;omega
    rcases h1.2 with⟨_,h0⟩|⟨g0,cap,cur,hv,_,r2,_,_,_,r6⟩
    .omega
    .refine .inr ⟨g0,i,x,by rw[hv];rfl,hi,?_,hg⟩
     rw[<-r6,eN,aJ (by omega)]at hx;simp only[World.cell?,r2];simpa using hx
   refine⟨xs,by rw[(hn k hk).2];exact mv (λg hg=>(hb g (dR hg)).1) h1,λi x p hx hp=>?_,h3,λi x hx g hg=>by rw[(hn k hk).2];exact h4 i x hx g hg,λg hg=>?_⟩
   .obtain⟨ys,y1,y2,y3,y4⟩:=h2 i x p hx hp
    exact⟨ys,mv (λg hg=>(hb g (hin i x hx g hg)).1) y1,y2,λi u t hu ht=>(y3 i u t hu ht).mono ‹_›,λg hg=>by rw[(hb g (hin i x hx g hg)).2];exact y4 g hg⟩
   .rw[(hn k hk).2]at hg
    rw[(hb g (dR hg)).2];exact h5 g hg
 |box e ds=>
   obtain⟨g,cur,h1,h2,h3,h4,h5,h6⟩:=h;obtain⟨q1,q2⟩:=hb g (dR (by rw[h1];rfl));exact⟨g,cur,by rw[(hn k hk).2];exact h1,h2,by rw[q1];exact h3,by rw[q2];exact h4,h5,λi u d hu hd=>⟨(h6 i u d hu hd).1.mono hn hx,(h6 i u d hu hd).2⟩⟩
 |row e s n ts st=>
   obtain⟨xs,h1,h2,h3,h4⟩:=h;refine⟨xs,?_,h2,λi u t hu ht=>(h3 i u t hu ht).mono hx,λg hg=>?_⟩
   .rw[(hn k hk).2]
    refine⟨h1.1,?_⟩;rcases h1.2 with h|⟨g,cap,cur,hv,r1,r2,r3⟩
    .exact .inl h
    .exact .inr ⟨g,cap,cur,hv,r1,by rw[(hb g (dR (by rw[hv];rfl))).1];exact r2,r3⟩
   .rw[(hn k hk).2]at hg
    rw[(hb g (dR hg)).2];exact h4 g hg
theorem eR.pB{E:Env}{ν:Nat->Value}{nm:Nat->Bool}{w:World}{G:bT}{k:Nat}{o:aQ}(h:eR E ν nm w G k o){g:Nat}(hg:aV (ν k)=some g):g<w.heap.size:=by
 cases o with
 |box e ds=>
   obtain⟨g',cur,h1,h2,h3,_⟩:=h;rw[h1]at hg;simp only[aV,hY]at hg;subst hg;exact Nc h3
 |row e s n ts st=>
   obtain⟨xs,h1,_⟩:=h;exact(h1.lt g (by rw[<-jR h1];exact hg)).2
 |nest e e' s ls=>
   obtain⟨xs,h1,_⟩:=h;exact(h1.lt g (by rw[<-jR h1];exact hg)).2
 |bE e e' m s n cs=>
   obtain⟨xs,h1,_⟩:=h;exact(h1.lt g (by rw[<-jR h1];exact hg)).2
 |it s pos=>
   obtain⟨g',h1,h2,h3,_⟩:=h;rw[h1]at hg;simp only[aV,hY]at hg;subst hg;exact Nc h3
 |mp l=>
   obtain⟨g',es,clock,h1,h2,h3,_⟩:=h;rw[h1]at hg;simp only[aV,hY]at hg;subst hg;exact Nc h3
theorem tB{w:World}{e:TypeId}{v:Value}{n:Nat}{xs:List Value}(h:w.ownsRow 0 e 1 v n xs){g i:Nat}(hg:aV v=some g)(hi:i<n):w.cell? ⟨g,i,none⟩=xs[i]?:=by
 rcases h.2 with⟨rfl,h0⟩|⟨g0,cap,cur,hv,_,r2,_,_,_,r6⟩
 .cases hg
 .rw[hv]at hg
  cases hg;rw[<-r6,eN,aJ (by omega)];simp[World.cell?,r2]
theorem eR.ft{E:Env}{ν:Nat->Value}{nm:Nat->Bool}{w:World}{G:bT}{k:Nat}{o:aQ}(h:eR E ν nm w G k o){g:Nat}(hg:bN w (ν k) o g):g<w.heap.size/\E.may g:=by
 cases o with
 |box e ds=>obtain⟨g',cur,h1,h2,h3,_⟩:=id h;have hg:aV (ν k)=some g:=hg;exact⟨h.pB hg,by rw[h1]at hg;cases hg;exact h2⟩
 |row e s n ts st=>obtain⟨xs,h1,h2,h3,h4⟩:=id h;have hg:aV (ν k)=some g:=hg;exact⟨h.pB hg,(h4 g hg).1⟩
 |it s pos=>obtain⟨g',h1,h2,h3,_⟩:=id h;have hg:aV (ν k)=some g:=hg;exact⟨h.pB hg,by rw[h1]at hg;cases hg;exact h2⟩
 |mp l=>obtain⟨g',es,clock,h1,h2,h3,_⟩:=id h;have hg:aV (ν k)=some g:=hg;exact⟨h.pB hg,by rw[h1]at hg;cases hg;exact h2⟩
 |bE e e' m s n cs=>
   obtain⟨xs,h1,hl,hd,h2,h3,h4,h5⟩:=id h;rcases hg with hg|⟨g0,i,x,q,ts,q1,q2,q3,q4⟩
   .exact⟨h.pB hg,(h5 g hg).1⟩
   .have hi:i<xs.length:=by rw[hl];exact(bU.1 q2).1
    rw[kP h1 q1 hi]at q3;obtain⟨ys,y1,_,_,y4⟩:=h2 i x q ts q3 q2;exact⟨(y1.lt g (by rw[<-jR y1];exact q4)).2,(y4 g q4).1⟩
 |nest e e' s ls=>
   obtain⟨xs,h1,h2,h3,h4,h5⟩:=id h;rcases hg with hg|⟨g0,i,x,q1,q2,q3,q4⟩
   .exact⟨h.pB hg,(h5 g hg).1⟩
   .rw[tB h1 q1 q2]at q3
    obtain⟨p,hp⟩:∃p,ls[i]?=some p:=⟨_,bJ q2⟩
    obtain⟨ys,y1,_,_,y4⟩:=h2 i x p q3 hp;exact⟨(y1.lt g (by rw[<-jR y1];exact q4)).2,(y4 g q4).1⟩
theorem Inv.fN{E:Env}{σ:St}{ν:Nat->Value}{G G':bT}{w w':World}{tm:Array Value}(I:Inv E σ ν G w tm)(hA:cG w w')(hG:∀b,b<w.heap.size->G' b=G b):Inv E σ ν G' w' tm where
 kept:=I.kept.fN hA
 dY:=λb i u h=>(I.dY b i u h).fN hA hG
 fA:=I.fA
 g0:=λb hb hX=>(hG b (tS hb I.kept.size)).trans (I.g0 b hb hX)
 sz:=I.sz
 T:=λt d h=>let⟨v,hv,hd⟩:=I.T t d h;⟨v,hv,hd.mono (λ_ h=>⟨h,rfl⟩) (λ_ _ _ hc=>hc.fN hA hG)⟩
 H:=λk o h=>let⟨h1,h2⟩:=I.H k o h;⟨h1,h2.mono h1 (λ_ h=>⟨h,rfl⟩) (λ_ _ _ hc=>hc.fN hA hG) (λg hg=>⟨hA.block g (h2.ft hg).1,hG g (h2.ft hg).1⟩)⟩
 cK:=λk o k' o' h h' hne g hg hg'=>by
  have q:=(I.H k o h).2;have q':=(I.H k' o' h').2;rw[rC (λg hg=>hA.block g (q.pB hg))]at hg;rw[rC (λg hg=>hA.block g (q'.pB hg))]at hg';exact I.cK k o k' o' h h' hne g hg hg'
def look{α:Type}(k:Nat):List (Nat×α)->Option α
 |[]=>none
 |(k',x)::l=>if k'=k then some x else look k l
theorem kS{α:Type}{k:Nat}{x:α}:∀{l:List (Nat×α)},look k l=some x->(k,x)∈l
 |[],h=>by cases h
 |p::l,h=>by
   unfold look at h;split at h
   .rename_i hp;cases h;rw[<-hp];exact List.mem_cons_self ..
   .exact List.mem_cons_of_mem _ (kS h)
abbrev Wr:=List (Nat×Option aQ)
def St.aS(σ:St)(dst:Option Tmp)(d:D)(W:Wr)(fr:Nat):St:=
 ⟨λt=>if dst=some t then some d else σ.T t,λk=>match look k W with |some r=>r |none=>σ.H k,λk=>σ.nm k||(decide (fr<=k)&&decide (k<fr+8))⟩
theorem Inv.put{E:Env}{σ:St}{ν:Nat->Value}{G:bT}{w:World}{tm:Array Value}(I:Inv E σ ν G w tm){dst:Option Tmp}{v:Value}{d:D}(hd:DR ν σ.nm w G v d)(ht:∀t,dst=some t->t<E.m)(fr:Nat)(a:Act)(ha:a.tmps=tm):
    Inv E (σ.aS dst d [] fr) ν G w (a.put dst v).tmps where
 kept:=I.kept
 dY:=I.dY
 fA:=I.fA
 g0:=I.g0
 sz:=by cases dst <;> simp[Act.put,ha,I.sz]
 T:=λt d' h=>by
  simp only[St.aS]at h;split at h
  .rename_i he
   cases h;subst he;refine⟨v,?_,hd.mono (λk hk=>⟨by simp[St.aS,hk],rfl⟩) (λ_ _ _ hc=>hc)⟩;have:=ht t rfl;simp[Act.put,ha,I.sz,this]
  .rename_i he
   obtain⟨u,hu,hdu⟩:=I.T t d' h;refine⟨u,?_,hdu.mono (λk hk=>⟨by simp[St.aS,hk],rfl⟩) (λ_ _ _ hc=>hc)⟩;cases dst with
   |none=>simpa[Act.put,ha]using hu
   |some t'=>
     have hne:t'≠t:=λe=>he (by rw[e])
     simp only[Act.put,ha];rw[Array.getElem?_setIfInBounds_ne hne];exact hu
 H:=λk o h=>by
  obtain⟨h1,h2⟩:=I.H k o (by simpa[St.aS,look]using h);exact⟨by simp[St.aS,h1],h2.mono h1 (λk hk=>⟨by simp[St.aS,hk],rfl⟩) (λ_ _ _ hc=>hc) (λ_ _=>⟨rfl,rfl⟩)⟩
 cK:=λk o k' o' h h'=>I.cK k o k' o' (by simpa[St.aS,look]using h) (by simpa[St.aS,look]using h')
end Go.Ab
/- The abstract machine: one operation, statements in a row, and the rules of the code. -/
namespace Go.Ab
open Go.RowKit
def xE:Value->Bool
 |.agg cs=>cs.toList.all (·.oneCell')
 |.tuple _=>false
 |_=>true
def oW:Value->D
 |.agg cs=>.agg (cs.toList.map λc=>.t (.v c))
 |v=>.t (.v v)
theorem aFE{ν:Nat->Value}{nm:Nat->Bool}{w:World}{G:bT}{v:Value}(h:xE v=true):DR ν nm w G v (oW v):=by
 cases v with
 |agg cs=>
   have h1:∀c∈cs.toList,c.oneCell'=true:=eG.1 h
   refine .agg (by simp) (λi u d hu hd=>?_) h1;simp only[cY,Array.getElem?_toList,hu,Option.map_some,hY]at hd;subst hd;exact .t (.v u (h1 u (by rw[iA];exact⟨i,by simpa using hu⟩)))
 |tuple vs=>cases h
 |_=>exact .t (.v _ rfl)
def Nh(g:Nat):D:=match BC g with
 |some vs=>.ptr (vs.map .v) 0
 |none=>.t (.v (.pointer (some ⟨g,0,none⟩)))
def St.ev(σ:St):Operand->Option D
 |.tmp t=>σ.T t
 |.const v=>if xE v then some (oW v)else none
 |.func f=>some (.fn f [])
 |.global g=>some (Nh g)
theorem Inv.ev{E:Env}{σ:St}{ν:Nat->Value}{G:bT}{w:World}{a:Act}(I:Inv E σ ν G w a.tmps){x:Operand}{d:D}(h:σ.ev x=some d):DR ν σ.nm w G (a.eval x) d:=by
 cases x with
 |tmp t=>
   obtain⟨v,hv,hd⟩:=I.T t d h;have he:a.eval (.tmp t)=v:=by simp[Act.eval,Array.getD_eq_getD_getElem?,hv]
   rw[he];exact hd
 |const v=>
   simp only[St.ev]at h;split at h
   .rename_i hc;cases h;exact aFE hc
   .cases h
 |func f=>cases h;exact .fn (by simp) (λi u d hu=>by simp at hu)
 |global g=>
   cases h;show DR ν σ.nm w G (.pointer (some ⟨g,0,none⟩)) (Nh g);unfold Nh;split
   .rename_i vs hvs
    have:=DR.ptr (ν:=ν) (nm:=σ.nm) (w:=w) (G:=G) (b:=g) (o:=0) (off:=0) (us:=vs) (ts:=vs.map .v) (by simp) (λi u hu=>by rw[Nat.zero_add];exact I.G6 hvs i u hu) (λi u t hu ht=>by
     rw[cY,hu]at ht;cases ht;exact .v u (aYz hvs (iA.2 ⟨i,hu⟩)))
    exact this
   .exact .t (.v _ rfl)
def aZ(P:Program)(o:Oper)(σ:St)(fr:Nat)(d:D)(W:Wr):Prop:=
 ∀(E:Env)(σ₁:St)(a:Act)(w:World),(∀t d,σ.T t=some d->σ₁.T t=some d)->(∀k o,σ.H k=some o->σ₁.H k=some o)->100<=fr->(∀k,fr<=k->k<fr+8->σ₁.nm k=false)->
  (∀t,o.dst=some t->t<E.m)->R E σ₁ a.tmps w->∀Q,o.wp P a w (λa' w'=>a'.defers=a.defers/\R E (σ₁.aS o.dst d W fr) a'.tmps w') Q
theorem St.c7{σ σ₁:St}(hT:∀t d,σ.T t=some d->σ₁.T t=some d){x:Operand}{d:D}(h:σ.ev x=some d):σ₁.ev x=some d:=by
 cases x with
 |tmp t=>exact hT t d h
 |_=>exact h
theorem put_defers(a:Act)(dst:Option Tmp)(v:Value):(a.put dst v).defers=a.defers:=by cases dst <;> rfl
theorem dF{P:Program}{o:Oper}{σ:St}{fr:Nat}{d:D}
    (h:∀(E:Env)(σ₁:St)(ν:Nat->Value)(G:bT)(w:World)(a:Act),(∀k o,σ.H k=some o->σ₁.H k=some o)->Inv E σ₁ ν G w a.tmps->(∀x d,σ.ev x=some d->DR ν σ₁.nm w G (a.eval x) d)->
     ∃v,(execOp a.eval o).run P w = .ok (.value v) w/\DR ν σ₁.nm w G v d):aZ P o σ fr d []:=by
 intro E σ₁ a w hT hH _ _ hd hR Q;obtain⟨ν,G,I⟩:=hR;obtain⟨v,hr,hv⟩:=h E σ₁ ν G w a hH I (λx d hx=>I.ev (St.c7 hT hx));unfold Oper.wp;rw[hr,Oper.upon_value];exact⟨put_defers ..,ν,G,I.put hv hd fr a rfl⟩
def Dl(P:Program)(o:Oper)(σ:St)(fr:Nat){ι:Type}(C:ι->Prop)(d:ι->D)(W:ι->Wr):Prop:=
 ∀(E:Env)(σ₁:St)(a:Act)(w:World),(∀t d,σ.T t=some d->σ₁.T t=some d)->(∀k o,σ.H k=some o->σ₁.H k=some o)->100<=fr->(∀k,fr<=k->k<fr+8->σ₁.nm k=false)->
  (∀t,o.dst=some t->t<E.m)->R E σ₁ a.tmps w->∀Q,o.wp P a w (λa' w'=>a'.defers=a.defers/\∃i,C i/\R E (σ₁.aS o.dst (d i) (W i) fr) a'.tmps w') Q
theorem aZ.n{P:Program}{o:Oper}{σ:St}{fr:Nat}{d:D}{W:Wr}(h:aZ P o σ fr d W):Dl P o σ fr (λ_:Unit=>True) (λ_=>d) (λ_=>W):=λE σ₁ a w h1 h2 h3 h4 h5 h6 Q=>Oper.wp_mono (λ_ _ h=>⟨h.1,(),trivial,h.2⟩) (h E σ₁ a w h1 h2 h3 h4 h5 h6 Q)
def pO(ops:Array Oper)(o:Oper)(σ:St):Prop:=
 o.guard=none\/∃j want t,o.guard=some (j,want)/\((ops[j]?).bind (·.dst))=some t/\σ.T t=some (.t (.v (.bool want)))
def Gy(ops:Array Oper)(o:Oper)(σ:St):Prop:=
 ∃j want t d,o.guard=some (j,want)/\((ops[j]?).bind (·.dst))=some t/\σ.T t=some d/\(d = .aU []\/d = .t (.v (.bool (!want))))
def mV(P:Program)(ops:Array Oper)(o:Oper)(σ:St)(fr:Nat)(d:D)(W:Wr):Prop:=
 (pO ops o σ/\aZ P o σ fr d W)\/(Gy ops o σ/\d = .aU []/\W=[])
theorem Fl{ν:Nat->Value}{nm:Nat->Bool}{w:World}{G:bT}:DR ν nm w G undef (.aU []):=.aU (by rfl) (λi u d hu=>by simp at hu)
theorem cC{ν:Nat->Value}{nm:Nat->Bool}{w:World}{G:bT}{v x:Value}(h:DR ν nm w G v (.t (.v x))):v=x:=by
 cases h with|t h=>cases h with|v=>rfl
theorem aWD{ν:Nat->Value}{nm:Nat->Bool}{w:World}{G:bT}{v:Value}(h:DR ν nm w G v (.aU [])):v=undef:=by
 cases h with
 |aU hl h=>
   rename_i vs;have:vs = #[]:=by simpa using hl
   rw[this];rfl
theorem pO.wanted{ops:Array Oper}{o:Oper}{σ σ₁:St}{E:Env}{ν:Nat->Value}{G:bT}{w:World}{a:Act}(h:pO ops o σ)(hT:∀t d,σ.T t=some d->σ₁.T t=some d)(I:Inv E σ₁ ν G w a.tmps):
    Region.wanted o (yielded ops a.tmps)=true:=by
 rcases h with h|⟨j,want,t,h1,h2,h3⟩
 .simp[Region.wanted,h]
 .obtain⟨v,hv,hd⟩:=I.T t _ (hT t _ h3)
  have:=cC hd;subst this;simp[Region.wanted,h1,yielded,h2,hv]
theorem Gy.wanted{ops:Array Oper}{o:Oper}{σ σ₁:St}{E:Env}{ν:Nat->Value}{G:bT}{w:World}{a:Act}(h:Gy ops o σ)(hT:∀t d,σ.T t=some d->σ₁.T t=some d)(I:Inv E σ₁ ν G w a.tmps):
    Region.wanted o (yielded ops a.tmps)=false:=by
 obtain⟨j,want,t,d,h1,h2,h3,h4⟩:=h;obtain⟨v,hv,hd⟩:=I.T t _ (hT t _ h3);rcases h4 with rfl|rfl
 .have:=aWD hd
  subst this;simp[Region.wanted,h1,yielded,h2,hv,undef]
 .have:=cC hd
  subst this;simp[Region.wanted,h1,yielded,h2,hv]
theorem mV.run{P:Program}{ops:Array Oper}{o:Oper}{σ σ₁:St}{fr:Nat}{d:D}{W:Wr}(h:mV P ops o σ fr d W){E:Env}{a:Act}{w:World}(hT:∀t d,σ.T t=some d->σ₁.T t=some d)(hH:∀k o,σ.H k=some o->σ₁.H k=some o)
    (h100:100<=fr) (hf:∀k,fr<=k->k<fr+8->σ₁.nm k=false) (hd:∀t,o.dst=some t->t<E.m) (hR:R E σ₁ a.tmps w) (K:Act->World->Prop) (Q:Exit->Act->World->Prop)
    (hK:∀a' w',a'.defers=a.defers->R E (σ₁.aS o.dst d W fr) a'.tmps w'->K a' w'):
    if Region.wanted o (yielded ops a.tmps)then o.wp P a w K Q\/(o.asks P a w/\LetsOut Q)else K (a.put o.dst undef) w:=by
 have hR':=hR;obtain⟨ν,G,I⟩:=hR';rcases h with⟨hg,hop⟩|⟨ho,rfl,rfl⟩
 .rw[hg.wanted hT I,aJ rfl]
  exact .inl (Oper.wp_mono (λa' w' h=>hK a' w' h.1 h.2) (hop E σ₁ a w hT hH h100 hf hd hR Q))
 .rw[ho.wanted hT I,aH (by simp)]
  exact hK _ _ (put_defers ..) ⟨ν,G,I.put Fl hd fr a rfl⟩
abbrev qW(v:Value):PanicEntry:={ v:=v,recovered:=false }
def rI(P:Program)(o:Oper)(σ:St)(fr:Nat)(v:Value)(W:Wr):Prop:=
 ∀(E:Env)(σ₁:St)(a:Act)(w:World),(∀t d,σ.T t=some d->σ₁.T t=some d)->(∀k o,σ.H k=some o->σ₁.H k=some o)->100<=fr->(∀k,fr<=k->k<fr+8->σ₁.nm k=false)->
  R E σ₁ a.tmps w->o.wp P a w (λ_ _=>False) (λe a' w'=>e = .panic [qW v]/\a'.defers=a.defers/\R E (σ₁.aS none .any W fr) a'.tmps w')
theorem aDq{P:Program}{o:Oper}{a:Act}{K K':Act->World->Prop}{Q Q':Exit->Act->World->Prop}(h:∀a w,K a w->K' a w)(hq:∀e a w,Q e a w->Q' e a w){w:World}
    (hh:o.wp P a w K Q):o.wp P a w K' Q':=by
 have lo:LetsOut Q->LetsOut Q':=λ⟨a,w,h⟩=>⟨a,w,hq _ _ _ h⟩
 unfold Oper.wp at *
 generalize(execOp a.eval o).run P w=r at *
 cases r with
 |ok n w'=>
   cases n <;> simp only[Oper.upon]at hh ⊢ <;>
    first
     |exact h _ _ hh
     |exact Calls.mono hh (λe w'' he=>by cases e <;> first|exact h _ _ he|exact hq _ _ _ he|exact lo he)
     |exact Rows.mono hh (λ_ _ he=>h _ _ he)
 |halt x w'=>cases x <;> simp only[Oper.upon]at hh ⊢ <;> first|exact hq _ _ _ hh|exact hh
def l5(P:Program)(ops:Array Oper)(Post:Exit->St->Prop):List Oper->Nat->St->Prop
 |[],_,σ=>Post .normal σ
 |o::rest,fr,σ=>(∃d W,mV P ops o σ fr d W/\l5 P ops Post rest (fr+8) (σ.aS o.dst d W fr)) \/
     (∃(ι:Type)(C:ι->Prop)(d:ι->D)(W:ι->Wr),o.guard=none/\Dl P o σ fr C d W/\∀i,C i->l5 P ops Post rest (fr+8) (σ.aS o.dst (d i) (W i) fr)) \/
     ∃v W,pO ops o σ/\rI P o σ fr v W/\Post (.panic [qW v]) (σ.aS none .any W fr)
abbrev mk(T:Nat->Option D)(H:Nat->Option aQ)(N:Nat):St:=⟨T,H,λk=>decide (k<N)⟩
theorem R.bound{E:Env}{σ:St}{tm:Array Value}{w:World}{N:Nat}(h:R E σ tm w)(hf:∀k,N<=k->σ.nm k=false):R E (mk σ.T σ.H N) tm w:=by
 obtain⟨ν,G,I⟩:=h;have hn:∀k,σ.nm k=true->decide (k<N)=true/\ν k=ν k:=by
  intro k hk;rcases aGl k N with h|h
  .exact⟨aO h,rfl⟩
  .rw[hf k h]at hk
   cases hk
 exact⟨ν,G,I.kept,I.dY,I.fA,I.g0,I.sz,λt d h=>let⟨v,hv,hd⟩:=I.T t d h;⟨v,hv,hd.mono hn (λ_ _ _ h=>h)⟩,
  λk o h=>let⟨h1,h2⟩:=I.H k o h;⟨(hn k h1).1,h2.mono h1 hn (λ_ _ _ h=>h) (λ_ _=>⟨rfl,rfl⟩)⟩,I.cK⟩
def St.free(σ:St)(N:Nat):Prop:=100<=N/\∀k,N<=k->σ.nm k=false
theorem aY1{T:Nat->Option D}{H:Nat->Option aQ}{N:Nat}(h:100<=N):(mk T H N).free N:=⟨h,λk hk=>by simp;exact hk⟩
theorem St.Ub{σ:St}{N:Nat}(h:σ.free N)(dst:Option Tmp)(d:D)(W:Wr):(σ.aS dst d W N).free (N+8):=⟨by have:=h.1;omega,λk hk=>by
 simp[St.aS,h.2 k (by omega)];omega⟩
theorem l5.run{P:Program}{ops:Array Oper}{Post:Exit->St->Prop}{E:Env}{Q:Exit->Act->World->Prop}:∀(l:List Oper)(fr:Nat)(σ:St)(a:Act)(w:World),(∀o∈l,∀t,o.dst=some t->t<E.m)->σ.free fr->l5 P ops Post l fr σ->R E σ a.tmps w->
    (∀e σ' a' w',Post e σ'->σ'.free (fr+8*l.length)->a'.defers=a.defers->R E σ' a'.tmps w'->Q e a' w')->wpList P ops Q l a w
 |[],fr,σ,a,w,_,hf,h,hR,hQ=>hQ .normal σ a w h hf rfl hR
 |o::rest,fr,σ,a,w,hd,hf,h,hR,hQ=>by
   unfold wpList;rcases h with⟨d,W,hs,hr⟩|⟨ι,C,d,W,hg,hs,hr⟩|⟨v,W,hg,hs,hp⟩
   case inr.inl=>
    rw[aJ (by simp[Region.wanted,hg])];refine .inl (Oper.wp_mono (λa' w' h=>?_) (hs E σ a w (λ_ _ h=>h) (λ_ _ h=>h) hf.1 (λk hk _=>hf.2 k hk) (hd o (by simp)) hR Q));obtain⟨he,i,hi,hR'⟩:=h;exact l5.run rest (fr+8) _ a' w' (λo ho=>hd o (by simp[ho])) (St.Ub hf _ _ _) (hr i hi) hR' (λe σ' a'' w'' hp hf' he' hR''=>hQ e σ' a'' w'' hp (by rw[iG,show fr+8*(rest.length+1)=fr+8+8*rest.length by omega];exact hf') (he'.trans he) hR'')
   case inr.inr=>
    obtain⟨ν,G,I⟩:=id hR;rw[hg.wanted (λ_ _ h=>h) I,aJ rfl];refine .inl (aDq (λ_ _ h=>h.elim) (λe a' w' h=>?_) (hs E σ a w (λ_ _ h=>h) (λ_ _ h=>h) hf.1 (λk hk _=>hf.2 k hk) hR));obtain⟨rfl,he,hR'⟩:=h;have hf':=St.Ub hf none .any W;exact hQ _ _ a' w' hp ⟨by have:=hf.1;omega,λk hk=>hf'.2 k (by rw[iG]at hk;omega)⟩ he hR'
   exact hs.run (λ_ _ h=>h) (λ_ _ h=>h) hf.1 (λk hk _=>hf.2 k hk) (hd o (by simp)) hR _ _ (λa' w' he hR'=>
    l5.run rest (fr+8) _ a' w' (λo ho=>hd o (by simp[ho])) (St.Ub hf _ _ _) hr hR' (λe σ' a'' w'' hp hf' he' hR''=>hQ e σ' a'' w'' hp (by rw[iG,show fr+8*(rest.length+1)=fr+8+8*rest.length by omega];exact hf') (he'.trans he) hR''))
theorem R.Ge{E:Env}{σ:St}{tm:Array Value}{w:World}(h:R E σ tm w)(ds:List Deferred):R { E with ds:=ds } σ tm w:=by
 obtain⟨ν,G,I⟩:=h;exact⟨ν,G,⟨⟨I.kept.os,I.kept.tape,I.kept.output,I.kept.size,I.kept.block⟩,I.dY,I.fA,I.g0,I.sz,I.T,I.H,I.cK⟩⟩
def gW(P:Program)(E:Env)(c:Code)(Q:Exit->St->Prop)(σ:St):Prop:=
 ∀a w,a.defers=E.ds->R E σ a.tmps w->c.wp P (λe a' w'=>a'.defers=E.ds/\∃σ',Q e σ'/\R E σ' a'.tmps w') a w
def dC(E:Env)(σ σ':St):Prop:=∀tm w,R E σ tm w->R E σ' tm w
def a1M(K:St->Prop)(Q:Exit->St->Prop):Exit->St->Prop
 |.normal,σ=>K σ
 |e,σ=>Q e σ
def Vh(id:Nat)(Q:Exit->St->Prop):Exit->St->Prop
 |.exit id',σ=>if id'=id then Q .normal σ else Q (.exit id') σ
 |e,σ=>Q e σ
def a1a{ι:Type}(I:ι->St)(C:ι->Prop)(μ:ι->Nat)(E:Env)(i:ι)(Q:Exit->St->Prop):Exit->St->Prop
 |.normal,σ=>∃j,C j/\μ j<μ i/\dC E σ (I j)
 |e,σ=>Q e σ
section
variable{P:Program}{E:Env}{Q:Exit->St->Prop}{σ:St}
theorem VL{c:Code}{σ':St}(h:dC E σ σ')(k:gW P E c Q σ'):gW P E c Q σ:=λa w hd hR=>k a w hd (h _ _ hR)
theorem tL{c:Code}{Q':Exit->St->Prop}(h:gW P E c Q' σ)(hq:∀e σ',Q' e σ'->Q e σ'):gW P E c Q σ:=λa w hd hR=>
 wp_mono (h a w hd hR) λe _ _ ⟨h1,σ',h2,h3⟩=>⟨h1,σ',hq e σ' h2,h3⟩
theorem a0q{x y:Code}(h:gW P E x (a1M (gW P E y Q) Q) σ):gW P E (.seq x y) Q σ:=λa w hd hR=>
 wp_seq (wp_mono (h a w hd hR) λe a' w' ⟨h1,σ',h2,h3⟩=>by
  cases e with
  |normal=>exact h2 a' w' h1 h3
  |_=>exact⟨h1,σ',h2,h3⟩)
theorem a0p(h:Q .normal σ):gW P E .skip Q σ:=λ_ _ hd hR=>wp_skip ⟨hd,σ,h,hR⟩
theorem a0u{l:Nat}(h:Q .normal σ):gW P E (.label l) Q σ:=λ_ _ hd hR=>wp_label ⟨hd,σ,h,hR⟩
theorem a0v{id:Nat}(h:Q (.exit id) σ):gW P E (.exit id) Q σ:=λ_ _ hd hR=>wp_exit ⟨hd,σ,h,hR⟩
theorem a0r(h:Q .ret σ):gW P E .ret Q σ:=λ_ _ hd hR=>wp_ret ⟨hd,σ,h,hR⟩
theorem a0y{c:Operand}{x y:Code}{b:Bool}(hc:σ.ev c=some (.t (.v (.bool b))))(ht:b=true->gW P E x Q σ)(hf:b=false->gW P E y Q σ):gW P E (.cond c x y) Q σ:=λa w hd hR=>by
 have he:a.eval c = .bool b:=by
  obtain⟨ν,G,I⟩:=hR;exact cC (I.ev hc)
 exact wp_cond_split he (λhb=>ht hb a w hd hR) (λhb=>hf hb a w hd hR)
theorem a0z{id:Nat}{c:Code}(h:gW P E c (Vh id Q) σ):gW P E (.block id c) Q σ:=λa w hd hR=>
 wp_block (wp_mono (h a w hd hR) λe a' w' ⟨h1,σ',h2,h3⟩=>by
  cases e with
  |exit id'=>
    simp only[Vh]at h2;simp only[Exit.inBlock];split
    .rename_i hi;rw[aJ hi]at h2;exact⟨h1,σ',h2,h3⟩
    .rename_i hi;rw[aH hi]at h2;exact⟨h1,σ',h2,h3⟩
  |_=>exact⟨h1,σ',h2,h3⟩)
theorem a0t{ι:Type}{c:Code}(I:ι->St)(C:ι->Prop)(μ:ι->Nat)(i0:ι)(h0:dC E σ (I i0))(hC:C i0)(round:∀i,C i->gW P E c (a1a I C μ E i Q) (I i)):gW P E (.loop c) Q σ:=λa w hd hR b k cs=>by
 have key:∀n i,μ i=n->C i->∀a w,a.defers=E.ds->R E (I i) a.tmps w->∃e a' w',(a'.defers=E.ds/\∃σ',Q e σ'/\R E σ' a'.tmps w')/\Arrives P (lone (b.at a (.code c :: .inLoop c::k)) cs w) b k cs e a' w':=by
  intro n
  induction n using OM with
  |_ n ih=>
    intro i hn hi a w hd hR;obtain⟨e,a₁,w₁,⟨h1,σ',h2,h3⟩,harr⟩:=round i hi a w hd hR b (.inLoop c::k) cs;cases e with
    |normal=>
      obtain⟨j,hj,hlt,hE⟩:=h2;obtain⟨e₂,a₂,w₂,hq₂,harr₂⟩:=ih (μ j) (hn ▸ hlt) j rfl hj a₁ w₁ h1 (hE _ _ h3);exact⟨e₂,a₂,w₂,hq₂,.of_steps (Steps.trans harr (.one step_inLoop)) harr₂⟩
    |exit id=>exact⟨_,a₁,w₁,⟨h1,σ',h2,h3⟩,.pass (x:=.inLoop c) rfl (λ_ _=>.inl (by simp)) harr⟩
    |goto l=>exact⟨_,a₁,w₁,⟨h1,σ',h2,h3⟩,.pass (x:=.inLoop c) rfl (λ_ _=>.inl (by simp)) harr⟩
    |ret=>exact⟨_,a₁,w₁,⟨h1,σ',h2,h3⟩,.pass (x:=.inLoop c) rfl (λ_ _=>.inl (by simp)) harr⟩
    |panic ch=>exact⟨_,a₁,w₁,⟨h1,σ',h2,h3⟩,.pass (x:=.inLoop c) rfl (λ_ _=>.inl (by simp)) harr⟩
    |outgrown=>exact⟨_,a₁,w₁,⟨h1,σ',h2,h3⟩,.pass (x:=.inLoop c) rfl (λ_ _=>.inl (by simp)) harr⟩
 obtain⟨e,a',w',hq,harr⟩:=key _ i0 rfl hC a w hd (h0 _ _ hR);exact⟨e,a',w',hq,.of_steps (.one step_loop) harr⟩
theorem a0s{id:Nat}{l:List Oper}{T:Nat->Option D}{H:Nat->Option aQ}{N M:Nat}(N':Nat)(hE:E.m=M)(hN:100<=N)(hN':N+8*l.length=N')(hm:(l.all λo=>match o.dst with|none=>true|some t=>decide (t<M))=true)
    (h:l5 P l.toArray (λe σ'=>Q e (mk σ'.T σ'.H N')) l N (mk T H N)):gW P E (.region id l.toArray false) Q (mk T H N):=λa w hd hR=>
 wp_region_lit (l5.run l N (mk T H N) a w (λo ho t ht=>by have:=eG.1 hm o ho;rw[ht]at this;rw[hE];exact cT this) (aY1 hN) h hR
  (λ_ σ' a' w' hp hf he hR'=>⟨he.trans hd,_,hp,hR'.bound (by rw[<-hN'];exact hf.2)⟩))
end
end Go.Ab
/- The abstract machine: states told in other names, contracts of functions, calls. -/
namespace Go.Ab
open Go.RowKit
def bV(H:Nat->Option aQ)(d d':D):Prop:=∀(E:Env)(s:St)(ν:Nat->Value)(G:bT)(w:World)(tm:Array Value),(∀k o,H k=some o->s.H k=some o)->Inv E s ν G w tm->∀v,DR ν s.nm w G v d->DR ν s.nm w G v d'
theorem bV.refl{H:Nat->Option aQ}{d:D}:bV H d d:=λ_ _ _ _ _ _ _ _ _ h=>h
theorem bV.trans{H:Nat->Option aQ}{a b c:D}(h:bV H a b)(k:bV H b c):bV H a c:=λE s ν G w tm hH I v hv=>k E s ν G w tm hH I v (h E s ν G w tm hH I v hv)
theorem bV.mono{H H':Nat->Option aQ}{a b:D}(hH:∀k o,H k=some o->H' k=some o)(h:bV H a b):bV H' a b:=λE s ν G w tm h' I v hv=>h E s ν G w tm (λk o hk=>h' k o (hH k o hk)) I v hv
inductive dW (fl:Bool) (H:Nat->Option aQ) (nm':Nat->Bool) (ρ:Nat->Nat):D->D->Prop
 |t {x y:Tree} (h:x=y):dW fl H nm' ρ (.t x) (.t y)
 |nil:dW fl H nm' ρ (.t (.v (.slice none 0 0))) (.t (.sl 0 []))
 |own {k k':Nat} (h:nm' k'=true) (hk:k=ρ k'):dW fl H nm' ρ (.own k) (.own k')
 |ref {k k' off:Nat} (h:nm' k'=true) (hk:k=ρ k'):dW fl H nm' ρ (.ref k off) (.ref k' off)
 |rd {k n:Nat} {e:TypeId} {s:Nat} {ts ts':List Tree} {st:Bool} (h:H k=some (.row e s n ts st)) (hst:(st||fl)=true) (ht:ts=ts') {n':Nat} (hn:n=n'):dW fl H nm' ρ (.own k) (.t (.sl n' ts'))
 |ptr {ts:List Tree} {off:Nat}:dW fl H nm' ρ (.ptr ts off) (.ptr ts off)
 |agg {ds ds':List D} (hl:ds.length=ds'.length) (h:∀(i:Nat)(d d':D),ds[i]?=some d->ds'[i]?=some d'->dW fl H nm' ρ d d'):dW fl H nm' ρ (.agg ds) (.agg ds')
 |aU {ds ds':List D} (hl:ds.length=ds'.length) (h:∀(i:Nat)(d d':D),ds[i]?=some d->ds'[i]?=some d'->dW fl H nm' ρ d d'):dW fl H nm' ρ (.aU ds) (.aU ds')
 |fn {f:FuncId} {ds ds':List D} (hl:ds.length=ds'.length) (h:∀(i:Nat)(d d':D),ds[i]?=some d->ds'[i]?=some d'->dW fl H nm' ρ d d'):dW fl H nm' ρ (.fn f ds) (.fn f ds')
 |any {d:D}:dW fl H nm' ρ d .any
 |via {k k':Nat} {r:Value->Value->Prop} (h:nm' k'=true) (hk:k=ρ k'):dW fl H nm' ρ (.via k r) (.via k' r)
inductive rK (fl:Bool) (H:Nat->Option aQ) (nm':Nat->Bool) (ρ:Nat->Nat):List D->List D->Prop
 |nil:rK fl H nm' ρ [] []
 |cons {d d':D} {l l':List D} (h:dW fl H nm' ρ d d') (r:rK fl H nm' ρ l l'):rK fl H nm' ρ (d::l) (d'::l')
theorem rK.get{fl:Bool}{H:Nat->Option aQ}{nm':Nat->Bool}{ρ:Nat->Nat}{l l':List D}(h:rK fl H nm' ρ l l'):l.length=l'.length/\∀(i:Nat)(d d':D),l[i]?=some d->l'[i]?=some d'->dW fl H nm' ρ d d':=by
 induction h with
 |nil=>exact⟨rfl,λi d d' h=>by simp at h⟩
 |cons h r ih=>
   refine⟨by simp[ih.1],λi d d' hd hd'=>?_⟩;cases i with
   |zero=>simp at hd hd';subst hd hd';exact h
   |succ i=>exact ih.2 i d d' (by simpa using hd) (by simpa using hd')
theorem dW.a1G{fl:Bool}{H:Nat->Option aQ}{nm':Nat->Bool}{ρ:Nat->Nat}{l l':List D}(h:rK fl H nm' ρ l l'):dW fl H nm' ρ (.agg l) (.agg l'):=.agg h.get.1 h.get.2
theorem dW.Cu{fl:Bool}{H:Nat->Option aQ}{nm':Nat->Bool}{ρ:Nat->Nat}{l l':List D}(h:rK fl H nm' ρ l l'):dW fl H nm' ρ (.aU l) (.aU l'):=.aU h.get.1 h.get.2
theorem dW.fn'{fl:Bool}{H:Nat->Option aQ}{nm':Nat->Bool}{ρ:Nat->Nat}{f:FuncId}{l l':List D}(h:rK fl H nm' ρ l l'):dW fl H nm' ρ (.fn f l) (.fn f l'):=.fn h.get.1 h.get.2
theorem dW.rel{fl:Bool}{H:Nat->Option aQ}{nm nm':Nat->Bool}{ρ:Nat->Nat}{ν ν':Nat->Value}{w w':World}{G G':bT}(hx:∀b i u,Cell w G b i u->Cell w' G' b i u)
    (hrow:∀k e s n ts st,H k=some (.row e s n ts st)->(st||fl)=true->TR w' G' (ν k) (.sl n ts)) (hν:∀k',nm' k'=true->nm (ρ k')=true->ν' k'=ν (ρ k')):
    ∀{d d':D},dW fl H nm' ρ d d'->∀{v:Value},DR ν nm w G v d->DR ν' nm' w' G' v d':=by
 intro d d' hd
 induction hd with
 |t h=>intro v hv;subst h;cases hv with|t hv=>exact .t (hv.mono hx)
 |nil=>intro v hv;have:=cC hv;subst this;exact .t (.nil λ_=>rfl)
 |own h hk=>intro v hv;subst hk;cases hv with|own h1 h2=>rw[<-hν _ h h1]at h2 ⊢;exact .own h h2
 |ref h hk=>intro v hv;subst hk;cases hv with|ref h1 h2=>exact .ref h (by rw[hν _ h h1];exact h2)
 |via h hk=>intro v hv;subst hk;cases hv with|via h1 h2 h3=>exact .via h (by rw[hν _ h h1];exact h2) h3
 |rd h hst ht hn=>intro v hv;subst ht hn;cases hv with|own h1 h2=>exact .t (hrow _ _ _ _ _ _ h hst)
 |ptr=>intro v hv;exact(hv.mono (ν':=ν) (nm':=nm) (λ_ h=>⟨h,rfl⟩) hx) |> λh=>by
           cases h with|ptr hl hc h=>exact .ptr hl hc h
 | @agg ds ds' hl h ih=>
   intro v hv;cases hv with
   |agg hl' h' h1=>
     refine .agg (hl'.trans hl) (λi u d hu hd=>?_) h1;obtain⟨d0,hd0⟩:∃d0,ds[i]?=some d0:=by
      have:i<ds.length:=by rw[<-hl'];exact(kY.1 hu).1
      exact⟨_,bJ this⟩
     exact ih i d0 d hd0 hd (h' i u d0 hu hd0)
 | @aU ds ds' hl h ih=>
   intro v hv;cases hv with
   |aU hl' h'=>
     refine .aU (hl'.trans hl) (λi u d hu hd=>?_);obtain⟨d0,hd0⟩:∃d0,ds[i]?=some d0:=by
      have:i<ds.length:=by rw[<-hl'];exact(kY.1 hu).1
      exact⟨_,bJ this⟩
     exact ih i d0 d hd0 hd (h' i u d0 hu hd0)
 | @fn f ds ds' hl h ih=>
   intro v hv;cases hv with
   |fn hl' h'=>
     refine .fn (hl'.trans hl) (λi u d hu hd=>?_);obtain⟨d0,hd0⟩:∃d0,ds[i]?=some d0:=by
      have:i<ds.length:=by rw[<-hl'];exact(kY.1 hu).1
      exact⟨_,bJ this⟩
     exact ih i d0 d hd0 hd (h' i u d0 hu hd0)
 |any=>intro v _;exact .any
theorem BL{w:World}{g i:Nat}{cur:Array Value}{e:TypeId}{fr:Nat×Nat}(h:w.heap[g]?=some (.cells cur e fr)):w.cell? ⟨g,i,none⟩=cur[i]?:=by simp[World.cell?,h]
theorem Mx{w:World}{G:bT}{e:TypeId}{s n:Nat}{v:Value}{xs:List Value}{ts:List Tree}(h:w.ownsRow 0 e s v n xs)(hl:xs.length=ts.length)(ht:∀(i:Nat)(u:Value)(t:Tree),xs[i]?=some u->ts[i]?=some t->TR w G u t)
    (hG:∀g,aV v=some g->n*s<=G g):TR w G v (.sl n ts):=by
 have hlen:=h.1;rcases h.2 with⟨rfl,rfl⟩|⟨g,cap,cur,rfl,h1,h2,h3,h4,h5,h6⟩
 .have:ts=[]:=List.eq_nil_of_length_eq_zero (by rw[<-hl,hlen];simp)
  subst this;exact .nil λ_=>rfl
 .refine .sl g 0 n cap xs ts hl (λi u hu=>?_) h3 ht
  have hi:i<n*s:=by rw[<-hlen];exact(bU.1 hu).1
  refine⟨?_,tS (by omega) (hG g rfl)⟩;rw[Nat.zero_add,BL h2];rw[<-h6,eN,aJ hi]at hu;simpa using hu
theorem eR.Mx{E:Env}{ν:Nat->Value}{nm:Nat->Bool}{w:World}{G:bT}{k:Nat}{e:TypeId}{s n:Nat}{ts:List Tree}(h:eR E ν nm w G k (.row e s n ts true)):TR w G (ν k) (.sl n ts):=by
 obtain⟨xs,h1,h2,h3,h4⟩:=h;exact Ab.Mx h1 h2 h3 (λg hg=>by rw[(h4 g hg).2];simp)
inductive ON (fl:Bool) (H:Nat->Option aQ) (nm':Nat->Bool) (ρ:Nat->Nat):NC->NC->Prop
 |d {d d':D} (h:dW fl H nm' ρ d d'):ON fl H nm' ρ (.eZ d) (.eZ d')
 |cM {q:Nat} {ts:List Tree}:ON fl H nm' ρ (.cM q ts) (.cM q ts)
inductive hZ (fl:Bool) (H:Nat->Option aQ) (nm':Nat->Bool) (ρ:Nat->Nat):aQ->aQ->Prop
 |row {e:TypeId} {s n:Nat} {ts ts':List Tree} {st:Bool} (h:ts=ts') {n':Nat} (hn:n=n'):hZ fl H nm' ρ (.row e s n ts st) (.row e s n' ts' st)
 |box {e:TypeId} {ds ds':List D} (hl:ds.length=ds'.length) (h:∀(i:Nat)(d d':D),ds[i]?=some d->ds'[i]?=some d'->dW fl H nm' ρ d d'):hZ fl H nm' ρ (.box e ds) (.box e ds')
 |nest {e e':TypeId} {s:Nat} {ls ls':List (Nat×List Tree)} (h:ls=ls'):hZ fl H nm' ρ (.nest e e' s ls) (.nest e e' s ls')
 |it {s:ByteArray} {pos:Nat}:hZ fl H nm' ρ (.it s pos) (.it s pos)
 |mp {l l':List (Value×D)} (hl:l.length=l'.length) (h:∀(i:Nat)(p p':Value×D),l[i]?=some p->l'[i]?=some p'->p.1=p'.1/\dW fl H nm' ρ p.2 p'.2):hZ fl H nm' ρ (.mp l) (.mp l')
 |bE {e e':TypeId} {m s n:Nat} {cs cs':List NC} (hl:cs.length=cs'.length) (h:∀(i:Nat)(c c':NC),cs[i]?=some c->cs'[i]?=some c'->ON fl H nm' ρ c c'):hZ fl H nm' ρ (.bE e e' m s n cs) (.bE e e' m s n cs')
theorem hZ.ft{fl:Bool}{H:Nat->Option aQ}{nm':Nat->Bool}{ρ:Nat->Nat}{o o':aQ}(h:hZ fl H nm' ρ o o'){w:World}{v:Value}{g:Nat}:bN w v o' g ↔ bN w v o g:=by
 cases h with
 |row=>exact kW
 |box=>exact kW
 |nest h=>subst h;exact kW
 |mp=>exact kW
 |it=>exact kW
 | @bE e e' m s n cs cs' hl h=>
   constructor
   .rintro(h1|⟨g0,i,x,q,ts,h1,h2,h3,h4⟩)
    .exact .inl h1
    .have hi:i<cs.length:=by rw[hl];exact(bU.1 h2).1
     have hc:cs[i]?=some cs[i]:=bJ hi;have:=h i _ _ hc h2;generalize cs[i]=c at hc this;cases this with
     |cM=>exact .inr ⟨g0,i,x,q,ts,h1,hc,h3,h4⟩
   .rintro(h1|⟨g0,i,x,q,ts,h1,h2,h3,h4⟩)
    .exact .inl h1
    .have hi:i<cs'.length:=by rw[<-hl];exact(bU.1 h2).1
     have hc:cs'[i]?=some cs'[i]:=bJ hi;have:=h i _ _ h2 hc;generalize cs'[i]=c at hc this;cases this with
     |cM=>exact .inr ⟨g0,i,x,q,ts,h1,hc,h3,h4⟩
theorem hZ.a0j{fl:Bool}{H:Nat->Option aQ}{nm':Nat->Bool}{ρ:Nat->Nat}{e:TypeId}{l l':List D}(h:rK fl H nm' ρ l l'):hZ fl H nm' ρ (.box e l) (.box e l'):=.box h.get.1 h.get.2
def bL(rn:List (Nat×Nat))(k:Nat):Nat:=match look k rn with|some x=>x|none=>k
abbrev lit(T:List (Nat×D))(H:List (Nat×aQ))(N:Nat):St:=mk (λt=>look t T) (λk=>look k H) N
inductive HP (fl:Bool) (σ:St) (nm':Nat->Bool) (ρ:Nat->Nat):List (Nat×D)->Prop
 |nil:HP fl σ nm' ρ []
 |cons {t:Nat} {d d':D} {l:List (Nat×D)} (h:σ.T t=some d) (hd:dW fl σ.H nm' ρ d d') (r:HP fl σ nm' ρ l):HP fl σ nm' ρ ((t,d')::l)
inductive xW (fl:Bool) (σ:St) (nm':Nat->Bool) (ρ:Nat->Nat):List (Nat×aQ)->Prop
 |nil:xW fl σ nm' ρ []
 |cons {k:Nat} {o o':aQ} {l:List (Nat×aQ)} (h:σ.H (ρ k)=some o) (ho:hZ fl σ.H nm' ρ o o') (r:xW fl σ nm' ρ l):xW fl σ nm' ρ ((k,o')::l)
theorem HP.get{fl:Bool}{σ:St}{nm':Nat->Bool}{ρ:Nat->Nat}{l:List (Nat×D)}(h:HP fl σ nm' ρ l){t:Nat}{d':D}(hl:look t l=some d'):∃d,σ.T t=some d/\dW fl σ.H nm' ρ d d':=by
 induction h with
 |nil=>cases hl
 |cons h hd r ih=>
   unfold look at hl;split at hl
   .rename_i e;cases hl;subst e;exact⟨_,h,hd⟩
   .exact ih hl
theorem xW.get{fl:Bool}{σ:St}{nm':Nat->Bool}{ρ:Nat->Nat}{l:List (Nat×aQ)}(h:xW fl σ nm' ρ l){k:Nat}{o':aQ}(hl:look k l=some o'):∃o,σ.H (ρ k)=some o/\hZ fl σ.H nm' ρ o o':=by
 induction h with
 |nil=>cases hl
 |cons h hd r ih=>
   unfold look at hl;split at hl
   .rename_i e;cases hl;subst e;exact⟨_,h,hd⟩
   .exact ih hl
theorem eR.view{fl:Bool}{H:Nat->Option aQ}{E E':Env}{ν ν':Nat->Value}{nm nm':Nat->Bool}{ρ:Nat->Nat}{w:World}{G:bT}{k k':Nat}{o o':aQ}(h:eR E ν nm w G k o)(ho:hZ fl H nm' ρ o o')
    (hrow:∀k e s n ts st,H k=some (.row e s n ts st)->(st||fl)=true->TR w G (ν k) (.sl n ts)) (hν:∀k',nm' k'=true->nm (ρ k')=true->ν' k'=ν (ρ k')) (hk:ν' k'=ν k) (hE:∀g,bN w (ν k) o g->E.may g->E'.may g):eR E' ν' nm' w G k' o':=by
 cases ho with
 |it=>
   obtain⟨g,h1,h2,h3,h4⟩:=h;exact⟨g,by rw[hk];exact h1,hE g (dR (by rw[h1];rfl)) h2,h3,h4⟩
 | @mp l l' hl hp=>
   obtain⟨g,es,clock,h1,h2,h3,h4,h5,h6⟩:=h;refine⟨g,es,clock,by rw[hk];exact h1,hE g (dR (by rw[h1];rfl)) h2,h3,h4,h5.trans hl,λi en p' he hp'=>?_⟩;have hi:i<l.length:=by rw[hl];exact(bU.1 hp').1
   obtain⟨e1,e2⟩:=hp i l[i] p' (bJ hi) hp';obtain⟨a1,a2⟩:=h6 i en l[i] he (bJ hi);exact⟨a1.trans e1,e2.rel (λ_ _ _ h=>h) hrow hν a2⟩
 | @bE e e' m s n cs cs' hl hn=>
   obtain⟨xs,h1,hxl,hd,h2,h3,h4,h5⟩:=id h;have inv:∀(i:Nat)(q:Nat)(ts:List Tree),cs'[i]?=some (.cM q ts)->cs[i]?=some (.cM q ts):=λi q ts hc=>by
    have hi:i<cs.length:=by rw[hl];exact(bU.1 hc).1
    have hc0:cs[i]?=some cs[i]:=bJ hi;have:=hn i _ _ hc0 hc;generalize cs[i]=c at hc0 this;cases this with
    |cM=>exact hc0
   refine⟨xs,by rw[hk];exact h1,hxl.trans hl,λi x d' hx hc=>?_,λi x q ts hx hc=>?_,λi j x y q q' ts ts' hij hx hy hc hc'=>h3 i j x y q q' ts ts' hij hx hy (inv i q ts hc) (inv j q' ts' hc'),λi x q ts hx hc g hg=>by rw[hk];exact h4 i x q ts hx (inv i q ts hc) g hg,λg hg=>by rw[hk]at hg;exact⟨hE g (dR hg) (h5 g hg).1,(h5 g hg).2⟩⟩
   .have hi:i<cs.length:=by rw[hl];exact(bU.1 hc).1
    have hc0:cs[i]?=some cs[i]:=bJ hi;have:=hn i _ _ hc0 hc;generalize cs[i]=c at hc0 this;cases this with
    |d hdl=>exact⟨hdl.rel (λ_ _ _ h=>h) hrow hν (hd i x _ hx hc0).1,(hd i x _ hx hc0).2⟩
   .have hc0:=inv i q ts hc
    obtain⟨ys,y1,y2,y3,y4⟩:=h2 i x q ts hx hc0;refine⟨ys,y1,y2,y3,λg hg=>⟨hE g ?_ (y4 g hg).1,(y4 g hg).2⟩⟩;have hi:=(bU.1 hx).1;rcases h1.2 with⟨_,h0⟩|⟨g0,cap,cur,hv,_⟩
    .rw[h1.1,h0]at hi;omega
    .exact .inr ⟨g0,i,x,q,ts,by rw[hv];rfl,hc0,by rw[kP h1 (by rw[hv];rfl) hi];exact hx,hg⟩
 |nest h'=>
   subst h';obtain⟨xs,h1,h2,h3,h4,h5⟩:=id h;refine⟨xs,by rw[hk];exact h1,λi x p hx hp=>?_,h3,λi x hx g hg=>by rw[hk];exact h4 i x hx g hg,λg hg=>by rw[hk]at hg;exact⟨hE g (dR hg) (h5 g hg).1,(h5 g hg).2⟩⟩;obtain⟨ys,y1,y2,y3,y4⟩:=h2 i x p hx hp;refine⟨ys,y1,y2,y3,λg hg=>⟨hE g ?_ (y4 g hg).1,(y4 g hg).2⟩⟩;have hi:=(bU.1 hp).1;rcases h1.2 with⟨_,h0⟩|⟨g0,cap,cur,hv,_⟩
   .omega
   .exact .inr ⟨g0,i,x,by rw[hv];rfl,hi,by rw[tB h1 (by rw[hv];rfl) hi];exact hx,hg⟩
 |row h' hn=>
   subst h' hn;obtain⟨xs,h1,h2,h3,h4⟩:=h;exact⟨xs,by rw[hk];exact h1,h2,h3,λg hg=>by rw[hk]at hg;exact⟨hE g (dR hg) (h4 g hg).1,(h4 g hg).2⟩⟩
 |box hl hb=>
   obtain⟨g,cur,h1,h2,h3,h4,h5,h6⟩:=h;refine⟨g,cur,by rw[hk];exact h1,hE g (dR (by rw[h1];rfl)) h2,h3,h4,h5.trans hl,λi u d hu hd=>?_⟩;rename_i e ds ds';obtain⟨d0,hd0⟩:∃d0,ds[i]?=some d0:=by
    have:i<ds.length:=by rw[<-h5];exact(kY.1 hu).1
    exact⟨_,bJ this⟩
   exact⟨(hb i d0 d hd0 hd).rel (λ_ _ _ h=>h) hrow hν (h6 i u d0 hu hd0).1,(h6 i u d0 hu hd0).2⟩
theorem Inv.rows{E:Env}{σ:St}{ν:Nat->Value}{G:bT}{w:World}{tm:Array Value}(I:Inv E σ ν G w tm):∀k e s n ts st,σ.H k=some (.row e s n ts st)->(st||false)=true->TR w G (ν k) (.sl n ts):=λk e s n ts st h hst=>by
 have:st=true:=by simpa using hst
 subst this;exact(I.H k _ h).2.Mx
theorem DN{α:Type}{k:Nat}{x:α}{l:List (Nat×α)}(h:look k l=some x):k∈l.map (·.1):=dM.2 ⟨_,kS h,rfl⟩
theorem Tq{ρ:Nat->Nat}:∀{l:List Nat},(l.map ρ).Nodup->∀a∈l,∀b∈l,ρ a=ρ b->a=b
 |[],_,_,h,_,_,_=>by cases h
 |x::l,h,a,ha,b,hb,he=>by
   rw[List.map_cons,List.nodup_cons]at h;rcases dT.1 ha with e1|h1
   .rcases dT.1 hb with e2|h2
    .rw[e1,e2]
    .exact absurd (dM.2 ⟨b,h2,by rw[<-he,e1]⟩) h.1
   .rcases dT.1 hb with e2|h2
    .exact absurd (dM.2 ⟨a,h1,by rw[he,e2]⟩) h.1
    .exact Tq h.2 a h1 b h2 he
abbrev args(ds:List D)(H:List (Nat×aQ)):St:=mk (λt=>ds[t]?) (λk=>look k H) 100
abbrev res(r:D)(H:List (Nat×aQ)):St:=mk (λt=>if t=0 then some r else none) (λk=>look k H) 108
def dO(P:Program)(f:FuncId)(ds:List D)(H:List (Nat×aQ))(r:D)(H':List (Nat×aQ)):Prop:=
 ∀(E:Env)(w:World)(vs:Array Value),E.w0=w->E.m=vs.size->vs.size=ds.length->R E (args ds H) vs w->
  Calls P f vs w λe w'=>∃v,e = .returned v/\R { E with m:=1 } (res r H') #[v] w'
def aHF(P:Program)(f:FuncId)(ds:List D)(H:List (Nat×aQ)){ι:Type}(C:ι->Prop)(r:ι->D)(H':ι->List (Nat×aQ)):Prop:=
 ∀(E:Env)(w:World)(vs:Array Value),E.w0=w->E.m=vs.size->vs.size=ds.length->R E (args ds H) vs w->
  Calls P f vs w λe w'=>∃v,e = .returned v/\∃i,C i/\R { E with m:=1 } (res (r i) (H' i)) #[v] w'
theorem dO.n{P:Program}{f:FuncId}{ds:List D}{H:List (Nat×aQ)}{r:D}{H':List (Nat×aQ)}(h:dO P f ds H r H'):aHF P f ds H (λ_:Unit=>True) (λ_=>r) (λ_=>H'):=λE w vs h1 h2 h3 h4=>(h E w vs h1 h2 h3 h4).mono λ_ _ ⟨v,e1,e2⟩=>⟨v,e1,(),trivial,e2⟩
def HN(P:Program)(f:FuncId)(ds:List D)(H:List (Nat×aQ))(v:Value)(H':List (Nat×aQ)):Prop:=
 ∀(E:Env)(w:World)(vs:Array Value),E.w0=w->E.m=vs.size->vs.size=ds.length->R E (args ds H) vs w->
  Calls P f vs w λe w'=>e = .panicked [qW v]/\R { E with m:=1 } (res .any H') #[undef] w'
def a1N(P:Program)(fn:Func)(E:Env)(r:D)(H':List (Nat×aQ)):Exit->St->Prop
 |.normal,σ|.ret,σ=>∀tm w,R E σ tm w->∃v,(results fn tm).run P w = .ok v w/\R { E with m:=1 } (res r H') #[v] w
 |_,_=>False
theorem R.entry{E:Env}{ds:List D}{H:List (Nat×aQ)}{vs:Array Value}{w:World}(h:R E (args ds H) vs w)(n:Nat):R { E with m:=vs.size+n } (args ds H) (vs++xV n undef) w:=by
 obtain⟨ν,G,I⟩:=h;refine⟨ν,G,⟨I.kept.os,I.kept.tape,I.kept.output,I.kept.size,I.kept.block⟩,I.dY,I.fA,I.g0,by simp,λt d ht=>?_,I.H,I.cK⟩;obtain⟨v,hv,hd⟩:=I.T t d ht;exact⟨v,by rw[Array.getElem?_append_left (kY.1 hv).1];exact hv,hd⟩
theorem aWX{P:Program}{f:FuncId}{fn:Func}{c:Code}{ds:List D}{H:List (Nat×aQ)}{r:D}{H':List (Nat×aQ)}(hf:P.funcs[f]?=some fn)(hb:fn.body=some c)(hm:ds.length<=fn.ntmps)
    (h:∀E:Env,E.m=fn.ntmps->gW P E c (a1N P fn E r H') (args ds H)):dO P f ds H r H':=by
 intro E w vs _ _ _ hR;have hR':=hR.entry (fn.ntmps-vs.size);rw[show vs.size+(fn.ntmps-vs.size)=fn.ntmps by omega]at hR';refine calls_of_wp hf hb (wp_mono (h { E with m:=fn.ntmps,ds:=[] } rfl _ w rfl (hR'.Ge [])) ?_);rintro e a' w' ⟨hd,σ',hq,hRR⟩;cases e with
 |normal=>obtain⟨v,h1,h2⟩:=hq _ _ hRR;exact⟨hd,v,h1,v,rfl,h2.Ge E.ds⟩
 |ret=>obtain⟨v,h1,h2⟩:=hq _ _ hRR;exact⟨hd,v,h1,v,rfl,h2.Ge E.ds⟩
 |exit id=>exact hq.elim
 |goto l=>exact hq.elim
 |panic ch=>exact hq.elim
 |outgrown=>exact hq.elim
def a1P(E:Env)(v:Value)(H':List (Nat×aQ)):Exit->St->Prop
 |.panic ch,σ=>ch=[qW v]/\∀tm w,R E σ tm w->R { E with m:=1 } (res .any H') #[undef] w
 |_,_=>False
theorem aWW{P:Program}{f:FuncId}{fn:Func}{c:Code}{ds:List D}{H:List (Nat×aQ)}{v:Value}{H':List (Nat×aQ)}(hf:P.funcs[f]?=some fn)(hb:fn.body=some c)(hm:ds.length<=fn.ntmps)
    (h:∀E:Env,E.m=fn.ntmps->gW P E c (a1P E v H') (args ds H)):HN P f ds H v H':=by
 intro E w vs _ _ _ hR;have hR':=hR.entry (fn.ntmps-vs.size);rw[show vs.size+(fn.ntmps-vs.size)=fn.ntmps by omega]at hR';refine calls_of_wp hf hb (wp_mono (h { E with m:=fn.ntmps,ds:=[] } rfl _ w rfl (hR'.Ge [])) ?_);rintro e a' w' ⟨hd,σ',hq,hRR⟩;cases e with
 |normal=>exact hq.elim
 |ret=>exact hq.elim
 |exit id=>exact hq.elim
 |goto l=>exact hq.elim
 |panic ch=>exact⟨hd,by rw[hq.1],(hq.2 _ _ hRR).Ge E.ds⟩
 |outgrown=>exact hq.elim
end Go.Ab
/- The abstract machine: operations on numbers, truth values and parts of values. -/
namespace Go.Ab
open Go.RowKit
abbrev I(n:Int):D:=.t (.v (.int .i64 n))
abbrev B(b:Bool):D:=.t (.v (.bool b))
abbrev ti(n:Int):Tree:=.v (.int .i64 n)
section
variable{P:Program}{o:Oper}{σ:St}{fr:Nat}
theorem aX3{x:Operand}{d:D}(ho:o.op = .move x)(hx:σ.ev x=some d):aZ P o σ fr d []:=
 dF λ_ _ _ _ _ _ _ _ hev=>⟨_,by simp[execOp,ho],hev x d hx⟩
theorem aYH{x:Operand}{d:D}(ho:o.op = .assign x)(hx:σ.ev x=some d):aZ P o σ fr d []:=
 dF λ_ _ _ _ _ _ _ _ hev=>⟨_,by simp[execOp,ho],hev x d hx⟩
theorem iZ{op:BinOp}{xt yt:TypeId}{x y:Operand}{va vb vr:Value}(ho:o.op = .binOp op xt x y yt)(hx:σ.ev x=some (.t (.v va)))(hy:σ.ev y=some (.t (.v vb)))
    (hr:∀w:World,(do eqGuard op xt x y va vb;binOp op xt va vb:Sem Value).run P w = .ok vr w) (h1:vr.oneCell'=true):aZ P o σ fr (.t (.v vr)) []:=
 dF λ_ _ _ _ w a _ _ hev=>by
  have h1':=cC (hev x _ hx);have h2':=cC (hev y _ hy);refine⟨vr,?_,.t (.v _ h1)⟩;have:=hr w;unfold execOp;rw[ho];simp only[h1',h2',Sem.run_bind,Sem.run_pure]at this ⊢;rw[this];rfl
section ints
variable{k:IntKind}{xt yt:TypeId}{x y:Operand}{m n:Int}
theorem aEx(ho:o.op = .binOp .add xt x y yt)(hx:σ.ev x=some (.t (.v (.int k m))))(hy:σ.ev y=some (.t (.v (.int k n)))):aZ P o σ fr (.t (.v (.int k (k.wrap (m+n))))) []:=
 iZ ho hx hy (λw=>by simp[eqGuard,binOp,Op.intArith]) rfl
theorem aEh(ho:o.op = .binOp .sub xt x y yt)(hx:σ.ev x=some (.t (.v (.int k m))))(hy:σ.ev y=some (.t (.v (.int k n)))):aZ P o σ fr (.t (.v (.int k (k.wrap (m-n))))) []:=
 iZ ho hx hy (λw=>by simp[eqGuard,binOp,Op.intArith]) rfl
theorem aX1(ho:o.op = .binOp .mul xt x y yt)(hx:σ.ev x=some (.t (.v (.int k m))))(hy:σ.ev y=some (.t (.v (.int k n)))):aZ P o σ fr (.t (.v (.int k (k.wrap (m*n))))) []:=
 iZ ho hx hy (λw=>by simp[eqGuard,binOp,Op.intArith]) rfl
theorem aXU(ho:o.op = .binOp .quo xt x y yt)(hx:σ.ev x=some (.t (.v (.int k m))))(hy:σ.ev y=some (.t (.v (.int k n))))(h0:n≠0):aZ P o σ fr (.t (.v (.int k (k.wrap (m.tdiv n))))) []:=
 iZ ho hx hy (λw=>by simp[eqGuard,binOp,Op.intDiv,h0]) rfl
theorem aXS(ho:o.op = .binOp .rem xt x y yt)(hx:σ.ev x=some (.t (.v (.int k m))))(hy:σ.ev y=some (.t (.v (.int k n))))(h0:n≠0):aZ P o σ fr (.t (.v (.int k (m.tmod n)))) []:=
 iZ ho hx hy (λw=>by simp[eqGuard,binOp,Op.intDiv,h0]) rfl
theorem aEk(ho:o.op = .binOp .lss xt x y yt)(hx:σ.ev x=some (.t (.v (.int k m))))(hy:σ.ev y=some (.t (.v (.int k n)))):aZ P o σ fr (B (decide (m<n))) []:=
 iZ ho hx hy (λw=>by simp[eqGuard,binOp,Op.intCmp]) rfl
theorem aEm(ho:o.op = .binOp .leq xt x y yt)(hx:σ.ev x=some (.t (.v (.int k m))))(hy:σ.ev y=some (.t (.v (.int k n)))):aZ P o σ fr (B (decide (m<=n))) []:=
 iZ ho hx hy (λw=>by simp[eqGuard,binOp,Op.intCmp]) rfl
theorem aEp(ho:o.op = .binOp .gtr xt x y yt)(hx:σ.ev x=some (.t (.v (.int k m))))(hy:σ.ev y=some (.t (.v (.int k n)))):aZ P o σ fr (B (decide (n<m))) []:=
 iZ ho hx hy (λw=>by simp[eqGuard,binOp,Op.intCmp]) rfl
theorem aEq(ho:o.op = .binOp .geq xt x y yt)(hx:σ.ev x=some (.t (.v (.int k m))))(hy:σ.ev y=some (.t (.v (.int k n)))):aZ P o σ fr (B (decide (n<=m))) []:=
 iZ ho hx hy (λw=>by simp[eqGuard,binOp,Op.intCmp]) rfl
theorem aEs(ho:o.op = .binOp .eql xt x y yt)(hx:σ.ev x=some (.t (.v (.int k m))))(hy:σ.ev y=some (.t (.v (.int k n)))):aZ P o σ fr (B (decide (m=n))) []:=
 iZ ho hx hy (λw=>by simp[eqGuard,binOp,Op.intCmp];rfl) rfl
theorem aEj(ho:o.op = .binOp .neq xt x y yt)(hx:σ.ev x=some (.t (.v (.int k m))))(hy:σ.ev y=some (.t (.v (.int k n)))):aZ P o σ fr (B (decide (m≠n))) []:=
 iZ ho hx hy (λw=>by simp[eqGuard,binOp,Op.intCmp,bne];rfl) rfl
theorem NS{kd:IntKind}(ho:o.op = .convert xt yt x)(hs:(P.underlying xt).isSome=true)(hd:P.underlying yt=some (.int kd))(hx:σ.ev x=some (.t (.v (.int k m)))):aZ P o σ fr (.t (.v (.int kd (kd.wrap m)))) []:=
 dF λ_ _ _ _ w a _ _ hev=>by
  have h1':=cC (hev x _ hx);obtain⟨d,hd'⟩:=Option.isSome_iff_exists.mp hs;refine⟨.int kd (kd.wrap m),?_,.t (.v _ rfl)⟩;unfold execOp;rw[ho];simp only[h1'];simp[convert,run_underlying hd',run_underlying hd,Conv.intToInt]
theorem aX5{t:TypeId}{ki kk:IntKind}{n:Int}{x:Operand}(ho:o.op = .makeInterface t x)(hu:P.underlying t=some (.int ki))(hx:σ.ev x=some (.t (.v (.int kk n)))):aZ P o σ fr (.t (.v (.iface t (.int kk n)))) []:=
 dF λ_ _ _ _ w a _ _ hev=>by
  have h1':=cC (hev x _ hx);refine⟨.iface t (.int kk n),?_,.t (.v _ rfl)⟩;unfold execOp;rw[ho];simp only[h1'];simp[Instr.makeInterface,run_underlying hu]
end ints
theorem aEY{t:TypeId}(h:P.underlying t=some .bool)(a b:Bool)(w:World):(Op.equal t (.bool a) (.bool b)).run P w = .ok (a == b) w:=by
 show(Op.equalIn (Op.maxDepth) t (.bool a) (.bool b)).run P w=_;rw[show Op.maxDepth=(Op.maxDepth-1)+1 from rfl];simp[Op.equalIn,run_underlying h]
theorem aYA{xt yt:TypeId}{x y:Operand}{m n:Bool}(hP:P.underlying xt=some .bool)(ho:o.op = .binOp .eql xt x y yt)(hx:σ.ev x=some (B m))(hy:σ.ev y=some (B n)):aZ P o σ fr (B (m == n)) []:=
 iZ ho hx hy (λw=>by simp[eqGuard,binOp,aEY hP]) rfl
theorem aX0{xt yt:TypeId}{x y:Operand}{m n:Bool}(hP:P.underlying xt=some .bool)(ho:o.op = .binOp .neq xt x y yt)(hx:σ.ev x=some (B m))(hy:σ.ev y=some (B n)):aZ P o σ fr (B (!(m == n))) []:=
 iZ ho hx hy (λw=>by simp[eqGuard,binOp,aEY hP]) rfl
theorem aXV{t:TypeId}{x:Operand}{b:Bool}(ho:o.op = .unOp .not t x)(hx:σ.ev x=some (B b)):aZ P o σ fr (B (!b)) []:=
 dF λ_ _ _ _ w a _ _ hev=>by
  have h1':=cC (hev x _ hx);refine⟨.bool (!b),?_,.t (.v _ rfl)⟩;unfold execOp;rw[ho];simp only[h1'];simp[Op.unary]
theorem Tj{c x y:Operand}{d:D}(ho:o.op = .pick c x y)(hc:σ.ev c=some (B true))(hx:σ.ev x=some d):aZ P o σ fr d []:=
 dF λ_ _ _ _ w a _ _ hev=>by
  have h1':=cC (hev c _ hc);exact⟨a.eval x,by simp[execOp,ho,h1',asBool],hev x d hx⟩
theorem Tk{c x y:Operand}{d:D}(ho:o.op = .pick c x y)(hc:σ.ev c=some (B false))(hy:σ.ev y=some d):aZ P o σ fr d []:=
 dF λ_ _ _ _ w a _ _ hev=>by
  have h1':=cC (hev c _ hc);exact⟨a.eval y,by simp[execOp,ho,h1',asBool],hev y d hy⟩
theorem aXz{x:Operand}{i:Nat}{ds:List D}{d:D}(ho:o.op = .extract x i)(hx:σ.ev x=some (.aU ds))(hd:ds[i]?=some d):aZ P o σ fr d []:=
 dF λ_ _ ν G w a _ _ hev=>by
  have h:=hev x _ hx;obtain⟨v,hv⟩:∃v,a.eval x=v:=⟨_,rfl⟩
  rw[hv]at h;cases h with
  | @aU vs _ hl h=>
    have hi:i<vs.size:=by rw[hl];exact(bU.1 hd).1
    refine⟨vs[i],?_,h i _ d (Array.getElem?_eq_getElem hi) hd⟩;unfold execOp;rw[ho];simp[hv,Instr.extract,hi]
end
end Go.Ab
