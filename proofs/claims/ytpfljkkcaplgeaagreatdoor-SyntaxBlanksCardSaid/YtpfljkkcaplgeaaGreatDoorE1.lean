/- The abstract machine. Conditions are in the theorems. -/
import Derived.WalkKit
import Derived.WalkSpells
import Derived.WalkLawsBesides
import Derived.BigQuiet
import Derived.Deep.QuietTactic
import Derived.Laws.AppendOwnNone
import Derived.Maps.AppendAt
import Derived.Test.YtpfljkkcaplgeaaGreatDoorProg
import Derived.Lib.LaidTab
import Derived.Lib.ItoaNum
import Derived.Scope
import Derived.IntWalk
import Derived.Laws.Runes
import Derived.Deep.MidRow
import Derived.Great.BuildSlice
open Array renaming getElem?_eq_getElem->kL,getElem?_eq_none->Eb,getElem?_eq_some_iff->mP,getElem?_setIfInBounds_ne->tJ,getElem?_toList->Bm,replicate->AL
open Bool renaming and_eq_true->aT,or_eq_true->lS
open Iff renaming rfl->oD
open List renaming all_eq_true->fG,any_eq_true->vH,append_assoc->bP,countP_cons->a90,eq_nil_of_length_eq_zero->AH,getElem?_append_left->dV,getElem?_append_right->dN,getElem?_eq_getElem->dC,getElem?_eq_some_iff->bZ,getElem?_map->cZ,getElem?_take->fU,length_cons->eD,map_cons->iH,mem_cons->eZ,mem_iff_getElem?->iS,mem_map->gU,mem_range->vE,range->lR
open Nat renaming add_assoc->Be,le_refl->cE,le_trans->AF,lt_of_lt_of_le->tD,lt_or_ge->Bd,mul_le_mul_right->mM,strongRecOn->vB,zero_add->eC,zero_mul->vA
open Ne renaming symm->eN
open Option renaming isSome_iff_exists->E2,map_eq_some_iff->cO
open Option.some renaming injEq->iR
open Prod.mk renaming injEq->a8Y
theorem sY:type_of% @beq_iff_eq:=@beq_iff_eq
theorem aR:type_of% @congrArg:=@congrArg
theorem qD:type_of% @decide_eq_decide:=@decide_eq_decide
theorem bD:type_of% @decide_eq_false:=@decide_eq_false
theorem Np:type_of% @decide_eq_false_iff_not:=@decide_eq_false_iff_not
theorem aX:type_of% @decide_eq_true:=@decide_eq_true
theorem kJ:type_of% @decide_eq_true_eq:=@decide_eq_true_eq
theorem eR:type_of% @decide_eq_true_iff:=@decide_eq_true_iff
theorem aE:type_of% @if_neg:=@if_neg
theorem aI:type_of% @if_pos:=@if_pos
theorem iO:type_of% @if_true:=@if_true
theorem nS:type_of% @of_decide_eq_false:=@of_decide_eq_false
theorem bK:type_of% @of_decide_eq_true:=@of_decide_eq_true
/- Small laws for the walks of this seat, over any program: worlds that come after a world, slices that read as lists, a region that draws its order and whose callees may make memory. -/
namespace Go
open Go.RowKit
theorem hid{p:Prop}(h:p):Hid p:=h
def cU(w w':World):Prop:=Below w.heap.size w w'
theorem cU.refl(w:World):cU w w:=Below.refl _ _
theorem cU.trans{a b c:World}(h:cU a b)(k:cU b c):cU a c:=Below.trans h (Below.mono k h.size)
theorem cU.drew{a w:World}(h:cU a w):cU a w.drew:=Below.drew h
theorem cU.drewN{a w:World}(h:cU a w)(n:Nat):cU a (w.drewN n):=⟨h.os,h.tape,h.output,h.size,h.block⟩
theorem cU.alloc{a w:World}(h:cU a w)(o:Obj):cU a (w.alloc o):=Below.alloc h h.size o
theorem cU.setCell{a w:World}(h:cU a w){p:Addr}(hp:a.heap.size<=p.block)(u:Value):cU a (w.setCell p u):=Below.setCell h hp u
theorem cU.cell{a w:World}(h:cU a w){b o:Nat}(hb:b<a.heap.size):w.cell? ⟨b,o,none⟩=a.cell? ⟨b,o,none⟩:=Below.cell (p:=⟨b,o,none⟩) h hb
def AI(w:World):Type:={ W:World // cU w W }
instance AI.some (w:World):Nonempty (AI w):=⟨⟨w,cU.refl w⟩⟩
def AI.W{w:World}(x:AI w):World:=x.1
theorem AI.iG{w:World}(x:AI w):cU w x.W:=x.2
@[go_sem] theorem AI.cell{w:World}(x:AI w){b o:Nat}(hb:b<w.heap.size):x.W.cell? ⟨b,o,none⟩=w.cell? ⟨b,o,none⟩:=x.2.cell hb
section
variable{P:Program}
end
def Rd(w:World)(a:Option Addr)(cs:List Value):Prop:=∀j v,cs[j]?=some v->∃ad,a=some ad/\w.cell? (ad.add j)=some v
def YM(l:List Int):List Value:=l.map (Value.int .i64)
def okI(l:List Int):Prop:=∀x∈l,-9223372036854775808<=x/\x<=9223372036854775807
theorem cell_spot{w:World}{b off s:Nat}{v:Value}(h:w.cell? ⟨b,off,some s⟩=some v):False:=by
 unfold World.cell? at h;split at h <;> simp at h
theorem Rd.get{w:World}{a:Option Addr}{cs:List Value}(h:Rd w a cs){i:Nat}{v:Value}(hi:cs[i]?=some v):
    ∃b off,a=some ⟨b,off,none⟩/\w.cell? ⟨b,off+i,none⟩=some v/\b<w.heap.size:=by
 obtain⟨⟨b,off,spot⟩,rfl,hc⟩:=h i v hi;have hlt:i<cs.length:=(bZ.1 hi).1;cases spot with
 |some s=>
   exfalso;obtain⟨ad,e,hc'⟩:=h 0 cs[0] (by simp);simp only[iR]at e;subst e;exact cell_spot hc'
 |none=>
   have hc':w.cell? ⟨b,off+i,none⟩=some v:=by
    unfold Addr.add at hc;by_cases h0:i=0
    .simpa[h0]using hc
    .simpa[h0]using hc
   exact⟨b,off,rfl,hc',World.block_lt_of_cell? w _ hc'⟩
theorem Rd.iG{w w':World}{a:Option Addr}{cs:List Value}(h:Rd w a cs)(hw:cU w w'):Rd w' a cs:=λj v hj=>by
 obtain⟨b,off,e,hc,hb⟩:=h.get hj;obtain⟨ad,e',hc'⟩:=h j v hj;refine⟨ad,e',?_⟩;have:ad.add j=⟨b,off+j,none⟩:=by
  rw[e]at e';simp only[iR]at e';subst e';unfold Addr.add;by_cases h0:j=0 <;> simp[h0]
 rw[this]at hc' ⊢;rw[hw.cell hb];exact hc'
theorem Rd.int{w:World}{a:Option Addr}{l:List Int}(h:Rd w a (YM l))(ok:okI l){i:Nat}(hi:i<l.length):
    ∃b off x,a=some ⟨b,off,none⟩/\w.cell? ⟨b,off+i,none⟩=some (.int .i64 x)/\b<w.heap.size/\Hid (l[i]?=some x) /\ -9223372036854775808<=x/\x<=9223372036854775807:=by
 obtain⟨b,off,e,hc,hb⟩:=h.get (i:=i) (v:=.int .i64 l[i]) (by simp[YM,hi]);exact⟨b,off,l[i],e,hc,hb,by unfold Hid;simp[hi],ok _ (by simp)⟩
end Go
namespace Go
open Go.RowKit
def a2E(p:Int×Int):List Value:=[.int .i64 p.1,.int .i64 p.2]
def IU(l:List (Int×Int)):List Value:=l.flatMap a2E
def okP(l:List (Int×Int)):Prop:=∀p∈l,(-9223372036854775808<=p.1/\p.1<=9223372036854775807)/\(-9223372036854775808<=p.2/\p.2<=9223372036854775807)
def pr(p:Int×Int):Value:=.agg #[.int .i64 p.1,.int .i64 p.2]
theorem Rd.nil{w:World}{a:Option Addr}:Rd w a []:=λj v hj=>by simp at hj
theorem Rd.a3k{w:World}{cs:List Value}(h:Rd w none cs):cs=[]:=by
 cases cs with
 |nil=>rfl
 |cons u l=>obtain⟨ad,e,_⟩:=h 0 u rfl;cases e
theorem Rd.new{w:World}{cs:Array Value}{e:TypeId}:Rd (w.alloc (.cells cs e)) (some ⟨w.heap.size,0,none⟩) cs.toList:=λj v hj=>by
 refine⟨_,rfl,?_⟩;have hh:(w.alloc (.cells cs e)).heap[w.heap.size]?=some (.cells cs e):=heap_alloc_new w _;have h0:((⟨w.heap.size,0,none⟩:Addr).add j)=⟨w.heap.size,j,none⟩:=by
  unfold Addr.add;by_cases hj0:j=0 <;> simp[hj0]
 rw[h0];simp only[World.cell?,hh];simpa using hj
end Go
namespace Go
open Go.RowKit
structure OY(w:World)(a:Option Addr)(n c:Nat)(l:List Int):Prop where
 len:n=l.length
 rd:Rd w a (YM l)
 ok:okI l
 cap:n<=c
 nil:a=none->c=0
 size:n*8<=140737488351232
def Zp(w:World)(v:Value)(l:List Int):Prop:=∃a c,v = .slice a l.length c/\OY w a l.length c l
structure OI(w:World)(a:Option Addr)(n c:Nat)(l:List (Int×Int)):Prop where
 len:n=l.length
 rd:Rd w a (IU l)
 ok:okP l
 cap:n<=c
 nil:a=none->c=0
 size:n*16<=140737488351232
def Z2(w:World)(v:Value)(l:List (Int×Int)):Prop:=∃a c,v = .slice a l.length c/\OI w a l.length c l
theorem OY.iG{w w':World}{a:Option Addr}{n c:Nat}{l:List Int}(h:OY w a n c l)(hw:cU w w'):OY w' a n c l:={ h with rd:=h.rd.iG hw }
theorem OI.iG{w w':World}{a:Option Addr}{n c:Nat}{l:List (Int×Int)}(h:OI w a n c l)(hw:cU w w'):OI w' a n c l:={ h with rd:=h.rd.iG hw }
theorem Zp.iG{w w':World}{v:Value}{l:List Int}(h:Zp w v l)(hw:cU w w'):Zp w' v l:=let⟨a,c,e,h⟩:=h;⟨a,c,e,h.iG hw⟩
theorem Z2.iG{w w':World}{v:Value}{l:List (Int×Int)}(h:Z2 w v l)(hw:cU w w'):Z2 w' v l:=let⟨a,c,e,h⟩:=h;⟨a,c,e,h.iG hw⟩
end Go
namespace Go
open Go.RowKit
end Go
namespace Go
def Sep(v v':Value):Prop:=∀k,v.ownBlock=some k->v'.ownBlock=some k->False
theorem Sep.symm{v v':Value}(h:Sep v v'):Sep v' v:=λk a b=>h k b a
theorem Sep.kept{v v':Value}(h:Sep v v'){w w':World}{base:Nat}{e:TypeId}{size n:Nat}{xs:List Value}(ho:w.ownsRow base e size v n xs)(hg:w.grownBy w' v'.ownBlock):w'.ownsRow base e size v n xs:=by
 refine ho.kept hg ?_;cases hv:v.ownBlock with
 |none=>exact .inl rfl
 |some k=>exact .inr λe=>h k hv e.symm
theorem Sep.nil(v:Value):Sep (.slice none 0 0) v:=λk h=>by cases h
end Go
namespace Go
open Go.RowKit
end Go
/- A region that draws its order, walked as a flow of values: each operation gets a predicate on its value that lasts in later worlds, and is walked once, from its operands' predicates, in any later world. -/
namespace Go
open Go.RowKit
structure FV where
 p:Value->World->Prop
 st:∀v W W',p v W->cU W W'->p v W'
def FV.is(u:Value):FV:=⟨λv _=>v=u,λ_ _ _ h _=>h⟩
def FV.pure(q:Value->Prop):FV:=⟨λv _=>q v,λ_ _ _ h _=>h⟩
def a6L(Vs:List FV)(i:Nat)(v:Value)(W:World):Prop:=(Vs.getD i (FV.pure λ_=>True)).p v W
def Region.gG(ops:Array Oper)(j:Nat):Option Tmp:=(ops[j]?).bind (·.dst)
section
variable(P:Program)(ops:Array Oper)(Vs:List FV)(w0:World)
end
def Act.rC(vals:Nat->Value):List (Nat×Tmp)->Act->Act
 |[],a=>a
 |p::ps,a=>Act.rC vals ps (a.put (some p.2) (vals p.1))
theorem aJQ{α:Type}{p q:α->Bool}{i:α}:∀(l:List α),i∈l->p i=true->q i=false->(∀j,q j=true->p j=true)->l.countP q<l.countP p
 |[],h,_,_,_=>by cases h
 |b::l,h,hp,hq,hle=>by
   have hmono:l.countP q<=l.countP p:=List.countP_mono_left (λj _=>hle j);rw[a90,a90];rcases eZ.1 h with rfl|h
   .simp[hp,hq];omega
   .have:=aJQ l h hp hq hle
    by_cases hb:q b=true
    .simp[hb,hle b hb];omega
    .simp[hb];split <;> omega
def Ai(n:Nat)(listed:Array Bool):Nat:=(lR n).countP λi=>!listed.getD i true
theorem aGM{n i:Nat}{listed:Array Bool}(hi:i<n)(h:listed.getD i true=false):Ai n (listed.setIfInBounds i true)<Ai n listed:=by
 have hlt:i<listed.size:=by
  rcases Bd i listed.size with h'|h'
  .exact h'
  .simp[Eb h']at h
 refine aJQ (i:=i) _ (vE.2 hi) (by simpa using h) (by simp[hlt]) (λj hj=>?_);by_cases hij:i=j
 .subst hij;simpa using h
 .rw[getD_set_ne true hij]at hj;exact hj
theorem aGN{n i:Nat}{listed:Array Bool}(hi:i<n)(h:listed.getD i true=false):0<Ai n listed:=
 List.countP_pos_iff.2 ⟨i,vE.2 hi,by simpa using h⟩
theorem aGO(n:Nat):Ai n (AL n false)<=n:=by
 have:=List.countP_le_length (l:=lR n) (p:=λi=>!(AL n false).getD i true);simpa[Ai]using this
structure AJ(ops:Array Oper)(pre:Nat->List Nat)(all:List (Nat×Tmp))(uses:Nat->List (Nat×Tmp))(m:Nat):Prop where
 Wo:Region.noSelect ops=true
 len:all.length<=ops.size
 back:∀i o,ops[i]?=some o->∀e∈o.after,Region.binds .any e=true->e.on<i
 Az:∀i o,ops[i]?=some o->∀j∈pre i,j<i/\∃e∈o.after,Region.binds .any e=true/\(e.on=j\/j∈pre e.on)
 tgt:∀k j d,all[k]?=some (j,d)->j=k/\d<m/\Region.gG ops k=some d/\∀k' j' d',all[k']?=some (j',d')->k'≠k->d'≠d
 use:∀i o,i<all.length->ops[i]?=some o->(∀p∈uses i,p.1∈pre i/\all[p.1]?=some p)/\∀t∈o.looksAt ops,∀p∈all,p.2=t->(p.1∈pre i/\p∈uses i)\/i∈pre p.1
 tail:∀i,all.length<=i->i<ops.size->∀j,j<i->j∈pre i
def On(listed:Array Bool)(j:Nat):Prop:=listed.getD j false=true
theorem BF{n:Nat}{listed:Array Bool}(hs:listed.size=n){j:Nat}(hj:j<n):¬ On listed j ↔ listed.getD j true=false:=by
 unfold On;simp[hs,hj]
theorem a2T{listed:Array Bool}{i j:Nat}(h:On (listed.setIfInBounds i true) j):j=i\/On listed j:=by
 by_cases hij:i=j
 .exact .inl hij.symm
 .exact .inr (by unfold On at *;rw[getD_set_ne false hij]at h;exact h)
structure rS(ops:Array Oper)(listed:Array Bool):Prop where
 sz:listed.size=ops.size
 down:∀i o,On listed i->ops[i]?=some o->∀e∈o.after,Region.binds .any e=true->On listed e.on
theorem On.lt{ops:Array Oper}{listed:Array Bool}(h:rS ops listed){j:Nat}(hj:On listed j):j<ops.size:=by
 unfold On at hj;rcases Bd j listed.size with h'|h'
 .rw[<-h.sz];exact h'
 .simp[Eb h']at hj
theorem rS.set{ops:Array Oper}{listed:Array Bool}(h:rS ops listed){i:Nat}(hr:i∈Region.ready .any ops listed):rS ops (listed.setIfInBounds i true):=by
 refine⟨by simpa using h.sz,λk o hk ho e he hb=>?_⟩;obtain⟨h0,o',ho',hall⟩:=mem_ready.1 hr;rcases a2T hk with rfl|hk
 .rw[ho]at ho'
  cases ho';exact getD_set_true (hall e he hb)
 .exact getD_set_true (h.down k o hk ho e he hb)
section
variable{ops:Array Oper}{pre:Nat->List Nat}{all:List (Nat×Tmp)}{uses:Nat->List (Nat×Tmp)}{m:Nat}{listed:Array Bool}
theorem AJ.BD(F:AJ ops pre all uses m)(h:rS ops listed):∀(i j:Nat),On listed i->j∈pre i->On listed j:=by
 intro i
 induction i using vB with
 |_ i ih=>
   intro j hi hj;have hlt:=On.lt h hi;have ho:ops[i]?=some ops[i]:=by simp[hlt]
   obtain⟨_,e,he,hb,hc⟩:=F.Az i _ ho j hj;have hon:=h.down i _ hi ho e he hb;rcases hc with hc|hc
   .exact hc ▸ hon
   .exact ih e.on (F.back i _ ho e he hb) j hon hc
theorem AJ.Mg(F:AJ ops pre all uses m)(h:rS ops listed){i j:Nat}(hr:i∈Region.ready .any ops listed)(hj:j∈pre i):On listed j:=by
 obtain⟨h0,o,ho,hall⟩:=mem_ready.1 hr;obtain⟨_,e,he,hb,hc⟩:=F.Az i o ho j hj;rcases hc with hc|hc
 .exact hc ▸ hall e he hb
 .exact F.BD h e.on j (hall e he hb) hc
theorem AJ.least(F:AJ ops pre all uses m)(h:rS ops listed):∀i,i<ops.size->¬ On listed i->∃k,k<=i/\k∈Region.ready .any ops listed:=by
 intro i
 induction i using vB with
 |_ i ih=>
   intro hlt hi;by_cases hex:∃j,j<i/\¬ On listed j
   .obtain⟨j,hj,hn⟩:=hex
    obtain⟨k,hk,hr⟩:=ih j hj (by omega) hn;exact⟨k,by omega,hr⟩
   .have ho:ops[i]?=some ops[i]:=by simp[hlt]
    refine⟨i,cE _,mem_ready.2 ⟨(BF h.sz hlt).1 hi,_,ho,λe he hb=>?_⟩⟩;have:=F.back i _ ho e he hb;exact Classical.not_not.1 λhn=>hex ⟨e.on,this,hn⟩
end
structure a9m(ops:Array Oper)(all:List (Nat×Tmp))(Vs:List FV)(w0:World)(a:Act)(listed:Array Bool)(a':Act)(W:World)(vals:Nat->Value):Prop where
 a9j:∀i,all.length<=i->¬ On listed i
 df:a'.defers=a.defers
 ts:a'.tmps.size=a.tmps.size
 val:∀p∈all,On listed p.1->a'.tmps[p.2]?=some (vals p.1)
 v:∀p∈all,On listed p.1->a6L Vs p.1 (vals p.1) W
 oth:∀d,(∀p∈all,On listed p.1->p.2≠d)->a'.tmps[d]?=a.tmps[d]?
 iG:cU w0 W
section
variable{ops:Array Oper}{pre:Nat->List Nat}{all:List (Nat×Tmp)}{uses:Nat->List (Nat×Tmp)}{listed:Array Bool}{P:Program}{Q:Exit->Act->World->Prop}{Vs:List FV}{w0:World}{a:Act}
theorem AJ.same(F:AJ ops pre all uses a.tmps.size){p q:Nat×Tmp}(hp:p∈all)(hq:q∈all)(h:p.2=q.2):p=q:=by
 obtain⟨k,hk⟩:=iS.1 hp;obtain⟨k',hk'⟩:=iS.1 hq;obtain⟨h1,h2,h3,h4⟩:=F.tgt k p.1 p.2 hk;by_cases hkk:k'=k
 .subst hkk;rw[hk]at hk';cases hk';rfl
 .exact absurd h.symm (h4 k' q.1 q.2 hk' hkk)
end
end Go
/- What a seat knows of its package variables for good. -/
namespace Go.Ab
def wG:Nat->Option (List Value)
 |0=>some [.string ⟨⟨[116,101,120,116]⟩⟩,.string ⟨⟨[102,111,114,109,117,108,97]⟩⟩,.string ⟨⟨[99,111,108,117,109,110]⟩⟩,.string ⟨⟨[101,110,116,114,105,101,115]⟩⟩,.string ⟨⟨[100,114,97,119,105,110,103]⟩⟩,.string ⟨⟨[109,117,115,105,99]⟩⟩,.string ⟨⟨[108,105,115,116,105,110,103]⟩⟩]
 |1=>some [.string ⟨⟨[119,104,111,108,101]⟩⟩,.string ⟨⟨[101,110,116,114,121]⟩⟩,.string ⟨⟨[105,110,115,105,100,101]⟩⟩,.string ⟨⟨[108,101,102,116]⟩⟩,.string ⟨⟨[108,111,110,103,101,114]⟩⟩,.string ⟨⟨[98,97,114]⟩⟩,.string ⟨⟨[114,111,119]⟩⟩]
 |2=>some [.string ⟨⟨[99,104,111,105,99,101]⟩⟩,.string ⟨⟨[99,111,117,110,116]⟩⟩,.string ⟨⟨[111,112,101,110]⟩⟩]
 |3=>some [.string ⟨⟨[]⟩⟩,.string ⟨⟨[]⟩⟩,.string ⟨⟨[110,101,103]⟩⟩,.string ⟨⟨[43]⟩⟩,.string ⟨⟨[45]⟩⟩,.string ⟨⟨[42]⟩⟩,.string ⟨⟨[47]⟩⟩,.string ⟨⟨[94]⟩⟩,.string ⟨⟨[114,111,111,116]⟩⟩,.string ⟨⟨[61]⟩⟩,.string ⟨⟨[60]⟩⟩]
 |4=>some [.string ⟨⟨[100,111,116]⟩⟩,.string ⟨⟨[108,105,110,101]⟩⟩,.string ⟨⟨[97,114,101,97]⟩⟩]
 |_=>none
def D4 (w : World) : Prop := Lib.TabIs Go.Proofs.Tryz.prog w "internal/strconv.uint64pow10" .u64 Lib.pow10Tab ∧ (∀ g vs, wG g = some vs → ∀ i u, vs[i]? = some u → w.cell? ⟨g, i, none⟩ = some u) ∧ (∃ te pe, w.cell? ⟨6, 0, none⟩ = some (.iface te pe)) ∧ (∃ te pe, w.cell? ⟨7, 0, none⟩ = some (.iface te pe))
def IA(G:Nat->Nat):Prop:=∀g vs,wG g=some vs->vs.length<=G g
theorem aG4{w:World}(h:D4 w){g:Nat}{vs:List Value}(hg:wG g=some vs){i:Nat}{u:Value}(hu:vs[i]?=some u):w.cell? ⟨g,i,none⟩=some u:=h.2.1 g vs hg i u hu
theorem a5N{g:Nat}{vs:List Value}(h:wG g=some vs){u:Value}(hu:u∈vs):u.oneCell'=true:=by
 have:∀vs,wG g=some vs->vs.all (·.oneCell')=true:=by
  intro vs h;unfold wG at h;split at h
  .cases h;rfl
  .cases h;rfl
  .cases h;rfl
  .cases h;rfl
  .cases h;rfl
  .cases h
 exact fG.1 (this vs h) u hu
end Go.Ab
/- The abstract machine: data that a walk carries, what a world holds of them, and the states of a walk. -/
namespace Go.Ab
open Go.RowKit
inductive Tree where
 |v (x:Value)
 |sl (n:Nat) (ts:List Tree)
abbrev bV:=Nat->Nat
def Cell(w:World)(G:bV)(b i:Nat)(u:Value):Prop:=w.cell? ⟨b,i,none⟩=some u/\i<G b
inductive TR (w:World) (G:bV):Value->Tree->Prop
 |v (x:Value) (h:x.oneCell'=true):TR w G x (.v x)
 |nil {a:Option Addr} {c:Nat} (h:a=none->c=0):TR w G (.slice a 0 c) (.sl 0 [])
 |sl (b o n c:Nat) (us:List Value) (ts:List Tree) (hl:us.length=ts.length) (hc:∀(i:Nat)(u:Value),us[i]?=some u->Cell w G b (o+i) u)
     (hn:n<=c) (h:∀(i:Nat)(u:Value)(t:Tree),us[i]?=some u->ts[i]?=some t->TR w G u t):TR w G (.slice (some ⟨b,o,none⟩) n c) (.sl n ts)
theorem TR.mono{w w':World}{G G':bV}(hx:∀b i u,Cell w G b i u->Cell w' G' b i u){v:Value}{t:Tree}(h:TR w G v t):TR w' G' v t:=by
 induction h with
 |v x h=>exact .v x h
 |nil h=>exact .nil h
 |sl b o n c us ts hl hc hn h ih=>exact .sl b o n c us ts hl (λi u hi=>hx _ _ _ (hc i u hi)) hn ih
theorem TR.one{w:World}{G:bV}{v:Value}{t:Tree}(h:TR w G v t):v.oneCell'=true:=by
 cases h with
 |v x h=>exact h
 |nil h=>rfl
 |sl b o n c us ts hl hc hn h=>rfl
inductive D where
 |t (x:Tree)
 |agg (ds:List D)
 |aS (ds:List D)
 |own (k:Nat)
 |ref (k off:Nat)
 |ptr (ts:List Tree) (off:Nat)
 |fn (f:FuncId) (caps:List D)
 |any
 |sub (k i:Nat)
 |jE (k i j:Nat)
 |vw (k off n:Nat)
 |via (k:Nat) (r:Value->Value->Prop)
def aU:Value->Option Nat
 |.pointer (some a)=>some a.block
 |.slice (some a) _ _=>some a.block
 |.map (some g)=>some g
 |_=>none
def uU(f:FuncId)(vs:Array Value):Value:=if f<1000000 then .func (.func f) #[] vs else .func (.func (f-1000000)) vs #[]
theorem a6J(f:FuncId)(vs:Array Value):(uU f vs).oneCell'=true:=by unfold uU;split <;> rfl
theorem Na{f:FuncId}(h:f<1000000)(vs:Array Value):uU f vs = .func (.func f) #[] vs:=aI h
theorem Y5{f:FuncId}(h:¬ f<1000000)(vs:Array Value):uU f vs = .func (.func (f-1000000)) vs #[]:=aE h
inductive DR (ν:Nat->Value) (nm:Nat->Bool) (w:World) (G:bV):Value->D->Prop
 |t {v:Value} {x:Tree} (h:TR w G v x):DR ν nm w G v (.t x)
 |agg {vs:Array Value} {ds:List D} (hl:vs.size=ds.length) (h:∀(i:Nat)(u:Value)(d:D),vs[i]?=some u->ds[i]?=some d->DR ν nm w G u d) (h1:∀u∈vs.toList,u.oneCell'=true):DR ν nm w G (.agg vs) (.agg ds)
 |aS {vs:Array Value} {ds:List D} (hl:vs.size=ds.length) (h:∀(i:Nat)(u:Value)(d:D),vs[i]?=some u->ds[i]?=some d->DR ν nm w G u d):DR ν nm w G (.tuple vs) (.aS ds)
 |own {k:Nat} (hk:nm k=true) (h1:(ν k).oneCell'=true):DR ν nm w G (ν k) (.own k)
 |ref {k off g:Nat} (hk:nm k=true) (hg:aU (ν k)=some g):DR ν nm w G (.pointer (some ⟨g,off,none⟩)) (.ref k off)
 |ptr {b o off:Nat} {us:List Value} {ts:List Tree} (hl:us.length=ts.length) (hc:∀(i:Nat)(u:Value),us[i]?=some u->Cell w G b (o+i) u) (h:∀(i:Nat)(u:Value)(t:Tree),us[i]?=some u->ts[i]?=some t->TR w G u t):
     DR ν nm w G (.pointer (some ⟨b,o+off,none⟩)) (.ptr ts off)
 |fn {f:FuncId} {vs:Array Value} {ds:List D} (hl:vs.size=ds.length) (h:∀(i:Nat)(u:Value)(d:D),vs[i]?=some u->ds[i]?=some d->DR ν nm w G u d):DR ν nm w G (uU f vs) (.fn f ds)
 |any {v:Value}:DR ν nm w G v .any
 |sub {k i g:Nat} {v:Value} (hk:nm k=true) (hg:aU (ν k)=some g) (hc:Cell w G g i v) (h1:v.oneCell'=true):DR ν nm w G v (.sub k i)
 |jE {k i j g g' n c:Nat} (hk:nm k=true) (hg:aU (ν k)=some g) (hc:Cell w G g i (.slice (some ⟨g',0,none⟩) n c)):DR ν nm w G (.pointer (some ⟨g',j,none⟩)) (.jE k i j)
 |vw {k off n o c g:Nat} (hk:nm k=true) (hg:aU (ν k)=some g) (ho:0<n->o=off) (hn:n<=c) (hp:off=0->∃N,ν k = .slice (some ⟨g,o,none⟩) N c):DR ν nm w G (.slice (some ⟨g,o,none⟩) n c) (.vw k off n)
 |Ah {k off c:Nat} (hk:nm k=true) (hc:c=0) (hz:ν k = .slice none 0 0):DR ν nm w G (.slice none 0 c) (.vw k off 0)
 |via {k:Nat} {r:Value->Value->Prop} {v:Value} (hk:nm k=true) (h:r (ν k) v) (h1:v.oneCell'=true):DR ν nm w G v (.via k r)
theorem DR.mono{ν ν':Nat->Value}{nm nm':Nat->Bool}{w w':World}{G G':bV}(hn:∀k,nm k=true->nm' k=true/\ν' k=ν k)(hx:∀b i u,Cell w G b i u->Cell w' G' b i u){v:Value}{d:D}(h:DR ν nm w G v d):DR ν' nm' w' G' v d:=by
 induction h with
 |t h=>exact .t (h.mono hx)
 |agg hl h h1 ih=>exact .agg hl ih h1
 |aS hl h ih=>exact .aS hl ih
 |own hk h1=>rw[<-(hn _ hk).2]at h1 ⊢;exact .own (hn _ hk).1 h1
 |ref hk hg=>exact .ref (hn _ hk).1 (by rw[(hn _ hk).2];exact hg)
 |ptr hl hc h=>exact .ptr hl (λi u hi=>hx _ _ _ (hc i u hi)) (λi u t hu ht=>(h i u t hu ht).mono hx)
 |fn hl h ih=>exact .fn hl ih
 |any=>exact .any
 |sub hk hg hc h1=>exact .sub (hn _ hk).1 (by rw[(hn _ hk).2];exact hg) (hx _ _ _ hc) h1
 |jE hk hg hc=>exact .jE (hn _ hk).1 (by rw[(hn _ hk).2];exact hg) (hx _ _ _ hc)
 |vw hk hg ho hn' hp=>exact .vw (hn _ hk).1 (by rw[(hn _ hk).2];exact hg) ho hn' (by rw[(hn _ hk).2];exact hp)
 |Ah hk hc hz=>exact .Ah (hn _ hk).1 hc (by rw[(hn _ hk).2];exact hz)
 |via hk h h1=>exact .via (hn _ hk).1 (by rw[(hn _ hk).2];exact h) h1
def D.one:D->Bool
 |.agg _|.aS _|.any=>false
 |_=>true
theorem DR.XQ{ν:Nat->Value}{nm:Nat->Bool}{w:World}{G:bV}{v:Value}{d:D}(h:DR ν nm w G v d)(ho:d.one=true):v.oneCell'=true:=by
 cases h with
 |t h=>exact h.one
 |own hk h1=>exact h1
 |agg=>cases ho
 |aS=>cases ho
 |any=>cases ho
 |ref=>rfl
 |ptr=>rfl
 |fn=>exact a6J _ _
 |sub hk hg hc h1=>exact h1
 |jE=>rfl
 |vw=>rfl
 |Ah=>rfl
 |via _ _ h1=>exact h1
inductive NC where
 |fK (d:D)
 |cX (n:Nat) (ts:List Tree)
inductive aO where
 |box (e:TypeId) (ds:List D)
 |row (e:TypeId) (s n:Nat) (ts:List Tree) (st:Bool)
 |nest (e e':TypeId) (s:Nat) (ls:List (Nat×List Tree))
 |mp (l:List (Value×D))
 |bC (e e':TypeId) (m s n:Nat) (cs:List NC)
 |it (s:ByteArray) (pos:Nat)
def bO(w:World)(v:Value):aO->Nat->Prop
 |.nest _ _ _ ls,g=>aU v=some g\/∃(g0 i:Nat)(x:Value),aU v=some g0/\i<ls.length/\w.cell? ⟨g0,i,none⟩=some x/\aU x=some g
 |.box ..,g=>aU v=some g
 |.row ..,g=>aU v=some g
 |.mp ..,g=>aU v=some g
 |.it ..,g=>aU v=some g
 |.bC _ _ _ _ _ cs,g=>aU v=some g\/∃(g0 i:Nat)(x:Value)(q:Nat)(ts:List Tree),aU v=some g0/\cs[i]?=some (.cX q ts)/\w.cell? ⟨g0,i,none⟩=some x/\aU x=some g
theorem eK{w:World}{v:Value}{o:aO}{g:Nat}(h:aU v=some g):bO w v o g:=by cases o <;> first|exact .inl h|exact h
theorem uT{w w':World}{v:Value}{o:aO}(h:∀g,aU v=some g->w'.heap[g]?=w.heap[g]?){g:Nat}:bO w' v o g ↔ bO w v o g:=by
 cases o with
 |box=>exact oD
 |row=>exact oD
 |mp=>exact oD
 |it=>exact oD
 |bC e e' m s n cs=>
   have hc:∀g0 i,aU v=some g0->w'.cell? ⟨g0,i,none⟩=w.cell? ⟨g0,i,none⟩:=λg0 i h0=>World.cell?_of_block (a:=⟨g0,i,none⟩) (h g0 h0)
   constructor
   .rintro(h1|⟨g0,i,x,q,ts,h1,h2,h3,h4⟩)
    .exact .inl h1
    .exact .inr ⟨g0,i,x,q,ts,h1,h2,by rw[<-hc g0 i h1];exact h3,h4⟩
   .rintro(h1|⟨g0,i,x,q,ts,h1,h2,h3,h4⟩)
    .exact .inl h1
    .exact .inr ⟨g0,i,x,q,ts,h1,h2,by rw[hc g0 i h1];exact h3,h4⟩
 |nest e e' s ls=>
   have hc:∀g0 i,aU v=some g0->w'.cell? ⟨g0,i,none⟩=w.cell? ⟨g0,i,none⟩:=λg0 i h0=>World.cell?_of_block (a:=⟨g0,i,none⟩) (h g0 h0)
   constructor
   .rintro(h1|⟨g0,i,x,h1,h2,h3,h4⟩)
    .exact .inl h1
    .exact .inr ⟨g0,i,x,h1,h2,by rw[<-hc g0 i h1];exact h3,h4⟩
   .rintro(h1|⟨g0,i,x,h1,h2,h3,h4⟩)
    .exact .inl h1
    .exact .inr ⟨g0,i,x,h1,h2,by rw[hc g0 i h1];exact h3,h4⟩
def Bb(w:World)(X:Nat->Prop):Prop:=∀w':World,w.heap.size<=w'.heap.size->(∀b,b<w.heap.size->¬ X b->w'.heap[b]?=w.heap[b]?)->D4 w'
theorem Bb.eJ{w0 w:World}{X X':Nat->Prop}(h:Bb w0 X)(hs:w0.heap.size<=w.heap.size)(hb:∀b,b<w0.heap.size->¬ X b->w.heap[b]?=w0.heap[b]?)(hX:∀b,X' b->w0.heap.size<=b\/X b):Bb w X':=λw' h1 h2=>
 h w' (AF hs h1) λb b1 b2=>(h2 b (tD b1 hs) λhx=>(hX b hx).elim (λh=>absurd b1 (Nat.not_lt.2 h)) b2).trans (hb b b1 b2)
structure Env where
 m:Nat
 w0:World
 G0:bV
 X:Nat->Prop
 ν0:Nat->Value
 Ao:Bb w0 X
 tg:IA G0
 ds:List Deferred
def Env.may(E:Env)(g:Nat):Prop:=E.w0.heap.size<=g\/E.X g
structure St where
 T:Nat->Option D
 H:Nat->Option aO
 nm:Nat->Bool
def ZZ(es:Array MapEntry)(clock:Nat):Prop:=(∀x∈es.toList,x.born<clock)/\(es.toList.map (·.born)).Nodup
def eT(E:Env)(ν:Nat->Value)(nm:Nat->Bool)(w:World)(G:bV)(k:Nat):aO->Prop
 |.box e ds=>∃g cur,ν k = .pointer (some ⟨g,0,none⟩)/\E.may g/\w.heap[g]?=some (.cells cur e (0,0))/\G g=0/\cur.size=ds.length /\
     (∀(i:Nat)(u:Value)(d:D),cur[i]?=some u->ds[i]?=some d->DR ν nm w G u d/\u.oneCell'=true)
 |.row e s n ts st=>∃xs,w.ownsRow 0 e s (ν k) n xs/\xs.length=ts.length/\(∀(i:Nat)(u:Value)(t:Tree),xs[i]?=some u->ts[i]?=some t->TR w G u t) /\
     ∀g,aU (ν k)=some g->E.may g/\G g=if st then n*s else 0
 |.nest e e' s ls=>∃xs,w.ownsRow 0 e 1 (ν k) ls.length xs /\
     (∀(i:Nat)(x:Value)(p:Nat×List Tree),xs[i]?=some x->ls[i]?=some p->∃ys,w.ownsRow 0 e' s x p.1 ys/\ys.length=p.2.length/\(∀(i:Nat)(u:Value)(t:Tree),ys[i]?=some u->p.2[i]?=some t->TR w G u t)/\∀g,aU x=some g->E.may g/\G g=0) /\
     (∀(i j:Nat)(x y:Value),i≠j->xs[i]?=some x->xs[j]?=some y->∀g,aU x=some g->aU y≠some g)/\(∀(i:Nat)(x:Value),xs[i]?=some x->∀g,aU x=some g->aU (ν k)≠some g) /\
     ∀g,aU (ν k)=some g->E.may g/\G g=ls.length
 |.mp l=>∃g es clock,ν k = .map (some g)/\E.may g/\w.heap[g]?=some (.map es clock)/\G g=0/\ZZ es clock/\es.size=l.length /\
     ∀(i:Nat)(en:MapEntry)(p:Value×D),es[i]?=some en->l[i]?=some p->en.key=p.1/\DR ν nm w G en.val p.2
 |.it s pos=>∃g,ν k = .pointer (some ⟨g,0,none⟩)/\E.may g/\w.heap[g]?=some (.stringIter s pos)/\G g=0
 |.bC e e' m s n cs=>∃xs,w.ownsRow 0 e m (ν k) n xs/\xs.length=cs.length /\
     (∀(i:Nat)(x:Value)(d:D),xs[i]?=some x->cs[i]?=some (.fK d)->DR ν nm w G x d/\x.oneCell'=true) /\
     (∀(i:Nat)(x:Value)(q:Nat)(ts:List Tree),xs[i]?=some x->cs[i]?=some (.cX q ts)->∃ys,w.ownsRow 0 e' s x q ys/\ys.length=ts.length/\(∀(i:Nat)(u:Value)(t:Tree),ys[i]?=some u->ts[i]?=some t->TR w G u t)/\∀g,aU x=some g->E.may g/\G g=0) /\
     (∀(i j:Nat)(x y:Value)(q q':Nat)(ts ts':List Tree),i≠j->xs[i]?=some x->xs[j]?=some y->cs[i]?=some (.cX q ts)->cs[j]?=some (.cX q' ts')->∀g,aU x=some g->aU y≠some g)/\(∀(i:Nat)(x:Value)(q:Nat)(ts:List Tree),xs[i]?=some x->cs[i]?=some (.cX q ts)->∀g,aU x=some g->aU (ν k)≠some g) /\
     ∀g,aU (ν k)=some g->E.may g/\G g=0
structure Kept(E:Env)(w:World):Prop where
 os:w.os=E.w0.os
 tape:w.tape=E.w0.tape
 output:w.output=E.w0.output
 size:E.w0.heap.size<=w.heap.size
 block:∀b,b<E.w0.heap.size->¬ E.X b->w.heap[b]?=E.w0.heap[b]?
structure Inv(E:Env)(σ:St)(ν:Nat->Value)(G:bV)(w:World)(tm:Array Value):Prop where
 kept:Kept E w
 eJ:∀b i u,Cell E.w0 E.G0 b i u->Cell w G b i u
 fJ:∀k,50<=k->k<100->ν k=E.ν0 k
 g0:∀b,b<E.w0.heap.size->¬ E.X b->G b=E.G0 b
 sz:tm.size=E.m
 T:∀t d,σ.T t=some d->∃v,tm[t]?=some v/\DR ν σ.nm w G v d
 H:∀k o,σ.H k=some o->σ.nm k=true/\eT E ν σ.nm w G k o
 cW:∀k o k' o',σ.H k=some o->σ.H k'=some o'->k≠k'->∀g,bO w (ν k) o g->¬ bO w (ν k') o' g
def R(E:Env)(σ:St)(tm:Array Value)(w:World):Prop:=∃ν G,Inv E σ ν G w tm
theorem Inv.tg{E:Env}{σ:St}{ν:Nat->Value}{G:bV}{w:World}{tm:Array Value}(I:Inv E σ ν G w tm):IA G:=λg vs h=>by
 rcases Nat.eq_zero_or_pos vs.length with h0|h0
 .omega
 .have hi:vs.length-1<vs.length:=by omega
  have hc:=aG4 (E.Ao E.w0 (cE _) λ_ _ _=>rfl) h (dC hi);have:=(I.eJ g (vs.length-1) _ ⟨hc,by have:=E.tg g vs h;omega⟩).2;omega
theorem Inv.Ip{E:Env}{σ:St}{ν:Nat->Value}{G:bV}{w:World}{tm:Array Value}(I:Inv E σ ν G w tm){g:Nat}{vs:List Value}(h:wG g=some vs)(i:Nat)(u:Value)(hu:vs[i]?=some u):Cell w G g i u:=
 I.eJ g i u ⟨aG4 (E.Ao E.w0 (cE _) λ_ _ _=>rfl) h hu,tD (bZ.1 hu).1 (E.tg g vs h)⟩
theorem Kept.iG{E:Env}{w w':World}(h:Kept E w)(hA:cU w w'):Kept E w':=
 ⟨hA.os.trans h.os,hA.tape.trans h.tape,hA.output.trans h.output,AF h.size hA.size,λb hb hX=>(hA.block b (tD hb h.size)).trans (h.block b hb hX)⟩
theorem Cell.lt{w:World}{G:bV}{b i:Nat}{u:Value}(h:Cell w G b i u):b<w.heap.size:=World.block_lt_of_cell? w ⟨b,i,none⟩ h.1
theorem Cell.iG{w w':World}{G G':bV}(hA:cU w w')(hG:∀b,b<w.heap.size->G' b=G b){b i:Nat}{u:Value}(h:Cell w G b i u):Cell w' G' b i u:=
 ⟨(hA.cell h.lt).trans h.1,by rw[hG b h.lt];exact h.2⟩
theorem EA{w:World}{g:Nat}{o:Obj}(h:w.heap[g]?=some o):g<w.heap.size:=(mP.1 h).1
theorem ZC{v:Value}{g:Nat}:v.ownBlock=some g->aU v=some g:=by
 intro h;unfold Value.ownBlock at h;split at h
 .simpa[aU]using h
 .cases h
theorem kR{w:World}{base:Nat}{e:TypeId}{s:Nat}{v:Value}{n:Nat}{xs:List Value}(h:w.ownsRow base e s v n xs):aU v=v.ownBlock:=by
 rcases h.2 with⟨rfl,_⟩|⟨g,cap,cur,rfl,_⟩ <;> rfl
theorem pF{w:World}{base:Nat}{e:TypeId}{s:Nat}{v:Value}{n:Nat}{xs:List Value}(h:w.ownsRow base e s v n xs):v.oneCell'=true:=by
 rcases h.2 with⟨rfl,_⟩|⟨g,cap,cur,rfl,_⟩ <;> rfl
theorem mY{w:World}{e:TypeId}{v:Value}{m n:Nat}{xs:List Value}(h:w.ownsRow 0 e m v n xs){g i:Nat}(hg:aU v=some g)(hi:i<xs.length):w.cell? ⟨g,i,none⟩=xs[i]?:=by
 rcases h.2 with⟨rfl,h0⟩|⟨g0,cap,cur,hv,_,r2,_,_,_,r6⟩
 .cases hg
 .rw[hv]at hg
  cases hg;rw[h.1]at hi;rw[<-r6,fU,aI (by omega)];simp[World.cell?,r2]
theorem eT.mono{E:Env}{ν ν':Nat->Value}{nm nm':Nat->Bool}{w w':World}{G G':bV}{k:Nat}{o:aO}(hk:nm k=true)(hn:∀k,nm k=true->nm' k=true/\ν' k=ν k)
    (hx:∀b i u,Cell w G b i u->Cell w' G' b i u) (hb:∀g,bO w (ν k) o g->w'.heap[g]?=w.heap[g]?/\G' g=G g) (h:eT E ν nm w G k o):eT E ν' nm' w' G' k o:=by
 have hxx:=hx;have mv:∀{e:TypeId}{s n:Nat}{v:Value}{xs:List Value},(∀g,aU v=some g->w'.heap[g]?=w.heap[g]?)->w.ownsRow 0 e s v n xs->w'.ownsRow 0 e s v n xs:=λhv h1=>by
  refine⟨h1.1,?_⟩;rcases h1.2 with h|⟨g,cap,cur,hvv,r1,r2,r3⟩
  .exact .inl h
  .exact .inr ⟨g,cap,cur,hvv,r1,by rw[hv g (by rw[hvv];rfl)];exact r2,r3⟩
 cases o with
 |it s pos=>
   obtain⟨g,h1,h2,h3,h4⟩:=h;obtain⟨q1,q2⟩:=hb g (eK (by rw[h1];rfl));exact⟨g,by rw[(hn k hk).2];exact h1,h2,by rw[q1];exact h3,by rw[q2];exact h4⟩
 |mp l=>
   obtain⟨g,es,clock,h1,h2,h3,h4,hs,h5,h6⟩:=h;obtain⟨q1,q2⟩:=hb g (eK (by rw[h1];rfl));exact⟨g,es,clock,by rw[(hn k hk).2];exact h1,h2,by rw[q1];exact h3,by rw[q2];exact h4,hs,h5,λi en p he hp=>⟨(h6 i en p he hp).1,(h6 i en p he hp).2.mono hn hx⟩⟩
 |bC e e' m s n cs=>
   obtain⟨xs,h1,hl,hd,h2,h3,h4,h5⟩:=h;have hin:∀(i:Nat)(x:Value)(q:Nat)(ts:List Tree),xs[i]?=some x->cs[i]?=some (.cX q ts)->∀g,aU x=some g->bO w (ν k) (.bC e e' m s n cs) g:=λi x q ts hx hc g hg=>by
    have hi:=(bZ.1 hx).1;rcases h1.2 with⟨_,h0⟩|⟨g0,cap,cur,hv,_⟩
    .rw[h1.1,h0]at hi;omega
    .refine .inr ⟨g0,i,x,q,ts,by rw[hv];rfl,hc,?_,hg⟩
     rw[mY h1 (by rw[hv];rfl) hi];exact hx
   refine⟨xs,by rw[(hn k hk).2];exact mv (λg hg=>(hb g (eK hg)).1) h1,hl,λi x d hx hc=>⟨(hd i x d hx hc).1.mono hn hxx,(hd i x d hx hc).2⟩,λi x q ts hx hc=>?_,h3,λi x q ts hx hc g hg=>by rw[(hn k hk).2];exact h4 i x q ts hx hc g hg,λg hg=>?_⟩
   .obtain⟨ys,y1,y2,y3,y4⟩:=h2 i x q ts hx hc
    exact⟨ys,mv (λg hg=>(hb g (hin i x q ts hx hc g hg)).1) y1,y2,λi u t hu ht=>(y3 i u t hu ht).mono ‹_›,λg hg=>by rw[(hb g (hin i x q ts hx hc g hg)).2];exact y4 g hg⟩
   .rw[(hn k hk).2]at hg
    rw[(hb g (eK hg)).2];exact h5 g hg
 |nest e e' s ls=>
   obtain⟨xs,h1,h2,h3,h4,h5⟩:=h;have hin:∀(i:Nat)(x:Value),xs[i]?=some x->∀g,aU x=some g->bO w (ν k) (.nest e e' s ls) g:=λi x hx g hg=>by
    have hi:i<ls.length:=by have:=(bZ.1 hx).1;rw[h1.1]at this;omega
    rcases h1.2 with⟨_,h0⟩|⟨g0,cap,cur,hv,_,r2,_,_,_,r6⟩
    .omega
    .refine .inr ⟨g0,i,x,by rw[hv];rfl,hi,?_,hg⟩
     rw[<-r6,fU,aI (by omega)]at hx;simp only[World.cell?,r2];simpa using hx
   refine⟨xs,by rw[(hn k hk).2];exact mv (λg hg=>(hb g (eK hg)).1) h1,λi x p hx hp=>?_,h3,λi x hx g hg=>by rw[(hn k hk).2];exact h4 i x hx g hg,λg hg=>?_⟩
   .obtain⟨ys,y1,y2,y3,y4⟩:=h2 i x p hx hp
    exact⟨ys,mv (λg hg=>(hb g (hin i x hx g hg)).1) y1,y2,λi u t hu ht=>(y3 i u t hu ht).mono ‹_›,λg hg=>by rw[(hb g (hin i x hx g hg)).2];exact y4 g hg⟩
   .rw[(hn k hk).2]at hg
    rw[(hb g (eK hg)).2];exact h5 g hg
 |box e ds=>
   obtain⟨g,cur,h1,h2,h3,h4,h5,h6⟩:=h;obtain⟨q1,q2⟩:=hb g (eK (by rw[h1];rfl));exact⟨g,cur,by rw[(hn k hk).2];exact h1,h2,by rw[q1];exact h3,by rw[q2];exact h4,h5,λi u d hu hd=>⟨(h6 i u d hu hd).1.mono hn hx,(h6 i u d hu hd).2⟩⟩
 |row e s n ts st=>
   obtain⟨xs,h1,h2,h3,h4⟩:=h;refine⟨xs,?_,h2,λi u t hu ht=>(h3 i u t hu ht).mono hx,λg hg=>?_⟩
   .rw[(hn k hk).2]
    refine⟨h1.1,?_⟩;rcases h1.2 with h|⟨g,cap,cur,hv,r1,r2,r3⟩
    .exact .inl h
    .exact .inr ⟨g,cap,cur,hv,r1,by rw[(hb g (eK (by rw[hv];rfl))).1];exact r2,r3⟩
   .rw[(hn k hk).2]at hg
    rw[(hb g (eK hg)).2];exact h4 g hg
theorem eT.sX{E:Env}{ν:Nat->Value}{nm:Nat->Bool}{w:World}{G:bV}{k:Nat}{o:aO}(h:eT E ν nm w G k o){g:Nat}(hg:aU (ν k)=some g):g<w.heap.size:=by
 cases o with
 |box e ds=>
   obtain⟨g',cur,h1,h2,h3,_⟩:=h;rw[h1]at hg;simp only[aU,iR]at hg;subst hg;exact EA h3
 |row e s n ts st=>
   obtain⟨xs,h1,_⟩:=h;exact(h1.lt g (by rw[<-kR h1];exact hg)).2
 |nest e e' s ls=>
   obtain⟨xs,h1,_⟩:=h;exact(h1.lt g (by rw[<-kR h1];exact hg)).2
 |bC e e' m s n cs=>
   obtain⟨xs,h1,_⟩:=h;exact(h1.lt g (by rw[<-kR h1];exact hg)).2
 |it s pos=>
   obtain⟨g',h1,h2,h3,_⟩:=h;rw[h1]at hg;simp only[aU,iR]at hg;subst hg;exact EA h3
 |mp l=>
   obtain⟨g',es,clock,h1,h2,h3,_⟩:=h;rw[h1]at hg;simp only[aU,iR]at hg;subst hg;exact EA h3
theorem wA{w:World}{e:TypeId}{v:Value}{n:Nat}{xs:List Value}(h:w.ownsRow 0 e 1 v n xs){g i:Nat}(hg:aU v=some g)(hi:i<n):w.cell? ⟨g,i,none⟩=xs[i]?:=by
 rcases h.2 with⟨rfl,h0⟩|⟨g0,cap,cur,hv,_,r2,_,_,_,r6⟩
 .cases hg
 .rw[hv]at hg
  cases hg;rw[<-r6,fU,aI (by omega)];simp[World.cell?,r2]
theorem eT.ft{E:Env}{ν:Nat->Value}{nm:Nat->Bool}{w:World}{G:bV}{k:Nat}{o:aO}(h:eT E ν nm w G k o){g:Nat}(hg:bO w (ν k) o g):g<w.heap.size/\E.may g:=by
 cases o with
 |box e ds=>obtain⟨g',cur,h1,h2,h3,_⟩:=id h;have hg:aU (ν k)=some g:=hg;exact⟨h.sX hg,by rw[h1]at hg;cases hg;exact h2⟩
 |row e s n ts st=>obtain⟨xs,h1,h2,h3,h4⟩:=id h;have hg:aU (ν k)=some g:=hg;exact⟨h.sX hg,(h4 g hg).1⟩
 |it s pos=>obtain⟨g',h1,h2,h3,_⟩:=id h;have hg:aU (ν k)=some g:=hg;exact⟨h.sX hg,by rw[h1]at hg;cases hg;exact h2⟩
 |mp l=>obtain⟨g',es,clock,h1,h2,h3,_⟩:=id h;have hg:aU (ν k)=some g:=hg;exact⟨h.sX hg,by rw[h1]at hg;cases hg;exact h2⟩
 |bC e e' m s n cs=>
   obtain⟨xs,h1,hl,hd,h2,h3,h4,h5⟩:=id h;rcases hg with hg|⟨g0,i,x,q,ts,q1,q2,q3,q4⟩
   .exact⟨h.sX hg,(h5 g hg).1⟩
   .have hi:i<xs.length:=by rw[hl];exact(bZ.1 q2).1
    rw[mY h1 q1 hi]at q3;obtain⟨ys,y1,_,_,y4⟩:=h2 i x q ts q3 q2;exact⟨(y1.lt g (by rw[<-kR y1];exact q4)).2,(y4 g q4).1⟩
 |nest e e' s ls=>
   obtain⟨xs,h1,h2,h3,h4,h5⟩:=id h;rcases hg with hg|⟨g0,i,x,q1,q2,q3,q4⟩
   .exact⟨h.sX hg,(h5 g hg).1⟩
   .rw[wA h1 q1 q2]at q3
    obtain⟨p,hp⟩:∃p,ls[i]?=some p:=⟨_,dC q2⟩
    obtain⟨ys,y1,_,_,y4⟩:=h2 i x p q3 hp;exact⟨(y1.lt g (by rw[<-kR y1];exact q4)).2,(y4 g q4).1⟩
theorem Inv.iG{E:Env}{σ:St}{ν:Nat->Value}{G G':bV}{w w':World}{tm:Array Value}(I:Inv E σ ν G w tm)(hA:cU w w')(hG:∀b,b<w.heap.size->G' b=G b):Inv E σ ν G' w' tm where
 kept:=I.kept.iG hA
 eJ:=λb i u h=>(I.eJ b i u h).iG hA hG
 fJ:=I.fJ
 g0:=λb hb hX=>(hG b (tD hb I.kept.size)).trans (I.g0 b hb hX)
 sz:=I.sz
 T:=λt d h=>let⟨v,hv,hd⟩:=I.T t d h;⟨v,hv,hd.mono (λ_ h=>⟨h,rfl⟩) (λ_ _ _ hc=>hc.iG hA hG)⟩
 H:=λk o h=>let⟨h1,h2⟩:=I.H k o h;⟨h1,h2.mono h1 (λ_ h=>⟨h,rfl⟩) (λ_ _ _ hc=>hc.iG hA hG) (λg hg=>⟨hA.block g (h2.ft hg).1,hG g (h2.ft hg).1⟩)⟩
 cW:=λk o k' o' h h' hne g hg hg'=>by
  have q:=(I.H k o h).2;have q':=(I.H k' o' h').2;rw[uT (λg hg=>hA.block g (q.sX hg))]at hg;rw[uT (λg hg=>hA.block g (q'.sX hg))]at hg';exact I.cW k o k' o' h h' hne g hg hg'
def look{α:Type}(k:Nat):List (Nat×α)->Option α
 |[]=>none
 |(k',x)::l=>if k'=k then some x else look k l
theorem oR{α:Type}{k:Nat}{x:α}:∀{l:List (Nat×α)},look k l=some x->(k,x)∈l
 |[],h=>by cases h
 |p::l,h=>by
   unfold look at h;split at h
   .rename_i hp;cases h;rw[<-hp];exact List.mem_cons_self ..
   .exact List.mem_cons_of_mem _ (oR h)
abbrev Wr:=List (Nat×Option aO)
def St.aP(σ:St)(dst:Option Tmp)(d:D)(W:Wr)(fr:Nat):St:=
 ⟨λt=>if dst=some t then some d else σ.T t,λk=>match look k W with |some r=>r |none=>σ.H k,λk=>σ.nm k||(decide (fr<=k)&&decide (k<fr+8))⟩
theorem Inv.put{E:Env}{σ:St}{ν:Nat->Value}{G:bV}{w:World}{tm:Array Value}(I:Inv E σ ν G w tm){dst:Option Tmp}{v:Value}{d:D}(hd:DR ν σ.nm w G v d)(ht:∀t,dst=some t->t<E.m)(fr:Nat)(a:Act)(ha:a.tmps=tm):
    Inv E (σ.aP dst d [] fr) ν G w (a.put dst v).tmps where
 kept:=I.kept
 eJ:=I.eJ
 fJ:=I.fJ
 g0:=I.g0
 sz:=by cases dst <;> simp[Act.put,ha,I.sz]
 T:=λt d' h=>by
  simp only[St.aP]at h;split at h
  .rename_i he
   cases h;subst he;refine⟨v,?_,hd.mono (λk hk=>⟨by simp[St.aP,hk],rfl⟩) (λ_ _ _ hc=>hc)⟩;have:=ht t rfl;simp[Act.put,ha,I.sz,this]
  .rename_i he
   obtain⟨u,hu,hdu⟩:=I.T t d' h;refine⟨u,?_,hdu.mono (λk hk=>⟨by simp[St.aP,hk],rfl⟩) (λ_ _ _ hc=>hc)⟩;cases dst with
   |none=>simpa[Act.put,ha]using hu
   |some t'=>
     have hne:t'≠t:=λe=>he (by rw[e])
     simp only[Act.put,ha];rw[tJ hne];exact hu
 H:=λk o h=>by
  obtain⟨h1,h2⟩:=I.H k o (by simpa[St.aP,look]using h);exact⟨by simp[St.aP,h1],h2.mono h1 (λk hk=>⟨by simp[St.aP,hk],rfl⟩) (λ_ _ _ hc=>hc) (λ_ _=>⟨rfl,rfl⟩)⟩
 cW:=λk o k' o' h h'=>I.cW k o k' o' (by simpa[St.aP,look]using h) (by simpa[St.aP,look]using h')
end Go.Ab
/- The abstract machine: one operation, statements in a row, and the rules of the code. -/
namespace Go.Ab
open Go.RowKit
def rI:Value->Bool
 |.agg cs=>cs.toList.all (·.oneCell')
 |.tuple _=>false
 |_=>true
def oO:Value->D
 |.agg cs=>.agg (cs.toList.map λc=>.t (.v c))
 |v=>.t (.v v)
theorem Mt{ν:Nat->Value}{nm:Nat->Bool}{w:World}{G:bV}{v:Value}(h:rI v=true):DR ν nm w G v (oO v):=by
 cases v with
 |agg cs=>
   have h1:∀c∈cs.toList,c.oneCell'=true:=fG.1 h
   refine .agg (by simp) (λi u d hu hd=>?_) h1;simp only[cZ,Bm,hu,Option.map_some,iR]at hd;subst hd;exact .t (.v u (h1 u (by rw[iS];exact⟨i,by simpa using hu⟩)))
 |tuple vs=>cases h
 |_=>exact .t (.v _ rfl)
def N7(g:Nat):D:=match wG g with
 |some vs=>.ptr (vs.map .v) 0
 |none=>.t (.v (.pointer (some ⟨g,0,none⟩)))
def St.ev(σ:St):Operand->Option D
 |.tmp t=>σ.T t
 |.const v=>if rI v then some (oO v)else none
 |.func f=>if f<1000000 then some (.fn f [])else none
 |.global g=>some (N7 g)
theorem Inv.ev{E:Env}{σ:St}{ν:Nat->Value}{G:bV}{w:World}{a:Act}(I:Inv E σ ν G w a.tmps){x:Operand}{d:D}(h:σ.ev x=some d):DR ν σ.nm w G (a.eval x) d:=by
 cases x with
 |tmp t=>
   obtain⟨v,hv,hd⟩:=I.T t d h;have he:a.eval (.tmp t)=v:=by simp[Act.eval,Array.getD_eq_getD_getElem?,hv]
   rw[he];exact hd
 |const v=>
   simp only[St.ev]at h;split at h
   .rename_i hc;cases h;exact Mt hc
   .cases h
 |func f=>
   simp only[St.ev]at h;split at h
   .rename_i hf
    cases h;have e:uU f #[]=a.eval (.func f):=Na hf #[];rw[<-e];exact .fn (by simp) (λi u d hu=>by simp at hu)
   .cases h
 |global g=>
   cases h;show DR ν σ.nm w G (.pointer (some ⟨g,0,none⟩)) (N7 g);unfold N7;split
   .rename_i vs hvs
    have:=DR.ptr (ν:=ν) (nm:=σ.nm) (w:=w) (G:=G) (b:=g) (o:=0) (off:=0) (us:=vs) (ts:=vs.map .v) (by simp) (λi u hu=>by rw[eC];exact I.Ip hvs i u hu) (λi u t hu ht=>by
     rw[cZ,hu]at ht;cases ht;exact .v u (a5N hvs (iS.2 ⟨i,hu⟩)))
    exact this
   .exact .t (.v _ rfl)
def aW(P:Program)(o:Oper)(σ:St)(fr:Nat)(d:D)(W:Wr):Prop:=
 ∀(E:Env)(σ₁:St)(a:Act)(w:World),(∀t d,σ.T t=some d->σ₁.T t=some d)->(∀k o,σ.H k=some o->σ₁.H k=some o)->100<=fr->(∀k,fr<=k->k<fr+8->σ₁.nm k=false)->
  (∀t,o.dst=some t->t<E.m)->R E σ₁ a.tmps w->∀Q,o.wp P a w (λa' w'=>a'.defers=a.defers/\R E (σ₁.aP o.dst d W fr) a'.tmps w') Q
theorem St.dE{σ σ₁:St}(hT:∀t d,σ.T t=some d->σ₁.T t=some d){x:Operand}{d:D}(h:σ.ev x=some d):σ₁.ev x=some d:=by
 cases x with
 |tmp t=>exact hT t d h
 |_=>exact h
theorem put_defers(a:Act)(dst:Option Tmp)(v:Value):(a.put dst v).defers=a.defers:=by cases dst <;> rfl
theorem dM{P:Program}{o:Oper}{σ:St}{fr:Nat}{d:D}
    (h:∀(E:Env)(σ₁:St)(ν:Nat->Value)(G:bV)(w:World)(a:Act),(∀k o,σ.H k=some o->σ₁.H k=some o)->Inv E σ₁ ν G w a.tmps->(∀x d,σ.ev x=some d->DR ν σ₁.nm w G (a.eval x) d)->
     ∃v,(execOp a.eval o).run P w = .ok (.value v) w/\DR ν σ₁.nm w G v d):aW P o σ fr d []:=by
 intro E σ₁ a w hT hH _ _ hd hR Q;obtain⟨ν,G,I⟩:=hR;obtain⟨v,hr,hv⟩:=h E σ₁ ν G w a hH I (λx d hx=>I.ev (St.dE hT hx));unfold Oper.wp;rw[hr,Oper.upon_value];exact⟨put_defers ..,ν,G,I.put hv hd fr a rfl⟩
def E3(P:Program)(o:Oper)(σ:St)(fr:Nat){ι:Type}(C:ι->Prop)(d:ι->D)(W:ι->Wr):Prop:=
 ∀(E:Env)(σ₁:St)(a:Act)(w:World),(∀t d,σ.T t=some d->σ₁.T t=some d)->(∀k o,σ.H k=some o->σ₁.H k=some o)->100<=fr->(∀k,fr<=k->k<fr+8->σ₁.nm k=false)->
  (∀t,o.dst=some t->t<E.m)->R E σ₁ a.tmps w->∀Q,o.wp P a w (λa' w'=>a'.defers=a.defers/\∃i,C i/\R E (σ₁.aP o.dst (d i) (W i) fr) a'.tmps w') Q
theorem aW.n{P:Program}{o:Oper}{σ:St}{fr:Nat}{d:D}{W:Wr}(h:aW P o σ fr d W):E3 P o σ fr (λ_:Unit=>True) (λ_=>d) (λ_=>W):=λE σ₁ a w h1 h2 h3 h4 h5 h6 Q=>Oper.wp_mono (λ_ _ h=>⟨h.1,(),trivial,h.2⟩) (h E σ₁ a w h1 h2 h3 h4 h5 h6 Q)
def tF(ops:Array Oper)(o:Oper)(σ:St):Prop:=
 o.guard=none\/∃j want t,o.guard=some (j,want)/\((ops[j]?).bind (·.dst))=some t/\σ.T t=some (.t (.v (.bool want)))
def JZ(ops:Array Oper)(o:Oper)(σ:St):Prop:=
 ∃j want t d,o.guard=some (j,want)/\((ops[j]?).bind (·.dst))=some t/\σ.T t=some d/\(d = .aS []\/d = .t (.v (.bool (!want))))
def qI(P:Program)(ops:Array Oper)(o:Oper)(σ:St)(fr:Nat)(d:D)(W:Wr):Prop:=
 (tF ops o σ/\aW P o σ fr d W)\/(JZ ops o σ/\d = .aS []/\W=[])
theorem Hv{ν:Nat->Value}{nm:Nat->Bool}{w:World}{G:bV}:DR ν nm w G undef (.aS []):=.aS (by rfl) (λi u d hu=>by simp at hu)
theorem bY{ν:Nat->Value}{nm:Nat->Bool}{w:World}{G:bV}{v x:Value}(h:DR ν nm w G v (.t (.v x))):v=x:=by
 cases h with|t h=>cases h with|v=>rfl
theorem a09{ν:Nat->Value}{nm:Nat->Bool}{w:World}{G:bV}{v:Value}(h:DR ν nm w G v (.aS [])):v=undef:=by
 cases h with
 |aS hl h=>
   rename_i vs;have:vs = #[]:=by simpa using hl
   rw[this];rfl
theorem tF.wanted{ops:Array Oper}{o:Oper}{σ σ₁:St}{E:Env}{ν:Nat->Value}{G:bV}{w:World}{a:Act}(h:tF ops o σ)(hT:∀t d,σ.T t=some d->σ₁.T t=some d)(I:Inv E σ₁ ν G w a.tmps):
    Region.wanted o (yielded ops a.tmps)=true:=by
 rcases h with h|⟨j,want,t,h1,h2,h3⟩
 .simp[Region.wanted,h]
 .obtain⟨v,hv,hd⟩:=I.T t _ (hT t _ h3)
  have:=bY hd;subst this;simp[Region.wanted,h1,yielded,h2,hv]
theorem JZ.wanted{ops:Array Oper}{o:Oper}{σ σ₁:St}{E:Env}{ν:Nat->Value}{G:bV}{w:World}{a:Act}(h:JZ ops o σ)(hT:∀t d,σ.T t=some d->σ₁.T t=some d)(I:Inv E σ₁ ν G w a.tmps):
    Region.wanted o (yielded ops a.tmps)=false:=by
 obtain⟨j,want,t,d,h1,h2,h3,h4⟩:=h;obtain⟨v,hv,hd⟩:=I.T t _ (hT t _ h3);rcases h4 with rfl|rfl
 .have:=a09 hd
  subst this;simp[Region.wanted,h1,yielded,h2,hv,undef]
 .have:=bY hd
  subst this;simp[Region.wanted,h1,yielded,h2,hv]
theorem qI.run{P:Program}{ops:Array Oper}{o:Oper}{σ σ₁:St}{fr:Nat}{d:D}{W:Wr}(h:qI P ops o σ fr d W){E:Env}{a:Act}{w:World}(hT:∀t d,σ.T t=some d->σ₁.T t=some d)(hH:∀k o,σ.H k=some o->σ₁.H k=some o)
    (h100:100<=fr) (hf:∀k,fr<=k->k<fr+8->σ₁.nm k=false) (hd:∀t,o.dst=some t->t<E.m) (hR:R E σ₁ a.tmps w) (K:Act->World->Prop) (Q:Exit->Act->World->Prop)
    (hK:∀a' w',a'.defers=a.defers->R E (σ₁.aP o.dst d W fr) a'.tmps w'->K a' w'):
    if Region.wanted o (yielded ops a.tmps)then o.wp P a w K Q\/(o.asks P a w/\LetsOut Q)else K (a.put o.dst undef) w:=by
 have hR':=hR;obtain⟨ν,G,I⟩:=hR';rcases h with⟨hg,hop⟩|⟨ho,rfl,rfl⟩
 .rw[hg.wanted hT I,aI rfl]
  exact .inl (Oper.wp_mono (λa' w' h=>hK a' w' h.1 h.2) (hop E σ₁ a w hT hH h100 hf hd hR Q))
 .rw[ho.wanted hT I,aE (by simp)]
  exact hK _ _ (put_defers ..) ⟨ν,G,I.put Hv hd fr a rfl⟩
abbrev uK(v:Value):PanicEntry:={ v:=v,recovered:=false }
def Bc(P:Program)(o:Oper)(σ:St)(fr:Nat)(v:Value)(W:Wr):Prop:=
 ∀(E:Env)(σ₁:St)(a:Act)(w:World),(∀t d,σ.T t=some d->σ₁.T t=some d)->(∀k o,σ.H k=some o->σ₁.H k=some o)->100<=fr->(∀k,fr<=k->k<fr+8->σ₁.nm k=false)->
  R E σ₁ a.tmps w->o.wp P a w (λ_ _=>False) (λe a' w'=>e = .panic [uK v]/\a'.defers=a.defers/\R E (σ₁.aP none .any W fr) a'.tmps w')
theorem aGJ{P:Program}{o:Oper}{a:Act}{K K':Act->World->Prop}{Q Q':Exit->Act->World->Prop}(h:∀a w,K a w->K' a w)(hq:∀e a w,Q e a w->Q' e a w){w:World}
    (hh:o.wp P a w K Q):o.wp P a w K' Q':=by
 have lo:LetsOut Q->LetsOut Q':=λ⟨a,w,h⟩=>⟨a,w,hq _ _ _ h⟩
 unfold Oper.wp at *
 generalize(execOp a.eval o).run P w=r at *
 cases r with
 |ok n w'=>
   cases n <;> simp only[Oper.upon]at hh ⊢ <;>
    first
     |exact h _ _ hh
     |exact Calls.mono hh (λe w'' he=>by cases e <;> first|exact h _ _ he|exact hq _ _ _ he|exact lo he)
     |exact Rows.mono hh (λ_ _ he=>h _ _ he)
 |halt x w'=>cases x <;> simp only[Oper.upon]at hh ⊢ <;> first|exact hq _ _ _ hh|exact hh
def pM(P:Program)(ops:Array Oper)(Post:Exit->St->Prop):List Oper->Nat->St->Prop
 |[],_,σ=>Post .normal σ
 |o::rest,fr,σ=>(∃d W,qI P ops o σ fr d W/\pM P ops Post rest (fr+8) (σ.aP o.dst d W fr)) \/
     (∃(ι:Type)(C:ι->Prop)(d:ι->D)(W:ι->Wr),o.guard=none/\E3 P o σ fr C d W/\∀i,C i->pM P ops Post rest (fr+8) (σ.aP o.dst (d i) (W i) fr)) \/
     ∃v W,tF ops o σ/\Bc P o σ fr v W/\Post (.panic [uK v]) (σ.aP none .any W fr)
abbrev mk(T:Nat->Option D)(H:Nat->Option aO)(N:Nat):St:=⟨T,H,λk=>decide (k<N)⟩
theorem R.bound{E:Env}{σ:St}{tm:Array Value}{w:World}{N:Nat}(h:R E σ tm w)(hf:∀k,N<=k->σ.nm k=false):R E (mk σ.T σ.H N) tm w:=by
 obtain⟨ν,G,I⟩:=h;have hn:∀k,σ.nm k=true->decide (k<N)=true/\ν k=ν k:=by
  intro k hk;rcases Bd k N with h|h
  .exact⟨aX h,rfl⟩
  .rw[hf k h]at hk
   cases hk
 exact⟨ν,G,I.kept,I.eJ,I.fJ,I.g0,I.sz,λt d h=>let⟨v,hv,hd⟩:=I.T t d h;⟨v,hv,hd.mono hn (λ_ _ _ h=>h)⟩,
  λk o h=>let⟨h1,h2⟩:=I.H k o h;⟨(hn k h1).1,h2.mono h1 hn (λ_ _ _ h=>h) (λ_ _=>⟨rfl,rfl⟩)⟩,I.cW⟩
def St.free(σ:St)(N:Nat):Prop:=100<=N/\∀k,N<=k->σ.nm k=false
theorem a4A{T:Nat->Option D}{H:Nat->Option aO}{N:Nat}(h:100<=N):(mk T H N).free N:=⟨h,λk hk=>by simp;exact hk⟩
theorem St.YY{σ:St}{N:Nat}(h:σ.free N)(dst:Option Tmp)(d:D)(W:Wr):(σ.aP dst d W N).free (N+8):=⟨by have:=h.1;omega,λk hk=>by
 simp[St.aP,h.2 k (by omega)];omega⟩
theorem pM.run{P:Program}{ops:Array Oper}{Post:Exit->St->Prop}{E:Env}{Q:Exit->Act->World->Prop}:∀(l:List Oper)(fr:Nat)(σ:St)(a:Act)(w:World),(∀o∈l,∀t,o.dst=some t->t<E.m)->σ.free fr->pM P ops Post l fr σ->R E σ a.tmps w->
    (∀e σ' a' w',Post e σ'->σ'.free (fr+8*l.length)->a'.defers=a.defers->R E σ' a'.tmps w'->Q e a' w')->wpList P ops Q l a w
 |[],fr,σ,a,w,_,hf,h,hR,hQ=>hQ .normal σ a w h hf rfl hR
 |o::rest,fr,σ,a,w,hd,hf,h,hR,hQ=>by
   unfold wpList;rcases h with⟨d,W,hs,hr⟩|⟨ι,C,d,W,hg,hs,hr⟩|⟨v,W,hg,hs,hp⟩
   case inr.inl=>
    rw[aI (by simp[Region.wanted,hg])];refine .inl (Oper.wp_mono (λa' w' h=>?_) (hs E σ a w (λ_ _ h=>h) (λ_ _ h=>h) hf.1 (λk hk _=>hf.2 k hk) (hd o (by simp)) hR Q));obtain⟨he,i,hi,hR'⟩:=h;exact pM.run rest (fr+8) _ a' w' (λo ho=>hd o (by simp[ho])) (St.YY hf _ _ _) (hr i hi) hR' (λe σ' a'' w'' hp hf' he' hR''=>hQ e σ' a'' w'' hp (by rw[eD,show fr+8*(rest.length+1)=fr+8+8*rest.length by omega];exact hf') (he'.trans he) hR'')
   case inr.inr=>
    obtain⟨ν,G,I⟩:=id hR;rw[hg.wanted (λ_ _ h=>h) I,aI rfl];refine .inl (aGJ (λ_ _ h=>h.elim) (λe a' w' h=>?_) (hs E σ a w (λ_ _ h=>h) (λ_ _ h=>h) hf.1 (λk hk _=>hf.2 k hk) hR));obtain⟨rfl,he,hR'⟩:=h;have hf':=St.YY hf none .any W;exact hQ _ _ a' w' hp ⟨by have:=hf.1;omega,λk hk=>hf'.2 k (by rw[eD]at hk;omega)⟩ he hR'
   exact hs.run (λ_ _ h=>h) (λ_ _ h=>h) hf.1 (λk hk _=>hf.2 k hk) (hd o (by simp)) hR _ _ (λa' w' he hR'=>
    pM.run rest (fr+8) _ a' w' (λo ho=>hd o (by simp[ho])) (St.YY hf _ _ _) hr hR' (λe σ' a'' w'' hp hf' he' hR''=>hQ e σ' a'' w'' hp (by rw[eD,show fr+8*(rest.length+1)=fr+8+8*rest.length by omega];exact hf') (he'.trans he) hR''))
theorem R.Ix{E:Env}{σ:St}{tm:Array Value}{w:World}(h:R E σ tm w)(ds:List Deferred):R { E with ds:=ds } σ tm w:=by
 obtain⟨ν,G,I⟩:=h;exact⟨ν,G,⟨⟨I.kept.os,I.kept.tape,I.kept.output,I.kept.size,I.kept.block⟩,I.eJ,I.fJ,I.g0,I.sz,I.T,I.H,I.cW⟩⟩
def iV(P:Program)(E:Env)(c:Code)(Q:Exit->St->Prop)(σ:St):Prop:=
 ∀a w,a.defers=E.ds->R E σ a.tmps w->c.wp P (λe a' w'=>a'.defers=E.ds/\∃σ',Q e σ'/\R E σ' a'.tmps w') a w
def dS(E:Env)(σ σ':St):Prop:=∀tm w,R E σ tm w->R E σ' tm w
def a8V(K:St->Prop)(Q:Exit->St->Prop):Exit->St->Prop
 |.normal,σ=>K σ
 |e,σ=>Q e σ
def aAC(id:Nat)(Q:Exit->St->Prop):Exit->St->Prop
 |.exit id',σ=>if id'=id then Q .normal σ else Q (.exit id') σ
 |e,σ=>Q e σ
def a9C{ι:Type}(I:ι->St)(C:ι->Prop)(μ:ι->Nat)(E:Env)(i:ι)(Q:Exit->St->Prop):Exit->St->Prop
 |.normal,σ=>∃j,C j/\μ j<μ i/\dS E σ (I j)
 |e,σ=>Q e σ
section
variable{P:Program}{E:Env}{Q:Exit->St->Prop}{σ:St}
theorem ZN{c:Code}{σ':St}(h:dS E σ σ')(k:iV P E c Q σ'):iV P E c Q σ:=λa w hd hR=>k a w hd (h _ _ hR)
theorem uZ{c:Code}{Q':Exit->St->Prop}(h:iV P E c Q' σ)(hq:∀e σ',Q' e σ'->Q e σ'):iV P E c Q σ:=λa w hd hR=>
 wp_mono (h a w hd hR) λe _ _ ⟨h1,σ',h2,h3⟩=>⟨h1,σ',hq e σ' h2,h3⟩
theorem a7y{x y:Code}(h:iV P E x (a8V (iV P E y Q) Q) σ):iV P E (.seq x y) Q σ:=λa w hd hR=>
 wp_seq (wp_mono (h a w hd hR) λe a' w' ⟨h1,σ',h2,h3⟩=>by
  cases e with
  |normal=>exact h2 a' w' h1 h3
  |_=>exact⟨h1,σ',h2,h3⟩)
theorem a7x(h:Q .normal σ):iV P E .skip Q σ:=λ_ _ hd hR=>wp_skip ⟨hd,σ,h,hR⟩
theorem a8C{l:Nat}(h:Q .normal σ):iV P E (.label l) Q σ:=λ_ _ hd hR=>wp_label ⟨hd,σ,h,hR⟩
theorem a8D{id:Nat}(h:Q (.exit id) σ):iV P E (.exit id) Q σ:=λ_ _ hd hR=>wp_exit ⟨hd,σ,h,hR⟩
theorem a8A(h:Q .ret σ):iV P E .ret Q σ:=λ_ _ hd hR=>wp_ret ⟨hd,σ,h,hR⟩
theorem a8G{c:Operand}{x y:Code}{b:Bool}(hc:σ.ev c=some (.t (.v (.bool b))))(ht:b=true->iV P E x Q σ)(hf:b=false->iV P E y Q σ):iV P E (.cond c x y) Q σ:=λa w hd hR=>by
 have he:a.eval c = .bool b:=by
  obtain⟨ν,G,I⟩:=hR;exact bY (I.ev hc)
 exact wp_cond_split he (λhb=>ht hb a w hd hR) (λhb=>hf hb a w hd hR)
theorem a8H{id:Nat}{c:Code}(h:iV P E c (aAC id Q) σ):iV P E (.block id c) Q σ:=λa w hd hR=>
 wp_block (wp_mono (h a w hd hR) λe a' w' ⟨h1,σ',h2,h3⟩=>by
  cases e with
  |exit id'=>
    simp only[aAC]at h2;simp only[Exit.inBlock];split
    .rename_i hi;rw[aI hi]at h2;exact⟨h1,σ',h2,h3⟩
    .rename_i hi;rw[aE hi]at h2;exact⟨h1,σ',h2,h3⟩
  |_=>exact⟨h1,σ',h2,h3⟩)
def a8t(Q:Exit->St->Prop):Exit->St->Prop
 |.goto _,_=>False
 |e,s=>Q e s
theorem a7z{c:Code}(h:iV P E c (a8t Q) σ):iV P E (.scope c) Q σ:=λa w hd hR=>
 wp_scope_straight (wp_mono (h a w hd hR) λe a' w' ⟨h1,σ',h2,h3⟩=>by
  cases e with
  |goto l=>exact h2.elim
  |_=>exact⟨h1,σ',h2,h3⟩)
theorem aJg{ι:Type}{c:Code}(I:ι->St)(C:ι->Prop)(μ:ι->Nat)(i0:ι)(h0:dS E σ (I i0))(hC:C i0)(round:∀i,C i->iV P E c (a9C I C μ E i Q) (I i)):iV P E (.loop c) Q σ:=λa w hd hR b k cs=>by
 have key:∀n i,μ i=n->C i->∀a w,a.defers=E.ds->R E (I i) a.tmps w->∃e a' w',(a'.defers=E.ds/\∃σ',Q e σ'/\R E σ' a'.tmps w')/\Arrives P (lone (b.at a (.code c :: .inLoop c::k)) cs w) b k cs e a' w':=by
  intro n
  induction n using vB with
  |_ n ih=>
    intro i hn hi a w hd hR;obtain⟨e,a₁,w₁,⟨h1,σ',h2,h3⟩,harr⟩:=round i hi a w hd hR b (.inLoop c::k) cs;cases e with
    |normal=>
      obtain⟨j,hj,hlt,hE⟩:=h2;obtain⟨e₂,a₂,w₂,hq₂,harr₂⟩:=ih (μ j) (hn ▸ hlt) j rfl hj a₁ w₁ h1 (hE _ _ h3);exact⟨e₂,a₂,w₂,hq₂,.of_steps (Steps.trans harr (.one step_inLoop)) harr₂⟩
    |exit id=>exact⟨_,a₁,w₁,⟨h1,σ',h2,h3⟩,.pass (x:=.inLoop c) rfl (λ_ _=>.inl (by simp)) harr⟩
    |goto l=>exact⟨_,a₁,w₁,⟨h1,σ',h2,h3⟩,.pass (x:=.inLoop c) rfl (λ_ _=>.inl (by simp)) harr⟩
    |ret=>exact⟨_,a₁,w₁,⟨h1,σ',h2,h3⟩,.pass (x:=.inLoop c) rfl (λ_ _=>.inl (by simp)) harr⟩
    |panic ch=>exact⟨_,a₁,w₁,⟨h1,σ',h2,h3⟩,.pass (x:=.inLoop c) rfl (λ_ _=>.inl (by simp)) harr⟩
    |outgrown=>exact⟨_,a₁,w₁,⟨h1,σ',h2,h3⟩,.pass (x:=.inLoop c) rfl (λ_ _=>.inl (by simp)) harr⟩
 obtain⟨e,a',w',hq,harr⟩:=key _ i0 rfl hC a w hd (h0 _ _ hR);exact⟨e,a',w',hq,.of_steps (.one step_loop) harr⟩
theorem a8B{id:Nat}{l:List Oper}{T:Nat->Option D}{H:Nat->Option aO}{N M:Nat}(N':Nat)(hE:E.m=M)(hN:100<=N)(hN':N+8*l.length=N')(hm:(l.all λo=>match o.dst with|none=>true|some t=>decide (t<M))=true)
    (h:pM P l.toArray (λe σ'=>Q e (mk σ'.T σ'.H N')) l N (mk T H N)):iV P E (.region id l.toArray false) Q (mk T H N):=λa w hd hR=>
 wp_region_lit (pM.run l N (mk T H N) a w (λo ho t ht=>by have:=fG.1 hm o ho;rw[ht]at this;rw[hE];exact bK this) (a4A hN) h hR
  (λ_ σ' a' w' hp hf he hR'=>⟨he.trans hd,_,hp,hR'.bound (by rw[<-hN'];exact hf.2)⟩))
end
end Go.Ab
/- The abstract machine: states told in other names, contracts of functions, calls. -/
namespace Go.Ab
open Go.RowKit
def cJ(H:Nat->Option aO)(d d':D):Prop:=∀(E:Env)(s:St)(ν:Nat->Value)(G:bV)(w:World)(tm:Array Value),(∀k o,H k=some o->s.H k=some o)->Inv E s ν G w tm->∀v,DR ν s.nm w G v d->DR ν s.nm w G v d'
theorem cJ.refl{H:Nat->Option aO}{d:D}:cJ H d d:=λ_ _ _ _ _ _ _ _ _ h=>h
theorem cJ.trans{H:Nat->Option aO}{a b c:D}(h:cJ H a b)(k:cJ H b c):cJ H a c:=λE s ν G w tm hH I v hv=>k E s ν G w tm hH I v (h E s ν G w tm hH I v hv)
theorem cJ.mono{H H':Nat->Option aO}{a b:D}(hH:∀k o,H k=some o->H' k=some o)(h:cJ H a b):cJ H' a b:=λE s ν G w tm h' I v hv=>h E s ν G w tm (λk o hk=>h' k o (hH k o hk)) I v hv
inductive eG (fl:Bool) (H:Nat->Option aO) (nm':Nat->Bool) (ρ:Nat->Nat):D->D->Prop
 |t {x y:Tree} (h:x=y):eG fl H nm' ρ (.t x) (.t y)
 |nil:eG fl H nm' ρ (.t (.v (.slice none 0 0))) (.t (.sl 0 []))
 |own {k k':Nat} (h:nm' k'=true) (hk:k=ρ k'):eG fl H nm' ρ (.own k) (.own k')
 |ref {k k' off:Nat} (h:nm' k'=true) (hk:k=ρ k'):eG fl H nm' ρ (.ref k off) (.ref k' off)
 |rd {k n:Nat} {e:TypeId} {s:Nat} {ts ts':List Tree} {st:Bool} (h:H k=some (.row e s n ts st)) (hst:(st||fl)=true) (ht:ts=ts') {n':Nat} (hn:n=n'):eG fl H nm' ρ (.own k) (.t (.sl n' ts'))
 |ptr {ts:List Tree} {off:Nat}:eG fl H nm' ρ (.ptr ts off) (.ptr ts off)
 |agg {ds ds':List D} (hl:ds.length=ds'.length) (h:∀(i:Nat)(d d':D),ds[i]?=some d->ds'[i]?=some d'->eG fl H nm' ρ d d'):eG fl H nm' ρ (.agg ds) (.agg ds')
 |aS {ds ds':List D} (hl:ds.length=ds'.length) (h:∀(i:Nat)(d d':D),ds[i]?=some d->ds'[i]?=some d'->eG fl H nm' ρ d d'):eG fl H nm' ρ (.aS ds) (.aS ds')
 |fn {f:FuncId} {ds ds':List D} (hl:ds.length=ds'.length) (h:∀(i:Nat)(d d':D),ds[i]?=some d->ds'[i]?=some d'->eG fl H nm' ρ d d'):eG fl H nm' ρ (.fn f ds) (.fn f ds')
 |any {d:D}:eG fl H nm' ρ d .any
 |via {k k':Nat} {r:Value->Value->Prop} (h:nm' k'=true) (hk:k=ρ k'):eG fl H nm' ρ (.via k r) (.via k' r)
inductive vI (fl:Bool) (H:Nat->Option aO) (nm':Nat->Bool) (ρ:Nat->Nat):List D->List D->Prop
 |nil:vI fl H nm' ρ [] []
 |cons {d d':D} {l l':List D} (h:eG fl H nm' ρ d d') (r:vI fl H nm' ρ l l'):vI fl H nm' ρ (d::l) (d'::l')
theorem vI.get{fl:Bool}{H:Nat->Option aO}{nm':Nat->Bool}{ρ:Nat->Nat}{l l':List D}(h:vI fl H nm' ρ l l'):l.length=l'.length/\∀(i:Nat)(d d':D),l[i]?=some d->l'[i]?=some d'->eG fl H nm' ρ d d':=by
 induction h with
 |nil=>exact⟨rfl,λi d d' h=>by simp at h⟩
 |cons h r ih=>
   refine⟨by simp[ih.1],λi d d' hd hd'=>?_⟩;cases i with
   |zero=>simp at hd hd';subst hd hd';exact h
   |succ i=>exact ih.2 i d d' (by simpa using hd) (by simpa using hd')
theorem eG.a8R{fl:Bool}{H:Nat->Option aO}{nm':Nat->Bool}{ρ:Nat->Nat}{l l':List D}(h:vI fl H nm' ρ l l'):eG fl H nm' ρ (.agg l) (.agg l'):=.agg h.get.1 h.get.2
theorem eG.D3{fl:Bool}{H:Nat->Option aO}{nm':Nat->Bool}{ρ:Nat->Nat}{l l':List D}(h:vI fl H nm' ρ l l'):eG fl H nm' ρ (.aS l) (.aS l'):=.aS h.get.1 h.get.2
theorem eG.fn'{fl:Bool}{H:Nat->Option aO}{nm':Nat->Bool}{ρ:Nat->Nat}{f:FuncId}{l l':List D}(h:vI fl H nm' ρ l l'):eG fl H nm' ρ (.fn f l) (.fn f l'):=.fn h.get.1 h.get.2
theorem eG.rel{fl:Bool}{H:Nat->Option aO}{nm nm':Nat->Bool}{ρ:Nat->Nat}{ν ν':Nat->Value}{w w':World}{G G':bV}(hx:∀b i u,Cell w G b i u->Cell w' G' b i u)
    (hrow:∀k e s n ts st,H k=some (.row e s n ts st)->(st||fl)=true->TR w' G' (ν k) (.sl n ts)) (hν:∀k',nm' k'=true->nm (ρ k')=true->ν' k'=ν (ρ k')):
    ∀{d d':D},eG fl H nm' ρ d d'->∀{v:Value},DR ν nm w G v d->DR ν' nm' w' G' v d':=by
 intro d d' hd
 induction hd with
 |t h=>intro v hv;subst h;cases hv with|t hv=>exact .t (hv.mono hx)
 |nil=>intro v hv;have:=bY hv;subst this;exact .t (.nil λ_=>rfl)
 |own h hk=>intro v hv;subst hk;cases hv with|own h1 h2=>rw[<-hν _ h h1]at h2 ⊢;exact .own h h2
 |ref h hk=>intro v hv;subst hk;cases hv with|ref h1 h2=>exact .ref h (by rw[hν _ h h1];exact h2)
 |via h hk=>intro v hv;subst hk;cases hv with|via h1 h2 h3=>exact .via h (by rw[hν _ h h1];exact h2) h3
 |rd h hst ht hn=>intro v hv;subst ht hn;cases hv with|own h1 h2=>exact .t (hrow _ _ _ _ _ _ h hst)
 |ptr=>intro v hv;exact(hv.mono (ν':=ν) (nm':=nm) (λ_ h=>⟨h,rfl⟩) hx) |> λh=>by
           cases h with|ptr hl hc h=>exact .ptr hl hc h
 | @agg ds ds' hl h ih=>
   intro v hv;cases hv with
   |agg hl' h' h1=>
     refine .agg (hl'.trans hl) (λi u d hu hd=>?_) h1;obtain⟨d0,hd0⟩:∃d0,ds[i]?=some d0:=by
      have:i<ds.length:=by rw[<-hl'];exact(mP.1 hu).1
      exact⟨_,dC this⟩
     exact ih i d0 d hd0 hd (h' i u d0 hu hd0)
 | @aS ds ds' hl h ih=>
   intro v hv;cases hv with
   |aS hl' h'=>
     refine .aS (hl'.trans hl) (λi u d hu hd=>?_);obtain⟨d0,hd0⟩:∃d0,ds[i]?=some d0:=by
      have:i<ds.length:=by rw[<-hl'];exact(mP.1 hu).1
      exact⟨_,dC this⟩
     exact ih i d0 d hd0 hd (h' i u d0 hu hd0)
 | @fn f ds ds' hl h ih=>
   intro v hv;cases hv with
   |fn hl' h'=>
     refine .fn (hl'.trans hl) (λi u d hu hd=>?_);obtain⟨d0,hd0⟩:∃d0,ds[i]?=some d0:=by
      have:i<ds.length:=by rw[<-hl'];exact(mP.1 hu).1
      exact⟨_,dC this⟩
     exact ih i d0 d hd0 hd (h' i u d0 hu hd0)
 |any=>intro v _;exact .any
theorem BZ{w:World}{g i:Nat}{cur:Array Value}{e:TypeId}{fr:Nat×Nat}(h:w.heap[g]?=some (.cells cur e fr)):w.cell? ⟨g,i,none⟩=cur[i]?:=by simp[World.cell?,h]
theorem M9{w:World}{G:bV}{e:TypeId}{s n:Nat}{v:Value}{xs:List Value}{ts:List Tree}(h:w.ownsRow 0 e s v n xs)(hl:xs.length=ts.length)(ht:∀(i:Nat)(u:Value)(t:Tree),xs[i]?=some u->ts[i]?=some t->TR w G u t)
    (hG:∀g,aU v=some g->n*s<=G g):TR w G v (.sl n ts):=by
 have hlen:=h.1;rcases h.2 with⟨rfl,rfl⟩|⟨g,cap,cur,rfl,h1,h2,h3,h4,h5,h6⟩
 .have:ts=[]:=AH (by rw[<-hl,hlen];simp)
  subst this;exact .nil λ_=>rfl
 .refine .sl g 0 n cap xs ts hl (λi u hu=>?_) h3 ht
  have hi:i<n*s:=by rw[<-hlen];exact(bZ.1 hu).1
  refine⟨?_,tD (by omega) (hG g rfl)⟩;rw[eC,BZ h2];rw[<-h6,fU,aI hi]at hu;simpa using hu
theorem eT.M9{E:Env}{ν:Nat->Value}{nm:Nat->Bool}{w:World}{G:bV}{k:Nat}{e:TypeId}{s n:Nat}{ts:List Tree}(h:eT E ν nm w G k (.row e s n ts true)):TR w G (ν k) (.sl n ts):=by
 obtain⟨xs,h1,h2,h3,h4⟩:=h;exact Ab.M9 h1 h2 h3 (λg hg=>by rw[(h4 g hg).2];simp)
inductive OR (fl:Bool) (H:Nat->Option aO) (nm':Nat->Bool) (ρ:Nat->Nat):NC->NC->Prop
 |d {d d':D} (h:eG fl H nm' ρ d d'):OR fl H nm' ρ (.fK d) (.fK d')
 |cX {q:Nat} {ts:List Tree}:OR fl H nm' ρ (.cX q ts) (.cX q ts)
inductive jU (fl:Bool) (H:Nat->Option aO) (nm':Nat->Bool) (ρ:Nat->Nat):aO->aO->Prop
 |row {e:TypeId} {s n:Nat} {ts ts':List Tree} {st:Bool} (h:ts=ts') {n':Nat} (hn:n=n'):jU fl H nm' ρ (.row e s n ts st) (.row e s n' ts' st)
 |box {e:TypeId} {ds ds':List D} (hl:ds.length=ds'.length) (h:∀(i:Nat)(d d':D),ds[i]?=some d->ds'[i]?=some d'->eG fl H nm' ρ d d'):jU fl H nm' ρ (.box e ds) (.box e ds')
 |nest {e e':TypeId} {s:Nat} {ls ls':List (Nat×List Tree)} (h:ls=ls'):jU fl H nm' ρ (.nest e e' s ls) (.nest e e' s ls')
 |it {s:ByteArray} {pos:Nat}:jU fl H nm' ρ (.it s pos) (.it s pos)
 |mp {l l':List (Value×D)} (hl:l.length=l'.length) (h:∀(i:Nat)(p p':Value×D),l[i]?=some p->l'[i]?=some p'->p.1=p'.1/\eG fl H nm' ρ p.2 p'.2):jU fl H nm' ρ (.mp l) (.mp l')
 |bC {e e':TypeId} {m s n:Nat} {cs cs':List NC} (hl:cs.length=cs'.length) (h:∀(i:Nat)(c c':NC),cs[i]?=some c->cs'[i]?=some c'->OR fl H nm' ρ c c'):jU fl H nm' ρ (.bC e e' m s n cs) (.bC e e' m s n cs')
theorem jU.ft{fl:Bool}{H:Nat->Option aO}{nm':Nat->Bool}{ρ:Nat->Nat}{o o':aO}(h:jU fl H nm' ρ o o'){w:World}{v:Value}{g:Nat}:bO w v o' g ↔ bO w v o g:=by
 cases h with
 |row=>exact oD
 |box=>exact oD
 |nest h=>subst h;exact oD
 |mp=>exact oD
 |it=>exact oD
 | @bC e e' m s n cs cs' hl h=>
   constructor
   .rintro(h1|⟨g0,i,x,q,ts,h1,h2,h3,h4⟩)
    .exact .inl h1
    .have hi:i<cs.length:=by rw[hl];exact(bZ.1 h2).1
     have hc:cs[i]?=some cs[i]:=dC hi;have:=h i _ _ hc h2;generalize cs[i]=c at hc this;cases this with
     |cX=>exact .inr ⟨g0,i,x,q,ts,h1,hc,h3,h4⟩
   .rintro(h1|⟨g0,i,x,q,ts,h1,h2,h3,h4⟩)
    .exact .inl h1
    .have hi:i<cs'.length:=by rw[<-hl];exact(bZ.1 h2).1
     have hc:cs'[i]?=some cs'[i]:=dC hi;have:=h i _ _ h2 hc;generalize cs'[i]=c at hc this;cases this with
     |cX=>exact .inr ⟨g0,i,x,q,ts,h1,hc,h3,h4⟩
theorem jU.a79{fl:Bool}{H:Nat->Option aO}{nm':Nat->Bool}{ρ:Nat->Nat}{e:TypeId}{l l':List D}(h:vI fl H nm' ρ l l'):jU fl H nm' ρ (.box e l) (.box e l'):=.box h.get.1 h.get.2
def cG(rn:List (Nat×Nat))(k:Nat):Nat:=match look k rn with|some x=>x|none=>k
abbrev lit(T:List (Nat×D))(H:List (Nat×aO))(N:Nat):St:=mk (λt=>look t T) (λk=>look k H) N
inductive Ja (fl:Bool) (σ:St) (nm':Nat->Bool) (ρ:Nat->Nat):List (Nat×D)->Prop
 |nil:Ja fl σ nm' ρ []
 |cons {t:Nat} {d d':D} {l:List (Nat×D)} (h:σ.T t=some d) (hd:eG fl σ.H nm' ρ d d') (r:Ja fl σ nm' ρ l):Ja fl σ nm' ρ ((t,d')::l)
inductive Bo (fl:Bool) (σ:St) (nm':Nat->Bool) (ρ:Nat->Nat):List (Nat×aO)->Prop
 |nil:Bo fl σ nm' ρ []
 |cons {k:Nat} {o o':aO} {l:List (Nat×aO)} (h:σ.H (ρ k)=some o) (ho:jU fl σ.H nm' ρ o o') (r:Bo fl σ nm' ρ l):Bo fl σ nm' ρ ((k,o')::l)
theorem Ja.get{fl:Bool}{σ:St}{nm':Nat->Bool}{ρ:Nat->Nat}{l:List (Nat×D)}(h:Ja fl σ nm' ρ l){t:Nat}{d':D}(hl:look t l=some d'):∃d,σ.T t=some d/\eG fl σ.H nm' ρ d d':=by
 induction h with
 |nil=>cases hl
 |cons h hd r ih=>
   unfold look at hl;split at hl
   .rename_i e;cases hl;subst e;exact⟨_,h,hd⟩
   .exact ih hl
theorem Bo.get{fl:Bool}{σ:St}{nm':Nat->Bool}{ρ:Nat->Nat}{l:List (Nat×aO)}(h:Bo fl σ nm' ρ l){k:Nat}{o':aO}(hl:look k l=some o'):∃o,σ.H (ρ k)=some o/\jU fl σ.H nm' ρ o o':=by
 induction h with
 |nil=>cases hl
 |cons h hd r ih=>
   unfold look at hl;split at hl
   .rename_i e;cases hl;subst e;exact⟨_,h,hd⟩
   .exact ih hl
theorem eT.view{fl:Bool}{H:Nat->Option aO}{E E':Env}{ν ν':Nat->Value}{nm nm':Nat->Bool}{ρ:Nat->Nat}{w:World}{G:bV}{k k':Nat}{o o':aO}(h:eT E ν nm w G k o)(ho:jU fl H nm' ρ o o')
    (hrow:∀k e s n ts st,H k=some (.row e s n ts st)->(st||fl)=true->TR w G (ν k) (.sl n ts)) (hν:∀k',nm' k'=true->nm (ρ k')=true->ν' k'=ν (ρ k')) (hk:ν' k'=ν k) (hE:∀g,bO w (ν k) o g->E.may g->E'.may g):eT E' ν' nm' w G k' o':=by
 cases ho with
 |it=>
   obtain⟨g,h1,h2,h3,h4⟩:=h;exact⟨g,by rw[hk];exact h1,hE g (eK (by rw[h1];rfl)) h2,h3,h4⟩
 | @mp l l' hl hp=>
   obtain⟨g,es,clock,h1,h2,h3,h4,hs,h5,h6⟩:=h;refine⟨g,es,clock,by rw[hk];exact h1,hE g (eK (by rw[h1];rfl)) h2,h3,h4,hs,h5.trans hl,λi en p' he hp'=>?_⟩;have hi:i<l.length:=by rw[hl];exact(bZ.1 hp').1
   obtain⟨e1,e2⟩:=hp i l[i] p' (dC hi) hp';obtain⟨a1,a2⟩:=h6 i en l[i] he (dC hi);exact⟨a1.trans e1,e2.rel (λ_ _ _ h=>h) hrow hν a2⟩
 | @bC e e' m s n cs cs' hl hn=>
   obtain⟨xs,h1,hxl,hd,h2,h3,h4,h5⟩:=id h;have inv:∀(i:Nat)(q:Nat)(ts:List Tree),cs'[i]?=some (.cX q ts)->cs[i]?=some (.cX q ts):=λi q ts hc=>by
    have hi:i<cs.length:=by rw[hl];exact(bZ.1 hc).1
    have hc0:cs[i]?=some cs[i]:=dC hi;have:=hn i _ _ hc0 hc;generalize cs[i]=c at hc0 this;cases this with
    |cX=>exact hc0
   refine⟨xs,by rw[hk];exact h1,hxl.trans hl,λi x d' hx hc=>?_,λi x q ts hx hc=>?_,λi j x y q q' ts ts' hij hx hy hc hc'=>h3 i j x y q q' ts ts' hij hx hy (inv i q ts hc) (inv j q' ts' hc'),λi x q ts hx hc g hg=>by rw[hk];exact h4 i x q ts hx (inv i q ts hc) g hg,λg hg=>by rw[hk]at hg;exact⟨hE g (eK hg) (h5 g hg).1,(h5 g hg).2⟩⟩
   .have hi:i<cs.length:=by rw[hl];exact(bZ.1 hc).1
    have hc0:cs[i]?=some cs[i]:=dC hi;have:=hn i _ _ hc0 hc;generalize cs[i]=c at hc0 this;cases this with
    |d hdl=>exact⟨hdl.rel (λ_ _ _ h=>h) hrow hν (hd i x _ hx hc0).1,(hd i x _ hx hc0).2⟩
   .have hc0:=inv i q ts hc
    obtain⟨ys,y1,y2,y3,y4⟩:=h2 i x q ts hx hc0;refine⟨ys,y1,y2,y3,λg hg=>⟨hE g ?_ (y4 g hg).1,(y4 g hg).2⟩⟩;have hi:=(bZ.1 hx).1;rcases h1.2 with⟨_,h0⟩|⟨g0,cap,cur,hv,_⟩
    .rw[h1.1,h0]at hi;omega
    .exact .inr ⟨g0,i,x,q,ts,by rw[hv];rfl,hc0,by rw[mY h1 (by rw[hv];rfl) hi];exact hx,hg⟩
 |nest h'=>
   subst h';obtain⟨xs,h1,h2,h3,h4,h5⟩:=id h;refine⟨xs,by rw[hk];exact h1,λi x p hx hp=>?_,h3,λi x hx g hg=>by rw[hk];exact h4 i x hx g hg,λg hg=>by rw[hk]at hg;exact⟨hE g (eK hg) (h5 g hg).1,(h5 g hg).2⟩⟩;obtain⟨ys,y1,y2,y3,y4⟩:=h2 i x p hx hp;refine⟨ys,y1,y2,y3,λg hg=>⟨hE g ?_ (y4 g hg).1,(y4 g hg).2⟩⟩;have hi:=(bZ.1 hp).1;rcases h1.2 with⟨_,h0⟩|⟨g0,cap,cur,hv,_⟩
   .omega
   .exact .inr ⟨g0,i,x,by rw[hv];rfl,hi,by rw[wA h1 (by rw[hv];rfl) hi];exact hx,hg⟩
 |row h' hn=>
   subst h' hn;obtain⟨xs,h1,h2,h3,h4⟩:=h;exact⟨xs,by rw[hk];exact h1,h2,h3,λg hg=>by rw[hk]at hg;exact⟨hE g (eK hg) (h4 g hg).1,(h4 g hg).2⟩⟩
 |box hl hb=>
   obtain⟨g,cur,h1,h2,h3,h4,h5,h6⟩:=h;refine⟨g,cur,by rw[hk];exact h1,hE g (eK (by rw[h1];rfl)) h2,h3,h4,h5.trans hl,λi u d hu hd=>?_⟩;rename_i e ds ds';obtain⟨d0,hd0⟩:∃d0,ds[i]?=some d0:=by
    have:i<ds.length:=by rw[<-h5];exact(mP.1 hu).1
    exact⟨_,dC this⟩
   exact⟨(hb i d0 d hd0 hd).rel (λ_ _ _ h=>h) hrow hν (h6 i u d0 hu hd0).1,(h6 i u d0 hu hd0).2⟩
theorem Inv.rows{E:Env}{σ:St}{ν:Nat->Value}{G:bV}{w:World}{tm:Array Value}(I:Inv E σ ν G w tm):∀k e s n ts st,σ.H k=some (.row e s n ts st)->(st||false)=true->TR w G (ν k) (.sl n ts):=λk e s n ts st h hst=>by
 have:st=true:=by simpa using hst
 subst this;exact(I.H k _ h).2.M9
theorem Xm{α:Type}{k:Nat}{x:α}{l:List (Nat×α)}(h:look k l=some x):k∈l.map (·.1):=gU.2 ⟨_,oR h,rfl⟩
theorem aHo{ρ:Nat->Nat}:∀{l:List Nat},(l.map ρ).Nodup->∀a∈l,∀b∈l,ρ a=ρ b->a=b
 |[],_,_,h,_,_,_=>by cases h
 |x::l,h,a,ha,b,hb,he=>by
   rw[iH,List.nodup_cons]at h;rcases eZ.1 ha with e1|h1
   .rcases eZ.1 hb with e2|h2
    .rw[e1,e2]
    .exact absurd (gU.2 ⟨b,h2,by rw[<-he,e1]⟩) h.1
   .rcases eZ.1 hb with e2|h2
    .exact absurd (gU.2 ⟨a,h1,by rw[he,e2]⟩) h.1
    .exact aHo h.2 a h1 b h2 he
abbrev args(ds:List D)(H:List (Nat×aO)):St:=mk (λt=>ds[t]?) (λk=>look k H) 100
abbrev res(r:D)(H:List (Nat×aO)):St:=mk (λt=>if t=0 then some r else none) (λk=>look k H) 108
def jD(P:Program)(f:FuncId)(ds:List D)(H:List (Nat×aO))(r:D)(H':List (Nat×aO)):Prop:=
 ∀(E:Env)(w:World)(vs:Array Value),E.w0=w->E.m=vs.size->vs.size=ds.length->R E (args ds H) vs w->
  Calls P f vs w λe w'=>∃v,e = .returned v/\R { E with m:=1 } (res r H') #[v] w'
def aK6(P:Program)(f:FuncId)(ds:List D)(H:List (Nat×aO)){ι:Type}(C:ι->Prop)(r:ι->D)(H':ι->List (Nat×aO)):Prop:=
 ∀(E:Env)(w:World)(vs:Array Value),E.w0=w->E.m=vs.size->vs.size=ds.length->R E (args ds H) vs w->
  Calls P f vs w λe w'=>∃v,e = .returned v/\∃i,C i/\R { E with m:=1 } (res (r i) (H' i)) #[v] w'
theorem jD.n{P:Program}{f:FuncId}{ds:List D}{H:List (Nat×aO)}{r:D}{H':List (Nat×aO)}(h:jD P f ds H r H'):aK6 P f ds H (λ_:Unit=>True) (λ_=>r) (λ_=>H'):=λE w vs h1 h2 h3 h4=>(h E w vs h1 h2 h3 h4).mono λ_ _ ⟨v,e1,e2⟩=>⟨v,e1,(),trivial,e2⟩
def Zw(P:Program)(f:FuncId)(ds:List D)(H:List (Nat×aO))(v:Value)(H':List (Nat×aO)):Prop:=
 ∀(E:Env)(w:World)(vs:Array Value),E.w0=w->E.m=vs.size->vs.size=ds.length->R E (args ds H) vs w->
  Calls P f vs w λe w'=>e = .panicked [uK v]/\R { E with m:=1 } (res .any H') #[undef] w'
def a8W(P:Program)(fn:Func)(E:Env)(r:D)(H':List (Nat×aO)):Exit->St->Prop
 |.normal,σ|.ret,σ=>∀tm w,R E σ tm w->∃v,(results fn tm).run P w = .ok v w/\R { E with m:=1 } (res r H') #[v] w
 |_,_=>False
theorem R.entry{E:Env}{ds:List D}{H:List (Nat×aO)}{vs:Array Value}{w:World}(h:R E (args ds H) vs w)(n:Nat):R { E with m:=vs.size+n } (args ds H) (vs++AL n undef) w:=by
 obtain⟨ν,G,I⟩:=h;refine⟨ν,G,⟨I.kept.os,I.kept.tape,I.kept.output,I.kept.size,I.kept.block⟩,I.eJ,I.fJ,I.g0,by simp,λt d ht=>?_,I.H,I.cW⟩;obtain⟨v,hv,hd⟩:=I.T t d ht;exact⟨v,by rw[Array.getElem?_append_left (mP.1 hv).1];exact hv,hd⟩
theorem a1C{P:Program}{f:FuncId}{fn:Func}{c:Code}{ds:List D}{H:List (Nat×aO)}{r:D}{H':List (Nat×aO)}(hf:P.funcs[f]?=some fn)(hb:fn.body=some c)(hm:ds.length<=fn.ntmps)
    (h:∀E:Env,E.m=fn.ntmps->iV P E c (a8W P fn E r H') (args ds H)):jD P f ds H r H':=by
 intro E w vs _ _ _ hR;have hR':=hR.entry (fn.ntmps-vs.size);rw[show vs.size+(fn.ntmps-vs.size)=fn.ntmps by omega]at hR';refine calls_of_wp hf hb (wp_mono (h { E with m:=fn.ntmps,ds:=[] } rfl _ w rfl (hR'.Ix [])) ?_);rintro e a' w' ⟨hd,σ',hq,hRR⟩;cases e with
 |normal=>obtain⟨v,h1,h2⟩:=hq _ _ hRR;exact⟨hd,v,h1,v,rfl,h2.Ix E.ds⟩
 |ret=>obtain⟨v,h1,h2⟩:=hq _ _ hRR;exact⟨hd,v,h1,v,rfl,h2.Ix E.ds⟩
 |exit id=>exact hq.elim
 |goto l=>exact hq.elim
 |panic ch=>exact hq.elim
 |outgrown=>exact hq.elim
def a81(E:Env)(v:Value)(H':List (Nat×aO)):Exit->St->Prop
 |.panic ch,σ=>ch=[uK v]/\∀tm w,R E σ tm w->R { E with m:=1 } (res .any H') #[undef] w
 |_,_=>False
theorem a1B{P:Program}{f:FuncId}{fn:Func}{c:Code}{ds:List D}{H:List (Nat×aO)}{v:Value}{H':List (Nat×aO)}(hf:P.funcs[f]?=some fn)(hb:fn.body=some c)(hm:ds.length<=fn.ntmps)
    (h:∀E:Env,E.m=fn.ntmps->iV P E c (a81 E v H') (args ds H)):Zw P f ds H v H':=by
 intro E w vs _ _ _ hR;have hR':=hR.entry (fn.ntmps-vs.size);rw[show vs.size+(fn.ntmps-vs.size)=fn.ntmps by omega]at hR';refine calls_of_wp hf hb (wp_mono (h { E with m:=fn.ntmps,ds:=[] } rfl _ w rfl (hR'.Ix [])) ?_);rintro e a' w' ⟨hd,σ',hq,hRR⟩;cases e with
 |normal=>exact hq.elim
 |ret=>exact hq.elim
 |exit id=>exact hq.elim
 |goto l=>exact hq.elim
 |panic ch=>exact⟨hd,by rw[hq.1],(hq.2 _ _ hRR).Ix E.ds⟩
 |outgrown=>exact hq.elim
end Go.Ab
/- The abstract machine: operations on numbers, truth values and parts of values. -/
namespace Go.Ab
open Go.RowKit
abbrev I(n:Int):D:=.t (.v (.int .i64 n))
abbrev B(b:Bool):D:=.t (.v (.bool b))
abbrev ti(n:Int):Tree:=.v (.int .i64 n)
section
variable{P:Program}{o:Oper}{σ:St}{fr:Nat}
theorem a2o{x:Operand}{d:D}(ho:o.op = .move x)(hx:σ.ev x=some d):aW P o σ fr d []:=
 dM λ_ _ _ _ _ _ _ _ hev=>⟨_,by simp[execOp,ho],hev x d hx⟩
theorem a33{x:Operand}{d:D}(ho:o.op = .assign x)(hx:σ.ev x=some d):aW P o σ fr d []:=
 dM λ_ _ _ _ _ _ _ _ hev=>⟨_,by simp[execOp,ho],hev x d hx⟩
theorem iY{op:BinOp}{xt yt:TypeId}{x y:Operand}{va vb vr:Value}(ho:o.op = .binOp op xt x y yt)(hx:σ.ev x=some (.t (.v va)))(hy:σ.ev y=some (.t (.v vb)))
    (hr:∀w:World,(do eqGuard op xt x y va vb;binOp op xt va vb:Sem Value).run P w = .ok vr w) (h1:vr.oneCell'=true):aW P o σ fr (.t (.v vr)) []:=
 dM λ_ _ _ _ w a _ _ hev=>by
  have h1':=bY (hev x _ hx);have h2':=bY (hev y _ hy);refine⟨vr,?_,.t (.v _ h1)⟩;have:=hr w;unfold execOp;rw[ho];simp only[h1',h2',Sem.run_bind,Sem.run_pure]at this ⊢;rw[this];rfl
section ints
variable{k:IntKind}{xt yt:TypeId}{x y:Operand}{m n:Int}
theorem aHe(ho:o.op = .binOp .add xt x y yt)(hx:σ.ev x=some (.t (.v (.int k m))))(hy:σ.ev y=some (.t (.v (.int k n)))):aW P o σ fr (.t (.v (.int k (k.wrap (m+n))))) []:=
 iY ho hx hy (λw=>by simp[eqGuard,binOp,Op.intArith]) rfl
theorem aHS(ho:o.op = .binOp .sub xt x y yt)(hx:σ.ev x=some (.t (.v (.int k m))))(hy:σ.ev y=some (.t (.v (.int k n)))):aW P o σ fr (.t (.v (.int k (k.wrap (m-n))))) []:=
 iY ho hx hy (λw=>by simp[eqGuard,binOp,Op.intArith]) rfl
theorem a2m(ho:o.op = .binOp .mul xt x y yt)(hx:σ.ev x=some (.t (.v (.int k m))))(hy:σ.ev y=some (.t (.v (.int k n)))):aW P o σ fr (.t (.v (.int k (k.wrap (m*n))))) []:=
 iY ho hx hy (λw=>by simp[eqGuard,binOp,Op.intArith]) rfl
theorem a2f(ho:o.op = .binOp .quo xt x y yt)(hx:σ.ev x=some (.t (.v (.int k m))))(hy:σ.ev y=some (.t (.v (.int k n))))(h0:n≠0):aW P o σ fr (.t (.v (.int k (k.wrap (m.tdiv n))))) []:=
 iY ho hx hy (λw=>by simp[eqGuard,binOp,Op.intDiv,h0]) rfl
theorem a2d(ho:o.op = .binOp .rem xt x y yt)(hx:σ.ev x=some (.t (.v (.int k m))))(hy:σ.ev y=some (.t (.v (.int k n))))(h0:n≠0):aW P o σ fr (.t (.v (.int k (m.tmod n)))) []:=
 iY ho hx hy (λw=>by simp[eqGuard,binOp,Op.intDiv,h0]) rfl
theorem aHY(ho:o.op = .binOp .lss xt x y yt)(hx:σ.ev x=some (.t (.v (.int k m))))(hy:σ.ev y=some (.t (.v (.int k n)))):aW P o σ fr (B (decide (m<n))) []:=
 iY ho hx hy (λw=>by simp[eqGuard,binOp,Op.intCmp]) rfl
theorem aH1(ho:o.op = .binOp .leq xt x y yt)(hx:σ.ev x=some (.t (.v (.int k m))))(hy:σ.ev y=some (.t (.v (.int k n)))):aW P o σ fr (B (decide (m<=n))) []:=
 iY ho hx hy (λw=>by simp[eqGuard,binOp,Op.intCmp]) rfl
theorem aH4(ho:o.op = .binOp .gtr xt x y yt)(hx:σ.ev x=some (.t (.v (.int k m))))(hy:σ.ev y=some (.t (.v (.int k n)))):aW P o σ fr (B (decide (n<m))) []:=
 iY ho hx hy (λw=>by simp[eqGuard,binOp,Op.intCmp]) rfl
theorem aH5(ho:o.op = .binOp .geq xt x y yt)(hx:σ.ev x=some (.t (.v (.int k m))))(hy:σ.ev y=some (.t (.v (.int k n)))):aW P o σ fr (B (decide (n<=m))) []:=
 iY ho hx hy (λw=>by simp[eqGuard,binOp,Op.intCmp]) rfl
theorem aH7(ho:o.op = .binOp .eql xt x y yt)(hx:σ.ev x=some (.t (.v (.int k m))))(hy:σ.ev y=some (.t (.v (.int k n)))):aW P o σ fr (B (decide (m=n))) []:=
 iY ho hx hy (λw=>by simp[eqGuard,binOp,Op.intCmp];rfl) rfl
theorem aHV(ho:o.op = .binOp .neq xt x y yt)(hx:σ.ev x=some (.t (.v (.int k m))))(hy:σ.ev y=some (.t (.v (.int k n)))):aW P o σ fr (B (decide (m≠n))) []:=
 iY ho hx hy (λw=>by simp[eqGuard,binOp,Op.intCmp,bne];rfl) rfl
theorem Mr{kd:IntKind}(ho:o.op = .convert xt yt x)(hs:(P.underlying xt).isSome=true)(hd:P.underlying yt=some (.int kd))(hx:σ.ev x=some (.t (.v (.int k m)))):aW P o σ fr (.t (.v (.int kd (kd.wrap m)))) []:=
 dM λ_ _ _ _ w a _ _ hev=>by
  have h1':=bY (hev x _ hx);obtain⟨d,hd'⟩:=E2.mp hs;refine⟨.int kd (kd.wrap m),?_,.t (.v _ rfl)⟩;unfold execOp;rw[ho];simp only[h1'];simp[convert,run_underlying hd',run_underlying hd,Conv.intToInt]
theorem a3Y(ho:o.op = .convert xt yt x)(hs:(P.underlying xt).isSome=true)(hd:P.underlying yt=some .string)(hx:σ.ev x=some (.t (.v (.int k m)))):aW P o σ fr (.t (.v (.string (Utf8.encode m)))) []:=
 dM λ_ _ _ _ w a _ _ hev=>by
  have h1':=bY (hev x _ hx);refine⟨.string (Utf8.encode m),?_,.t (.v _ rfl)⟩;unfold execOp;rw[ho];simp only[h1'];simp[run_convert_int_string w xt yt k m hs hd]
theorem a2q{t:TypeId}{ki kk:IntKind}{n:Int}{x:Operand}(ho:o.op = .makeInterface t x)(hu:P.underlying t=some (.int ki))(hx:σ.ev x=some (.t (.v (.int kk n)))):aW P o σ fr (.t (.v (.iface t (.int kk n)))) []:=
 dM λ_ _ _ _ w a _ _ hev=>by
  have h1':=bY (hev x _ hx);refine⟨.iface t (.int kk n),?_,.t (.v _ rfl)⟩;unfold execOp;rw[ho];simp only[h1'];simp[Instr.makeInterface,run_underlying hu]
end ints
theorem aGs{t:TypeId}(h:P.underlying t=some .bool)(a b:Bool)(w:World):(Op.equal t (.bool a) (.bool b)).run P w = .ok (a == b) w:=by
 show(Op.equalIn (Op.maxDepth) t (.bool a) (.bool b)).run P w=_;rw[show Op.maxDepth=(Op.maxDepth-1)+1 from rfl];simp[Op.equalIn,run_underlying h]
theorem a3V{xt yt:TypeId}{x y:Operand}{m n:Bool}(hP:P.underlying xt=some .bool)(ho:o.op = .binOp .eql xt x y yt)(hx:σ.ev x=some (B m))(hy:σ.ev y=some (B n)):aW P o σ fr (B (m == n)) []:=
 iY ho hx hy (λw=>by simp[eqGuard,binOp,aGs hP]) rfl
theorem a2l{xt yt:TypeId}{x y:Operand}{m n:Bool}(hP:P.underlying xt=some .bool)(ho:o.op = .binOp .neq xt x y yt)(hx:σ.ev x=some (B m))(hy:σ.ev y=some (B n)):aW P o σ fr (B (!(m == n))) []:=
 iY ho hx hy (λw=>by simp[eqGuard,binOp,aGs hP]) rfl
theorem a2g{t:TypeId}{x:Operand}{b:Bool}(ho:o.op = .unOp .not t x)(hx:σ.ev x=some (B b)):aW P o σ fr (B (!b)) []:=
 dM λ_ _ _ _ w a _ _ hev=>by
  have h1':=bY (hev x _ hx);refine⟨.bool (!b),?_,.t (.v _ rfl)⟩;unfold execOp;rw[ho];simp only[h1'];simp[Op.unary]
theorem XR{c x y:Operand}{d:D}(ho:o.op = .pick c x y)(hc:σ.ev c=some (B true))(hx:σ.ev x=some d):aW P o σ fr d []:=
 dM λ_ _ _ _ w a _ _ hev=>by
  have h1':=bY (hev c _ hc);exact⟨a.eval x,by simp[execOp,ho,h1',asBool],hev x d hx⟩
theorem XU{c x y:Operand}{d:D}(ho:o.op = .pick c x y)(hc:σ.ev c=some (B false))(hy:σ.ev y=some d):aW P o σ fr d []:=
 dM λ_ _ _ _ w a _ _ hev=>by
  have h1':=bY (hev c _ hc);exact⟨a.eval y,by simp[execOp,ho,h1',asBool],hev y d hy⟩
theorem a3U{x:Operand}{i:Nat}{ds:List D}{d:D}(ho:o.op = .extract x i)(hx:σ.ev x=some (.aS ds))(hd:ds[i]?=some d):aW P o σ fr d []:=
 dM λ_ _ ν G w a _ _ hev=>by
  have h:=hev x _ hx;obtain⟨v,hv⟩:∃v,a.eval x=v:=⟨_,rfl⟩
  rw[hv]at h;cases h with
  | @aS vs _ hl h=>
    have hi:i<vs.size:=by rw[hl];exact(bZ.1 hd).1
    refine⟨vs[i],?_,h i _ d (kL hi) hd⟩;unfold execOp;rw[ho];simp[hv,Instr.extract,hi]
end
end Go.Ab
/- The abstract machine: variables, rows, addresses, loads and stores. -/
namespace Go.Ab
open Go.RowKit
def D.cells:D->List D
 |.agg ds=>ds
 |d=>[d]
def D.val:D->Bool
 |.aS _|.any=>false
 |_=>true
theorem JG{v:Value}(h:v.oneCell'=true):v.cells = #[v]:=by cases v <;> first|rfl|cases h
theorem DR.cells{ν:Nat->Value}{nm:Nat->Bool}{w:World}{G:bV}{v:Value}{d:D}(h:DR ν nm w G v d)(hd:d.val=true):
    v.cells.size=d.cells.length/\∀(i:Nat)(u:Value)(e:D),v.cells[i]?=some u->d.cells[i]?=some e->DR ν nm w G u e/\u.oneCell'=true:=by
 have one:d.one=true->v.cells.size=[d].length/\∀(i:Nat)(u:Value)(e:D),v.cells[i]?=some u->[d][i]?=some e->DR ν nm w G u e/\u.oneCell'=true:=λho=>by
  have hv:=h.XQ ho;rw[JG hv];refine⟨rfl,λi u e hu he=>?_⟩;cases i with
  |zero=>simp at hu he;subst hu he;exact⟨h,hv⟩
  |succ i=>simp at he
 cases d with
 |agg ds=>
   cases h with
   | @agg vs _ hl h h1=>
     exact⟨hl,λi u e hu he=>⟨h i u e hu he,h1 u (iS.2 ⟨i,by rw[Bm];exact hu⟩)⟩⟩
 |aS ds=>cases hd
 |any=>cases hd
 |t x=>exact one rfl
 |own k=>exact one rfl
 |ref k off=>exact one rfl
 |ptr ts off=>exact one rfl
 |fn f caps=>exact one rfl
 |sub k i=>exact one rfl
 |jE k i j=>exact one rfl
 |vw k i j=>exact one rfl
 |via k r=>exact one rfl
def NC.tell:NC->D
 |.fK d=>d
 |.cX ..=>.any
def aO.cells:aO->List D
 |.box _ ds=>ds
 |.row _ _ _ ts _=>ts.map .t
 |.nest ..=>[]
 |.mp ..=>[]
 |.it ..=>[]
 |.bC _ _ _ _ _ cs=>cs.map NC.tell
theorem eT.cell{E:Env}{ν:Nat->Value}{nm:Nat->Bool}{w:World}{G:bV}{k:Nat}{o:aO}(h:eT E ν nm w G k o){i:Nat}{d:D}(hd:o.cells[i]?=some d):
    ∃g u,aU (ν k)=some g/\w.cell? ⟨g,i,none⟩=some u/\DR ν nm w G u d/\u.oneCell'=true:=by
 cases o with
 |nest=>simp[aO.cells]at hd
 |mp=>simp[aO.cells]at hd
 |it=>simp[aO.cells]at hd
 |bC e e' m s n cs=>
   obtain⟨xs,h1,hxl,hD,h2,h3,h4,h5⟩:=h;simp only[aO.cells,cZ]at hd;obtain⟨c,hc,rfl⟩:=cO.1 hd;have hi:i<xs.length:=by rw[hxl];exact(bZ.1 hc).1
   have hx:xs[i]?=some xs[i]:=dC hi;have hg:∃g,aU (ν k)=some g:=by
    rcases h1.2 with⟨_,hn⟩|⟨g,cap,cur,hv,_⟩
    .have:=h1.1
     rw[hn,vA]at this;omega
    .exact⟨g,by rw[hv];rfl⟩
   obtain⟨g,hg⟩:=hg;refine⟨g,xs[i],hg,by rw[mY h1 hg hi];exact hx,?_⟩;cases c with
   |fK d=>exact hD i _ d hx hc
   |cX q ts=>
     obtain⟨ys,y1,_⟩:=h2 i _ q ts hx hc;exact⟨.any,pF y1⟩
 |box e ds=>
   obtain⟨g,cur,h1,h2,h3,h4,h5,h6⟩:=h;have hi:i<cur.size:=by rw[h5];exact(bZ.1 hd).1
   obtain⟨q1,q2⟩:=h6 i cur[i] d (kL hi) hd;exact⟨g,cur[i],by rw[h1];rfl,by rw[BZ h3];exact kL hi,q1,q2⟩
 |row e s n ts st=>
   obtain⟨xs,h1,h2,h3,h4⟩:=h;simp only[aO.cells,cZ]at hd;obtain⟨t,ht,rfl⟩:=cO.1 hd;have hi:i<xs.length:=by rw[h2];exact(bZ.1 ht).1
   have htr:=h3 i xs[i] t (dC hi) ht;rcases h1.2 with⟨_,hn⟩|⟨g,cap,cur,hv,r1,r2,r3,r4,r5,r6⟩
   .have:=h1.1
    rw[hn,vA]at this;omega
   .refine⟨g,xs[i],by rw[hv];rfl,?_,.t htr,htr.one⟩
    rw[BZ r2];have hx:(cur.toList.take (n*s))[i]?=some xs[i]:=by rw[r6];exact dC hi
    rw[fU]at hx;split at hx
    .simpa using hx
    .cases hx
theorem eT.Xe{E:Env}{ν:Nat->Value}{nm:Nat->Bool}{w:World}{G:bV}{k:Nat}{o:aO}(h:eT E ν nm w G k o){g:Nat}(hg:Ab.aU (ν k)=some g):E.may g:=(h.ft (eK hg)).2
def cD(ν:Nat->Value)(k:Nat)(x:Value):Nat->Value:=λj=>if j=k then x else ν j
theorem cB{ν:Nat->Value}{k:Nat}{x:Value}:cD ν k x k=x:=by simp[cD]
theorem oK{ν:Nat->Value}{k j:Nat}{x:Value}(h:j≠k):cD ν k x j=ν j:=by simp[cD,h]
theorem Inv.Dq{E:Env}{σ:St}{ν:Nat->Value}{G G':bV}{w w':World}{a:Act}(I:Inv E σ ν G w a.tmps){fr:Nat}(h100:100<=fr)(hf:∀k,fr<=k->k<fr+8->σ.nm k=false){dst:Option Tmp}(ht:∀t,dst=some t->t<E.m)
    {W:Wr} (K:List Nat) {o:aO} (hW:∀k,look k W=if k=fr then some (some o)else if k∈K then some none else none)
    (hos:w'.os=w.os) (htape:w'.tape=w.tape) (hout:w'.output=w.output) (hsize:w.heap.size<=w'.heap.size)
    (hblk:∀b,b<w.heap.size->(∀k∈K,∀o,σ.H k=some o->¬ bO w (ν k) o b)->w'.heap[b]?=w.heap[b]?/\G' b=G b) (hcell:∀b i u,Cell w G b i u->Cell w' G' b i u)
    {x:Value} (hx:∀g,bO w' x o g->w.heap.size<=g\/∃k∈K,∃o0,σ.H k=some o0/\bO w (ν k) o0 g) (ho:eT E (cD ν fr x) (σ.aP dst .any W fr).nm w' G' fr o) {v:Value} {d:D} (hd:DR (cD ν fr x) (σ.aP dst .any W fr).nm w' G' v d):
    Inv E (σ.aP dst d W fr) (cD ν fr x) G' w' (a.put dst v).tmps:=by
 have hnf:σ.nm fr=false:=hf fr (cE _) (by omega);have hn:∀k,σ.nm k=true->(σ.aP dst d W fr).nm k=true/\cD ν fr x k=ν k:=λk hk=>⟨by simp[St.aP,hk],oK (λe=>by rw[e,hnf]at hk;cases hk)⟩
 have eJ:∀b,b<E.w0.heap.size->¬ E.X b->∀k∈K,∀o,σ.H k=some o->¬ bO w (ν k) o b:=λb hb hX k _ o ho hfo=>by
  rcases((I.H k o ho).2.ft hfo).2 with h|h
  .omega
  .exact hX h
 have other:∀k o1,σ.H k=some o1->k∉K->∀g,bO w (ν k) o1 g->w'.heap[g]?=w.heap[g]?/\G' g=G g:=λk o1 h hk g hg=>
  hblk g ((I.H k o1 h).2.ft hg).1 λj hj oj hoj hfo=>I.cW k o1 j oj h hoj (λe=>hk (by rw[e];exact hj)) g hg hfo
 have ft':∀k o1,σ.H k=some o1->k∉K->∀g,bO w' (ν k) o1 g ↔ bO w (ν k) o1 g:=λk o1 h hk g=>uT λg hg=>(other k o1 h hk g (eK hg)).1
 refine⟨⟨hos.trans I.kept.os,htape.trans I.kept.tape,hout.trans I.kept.output,AF I.kept.size hsize,λb hb hX=>?_⟩,λb i u h=>hcell b i u (I.eJ b i u h),λk h1 h2=>?_,λb hb hX=>?_,?_,λt d' h=>?_,λk o' h=>?_,λk o1 k' o2 h h' hne g hg=>?_⟩
 .exact(hblk b (tD hb I.kept.size) (eJ b hb hX)).1.trans (I.kept.block b hb hX)
 .rw[oK (by omega)]
  exact I.fJ k h1 h2
 .exact(hblk b (tD hb I.kept.size) (eJ b hb hX)).2.trans (I.g0 b hb hX)
 .cases dst <;> simp[Act.put,I.sz]
 .simp only[St.aP]at h
  split at h
  .rename_i he
   cases h;subst he;refine⟨v,?_,hd⟩;have:=ht t rfl;simp[Act.put,I.sz,this]
  .rename_i he
   obtain⟨u,hu,hdu⟩:=I.T t d' h;refine⟨u,?_,hdu.mono hn hcell⟩;cases dst with
   |none=>simpa[Act.put]using hu
   |some t'=>
     have hne:t'≠t:=λe=>he (by rw[e])
     simp only[Act.put];rw[tJ hne];exact hu
 .simp only[St.aP,hW]at h
  by_cases hk:k=fr
  .subst hk
   simp only[iO,iR]at h;subst h;exact⟨by simp[St.aP],ho⟩
  .rw[aE hk]at h
   by_cases hk':k∈K
   .rw[aI hk']at h;cases h
   .rw[aE hk']at h
    obtain⟨h1,h2⟩:=I.H k o' h;exact⟨(hn k h1).1,h2.mono h1 hn hcell (λg hg=>other k o' h hk' g hg)⟩
 .simp only[St.aP,hW]at h h'
  by_cases hk:k=fr
  .subst hk
   rw[cB]at hg;simp only[iO,iR]at h;subst h;have hne':k'≠k:=λe=>hne e.symm
   rw[aE hne']at h';by_cases hk':k'∈K
   .rw[aI hk']at h';cases h'
   .rw[aE hk']at h'
    rw[oK hne',ft' k' o2 h' hk'];intro hgk;rcases hx g hg with h0|⟨j,hj,oj,hoj,hbj⟩
    .have:=((I.H k' o2 h').2.ft hgk).1
     omega
    .exact I.cW k' o2 j oj h' hoj (λe=>hk' (by rw[e];exact hj)) g hgk hbj
  .rw[aE hk]at h
   by_cases hk1:k∈K
   .rw[aI hk1]at h;cases h
   .rw[aE hk1]at h
    rw[oK hk,ft' k o1 h hk1]at hg;by_cases hk':k'=fr
    .subst hk'
     simp only[iO,iR]at h';subst h';rw[cB];intro hgx;rcases hx g hgx with h0|⟨j,hj,oj,hoj,hbj⟩
     .have:=((I.H k o1 h).2.ft hg).1
      omega
     .exact I.cW k o1 j oj h hoj (λe=>hk1 (by rw[e];exact hj)) g hg hbj
    .rw[aE hk']at h'
     by_cases hk2:k'∈K
     .rw[aI hk2]at h';cases h'
     .rw[aE hk2]at h'
      rw[oK hk',ft' k' o2 h' hk2];exact I.cW k o1 k' o2 h h' hne g hg
theorem Inv.new{E:Env}{σ:St}{ν:Nat->Value}{G G':bV}{w w':World}{a:Act}(I:Inv E σ ν G w a.tmps){fr:Nat}(h100:100<=fr)(hf:∀k,fr<=k->k<fr+8->σ.nm k=false){dst:Option Tmp}(ht:∀t,dst=some t->t<E.m)
    {W:Wr} (k0:Option Nat) {o:aO} (hW:∀k,look k W=if k=fr then some (some o)else if some k=k0 then some none else none)
    (hos:w'.os=w.os) (htape:w'.tape=w.tape) (hout:w'.output=w.output) (hsize:w.heap.size<=w'.heap.size)
    (hblk:∀b,b<w.heap.size->(∀k,some k=k0->aU (ν k)≠some b)->w'.heap[b]?=w.heap[b]?/\G' b=G b) (hcell:∀b i u,Cell w G b i u->Cell w' G' b i u)
    (hk0:∀k,some k=k0->∃o,σ.H k=some o)
    {x:Value} (hx:∀g,aU x=some g->w.heap.size<=g\/∃k,some k=k0/\aU (ν k)=some g) (ho:eT E (cD ν fr x) (σ.aP dst .any W fr).nm w' G' fr o) {v:Value} {d:D} (hd:DR (cD ν fr x) (σ.aP dst .any W fr).nm w' G' v d)
    (hp:∀w v g,bO w v o g->aU v=some g:=by intro _ _ _ h;exact h):
    Inv E (σ.aP dst d W fr) (cD ν fr x) G' w' (a.put dst v).tmps:=by
 have hK:∀k,k∈k0.toList ↔ some k=k0:=λk=>by cases k0 <;> simp[eq_comm]
 refine I.Dq h100 hf ht k0.toList (λk=>?_) hos htape hout hsize (λb hb h=>hblk b hb λk hk hbk=>?_) hcell (λg hg=>?_) ho hd
 .rw[hW]
  by_cases e:some k=k0
  .rw[aI e,aI ((hK k).2 e)]
  .rw[aE e,aE (λh=>e ((hK k).1 h))]
 .obtain⟨o,ho⟩:=hk0 k hk
  exact h k ((hK k).2 hk) o ho (eK hbk)
 .rcases hx g (hp _ _ _ hg)with h|⟨k,hk,hb⟩
  .exact .inl h
  .obtain⟨o,ho⟩:=hk0 k hk
   exact .inr ⟨k,(hK k).2 hk,o,ho,eK hb⟩
theorem Inv.fresh{E:Env}{σ:St}{ν:Nat->Value}{G G':bV}{w w':World}{a:Act}(I:Inv E σ ν G w a.tmps){fr:Nat}(h100:100<=fr)(hf:∀k,fr<=k->k<fr+8->σ.nm k=false){dst:Option Tmp}(ht:∀t,dst=some t->t<E.m)
    {o:aO} (hA:cU w w') (hG:∀b,b<w.heap.size->G' b=G b) {x:Value} (hx:∀g,aU x=some g->w.heap.size<=g) (ho:eT E (cD ν fr x) (σ.aP dst .any [(fr,some o)] fr).nm w' G' fr o) {v:Value} {d:D}
    (hd:DR (cD ν fr x) (σ.aP dst .any [(fr,some o)] fr).nm w' G' v d) (hp:∀w v g,bO w v o g->aU v=some g:=by intro _ _ _ h;exact h):Inv E (σ.aP dst d [(fr,some o)] fr) (cD ν fr x) G' w' (a.put dst v).tmps:=
 I.new h100 hf ht none (λk=>by
  by_cases h:k=fr
  .subst h;simp[look]
  .simp[look,h,eN h]) hA.os hA.tape hA.output hA.size (λb hb _=>⟨hA.block b hb,hG b hb⟩) (λ_ _ _ h=>h.iG hA hG) (λ_ h=>by cases h) (λg hg=>.inl (hx g hg)) ho hd hp
theorem kN(σ:St)(dst:Option Tmp)(d:D)(W:Wr)(fr:Nat):(σ.aP dst d W fr).nm fr=true:=by simp[St.aP]
section
variable{P:Program}{o:Oper}{σ:St}{fr:Nat}
theorem XX{e:TypeId}{x:Operand}{d:D}(ho:o.op = .box e x)(hx:σ.ev x=some d)(hv:d.val=true):aW P o σ fr (.ref fr 0) [(fr,some (.box e d.cells))]:=by
 intro E σ₁ a w hT _ h100 hf hd ⟨ν,G,I⟩ Q;have hdx:=I.ev (St.dE hT hx);unfold Oper.wp;have hr:(execOp a.eval o).run P w = .ok (.value (.pointer (some ⟨w.heap.size,0,none⟩))) (w.alloc (.cells (a.eval x).cells e)):=by
  unfold execOp;rw[ho];simp[Instr.box,newVar,newRow]
 rw[hr,Oper.upon_value];have hA:cU w (w.alloc (.cells (a.eval x).cells e)):=(cU.refl w).alloc _;refine⟨put_defers ..,_,_,I.fresh (G':=λb=>if b=w.heap.size then 0 else G b) h100 hf hd hA (λb hb=>aE (by omega)) (x:=.pointer (some ⟨w.heap.size,0,none⟩)) (λg hg=>by cases hg;exact cE _) ?_ (.ref (kN ..) (by rw[cB];rfl))⟩;obtain⟨hc1,hc2⟩:=hdx.cells hv;refine⟨w.heap.size,(a.eval x).cells,cB,.inl I.kept.size,heap_alloc_new w _,aI rfl,hc1,λi u d' hu hd'=>?_⟩;obtain⟨q1,q2⟩:=hc2 i u d' hu hd';refine⟨q1.mono (λk hk=>⟨by simp[St.aP,hk],oK (λe=>?_)⟩) (λ_ _ _ h=>h.iG hA (λb hb=>aE (by omega))),q2⟩;rw[e,hf fr (cE _) (by omega)]at hk;cases hk
theorem IJ{t:TypeId}{dsc:TypeDesc}(hu:P.underlying t=some dsc)(hd:dsc.isRow=false){w:World}{b i:Nat}{u:Value}(hc:w.cell? ⟨b,i,none⟩=some u):(Instr.loadAt t (.pointer (some ⟨b,i,none⟩))).run P w = .ok u w:=by
 have hagg:(isAgg t).run P w = .ok false w:=by
  unfold isAgg;rw[Sem.run_bind,run_underlying hu w];cases dsc <;> simp_all
 simp[Instr.loadAt,Instr.sureAddr,loadVar,Sem.run_bind,hagg,hc]
theorem mZ{ν:Nat->Value}{nm:Nat->Bool}{w:World}{G:bV}{v:Value}{k off:Nat}(h:DR ν nm w G v (.ref k off)):∃g,aU (ν k)=some g/\v = .pointer (some ⟨g,off,none⟩)/\nm k=true:=by
 cases h with|ref hk hg=>exact⟨_,hg,rfl,hk⟩
theorem a3B{t:TypeId}{dsc:TypeDesc}{x:Operand}{k off:Nat}{ob:aO}{d:D}(ho:o.op = .load t x)(hu:P.underlying t=some dsc)(hdsc:dsc.isRow=false)(hx:σ.ev x=some (.ref k off))(hk:σ.H k=some ob)(hc:ob.cells[off]?=some d):aW P o σ fr d []:=
 dM λE σ₁ ν G w a hH I hev=>by
  obtain⟨g,hg,hv,_⟩:=mZ (hev x _ hx);obtain⟨g',u,hg',hcu,hdu,_⟩:=(I.H k ob (hH k ob hk)).2.cell hc;rw[hg]at hg';cases hg';refine⟨u,?_,hdu⟩;unfold execOp;rw[ho];simp[hv,IJ hu hdsc hcu]
theorem aHZ{t:TypeId}{dsc:TypeDesc}{x:Operand}{k off m:Nat}{ob:aO}{ds:List D}(ho:o.op = .load t x)(hu:P.underlying t=some dsc)(hdsc:dsc.isRow=true)(hi:(P.info? t).map (·.size)=some m)(hx:σ.ev x=some (.ref k off))(hk:σ.H k=some ob)
    (hc:(ob.cells.drop off).take m=ds) (hm:ds.length=m):aW P o σ fr (.agg ds) []:=
 dM λE σ₁ ν G w a hH I hev=>by
  obtain⟨g,hg,hv,_⟩:=mZ (hev x _ hx);have hob:=(I.H k ob (hH k ob hk)).2;have hget:∀i d,ds[i]?=some d->ob.cells[off+i]?=some d:=λi d h=>by
   rw[<-hc,fU]at h;split at h
   .simpa using h
   .cases h
  have hall:∀i,i<m->∃u,w.cell? ⟨g,off+i,none⟩=some u/\∀d,ds[i]?=some d->DR ν σ₁.nm w G u d/\u.oneCell'=true:=λi h=>by
   have hd:ds[i]?=some ds[i]:=dC (by omega);obtain⟨g',u,hg',hcu,hdu,h1⟩:=hob.cell (hget i _ hd);rw[hg]at hg';cases hg';exact⟨u,hcu,λd h=>by rw[hd]at h;cases h;exact⟨hdu,h1⟩⟩
  let cs:List Value:=(lR m).map λi=>(w.cell? ⟨g,off+i,none⟩).getD undef
  have hcs:∀i u,cs[i]?=some u->i<m/\w.cell? ⟨g,off+i,none⟩=some u:=λi u h=>by
   have hi:i<m:=by simpa[cs]using(bZ.1 h).1
   obtain⟨u',h',_⟩:=hall i hi;simp[cs,hi,h']at h;exact⟨hi,by rw[h',h]⟩
  refine⟨.agg cs.toArray,?_,.agg (by simp[cs,hm]) (λi u d h h'=>?_) (λu h=>?_)⟩
  .unfold execOp
   rw[ho];simp only[hv,Sem.run_bind,run_loadAt_mid w g off t cs dsc (λj v h=>(hcs j v h).2) hu hdsc (by rw[hi];simp[cs])];rfl
  .obtain⟨hi,hcu⟩:=hcs i u (by simpa using h)
   obtain⟨u',h1,h2⟩:=hall i hi;rw[hcu]at h1;cases h1;exact(h2 d h').1
  .obtain⟨i,hiu⟩:=iS.1 (by simpa using h:u∈cs)
   obtain⟨hi,hcu⟩:=hcs i u hiu;obtain⟨u',h1,h2⟩:=hall i hi;rw[hcu]at h1;cases h1;exact(h2 _ (dC (by omega))).2
theorem Di{ν:Nat->Value}{nm:Nat->Bool}{w:World}{G:bV}{v:Value}{ts:List Tree}{off:Nat}(h:DR ν nm w G v (.ptr ts off)):∃(b o:Nat)(us:List Value),v = .pointer (some ⟨b,o+off,none⟩)/\us.length=ts.length/\(∀(i:Nat)(u:Value),us[i]?=some u->Cell w G b (o+i) u)/\∀(i:Nat)(u:Value)(t:Tree),us[i]?=some u->ts[i]?=some t->TR w G u t:=by
 cases h with | @ptr b o _ us _ hl hc h=>exact⟨b,o,us,rfl,hl,hc,h⟩
theorem a3A{t:TypeId}{dsc:TypeDesc}{x:Operand}{ts:List Tree}{off:Nat}{tr:Tree}(ho:o.op = .load t x)(hu:P.underlying t=some dsc)(hdsc:dsc.isRow=false)(hx:σ.ev x=some (.ptr ts off))(hc:ts[off]?=some tr):aW P o σ fr (.t tr) []:=
 dM λE σ₁ ν G w a hH I hev=>by
  obtain⟨b,q,us,hv,hl,hcu,htr⟩:=Di (hev x _ hx);have hi:off<us.length:=by rw[hl];exact(bZ.1 hc).1
  have hu':us[off]?=some us[off]:=dC hi;refine⟨us[off],?_,.t (htr off _ tr hu' hc)⟩;unfold execOp;rw[ho];simp[hv,IJ hu hdsc (hcu off _ hu').1]
theorem a2z{t:TypeId}{dsc:TypeDesc}{x:Operand}{ts xs:List Tree}{off m:Nat}(ho:o.op = .load t x)(hu:P.underlying t=some dsc)(hdsc:dsc.isRow=true)(hi:(P.info? t).map (·.size)=some m)(hx:σ.ev x=some (.ptr ts off))
    (hc:(ts.drop off).take m=xs) (hm:xs.length=m):aW P o σ fr (.agg (xs.map .t)) []:=
 dM λE σ₁ ν G w a hH I hev=>by
  obtain⟨b,q,us,hv,hl,hcu,htr⟩:=Di (hev x _ hx);have hget:∀i d,xs[i]?=some d->ts[off+i]?=some d:=λi d h=>by
   rw[<-hc,fU]at h;split at h
   .simpa using h
   .cases h
  let cs:List Value:=(us.drop off).take m
  have hlen:cs.length=m:=by
   have h1:xs.length=min m (ts.length-off):=by rw[<-hc];simp
   simp only[cs,List.length_take,List.length_drop,hl];omega
  have hcs:∀i u,cs[i]?=some u->us[off+i]?=some u:=λi u h=>by
   simp only[cs,fU]at h;split at h
   .simpa using h
   .cases h
  refine⟨.agg cs.toArray,?_,.agg (by simp[hlen,hm]) (λi u d h h'=>?_) (λu h=>?_)⟩
  .unfold execOp
   rw[ho];simp only[hv,Sem.run_bind,run_loadAt_mid w b (q+off) t cs dsc (λj v h=>by rw[Be];exact(hcu _ v (hcs j v h)).1) hu hdsc (by rw[hi,hlen])];rfl
  .rw[cZ]at h'
   obtain⟨tr,h1,rfl⟩:=cO.1 h';exact .t (htr _ u tr (hcs i u (by simpa using h)) (hget i tr h1))
  .obtain⟨i,hiu⟩:=iS.1 (by simpa using h:u∈cs)
   have hi':i<xs.length:=by rw[hm,<-hlen];exact(bZ.1 hiu).1
   exact(htr _ u _ (hcs i u hiu) (hget i _ (dC hi'))).one
def It(P:Program)(s:TypeId)(f:Nat):Option Nat:=
 match P.underlying s with
 |some (.struct fs)=>match fs[f]? with
   |some fl=>match P.info? fl.type with
     |some i=>if i.size=0 then none else some fl.offset
     |none=>none
   |none=>none
 |_=>none
theorem aGr{s:TypeId}{f q:Nat}(h:It P s f=some q)(w:World)(b i:Nat):(Instr.fieldAt s (.pointer (some ⟨b,i,none⟩)) f).run P w = .ok (.pointer (some ⟨b,i+q,none⟩)) w:=by
 unfold It at h;split at h
 .rename_i fs hu
  split at h
  .rename_i fl hfl
   split at h
   .rename_i inf hinf
    split at h
    .cases h
    .rename_i h0
     cases h;simp[Instr.fieldAt,run_underlying hu,hfl,Instr.sureAddr,fieldPlace,sizeOf,typeInfo,hinf,h0,Addr.add_mid]
   .cases h
  .cases h
 .cases h
theorem aH6{s:TypeId}{x:Operand}{f q k off:Nat}(ho:o.op = .fieldAddr s x f)(hq:It P s f=some q)(hx:σ.ev x=some (.ref k off)):aW P o σ fr (.ref k (off+q)) []:=
 dM λE σ₁ ν G w a hH I hev=>by
  have hr:=hev x _ hx;obtain⟨g,hg,hv,hk⟩:=mZ hr;refine⟨.pointer (some ⟨g,off+q,none⟩),?_,?_⟩
  .unfold execOp
   rw[ho];simp[hv,aGr hq]
  .exact .ref hk hg
theorem a3R{s:TypeId}{x:Operand}{f q off:Nat}{ts:List Tree}(ho:o.op = .fieldAddr s x f)(hq:It P s f=some q)(hx:σ.ev x=some (.ptr ts off)):aW P o σ fr (.ptr ts (off+q)) []:=
 dM λE σ₁ ν G w a hH I hev=>by
  obtain⟨b,i,us,hv,hl,hcu,htr⟩:=Di (hev x _ hx);refine⟨.pointer (some ⟨b,i+(off+q),none⟩),?_,.ptr hl hcu htr⟩;unfold execOp;rw[ho];simp[hv,aGr hq,Be]
def uX(P:Program)(t:TypeId):Option Nat:=
 match P.underlying t with
 |some (.slice e)=>(P.info? e).map (·.size)
 |_=>none
theorem IK{t:TypeId}{s:Nat}(h:uX P t=some s)(w:World)(b i n c:Nat)(k:IntKind)(j:Int)(h0:0<=j)(hn:j<n):
    (Instr.indexAt t (.slice (some ⟨b,i,none⟩) n c) (.int k j)).run P w = .ok (.pointer (some ⟨b,i+j.toNat*s,none⟩)) w:=by
 unfold uX at h;split at h
 .rename_i e hu
  obtain⟨inf,hinf,hs⟩:=cO.1 h;simp[Instr.indexAt,run_underlying hu,asIntOf,sizeOf,typeInfo,hinf,hs,h0,hn,Addr.add_mid]
 .cases h
theorem a3N{t:TypeId}{x y:Operand}{s n:Nat}{ts:List Tree}{k:IntKind}{j:Int}(ho:o.op = .indexAddr t x y)(hs:uX P t=some s)(hx:σ.ev x=some (.t (.sl n ts)))(hy:σ.ev y=some (.t (.v (.int k j))))(h0:0<=j)(hn:j<n):
    aW P o σ fr (.ptr ts (j.toNat*s)) []:=
 dM λE σ₁ ν G w a hH I hev=>by
  have hv:=hev x _ hx;have hj:=bY (hev y _ hy);obtain⟨v,he⟩:∃v,a.eval x=v:=⟨_,rfl⟩
  rw[he]at hv;cases hv with
  |t hv=>
    cases hv with
    |nil _=>omega
    |sl b i n c us _ hl hc hn' h=>
      refine⟨.pointer (some ⟨b,i+j.toNat*s,none⟩),?_,.ptr hl hc h⟩;unfold execOp;rw[ho];simp[he,hj,IK hs w b i n c k j h0 hn]
theorem aH3{t:TypeId}{x y:Operand}{s n q:Nat}{ts:List Tree}{e:TypeId}{st:Bool}{s':Nat}{k:IntKind}{j:Int}(ho:o.op = .indexAddr t x y)(hs:uX P t=some s)(hx:σ.ev x=some (.own q))(hq:σ.H q=some (.row e s' n ts st))(hy:σ.ev y=some (.t (.v (.int k j))))(h0:0<=j)(hn:j<n):
    aW P o σ fr (.ref q (j.toNat*s)) []:=
 dM λE σ₁ ν G w a hH I hev=>by
  have hv:=hev x _ hx;have hj:=bY (hev y _ hy);obtain⟨v,he⟩:∃v,a.eval x=v:=⟨_,rfl⟩
  rw[he]at hv;cases hv with
  |own hk h1=>
    obtain⟨xs,r1,r2,r3,r4⟩:=(I.H q _ (hH q _ hq)).2;rcases r1.2 with⟨_,hz⟩|⟨g,cap,cur,hvv,_⟩
    .omega
    .refine⟨.pointer (some ⟨g,j.toNat*s,none⟩),?_,.ref hk (by rw[hvv];rfl)⟩
     unfold execOp;rw[ho];simp[he,hj,hvv,IK hs w g 0 n cap k j h0 hn]
def u0(P:Program)(t:TypeId):Option (Nat×Nat):=
 match P.underlying t with
 |some (.array n e)=>(P.info? e).map λi=>(n,i.size)
 |_=>none
theorem XW{t:TypeId}{x y:Operand}{s n q off:Nat}{k:IntKind}{j:Int}(ho:o.op = .indexAddr t x y)(hs:u0 P t=some (n,s))(hx:σ.ev x=some (.ref q off))(hy:σ.ev y=some (.t (.v (.int k j))))(h0:0<=j)(hn:j<n):
    aW P o σ fr (.ref q (off+j.toNat*s)) []:=
 dM λE σ₁ ν G w a hH I hev=>by
  have hr:=hev x _ hx;have hj:=bY (hev y _ hy);obtain⟨g,hg,hv,hk⟩:=mZ hr;refine⟨.pointer (some ⟨g,off+j.toNat*s,none⟩),?_,?_⟩
  .unfold u0 at hs
   split at hs
   .rename_i n' e hu
    obtain⟨inf,hinf,he⟩:=cO.1 hs;simp only[a8Y]at he;obtain⟨rfl,rfl⟩:=he;unfold execOp;rw[ho];simp[hv,hj,Instr.indexAt,run_underlying hu,Instr.sureAddr,asIntOf,sizeOf,typeInfo,hinf,h0,hn,Addr.add_mid]
   .cases hs
  .exact .ref hk hg
theorem a3M{t:TypeId}{x y:Operand}{s n off:Nat}{ts:List Tree}{k:IntKind}{j:Int}(ho:o.op = .indexAddr t x y)(hs:u0 P t=some (n,s))(hx:σ.ev x=some (.ptr ts off))(hy:σ.ev y=some (.t (.v (.int k j))))(h0:0<=j)(hn:j<n):
    aW P o σ fr (.ptr ts (off+j.toNat*s)) []:=
 dM λE σ₁ ν G w a hH I hev=>by
  have hj:=bY (hev y _ hy);obtain⟨b,q,us,hv,hl,hcu,htr⟩:=Di (hev x _ hx);refine⟨.pointer (some ⟨b,q+(off+j.toNat*s),none⟩),?_,.ptr hl hcu htr⟩;unfold u0 at hs;split at hs
  .rename_i n' e hu
   obtain⟨inf,hinf,he⟩:=cO.1 hs;simp only[a8Y]at he;obtain⟨rfl,rfl⟩:=he;unfold execOp;rw[ho];simp[hv,hj,Instr.indexAt,run_underlying hu,Instr.sureAddr,asIntOf,sizeOf,typeInfo,hinf,h0,hn,Addr.add_mid,Be]
  .cases hs
end
end Go.Ab
/- The abstract machine: stores, appends, values that are built. -/
namespace Go.Ab
open Go.RowKit
def dL{α:Type}(l:List α)(off:Nat)(new:List α):List α:=l.take off++new++l.drop (off+new.length)
theorem xN{α:Type}{l:List α}{off:Nat}{new:List α}(h:off+new.length<=l.length):(dL l off new).length=l.length:=by
 simp[dL];omega
theorem ID{α:Type}{l:List α}{off:Nat}{new:List α}(h:off+new.length<=l.length)(i:Nat):(dL l off new)[i]?=if i<off then l[i]? else if i<off+new.length then new[i-off]? else l[i]?:=by
 unfold dL;by_cases h1:i<off
 .rw[aI h1,bP,dV (by simp;omega),fU,aI h1]
 .rw[aE h1]
  by_cases h2:i<off+new.length
  .rw[aI h2,bP,dN (by simp;omega),dV (by simp;omega)]
   congr 1
   simp;omega
  .rw[aE h2,dN (by simp;omega),List.getElem?_drop]
   congr 1
   simp;omega
def pA(cur:Array Value):Nat->List Value->Array Value
 |_,[]=>cur
 |o,v::r=>pA (cur.setIfInBounds o v) (o+1) r
theorem IE:∀(vs:List Value)(cur:Array Value)(o:Nat),(pA cur o vs).size=cur.size
 |[],_,_=>rfl
 |v::r,cur,o=>by rw[pA,IE r];simp
theorem IF:∀(vs:List Value)(cur:Array Value)(o i:Nat),o+vs.length<=cur.size->(pA cur o vs)[i]?=if i<o then cur[i]? else if i<o+vs.length then vs[i-o]? else cur[i]?
 |[],cur,o,i,_=>by simp[pA];intro h;omega
 |v::r,cur,o,i,h=>by
   rw[eD]at h;rw[pA,IF r _ _ i (by simp;omega)];by_cases h1:i<o
   .rw[aI (by omega),aI h1,tJ (by omega)]
   .by_cases h2:i=o
    .subst h2
     rw[aI (by omega),aE h1,aI (show i<i+(v::r).length by rw[eD];omega),Nat.sub_self];have hi:i<cur.size:=by omega
     simp[hi]
    .rw[aE (by omega),aE h1]
     by_cases h3:i<o+1+r.length
     .rw[aI h3,aI (show i<o+(v::r).length by rw[eD];omega),show i-o=(i-(o+1))+1 by omega]
      simp
     .rw[aE h3,aE (show ¬ i<o+(v::r).length by rw[eD];omega),tJ (by omega)]
theorem a1O{w:World}{g o:Nat}{cur:Array Value}{e:TypeId}{fr:Nat×Nat}{v:Value}(h:w.heap[g]?=some (.cells cur e fr)):(w.setCell ⟨g,o,none⟩ v).heap[g]?=some (.cells (cur.setIfInBounds o v) e fr):=by
 have hlt:=EA h;have hv:w.heap[g] = .cells cur e fr:=(mP.1 h).2;unfold World.setCell;simp only;rw[kL (by simpa using hlt),Array.getElem_modify];simp[hv]
theorem MY{g:Nat}{e:TypeId}{fr:Nat×Nat}:∀(vs:List Value)(o:Nat)(w:World)(cur:Array Value),w.heap[g]?=some (.cells cur e fr)->(w.setCells g o vs).heap[g]?=some (.cells (pA cur o vs) e fr)
 |[],_,_,_,h=>h
 |_::r,o,_,_,h=>MY r (o+1) _ _ (a1O h)
theorem MX{g:Nat}:∀(vs:List Value)(o:Nat)(w:World),(w.setCells g o vs).os=w.os/\(w.setCells g o vs).tape=w.tape/\(w.setCells g o vs).output=w.output/\(w.setCells g o vs).heap.size=w.heap.size/\∀b,b≠g->(w.setCells g o vs).heap[b]?=w.heap[b]?
 |[],_,_=>⟨rfl,rfl,rfl,rfl,λ_ _=>rfl⟩
 |v::r,o,w=>by
   obtain⟨h1,h2,h3,h4,h5⟩:=MX r (o+1) (w.setCell ⟨g,o,none⟩ v);refine⟨h1,h2,h3,h4.trans (by simp[World.setCell]),λb hb=>(h5 b hb).trans ?_⟩;simp[World.setCell,Array.getElem?_modify,eN hb]
theorem M5{P:Program}{w:World}{b o:Nat}{ty:TypeId}{v:Value}(ht:w.there b o v.cells.size)(hi:(P.info? ty).map (·.size)=some v.cells.size)(h1:∀u∈v.cells.toList,u.oneCell'=true):
    (Instr.storeAt ty (.pointer (some ⟨b,o,none⟩)) v).run P w = .ok () (w.setCells b o v.cells.toList):=by
 have:=run_storeAt_mid (P:=P) w b o ty v.cells ht hi (by rw[Array.all_eq_true_iff_forall_mem];exact λx hx=>h1 x (Array.mem_toList_iff.2 hx));rw[<-this];rfl
def zH:List D->Option (List Tree)
 |[]=>some []
 |.t x::l=>(zH l).map (x :: ·)
 |_::_=>none
theorem aJk:∀{new:List D}{xs:List Tree},zH new=some xs->new=xs.map .t
 |[],xs,h=>by cases h;rfl
 |d::l,xs,h=>by
   cases d with
   |t x=>
     simp only[zH]at h;obtain⟨ys,hy,rfl⟩:=cO.1 h;rw[aJk hy];rfl
   |_=>cases h
def aO.put:aO->Nat->List D->Option aO
 |.box e ds,off,new=>if off+new.length<=ds.length then some (.box e (dL ds off new))else none
 |.row e s n ts st,off,new=>if off+new.length<=ts.length/\st=false then(zH new).map λxs=>.row e s n (dL ts off xs) st else none
 |.nest ..,_,_=>none
 |.mp ..,_,_=>none
 |.it ..,_,_=>none
 |.bC ..,_,_=>none
theorem aO.aHF{ob ob':aO}{off:Nat}{new:List D}(hp:ob.put off new=some ob'){w w':World}{v:Value}{g:Nat}:(bO w' v ob' g ↔ aU v=some g)/\(bO w v ob g ↔ aU v=some g):=by
 cases ob with
 |nest=>cases hp
 |mp=>cases hp
 |it=>cases hp
 |bC=>cases hp
 |box e ds=>
   simp only[aO.put]at hp;split at hp
   .cases hp;exact⟨oD,oD⟩
   .cases hp
 |row e s n ts st=>
   simp only[aO.put]at hp;split at hp
   .obtain⟨ys,_,rfl⟩:=cO.1 hp
    exact⟨oD,oD⟩
   .cases hp
theorem eT.put{E:Env}{ν:Nat->Value}{nm:Nat->Bool}{w:World}{G:bV}{k:Nat}{ob ob':aO}{off:Nat}{new:List D}{vs:List Value}(h:eT E ν nm w G k ob)(hp:ob.put off new=some ob')(hl:vs.length=new.length)
    (hv:∀(i:Nat)(u:Value)(d:D),vs[i]?=some u->new[i]?=some d->DR ν nm w G u d/\u.oneCell'=true) (hpos:0<new.length):
    ∃g,aU (ν k)=some g/\w.there g off vs.length/\G g=0/\∀w',(∀b i u,Cell w G b i u->Cell w' G b i u)->w'=w.setCells g off vs->eT E ν nm w' G k ob':=by
 cases ob with
 |nest=>cases hp
 |mp=>cases hp
 |it=>cases hp
 |bC=>cases hp
 |box e ds=>
   obtain⟨g,cur,h1,h2,h3,h4,h5,h6⟩:=h;simp only[aO.put]at hp;split at hp
   .rename_i hle
    cases hp;refine⟨g,by rw[h1];rfl,λj hj=>⟨?_,by simp[World.frozen?,h3]⟩,h4,λw' hx hw=>?_⟩
    .rw[BZ h3,kL (by omega)];rfl
    .subst hw
     refine⟨g,_,h1,h2,MY vs off w cur h3,h4,by rw[IE,h5,xN hle],λi u d hu hd=>?_⟩;rw[IF _ _ _ _ (by omega)]at hu;rw[ID hle]at hd;by_cases c1:i<off
     .rw[aI c1]at hu hd
      exact⟨(h6 i u d hu hd).1.mono (λ_ h=>⟨h,rfl⟩) hx,(h6 i u d hu hd).2⟩
     .rw[aE c1]at hu hd
      by_cases c2:i<off+vs.length
      .rw[aI c2]at hu
       rw[aI (by omega)]at hd;exact⟨(hv _ u d hu hd).1.mono (λ_ h=>⟨h,rfl⟩) hx,(hv _ u d hu hd).2⟩
      .rw[aE c2]at hu
       rw[aE (by omega)]at hd;exact⟨(h6 i u d hu hd).1.mono (λ_ h=>⟨h,rfl⟩) hx,(h6 i u d hu hd).2⟩
   .cases hp
 |row e s n ts st=>
   obtain⟨xs,h1,h2,h3,h4⟩:=h;simp only[aO.put]at hp;split at hp
   .rename_i hle
    obtain⟨hle,rfl⟩:=hle;obtain⟨ys,hys,rfl⟩:=cO.1 hp;have hnew:=aJk hys;subst hnew;simp only[List.length_map]at hle hl hpos;rcases h1.2 with⟨_,hz⟩|⟨g,cap,cur,hvv,r1,r2,r3,r4,r5,r6⟩
    .have:=h1.1
     rw[hz,vA]at this;omega
    .have hGg:=(h4 g (by rw[hvv];rfl)).2
     simp only[if_false,Bool.false_eq_true]at hGg;have hxl:xs.length<=cur.size:=by rw[<-r6];simp;omega
     refine⟨g,by rw[hvv];rfl,λj hj=>⟨?_,by simp[World.frozen?,r2]⟩,hGg,λw' hx hw=>?_⟩
     .rw[BZ r2,kL (by omega)];rfl
     .subst hw
      refine⟨dL xs off vs,⟨by rw[xN (by omega)];exact h1.1,.inr ⟨g,cap,_,hvv,r1,MY vs off w cur r2,r3,r4,by rw[IE];exact r5,?_⟩⟩,by rw[xN (by omega),xN (by omega)];exact h2,λi u t hu ht=>?_,λg' hg'=>h4 g' hg'⟩
      .apply List.ext_getElem?
       intro i;rw[fU,ID (by omega)];have hxn:xs.length=n*s:=h1.1;have hget:∀j,j<n*s->cur[j]?=xs[j]?:=λj hj=>by rw[<-r6,fU,aI hj];simp
       by_cases c0:i<n*s
       .rw[aI c0]
        have:(pA cur off vs).toList[i]?=(pA cur off vs)[i]?:=by simp
        rw[this,IF _ _ _ _ (by omega)];by_cases c1:i<off
        .rw[aI c1,aI c1,hget i c0]
        .rw[aE c1,aE c1]
         by_cases c2:i<off+vs.length
         .rw[aI c2,aI c2]
         .rw[aE c2,aE c2,hget i c0]
       .rw[aE c0,aE (by omega),aE (by omega),List.getElem?_eq_none (by omega)]
      .rw[ID (by omega)]at hu ht
       by_cases c1:i<off
       .rw[aI c1]at hu ht
        exact(h3 i u t hu ht).mono hx
       .rw[aE c1]at hu ht
        by_cases c2:i<off+vs.length
        .rw[aI c2]at hu
         rw[aI (by omega)]at ht;have:=(hv _ u (.t t) hu (by rw[cZ,ht];rfl)).1;cases this with|t h=>exact h.mono hx
        .rw[aE c2]at hu
         rw[aE (by omega)]at ht;exact(h3 i u t hu ht).mono hx
   .cases hp
section
variable{P:Program}{o:Oper}{σ:St}{fr:Nat}
inductive E8 (σ:St) (y:Operand):D->Prop
 |ev {d:D} (h:σ.ev y=some d):E8 σ y d
 |own {k n:Nat} {e:TypeId} {s:Nat} {ts:List Tree} (h:σ.ev y=some (.own k)) (hk:σ.H k=some (.row e s n ts true)):E8 σ y (.t (.sl n ts))
 |wk {d d':D} (h:σ.ev y=some d) (hw:cJ σ.H d d'):E8 σ y d'
theorem E8.rel{y:Operand}{d:D}(h:E8 σ y d){σ₁:St}(hT:∀t d,σ.T t=some d->σ₁.T t=some d)(hH:∀k o,σ.H k=some o->σ₁.H k=some o){E:Env}{ν:Nat->Value}{G:bV}{w:World}{a:Act}(I:Inv E σ₁ ν G w a.tmps):DR ν σ₁.nm w G (a.eval y) d:=by
 cases h with
 |ev h=>exact I.ev (St.dE hT h)
 |own h hk=>
   have hv:=I.ev (St.dE hT h);obtain⟨v,he⟩:∃v,a.eval y=v:=⟨_,rfl⟩
   rw[he]at hv ⊢;cases hv with
   |own _ _=>exact .t (I.rows _ _ _ _ _ _ (hH _ _ hk) rfl)
 |wk h hw=>exact hw _ _ _ _ _ _ hH I _ (I.ev (St.dE hT h))
theorem Dl{t:TypeId}{x y:Operand}{k off:Nat}{ob ob':aO}{d:D}(ho:o.op = .store t x y)(hi:(P.info? t).map (·.size)=some d.cells.length)(hx:σ.ev x=some (.ref k off))(hy:E8 σ y d)(hv:d.val=true)(hk:σ.H k=some ob)
    (hp:ob.put off d.cells=some ob') (hpos:0<d.cells.length):aW P o σ fr (.aS []) [(k,some ob')]:=by
 intro E σ₁ a w hT hH h100 hf hd ⟨ν,G,I⟩ Q;obtain⟨g,hg,hvx,hkn⟩:=mZ (I.ev (St.dE hT hx));have hdy:=hy.rel hT hH I;obtain⟨hc1,hc2⟩:=hdy.cells hv;have hob:=(I.H k ob (hH k ob hk)).2;obtain⟨g',hg',hthere,hG0,hnew⟩:=hob.put hp (vs:=(a.eval y).cells.toList) (by simpa using hc1) (λi u d' hu hd'=>hc2 i u d' (by simpa using hu) hd') hpos;rw[hg]at hg';cases hg';have hr:(Instr.storeAt t (.pointer (some ⟨g,off,none⟩)) (a.eval y)).run P w = .ok () (w.setCells g off (a.eval y).cells.toList):=
  M5 (by simpa using hthere) (by rw[hi,hc1]) (λu hu=>by
   obtain⟨i,hiu⟩:=iS.1 hu;have hlt:i<d.cells.length:=by rw[<-hc1];simpa using(bZ.1 hiu).1
   exact(hc2 i u _ (by simpa using hiu) (dC hlt)).2)
 obtain⟨s1,s2,s3,s4,s5⟩:=MX (g:=g) (a.eval y).cells.toList off w;obtain⟨w',hw'⟩:∃w',w.setCells g off (a.eval y).cells.toList=w':=⟨_,rfl⟩
 rw[hw']at hr s1 s2 s3 s4 s5;have hcell:∀b i u,Cell w G b i u->Cell w' G b i u:=λb i u h=>by
  have hne:b≠g:=λe=>by have:=h.2;rw[e,hG0]at this;omega
  exact⟨(World.cell?_of_block (a:=⟨b,i,none⟩) (s5 b hne)).trans h.1,h.2⟩
 have hmay:E.may g:=hob.Xe hg;unfold Oper.wp;have he:(execOp a.eval o).run P w = .ok .skip w':=by
  unfold execOp;rw[ho];simp only[hvx,Sem.run_bind,hr];rfl
 rw[he,Oper.upon_skip];have hnm:∀j,σ₁.nm j=true->(σ₁.aP o.dst (.aS []) [(k,some ob')] fr).nm j=true/\ν j=ν j:=λj hj=>⟨by simp[St.aP,hj],rfl⟩
 refine⟨put_defers ..,ν,G,⟨s1.trans I.kept.os,s2.trans I.kept.tape,s3.trans I.kept.output,by rw[s4];exact I.kept.size,λb hb hX=>?_⟩,λb i u h=>hcell b i u (I.eJ b i u h),I.fJ,I.g0,?_,λt' d' h=>?_,λj oj h=>?_,λj1 o1 j2 o2 h1 h2 hne=>?_⟩
 .refine(s5 b (λe=>?_)).trans (I.kept.block b hb hX)
  subst e;rcases hmay with h|h
  .omega
  .exact hX h
 .cases o.dst <;> simp[Act.put,I.sz]
 .simp only[St.aP]at h
  split at h
  .rename_i he'
   cases h;have:=hd t' he';exact⟨undef,by simp[he',Act.put,I.sz,this],Hv⟩
  .rename_i he'
   obtain⟨u,hu,hdu⟩:=I.T t' d' h;refine⟨u,?_,hdu.mono hnm hcell⟩;cases hds:o.dst with
   |none=>simpa[Act.put]using hu
   |some t''=>
     have hne:t''≠t':=λe=>he' (by rw[hds,e])
     simp only[Act.put];rw[tJ hne];exact hu
 .by_cases hj:j=k
  .subst hj
   simp[St.aP,look]at h;subst h;have h1:=(I.H j ob (hH j ob hk)).1;refine⟨(hnm j h1).1,eT.mono h1 hnm (λ_ _ _ h=>h) (λ_ _=>⟨rfl,rfl⟩) (hnew w' hcell hw'.symm)⟩
  .have h':σ₁.H j=some oj:=by simpa[St.aP,look,eN hj]using h
   obtain⟨h1,h2⟩:=I.H j oj h';refine⟨(hnm j h1).1,h2.mono h1 hnm hcell (λg' hg'=>⟨s5 g' (λe=>?_),rfl⟩)⟩;subst e;exact I.cW j oj k ob h' (hH k ob hk) hj g' hg' (eK hg)
 .have back:∀j oj,(σ₁.aP o.dst (.aS []) [(k,some ob')] fr).H j=some oj->∃oj',σ₁.H j=some oj'/\∀g',bO w' (ν j) oj g'->bO w (ν j) oj' g':=λj oj h=>by
   by_cases hj:j=k
   .subst hj
    simp[St.aP,look]at h;subst h;exact⟨ob,hH j ob hk,λg' hg'=>(aO.aHF (w:=w) (w':=w') hp).2.2 ((aO.aHF (w:=w) (w':=w') hp).1.1 hg')⟩
   .have h':σ₁.H j=some oj:=by simpa[St.aP,look,eN hj]using h
    refine⟨oj,h',λg' hg'=>(uT λb hb=>s5 b λe=>?_).1 hg'⟩;subst e;exact I.cW j oj k ob h' (hH k ob hk) hj b (eK hb) (eK hg)
  obtain⟨o1',h1',f1⟩:=back j1 o1 h1;obtain⟨o2',h2',f2⟩:=back j2 o2 h2;exact λg' hg1 hg2=>I.cW j1 o1' j2 o2' h1' h2' hne g' (f1 g' hg1) (f2 g' hg2)
end
end Go.Ab
/- The abstract machine: appends, values that are built, parts of values, lengths. -/
namespace Go.Ab
open Go.RowKit
structure mQ(P:Program)(t e:TypeId)(z:Value)(s bytes:Nat):Prop where
 u:P.underlying t=some (.slice e)
 i:(P.info? e).map (λi=>(i.zero,i.size,i.bytes))=some (some z,s,bytes)
 z:z.cells.size=s
 s:0<s
theorem M7{P:Program}{t ty e:TypeId}{z:Value}{s bytes:Nat}(hT:mQ P t e z s bytes){w:World}{v:Value}{n:Nat}{xs:List Value}(hown:w.ownsRow 0 e s v n xs){ax:Option Addr}{m c:Nat}{news:List Value}(hl:news.length=m*s)(hnews:Rd w ax news)(hc:ax=none->c=0)
    (h1:∀u∈news,u.oneCell'=true) (h63:n+m<=maxLen) (hbytes:(n+m)*bytes<=140737488355328):
    ∃v' w',(Builtin.append_ #[t,t] ty #[v,.slice ax m c]).run P w = .ok v' w'/\w'.ownsRow 0 e s v' (n+m) (xs++news)/\w'.os=w.os/\w'.tape=w.tape/\w'.output=w.output/\w.heap.size<=w'.heap.size /\
     (∀b,b<w.heap.size->v.ownBlock≠some b->w'.heap[b]?=w.heap[b]?)/\(∀g i,v.ownBlock=some g->i<n*s->w'.cell? ⟨g,i,none⟩=w.cell? ⟨g,i,none⟩)/\∀g,v'.ownBlock=some g->w.heap.size<=g\/v.ownBlock=some g:=by
 obtain⟨i,hi,hz,h2,h3⟩:=info_parts hT.i;cases ax with
 |none=>
   have hnil:news=[]:=Rd.a3k hnews;subst hnil;have hm:m=0:=by
    have:=hl;simp only[List.length_nil]at this;rcases Nat.mul_eq_zero.1 this.symm with h|h
    .exact h
    .have:=hT.s;omega
   subst hm;have:=hc rfl;subst this;have hsame:(Builtin.append_ #[t,t] ty #[v,.slice none 0 0]).run P w = .ok v w:=by
    rcases hown.2 with⟨rfl,rfl⟩|⟨g,cap,cur,rfl,_,hg,hnc,_,_,_⟩
    .simp[Builtin.append_,run_underlying hT.u,sizeOf,typeInfo,hi,Builtin.lenOf,Builtin.firstCells]
    .simp[Builtin.append_,run_underlying hT.u,sizeOf,typeInfo,hi,Builtin.lenOf,Builtin.firstCells,hnc,storeCells]
   exact⟨v,w,hsame,by simpa using hown,rfl,rfl,rfl,cE _,λ_ _ _=>rfl,λ_ _ _ _=>rfl,λg hg=>.inr hg⟩
 |some ad=>
   have hn':∀j u,news[j]?=some u->w.cell? (ad.add j)=some u:=λj u hj=>by
    obtain⟨ad',e',hc'⟩:=hnews j u hj;cases e';exact hc'
   obtain⟨v',w',hr,r2,r3,r4⟩:=run_append_own (P:=P) w 0 t ty e i z s bytes hT.u hi hz h2 h3 hT.z hT.s v n xs hown ad m c news hl hn' h1 h63 hbytes (Nat.zero_le _);have key:(v'.ownBlock=v.ownBlock/\(m=0\/v'.ownBlock≠none))\/(v'.ownBlock=some w.heap.size/\∀b,b<w.heap.size->w'.heap[b]?=w.heap[b]?):=by
    rcases hown.2 with⟨rfl,rfl⟩|⟨g,cap,cur,rfl,_,hg,hnc,hcm,hcs,htake⟩
    .by_cases hm:m=0
     .left
      rw[r4.2 ⟨rfl,hm⟩];exact⟨rfl,.inl hm⟩
     .right
      have hr':=run_append_nil (P:=P) w t ty e i z hT.u hi hz ad m c news (by rw[h2];exact hl) hn' (by omega) (by simp only[maxLen]at h63;omega) (by rw[h3];simp only[eC]at hbytes;omega);rw[hr']at hr;cases hr;exact⟨rfl,λb hb=>heap_alloc_old _ _ hb⟩
    .by_cases hroom:n+m<=cap
     .left
      have hfit:n*i.size+news.length<=cur.size:=by rw[hl,hcs,h2,<-Nat.add_mul];exact mM _ hroom
      have hr':=run_append_room (P:=P) w t ty e i hT.u hi g n cap cur hg ad m c news (by rw[h2];exact hl) hn' h1 hroom hfit;rw[hr']at hr;cases hr;exact⟨rfl,.inr (by simp[Value.ownBlock])⟩
     .right
      have holds:∀j u,xs[j]?=some u->w.cell? ((⟨g,0,none⟩:Addr).add j)=some u:=hown.cells (g:=g) rfl
      have hr':=run_append_grow (P:=P) w t ty e i z hT.u hi hz ⟨g,0,none⟩ n cap xs (by rw[h2];exact hown.1) holds ad m c news (by rw[h2];exact hl) hn' (by omega) (by simp only[maxLen]at h63;omega) (growslice_fits (by omega) (by rw[h3];exact hbytes));rw[hr']at hr;cases hr;exact⟨rfl,λb hb=>heap_alloc_old _ _ hb⟩
   refine⟨v',w',hr,r2,r3.os,r3.tape,r3.output,r3.size,λb hb hne=>r3.block b hb (λe=>hne e.symm),λg j hg hj=>?_,λg hg=>?_⟩
   .have hgl:g<w.heap.size:=(hown.lt g hg).2
    rcases key with⟨k1,_⟩|⟨_,k2⟩
    .have hx:xs[j]?=some (xs[j]'(by rw[hown.1];exact hj)):=dC _
     have c1:=hown.cells hg j _ hx;have c2:=r2.cells (g:=g) (by rw[k1];exact hg) j _ (by rw[dV (by rw[hown.1];exact hj)];exact hx);rw[Addr.add_mid,eC]at c1 c2;rw[c1,c2]
    .exact World.cell?_of_block (a:=⟨g,j,none⟩) (k2 g hgl)
   .rcases key with⟨k1,_⟩|⟨k1,_⟩
    .exact .inr (by rw[<-k1];exact hg)
    .rw[k1]at hg;cases hg;exact .inl (cE _)
inductive Src (σ:St) (x:Operand):Nat->List Tree->Prop
 |t {n:Nat} {ts:List Tree} (h:σ.ev x=some (.t (.sl n ts))):Src σ x n ts
 |own {k n:Nat} {ts:List Tree} {e:TypeId} {s:Nat} {st:Bool} (h:σ.ev x=some (.own k)) (hk:σ.H k=some (.row e s n ts st)):Src σ x n ts
 |nil (h:σ.ev x=some (.t (.v (.slice none 0 0)))):Src σ x 0 []
theorem Src.rd{σ σ₁:St}{x:Operand}{n:Nat}{ts:List Tree}(h:Src σ x n ts){E:Env}{ν:Nat->Value}{G:bV}{w:World}{a:Act}(hT:∀t d,σ.T t=some d->σ₁.T t=some d)(hH:∀k o,σ.H k=some o->σ₁.H k=some o)(I:Inv E σ₁ ν G w a.tmps):
    ∃ax c us,a.eval x = .slice ax n c/\us.length=ts.length/\Rd w ax us/\(ax=none->c=0/\n=0)/\∀(i:Nat)(u:Value)(t:Tree),us[i]?=some u->ts[i]?=some t->TR w G u t:=by
 cases h with
 |t h=>
   have hv:=I.ev (St.dE hT h);obtain⟨v,he⟩:∃v,a.eval x=v:=⟨_,rfl⟩
   rw[he]at hv ⊢;cases hv with
   |t hv=>
     cases hv with
     |nil h0=>exact⟨_,_,[],rfl,rfl,Rd.nil,λe=>⟨h0 e,rfl⟩,λi u t h=>by simp at h⟩
     |sl b q _ c us _ hl hc hn h=>exact⟨_,c,us,rfl,hl,λj u hj=>⟨_,rfl,by rw[Addr.add_mid];exact(hc j u hj).1⟩,(λe=>by cases e),h⟩
 |own h hk=>
   have hv:=I.ev (St.dE hT h);obtain⟨v,he⟩:∃v,a.eval x=v:=⟨_,rfl⟩
   rw[he]at hv ⊢;cases hv with
   |own _ _=>
     obtain⟨xs,r1,r2,r3,r4⟩:=(I.H _ _ (hH _ _ hk)).2;rcases r1.2 with⟨hv,hn⟩|⟨g,cap,cur,hv,_⟩
     .have hx:xs=[]:=AH (by rw[r1.1,hn,vA])
      exact⟨none,0,xs,by rw[hv,hn],r2,by rw[hx];exact Rd.nil,λ_=>⟨rfl,hn⟩,r3⟩
     .exact⟨_,cap,xs,hv,r2,λj u hj=>⟨_,rfl,r1.cells (by rw[hv];rfl) j u hj⟩,(λe=>by cases e),r3⟩
 |nil h=>
   have hv:=bY (I.ev (St.dE hT h));exact⟨none,0,[],hv,rfl,Rd.nil,λ_=>⟨rfl,rfl⟩,λi u t h=>by simp at h⟩
inductive J3 (σ:St) (s:Operand) (e:TypeId) (size:Nat) (st:Bool):Option Nat->Nat->List Tree->Prop
 |own {k n:Nat} {ts:List Tree} (h:σ.ev s=some (.own k)) (hk:σ.H k=some (.row e size n ts st)):J3 σ s e size st (some k) n ts
 |nil (h:σ.ev s=some (.t (.v (.slice none 0 0)))):J3 σ s e size st none 0 []
 |aHt (h:σ.ev s=some (.t (.sl 0 []))) (hnil:False):J3 σ s e size st none 0 []
def jB(k0:Option Nat)(fr:Nat)(o:aO):Wr:=match k0 with|some k=>[(fr,some o),(k,none)]|none=>[(fr,some o)]
section
variable{P:Program}{o:Oper}{σ:St}{fr:Nat}
theorem aH9{t e:TypeId}{z:Value}{size bytes:Nat}(st:Bool){s x:Operand}{k0:Option Nat}{n m:Nat}{ts ys:List Tree}(hT:mQ P t e z size bytes)(ho:o.op = .call { callee:=.builtin .append,args:=#[s,x],argTypes:=#[t,t] })
    (hs:J3 σ s e size st k0 n ts) (hx:Src σ x m ys) (hl:ys.length=m*size) (hb:(n+m)*bytes<=140737488355328/\n+m<=maxLen):aW P o σ fr (.own fr) (jB k0 fr (.row e size (n+m) (ts++ys) st)):=by
 intro E σ₁ a w hTT hHH h100 hf hd ⟨ν,G,I⟩ Q;obtain⟨ax,c,us,hxv,hul,hrd,hnone,htr⟩:=hx.rd hTT hHH I;have hone:∀u∈us,u.oneCell'=true:=λu hu=>by
  obtain⟨i,hi⟩:=iS.1 hu;have hlt:i<ys.length:=by rw[<-hul];exact(bZ.1 hi).1
  exact(htr i u _ hi (dC hlt)).one
 -- the row that grows
 have hrow:∃v xs,a.eval s=v/\w.ownsRow 0 e size v n xs/\xs.length=ts.length/\(∀(i:Nat)(u:Value)(t:Tree),xs[i]?=some u->ts[i]?=some t->TR w G u t)/\(∀k,some k=k0->ν k=v/\∃ob,σ₁.H k=some ob)/\(k0=none->v.ownBlock=none) /\
     (∀g,v.ownBlock=some g->E.may g/\G g=if st then n*size else 0):=by
  cases hs with
  | @own k _ _ h hk=>
    have hv:=I.ev (St.dE hTT h);obtain⟨v,he⟩:∃v,a.eval s=v:=⟨_,rfl⟩
    rw[he]at hv;cases hv with
    |own _ _=>
      obtain⟨xs,r1,r2,r3,r4⟩:=(I.H _ _ (hHH _ _ hk)).2;exact⟨_,xs,he,r1,r2,r3,(λk' hk'=>by cases hk';exact⟨rfl,_,hHH _ _ hk⟩),(λe=>by cases e),λg hg=>r4 g (ZC hg)⟩
  |nil h=>
    have hv:=bY (I.ev (St.dE hTT h));exact⟨_,[],hv,World.ownsRow_nil w 0 e size,rfl,(λi u t h=>by simp at h),(λk h=>by cases h),(λ_=>rfl),(λg hg=>by cases hg)⟩
  |aHt h hn=>exact hn.elim
 obtain⟨v,xs,hsv,hown,hxl,hxt,hk0,hk0n,hmay⟩:=hrow;obtain⟨v',w',hr,r2,q1,q2,q3,q4,q5,q6,q7⟩:=M7 (ty:=o.type) hT hown (m:=m) (c:=c) (by rw[hul];exact hl) hrd (λe=>(hnone e).1) hone hb.2 hb.1;unfold Oper.wp;have he:(execOp a.eval o).run P w = .ok (.value v') w':=by
  unfold execOp;rw[ho];simp[resolve,invoke,builtin,hsv,hxv,hr]
 rw[he,Oper.upon_value];have hcell:∀b i u,Cell w G b i u->Cell w' (λb=>if v'.ownBlock=some b then(if st then(n+m)*size else 0)else G b) b i u:=λb i u h=>by
  by_cases hb':v.ownBlock=some b
  .have hG:=(hmay b hb').2
   have h2:=h.2;rw[hG]at h2;cases st with
   |false=>simp at h2
   |true=>
     simp only[iO]at h2 hG;refine⟨(q6 b i hb' h2).trans h.1,?_⟩;show i<if v'.ownBlock=some b then(if true=true then(n+m)*size else 0)else G b
     split
     .simp only[iO]
      exact tD h2 (mM _ (Nat.le_add_right _ _))
     .rw[hG];exact h2
  .refine⟨(World.cell?_of_block (a:=⟨b,i,none⟩) (q5 b h.lt hb')).trans h.1,?_⟩
   have:v'.ownBlock≠some b:=λe=>by
    rcases q7 b e with h'|h'
    .have:=h.lt;omega
    .exact hb' h'
   simp only[aE this];exact h.2
 have hblkv:∀g,aU v'=some g->v'.ownBlock=some g:=λg hg=>by rw[<-kR r2];exact hg
 refine⟨put_defers ..,cD ν fr v',_,I.new h100 hf hd k0 (o:=.row e size (n+m) (ts++ys) st) (λk=>?_) q1 q2 q3 q4 (λb hb hnk=>?_) hcell (λk hk=>(hk0 k hk).2) (x:=v') (λg hg=>?_) ?_ ?_⟩
 .cases k0 with
  |none=>
    by_cases h:k=fr
    .subst h;simp[jB,look]
    .simp[jB,look,h,eN h]
  |some j=>
    by_cases h:k=fr
    .subst h;simp[jB,look]
    .by_cases h':k=j
     .subst h';simp[jB,look,h,eN h]
     .simp[jB,look,h,eN h,h',eN h']
 .have hne:v.ownBlock≠some b:=λe=>by
   cases k0 with
   |none=>rw[hk0n rfl]at e;cases e
   |some j=>exact hnk j rfl (by rw[(hk0 j rfl).1,kR hown];exact e)
  refine⟨q5 b hb hne,aE (λe=>?_)⟩;rcases q7 b e with h|h
  .omega
  .exact hne h
 .rcases q7 g (hblkv g hg)with h|h
  .exact .inl h
  .cases k0 with
   |none=>rw[hk0n rfl]at h;cases h
   |some j=>exact .inr ⟨j,rfl,by rw[(hk0 j rfl).1,kR hown];exact h⟩
 .refine⟨xs++us,by rw[cB];exact r2,by simp[hxl,hul],λi u t hu ht=>?_,λg hg=>?_⟩
  .by_cases hi:i<xs.length
   .rw[dV hi]at hu
    rw[dV (by omega)]at ht;exact(hxt i u t hu ht).mono hcell
   .rw[dN (by omega)]at hu
    rw[dN (by omega)]at ht;exact(htr _ u t hu (by rw[hxl];exact ht)).mono hcell
  .rw[cB]at hg
   have hg':=hblkv g hg;refine⟨?_,aI hg'⟩;rcases q7 g hg' with h|h
   .exact .inl (AF I.kept.size h)
   .exact(hmay g h).1
 .have:DR (cD ν fr v') (σ₁.aP o.dst .any (jB k0 fr (.row e size (n+m) (ts++ys) st)) fr).nm w' (λb=>if v'.ownBlock=some b then(if st then(n+m)*size else 0)else G b) (cD ν fr v' fr) (.own fr):=.own (kN ..) (by rw[cB];exact pF r2)
  rw[cB]at this;exact this
theorem XV{t:TypeId}{x:Operand}{n:Nat}{ts:List Tree}{e:TypeId}{tys:Array TypeId}(hu:P.underlying t=some (.slice e))(ho:o.op = .call { callee:=.builtin .len,args:=#[x],argTypes:=tys })(hty:tys = #[t])(hx:Src σ x n ts):aW P o σ fr (I n) []:=by
 intro E σ₁ a w hT hH h100 hf hd ⟨ν,G,I⟩ Q;obtain⟨ax,c,us,hxv,_⟩:=hx.rd hT hH I;subst hty;unfold Oper.wp;have he:(execOp a.eval o).run P w = .ok (.value (.int .i64 n)) w:=by
  unfold execOp;rw[ho];simp[resolve,invoke,builtin,hxv,Builtin.len_,run_underlying hu,goInt]
 rw[he,Oper.upon_value];exact⟨put_defers ..,ν,G,I.put (.t (.v _ rfl)) hd fr a rfl⟩
def lE(pl:List (Nat×Nat)):List D->List (Nat×D)->Option (List D)
 |cells,[]=>some cells
 |cells,(i,d)::rest=>match pl[i]? with
   |none=>none
   |some (off,size)=>if d.val&&(d.cells.length == size)&&decide (off+d.cells.length<=cells.length)then lE pl (dL cells off d.cells) rest else none
theorem aIj:∀(vs:List Value)(k off:Nat)(cells:Array Value),(vs.zipIdx k).foldl (λcs (c,j)=>cs.setIfInBounds (off+j) c) cells=pA cells (off+k) vs
 |[],_,_,_=>rfl
 |v::r,k,off,cells=>by
   rw[List.zipIdx_cons,List.foldl_cons,aIj r (k+1) off,pA,Be]
theorem Nf{ν:Nat->Value}{nm:Nat->Bool}{w:World}{G:bV}{place:Nat->Option (Nat×Nat)}{pl:List (Nat×Nat)}(hpl:∀i p,pl[i]?=some p->place i=some p):∀(parts:List (Nat×Value))(ds:List (Nat×D))(cells:Array Value)(cs out:List D),
    parts.length=ds.length->(∀(i:Nat)(p:Nat×Value)(q:Nat×D),parts[i]?=some p->ds[i]?=some q->p.1=q.1/\DR ν nm w G p.2 q.2)->cells.size=cs.length->(∀(i:Nat)(u:Value)(d:D),cells[i]?=some u->cs[i]?=some d->DR ν nm w G u d/\u.oneCell'=true)->lE pl cs ds=some out->
    ∃res,Instr.fill place cells parts=some res/\res.size=out.length/\∀(i:Nat)(u:Value)(d:D),res[i]?=some u->out[i]?=some d->DR ν nm w G u d/\u.oneCell'=true
 |[],[],cells,cs,out,_,_,hs,hr,hf=>by cases hf;exact⟨cells,rfl,hs,hr⟩
 |[],_::_,_,_,_,h,_,_,_,_=>by cases h
 |_::_,[],_,_,_,h,_,_,_,_=>by cases h
 |(i,v)::rest,(i',d)::ds,cells,cs,out,hlen,hp,hs,hr,hf=>by
   obtain⟨h1,h2⟩:=hp 0 (i,v) (i',d) rfl rfl;simp only at h1 h2;subst h1;simp only[lE]at hf;split at hf
   .cases hf
   .rename_i off size hpi
    split at hf
    .rename_i hc
     simp only[aT,sY,kJ]at hc;obtain⟨⟨c1,c2⟩,c3⟩:=hc;obtain⟨g1,g2⟩:=h2.cells c1;have hstep:Instr.fill place cells ((i,v)::rest)=Instr.fill place (pA cells off v.cells.toList) rest:=by
      simp only[Instr.fill,hpl i _ hpi];rw[aE (by simp[g1,c2];omega)]
      congr 1
      have:=aIj v.cells.toList 0 off cells;rw[Nat.add_zero]at this;rw[<-this,<-Array.foldl_toList];simp
     rw[hstep];have hvl:v.cells.toList.length=d.cells.length:=by simpa using g1
     refine Nf hpl rest ds _ _ out (by simpa using hlen) (λj p q h h'=>hp (j+1) p q (by simpa using h) (by simpa using h')) (by rw[IE,xN c3];exact hs) (λj u e hu he=>?_) hf;rw[IF _ _ _ _ (by omega)]at hu;rw[ID c3]at he;by_cases k1:j<off
     .rw[aI k1]at hu he;exact hr j u e hu he
     .rw[aE k1]at hu he
      by_cases k2:j<off+d.cells.length
      .rw[aI (by omega)]at hu
       rw[aI k2]at he;exact g2 _ u e (by simpa using hu) he
      .rw[aE (by omega)]at hu
       rw[aE k2]at he;exact hr j u e hu he
    .cases hf
inductive tA (σ:St):List (Nat×Operand)->List (Nat×D)->Prop
 |nil:tA σ [] []
 |cons {i:Nat} {x:Operand} {d d':D} {l:List (Nat×Operand)} {ds:List (Nat×D)} (h:σ.ev x=some d) (hw:cJ σ.H d d') (r:tA σ l ds):tA σ ((i,x)::l) ((i,d')::ds)
theorem tA.rel{σ:St}{ν:Nat->Value}{nm:Nat->Bool}{w:World}{G:bV}{ρ:Operand->Value}(hev:∀x d d',σ.ev x=some d->cJ σ.H d d'->DR ν nm w G (ρ x) d'){l:List (Nat×Operand)}{ds:List (Nat×D)}(h:tA σ l ds):
    (l.map λp=>(p.1,ρ p.2)).length=ds.length/\∀(i:Nat)(p:Nat×Value)(q:Nat×D),(l.map λp=>(p.1,ρ p.2))[i]?=some p->ds[i]?=some q->p.1=q.1/\DR ν nm w G p.2 q.2:=by
 induction h with
 |nil=>exact⟨rfl,λi p q h=>by simp at h⟩
 |cons h hw r ih=>
   refine⟨by simpa using ih.1,λi p q hp hq=>?_⟩;cases i with
   |zero=>simp at hp hq;subst hp hq;exact⟨rfl,hev _ _ _ h hw⟩
   |succ i=>exact ih.2 i p q (by simpa using hp) (by simpa using hq)
structure Zz(P:Program)(t:TypeId)(zs:List Value)(pl:List (Nat×Nat)):Prop where
 one:∀u∈zs,u.oneCell'=true
 run:∃place:Nat->Option (Nat×Nat),(∀i p,pl[i]?=some p->place i=some p)/\∀parts,P.built t parts=Instr.fill place zs.toArray parts
theorem aH8{t:TypeId}{zs:List Value}{pl:List (Nat×Nat)}{parts:Array (Nat×Operand)}{ds:List (Nat×D)}{out:List D}(hB:Zz P t zs pl)(ho:o.op = .build t parts)(hp:tA σ parts.toList ds)(hf:lE pl (zs.map λu=>.t (.v u)) ds=some out):aW P o σ fr (.agg out) []:=
 dM λE σ₁ ν G w a hH I hev=>by
  obtain⟨place,hpl,hrun⟩:=hB.run;obtain⟨h1,h2⟩:=hp.rel (λx d d' hx hw=>hw _ _ _ _ _ _ hH I _ (hev x d hx));obtain⟨res,hres,hsz,hrel⟩:=Nf hpl _ ds zs.toArray (zs.map λu=>.t (.v u)) out h1 h2 (by simp) (λi u d hu hd=>by
   have hz:zs[i]?=some u:=by simpa using hu
   rw[cZ,hz]at hd;cases hd;have:=hB.one u (iS.2 ⟨i,hz⟩);exact⟨.t (.v u this),this⟩) hf
  refine⟨.agg res,?_,.agg hsz (λi u d hu hd=>(hrel i u d hu hd).1) (λu hu=>?_)⟩
  .unfold execOp
   rw[ho];have:=run_build (P:=P) w t (parts.map λ(i,x)=>(i,a.eval x)) res (by rw[hrun,Array.toList_map];exact hres);simp[this]
  .obtain⟨i,hi⟩:=iS.1 hu
   have hi':res[i]?=some u:=by simpa using hi
   have hlt:i<out.length:=by rw[<-hsz];exact(mP.1 hi').1
   exact(hrel i u _ hi' (dC hlt)).2
inductive wN (H:Nat->Option aO):List D->List Tree->Prop
 |nil:wN H [] []
 |t {x:Tree} {l:List D} {xs:List Tree} (r:wN H l xs):wN H (.t x::l) (x::xs)
 |own {k n:Nat} {e:TypeId} {s:Nat} {ts:List Tree} {l:List D} {xs:List Tree} (h:H k=some (.row e s n ts true)) (r:wN H l xs):wN H (.own k::l) (.sl n ts::xs)
theorem wN.len{H:Nat->Option aO}{l:List D}{xs:List Tree}(h:wN H l xs):l.length=xs.length:=by
 induction h with
 |nil=>rfl
 |t r ih=>simp[ih]
 |own h r ih=>simp[ih]
theorem wN.rel{H:Nat->Option aO}{l:List D}{xs:List Tree}(h:wN H l xs){ν:Nat->Value}{nm:Nat->Bool}{w:World}{G:bV}(hr:∀k e s n ts,H k=some (.row e s n ts true)->TR w G (ν k) (.sl n ts)):
    ∀(i:Nat)(u:Value)(d:D)(t:Tree),l[i]?=some d->xs[i]?=some t->DR ν nm w G u d->TR w G u t:=by
 induction h with
 |nil=>intro i u d t h;simp at h
 |t r ih=>
   intro i u d t hd ht hu;cases i with
   |zero=>simp at hd ht;subst hd ht;cases hu with|t h=>exact h
   |succ i=>exact ih i u d t (by simpa using hd) (by simpa using ht) hu
 |own h r ih=>
   intro i u d t hd ht hu;cases i with
   |zero=>simp at hd ht;subst hd ht;cases hu with|own _ _=>exact hr _ _ _ _ _ h
   |succ i=>exact ih i u d t (by simpa using hd) (by simpa using ht) hu
structure AG(P:Program)(t e:TypeId)(s len:Nat)(zs:List Value):Prop where
 u:P.underlying t=some (.slice e)
 one:∀u∈zs,u.oneCell'=true
 zl:zs.length=len*s
 ml:len<=maxLen
 run:∀(w:World)(parts:Array (Nat×Value))(cells:Array Value),Instr.fill (λi=>some (i*s,s)) zs.toArray parts.toList=some cells->(Instr.buildSlice t len parts).run P w = .ok (.slice (some ⟨w.heap.size,0,none⟩) len len) (w.alloc (.cells cells e))
end
end Go.Ab
/- The abstract machine: calls. -/
namespace Go.Ab
open Go.RowKit
inductive J9 (fl:Bool) (σ:St) (nm':Nat->Bool) (ρ:Nat->Nat):List Operand->List D->Prop
 |nil:J9 fl σ nm' ρ [] []
 |cons {x:Operand} {d0 d d':D} {xs:List Operand} {ds:List D} (h:σ.ev x=some d0) (hw:cJ σ.H d0 d) (hd:eG fl σ.H nm' ρ d d') (r:J9 fl σ nm' ρ xs ds):J9 fl σ nm' ρ (x::xs) (d'::ds)
theorem J9.get{fl:Bool}{σ:St}{nm':Nat->Bool}{ρ:Nat->Nat}{xs:List Operand}{ds:List D}(h:J9 fl σ nm' ρ xs ds):xs.length=ds.length/\∀(i:Nat)(d':D),ds[i]?=some d'->∃x d0 d,xs[i]?=some x/\σ.ev x=some d0/\cJ σ.H d0 d/\eG fl σ.H nm' ρ d d':=by
 induction h with
 |nil=>exact⟨rfl,λi d' h=>by simp at h⟩
 |cons h hw hd r ih=>
   refine⟨by simp[ih.1],λi d' hi=>?_⟩;cases i with
   |zero=>simp at hi;subst hi;exact⟨_,_,_,rfl,h,hw,hd⟩
   |succ i=>obtain⟨x,d0,d,h1,h2⟩:=ih.2 i d' (by simpa using hi);exact⟨x,d0,d,by simpa using h1,h2⟩
theorem eG.mono{fl:Bool}{H H₁:Nat->Option aO}{nm':Nat->Bool}{ρ:Nat->Nat}(hH:∀k o,H k=some o->H₁ k=some o){d d':D}(h:eG fl H nm' ρ d d'):eG fl H₁ nm' ρ d d':=by
 induction h with
 |t h=>exact .t h
 |nil=>exact .nil
 |own h hk=>exact .own h hk
 |ref h hk=>exact .ref h hk
 |rd h hst ht hn=>exact .rd (hH _ _ h) hst ht hn
 |ptr=>exact .ptr
 |agg hl h ih=>exact .agg hl ih
 |aS hl h ih=>exact .aS hl ih
 |fn hl h ih=>exact .fn hl ih
 |any=>exact .any
 |via h hk=>exact .via h hk
theorem jU.mono{fl:Bool}{H H₁:Nat->Option aO}{nm':Nat->Bool}{ρ:Nat->Nat}(hH:∀k o,H k=some o->H₁ k=some o){o o':aO}(h:jU fl H nm' ρ o o'):jU fl H₁ nm' ρ o o':=by
 cases h with
 |row h hn=>exact .row h hn
 |box hl h=>exact .box hl (λi d d' h1 h2=>(h i d d' h1 h2).mono hH)
 |nest h=>exact .nest h
 |it=>exact .it
 |mp hl h=>exact .mp hl (λi p p' h1 h2=>⟨(h i p p' h1 h2).1,(h i p p' h1 h2).2.mono hH⟩)
 |bC hl h=>exact .bC hl (λi c c' h1 h2=>by
     cases h i c c' h1 h2 with
     |d hd=>exact .d (hd.mono hH)
     |cX=>exact .cX)
def back(fr:Nat)(rb:List (Nat×Nat))(k:Nat):Nat:=if fr<=k/\k<fr+8 then 100+(k-fr)else cG rb k
def kY(fr:Nat)(rb:List (Nat×Nat))(k:Nat):Bool:=(decide (fr<=k)&&decide (k<fr+8))||(look k rb).isSome
inductive rW (H':List (Nat×aO)) (nmd:Nat->Bool) (ρ:Nat->Nat):Wr->Prop
 |nil:rW H' nmd ρ []
 |gone {k:Nat} {l:Wr} (r:rW H' nmd ρ l):rW H' nmd ρ ((k,none)::l)
 |cons {k:Nat} {o o':aO} {l:Wr} (h:look (ρ k) H'=some o) (ho:jU false (λk=>look k H') nmd ρ o o') (r:rW H' nmd ρ l):rW H' nmd ρ ((k,some o')::l)
theorem rW.get{H':List (Nat×aO)}{nmd:Nat->Bool}{ρ:Nat->Nat}{W:Wr}(h:rW H' nmd ρ W){k:Nat}{o':aO}(hl:look k W=some (some o')):∃o,look (ρ k) H'=some o/\jU false (λk=>look k H') nmd ρ o o':=by
 induction h with
 |nil=>cases hl
 |gone r ih=>
   unfold look at hl;split at hl
   .cases hl
   .exact ih hl
 |cons h ho r ih=>
   unfold look at hl;split at hl
   .rename_i e;cases hl;subst e;exact⟨_,h,ho⟩
   .exact ih hl
def ES(rn rb:List (Nat×Nat))(H:List (Nat×aO)):Bool:=
 H.all (λp=>decide (50<=p.1)&&decide (p.1<100))&&decide ((H.map λp=>cG rn p.1).Nodup)&&H.all (λp=>look (cG rn p.1) rb == some p.1)&&rb.all (λp=>H.any λq=>q.1 == p.2&&cG rn q.1 == p.1)
def Ny(fr:Nat)(rn:List (Nat×Nat))(H:List (Nat×aO))(W:Wr):Bool:=
 H.all (λp=>(look (cG rn p.1) W).isSome)&&W.all (λp=>(decide (fr<=p.1)&&decide (p.1<fr+8))||H.any (λq=>cG rn q.1 == p.1))
theorem NN{α:Type}{k:Nat}:∀{l:List (Nat×α)},k∈l.map (·.1)->∃x,look k l=some x
 |[],h=>by cases h
 |p::l,h=>by
   unfold look;by_cases e:p.1=k
   .rw[aI e];exact⟨_,rfl⟩
   .rw[aE e]
    rw[iH]at h;rcases eZ.1 h with h|h
    .exact absurd h.symm e
    .exact NN h
section
variable{P:Program}{o:Oper}{σ:St}{fr:Nat}
theorem M6 {f : FuncId} {fn : Func} (hfn : P.funcs[f]? = some fn) (hname : fn.name ≠ "runtime.NumGoroutine") (hb : fn.body ≠ none) (vs : Array Value) (w : World) : (callFunc f vs).run P w = .ok (.enter f vs) w := by
 unfold callFunc;simp[run_program,hfn,hname,hb]
theorem a74{H:List (Nat×aO)}{r d:D}{H':List (Nat×aO)}{W:Wr}(rn rb:List (Nat×Nat)){E:Env}{σ₁:St}{ν:Nat->Value}{G:bV}{w:World}{tm:Array Value}(I:Inv E σ₁ ν G w tm)
    (h100:100<=fr) (hf:∀k,fr<=k->k<fr+8->σ₁.nm k=false) (hHin:∀k'∈H.map (·.1),∃o',σ₁.H (cG rn k')=some o')
    (hres:eG false (λk=>look k H') (kY fr rb) (back fr rb) r d) (hW:rW H' (kY fr rb) (back fr rb) W) (hc:Ny fr rn H W=true) (hc0:ES rn rb H=true)
    {m:Nat} {w':World} {v:Value} {ν':Nat->Value} {G':bV} {Ao:Bb w λb=>∃k'∈H.map (·.1),∃o',σ₁.H (cG rn k')=some o'/\bO w (ν (cG rn k')) o' b}
    {tg:IA G}
    (I':Inv { (⟨m,w,G,λb=>∃k'∈H.map (·.1),∃o',σ₁.H (cG rn k')=some o'/\bO w (ν (cG rn k')) o' b,λk=>ν (cG rn k),Ao,tg,[]⟩:Env)with m:=1 } (res r H') ν' G' w' #[v]) (dst:Option Tmp) (hdst:∀t,dst=some t->t<E.m) (a:Act) (ha:a.tmps=tm):
    R E (σ₁.aP dst d W fr) (a.put dst v).tmps w':=by
 subst ha;simp only[ES,aT,kJ]at hc0;obtain⟨⟨⟨c1,c2⟩,c3⟩,c6⟩:=hc0;have hin:∀k'∈H.map (·.1),50<=k'/\k'<100/\look (cG rn k') rb=some k':=λk' hk'=>by
  obtain⟨p,hp,rfl⟩:=gU.1 hk';have q1:=fG.1 c1 p hp;have q3:=fG.1 c3 p hp;simp only[aT,kJ,sY]at q1 q3;exact⟨q1.1,q1.2,q3⟩
 have hrb:∀k x,look k rb=some x->x∈H.map (·.1)/\cG rn x=k:=λk x hx=>by
  have:=fG.1 c6 _ (oR hx);simp only[vH,aT,sY]at this;obtain⟨q,hq,e1,e2⟩:=this;exact⟨gU.2 ⟨q,hq,e1⟩,by rw[<-e1];exact e2⟩
 have hnr:∀k,σ₁.nm k=true->¬ (fr<=k/\k<fr+8):=λk hk h=>by rw[hf k h.1 h.2]at hk;cases hk
 have hinnr:∀k'∈H.map (·.1),¬ (fr<=cG rn k'/\cG rn k'<fr+8):=λk' hk'=>by
  obtain⟨o',ho'⟩:=hHin k' hk';exact hnr _ (I.H _ _ ho').1
 have hXmay:∀b,(∃k'∈H.map (·.1),∃o',σ₁.H (cG rn k')=some o'/\bO w (ν (cG rn k')) o' b)->E.may b:=λb ⟨k',hk',o',ho',hb⟩=>((I.H _ _ ho').2.ft hb).2
 have hXlt:∀b,(∃k'∈H.map (·.1),∃o',σ₁.H (cG rn k')=some o'/\bO w (ν (cG rn k')) o' b)->b<w.heap.size:=λb ⟨k',hk',o',ho',hb⟩=>((I.H _ _ ho').2.ft hb).1
 obtain⟨X',hX'⟩:∃X':Nat->Prop,X'=λb=>∃k'∈H.map (·.1),∃o',σ₁.H (cG rn k')=some o'/\bO w (ν (cG rn k')) o' b:=⟨_,rfl⟩
 have hXe:∀b,X' b ↔ (∃k'∈H.map (·.1),∃o',σ₁.H (cG rn k')=some o'/\bO w (ν (cG rn k')) o' b):=λb=>by rw[hX']
 simp only[Ny,aT]at hc;obtain⟨c4,c5⟩:=hc;have hin4:∀k'∈H.map (·.1),∃x,look (cG rn k') W=some x:=λk' hk'=>by
  obtain⟨p,hp,rfl⟩:=gU.1 hk';exact E2.1 (fG.1 c4 p hp)
 have hWk:∀k x,look k W=some x->(fr<=k/\k<fr+8)\/∃k'∈H.map (·.1),cG rn k'=k:=λk x hx=>by
  have:=fG.1 c5 _ (oR hx);simp only[lS,aT,kJ,vH,sY]at this;rcases this with h|⟨q,hq,he⟩
  .exact .inl h
  .exact .inr ⟨q.1,gU.2 ⟨q,hq,rfl⟩,he⟩
 have hcell:∀b i u,Cell w G b i u->Cell w' G' b i u:=I'.eJ
 have hblk:∀b,b<w.heap.size->¬ X' b->w'.heap[b]?=w.heap[b]?/\G' b=G b:=λb hb hX=>⟨I'.kept.block b hb (λh=>hX ((hXe b).2 h)),I'.g0 b hb (λh=>hX ((hXe b).2 h))⟩
 obtain⟨ν'',hν''⟩:∃ν'':Nat->Value,ν''=λk=>if fr<=k/\k<fr+8 then ν' (100+(k-fr))else ν k:=⟨_,rfl⟩
 have hnew:∀k,kY fr rb k=true->ν'' k=ν' (back fr rb k):=λk hk=>by
  rw[hν''];simp only[kY,lS,aT,kJ]at hk;unfold back;by_cases h:fr<=k/\k<fr+8
  .simp only[aI h]
  .simp only[aE h]
   rcases hk with hk|hk
   .exact absurd hk h
   .obtain⟨x,hx⟩:=E2.1 hk
    obtain⟨h1,h2⟩:=hrb k x hx;unfold cG;rw[hx];have:=I'.fJ x (hin x h1).1 (hin x h1).2.1;simp only;rw[this];show ν k=ν (cG rn x);rw[h2]
 have hold:∀k,¬ (fr<=k/\k<fr+8)->ν'' k=ν k:=λk h=>by rw[hν''];simp only[aE h]
 have hnm:∀k,σ₁.nm k=true->(σ₁.aP dst d W fr).nm k=true/\ν'' k=ν k:=λk hk=>⟨by simp[St.aP,hk],hold k (hnr k hk)⟩
 have hnb:∀k,kY fr rb k=true->(σ₁.aP dst d W fr).nm k=true:=λk hk=>by
  simp only[kY,lS,aT,kJ]at hk;rcases hk with hk|hk
  .simp[St.aP,hk]
  .obtain⟨x,hx⟩:=E2.1 hk
   obtain⟨h1,h2⟩:=hrb k x hx;obtain⟨o',ho'⟩:=hHin x h1;rw[h2]at ho';simp[St.aP,(I.H _ _ ho').1]
 have hνr:∀k',kY fr rb k'=true->(res r H').nm (back fr rb k')=true->ν'' k'=ν' (back fr rb k'):=λk hk _=>hnew k hk
 have hWold:∀k o1,(σ₁.aP dst d W fr).H k=some o1->look k W=none->σ₁.H k=some o1:=λk o1 h hl=>by
  simp only[St.aP,hl]at h;exact h
 have hnotX:∀k o1,σ₁.H k=some o1->look k W=none->∀g,bO w (ν k) o1 g->¬ X' g:=λk o1 h hl g hg hx=>by
  obtain⟨k',hk',o',ho',hb⟩:=(hXe g).1 hx;refine I.cW k o1 _ o' h ho' (λe=>?_) g hg hb;obtain⟨x,hx⟩:=hin4 k' hk';rw[<-e,hl]at hx;cases hx
 have hWnew:∀k o1,(σ₁.aP dst d W fr).H k=some o1->look k W≠none->kY fr rb k=true/\∃o0,look (back fr rb k) H'=some o0/\jU false (λk=>look k H') (kY fr rb) (back fr rb) o0 o1:=λk o1 h hl=>by
  cases hx:look k W with
  |none=>exact absurd hx hl
  |some x=>
    simp only[St.aP,hx]at h;subst h;refine⟨?_,hW.get hx⟩;simp only[kY,lS,aT,kJ];rcases hWk k _ hx with h|⟨k',hk',he⟩
    .exact .inl h
    .right
     rw[<-he,(hin k' hk').2.2];rfl
 have hmay':∀g,(w.heap.size<=g\/X' g)->E.may g:=λg h=>by
  rcases h with h|h
  .exact .inl (AF I.kept.size h)
  .exact hXmay g ((hXe g).1 h)
 have hgX:∀k o0,look (back fr rb k) H'=some o0->kY fr rb k=true->∀g,bO w' (ν'' k) o0 g->w.heap.size<=g\/X' g:=λk o0 h hb g hg=>by
  rw[hnew k hb]at hg;rcases((I'.H _ o0 h).2.ft hg).2 with h|h
  .exact .inl h
  .exact .inr ((hXe g).2 h)
 have hft:∀k o1,σ₁.H k=some o1->look k W=none->∀g,bO w' (ν k) o1 g ↔ bO w (ν k) o1 g:=λk o1 h hl g=>
  uT λb hb=>(hblk b ((I.H k o1 h).2.sX hb) (hnotX k o1 h hl b (eK hb))).1
 have hinj:∀k k',kY fr rb k=true->kY fr rb k'=true->back fr rb k=back fr rb k'->k=k':=λk k' h h' e=>by
  have val:∀k,kY fr rb k=true->(fr<=k/\k<fr+8/\back fr rb k=100+(k-fr))\/∃x,back fr rb k=x/\x<100/\cG rn x=k:=λk h=>by
   by_cases hc:fr<=k/\k<fr+8
   .exact .inl ⟨hc.1,hc.2,by unfold back;rw[aI hc]⟩
   .right
    simp only[kY,lS,aT,kJ]at h;rcases h with h|h
    .exact absurd h hc
    .obtain⟨x,hx⟩:=E2.1 h
     obtain⟨h1,h2⟩:=hrb k x hx;exact⟨x,by unfold back;rw[aE hc];unfold cG;rw[hx],(hin x h1).2.1,h2⟩
  rcases val k h with⟨a1,a2,a3⟩|⟨x,a1,a2,a3⟩ <;> rcases val k' h' with⟨b1,b2,b3⟩|⟨y,b1,b2,b3⟩
  .omega
  .omega
  .omega
  .rw[<-a3,<-b3,<-a1,<-b1,e]
 refine⟨ν'',G',⟨I'.kept.os.trans I.kept.os,I'.kept.tape.trans I.kept.tape,I'.kept.output.trans I.kept.output,AF I.kept.size I'.kept.size,λb hb hX=>?_⟩,λb i u h=>hcell b i u (I.eJ b i u h),λk h1 h2=>?_,λb hb hX=>?_,?_,λt d' h=>?_,λk o1 h=>?_,λk o1 k' o2 h h' hne g hg=>?_⟩
 .refine(hblk b (tD hb I.kept.size) (λhx=>?_)).1.trans (I.kept.block b hb hX)
  rcases hXmay b ((hXe b).1 hx)with h|h
  .omega
  .exact hX h
 .rw[hold k (by omega)];exact I.fJ k h1 h2
 .refine(hblk b (tD hb I.kept.size) (λhx=>?_)).2.trans (I.g0 b hb hX)
  rcases hXmay b ((hXe b).1 hx)with h|h
  .omega
  .exact hX h
 .cases dst <;> simp[Act.put,I.sz]
 .simp only[St.aP]at h
  split at h
  .rename_i he
   cases h;obtain⟨v0,hv0,hd0⟩:=I'.T 0 r (by simp);simp at hv0;subst hv0;have hlt:=hdst t he;refine⟨v,by simp[he,Act.put,I.sz,hlt],(hres.rel (λ_ _ _ h=>h) I'.rows hνr hd0).mono (λk hk=>⟨hnb k hk,rfl⟩) (λ_ _ _ h=>h)⟩
  .rename_i he
   obtain⟨u,hu,hdu⟩:=I.T t d' h;refine⟨u,?_,hdu.mono hnm hcell⟩;cases hds:dst with
   |none=>simpa[Act.put]using hu
   |some t''=>
     have hne:t''≠t:=λe=>he (by rw[hds,e])
     simp only[Act.put];rw[tJ hne];exact hu
 .by_cases hl:look k W=none
  .have h0:=hWold k o1 h hl
   obtain⟨q1,q2⟩:=I.H k o1 h0;exact⟨(hnm k q1).1,q2.mono q1 hnm hcell (λg hg=>hblk g (q2.ft hg).1 (hnotX k o1 h0 hl g hg))⟩
  .obtain⟨q1,o0,q2,q3⟩:=hWnew k o1 h hl
   have hv:=(I'.H _ o0 q2).2.view (E':=E) (ν':=ν'') (k':=k) q3 I'.rows hνr (hnew k q1) (λg _ hm=>hmay' g (hm.elim .inl λh=>.inr ((hXe g).2 h)));exact⟨hnb k q1,eT.mono q1 (λk hk=>⟨hnb k hk,rfl⟩) (λ_ _ _ h=>h) (λ_ _=>⟨rfl,rfl⟩) hv⟩
 .by_cases hl:look k W=none
  .have h0:=hWold k o1 h hl
   obtain⟨q1,q2⟩:=I.H k o1 h0;rw[(hnm k q1).2,hft k o1 h0 hl]at hg;by_cases hl':look k' W=none
   .have h0':=hWold k' o2 h' hl'
    rw[(hnm k' (I.H k' o2 h0').1).2,hft k' o2 h0' hl'];exact I.cW k o1 k' o2 h0 h0' hne g hg
   .obtain⟨p1,o0,p2,p3⟩:=hWnew k' o2 h' hl'
    intro hg';rcases hgX k' o0 p2 p1 g (p3.ft.1 hg')with hh|hh
    .have:=(q2.ft hg).1;omega
    .exact hnotX k o1 h0 hl g hg hh
  .obtain⟨p1,o0,p2,p3⟩:=hWnew k o1 h hl
   by_cases hl':look k' W=none
   .have h0':=hWold k' o2 h' hl'
    obtain⟨q1,q2⟩:=I.H k' o2 h0';rw[(hnm k' q1).2,hft k' o2 h0' hl'];intro hg';rcases hgX k o0 p2 p1 g (p3.ft.1 hg)with hh|hh
    .have:=(q2.ft hg').1;omega
    .exact hnotX k' o2 h0' hl' g hg' hh
   .obtain⟨p1',o0',p2',p3'⟩:=hWnew k' o2 h' hl'
    rw[hnew k p1]at hg;rw[hnew k' p1'];exact λhg'=>I'.cW _ o0 _ o0' p2 p2' (λe=>hne (hinj k k' p1 p1' e)) g (p3.ft.1 hg) (p3'.ft.1 hg')
theorem a30{ι:Type}{C:ι->Prop}{f:FuncId}{ds:List D}{H:List (Nat×aO)}{r':ι->D}{H'':ι->List (Nat×aO)}(rn rb:List (Nat×Nat)){d':ι->D}{W':ι->Wr}
    (hrun:∀(E:Env)(σ₁:St)(ν:Nat->Value)(G:bV)(w:World)(a:Act),(∀t d,σ.T t=some d->σ₁.T t=some d)->(∀k o,σ.H k=some o->σ₁.H k=some o)->Inv E σ₁ ν G w a.tmps->
     ∃vals:List Value,(execOp a.eval o).run P w = .ok (.enter f vals.toArray) w/\vals.length=ds.length/\∀(t:Nat)(d':D),ds[t]?=some d'->∃v d0,vals[t]?=some v/\DR ν σ₁.nm w G v d0/\eG false σ.H (λk=>decide (k<100)) (cG rn) d0 d')
    (hS:aK6 P f ds H C r' H'') (hH:Bo false σ (λk=>decide (k<100)) (cG rn) H)
    (hres:∀i,C i->eG false (λk=>look k (H'' i)) (kY fr rb) (back fr rb) (r' i) (d' i)) (hW:∀i,C i->rW (H'' i) (kY fr rb) (back fr rb) (W' i)) (hc:∀i,C i->Ny fr rn H (W' i)=true) (hc0:ES rn rb H=true):E3 P o σ fr C d' W':=by
 intro E σ₁ a w hT hHH h100 hf hdst ⟨ν,G,I⟩ Q;simp only[ES,aT,kJ]at hc0;obtain⟨⟨⟨c1,c2⟩,c3⟩,c6⟩:=hc0;have hin:∀k'∈H.map (·.1),50<=k'/\k'<100/\look (cG rn k') rb=some k':=λk' hk'=>by
  obtain⟨p,hp,rfl⟩:=gU.1 hk';have q1:=fG.1 c1 p hp;have q3:=fG.1 c3 p hp;simp only[aT,kJ,sY]at q1 q3;exact⟨q1.1,q1.2,q3⟩
 have hrb:∀k x,look k rb=some x->x∈H.map (·.1)/\cG rn x=k:=λk x hx=>by
  have:=fG.1 c6 _ (oR hx);simp only[vH,aT,sY]at this;obtain⟨q,hq,e1,e2⟩:=this;exact⟨gU.2 ⟨q,hq,e1⟩,by rw[<-e1];exact e2⟩
 have hHin:∀k'∈H.map (·.1),∃o',σ₁.H (cG rn k')=some o':=λk' hk'=>by
  obtain⟨x,hx⟩:=NN hk';obtain⟨o',h1,_⟩:=hH.get hx;exact⟨o',hHH _ _ h1⟩
 have hnr:∀k,σ₁.nm k=true->¬ (fr<=k/\k<fr+8):=λk hk h=>by rw[hf k h.1 h.2]at hk;cases hk
 have hinnr:∀k'∈H.map (·.1),¬ (fr<=cG rn k'/\cG rn k'<fr+8):=λk' hk'=>by
  obtain⟨o',ho'⟩:=hHin k' hk';exact hnr _ (I.H _ _ ho').1
 unfold Oper.wp;obtain⟨vals,hrun,hlen,hargs⟩:=hrun E σ₁ ν G w a hT hHH I;rw[hrun,Oper.upon_enter]
 let X':Nat->Prop:=λb=>∃k'∈H.map (·.1),∃o',σ₁.H (cG rn k')=some o'/\bO w (ν (cG rn k')) o' b
 have hXmay:∀b,X' b->E.may b:=λb ⟨k',hk',o',ho',hb⟩=>((I.H _ _ ho').2.ft hb).2
 have hXlt:∀b,X' b->b<w.heap.size:=λb ⟨k',hk',o',ho',hb⟩=>((I.H _ _ ho').2.ft hb).1
 let E':Env:=⟨vals.toArray.size,w,G,X',λk=>ν (cG rn k),E.Ao.eJ I.kept.size I.kept.block hXmay,I.tg,[]⟩
 have hρ:∀k',decide (k'<100)=true->σ₁.nm (cG rn k')=true->(λk=>ν (cG rn k)) k'=ν (cG rn k'):=λ_ _ _=>rfl
 have hR:R E' (args ds H) vals.toArray w:=by
  refine⟨λk=>ν (cG rn k),G,⟨rfl,rfl,rfl,cE _,λ_ _ _=>rfl⟩,λ_ _ _ h=>h,λ_ _ _=>rfl,λ_ _ _=>rfl,rfl,λt d' h=>?_,λk o' h=>?_,λk o1 k' o2 h h' hne g hg=>?_⟩
  .obtain⟨v,d0,h1,h2,h3⟩:=hargs t d' h
   exact⟨v,by simp[h1],(h3.mono hHH).rel (λ_ _ _ h=>h) I.rows hρ h2⟩
  .obtain⟨o0,h1,h2⟩:=hH.get h
   have hk:k∈H.map (·.1):=Xm h;exact⟨aX (hin k hk).2.1,(I.H _ o0 (hHH _ _ h1)).2.view (h2.mono hHH) I.rows hρ rfl (λg hg _=>.inr ⟨k,hk,o0,hHH _ _ h1,hg⟩)⟩
  .obtain⟨q1,h1,l1⟩:=hH.get h
   obtain⟨q2,h2,l2⟩:=hH.get h';exact λhg'=>I.cW _ q1 _ q2 (hHH _ _ h1) (hHH _ _ h2) (λe=>hne (aHo (by rw[List.map_map];exact c2) k (Xm h) k' (Xm h') e)) g (l1.ft.1 hg) (l2.ft.1 hg')
 refine(hS E' w _ rfl rfl (by simpa using hlen) hR).mono ?_;rintro e w' ⟨v,rfl,i0,hC0,ν',G',I'⟩;obtain⟨r,hr0⟩:∃r,r' i0=r:=⟨_,rfl⟩
 obtain⟨H',hH0⟩:∃H',H'' i0=H':=⟨_,rfl⟩
 obtain⟨d,hd0⟩:∃d,d' i0=d:=⟨_,rfl⟩
 obtain⟨W,hW0⟩:∃W,W' i0=W:=⟨_,rfl⟩
 have hres:=hres i0 hC0;have hW:=hW i0 hC0;have hc:=hc i0 hC0;rw[hr0,hH0]at I';rw[hr0,hH0,hd0]at hres;rw[hH0,hW0]at hW;rw[hW0]at hc;show(a.put o.dst v).defers=a.defers/\∃i,C i/\R E (σ₁.aP o.dst (d' i) (W' i) fr) (a.put o.dst v).tmps w'
 refine⟨put_defers ..,i0,hC0,?_⟩;rw[hd0,hW0];exact a74 (H:=H) rn rb I h100 hf hHin hres hW hc (by simp only[ES,aT,kJ];exact⟨⟨⟨c1,c2⟩,c3⟩,c6⟩) I' o.dst hdst a rfl
end
end Go.Ab
