/- The abstract machine: ground laws, states, contracts. Conditions are in the theorems. -/
import Derived.WalkKit
import Derived.WalkSpells
import Derived.WalkLawsBesides
import Derived.BigQuiet
import Derived.Deep.QuietTactic
import Derived.Laws.AppendOwnNone
import Derived.Maps.AppendAt
import Derived.Test.YtlhdefefoaldfaaGreatDoorProg
import Derived.Lib.LaidTab
import Derived.Lib.ItoaNum
import Derived.IntWalk
open Array renaming getElem?_eq_none->Jy,getElem?_eq_some_iff->lI,getElem?_setIfInBounds_ne->v7,replicate->p6
open Iff renaming rfl->pY
open List renaming all_eq_true->eI,countP_cons->bAX,getElem?_eq_getElem->dE,getElem?_eq_some_iff->dC,getElem?_map->dT,getElem?_take->iX,length_cons->dD,mem_cons->eP,mem_cons_of_mem->eY,mem_iff_getElem?->jN,mem_map->fG,mem_range->tC
open Nat renaming le_refl->bZ,lt_of_lt_of_le->vV,lt_or_ge->aMk,strongRecOn->zJ
open Option.some renaming injEq->kP
theorem rB:type_of% @beq_iff_eq:=@beq_iff_eq
theorem CO:type_of% @beq_self_eq_true:=@beq_self_eq_true
theorem bE:type_of% @congrArg:=@congrArg
theorem aR:type_of% @decide_eq_false:=@decide_eq_false
theorem aQ:type_of% @decide_eq_true:=@decide_eq_true
theorem gG:type_of% @decide_eq_true_eq:=@decide_eq_true_eq
theorem aD:type_of% @if_neg:=@if_neg
theorem aJ:type_of% @if_pos:=@if_pos
theorem gZ:type_of% @if_true:=@if_true
theorem cU:type_of% @of_decide_eq_true:=@of_decide_eq_true
/- Small laws for the walks of this seat, over any program: worlds that come after a world, slices that read as lists, a region that draws its order and whose callees may make memory. -/
namespace Go
open Go.RowKit
theorem hid{p:Prop}(h:p):Hid p:=h
def cS(w w':World):Prop:=Below w.heap.size w w'
theorem cS.refl(w:World):cS w w:=Below.refl _ _
theorem cS.trans{a b c:World}(h:cS a b)(k:cS b c):cS a c:=Below.trans h (Below.mono k h.size)
theorem cS.drew{a w:World}(h:cS a w):cS a w.drew:=Below.drew h
theorem cS.drewN{a w:World}(h:cS a w)(n:Nat):cS a (w.drewN n):=⟨h.os,h.tape,h.output,h.size,h.block⟩
theorem cS.alloc{a w:World}(h:cS a w)(o:Obj):cS a (w.alloc o):=Below.alloc h h.size o
theorem cS.setCell{a w:World}(h:cS a w){p:Addr}(hp:a.heap.size<=p.block)(u:Value):cS a (w.setCell p u):=Below.setCell h hp u
theorem cS.cell{a w:World}(h:cS a w){b o:Nat}(hb:b<a.heap.size):w.cell? ⟨b,o,none⟩=a.cell? ⟨b,o,none⟩:=Below.cell (p:=⟨b,o,none⟩) h hb
def zP(w:World):Type:={ W:World // cS w W }
instance zP.some (w:World):Nonempty (zP w):=⟨⟨w,cS.refl w⟩⟩
def zP.W{w:World}(x:zP w):World:=x.1
theorem zP.iK{w:World}(x:zP w):cS w x.W:=x.2
@[go_sem] theorem zP.cell{w:World}(x:zP w){b o:Nat}(hb:b<w.heap.size):x.W.cell? ⟨b,o,none⟩=w.cell? ⟨b,o,none⟩:=x.2.cell hb
section
variable{P:Program}
end
def Rd(w:World)(a:Option Addr)(cs:List Value):Prop:=∀j v,cs[j]?=some v->∃ad,a=some ad/\w.cell? (ad.add j)=some v
def Zf(l:List Int):List Value:=l.map (Value.int .i64)
def okI(l:List Int):Prop:=∀x∈l,-9223372036854775808<=x/\x<=9223372036854775807
theorem a9K{w:World}{b off s:Nat}{v:Value}(h:w.cell? ⟨b,off,some s⟩=some v):False:=by
 unfold World.cell? at h;split at h <;> simp at h
theorem Rd.get{w:World}{a:Option Addr}{cs:List Value}(h:Rd w a cs){i:Nat}{v:Value}(hi:cs[i]?=some v):
    ∃b off,a=some ⟨b,off,none⟩/\w.cell? ⟨b,off+i,none⟩=some v/\b<w.heap.size:=by
 obtain⟨⟨b,off,spot⟩,rfl,hc⟩:=h i v hi;have hlt:i<cs.length:=(dC.1 hi).1;cases spot with
 |some s=>
   exfalso;obtain⟨ad,e,hc'⟩:=h 0 cs[0] (by simp);simp only[kP]at e;subst e;exact a9K hc'
 |none=>
   have hc':w.cell? ⟨b,off+i,none⟩=some v:=by
    unfold Addr.add at hc;by_cases h0:i=0
    .simpa[h0]using hc
    .simpa[h0]using hc
   exact⟨b,off,rfl,hc',World.block_lt_of_cell? w _ hc'⟩
theorem Rd.iK{w w':World}{a:Option Addr}{cs:List Value}(h:Rd w a cs)(hw:cS w w'):Rd w' a cs:=λj v hj=>by
 obtain⟨b,off,e,hc,hb⟩:=h.get hj;obtain⟨ad,e',hc'⟩:=h j v hj;refine⟨ad,e',?_⟩;have:ad.add j=⟨b,off+j,none⟩:=by
  rw[e]at e';simp only[kP]at e';subst e';unfold Addr.add;by_cases h0:j=0 <;> simp[h0]
 rw[this]at hc' ⊢;rw[hw.cell hb];exact hc'
theorem Rd.int{w:World}{a:Option Addr}{l:List Int}(h:Rd w a (Zf l))(ok:okI l){i:Nat}(hi:i<l.length):
    ∃b off x,a=some ⟨b,off,none⟩/\w.cell? ⟨b,off+i,none⟩=some (.int .i64 x)/\b<w.heap.size/\Hid (l[i]?=some x) /\ -9223372036854775808<=x/\x<=9223372036854775807:=by
 obtain⟨b,off,e,hc,hb⟩:=h.get (i:=i) (v:=.int .i64 l[i]) (by simp[Zf,hi]);exact⟨b,off,l[i],e,hc,hb,by unfold Hid;simp[hi],ok _ (by simp)⟩
end Go
namespace Go
open Go.RowKit
def a5E(p:Int×Int):List Value:=[.int .i64 p.1,.int .i64 p.2]
def JS(l:List (Int×Int)):List Value:=l.flatMap a5E
def okP(l:List (Int×Int)):Prop:=∀p∈l,(-9223372036854775808<=p.1/\p.1<=9223372036854775807)/\(-9223372036854775808<=p.2/\p.2<=9223372036854775807)
def pr(p:Int×Int):Value:=.agg #[.int .i64 p.1,.int .i64 p.2]
theorem Rd.nil{w:World}{a:Option Addr}:Rd w a []:=λj v hj=>by simp at hj
theorem Rd.a62{w:World}{cs:List Value}(h:Rd w none cs):cs=[]:=by
 cases cs with
 |nil=>rfl
 |cons u l=>obtain⟨ad,e,_⟩:=h 0 u rfl;cases e
theorem Rd.new{w:World}{cs:Array Value}{e:TypeId}:Rd (w.alloc (.cells cs e)) (some ⟨w.heap.size,0,none⟩) cs.toList:=λj v hj=>by
 refine⟨_,rfl,?_⟩;have hh:(w.alloc (.cells cs e)).heap[w.heap.size]?=some (.cells cs e):=heap_alloc_new w _;have h0:((⟨w.heap.size,0,none⟩:Addr).add j)=⟨w.heap.size,j,none⟩:=by
  unfold Addr.add;by_cases hj0:j=0 <;> simp[hj0]
 rw[h0];simp only[World.cell?,hh];simpa using hj
end Go
namespace Go
open Go.RowKit
structure SE(w:World)(a:Option Addr)(n c:Nat)(l:List Int):Prop where
 len:n=l.length
 rd:Rd w a (Zf l)
 ok:okI l
 cap:n<=c
 nil:a=none->c=0
 size:n*8<=140737488351232
def aAs(w:World)(v:Value)(l:List Int):Prop:=∃a c,v = .slice a l.length c/\SE w a l.length c l
structure Rq(w:World)(a:Option Addr)(n c:Nat)(l:List (Int×Int)):Prop where
 len:n=l.length
 rd:Rd w a (JS l)
 ok:okP l
 cap:n<=c
 nil:a=none->c=0
 size:n*16<=140737488351232
def Prs(w:World)(v:Value)(l:List (Int×Int)):Prop:=∃a c,v = .slice a l.length c/\Rq w a l.length c l
theorem SE.iK{w w':World}{a:Option Addr}{n c:Nat}{l:List Int}(h:SE w a n c l)(hw:cS w w'):SE w' a n c l:={ h with rd:=h.rd.iK hw }
theorem Rq.iK{w w':World}{a:Option Addr}{n c:Nat}{l:List (Int×Int)}(h:Rq w a n c l)(hw:cS w w'):Rq w' a n c l:={ h with rd:=h.rd.iK hw }
theorem aAs.iK{w w':World}{v:Value}{l:List Int}(h:aAs w v l)(hw:cS w w'):aAs w' v l:=let⟨a,c,e,h⟩:=h;⟨a,c,e,h.iK hw⟩
theorem Prs.iK{w w':World}{v:Value}{l:List (Int×Int)}(h:Prs w v l)(hw:cS w w'):Prs w' v l:=let⟨a,c,e,h⟩:=h;⟨a,c,e,h.iK hw⟩
end Go
namespace Go
open Go.RowKit
end Go
namespace Go
def Sep(v v':Value):Prop:=∀k,v.ownBlock=some k->v'.ownBlock=some k->False
theorem Sep.symm{v v':Value}(h:Sep v v'):Sep v' v:=λk a b=>h k b a
theorem Sep.kept{v v':Value}(h:Sep v v'){w w':World}{base:Nat}{e:TypeId}{size n:Nat}{xs:List Value}(ho:w.ownsRow base e size v n xs)(hg:w.grownBy w' v'.ownBlock):w'.ownsRow base e size v n xs:=by
 refine ho.kept hg ?_;cases hv:v.ownBlock with
 |none=>exact .inl rfl
 |some k=>exact .inr λe=>h k hv e.symm
theorem Sep.nil(v:Value):Sep (.slice none 0 0) v:=λk h=>by cases h
end Go
namespace Go
open Go.RowKit
end Go
/- A region that draws its order, walked as a flow of values: each operation gets a predicate on its value that lasts in later worlds, and is walked once, from its operands' predicates, in any later world. -/
namespace Go
open Go.RowKit
structure FV where
 p:Value->World->Prop
 st:∀v W W',p v W->cS W W'->p v W'
def FV.is(u:Value):FV:=⟨λv _=>v=u,λ_ _ _ h _=>h⟩
def FV.pure(q:Value->Prop):FV:=⟨λv _=>q v,λ_ _ _ h _=>h⟩
def a8P(Vs:List FV)(i:Nat)(v:Value)(W:World):Prop:=(Vs.getD i (FV.pure λ_=>True)).p v W
def Region.fE(ops:Array Oper)(j:Nat):Option Tmp:=(ops[j]?).bind (·.dst)
section
variable(P:Program)(ops:Array Oper)(Vs:List FV)(w0:World)
end
def Act.lA(vals:Nat->Value):List (Nat×Tmp)->Act->Act
 |[],a=>a
 |p::ps,a=>Act.lA vals ps (a.put (some p.2) (vals p.1))
theorem Act.Qb(vals:Nat->Value){d:Tmp}:∀(ps:List (Nat×Tmp))(a:Act),(∀p∈ps,p.2≠d)->(a.lA vals ps).tmps[d]?=a.tmps[d]?
 |[],a,_=>rfl
 |p::ps,a,h=>by
   rw[Act.lA,Act.Qb vals ps _ (λq hq=>h q (eY _ hq))];have:p.2≠d:=h p (by simp);simp[Act.put,v7 this]
theorem Act.aK2(vals:Nat->Value){d:Tmp}{k:Nat}:∀(ps:List (Nat×Tmp))(a:Act),d<a.tmps.size->(∃p∈ps,p.2=d)->(∀p∈ps,p.2=d->p.1=k)->(a.lA vals ps).tmps[d]?=some (vals k)
 |[],a,_,h,_=>by obtain⟨p,hp,_⟩:=h;cases hp
 |p::ps,a,hd,h,hu=>by
   rw[Act.lA];by_cases h':∃q∈ps,q.2=d
   .exact Act.aK2 vals ps _ (by simpa[Act.put]using hd) h' (λq hq=>hu q (eY _ hq))
   .rw[Act.Qb vals ps _ (λq hq he=>h' ⟨q,hq,he⟩)]
    obtain⟨q,hq,hqd⟩:=h;have:q=p:=by
     rcases eP.1 hq with h1|h1
     .exact h1
     .exact absurd ⟨q,h1,hqd⟩ h'
    subst this;have hk:=hu q (by simp) hqd;subst hk;subst hqd;simp[Act.put,hd]
theorem aMM{α:Type}{p q:α->Bool}{i:α}:∀(l:List α),i∈l->p i=true->q i=false->(∀j,q j=true->p j=true)->l.countP q<l.countP p
 |[],h,_,_,_=>by cases h
 |b::l,h,hp,hq,hle=>by
   have hmono:l.countP q<=l.countP p:=List.countP_mono_left (λj _=>hle j);rw[bAX,bAX];rcases eP.1 h with rfl|h
   .simp[hp,hq];omega
   .have:=aMM l h hp hq hle
    by_cases hb:q b=true
    .simp[hb,hle b hb];omega
    .simp[hb];split <;> omega
def Bn(n:Nat)(listed:Array Bool):Nat:=(List.range n).countP λi=>!listed.getD i true
theorem aJe{n i:Nat}{listed:Array Bool}(hi:i<n)(h:listed.getD i true=false):Bn n (listed.setIfInBounds i true)<Bn n listed:=by
 have hlt:i<listed.size:=by
  rcases aMk i listed.size with h'|h'
  .exact h'
  .simp[Jy h']at h
 refine aMM (i:=i) _ (tC.2 hi) (by simpa using h) (by simp[hlt]) (λj hj=>?_);by_cases hij:i=j
 .subst hij;simpa using h
 .rw[getD_set_ne true hij]at hj;exact hj
theorem aJf{n i:Nat}{listed:Array Bool}(hi:i<n)(h:listed.getD i true=false):0<Bn n listed:=
 List.countP_pos_iff.2 ⟨i,tC.2 hi,by simpa using h⟩
theorem aJg(n:Nat):Bn n (p6 n false)<=n:=by
 have:=List.countP_le_length (l:=List.range n) (p:=λi=>!(p6 n false).getD i true);simpa[Bn]using this
structure rL(ops:Array Oper)(pre:Nat->List Nat)(all:List (Nat×Tmp))(uses:Nat->List (Nat×Tmp))(m:Nat):Prop where
 Y9:Region.noSelect ops=true
 len:all.length<=ops.size
 back:∀i o,ops[i]?=some o->∀e∈o.after,Region.binds .any e=true->e.on<i
 Bt:∀i o,ops[i]?=some o->∀j∈pre i,j<i/\∃e∈o.after,Region.binds .any e=true/\(e.on=j\/j∈pre e.on)
 tgt:∀k j d,all[k]?=some (j,d)->j=k/\d<m/\Region.fE ops k=some d/\∀k' j' d',all[k']?=some (j',d')->k'≠k->d'≠d
 use:∀i o,i<all.length->ops[i]?=some o->(∀p∈uses i,p.1∈pre i/\all[p.1]?=some p)/\∀t∈o.looksAt ops,∀p∈all,p.2=t->(p.1∈pre i/\p∈uses i)\/i∈pre p.1
 tail:∀i,all.length<=i->i<ops.size->∀j,j<i->j∈pre i
def On(listed:Array Bool)(j:Nat):Prop:=listed.getD j false=true
theorem yH{n:Nat}{listed:Array Bool}(hs:listed.size=n){j:Nat}(hj:j<n):¬ On listed j ↔ listed.getD j true=false:=by
 unfold On;simp[hs,hj]
theorem a5T{listed:Array Bool}{i j:Nat}(h:On (listed.setIfInBounds i true) j):j=i\/On listed j:=by
 by_cases hij:i=j
 .exact .inl hij.symm
 .exact .inr (by unfold On at *;rw[getD_set_ne false hij]at h;exact h)
structure oQ(ops:Array Oper)(listed:Array Bool):Prop where
 sz:listed.size=ops.size
 down:∀i o,On listed i->ops[i]?=some o->∀e∈o.after,Region.binds .any e=true->On listed e.on
theorem On.lt{ops:Array Oper}{listed:Array Bool}(h:oQ ops listed){j:Nat}(hj:On listed j):j<ops.size:=by
 unfold On at hj;rcases aMk j listed.size with h'|h'
 .rw[<-h.sz];exact h'
 .simp[Jy h']at hj
theorem oQ.set{ops:Array Oper}{listed:Array Bool}(h:oQ ops listed){i:Nat}(hr:i∈Region.ready .any ops listed):oQ ops (listed.setIfInBounds i true):=by
 refine⟨by simpa using h.sz,λk o hk ho e he hb=>?_⟩;obtain⟨h0,o',ho',hall⟩:=mem_ready.1 hr;rcases a5T hk with rfl|hk
 .rw[ho]at ho'
  cases ho';exact getD_set_true (hall e he hb)
 .exact getD_set_true (h.down k o hk ho e he hb)
section
variable{ops:Array Oper}{pre:Nat->List Nat}{all:List (Nat×Tmp)}{uses:Nat->List (Nat×Tmp)}{m:Nat}{listed:Array Bool}
theorem rL.yF(F:rL ops pre all uses m)(h:oQ ops listed):∀(i j:Nat),On listed i->j∈pre i->On listed j:=by
 intro i
 induction i using zJ with
 |_ i ih=>
   intro j hi hj;have hlt:=On.lt h hi;have ho:ops[i]?=some ops[i]:=by simp[hlt]
   obtain⟨_,e,he,hb,hc⟩:=F.Bt i _ ho j hj;have hon:=h.down i _ hi ho e he hb;rcases hc with hc|hc
   .exact hc ▸ hon
   .exact ih e.on (F.back i _ ho e he hb) j hon hc
theorem rL.Ez(F:rL ops pre all uses m)(h:oQ ops listed){i j:Nat}(hr:i∈Region.ready .any ops listed)(hj:j∈pre i):On listed j:=by
 obtain⟨h0,o,ho,hall⟩:=mem_ready.1 hr;obtain⟨_,e,he,hb,hc⟩:=F.Bt i o ho j hj;rcases hc with hc|hc
 .exact hc ▸ hall e he hb
 .exact F.yF h e.on j (hall e he hb) hc
theorem rL.least(F:rL ops pre all uses m)(h:oQ ops listed):∀i,i<ops.size->¬ On listed i->∃k,k<=i/\k∈Region.ready .any ops listed:=by
 intro i
 induction i using zJ with
 |_ i ih=>
   intro hlt hi;by_cases hex:∃j,j<i/\¬ On listed j
   .obtain⟨j,hj,hn⟩:=hex
    obtain⟨k,hk,hr⟩:=ih j hj (by omega) hn;exact⟨k,by omega,hr⟩
   .have ho:ops[i]?=some ops[i]:=by simp[hlt]
    refine⟨i,bZ _,mem_ready.2 ⟨(yH h.sz hlt).1 hi,_,ho,λe he hb=>?_⟩⟩;have:=F.back i _ ho e he hb;exact Classical.not_not.1 λhn=>hex ⟨e.on,this,hn⟩
end
structure aMx(ops:Array Oper)(all:List (Nat×Tmp))(Vs:List FV)(w0:World)(a:Act)(listed:Array Bool)(a':Act)(W:World)(vals:Nat->Value):Prop where
 bAh:∀i,all.length<=i->¬ On listed i
 df:a'.defers=a.defers
 ts:a'.tmps.size=a.tmps.size
 val:∀p∈all,On listed p.1->a'.tmps[p.2]?=some (vals p.1)
 v:∀p∈all,On listed p.1->a8P Vs p.1 (vals p.1) W
 oth:∀d,(∀p∈all,On listed p.1->p.2≠d)->a'.tmps[d]?=a.tmps[d]?
 iK:cS w0 W
section
variable{ops:Array Oper}{pre:Nat->List Nat}{all:List (Nat×Tmp)}{uses:Nat->List (Nat×Tmp)}{listed:Array Bool}{P:Program}{Q:Exit->Act->World->Prop}{Vs:List FV}{w0:World}{a:Act}
theorem rL.same(F:rL ops pre all uses a.tmps.size){p q:Nat×Tmp}(hp:p∈all)(hq:q∈all)(h:p.2=q.2):p=q:=by
 obtain⟨k,hk⟩:=jN.1 hp;obtain⟨k',hk'⟩:=jN.1 hq;obtain⟨h1,h2,h3,h4⟩:=F.tgt k p.1 p.2 hk;by_cases hkk:k'=k
 .subst hkk;rw[hk]at hk';cases hk';rfl
 .exact absurd h.symm (h4 k' q.1 q.2 hk' hkk)
theorem rL.a78(F:rL ops pre all uses a.tmps.size){p:Nat×Tmp}(hp:p∈all):all[p.1]?=some p/\p.2<a.tmps.size/\Region.fE ops p.1=some p.2/\p.1<all.length:=by
 obtain⟨k,hk⟩:=jN.1 hp;obtain⟨h1,h2,h3,h4⟩:=F.tgt k p.1 p.2 hk;exact⟨h1 ▸ hk,h2,h1 ▸ h3,h1 ▸ (dC.1 hk).1⟩
theorem aMx.bAg(F:rL ops pre all uses a.tmps.size)(hd:oQ ops listed){a':Act}{W:World}{vals:Nat->Value}(I:aMx ops all Vs w0 a listed a' W vals)
    {i:Nat} (hr:i∈Region.ready .any ops listed) {o:Oper} (ho:ops[i]?=some o) (hil:i<all.length) {t:Tmp} (ht:t∈o.looksAt ops):a'.tmps[t]?=(a.lA vals (uses i)).tmps[t]?:=by
 obtain⟨U1,U2⟩:=F.use i o hil ho;have hu:∀p∈uses i,p∈all:=λp hp=>jN.2 ⟨_,(U1 p hp).2⟩
 by_cases hex:∃p∈all,p.2=t
 .obtain⟨p,hp,rfl⟩:=hex
  rcases U2 p.2 ht p hp rfl with⟨h1,h2⟩|h1
  .rw[I.val p hp (F.Ez hd hr h1),Act.aK2 vals (k:=p.1) (uses i) a (F.a78 hp).2.1 ⟨p,h2,rfl⟩ (λq hq he=>by rw[F.same (hu q hq) hp he])]
  .have hno:¬ On listed p.1:=λhon=>by
    have h0:=(mem_ready.1 hr).1;exact(yH hd.sz (lI.1 ho).1).2 h0 (F.yF hd p.1 i hon h1)
   rw[I.oth p.2 (λq hq hon he=>by rw[F.same hq hp he]at hon;exact hno hon)];rw[Act.Qb vals (uses i) a (λq hq he=>by
    have:=F.same (hu q hq) hp he;subst this;exact hno (F.Ez hd hr (U1 q hq).1))]
 .rw[I.oth t (λq hq _ he=>hex ⟨q,hq,he⟩),Act.Qb vals (uses i) a (λq hq he=>hex ⟨q,hu q hq,he⟩)]
end
end Go
/- What a seat knows of its package variables for good. -/
namespace Go.Ab
def vI:Nat->Option (List Value)
 |0=>some [.int .u8 26,.int .u8 1,.int .u8 3,.int .u8 9,.int .u8 25,.int .u8 17,.int .u8 11,.int .u8 27,.int .u8 19,.int .u8 10]
 |1=>some [.int .u8 1,.int .u8 3,.int .u8 9,.int .u8 25,.int .u8 17,.int .u8 11,.int .u8 27,.int .u8 19,.int .u8 10,.int .u8 26,.int .u8 5,.int .u8 7,.int .u8 13,.int .u8 29,.int .u8 21,.int .u8 15,.int .u8 31,.int .u8 23,.int .u8 14,.int .u8 30,.int .u8 37,.int .u8 39,.int .u8 58,.int .u8 45,.int .u8 61,.int .u8 53]
 |2=>some [.int .u8 22,.int .u8 36,.int .u8 33,.int .u8 12,.int .u8 24,.int .u8 54,.int .u8 42,.int .u8 28,.int .u8 55,.int .u8 62]
 |3=>some [.int .i64 0,.int .i64 999999,.int .i64 4,.int .u8 0,.int .i64 0,.int .i64 25,.int .i64 4,.int .u8 0,.int .i64 1,.int .i64 0,.int .i64 3,.int .u8 45,.int .i64 2,.int .i64 0,.int .i64 1,.int .u8 43,.int .i64 2,.int .i64 0,.int .i64 1,.int .u8 45,.int .i64 2,.int .i64 0,.int .i64 2,.int .u8 42,.int .i64 2,.int .i64 0,.int .i64 2,.int .u8 47,.int .i64 2,.int .i64 0,.int .i64 3,.int .u8 94,.int .i64 1,.int .i64 0,.int .i64 4,.int .u8 82,.int .i64 2,.int .i64 0,.int .i64 0,.int .u8 61,.int .i64 2,.int .i64 0,.int .i64 0,.int .u8 60]
 |_=>none
def Bq (w : World) : Prop := Lib.TabIs Go.Proofs.Tryz.prog w "internal/strconv.uint64pow10" .u64 Lib.pow10Tab ∧ ∀ g vs, vI g = some vs → ∀ i u, vs[i]? = some u → w.cell? ⟨g, i, none⟩ = some u
def Iw(G:Nat->Nat):Prop:=∀g vs,vI g=some vs->vs.length<=G g
theorem aJw{w:World}(h:Bq w){g:Nat}{vs:List Value}(hg:vI g=some vs){i:Nat}{u:Value}(hu:vs[i]?=some u):w.cell? ⟨g,i,none⟩=some u:=h.2 g vs hg i u hu
theorem a7c{g:Nat}{vs:List Value}(h:vI g=some vs){u:Value}(hu:u∈vs):u.oneCell'=true:=by
 have:∀vs,vI g=some vs->vs.all (·.oneCell')=true:=by
  intro vs h;unfold vI at h;split at h
  .cases h;rfl
  .cases h;rfl
  .cases h;rfl
  .cases h;rfl
  .cases h
 exact eI.1 (this vs h) u hu
end Go.Ab
/- The abstract machine: data that a walk carries, what a world holds of them, and the states of a walk. -/
namespace Go.Ab
open Go.RowKit
inductive Tree where
 |v (x:Value)
 |sl (n:Nat) (ts:List Tree)
abbrev cE:=Nat->Nat
def Cell(w:World)(G:cE)(b i:Nat)(u:Value):Prop:=w.cell? ⟨b,i,none⟩=some u/\i<G b
inductive TR (w:World) (G:cE):Value->Tree->Prop
 |v (x:Value) (h:x.oneCell'=true):TR w G x (.v x)
 |nil {a:Option Addr} {c:Nat} (h:a=none->c=0):TR w G (.slice a 0 c) (.sl 0 [])
 |sl (b o n c:Nat) (us:List Value) (ts:List Tree) (hl:us.length=ts.length) (hc:∀(i:Nat)(u:Value),us[i]?=some u->Cell w G b (o+i) u)
     (hn:n<=c) (h:∀(i:Nat)(u:Value)(t:Tree),us[i]?=some u->ts[i]?=some t->TR w G u t):TR w G (.slice (some ⟨b,o,none⟩) n c) (.sl n ts)
theorem TR.mono{w w':World}{G G':cE}(hx:∀b i u,Cell w G b i u->Cell w' G' b i u){v:Value}{t:Tree}(h:TR w G v t):TR w' G' v t:=by
 induction h with
 |v x h=>exact .v x h
 |nil h=>exact .nil h
 |sl b o n c us ts hl hc hn h ih=>exact .sl b o n c us ts hl (λi u hi=>hx _ _ _ (hc i u hi)) hn ih
theorem TR.one{w:World}{G:cE}{v:Value}{t:Tree}(h:TR w G v t):v.oneCell'=true:=by
 cases h with
 |v x h=>exact h
 |nil h=>rfl
 |sl b o n c us ts hl hc hn h=>rfl
inductive D where
 |t (x:Tree)
 |agg (ds:List D)
 |bD (ds:List D)
 |own (k:Nat)
 |ref (k off:Nat)
 |ptr (ts:List Tree) (off:Nat)
 |fn (f:FuncId) (caps:List D)
 |any
 |sub (k i:Nat)
 |jH (k i j:Nat)
 |vw (k off n:Nat)
 |via (k:Nat) (r:Value->Value->Prop)
def bQ:Value->Option Nat
 |.pointer (some a)=>some a.block
 |.slice (some a) _ _=>some a.block
 |.map (some g)=>some g
 |_=>none
inductive DR (ν:Nat->Value) (nm:Nat->Bool) (w:World) (G:cE):Value->D->Prop
 |t {v:Value} {x:Tree} (h:TR w G v x):DR ν nm w G v (.t x)
 |agg {vs:Array Value} {ds:List D} (hl:vs.size=ds.length) (h:∀(i:Nat)(u:Value)(d:D),vs[i]?=some u->ds[i]?=some d->DR ν nm w G u d) (h1:∀u∈vs.toList,u.oneCell'=true):DR ν nm w G (.agg vs) (.agg ds)
 |bD {vs:Array Value} {ds:List D} (hl:vs.size=ds.length) (h:∀(i:Nat)(u:Value)(d:D),vs[i]?=some u->ds[i]?=some d->DR ν nm w G u d):DR ν nm w G (.tuple vs) (.bD ds)
 |own {k:Nat} (hk:nm k=true) (h1:(ν k).oneCell'=true):DR ν nm w G (ν k) (.own k)
 |ref {k off g:Nat} (hk:nm k=true) (hg:bQ (ν k)=some g):DR ν nm w G (.pointer (some ⟨g,off,none⟩)) (.ref k off)
 |ptr {b o off:Nat} {us:List Value} {ts:List Tree} (hl:us.length=ts.length) (hc:∀(i:Nat)(u:Value),us[i]?=some u->Cell w G b (o+i) u) (h:∀(i:Nat)(u:Value)(t:Tree),us[i]?=some u->ts[i]?=some t->TR w G u t):
     DR ν nm w G (.pointer (some ⟨b,o+off,none⟩)) (.ptr ts off)
 |fn {f:FuncId} {vs:Array Value} {ds:List D} (hl:vs.size=ds.length) (h:∀(i:Nat)(u:Value)(d:D),vs[i]?=some u->ds[i]?=some d->DR ν nm w G u d):DR ν nm w G (.func (.func f) #[] vs) (.fn f ds)
 |any {v:Value}:DR ν nm w G v .any
 |sub {k i g:Nat} {v:Value} (hk:nm k=true) (hg:bQ (ν k)=some g) (hc:Cell w G g i v) (h1:v.oneCell'=true):DR ν nm w G v (.sub k i)
 |jH {k i j g g' n c:Nat} (hk:nm k=true) (hg:bQ (ν k)=some g) (hc:Cell w G g i (.slice (some ⟨g',0,none⟩) n c)):DR ν nm w G (.pointer (some ⟨g',j,none⟩)) (.jH k i j)
 |vw {k off n o c g:Nat} (hk:nm k=true) (hg:bQ (ν k)=some g) (ho:0<n->o=off) (hn:n<=c):DR ν nm w G (.slice (some ⟨g,o,none⟩) n c) (.vw k off n)
 |Im {k off c:Nat} (hk:nm k=true) (hc:c=0):DR ν nm w G (.slice none 0 c) (.vw k off 0)
 |via {k:Nat} {r:Value->Value->Prop} {v:Value} (hk:nm k=true) (h:r (ν k) v) (h1:v.oneCell'=true):DR ν nm w G v (.via k r)
theorem DR.mono{ν ν':Nat->Value}{nm nm':Nat->Bool}{w w':World}{G G':cE}(hn:∀k,nm k=true->nm' k=true/\ν' k=ν k)(hx:∀b i u,Cell w G b i u->Cell w' G' b i u){v:Value}{d:D}(h:DR ν nm w G v d):DR ν' nm' w' G' v d:=by
 induction h with
 |t h=>exact .t (h.mono hx)
 |agg hl h h1 ih=>exact .agg hl ih h1
 |bD hl h ih=>exact .bD hl ih
 |own hk h1=>rw[<-(hn _ hk).2]at h1 ⊢;exact .own (hn _ hk).1 h1
 |ref hk hg=>exact .ref (hn _ hk).1 (by rw[(hn _ hk).2];exact hg)
 |ptr hl hc h=>exact .ptr hl (λi u hi=>hx _ _ _ (hc i u hi)) (λi u t hu ht=>(h i u t hu ht).mono hx)
 |fn hl h ih=>exact .fn hl ih
 |any=>exact .any
 |sub hk hg hc h1=>exact .sub (hn _ hk).1 (by rw[(hn _ hk).2];exact hg) (hx _ _ _ hc) h1
 |jH hk hg hc=>exact .jH (hn _ hk).1 (by rw[(hn _ hk).2];exact hg) (hx _ _ _ hc)
 |vw hk hg ho hn'=>exact .vw (hn _ hk).1 (by rw[(hn _ hk).2];exact hg) ho hn'
 |Im hk hc=>exact .Im (hn _ hk).1 hc
 |via hk h h1=>exact .via (hn _ hk).1 (by rw[(hn _ hk).2];exact h) h1
def D.one:D->Bool
 |.agg _|.bD _|.any=>false
 |_=>true
theorem DR.a5R{ν:Nat->Value}{nm:Nat->Bool}{w:World}{G:cE}{v:Value}{d:D}(h:DR ν nm w G v d)(ho:d.one=true):v.oneCell'=true:=by
 cases h with
 |t h=>exact h.one
 |own hk h1=>exact h1
 |agg=>cases ho
 |bD=>cases ho
 |any=>cases ho
 |ref=>rfl
 |ptr=>rfl
 |fn=>rfl
 |sub hk hg hc h1=>exact h1
 |jH=>rfl
 |vw=>rfl
 |Im=>rfl
 |via _ _ h1=>exact h1
inductive NC where
 |q9 (d:D)
 |fQ (n:Nat) (ts:List Tree)
inductive aZ where
 |box (e:TypeId) (ds:List D)
 |row (e:TypeId) (s n:Nat) (ts:List Tree) (st:Bool)
 |nest (e e':TypeId) (s:Nat) (ls:List (Nat×List Tree))
 |mp (l:List (Value×D))
 |dZ (e e':TypeId) (m s n:Nat) (cs:List NC)
 |it (s:ByteArray) (pos:Nat)
def cZ(w:World)(v:Value):aZ->Nat->Prop
 |.nest _ _ _ ls,g=>bQ v=some g\/∃(g0 i:Nat)(x:Value),bQ v=some g0/\i<ls.length/\w.cell? ⟨g0,i,none⟩=some x/\bQ x=some g
 |.box ..,g=>bQ v=some g
 |.row ..,g=>bQ v=some g
 |.mp ..,g=>bQ v=some g
 |.it ..,g=>bQ v=some g
 |.dZ _ _ _ _ _ cs,g=>bQ v=some g\/∃(g0 i:Nat)(x:Value)(q:Nat)(ts:List Tree),bQ v=some g0/\cs[i]?=some (.fQ q ts)/\w.cell? ⟨g0,i,none⟩=some x/\bQ x=some g
theorem gF{w:World}{v:Value}{o:aZ}{g:Nat}(h:bQ v=some g):cZ w v o g:=by cases o <;> first|exact .inl h|exact h
theorem CD{w w':World}{v:Value}{o:aZ}(h:∀g,bQ v=some g->w'.heap[g]?=w.heap[g]?){g:Nat}:cZ w' v o g ↔ cZ w v o g:=by
 cases o with
 |box=>exact pY
 |row=>exact pY
 |mp=>exact pY
 |it=>exact pY
 |dZ e e' m s n cs=>
   have hc:∀g0 i,bQ v=some g0->w'.cell? ⟨g0,i,none⟩=w.cell? ⟨g0,i,none⟩:=λg0 i h0=>World.cell?_of_block (a:=⟨g0,i,none⟩) (h g0 h0)
   constructor
   .rintro(h1|⟨g0,i,x,q,ts,h1,h2,h3,h4⟩)
    .exact .inl h1
    .exact .inr ⟨g0,i,x,q,ts,h1,h2,by rw[<-hc g0 i h1];exact h3,h4⟩
   .rintro(h1|⟨g0,i,x,q,ts,h1,h2,h3,h4⟩)
    .exact .inl h1
    .exact .inr ⟨g0,i,x,q,ts,h1,h2,by rw[hc g0 i h1];exact h3,h4⟩
 |nest e e' s ls=>
   have hc:∀g0 i,bQ v=some g0->w'.cell? ⟨g0,i,none⟩=w.cell? ⟨g0,i,none⟩:=λg0 i h0=>World.cell?_of_block (a:=⟨g0,i,none⟩) (h g0 h0)
   constructor
   .rintro(h1|⟨g0,i,x,h1,h2,h3,h4⟩)
    .exact .inl h1
    .exact .inr ⟨g0,i,x,h1,h2,by rw[<-hc g0 i h1];exact h3,h4⟩
   .rintro(h1|⟨g0,i,x,h1,h2,h3,h4⟩)
    .exact .inl h1
    .exact .inr ⟨g0,i,x,h1,h2,by rw[hc g0 i h1];exact h3,h4⟩
def CR(w:World)(X:Nat->Prop):Prop:=∀w':World,w.heap.size<=w'.heap.size->(∀b,b<w.heap.size->¬ X b->w'.heap[b]?=w.heap[b]?)->Bq w'
theorem CR.eR{w0 w:World}{X X':Nat->Prop}(h:CR w0 X)(hs:w0.heap.size<=w.heap.size)(hb:∀b,b<w0.heap.size->¬ X b->w.heap[b]?=w0.heap[b]?)(hX:∀b,X' b->w0.heap.size<=b\/X b):CR w X':=λw' h1 h2=>
 h w' (Nat.le_trans hs h1) λb b1 b2=>(h2 b (vV b1 hs) λhx=>(hX b hx).elim (λh=>absurd b1 (Nat.not_lt.2 h)) b2).trans (hb b b1 b2)
structure Env where
 m:Nat
 w0:World
 G0:cE
 X:Nat->Prop
 ν0:Nat->Value
 x6:CR w0 X
 tg:Iw G0
 ds:List Deferred
def Env.may(E:Env)(g:Nat):Prop:=E.w0.heap.size<=g\/E.X g
structure St where
 T:Nat->Option D
 H:Nat->Option aZ
 nm:Nat->Bool
def fI(E:Env)(ν:Nat->Value)(nm:Nat->Bool)(w:World)(G:cE)(k:Nat):aZ->Prop
 |.box e ds=>∃g cur,ν k = .pointer (some ⟨g,0,none⟩)/\E.may g/\w.heap[g]?=some (.cells cur e (0,0))/\G g=0/\cur.size=ds.length /\
     (∀(i:Nat)(u:Value)(d:D),cur[i]?=some u->ds[i]?=some d->DR ν nm w G u d/\u.oneCell'=true)
 |.row e s n ts st=>∃xs,w.ownsRow 0 e s (ν k) n xs/\xs.length=ts.length/\(∀(i:Nat)(u:Value)(t:Tree),xs[i]?=some u->ts[i]?=some t->TR w G u t) /\
     ∀g,bQ (ν k)=some g->E.may g/\G g=if st then n*s else 0
 |.nest e e' s ls=>∃xs,w.ownsRow 0 e 1 (ν k) ls.length xs /\
     (∀(i:Nat)(x:Value)(p:Nat×List Tree),xs[i]?=some x->ls[i]?=some p->∃ys,w.ownsRow 0 e' s x p.1 ys/\ys.length=p.2.length/\(∀(i:Nat)(u:Value)(t:Tree),ys[i]?=some u->p.2[i]?=some t->TR w G u t)/\∀g,bQ x=some g->E.may g/\G g=0) /\
     (∀(i j:Nat)(x y:Value),i≠j->xs[i]?=some x->xs[j]?=some y->∀g,bQ x=some g->bQ y≠some g)/\(∀(i:Nat)(x:Value),xs[i]?=some x->∀g,bQ x=some g->bQ (ν k)≠some g) /\
     ∀g,bQ (ν k)=some g->E.may g/\G g=ls.length
 |.mp l=>∃g es clock,ν k = .map (some g)/\E.may g/\w.heap[g]?=some (.map es clock)/\G g=0/\es.size=l.length /\
     ∀(i:Nat)(en:MapEntry)(p:Value×D),es[i]?=some en->l[i]?=some p->en.key=p.1/\DR ν nm w G en.val p.2
 |.it s pos=>∃g,ν k = .pointer (some ⟨g,0,none⟩)/\E.may g/\w.heap[g]?=some (.stringIter s pos)/\G g=0
 |.dZ e e' m s n cs=>∃xs,w.ownsRow 0 e m (ν k) n xs/\xs.length=cs.length /\
     (∀(i:Nat)(x:Value)(d:D),xs[i]?=some x->cs[i]?=some (.q9 d)->DR ν nm w G x d/\x.oneCell'=true) /\
     (∀(i:Nat)(x:Value)(q:Nat)(ts:List Tree),xs[i]?=some x->cs[i]?=some (.fQ q ts)->∃ys,w.ownsRow 0 e' s x q ys/\ys.length=ts.length/\(∀(i:Nat)(u:Value)(t:Tree),ys[i]?=some u->ts[i]?=some t->TR w G u t)/\∀g,bQ x=some g->E.may g/\G g=0) /\
     (∀(i j:Nat)(x y:Value)(q q':Nat)(ts ts':List Tree),i≠j->xs[i]?=some x->xs[j]?=some y->cs[i]?=some (.fQ q ts)->cs[j]?=some (.fQ q' ts')->∀g,bQ x=some g->bQ y≠some g)/\(∀(i:Nat)(x:Value)(q:Nat)(ts:List Tree),xs[i]?=some x->cs[i]?=some (.fQ q ts)->∀g,bQ x=some g->bQ (ν k)≠some g) /\
     ∀g,bQ (ν k)=some g->E.may g/\G g=0
structure Kept(E:Env)(w:World):Prop where
 os:w.os=E.w0.os
 tape:w.tape=E.w0.tape
 output:w.output=E.w0.output
 size:E.w0.heap.size<=w.heap.size
 block:∀b,b<E.w0.heap.size->¬ E.X b->w.heap[b]?=E.w0.heap[b]?
structure Inv(E:Env)(σ:St)(ν:Nat->Value)(G:cE)(w:World)(tm:Array Value):Prop where
 kept:Kept E w
 eR:∀b i u,Cell E.w0 E.G0 b i u->Cell w G b i u
 gE:∀k,50<=k->k<100->ν k=E.ν0 k
 g0:∀b,b<E.w0.heap.size->¬ E.X b->G b=E.G0 b
 sz:tm.size=E.m
 T:∀t d,σ.T t=some d->∃v,tm[t]?=some v/\DR ν σ.nm w G v d
 H:∀k o,σ.H k=some o->σ.nm k=true/\fI E ν σ.nm w G k o
 eB:∀k o k' o',σ.H k=some o->σ.H k'=some o'->k≠k'->∀g,cZ w (ν k) o g->¬ cZ w (ν k') o' g
def R(E:Env)(σ:St)(tm:Array Value)(w:World):Prop:=∃ν G,Inv E σ ν G w tm
theorem Inv.tg{E:Env}{σ:St}{ν:Nat->Value}{G:cE}{w:World}{tm:Array Value}(I:Inv E σ ν G w tm):Iw G:=λg vs h=>by
 rcases Nat.eq_zero_or_pos vs.length with h0|h0
 .omega
 .have hi:vs.length-1<vs.length:=by omega
  have hc:=aJw (E.x6 E.w0 (bZ _) λ_ _ _=>rfl) h (dE hi);have:=(I.eR g (vs.length-1) _ ⟨hc,by have:=E.tg g vs h;omega⟩).2;omega
theorem Inv.J8{E:Env}{σ:St}{ν:Nat->Value}{G:cE}{w:World}{tm:Array Value}(I:Inv E σ ν G w tm){g:Nat}{vs:List Value}(h:vI g=some vs)(i:Nat)(u:Value)(hu:vs[i]?=some u):Cell w G g i u:=
 I.eR g i u ⟨aJw (E.x6 E.w0 (bZ _) λ_ _ _=>rfl) h hu,vV (dC.1 hu).1 (E.tg g vs h)⟩
theorem Kept.iK{E:Env}{w w':World}(h:Kept E w)(hA:cS w w'):Kept E w':=
 ⟨hA.os.trans h.os,hA.tape.trans h.tape,hA.output.trans h.output,Nat.le_trans h.size hA.size,λb hb hX=>(hA.block b (vV hb h.size)).trans (h.block b hb hX)⟩
theorem Cell.lt{w:World}{G:cE}{b i:Nat}{u:Value}(h:Cell w G b i u):b<w.heap.size:=World.block_lt_of_cell? w ⟨b,i,none⟩ h.1
theorem Cell.iK{w w':World}{G G':cE}(hA:cS w w')(hG:∀b,b<w.heap.size->G' b=G b){b i:Nat}{u:Value}(h:Cell w G b i u):Cell w' G' b i u:=
 ⟨(hA.cell h.lt).trans h.1,by rw[hG b h.lt];exact h.2⟩
theorem J6{w:World}{g:Nat}{o:Obj}(h:w.heap[g]?=some o):g<w.heap.size:=(lI.1 h).1
theorem aAS{v:Value}{g:Nat}:v.ownBlock=some g->bQ v=some g:=by
 intro h;unfold Value.ownBlock at h;split at h
 .simpa[bQ]using h
 .cases h
theorem mR{w:World}{base:Nat}{e:TypeId}{s:Nat}{v:Value}{n:Nat}{xs:List Value}(h:w.ownsRow base e s v n xs):bQ v=v.ownBlock:=by
 rcases h.2 with⟨rfl,_⟩|⟨g,cap,cur,rfl,_⟩ <;> rfl
theorem Bv{w:World}{base:Nat}{e:TypeId}{s:Nat}{v:Value}{n:Nat}{xs:List Value}(h:w.ownsRow base e s v n xs):v.oneCell'=true:=by
 rcases h.2 with⟨rfl,_⟩|⟨g,cap,cur,rfl,_⟩ <;> rfl
theorem JL{w:World}{e:TypeId}{v:Value}{m n:Nat}{xs:List Value}(h:w.ownsRow 0 e m v n xs){g i:Nat}(hg:bQ v=some g)(hi:i<xs.length):w.cell? ⟨g,i,none⟩=xs[i]?:=by
 rcases h.2 with⟨rfl,h0⟩|⟨g0,cap,cur,hv,_,r2,_,_,_,r6⟩
 .cases hg
 .rw[hv]at hg
  cases hg;rw[h.1]at hi;rw[<-r6,iX,aJ (by omega)];simp[World.cell?,r2]
theorem fI.mono{E:Env}{ν ν':Nat->Value}{nm nm':Nat->Bool}{w w':World}{G G':cE}{k:Nat}{o:aZ}(hk:nm k=true)(hn:∀k,nm k=true->nm' k=true/\ν' k=ν k)
    (hx:∀b i u,Cell w G b i u->Cell w' G' b i u) (hb:∀g,cZ w (ν k) o g->w'.heap[g]?=w.heap[g]?/\G' g=G g) (h:fI E ν nm w G k o):fI E ν' nm' w' G' k o:=by
 have hxx:=hx;have mv:∀{e:TypeId}{s n:Nat}{v:Value}{xs:List Value},(∀g,bQ v=some g->w'.heap[g]?=w.heap[g]?)->w.ownsRow 0 e s v n xs->w'.ownsRow 0 e s v n xs:=λhv h1=>by
  refine⟨h1.1,?_⟩;rcases h1.2 with h|⟨g,cap,cur,hvv,r1,r2,r3⟩
  .exact .inl h
  .exact .inr ⟨g,cap,cur,hvv,r1,by rw[hv g (by rw[hvv];rfl)];exact r2,r3⟩
 cases o with
 |it s pos=>
   obtain⟨g,h1,h2,h3,h4⟩:=h;obtain⟨q1,q2⟩:=hb g (gF (by rw[h1];rfl));exact⟨g,by rw[(hn k hk).2];exact h1,h2,by rw[q1];exact h3,by rw[q2];exact h4⟩
 |mp l=>
   obtain⟨g,es,clock,h1,h2,h3,h4,h5,h6⟩:=h;obtain⟨q1,q2⟩:=hb g (gF (by rw[h1];rfl));exact⟨g,es,clock,by rw[(hn k hk).2];exact h1,h2,by rw[q1];exact h3,by rw[q2];exact h4,h5,λi en p he hp=>⟨(h6 i en p he hp).1,(h6 i en p he hp).2.mono hn hx⟩⟩
 |dZ e e' m s n cs=>
   obtain⟨xs,h1,hl,hd,h2,h3,h4,h5⟩:=h;have hin:∀(i:Nat)(x:Value)(q:Nat)(ts:List Tree),xs[i]?=some x->cs[i]?=some (.fQ q ts)->∀g,bQ x=some g->cZ w (ν k) (.dZ e e' m s n cs) g:=λi x q ts hx hc g hg=>by
    have hi:=(dC.1 hx).1;rcases h1.2 with⟨_,h0⟩|⟨g0,cap,cur,hv,_⟩
    .rw[h1.1,h0]at hi;omega
    .refine .inr ⟨g0,i,x,q,ts,by rw[hv];rfl,hc,?_,hg⟩
     rw[JL h1 (by rw[hv];rfl) hi];exact hx
   refine⟨xs,by rw[(hn k hk).2];exact mv (λg hg=>(hb g (gF hg)).1) h1,hl,λi x d hx hc=>⟨(hd i x d hx hc).1.mono hn hxx,(hd i x d hx hc).2⟩,λi x q ts hx hc=>?_,h3,λi x q ts hx hc g hg=>by rw[(hn k hk).2];exact h4 i x q ts hx hc g hg,λg hg=>?_⟩
   .obtain⟨ys,y1,y2,y3,y4⟩:=h2 i x q ts hx hc
    exact⟨ys,mv (λg hg=>(hb g (hin i x q ts hx hc g hg)).1) y1,y2,λi u t hu ht=>(y3 i u t hu ht).mono ‹_›,λg hg=>by rw[(hb g (hin i x q ts hx hc g hg)).2];exact y4 g hg⟩
   .rw[(hn k hk).2]at hg
    rw[(hb g (gF hg)).2];exact h5 g hg
 |nest e e' s ls=>
   obtain⟨xs,h1,h2,h3,h4,h5⟩:=h;have hin:∀(i:Nat)(x:Value),xs[i]?=some x->∀g,bQ x=some g->cZ w (ν k) (.nest e e' s ls) g:=λi x hx g hg=>by
    have hi:i<ls.length:=by have:=(dC.1 hx).1;rw[h1.1]at this;omega
    rcases h1.2 with⟨_,h0⟩|⟨g0,cap,cur,hv,_,r2,_,_,_,r6⟩
    .omega
    .refine .inr ⟨g0,i,x,by rw[hv];rfl,hi,?_,hg⟩
     rw[<-r6,iX,aJ (by omega)]at hx;simp only[World.cell?,r2];simpa using hx
   refine⟨xs,by rw[(hn k hk).2];exact mv (λg hg=>(hb g (gF hg)).1) h1,λi x p hx hp=>?_,h3,λi x hx g hg=>by rw[(hn k hk).2];exact h4 i x hx g hg,λg hg=>?_⟩
   .obtain⟨ys,y1,y2,y3,y4⟩:=h2 i x p hx hp
    exact⟨ys,mv (λg hg=>(hb g (hin i x hx g hg)).1) y1,y2,λi u t hu ht=>(y3 i u t hu ht).mono ‹_›,λg hg=>by rw[(hb g (hin i x hx g hg)).2];exact y4 g hg⟩
   .rw[(hn k hk).2]at hg
    rw[(hb g (gF hg)).2];exact h5 g hg
 |box e ds=>
   obtain⟨g,cur,h1,h2,h3,h4,h5,h6⟩:=h;obtain⟨q1,q2⟩:=hb g (gF (by rw[h1];rfl));exact⟨g,cur,by rw[(hn k hk).2];exact h1,h2,by rw[q1];exact h3,by rw[q2];exact h4,h5,λi u d hu hd=>⟨(h6 i u d hu hd).1.mono hn hx,(h6 i u d hu hd).2⟩⟩
 |row e s n ts st=>
   obtain⟨xs,h1,h2,h3,h4⟩:=h;refine⟨xs,?_,h2,λi u t hu ht=>(h3 i u t hu ht).mono hx,λg hg=>?_⟩
   .rw[(hn k hk).2]
    refine⟨h1.1,?_⟩;rcases h1.2 with h|⟨g,cap,cur,hv,r1,r2,r3⟩
    .exact .inl h
    .exact .inr ⟨g,cap,cur,hv,r1,by rw[(hb g (gF (by rw[hv];rfl))).1];exact r2,r3⟩
   .rw[(hn k hk).2]at hg
    rw[(hb g (gF hg)).2];exact h4 g hg
theorem fI.vO{E:Env}{ν:Nat->Value}{nm:Nat->Bool}{w:World}{G:cE}{k:Nat}{o:aZ}(h:fI E ν nm w G k o){g:Nat}(hg:bQ (ν k)=some g):g<w.heap.size:=by
 cases o with
 |box e ds=>
   obtain⟨g',cur,h1,h2,h3,_⟩:=h;rw[h1]at hg;simp only[bQ,kP]at hg;subst hg;exact J6 h3
 |row e s n ts st=>
   obtain⟨xs,h1,_⟩:=h;exact(h1.lt g (by rw[<-mR h1];exact hg)).2
 |nest e e' s ls=>
   obtain⟨xs,h1,_⟩:=h;exact(h1.lt g (by rw[<-mR h1];exact hg)).2
 |dZ e e' m s n cs=>
   obtain⟨xs,h1,_⟩:=h;exact(h1.lt g (by rw[<-mR h1];exact hg)).2
 |it s pos=>
   obtain⟨g',h1,h2,h3,_⟩:=h;rw[h1]at hg;simp only[bQ,kP]at hg;subst hg;exact J6 h3
 |mp l=>
   obtain⟨g',es,clock,h1,h2,h3,_⟩:=h;rw[h1]at hg;simp only[bQ,kP]at hg;subst hg;exact J6 h3
theorem Yt{w:World}{e:TypeId}{v:Value}{n:Nat}{xs:List Value}(h:w.ownsRow 0 e 1 v n xs){g i:Nat}(hg:bQ v=some g)(hi:i<n):w.cell? ⟨g,i,none⟩=xs[i]?:=by
 rcases h.2 with⟨rfl,h0⟩|⟨g0,cap,cur,hv,_,r2,_,_,_,r6⟩
 .cases hg
 .rw[hv]at hg
  cases hg;rw[<-r6,iX,aJ (by omega)];simp[World.cell?,r2]
theorem fI.ft{E:Env}{ν:Nat->Value}{nm:Nat->Bool}{w:World}{G:cE}{k:Nat}{o:aZ}(h:fI E ν nm w G k o){g:Nat}(hg:cZ w (ν k) o g):g<w.heap.size/\E.may g:=by
 cases o with
 |box e ds=>obtain⟨g',cur,h1,h2,h3,_⟩:=id h;have hg:bQ (ν k)=some g:=hg;exact⟨h.vO hg,by rw[h1]at hg;cases hg;exact h2⟩
 |row e s n ts st=>obtain⟨xs,h1,h2,h3,h4⟩:=id h;have hg:bQ (ν k)=some g:=hg;exact⟨h.vO hg,(h4 g hg).1⟩
 |it s pos=>obtain⟨g',h1,h2,h3,_⟩:=id h;have hg:bQ (ν k)=some g:=hg;exact⟨h.vO hg,by rw[h1]at hg;cases hg;exact h2⟩
 |mp l=>obtain⟨g',es,clock,h1,h2,h3,_⟩:=id h;have hg:bQ (ν k)=some g:=hg;exact⟨h.vO hg,by rw[h1]at hg;cases hg;exact h2⟩
 |dZ e e' m s n cs=>
   obtain⟨xs,h1,hl,hd,h2,h3,h4,h5⟩:=id h;rcases hg with hg|⟨g0,i,x,q,ts,q1,q2,q3,q4⟩
   .exact⟨h.vO hg,(h5 g hg).1⟩
   .have hi:i<xs.length:=by rw[hl];exact(dC.1 q2).1
    rw[JL h1 q1 hi]at q3;obtain⟨ys,y1,_,_,y4⟩:=h2 i x q ts q3 q2;exact⟨(y1.lt g (by rw[<-mR y1];exact q4)).2,(y4 g q4).1⟩
 |nest e e' s ls=>
   obtain⟨xs,h1,h2,h3,h4,h5⟩:=id h;rcases hg with hg|⟨g0,i,x,q1,q2,q3,q4⟩
   .exact⟨h.vO hg,(h5 g hg).1⟩
   .rw[Yt h1 q1 q2]at q3
    obtain⟨p,hp⟩:∃p,ls[i]?=some p:=⟨_,dE q2⟩
    obtain⟨ys,y1,_,_,y4⟩:=h2 i x p q3 hp;exact⟨(y1.lt g (by rw[<-mR y1];exact q4)).2,(y4 g q4).1⟩
theorem Inv.iK{E:Env}{σ:St}{ν:Nat->Value}{G G':cE}{w w':World}{tm:Array Value}(I:Inv E σ ν G w tm)(hA:cS w w')(hG:∀b,b<w.heap.size->G' b=G b):Inv E σ ν G' w' tm where
 kept:=I.kept.iK hA
 eR:=λb i u h=>(I.eR b i u h).iK hA hG
 gE:=I.gE
 g0:=λb hb hX=>(hG b (vV hb I.kept.size)).trans (I.g0 b hb hX)
 sz:=I.sz
 T:=λt d h=>let⟨v,hv,hd⟩:=I.T t d h;⟨v,hv,hd.mono (λ_ h=>⟨h,rfl⟩) (λ_ _ _ hc=>hc.iK hA hG)⟩
 H:=λk o h=>let⟨h1,h2⟩:=I.H k o h;⟨h1,h2.mono h1 (λ_ h=>⟨h,rfl⟩) (λ_ _ _ hc=>hc.iK hA hG) (λg hg=>⟨hA.block g (h2.ft hg).1,hG g (h2.ft hg).1⟩)⟩
 eB:=λk o k' o' h h' hne g hg hg'=>by
  have q:=(I.H k o h).2;have q':=(I.H k' o' h').2;rw[CD (λg hg=>hA.block g (q.vO hg))]at hg;rw[CD (λg hg=>hA.block g (q'.vO hg))]at hg';exact I.eB k o k' o' h h' hne g hg hg'
def look{α:Type}(k:Nat):List (Nat×α)->Option α
 |[]=>none
 |(k',x)::l=>if k'=k then some x else look k l
theorem lC{α:Type}{k:Nat}{x:α}:∀{l:List (Nat×α)},look k l=some x->(k,x)∈l
 |[],h=>by cases h
 |p::l,h=>by
   unfold look at h;split at h
   .rename_i hp;cases h;rw[<-hp];exact List.mem_cons_self ..
   .exact eY _ (lC h)
abbrev Wr:=List (Nat×Option aZ)
def St.bC(σ:St)(dst:Option Tmp)(d:D)(W:Wr)(fr:Nat):St:=
 ⟨λt=>if dst=some t then some d else σ.T t,λk=>match look k W with |some r=>r |none=>σ.H k,λk=>σ.nm k||(decide (fr<=k)&&decide (k<fr+8))⟩
theorem Inv.put{E:Env}{σ:St}{ν:Nat->Value}{G:cE}{w:World}{tm:Array Value}(I:Inv E σ ν G w tm){dst:Option Tmp}{v:Value}{d:D}(hd:DR ν σ.nm w G v d)(ht:∀t,dst=some t->t<E.m)(fr:Nat)(a:Act)(ha:a.tmps=tm):
    Inv E (σ.bC dst d [] fr) ν G w (a.put dst v).tmps where
 kept:=I.kept
 eR:=I.eR
 gE:=I.gE
 g0:=I.g0
 sz:=by cases dst <;> simp[Act.put,ha,I.sz]
 T:=λt d' h=>by
  simp only[St.bC]at h;split at h
  .rename_i he
   cases h;subst he;refine⟨v,?_,hd.mono (λk hk=>⟨by simp[St.bC,hk],rfl⟩) (λ_ _ _ hc=>hc)⟩;have:=ht t rfl;simp[Act.put,ha,I.sz,this]
  .rename_i he
   obtain⟨u,hu,hdu⟩:=I.T t d' h;refine⟨u,?_,hdu.mono (λk hk=>⟨by simp[St.bC,hk],rfl⟩) (λ_ _ _ hc=>hc)⟩;cases dst with
   |none=>simpa[Act.put,ha]using hu
   |some t'=>
     have hne:t'≠t:=λe=>he (by rw[e])
     simp only[Act.put,ha];rw[v7 hne];exact hu
 H:=λk o h=>by
  obtain⟨h1,h2⟩:=I.H k o (by simpa[St.bC,look]using h);exact⟨by simp[St.bC,h1],h2.mono h1 (λk hk=>⟨by simp[St.bC,hk],rfl⟩) (λ_ _ _ hc=>hc) (λ_ _=>⟨rfl,rfl⟩)⟩
 eB:=λk o k' o' h h'=>I.eB k o k' o' (by simpa[St.bC,look]using h) (by simpa[St.bC,look]using h')
end Go.Ab
/- The abstract machine: one operation, statements in a row, and the rules of the code. -/
namespace Go.Ab
open Go.RowKit
def F3:Value->Bool
 |.agg cs=>cs.toList.all (·.oneCell')
 |.tuple _=>false
 |_=>true
def jI:Value->D
 |.agg cs=>.agg (cs.toList.map λc=>.t (.v c))
 |v=>.t (.v v)
theorem a6X{ν:Nat->Value}{nm:Nat->Bool}{w:World}{G:cE}{v:Value}(h:F3 v=true):DR ν nm w G v (jI v):=by
 cases v with
 |agg cs=>
   have h1:∀c∈cs.toList,c.oneCell'=true:=eI.1 h
   refine .agg (by simp) (λi u d hu hd=>?_) h1;simp only[dT,Array.getElem?_toList,hu,Option.map_some,kP]at hd;subst hd;exact .t (.v u (h1 u (by rw[jN];exact⟨i,by simpa using hu⟩)))
 |tuple vs=>cases h
 |_=>exact .t (.v _ rfl)
def RN(g:Nat):D:=match vI g with
 |some vs=>.ptr (vs.map .v) 0
 |none=>.t (.v (.pointer (some ⟨g,0,none⟩)))
def St.ev(σ:St):Operand->Option D
 |.tmp t=>σ.T t
 |.const v=>if F3 v then some (jI v)else none
 |.func f=>some (.fn f [])
 |.global g=>some (RN g)
theorem Inv.ev{E:Env}{σ:St}{ν:Nat->Value}{G:cE}{w:World}{a:Act}(I:Inv E σ ν G w a.tmps){x:Operand}{d:D}(h:σ.ev x=some d):DR ν σ.nm w G (a.eval x) d:=by
 cases x with
 |tmp t=>
   obtain⟨v,hv,hd⟩:=I.T t d h;have he:a.eval (.tmp t)=v:=by simp[Act.eval,Array.getD_eq_getD_getElem?,hv]
   rw[he];exact hd
 |const v=>
   simp only[St.ev]at h;split at h
   .rename_i hc;cases h;exact a6X hc
   .cases h
 |func f=>cases h;exact .fn (by simp) (λi u d hu=>by simp at hu)
 |global g=>
   cases h;show DR ν σ.nm w G (.pointer (some ⟨g,0,none⟩)) (RN g);unfold RN;split
   .rename_i vs hvs
    have:=DR.ptr (ν:=ν) (nm:=σ.nm) (w:=w) (G:=G) (b:=g) (o:=0) (off:=0) (us:=vs) (ts:=vs.map .v) (by simp) (λi u hu=>by rw[Nat.zero_add];exact I.J8 hvs i u hu) (λi u t hu ht=>by
     rw[dT,hu]at ht;cases ht;exact .v u (a7c hvs (jN.2 ⟨i,hu⟩)))
    exact this
   .exact .t (.v _ rfl)
def bI(P:Program)(o:Oper)(σ:St)(fr:Nat)(d:D)(W:Wr):Prop:=
 ∀(E:Env)(σ₁:St)(a:Act)(w:World),(∀t d,σ.T t=some d->σ₁.T t=some d)->(∀k o,σ.H k=some o->σ₁.H k=some o)->100<=fr->(∀k,fr<=k->k<fr+8->σ₁.nm k=false)->
  (∀t,o.dst=some t->t<E.m)->R E σ₁ a.tmps w->∀Q,o.wp P a w (λa' w'=>a'.defers=a.defers/\R E (σ₁.bC o.dst d W fr) a'.tmps w') Q
theorem St.fH{σ σ₁:St}(hT:∀t d,σ.T t=some d->σ₁.T t=some d){x:Operand}{d:D}(h:σ.ev x=some d):σ₁.ev x=some d:=by
 cases x with
 |tmp t=>exact hT t d h
 |_=>exact h
theorem put_defers(a:Act)(dst:Option Tmp)(v:Value):(a.put dst v).defers=a.defers:=by cases dst <;> rfl
theorem dV{P:Program}{o:Oper}{σ:St}{fr:Nat}{d:D}
    (h:∀(E:Env)(σ₁:St)(ν:Nat->Value)(G:cE)(w:World)(a:Act),(∀k o,σ.H k=some o->σ₁.H k=some o)->Inv E σ₁ ν G w a.tmps->(∀x d,σ.ev x=some d->DR ν σ₁.nm w G (a.eval x) d)->
     ∃v,(execOp a.eval o).run P w = .ok (.value v) w/\DR ν σ₁.nm w G v d):bI P o σ fr d []:=by
 intro E σ₁ a w hT hH _ _ hd hR Q;obtain⟨ν,G,I⟩:=hR;obtain⟨v,hr,hv⟩:=h E σ₁ ν G w a hH I (λx d hx=>I.ev (St.fH hT hx));unfold Oper.wp;rw[hr,Oper.upon_value];exact⟨put_defers ..,ν,G,I.put hv hd fr a rfl⟩
def Fb(P:Program)(o:Oper)(σ:St)(fr:Nat){ι:Type}(C:ι->Prop)(d:ι->D)(W:ι->Wr):Prop:=
 ∀(E:Env)(σ₁:St)(a:Act)(w:World),(∀t d,σ.T t=some d->σ₁.T t=some d)->(∀k o,σ.H k=some o->σ₁.H k=some o)->100<=fr->(∀k,fr<=k->k<fr+8->σ₁.nm k=false)->
  (∀t,o.dst=some t->t<E.m)->R E σ₁ a.tmps w->∀Q,o.wp P a w (λa' w'=>a'.defers=a.defers/\∃i,C i/\R E (σ₁.bC o.dst (d i) (W i) fr) a'.tmps w') Q
theorem bI.n{P:Program}{o:Oper}{σ:St}{fr:Nat}{d:D}{W:Wr}(h:bI P o σ fr d W):Fb P o σ fr (λ_:Unit=>True) (λ_=>d) (λ_=>W):=λE σ₁ a w h1 h2 h3 h4 h5 h6 Q=>Oper.wp_mono (λ_ _ h=>⟨h.1,(),trivial,h.2⟩) (h E σ₁ a w h1 h2 h3 h4 h5 h6 Q)
def rK(ops:Array Oper)(o:Oper)(σ:St):Prop:=
 o.guard=none\/∃j want t,o.guard=some (j,want)/\((ops[j]?).bind (·.dst))=some t/\σ.T t=some (.t (.v (.bool want)))
def Jt(ops:Array Oper)(o:Oper)(σ:St):Prop:=
 ∃j want t d,o.guard=some (j,want)/\((ops[j]?).bind (·.dst))=some t/\σ.T t=some d/\(d = .bD []\/d = .t (.v (.bool (!want))))
def oM(P:Program)(ops:Array Oper)(o:Oper)(σ:St)(fr:Nat)(d:D)(W:Wr):Prop:=
 (rK ops o σ/\bI P o σ fr d W)\/(Jt ops o σ/\d = .bD []/\W=[])
theorem aJh{ν:Nat->Value}{nm:Nat->Bool}{w:World}{G:cE}:DR ν nm w G undef (.bD []):=.bD (by rfl) (λi u d hu=>by simp at hu)
theorem cL{ν:Nat->Value}{nm:Nat->Bool}{w:World}{G:cE}{v x:Value}(h:DR ν nm w G v (.t (.v x))):v=x:=by
 cases h with|t h=>cases h with|v=>rfl
theorem a4A{ν:Nat->Value}{nm:Nat->Bool}{w:World}{G:cE}{v:Value}(h:DR ν nm w G v (.bD [])):v=undef:=by
 cases h with
 |bD hl h=>
   rename_i vs;have:vs = #[]:=by simpa using hl
   rw[this];rfl
theorem rK.wanted{ops:Array Oper}{o:Oper}{σ σ₁:St}{E:Env}{ν:Nat->Value}{G:cE}{w:World}{a:Act}(h:rK ops o σ)(hT:∀t d,σ.T t=some d->σ₁.T t=some d)(I:Inv E σ₁ ν G w a.tmps):
    Region.wanted o (yielded ops a.tmps)=true:=by
 rcases h with h|⟨j,want,t,h1,h2,h3⟩
 .simp[Region.wanted,h]
 .obtain⟨v,hv,hd⟩:=I.T t _ (hT t _ h3)
  have:=cL hd;subst this;simp[Region.wanted,h1,yielded,h2,hv]
theorem Jt.wanted{ops:Array Oper}{o:Oper}{σ σ₁:St}{E:Env}{ν:Nat->Value}{G:cE}{w:World}{a:Act}(h:Jt ops o σ)(hT:∀t d,σ.T t=some d->σ₁.T t=some d)(I:Inv E σ₁ ν G w a.tmps):
    Region.wanted o (yielded ops a.tmps)=false:=by
 obtain⟨j,want,t,d,h1,h2,h3,h4⟩:=h;obtain⟨v,hv,hd⟩:=I.T t _ (hT t _ h3);rcases h4 with rfl|rfl
 .have:=a4A hd
  subst this;simp[Region.wanted,h1,yielded,h2,hv,undef]
 .have:=cL hd
  subst this;simp[Region.wanted,h1,yielded,h2,hv]
theorem oM.run{P:Program}{ops:Array Oper}{o:Oper}{σ σ₁:St}{fr:Nat}{d:D}{W:Wr}(h:oM P ops o σ fr d W){E:Env}{a:Act}{w:World}(hT:∀t d,σ.T t=some d->σ₁.T t=some d)(hH:∀k o,σ.H k=some o->σ₁.H k=some o)
    (h100:100<=fr) (hf:∀k,fr<=k->k<fr+8->σ₁.nm k=false) (hd:∀t,o.dst=some t->t<E.m) (hR:R E σ₁ a.tmps w) (K:Act->World->Prop) (Q:Exit->Act->World->Prop)
    (hK:∀a' w',a'.defers=a.defers->R E (σ₁.bC o.dst d W fr) a'.tmps w'->K a' w'):
    if Region.wanted o (yielded ops a.tmps)then o.wp P a w K Q\/(o.asks P a w/\LetsOut Q)else K (a.put o.dst undef) w:=by
 have hR':=hR;obtain⟨ν,G,I⟩:=hR';rcases h with⟨hg,hop⟩|⟨ho,rfl,rfl⟩
 .rw[hg.wanted hT I,aJ rfl]
  exact .inl (Oper.wp_mono (λa' w' h=>hK a' w' h.1 h.2) (hop E σ₁ a w hT hH h100 hf hd hR Q))
 .rw[ho.wanted hT I,aD (by simp)]
  exact hK _ _ (put_defers ..) ⟨ν,G,I.put aJh hd fr a rfl⟩
abbrev lS(v:Value):PanicEntry:={ v:=v,recovered:=false }
def tA(P:Program)(o:Oper)(σ:St)(fr:Nat)(v:Value)(W:Wr):Prop:=
 ∀(E:Env)(σ₁:St)(a:Act)(w:World),(∀t d,σ.T t=some d->σ₁.T t=some d)->(∀k o,σ.H k=some o->σ₁.H k=some o)->100<=fr->(∀k,fr<=k->k<fr+8->σ₁.nm k=false)->
  R E σ₁ a.tmps w->o.wp P a w (λ_ _=>False) (λe a' w'=>e = .panic [lS v]/\a'.defers=a.defers/\R E (σ₁.bC none .any W fr) a'.tmps w')
theorem aJd{P:Program}{o:Oper}{a:Act}{K K':Act->World->Prop}{Q Q':Exit->Act->World->Prop}(h:∀a w,K a w->K' a w)(hq:∀e a w,Q e a w->Q' e a w){w:World}
    (hh:o.wp P a w K Q):o.wp P a w K' Q':=by
 have lo:LetsOut Q->LetsOut Q':=λ⟨a,w,h⟩=>⟨a,w,hq _ _ _ h⟩
 unfold Oper.wp at *
 generalize(execOp a.eval o).run P w=r at *
 cases r with
 |ok n w'=>
   cases n <;> simp only[Oper.upon]at hh ⊢ <;>
    first
     |exact h _ _ hh
     |exact Calls.mono hh (λe w'' he=>by cases e <;> first|exact h _ _ he|exact hq _ _ _ he|exact lo he)
     |exact Rows.mono hh (λ_ _ he=>h _ _ he)
 |halt x w'=>cases x <;> simp only[Oper.upon]at hh ⊢ <;> first|exact hq _ _ _ hh|exact hh
def nA(P:Program)(ops:Array Oper)(Post:Exit->St->Prop):List Oper->Nat->St->Prop
 |[],_,σ=>Post .normal σ
 |o::rest,fr,σ=>(∃d W,oM P ops o σ fr d W/\nA P ops Post rest (fr+8) (σ.bC o.dst d W fr)) \/
     (∃(ι:Type)(C:ι->Prop)(d:ι->D)(W:ι->Wr),o.guard=none/\Fb P o σ fr C d W/\∀i,C i->nA P ops Post rest (fr+8) (σ.bC o.dst (d i) (W i) fr)) \/
     ∃v W,rK ops o σ/\tA P o σ fr v W/\Post (.panic [lS v]) (σ.bC none .any W fr)
abbrev mk(T:Nat->Option D)(H:Nat->Option aZ)(N:Nat):St:=⟨T,H,λk=>decide (k<N)⟩
theorem R.bound{E:Env}{σ:St}{tm:Array Value}{w:World}{N:Nat}(h:R E σ tm w)(hf:∀k,N<=k->σ.nm k=false):R E (mk σ.T σ.H N) tm w:=by
 obtain⟨ν,G,I⟩:=h;have hn:∀k,σ.nm k=true->decide (k<N)=true/\ν k=ν k:=by
  intro k hk;rcases aMk k N with h|h
  .exact⟨aQ h,rfl⟩
  .rw[hf k h]at hk
   cases hk
 exact⟨ν,G,I.kept,I.eR,I.gE,I.g0,I.sz,λt d h=>let⟨v,hv,hd⟩:=I.T t d h;⟨v,hv,hd.mono hn (λ_ _ _ h=>h)⟩,
  λk o h=>let⟨h1,h2⟩:=I.H k o h;⟨(hn k h1).1,h2.mono h1 hn (λ_ _ _ h=>h) (λ_ _=>⟨rfl,rfl⟩)⟩,I.eB⟩
def St.free(σ:St)(N:Nat):Prop:=100<=N/\∀k,N<=k->σ.nm k=false
theorem a6c{T:Nat->Option D}{H:Nat->Option aZ}{N:Nat}(h:100<=N):(mk T H N).free N:=⟨h,λk hk=>by simp;exact hk⟩
theorem St.Zn{σ:St}{N:Nat}(h:σ.free N)(dst:Option Tmp)(d:D)(W:Wr):(σ.bC dst d W N).free (N+8):=⟨by have:=h.1;omega,λk hk=>by
 simp[St.bC,h.2 k (by omega)];omega⟩
theorem nA.run{P:Program}{ops:Array Oper}{Post:Exit->St->Prop}{E:Env}{Q:Exit->Act->World->Prop}:∀(l:List Oper)(fr:Nat)(σ:St)(a:Act)(w:World),(∀o∈l,∀t,o.dst=some t->t<E.m)->σ.free fr->nA P ops Post l fr σ->R E σ a.tmps w->
    (∀e σ' a' w',Post e σ'->σ'.free (fr+8*l.length)->a'.defers=a.defers->R E σ' a'.tmps w'->Q e a' w')->wpList P ops Q l a w
 |[],fr,σ,a,w,_,hf,h,hR,hQ=>hQ .normal σ a w h hf rfl hR
 |o::rest,fr,σ,a,w,hd,hf,h,hR,hQ=>by
   unfold wpList;rcases h with⟨d,W,hs,hr⟩|⟨ι,C,d,W,hg,hs,hr⟩|⟨v,W,hg,hs,hp⟩
   case inr.inl=>
    rw[aJ (by simp[Region.wanted,hg])];refine .inl (Oper.wp_mono (λa' w' h=>?_) (hs E σ a w (λ_ _ h=>h) (λ_ _ h=>h) hf.1 (λk hk _=>hf.2 k hk) (hd o (by simp)) hR Q));obtain⟨he,i,hi,hR'⟩:=h;exact nA.run rest (fr+8) _ a' w' (λo ho=>hd o (by simp[ho])) (St.Zn hf _ _ _) (hr i hi) hR' (λe σ' a'' w'' hp hf' he' hR''=>hQ e σ' a'' w'' hp (by rw[dD,show fr+8*(rest.length+1)=fr+8+8*rest.length by omega];exact hf') (he'.trans he) hR'')
   case inr.inr=>
    obtain⟨ν,G,I⟩:=id hR;rw[hg.wanted (λ_ _ h=>h) I,aJ rfl];refine .inl (aJd (λ_ _ h=>h.elim) (λe a' w' h=>?_) (hs E σ a w (λ_ _ h=>h) (λ_ _ h=>h) hf.1 (λk hk _=>hf.2 k hk) hR));obtain⟨rfl,he,hR'⟩:=h;have hf':=St.Zn hf none .any W;exact hQ _ _ a' w' hp ⟨by have:=hf.1;omega,λk hk=>hf'.2 k (by rw[dD]at hk;omega)⟩ he hR'
   exact hs.run (λ_ _ h=>h) (λ_ _ h=>h) hf.1 (λk hk _=>hf.2 k hk) (hd o (by simp)) hR _ _ (λa' w' he hR'=>
    nA.run rest (fr+8) _ a' w' (λo ho=>hd o (by simp[ho])) (St.Zn hf _ _ _) hr hR' (λe σ' a'' w'' hp hf' he' hR''=>hQ e σ' a'' w'' hp (by rw[dD,show fr+8*(rest.length+1)=fr+8+8*rest.length by omega];exact hf') (he'.trans he) hR''))
theorem R.CJ{E:Env}{σ:St}{tm:Array Value}{w:World}(h:R E σ tm w)(ds:List Deferred):R { E with ds:=ds } σ tm w:=by
 obtain⟨ν,G,I⟩:=h;exact⟨ν,G,⟨⟨I.kept.os,I.kept.tape,I.kept.output,I.kept.size,I.kept.block⟩,I.eR,I.gE,I.g0,I.sz,I.T,I.H,I.eB⟩⟩
def iF(P:Program)(E:Env)(c:Code)(Q:Exit->St->Prop)(σ:St):Prop:=
 ∀a w,a.defers=E.ds->R E σ a.tmps w->c.wp P (λe a' w'=>a'.defers=E.ds/\∃σ',Q e σ'/\R E σ' a'.tmps w') a w
def eF(E:Env)(σ σ':St):Prop:=∀tm w,R E σ tm w->R E σ' tm w
def a9s(K:St->Prop)(Q:Exit->St->Prop):Exit->St->Prop
 |.normal,σ=>K σ
 |e,σ=>Q e σ
def aAy(id:Nat)(Q:Exit->St->Prop):Exit->St->Prop
 |.exit id',σ=>if id'=id then Q .normal σ else Q (.exit id') σ
 |e,σ=>Q e σ
def bAC{ι:Type}(I:ι->St)(C:ι->Prop)(μ:ι->Nat)(E:Env)(i:ι)(Q:Exit->St->Prop):Exit->St->Prop
 |.normal,σ=>∃j,C j/\μ j<μ i/\eF E σ (I j)
 |e,σ=>Q e σ
section
variable{P:Program}{E:Env}{Q:Exit->St->Prop}{σ:St}
theorem aAY{c:Code}{σ':St}(h:eF E σ σ')(k:iF P E c Q σ'):iF P E c Q σ:=λa w hd hR=>k a w hd (h _ _ hR)
theorem sV{c:Code}{Q':Exit->St->Prop}(h:iF P E c Q' σ)(hq:∀e σ',Q' e σ'->Q e σ'):iF P E c Q σ:=λa w hd hR=>
 wp_mono (h a w hd hR) λe _ _ ⟨h1,σ',h2,h3⟩=>⟨h1,σ',hq e σ' h2,h3⟩
theorem a9Z{x y:Code}(h:iF P E x (a9s (iF P E y Q) Q) σ):iF P E (.seq x y) Q σ:=λa w hd hR=>
 wp_seq (wp_mono (h a w hd hR) λe a' w' ⟨h1,σ',h2,h3⟩=>by
  cases e with
  |normal=>exact h2 a' w' h1 h3
  |_=>exact⟨h1,σ',h2,h3⟩)
theorem a9Y(h:Q .normal σ):iF P E .skip Q σ:=λ_ _ hd hR=>wp_skip ⟨hd,σ,h,hR⟩
theorem a95{l:Nat}(h:Q .normal σ):iF P E (.label l) Q σ:=λ_ _ hd hR=>wp_label ⟨hd,σ,h,hR⟩
theorem a96{id:Nat}(h:Q (.exit id) σ):iF P E (.exit id) Q σ:=λ_ _ hd hR=>wp_exit ⟨hd,σ,h,hR⟩
theorem a90(h:Q .ret σ):iF P E .ret Q σ:=λ_ _ hd hR=>wp_ret ⟨hd,σ,h,hR⟩
theorem a99{c:Operand}{x y:Code}{b:Bool}(hc:σ.ev c=some (.t (.v (.bool b))))(ht:b=true->iF P E x Q σ)(hf:b=false->iF P E y Q σ):iF P E (.cond c x y) Q σ:=λa w hd hR=>by
 have he:a.eval c = .bool b:=by
  obtain⟨ν,G,I⟩:=hR;exact cL (I.ev hc)
 exact wp_cond_split he (λhb=>ht hb a w hd hR) (λhb=>hf hb a w hd hR)
theorem a9a{id:Nat}{c:Code}(h:iF P E c (aAy id Q) σ):iF P E (.block id c) Q σ:=λa w hd hR=>
 wp_block (wp_mono (h a w hd hR) λe a' w' ⟨h1,σ',h2,h3⟩=>by
  cases e with
  |exit id'=>
    simp only[aAy]at h2;simp only[Exit.inBlock];split
    .rename_i hi;rw[aJ hi]at h2;exact⟨h1,σ',h2,h3⟩
    .rename_i hi;rw[aD hi]at h2;exact⟨h1,σ',h2,h3⟩
  |_=>exact⟨h1,σ',h2,h3⟩)
theorem a94{ι:Type}{c:Code}(I:ι->St)(C:ι->Prop)(μ:ι->Nat)(i0:ι)(h0:eF E σ (I i0))(hC:C i0)(round:∀i,C i->iF P E c (bAC I C μ E i Q) (I i)):iF P E (.loop c) Q σ:=λa w hd hR b k cs=>by
 have key:∀n i,μ i=n->C i->∀a w,a.defers=E.ds->R E (I i) a.tmps w->∃e a' w',(a'.defers=E.ds/\∃σ',Q e σ'/\R E σ' a'.tmps w')/\Arrives P (lone (b.at a (.code c :: .inLoop c::k)) cs w) b k cs e a' w':=by
  intro n
  induction n using zJ with
  |_ n ih=>
    intro i hn hi a w hd hR;obtain⟨e,a₁,w₁,⟨h1,σ',h2,h3⟩,harr⟩:=round i hi a w hd hR b (.inLoop c::k) cs;cases e with
    |normal=>
      obtain⟨j,hj,hlt,hE⟩:=h2;obtain⟨e₂,a₂,w₂,hq₂,harr₂⟩:=ih (μ j) (hn ▸ hlt) j rfl hj a₁ w₁ h1 (hE _ _ h3);exact⟨e₂,a₂,w₂,hq₂,.of_steps (Steps.trans harr (.one step_inLoop)) harr₂⟩
    |exit id=>exact⟨_,a₁,w₁,⟨h1,σ',h2,h3⟩,.pass (x:=.inLoop c) rfl (λ_ _=>.inl (by simp)) harr⟩
    |goto l=>exact⟨_,a₁,w₁,⟨h1,σ',h2,h3⟩,.pass (x:=.inLoop c) rfl (λ_ _=>.inl (by simp)) harr⟩
    |ret=>exact⟨_,a₁,w₁,⟨h1,σ',h2,h3⟩,.pass (x:=.inLoop c) rfl (λ_ _=>.inl (by simp)) harr⟩
    |panic ch=>exact⟨_,a₁,w₁,⟨h1,σ',h2,h3⟩,.pass (x:=.inLoop c) rfl (λ_ _=>.inl (by simp)) harr⟩
    |outgrown=>exact⟨_,a₁,w₁,⟨h1,σ',h2,h3⟩,.pass (x:=.inLoop c) rfl (λ_ _=>.inl (by simp)) harr⟩
 obtain⟨e,a',w',hq,harr⟩:=key _ i0 rfl hC a w hd (h0 _ _ hR);exact⟨e,a',w',hq,.of_steps (.one step_loop) harr⟩
theorem a92{id:Nat}{l:List Oper}{T:Nat->Option D}{H:Nat->Option aZ}{N M:Nat}(N':Nat)(hE:E.m=M)(hN:100<=N)(hN':N+8*l.length=N')(hm:(l.all λo=>match o.dst with|none=>true|some t=>decide (t<M))=true)
    (h:nA P l.toArray (λe σ'=>Q e (mk σ'.T σ'.H N')) l N (mk T H N)):iF P E (.region id l.toArray false) Q (mk T H N):=λa w hd hR=>
 wp_region_lit (nA.run l N (mk T H N) a w (λo ho t ht=>by have:=eI.1 hm o ho;rw[ht]at this;rw[hE];exact cU this) (a6c hN) h hR
  (λ_ σ' a' w' hp hf he hR'=>⟨he.trans hd,_,hp,hR'.bound (by rw[<-hN'];exact hf.2)⟩))
end
end Go.Ab
/- The abstract machine: states told in other names, contracts of functions, calls. -/
namespace Go.Ab
open Go.RowKit
def cG(H:Nat->Option aZ)(d d':D):Prop:=∀(E:Env)(s:St)(ν:Nat->Value)(G:cE)(w:World)(tm:Array Value),(∀k o,H k=some o->s.H k=some o)->Inv E s ν G w tm->∀v,DR ν s.nm w G v d->DR ν s.nm w G v d'
theorem cG.refl{H:Nat->Option aZ}{d:D}:cG H d d:=λ_ _ _ _ _ _ _ _ _ h=>h
theorem cG.trans{H:Nat->Option aZ}{a b c:D}(h:cG H a b)(k:cG H b c):cG H a c:=λE s ν G w tm hH I v hv=>k E s ν G w tm hH I v (h E s ν G w tm hH I v hv)
theorem cG.mono{H H':Nat->Option aZ}{a b:D}(hH:∀k o,H k=some o->H' k=some o)(h:cG H a b):cG H' a b:=λE s ν G w tm h' I v hv=>h E s ν G w tm (λk o hk=>h' k o (hH k o hk)) I v hv
inductive eC (fl:Bool) (H:Nat->Option aZ) (nm':Nat->Bool) (ρ:Nat->Nat):D->D->Prop
 |t {x y:Tree} (h:x=y):eC fl H nm' ρ (.t x) (.t y)
 |nil:eC fl H nm' ρ (.t (.v (.slice none 0 0))) (.t (.sl 0 []))
 |own {k k':Nat} (h:nm' k'=true) (hk:k=ρ k'):eC fl H nm' ρ (.own k) (.own k')
 |ref {k k' off:Nat} (h:nm' k'=true) (hk:k=ρ k'):eC fl H nm' ρ (.ref k off) (.ref k' off)
 |rd {k n:Nat} {e:TypeId} {s:Nat} {ts ts':List Tree} {st:Bool} (h:H k=some (.row e s n ts st)) (hst:(st||fl)=true) (ht:ts=ts') {n':Nat} (hn:n=n'):eC fl H nm' ρ (.own k) (.t (.sl n' ts'))
 |ptr {ts:List Tree} {off:Nat}:eC fl H nm' ρ (.ptr ts off) (.ptr ts off)
 |agg {ds ds':List D} (hl:ds.length=ds'.length) (h:∀(i:Nat)(d d':D),ds[i]?=some d->ds'[i]?=some d'->eC fl H nm' ρ d d'):eC fl H nm' ρ (.agg ds) (.agg ds')
 |bD {ds ds':List D} (hl:ds.length=ds'.length) (h:∀(i:Nat)(d d':D),ds[i]?=some d->ds'[i]?=some d'->eC fl H nm' ρ d d'):eC fl H nm' ρ (.bD ds) (.bD ds')
 |fn {f:FuncId} {ds ds':List D} (hl:ds.length=ds'.length) (h:∀(i:Nat)(d d':D),ds[i]?=some d->ds'[i]?=some d'->eC fl H nm' ρ d d'):eC fl H nm' ρ (.fn f ds) (.fn f ds')
 |any {d:D}:eC fl H nm' ρ d .any
 |via {k k':Nat} {r:Value->Value->Prop} (h:nm' k'=true) (hk:k=ρ k'):eC fl H nm' ρ (.via k r) (.via k' r)
inductive tD (fl:Bool) (H:Nat->Option aZ) (nm':Nat->Bool) (ρ:Nat->Nat):List D->List D->Prop
 |nil:tD fl H nm' ρ [] []
 |cons {d d':D} {l l':List D} (h:eC fl H nm' ρ d d') (r:tD fl H nm' ρ l l'):tD fl H nm' ρ (d::l) (d'::l')
theorem tD.get{fl:Bool}{H:Nat->Option aZ}{nm':Nat->Bool}{ρ:Nat->Nat}{l l':List D}(h:tD fl H nm' ρ l l'):l.length=l'.length/\∀(i:Nat)(d d':D),l[i]?=some d->l'[i]?=some d'->eC fl H nm' ρ d d':=by
 induction h with
 |nil=>exact⟨rfl,λi d d' h=>by simp at h⟩
 |cons h r ih=>
   refine⟨by simp[ih.1],λi d d' hd hd'=>?_⟩;cases i with
   |zero=>simp at hd hd';subst hd hd';exact h
   |succ i=>exact ih.2 i d d' (by simpa using hd) (by simpa using hd')
theorem eC.a9n{fl:Bool}{H:Nat->Option aZ}{nm':Nat->Bool}{ρ:Nat->Nat}{l l':List D}(h:tD fl H nm' ρ l l'):eC fl H nm' ρ (.agg l) (.agg l'):=.agg h.get.1 h.get.2
theorem eC.Eo{fl:Bool}{H:Nat->Option aZ}{nm':Nat->Bool}{ρ:Nat->Nat}{l l':List D}(h:tD fl H nm' ρ l l'):eC fl H nm' ρ (.bD l) (.bD l'):=.bD h.get.1 h.get.2
theorem eC.fn'{fl:Bool}{H:Nat->Option aZ}{nm':Nat->Bool}{ρ:Nat->Nat}{f:FuncId}{l l':List D}(h:tD fl H nm' ρ l l'):eC fl H nm' ρ (.fn f l) (.fn f l'):=.fn h.get.1 h.get.2
theorem eC.rel{fl:Bool}{H:Nat->Option aZ}{nm nm':Nat->Bool}{ρ:Nat->Nat}{ν ν':Nat->Value}{w w':World}{G G':cE}(hx:∀b i u,Cell w G b i u->Cell w' G' b i u)
    (hrow:∀k e s n ts st,H k=some (.row e s n ts st)->(st||fl)=true->TR w' G' (ν k) (.sl n ts)) (hν:∀k',nm' k'=true->nm (ρ k')=true->ν' k'=ν (ρ k')):
    ∀{d d':D},eC fl H nm' ρ d d'->∀{v:Value},DR ν nm w G v d->DR ν' nm' w' G' v d':=by
 intro d d' hd
 induction hd with
 |t h=>intro v hv;subst h;cases hv with|t hv=>exact .t (hv.mono hx)
 |nil=>intro v hv;have:=cL hv;subst this;exact .t (.nil λ_=>rfl)
 |own h hk=>intro v hv;subst hk;cases hv with|own h1 h2=>rw[<-hν _ h h1]at h2 ⊢;exact .own h h2
 |ref h hk=>intro v hv;subst hk;cases hv with|ref h1 h2=>exact .ref h (by rw[hν _ h h1];exact h2)
 |via h hk=>intro v hv;subst hk;cases hv with|via h1 h2 h3=>exact .via h (by rw[hν _ h h1];exact h2) h3
 |rd h hst ht hn=>intro v hv;subst ht hn;cases hv with|own h1 h2=>exact .t (hrow _ _ _ _ _ _ h hst)
 |ptr=>intro v hv;exact(hv.mono (ν':=ν) (nm':=nm) (λ_ h=>⟨h,rfl⟩) hx) |> λh=>by
           cases h with|ptr hl hc h=>exact .ptr hl hc h
 | @agg ds ds' hl h ih=>
   intro v hv;cases hv with
   |agg hl' h' h1=>
     refine .agg (hl'.trans hl) (λi u d hu hd=>?_) h1;obtain⟨d0,hd0⟩:∃d0,ds[i]?=some d0:=by
      have:i<ds.length:=by rw[<-hl'];exact(lI.1 hu).1
      exact⟨_,dE this⟩
     exact ih i d0 d hd0 hd (h' i u d0 hu hd0)
 | @bD ds ds' hl h ih=>
   intro v hv;cases hv with
   |bD hl' h'=>
     refine .bD (hl'.trans hl) (λi u d hu hd=>?_);obtain⟨d0,hd0⟩:∃d0,ds[i]?=some d0:=by
      have:i<ds.length:=by rw[<-hl'];exact(lI.1 hu).1
      exact⟨_,dE this⟩
     exact ih i d0 d hd0 hd (h' i u d0 hu hd0)
 | @fn f ds ds' hl h ih=>
   intro v hv;cases hv with
   |fn hl' h'=>
     refine .fn (hl'.trans hl) (λi u d hu hd=>?_);obtain⟨d0,hd0⟩:∃d0,ds[i]?=some d0:=by
      have:i<ds.length:=by rw[<-hl'];exact(lI.1 hu).1
      exact⟨_,dE this⟩
     exact ih i d0 d hd0 hd (h' i u d0 hu hd0)
 |any=>intro v _;exact .any
theorem F5{w:World}{g i:Nat}{cur:Array Value}{e:TypeId}{fr:Nat×Nat}(h:w.heap[g]?=some (.cells cur e fr)):w.cell? ⟨g,i,none⟩=cur[i]?:=by simp[World.cell?,h]
theorem Ye{w:World}{G:cE}{e:TypeId}{s n:Nat}{v:Value}{xs:List Value}{ts:List Tree}(h:w.ownsRow 0 e s v n xs)(hl:xs.length=ts.length)(ht:∀(i:Nat)(u:Value)(t:Tree),xs[i]?=some u->ts[i]?=some t->TR w G u t)
    (hG:∀g,bQ v=some g->n*s<=G g):TR w G v (.sl n ts):=by
 have hlen:=h.1;rcases h.2 with⟨rfl,rfl⟩|⟨g,cap,cur,rfl,h1,h2,h3,h4,h5,h6⟩
 .have:ts=[]:=List.eq_nil_of_length_eq_zero (by rw[<-hl,hlen];simp)
  subst this;exact .nil λ_=>rfl
 .refine .sl g 0 n cap xs ts hl (λi u hu=>?_) h3 ht
  have hi:i<n*s:=by rw[<-hlen];exact(dC.1 hu).1
  refine⟨?_,vV (by omega) (hG g rfl)⟩;rw[Nat.zero_add,F5 h2];rw[<-h6,iX,aJ hi]at hu;simpa using hu
theorem fI.Ye{E:Env}{ν:Nat->Value}{nm:Nat->Bool}{w:World}{G:cE}{k:Nat}{e:TypeId}{s n:Nat}{ts:List Tree}(h:fI E ν nm w G k (.row e s n ts true)):TR w G (ν k) (.sl n ts):=by
 obtain⟨xs,h1,h2,h3,h4⟩:=h;exact Ab.Ye h1 h2 h3 (λg hg=>by rw[(h4 g hg).2];simp)
inductive SA (fl:Bool) (H:Nat->Option aZ) (nm':Nat->Bool) (ρ:Nat->Nat):NC->NC->Prop
 |d {d d':D} (h:eC fl H nm' ρ d d'):SA fl H nm' ρ (.q9 d) (.q9 d')
 |fQ {q:Nat} {ts:List Tree}:SA fl H nm' ρ (.fQ q ts) (.fQ q ts)
inductive iA (fl:Bool) (H:Nat->Option aZ) (nm':Nat->Bool) (ρ:Nat->Nat):aZ->aZ->Prop
 |row {e:TypeId} {s n:Nat} {ts ts':List Tree} {st:Bool} (h:ts=ts') {n':Nat} (hn:n=n'):iA fl H nm' ρ (.row e s n ts st) (.row e s n' ts' st)
 |box {e:TypeId} {ds ds':List D} (hl:ds.length=ds'.length) (h:∀(i:Nat)(d d':D),ds[i]?=some d->ds'[i]?=some d'->eC fl H nm' ρ d d'):iA fl H nm' ρ (.box e ds) (.box e ds')
 |nest {e e':TypeId} {s:Nat} {ls ls':List (Nat×List Tree)} (h:ls=ls'):iA fl H nm' ρ (.nest e e' s ls) (.nest e e' s ls')
 |it {s:ByteArray} {pos:Nat}:iA fl H nm' ρ (.it s pos) (.it s pos)
 |mp {l l':List (Value×D)} (hl:l.length=l'.length) (h:∀(i:Nat)(p p':Value×D),l[i]?=some p->l'[i]?=some p'->p.1=p'.1/\eC fl H nm' ρ p.2 p'.2):iA fl H nm' ρ (.mp l) (.mp l')
 |dZ {e e':TypeId} {m s n:Nat} {cs cs':List NC} (hl:cs.length=cs'.length) (h:∀(i:Nat)(c c':NC),cs[i]?=some c->cs'[i]?=some c'->SA fl H nm' ρ c c'):iA fl H nm' ρ (.dZ e e' m s n cs) (.dZ e e' m s n cs')
theorem iA.ft{fl:Bool}{H:Nat->Option aZ}{nm':Nat->Bool}{ρ:Nat->Nat}{o o':aZ}(h:iA fl H nm' ρ o o'){w:World}{v:Value}{g:Nat}:cZ w v o' g ↔ cZ w v o g:=by
 cases h with
 |row=>exact pY
 |box=>exact pY
 |nest h=>subst h;exact pY
 |mp=>exact pY
 |it=>exact pY
 | @dZ e e' m s n cs cs' hl h=>
   constructor
   .rintro(h1|⟨g0,i,x,q,ts,h1,h2,h3,h4⟩)
    .exact .inl h1
    .have hi:i<cs.length:=by rw[hl];exact(dC.1 h2).1
     have hc:cs[i]?=some cs[i]:=dE hi;have:=h i _ _ hc h2;generalize cs[i]=c at hc this;cases this with
     |fQ=>exact .inr ⟨g0,i,x,q,ts,h1,hc,h3,h4⟩
   .rintro(h1|⟨g0,i,x,q,ts,h1,h2,h3,h4⟩)
    .exact .inl h1
    .have hi:i<cs'.length:=by rw[<-hl];exact(dC.1 h2).1
     have hc:cs'[i]?=some cs'[i]:=dE hi;have:=h i _ _ h2 hc;generalize cs'[i]=c at hc this;cases this with
     |fQ=>exact .inr ⟨g0,i,x,q,ts,h1,hc,h3,h4⟩
theorem iA.CM{fl:Bool}{H:Nat->Option aZ}{nm':Nat->Bool}{ρ:Nat->Nat}{e:TypeId}{l l':List D}(h:tD fl H nm' ρ l l'):iA fl H nm' ρ (.box e l) (.box e l'):=.box h.get.1 h.get.2
def bP(rn:List (Nat×Nat))(k:Nat):Nat:=match look k rn with|some x=>x|none=>k
abbrev lit(T:List (Nat×D))(H:List (Nat×aZ))(N:Nat):St:=mk (λt=>look t T) (λk=>look k H) N
inductive Fm (fl:Bool) (σ:St) (nm':Nat->Bool) (ρ:Nat->Nat):List (Nat×D)->Prop
 |nil:Fm fl σ nm' ρ []
 |cons {t:Nat} {d d':D} {l:List (Nat×D)} (h:σ.T t=some d) (hd:eC fl σ.H nm' ρ d d') (r:Fm fl σ nm' ρ l):Fm fl σ nm' ρ ((t,d')::l)
inductive wB (fl:Bool) (σ:St) (nm':Nat->Bool) (ρ:Nat->Nat):List (Nat×aZ)->Prop
 |nil:wB fl σ nm' ρ []
 |cons {k:Nat} {o o':aZ} {l:List (Nat×aZ)} (h:σ.H (ρ k)=some o) (ho:iA fl σ.H nm' ρ o o') (r:wB fl σ nm' ρ l):wB fl σ nm' ρ ((k,o')::l)
theorem Fm.get{fl:Bool}{σ:St}{nm':Nat->Bool}{ρ:Nat->Nat}{l:List (Nat×D)}(h:Fm fl σ nm' ρ l){t:Nat}{d':D}(hl:look t l=some d'):∃d,σ.T t=some d/\eC fl σ.H nm' ρ d d':=by
 induction h with
 |nil=>cases hl
 |cons h hd r ih=>
   unfold look at hl;split at hl
   .rename_i e;cases hl;subst e;exact⟨_,h,hd⟩
   .exact ih hl
theorem wB.get{fl:Bool}{σ:St}{nm':Nat->Bool}{ρ:Nat->Nat}{l:List (Nat×aZ)}(h:wB fl σ nm' ρ l){k:Nat}{o':aZ}(hl:look k l=some o'):∃o,σ.H (ρ k)=some o/\iA fl σ.H nm' ρ o o':=by
 induction h with
 |nil=>cases hl
 |cons h hd r ih=>
   unfold look at hl;split at hl
   .rename_i e;cases hl;subst e;exact⟨_,h,hd⟩
   .exact ih hl
theorem fI.view{fl:Bool}{H:Nat->Option aZ}{E E':Env}{ν ν':Nat->Value}{nm nm':Nat->Bool}{ρ:Nat->Nat}{w:World}{G:cE}{k k':Nat}{o o':aZ}(h:fI E ν nm w G k o)(ho:iA fl H nm' ρ o o')
    (hrow:∀k e s n ts st,H k=some (.row e s n ts st)->(st||fl)=true->TR w G (ν k) (.sl n ts)) (hν:∀k',nm' k'=true->nm (ρ k')=true->ν' k'=ν (ρ k')) (hk:ν' k'=ν k) (hE:∀g,cZ w (ν k) o g->E.may g->E'.may g):fI E' ν' nm' w G k' o':=by
 cases ho with
 |it=>
   obtain⟨g,h1,h2,h3,h4⟩:=h;exact⟨g,by rw[hk];exact h1,hE g (gF (by rw[h1];rfl)) h2,h3,h4⟩
 | @mp l l' hl hp=>
   obtain⟨g,es,clock,h1,h2,h3,h4,h5,h6⟩:=h;refine⟨g,es,clock,by rw[hk];exact h1,hE g (gF (by rw[h1];rfl)) h2,h3,h4,h5.trans hl,λi en p' he hp'=>?_⟩;have hi:i<l.length:=by rw[hl];exact(dC.1 hp').1
   obtain⟨e1,e2⟩:=hp i l[i] p' (dE hi) hp';obtain⟨a1,a2⟩:=h6 i en l[i] he (dE hi);exact⟨a1.trans e1,e2.rel (λ_ _ _ h=>h) hrow hν a2⟩
 | @dZ e e' m s n cs cs' hl hn=>
   obtain⟨xs,h1,hxl,hd,h2,h3,h4,h5⟩:=id h;have inv:∀(i:Nat)(q:Nat)(ts:List Tree),cs'[i]?=some (.fQ q ts)->cs[i]?=some (.fQ q ts):=λi q ts hc=>by
    have hi:i<cs.length:=by rw[hl];exact(dC.1 hc).1
    have hc0:cs[i]?=some cs[i]:=dE hi;have:=hn i _ _ hc0 hc;generalize cs[i]=c at hc0 this;cases this with
    |fQ=>exact hc0
   refine⟨xs,by rw[hk];exact h1,hxl.trans hl,λi x d' hx hc=>?_,λi x q ts hx hc=>?_,λi j x y q q' ts ts' hij hx hy hc hc'=>h3 i j x y q q' ts ts' hij hx hy (inv i q ts hc) (inv j q' ts' hc'),λi x q ts hx hc g hg=>by rw[hk];exact h4 i x q ts hx (inv i q ts hc) g hg,λg hg=>by rw[hk]at hg;exact⟨hE g (gF hg) (h5 g hg).1,(h5 g hg).2⟩⟩
   .have hi:i<cs.length:=by rw[hl];exact(dC.1 hc).1
    have hc0:cs[i]?=some cs[i]:=dE hi;have:=hn i _ _ hc0 hc;generalize cs[i]=c at hc0 this;cases this with
    |d hdl=>exact⟨hdl.rel (λ_ _ _ h=>h) hrow hν (hd i x _ hx hc0).1,(hd i x _ hx hc0).2⟩
   .have hc0:=inv i q ts hc
    obtain⟨ys,y1,y2,y3,y4⟩:=h2 i x q ts hx hc0;refine⟨ys,y1,y2,y3,λg hg=>⟨hE g ?_ (y4 g hg).1,(y4 g hg).2⟩⟩;have hi:=(dC.1 hx).1;rcases h1.2 with⟨_,h0⟩|⟨g0,cap,cur,hv,_⟩
    .rw[h1.1,h0]at hi;omega
    .exact .inr ⟨g0,i,x,q,ts,by rw[hv];rfl,hc0,by rw[JL h1 (by rw[hv];rfl) hi];exact hx,hg⟩
 |nest h'=>
   subst h';obtain⟨xs,h1,h2,h3,h4,h5⟩:=id h;refine⟨xs,by rw[hk];exact h1,λi x p hx hp=>?_,h3,λi x hx g hg=>by rw[hk];exact h4 i x hx g hg,λg hg=>by rw[hk]at hg;exact⟨hE g (gF hg) (h5 g hg).1,(h5 g hg).2⟩⟩;obtain⟨ys,y1,y2,y3,y4⟩:=h2 i x p hx hp;refine⟨ys,y1,y2,y3,λg hg=>⟨hE g ?_ (y4 g hg).1,(y4 g hg).2⟩⟩;have hi:=(dC.1 hp).1;rcases h1.2 with⟨_,h0⟩|⟨g0,cap,cur,hv,_⟩
   .omega
   .exact .inr ⟨g0,i,x,by rw[hv];rfl,hi,by rw[Yt h1 (by rw[hv];rfl) hi];exact hx,hg⟩
 |row h' hn=>
   subst h' hn;obtain⟨xs,h1,h2,h3,h4⟩:=h;exact⟨xs,by rw[hk];exact h1,h2,h3,λg hg=>by rw[hk]at hg;exact⟨hE g (gF hg) (h4 g hg).1,(h4 g hg).2⟩⟩
 |box hl hb=>
   obtain⟨g,cur,h1,h2,h3,h4,h5,h6⟩:=h;refine⟨g,cur,by rw[hk];exact h1,hE g (gF (by rw[h1];rfl)) h2,h3,h4,h5.trans hl,λi u d hu hd=>?_⟩;rename_i e ds ds';obtain⟨d0,hd0⟩:∃d0,ds[i]?=some d0:=by
    have:i<ds.length:=by rw[<-h5];exact(lI.1 hu).1
    exact⟨_,dE this⟩
   exact⟨(hb i d0 d hd0 hd).rel (λ_ _ _ h=>h) hrow hν (h6 i u d0 hu hd0).1,(h6 i u d0 hu hd0).2⟩
theorem Inv.rows{E:Env}{σ:St}{ν:Nat->Value}{G:cE}{w:World}{tm:Array Value}(I:Inv E σ ν G w tm):∀k e s n ts st,σ.H k=some (.row e s n ts st)->(st||false)=true->TR w G (ν k) (.sl n ts):=λk e s n ts st h hst=>by
 have:st=true:=by simpa using hst
 subst this;exact(I.H k _ h).2.Ye
theorem yN{α:Type}{k:Nat}{x:α}{l:List (Nat×α)}(h:look k l=some x):k∈l.map (·.1):=fG.2 ⟨_,lC h,rfl⟩
theorem Qo{ρ:Nat->Nat}:∀{l:List Nat},(l.map ρ).Nodup->∀a∈l,∀b∈l,ρ a=ρ b->a=b
 |[],_,_,h,_,_,_=>by cases h
 |x::l,h,a,ha,b,hb,he=>by
   rw[List.map_cons,List.nodup_cons]at h;rcases eP.1 ha with e1|h1
   .rcases eP.1 hb with e2|h2
    .rw[e1,e2]
    .exact absurd (fG.2 ⟨b,h2,by rw[<-he,e1]⟩) h.1
   .rcases eP.1 hb with e2|h2
    .exact absurd (fG.2 ⟨a,h1,by rw[he,e2]⟩) h.1
    .exact Qo h.2 a h1 b h2 he
abbrev args(ds:List D)(H:List (Nat×aZ)):St:=mk (λt=>ds[t]?) (λk=>look k H) 100
abbrev res(r:D)(H:List (Nat×aZ)):St:=mk (λt=>if t=0 then some r else none) (λk=>look k H) 108
def cR(P:Program)(f:FuncId)(ds:List D)(H:List (Nat×aZ))(r:D)(H':List (Nat×aZ)):Prop:=
 ∀(E:Env)(w:World)(vs:Array Value),E.w0=w->E.m=vs.size->vs.size=ds.length->R E (args ds H) vs w->
  Calls P f vs w λe w'=>∃v,e = .returned v/\R { E with m:=1 } (res r H') #[v] w'
def aNC(P:Program)(f:FuncId)(ds:List D)(H:List (Nat×aZ)){ι:Type}(C:ι->Prop)(r:ι->D)(H':ι->List (Nat×aZ)):Prop:=
 ∀(E:Env)(w:World)(vs:Array Value),E.w0=w->E.m=vs.size->vs.size=ds.length->R E (args ds H) vs w->
  Calls P f vs w λe w'=>∃v,e = .returned v/\∃i,C i/\R { E with m:=1 } (res (r i) (H' i)) #[v] w'
theorem cR.n{P:Program}{f:FuncId}{ds:List D}{H:List (Nat×aZ)}{r:D}{H':List (Nat×aZ)}(h:cR P f ds H r H'):aNC P f ds H (λ_:Unit=>True) (λ_=>r) (λ_=>H'):=λE w vs h1 h2 h3 h4=>(h E w vs h1 h2 h3 h4).mono λ_ _ ⟨v,e1,e2⟩=>⟨v,e1,(),trivial,e2⟩
def zR(P:Program)(f:FuncId)(ds:List D)(H:List (Nat×aZ))(v:Value)(H':List (Nat×aZ)):Prop:=
 ∀(E:Env)(w:World)(vs:Array Value),E.w0=w->E.m=vs.size->vs.size=ds.length->R E (args ds H) vs w->
  Calls P f vs w λe w'=>e = .panicked [lS v]/\R { E with m:=1 } (res .any H') #[undef] w'
def a9t(P:Program)(fn:Func)(E:Env)(r:D)(H':List (Nat×aZ)):Exit->St->Prop
 |.normal,σ|.ret,σ=>∀tm w,R E σ tm w->∃v,(results fn tm).run P w = .ok v w/\R { E with m:=1 } (res r H') #[v] w
 |_,_=>False
theorem R.entry{E:Env}{ds:List D}{H:List (Nat×aZ)}{vs:Array Value}{w:World}(h:R E (args ds H) vs w)(n:Nat):R { E with m:=vs.size+n } (args ds H) (vs++p6 n undef) w:=by
 obtain⟨ν,G,I⟩:=h;refine⟨ν,G,⟨I.kept.os,I.kept.tape,I.kept.output,I.kept.size,I.kept.block⟩,I.eR,I.gE,I.g0,by simp,λt d ht=>?_,I.H,I.eB⟩;obtain⟨v,hv,hd⟩:=I.T t d ht;exact⟨v,by rw[Array.getElem?_append_left (lI.1 hv).1];exact hv,hd⟩
theorem a4Q{P:Program}{f:FuncId}{fn:Func}{c:Code}{ds:List D}{H:List (Nat×aZ)}{r:D}{H':List (Nat×aZ)}(hf:P.funcs[f]?=some fn)(hb:fn.body=some c)(hm:ds.length<=fn.ntmps)
    (h:∀E:Env,E.m=fn.ntmps->iF P E c (a9t P fn E r H') (args ds H)):cR P f ds H r H':=by
 intro E w vs _ _ _ hR;have hR':=hR.entry (fn.ntmps-vs.size);rw[show vs.size+(fn.ntmps-vs.size)=fn.ntmps by omega]at hR';refine calls_of_wp hf hb (wp_mono (h { E with m:=fn.ntmps,ds:=[] } rfl _ w rfl (hR'.CJ [])) ?_);rintro e a' w' ⟨hd,σ',hq,hRR⟩;cases e with
 |normal=>obtain⟨v,h1,h2⟩:=hq _ _ hRR;exact⟨hd,v,h1,v,rfl,h2.CJ E.ds⟩
 |ret=>obtain⟨v,h1,h2⟩:=hq _ _ hRR;exact⟨hd,v,h1,v,rfl,h2.CJ E.ds⟩
 |exit id=>exact hq.elim
 |goto l=>exact hq.elim
 |panic ch=>exact hq.elim
 |outgrown=>exact hq.elim
def a9v(E:Env)(v:Value)(H':List (Nat×aZ)):Exit->St->Prop
 |.panic ch,σ=>ch=[lS v]/\∀tm w,R E σ tm w->R { E with m:=1 } (res .any H') #[undef] w
 |_,_=>False
theorem a4P{P:Program}{f:FuncId}{fn:Func}{c:Code}{ds:List D}{H:List (Nat×aZ)}{v:Value}{H':List (Nat×aZ)}(hf:P.funcs[f]?=some fn)(hb:fn.body=some c)(hm:ds.length<=fn.ntmps)
    (h:∀E:Env,E.m=fn.ntmps->iF P E c (a9v E v H') (args ds H)):zR P f ds H v H':=by
 intro E w vs _ _ _ hR;have hR':=hR.entry (fn.ntmps-vs.size);rw[show vs.size+(fn.ntmps-vs.size)=fn.ntmps by omega]at hR';refine calls_of_wp hf hb (wp_mono (h { E with m:=fn.ntmps,ds:=[] } rfl _ w rfl (hR'.CJ [])) ?_);rintro e a' w' ⟨hd,σ',hq,hRR⟩;cases e with
 |normal=>exact hq.elim
 |ret=>exact hq.elim
 |exit id=>exact hq.elim
 |goto l=>exact hq.elim
 |panic ch=>exact⟨hd,by rw[hq.1],(hq.2 _ _ hRR).CJ E.ds⟩
 |outgrown=>exact hq.elim
end Go.Ab
/- The abstract machine: operations on numbers, truth values and parts of values. -/
namespace Go.Ab
open Go.RowKit
abbrev I(n:Int):D:=.t (.v (.int .i64 n))
abbrev B(b:Bool):D:=.t (.v (.bool b))
abbrev ti(n:Int):Tree:=.v (.int .i64 n)
section
variable{P:Program}{o:Oper}{σ:St}{fr:Nat}
theorem a5e{x:Operand}{d:D}(ho:o.op = .move x)(hx:σ.ev x=some d):bI P o σ fr d []:=
 dV λ_ _ _ _ _ _ _ _ hev=>⟨_,by simp[execOp,ho],hev x d hx⟩
theorem a6O{x:Operand}{d:D}(ho:o.op = .assign x)(hx:σ.ev x=some d):bI P o σ fr d []:=
 dV λ_ _ _ _ _ _ _ _ hev=>⟨_,by simp[execOp,ho],hev x d hx⟩
theorem jR{op:BinOp}{xt yt:TypeId}{x y:Operand}{va vb vr:Value}(ho:o.op = .binOp op xt x y yt)(hx:σ.ev x=some (.t (.v va)))(hy:σ.ev y=some (.t (.v vb)))
    (hr:∀w:World,(do eqGuard op xt x y va vb;binOp op xt va vb:Sem Value).run P w = .ok vr w) (h1:vr.oneCell'=true):bI P o σ fr (.t (.v vr)) []:=
 dV λ_ _ _ _ w a _ _ hev=>by
  have h1':=cL (hev x _ hx);have h2':=cL (hev y _ hy);refine⟨vr,?_,.t (.v _ h1)⟩;have:=hr w;unfold execOp;rw[ho];simp only[h1',h2',Sem.run_bind,Sem.run_pure]at this ⊢;rw[this];rfl
section ints
variable{k:IntKind}{xt yt:TypeId}{x y:Operand}{m n:Int}
theorem aKr(ho:o.op = .binOp .add xt x y yt)(hx:σ.ev x=some (.t (.v (.int k m))))(hy:σ.ev y=some (.t (.v (.int k n)))):bI P o σ fr (.t (.v (.int k (k.wrap (m+n))))) []:=
 jR ho hx hy (λw=>by simp[eqGuard,binOp,Op.intArith]) rfl
theorem aKf(ho:o.op = .binOp .sub xt x y yt)(hx:σ.ev x=some (.t (.v (.int k m))))(hy:σ.ev y=some (.t (.v (.int k n)))):bI P o σ fr (.t (.v (.int k (k.wrap (m-n))))) []:=
 jR ho hx hy (λw=>by simp[eqGuard,binOp,Op.intArith]) rfl
theorem a5d(ho:o.op = .binOp .mul xt x y yt)(hx:σ.ev x=some (.t (.v (.int k m))))(hy:σ.ev y=some (.t (.v (.int k n)))):bI P o σ fr (.t (.v (.int k (k.wrap (m*n))))) []:=
 jR ho hx hy (λw=>by simp[eqGuard,binOp,Op.intArith]) rfl
theorem a55(ho:o.op = .binOp .quo xt x y yt)(hx:σ.ev x=some (.t (.v (.int k m))))(hy:σ.ev y=some (.t (.v (.int k n))))(h0:n≠0):bI P o σ fr (.t (.v (.int k (k.wrap (m.tdiv n))))) []:=
 jR ho hx hy (λw=>by simp[eqGuard,binOp,Op.intDiv,h0]) rfl
theorem a52(ho:o.op = .binOp .rem xt x y yt)(hx:σ.ev x=some (.t (.v (.int k m))))(hy:σ.ev y=some (.t (.v (.int k n))))(h0:n≠0):bI P o σ fr (.t (.v (.int k (m.tmod n)))) []:=
 jR ho hx hy (λw=>by simp[eqGuard,binOp,Op.intDiv,h0]) rfl
theorem aKh(ho:o.op = .binOp .lss xt x y yt)(hx:σ.ev x=some (.t (.v (.int k m))))(hy:σ.ev y=some (.t (.v (.int k n)))):bI P o σ fr (B (decide (m<n))) []:=
 jR ho hx hy (λw=>by simp[eqGuard,binOp,Op.intCmp]) rfl
theorem aKi(ho:o.op = .binOp .leq xt x y yt)(hx:σ.ev x=some (.t (.v (.int k m))))(hy:σ.ev y=some (.t (.v (.int k n)))):bI P o σ fr (B (decide (m<=n))) []:=
 jR ho hx hy (λw=>by simp[eqGuard,binOp,Op.intCmp]) rfl
theorem aKl(ho:o.op = .binOp .gtr xt x y yt)(hx:σ.ev x=some (.t (.v (.int k m))))(hy:σ.ev y=some (.t (.v (.int k n)))):bI P o σ fr (B (decide (n<m))) []:=
 jR ho hx hy (λw=>by simp[eqGuard,binOp,Op.intCmp]) rfl
theorem aKm(ho:o.op = .binOp .geq xt x y yt)(hx:σ.ev x=some (.t (.v (.int k m))))(hy:σ.ev y=some (.t (.v (.int k n)))):bI P o σ fr (B (decide (n<=m))) []:=
 jR ho hx hy (λw=>by simp[eqGuard,binOp,Op.intCmp]) rfl
theorem aKo(ho:o.op = .binOp .eql xt x y yt)(hx:σ.ev x=some (.t (.v (.int k m))))(hy:σ.ev y=some (.t (.v (.int k n)))):bI P o σ fr (B (decide (m=n))) []:=
 jR ho hx hy (λw=>by simp[eqGuard,binOp,Op.intCmp];rfl) rfl
theorem aKg(ho:o.op = .binOp .neq xt x y yt)(hx:σ.ev x=some (.t (.v (.int k m))))(hy:σ.ev y=some (.t (.v (.int k n)))):bI P o σ fr (B (decide (m≠n))) []:=
 jR ho hx hy (λw=>by simp[eqGuard,binOp,Op.intCmp,bne];rfl) rfl
theorem Ql{kd:IntKind}(ho:o.op = .convert xt yt x)(hs:(P.underlying xt).isSome=true)(hd:P.underlying yt=some (.int kd))(hx:σ.ev x=some (.t (.v (.int k m)))):bI P o σ fr (.t (.v (.int kd (kd.wrap m)))) []:=
 dV λ_ _ _ _ w a _ _ hev=>by
  have h1':=cL (hev x _ hx);obtain⟨d,hd'⟩:=Option.isSome_iff_exists.mp hs;refine⟨.int kd (kd.wrap m),?_,.t (.v _ rfl)⟩;unfold execOp;rw[ho];simp only[h1'];simp[convert,run_underlying hd',run_underlying hd,Conv.intToInt]
theorem a5g{t:TypeId}{ki kk:IntKind}{n:Int}{x:Operand}(ho:o.op = .makeInterface t x)(hu:P.underlying t=some (.int ki))(hx:σ.ev x=some (.t (.v (.int kk n)))):bI P o σ fr (.t (.v (.iface t (.int kk n)))) []:=
 dV λ_ _ _ _ w a _ _ hev=>by
  have h1':=cL (hev x _ hx);refine⟨.iface t (.int kk n),?_,.t (.v _ rfl)⟩;unfold execOp;rw[ho];simp only[h1'];simp[Instr.makeInterface,run_underlying hu]
end ints
theorem aKN{t:TypeId}(h:P.underlying t=some .bool)(a b:Bool)(w:World):(Op.equal t (.bool a) (.bool b)).run P w = .ok (a == b) w:=by
 show(Op.equalIn (Op.maxDepth) t (.bool a) (.bool b)).run P w=_;rw[show Op.maxDepth=(Op.maxDepth-1)+1 from rfl];simp[Op.equalIn,run_underlying h]
theorem a6I{xt yt:TypeId}{x y:Operand}{m n:Bool}(hP:P.underlying xt=some .bool)(ho:o.op = .binOp .eql xt x y yt)(hx:σ.ev x=some (B m))(hy:σ.ev y=some (B n)):bI P o σ fr (B (m == n)) []:=
 jR ho hx hy (λw=>by simp[eqGuard,binOp,aKN hP]) rfl
theorem a5c{xt yt:TypeId}{x y:Operand}{m n:Bool}(hP:P.underlying xt=some .bool)(ho:o.op = .binOp .neq xt x y yt)(hx:σ.ev x=some (B m))(hy:σ.ev y=some (B n)):bI P o σ fr (B (!(m == n))) []:=
 jR ho hx hy (λw=>by simp[eqGuard,binOp,aKN hP]) rfl
theorem a56{t:TypeId}{x:Operand}{b:Bool}(ho:o.op = .unOp .not t x)(hx:σ.ev x=some (B b)):bI P o σ fr (B (!b)) []:=
 dV λ_ _ _ _ w a _ _ hev=>by
  have h1':=cL (hev x _ hx);refine⟨.bool (!b),?_,.t (.v _ rfl)⟩;unfold execOp;rw[ho];simp only[h1'];simp[Op.unary]
theorem Yy{c x y:Operand}{d:D}(ho:o.op = .pick c x y)(hc:σ.ev c=some (B true))(hx:σ.ev x=some d):bI P o σ fr d []:=
 dV λ_ _ _ _ w a _ _ hev=>by
  have h1':=cL (hev c _ hc);exact⟨a.eval x,by simp[execOp,ho,h1',asBool],hev x d hx⟩
theorem Yz{c x y:Operand}{d:D}(ho:o.op = .pick c x y)(hc:σ.ev c=some (B false))(hy:σ.ev y=some d):bI P o σ fr d []:=
 dV λ_ _ _ _ w a _ _ hev=>by
  have h1':=cL (hev c _ hc);exact⟨a.eval y,by simp[execOp,ho,h1',asBool],hev y d hy⟩
theorem a6H{x:Operand}{i:Nat}{ds:List D}{d:D}(ho:o.op = .extract x i)(hx:σ.ev x=some (.bD ds))(hd:ds[i]?=some d):bI P o σ fr d []:=
 dV λ_ _ ν G w a _ _ hev=>by
  have h:=hev x _ hx;obtain⟨v,hv⟩:∃v,a.eval x=v:=⟨_,rfl⟩
  rw[hv]at h;cases h with
  | @bD vs _ hl h=>
    have hi:i<vs.size:=by rw[hl];exact(dC.1 hd).1
    refine⟨vs[i],?_,h i _ d (Array.getElem?_eq_getElem hi) hd⟩;unfold execOp;rw[ho];simp[hv,Instr.extract,hi]
end
end Go.Ab
