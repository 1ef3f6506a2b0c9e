/- The abstract machine. Conditions are in the theorems. -/
import Derived.Test.YtpfljkkcaplgeaaGreatDoorE1
import Derived.MapKept
open Array renaming ext_getElem?->O4,getD->O3,getElem?_eq_getElem->kL,getElem?_eq_none->Eb,getElem?_eq_some_iff->mP,getElem?_setIfInBounds_ne->tJ,length_toList->nJ,range->aKa,replicate->AL,toList_map->a9c
open Bool renaming and_eq_false_iff->a9a,and_eq_true->aT,eq_false_iff->AK,eq_iff_iff->a98,false_eq_true->E9,false_or->rT,not_eq_false'->a97,or_eq_true->lS
open Classical renaming not_not->Zy
open Int renaming natCast_mul->Zq,toNat_natCast->kB
open List renaming all_eq_true->fG,any_eq_true->vH,append_assoc->bP,cons_append->pP,contains_iff_mem->vG,drop_eq_nil_of_le->rR,eq_nil_of_length_eq_zero->AH,ext_getElem?->Bg,flatMap_cons->fV,flatten_cons->E5,getElem?_append_left->dV,getElem?_append_right->dN,getElem?_eq_getElem->dC,getElem?_eq_none->oC,getElem?_eq_some_iff->bZ,getElem?_map->cZ,getElem?_range->OV,getElem?_set->a9P,getElem?_set_ne->qP,getElem?_set_self->pO,getElem?_take->fU,length_append->aL,length_cons->eD,length_set->nI,mem_cons->eZ,mem_iff_getElem?->iS,mem_of_getElem?->iM,mem_range->vE,mem_singleton->nH,nil_append->k7,not_mem_nil->Zl,range->lR,replicate->cI,replicate_succ->pN,take_length->a9E,take_of_length_le->vD
open Nat renaming add_mul->kK,add_zero->rQ,le_refl->cE,lt_irrefl->OQ,lt_trichotomy->a8x,mul_one->lP,strongRecOn->vB,zero_add->eC,zero_le->o7,zero_mul->vA
open Ne renaming symm->eN
open Option renaming bind_eq_some_iff->wP,map_eq_some_iff->cO,map_some->lH,toList_none->a8p,toList_some->a8o
open Option.some renaming inj->gZ,injEq->iR
/- The abstract machine: a region that draws its order. Each operation is looked at once, from what comes before it in every order. -/
namespace Go.Ab
open Go.RowKit
abbrev Rs:=List (D×Wr)
def cR(ops:Array Oper)(fr:Nat)(S:Nat->Bool):Nat->Rs->St->St
 |_,[],σ=>σ
 |i,(d,W)::rs,σ=>cR ops fr S (i+1) rs (if S i then σ.aP (Region.gG ops i) d W (fr+8*i)else σ)
def fS(kl:List (List Nat))(fr p k:Nat):Bool:=(kl.getD p []).contains k||(decide (fr+8*p<=k)&&decide (k<fr+8*p+8))
def apart(pre:List (List Nat))(i p:Nat):Bool:=p != i&&!(pre.getD i []).contains p&&!(pre.getD p []).contains i
def ctx(ops:Array Oper)(pre kl:List (List Nat))(fr i:Nat)(rs:Rs)(σ:St):St:=
 ⟨λt=>if(lR ops.size).any (λp=>apart pre i p&&(Region.gG ops p == some t))=true then none else(cR ops fr (λj=>(pre.getD i []).contains j) 0 rs σ).T t,
  λk=>if(lR ops.size).any (λp=>apart pre i p&&fS kl fr p k)=true then none else(cR ops fr (λj=>(pre.getD i []).contains j) 0 rs σ).H k,σ.nm⟩
def Bn(P:Program)(ops:Array Oper)(pre kl:List (List Nat))(fr:Nat)(σ:St)(Post:St->Prop):List Oper->Nat->Rs->Prop
 |[],_,rs=>Post (cR ops fr (λ_=>true) 0 rs σ)
 |o::rest,i,rs=>∃d W,qI P ops o (ctx ops pre kl fr i rs σ) (fr+8*i) d W/\(W.all λp=>fS kl fr i p.1)=true/\Bn P ops pre kl fr σ Post rest (i+1) (rs++[(d,W)])
def JQ(ops:Array Oper)(pre kl:List (List Nat))(fr m:Nat):Bool:=
 Region.noSelect ops &&
 (lR ops.size).all (λi=>match ops[i]? with
  |none=>false
  |some o=>o.after.all (λe=>!Region.binds .any e||decide (e.on<i))&&(match o.dst with |none=>true |some t=>decide (t<m)) &&
    (pre.getD i []).all (λj=>decide (j<i)&&o.after.any (λe=>Region.binds .any e&&(e.on == j||(pre.getD e.on []).contains j)))) &&
 (lR ops.size).all (λq=>(lR q).all λp=>(pre.getD q []).contains p ||
  ((Region.gG ops p).isNone||Region.gG ops p != Region.gG ops q)&&(kl.getD p []).all (λk=>!fS kl fr q k)&&(kl.getD q []).all (λk=>!fS kl fr p k))
structure wY(ops:Array Oper)(pre kl:List (List Nat))(fr m:Nat):Prop where
 Wo:Region.noSelect ops=true
 back:∀(i:Nat)(o:Oper),ops[i]?=some o->∀e∈o.after,Region.binds .any e=true->e.on<i
 dst:∀(i:Nat)(o:Oper),ops[i]?=some o->∀t,o.dst=some t->t<m
 Az:∀(i:Nat)(o:Oper),ops[i]?=some o->∀j∈pre.getD i [],j<i/\∃e∈o.after,Region.binds .any e=true/\(e.on=j\/j∈pre.getD e.on [])
 aJT:∀p q,p<q->q<ops.size->p∉pre.getD q []->(∀t,Region.gG ops p=some t->Region.gG ops q≠some t)/\∀k,fS kl fr p k=true->fS kl fr q k=false
theorem aJr{ops:Array Oper}{pre kl:List (List Nat)}{fr m:Nat}(h:JQ ops pre kl fr m=true):wY ops pre kl fr m:=by
 unfold JQ at h;simp only[aT]at h;obtain⟨⟨h1,h3⟩,h4⟩:=h;have lt:∀{i:Nat}{o:Oper},ops[i]?=some o->i<ops.size:=λho=>(mP.1 ho).1
 have e3:∀(i:Nat)(o:Oper),ops[i]?=some o->_:=λi o ho=>by
  have:=fG.1 h3 i (vE.2 (lt ho));simp only[ho,aT]at this;exact this
 refine⟨h1,λi o ho e he hb=>?_,λi o ho t ht=>?_,λi o ho j hj=>?_,λp q hpq hq hnp=>?_⟩
 .have:=(Array.all_eq_true_iff_forall_mem.1 (e3 i o ho).1.1) e he
  simpa[hb]using this
 .have:=(e3 i o ho).1.2
  rw[ht]at this;exact bK this
 .have:=fG.1 (e3 i o ho).2 j hj
  simp only[aT,kJ]at this;refine⟨this.1,?_⟩;obtain⟨e,he,hb⟩:=Array.any_eq_true'.1 this.2;simp only[aT,lS,sY,vG]at hb;exact⟨e,he,hb.1,hb.2⟩
 .have:=fG.1 (fG.1 h4 q (vE.2 hq)) p (vE.2 hpq)
  simp only[lS,vG,aT]at this;rcases this with h|⟨⟨h1,h2⟩,h3⟩
  .exact absurd h hnp
  .refine⟨λt ht he=>?_,λk hk=>?_⟩
   .rw[ht,he]at h1
    simp at h1
   .rw[AK]
    intro hkq;have hk':=hk;have hkq':=hkq;simp only[fS,lS,vG,aT,kJ]at hk' hkq';rcases hk' with hk'|hk'
    .have:=fG.1 h2 k hk'
     simp[hkq]at this
    .rcases hkq' with hkq'|hkq'
     .have:=fG.1 h3 k hkq'
      simp[hk]at this
     .omega
section
variable{ops:Array Oper}{pre kl:List (List Nat)}{fr m:Nat}{listed:Array Bool}
theorem wY.BD(F:wY ops pre kl fr m)(h:rS ops listed):∀(i j:Nat),On listed i->j∈pre.getD i []->On listed j:=by
 intro i
 induction i using vB with
 |_ i ih=>
   intro j hi hj;have hlt:=On.lt h hi;have ho:ops[i]?=some ops[i]:=by simp[hlt]
   obtain⟨_,e,he,hb,hc⟩:=F.Az i _ ho j hj;have hon:=h.down i _ hi ho e he hb;rcases hc with hc|hc
   .exact hc ▸ hon
   .exact ih e.on (F.back i _ ho e he hb) j hon hc
theorem wY.Mg(F:wY ops pre kl fr m)(h:rS ops listed){i j:Nat}(hr:i∈Region.ready .any ops listed)(hj:j∈pre.getD i []):On listed j:=by
 obtain⟨h0,o,ho,hall⟩:=mem_ready.1 hr;obtain⟨_,e,he,hb,hc⟩:=F.Az i o ho j hj;rcases hc with hc|hc
 .exact hc ▸ hall e he hb
 .exact F.BD h e.on j (hall e he hb) hc
theorem wY.least(F:wY ops pre kl fr m)(h:rS ops listed):∀i,i<ops.size->¬ On listed i->∃k,k<=i/\k∈Region.ready .any ops listed:=by
 intro i
 induction i using vB with
 |_ i ih=>
   intro hlt hi;by_cases hex:∃j,j<i/\¬ On listed j
   .obtain⟨j,hj,hn⟩:=hex
    obtain⟨k,hk,hr⟩:=ih j hj (by omega) hn;exact⟨k,by omega,hr⟩
   .have ho:ops[i]?=some ops[i]:=by simp[hlt]
    refine⟨i,cE _,mem_ready.2 ⟨(BF h.sz hlt).1 hi,_,ho,λe he hb=>?_⟩⟩;have:=F.back i _ ho e he hb;exact Zy.1 λhn=>hex ⟨e.on,this,hn⟩
end
theorem St.ext'{σ σ':St}(h1:∀t,σ.T t=σ'.T t)(h2:∀k,σ.H k=σ'.H k)(h3:∀k,σ.nm k=σ'.nm k):σ=σ':=by
 cases σ;cases σ';simp only[St.mk.injEq];exact⟨funext h1,funext h2,funext h3⟩
theorem Xl{W:Wr}{k:Nat}{f:Nat->Bool}(h:(W.all λp=>f p.1)=true)(hk:f k=false):look k W=none:=by
 cases hl:look k W with
 |none=>rfl
 |some x=>
   have:=fG.1 h _ (oR hl);simp only at this;rw[hk]at this;cases this
theorem a03{σ:St}{t1 t2:Option Tmp}{d1 d2:D}{W1 W2:Wr}{f1 f2:Nat}(ht:∀t,t1=some t->t2≠some t)(hW:∀k,look k W1=none\/look k W2=none):(σ.aP t1 d1 W1 f1).aP t2 d2 W2 f2=(σ.aP t2 d2 W2 f2).aP t1 d1 W1 f1:=by
 refine St.ext' (λt=>?_) (λk=>?_) (λk=>?_)
 .simp only[St.aP]
  by_cases h2:t2=some t
  .rw[aI h2,aE (λh1=>ht t h1 h2)]
   simp[h2]
  .rw[aE h2]
   by_cases h1:t1=some t
   .rw[aI h1,aI h1]
   .rw[aE h1,aE h1,aE h2]
 .simp only[St.aP]
  rcases hW k with h|h
  .simp only[h]
  .simp only[h]
 .simp only[St.aP]
  cases σ.nm k <;> simp[Bool.or_comm]
section
variable{ops:Array Oper}{pre kl:List (List Nat)}{fr:Nat}
theorem aG8(S:Nat->Bool){i:Nat}{d:D}{W:Wr}(hW:(W.all λp=>fS kl fr i p.1)=true):∀(rs:Rs)(j:Nat)(σ:St),(∀(q:Nat)(d':D)(W':Wr),rs[q]?=some (d',W')->(W'.all λp=>fS kl fr (j+q) p.1)=true)->
    (∀q,q<rs.length->S (j+q)=true->(∀t,Region.gG ops i=some t->Region.gG ops (j+q)≠some t)/\∀k,fS kl fr i k=true->fS kl fr (j+q) k=false)->
    cR ops fr S j rs (σ.aP (Region.gG ops i) d W (fr+8*i))=(cR ops fr S j rs σ).aP (Region.gG ops i) d W (fr+8*i)
 |[],_,_,_,_=>rfl
 |(d',W')::rs,j,σ,hk,hc=>by
   have hk':=hk 0 d' W' rfl;rw[rQ]at hk';have rec_:=λσ=>aG8 (d:=d) S hW rs (j+1) σ (λq d'' W'' h=>by have:=hk (q+1) d'' W'' (by simpa using h);rwa [show j+(q+1)=j+1+q by omega]at this)
    (λq hq hS=>by have:=hc (q+1) (by simpa using hq) (by rw[show j+(q+1)=j+1+q by omega];exact hS);rwa [show j+(q+1)=j+1+q by omega]at this)
   unfold cR;by_cases hS:S j=true
   .obtain⟨c1,c2⟩:=hc 0 (by simp) (by simpa using hS)
    rw[rQ]at c1 c2;simp only[hS,iO];rw[a03 c1 (λk=>?_)]
    .exact rec_ _
    .by_cases hki:fS kl fr i k=true
     .exact .inr (Xl hk' (c2 k hki))
     .exact .inl (Xl hW (by simpa using hki))
   .simp only[hS,if_false,E9]
    exact rec_ σ
theorem W9{S S':Nat->Bool}{i:Nat}(hi:S i=false)(hi':S' i=true)(hS:∀j,j≠i->S' j=S j):∀(rs:Rs)(j:Nat)(σ:St),j<=i->∀d W,rs[i-j]?=some (d,W)->
    (∀(q:Nat)(d':D)(W':Wr),rs[q]?=some (d',W')->(W'.all λp=>fS kl fr (j+q) p.1)=true)->
    (∀p,i<p->p<j+rs.length->S p=true->(∀t,Region.gG ops i=some t->Region.gG ops p≠some t)/\∀k,fS kl fr i k=true->fS kl fr p k=false)->
    cR ops fr S' j rs σ=(cR ops fr S j rs σ).aP (Region.gG ops i) d W (fr+8*i)
 |[],_,_,_,_,_,h,_,_=>by simp at h
 |(d',W')::rs,j,σ,hj,d,W,h,hk,hc=>by
   have hk2:∀(q:Nat)(d'':D)(W'':Wr),rs[q]?=some (d'',W'')->(W''.all λp=>fS kl fr (j+1+q) p.1)=true:=λq d'' W'' h=>by have:=hk (q+1) d'' W'' (by simpa using h);rwa [show j+(q+1)=j+1+q by omega]at this
   unfold cR;by_cases e:j=i
   .subst e
    simp only[Nat.sub_self,List.getElem?_cons_zero,iR,Prod.mk.injEq]at h;obtain⟨rfl,rfl⟩:=h;simp only[hi,hi',iO,if_false,E9];have hsame:∀(rs:Rs)(q:Nat)(σ:St),j<q->cR ops fr S' q rs σ=cR ops fr S q rs σ:=by
     intro rs
     induction rs with
     |nil=>intro q σ _;rfl
     |cons r rs ih=>intro q σ hq;unfold cR;rw[hS q (by omega)];exact ih _ _ (by omega)
    rw[hsame rs (j+1) _ (by omega)];have hk0:=hk 0 d' W' rfl;rw[rQ]at hk0;exact aG8 S hk0 rs (j+1) σ hk2 (λq hq hSq=>hc (j+1+q) (by omega) (by simp;omega) hSq)
   .rw[hS j e]
    refine W9 hi hi' hS rs (j+1) _ (by omega) d W ?_ hk2 (λp h1 h2 h3=>hc p h1 (by simp;omega) h3);rw[show i-j=(i-(j+1))+1 by omega]at h;simpa using h
theorem Wa{S S':Nat->Bool}{t:Nat}:∀(rs:Rs)(j:Nat)(σ σ':St),σ.T t=σ'.T t->(∀q,q<rs.length->Region.gG ops (j+q)=some t->S (j+q)=S' (j+q))->(cR ops fr S j rs σ).T t=(cR ops fr S' j rs σ').T t
 |[],_,_,_,h,_=>h
 |(d,W)::rs,j,σ,σ',h,hq=>by
   unfold cR;refine Wa rs (j+1) _ _ ?_ (λq h1 h2=>by have:=hq (q+1) (by simpa using h1) (by rw[show j+(q+1)=j+1+q by omega];exact h2);rwa [show j+(q+1)=j+1+q by omega]at this);by_cases hd:Region.gG ops j=some t
   .have:=hq 0 (by simp) (by simpa using hd)
    rw[rQ]at this;rw[this];split
    .simp[St.aP,hd]
    .exact h
   .split <;> split <;> simp[St.aP,hd,h]
theorem Wb{S S':Nat->Bool}{k:Nat}:∀(rs:Rs)(j:Nat)(σ σ':St),σ.H k=σ'.H k->(∀(q:Nat)(d':D)(W':Wr),rs[q]?=some (d',W')->(W'.all λp=>fS kl fr (j+q) p.1)=true)->(∀q,q<rs.length->fS kl fr (j+q) k=true->S (j+q)=S' (j+q))->(cR ops fr S j rs σ).H k=(cR ops fr S' j rs σ').H k
 |[],_,_,_,h,_,_=>h
 |(d,W)::rs,j,σ,σ',h,hk,hq=>by
   unfold cR;refine Wb rs (j+1) _ _ ?_ (λq d'' W'' h=>by have:=hk (q+1) d'' W'' (by simpa using h);rwa [show j+(q+1)=j+1+q by omega]at this)
    (λq h1 h2=>by have:=hq (q+1) (by simpa using h1) (by rw[show j+(q+1)=j+1+q by omega];exact h2);rwa [show j+(q+1)=j+1+q by omega]at this)
   have hk0:=hk 0 d W rfl;rw[rQ]at hk0;by_cases hd:fS kl fr j k=true
   .have:=hq 0 (by simp) (by simpa using hd)
    rw[rQ]at this;rw[this];split
    .simp only[St.aP];rw[h]
    .exact h
   .have hl:=Xl hk0 (by simpa using hd:fS kl fr j k=false)
    split <;> split <;> simp[St.aP,hl,h]
theorem IC{S:Nat->Bool}:∀(rs:Rs)(j:Nat)(σ:St)(k:Nat),σ.nm k=false->(∀q,q<rs.length->S (j+q)=true->¬ (fr+8*(j+q)<=k/\k<fr+8*(j+q)+8))->(cR ops fr S j rs σ).nm k=false
 |[],_,_,_,h,_=>h
 |(d,W)::rs,j,σ,k,h,hq=>by
   unfold cR;refine IC rs (j+1) _ k ?_ (λq h1 h2=>by have:=hq (q+1) (by simpa using h1) (by rw[show j+(q+1)=j+1+q by omega];exact h2);rwa [show j+(q+1)=j+1+q by omega]at this);split
   .rename_i hS
    have:=hq 0 (by simp) (by simpa using hS);rw[rQ]at this;simp only[St.aP,h,rT];rw[AK];simp only[ne_eq,aT,kJ];exact this
   .exact h
theorem Bn.all{P:Program}{σ:St}{Post:St->Prop}:∀(l:List Oper)(i:Nat)(rs:Rs),i=rs.length->(∀(q:Nat)(d:D)(W:Wr),rs[q]?=some (d,W)->(W.all λp=>fS kl fr q p.1)=true)->Bn P ops pre kl fr σ Post l i rs->
    ∃all:Rs,all.length=rs.length+l.length/\(∀(q:Nat)(d:D)(W:Wr),all[q]?=some (d,W)->(W.all λp=>fS kl fr q p.1)=true)/\(∀q,q<rs.length->all[q]?=rs[q]?)/\Post (cR ops fr (λ_=>true) 0 all σ) /\
     ∀(q:Nat)(o:Oper),l[q]?=some o->∃d W,all[i+q]?=some (d,W)/\qI P ops o (ctx ops pre kl fr (i+q) (all.take (i+q)) σ) (fr+8*(i+q)) d W
 |[],i,rs,hi,hk,h=>⟨rs,by simp,hk,λ_ _=>rfl,h,λq o h=>by simp at h⟩
 |o::rest,i,rs,hi,hk,h=>by
   obtain⟨d,W,h1,h2,h3⟩:=h;obtain⟨all,a1,a2,a3,a4,a5⟩:=Bn.all rest (i+1) (rs++[(d,W)]) (by simp[hi]) (λq d' W' hq=>by
    rcases a8x q rs.length with hlt|heq|hgt
    .rw[dV hlt]at hq;exact hk q d' W' hq
    .subst heq
     simp at hq;obtain⟨rfl,rfl⟩:=hq;rw[<-hi];exact h2
    .rw[oC (by simp;omega)]at hq;cases hq) h3
   have hat:all[i]?=some (d,W):=by
    rw[a3 i (by simp[hi]),hi];simp
   refine⟨all,by rw[a1];simp;omega,a2,λq hq=>by rw[a3 q (by simp;omega),dV hq],a4,λq o' hq=>?_⟩;cases q with
   |zero=>
     simp at hq;subst hq;have htake:all.take i=rs:=by
      apply Bg;intro q;rw[fU];by_cases hlt:q<i
      .rw[aI hlt,a3 q (by simp;omega),dV (by omega)]
      .rw[aE hlt,oC (by omega)]
     refine⟨d,W,hat,?_⟩;rw[rQ,htake];exact h1
   |succ q=>
     obtain⟨d',W',h4,h5⟩:=a5 q o' (by simpa using hq);rw[show i+1+q=i+(q+1)by omega]at h4 h5;exact⟨d',W',h4,h5⟩
theorem W8{S:Nat->Bool}{n:Nat}(hS:∀q,n<=q->S q=false):∀(rs:Rs)(j:Nat)(σ:St),cR ops fr S j (rs.take (n-j)) σ=cR ops fr S j rs σ
 |[],_,_=>by simp
 |(d,W)::rs,j,σ=>by
   by_cases h:j<n
   .rw[show n-j=(n-(j+1))+1 by omega,List.take_succ_cons]
    unfold cR;exact W8 hS rs (j+1) _
   .have hnone:∀(rs:Rs)(q:Nat)(σ:St),n<=q->cR ops fr S q rs σ=σ:=by
     intro rs
     induction rs with
     |nil=>intro q σ _;rfl
     |cons r rs ih=>intro q σ hq;unfold cR;rw[hS q hq];exact ih _ _ (by omega)
    rw[hnone _ _ _ (by omega),hnone _ _ _ (by omega)]
theorem a1b{P:Program}{E:Env}{σ:St}{all:Rs}{Q:Exit->Act->World->Prop}{m:Nat}(F:wY ops pre kl fr m)(hm:E.m=m)(h100:100<=fr)(hfree:∀k,fr<=k->σ.nm k=false)(hlen:all.length=ops.size)
    (hk:∀(q:Nat)(d:D)(W:Wr),all[q]?=some (d,W)->(W.all λp=>fS kl fr q p.1)=true)
    (hstep:∀(q:Nat)(o:Oper),ops[q]?=some o->∃d W,all[q]?=some (d,W)/\qI P ops o (ctx ops pre kl fr q (all.take q) σ) (fr+8*q) d W)
    {a0:Act} (hQ:∀a' w',a'.defers=a0.defers->R E (cR ops fr (λ_=>true) 0 all σ) a'.tmps w'->Q .normal a' w'):
    ∀(fuel:Nat)(listed:Array Bool)(a:Act)(w:World),rS ops listed->Ai ops.size listed<=fuel->a.defers=a0.defers->R E (cR ops fr (λj=>listed.getD j false) 0 all σ) a.tmps w->wpAny P .any ops Q fuel listed a w:=by
 have hfin:∀(listed:Array Bool)(a:Act)(w:World),(∀j,j<ops.size->On listed j)->a.defers=a0.defers->R E (cR ops fr (λj=>listed.getD j false) 0 all σ) a.tmps w->Q .normal a w:=λlisted a w hall hd hR=>by
  refine hQ a w hd ?_;have:cR ops fr (λj=>listed.getD j false) 0 all σ=cR ops fr (λ_=>true) 0 all σ:=by
   have gen:∀(rs:Rs)(j:Nat)(σ:St),j+rs.length<=ops.size->cR ops fr (λj=>listed.getD j false) j rs σ=cR ops fr (λ_=>true) j rs σ:=by
    intro rs
    induction rs with
    |nil=>intro j σ _;rfl
    |cons r rs ih=>
      intro j σ hj;unfold cR;have:=hall j (by simp at hj;omega);unfold On at this;rw[this];exact ih _ _ (by simp at hj;omega)
   exact gen all 0 σ (by omega)
  rw[<-this];exact hR
 intro fuel
 induction fuel with
 |zero=>
   intro listed a w hd hf hdf hR;have hall:∀j,j<ops.size->On listed j:=λj hj=>Zy.1 λhn=>by
    have:=aGN hj ((BF hd.sz hj).1 hn);omega
   refine⟨List.eq_nil_iff_forall_not_mem.2 λj hj=>?_,hfin listed a w hall hdf hR⟩;obtain⟨h0,o,ho,_⟩:=mem_ready.1 hj;have hlt:=(mP.1 ho).1;exact(BF hd.sz hlt).2 h0 (hall j hlt)
 |succ fuel ih=>
   intro listed a w hd hf hdf hR;refine⟨λhr=>?_,λi hi=>?_⟩
   .refine hfin listed a w (λj hj=>Zy.1 λhn=>?_) hdf hR
    obtain⟨k,_,hk'⟩:=F.least hd j hj hn;rw[hr]at hk';cases hk'
   .obtain⟨h0,o,ho,_⟩:=mem_ready.1 hi
    have hin:=(mP.1 ho).1;have hni:¬ On listed i:=(BF hd.sz hin).2 h0;have hdst:Region.gG ops i=o.dst:=by simp[Region.gG,ho]
    obtain⟨d,W,hat,hs⟩:=hstep i o ho;have hpre:∀j∈pre.getD i [],On listed j:=λj hj=>F.Mg hd hi hj
    -- writers of what i may rely on
    have hap:∀p,p<ops.size->apart pre i p=false->On listed p->p∈pre.getD i []:=λp hp hap hon=>by
     have hpi:p≠i:=λe=>hni (e ▸ hon)
     simp only[apart,a9a,bne_eq_false_iff_eq,a97,vG]at hap;rcases hap with(h|h)|h
     .exact absurd h hpi
     .exact h
     .exact absurd (F.BD hd p i hon h) hni
    have hSpre:(λj=>(pre.getD i []).contains j)=λj=>(pre.getD i []).contains j:=rfl
    have htake:cR ops fr (λj=>(pre.getD i []).contains j) 0 (all.take i) σ=cR ops fr (λj=>(pre.getD i []).contains j) 0 all σ:=by
     have:=W8 (ops:=ops) (fr:=fr) (S:=λj=>(pre.getD i []).contains j) (n:=i) (λq hq=>by
      rw[AK];intro hc;have:=(F.Az i o ho q (vG.1 hc)).1;omega) all 0 σ
     simpa using this
    have hsame:∀p,p<ops.size->(apart pre i p=false)->listed.getD p false=(pre.getD i []).contains p:=λp hp hq=>by
     rw[a98,vG];exact⟨λh=>hap p hp hq h,λh=>hpre p h⟩
    have hT:∀t d,(ctx ops pre kl fr i (all.take i) σ).T t=some d->(cR ops fr (λj=>listed.getD j false) 0 all σ).T t=some d:=λt d' h=>by
     simp only[ctx]at h;split at h
     .cases h
     .rename_i hno
      rw[htake]at h;rw[<-h];refine Wa all 0 σ σ rfl (λq hq hqd=>?_);rw[eC]at hqd ⊢;refine hsame q (by omega) ?_;rw[AK];intro hap';exact hno (vH.2 ⟨q,vE.2 (by omega),by simp[hap',hqd]⟩)
    have hH:∀k o',(ctx ops pre kl fr i (all.take i) σ).H k=some o'->(cR ops fr (λj=>listed.getD j false) 0 all σ).H k=some o':=λk o' h=>by
     simp only[ctx]at h;split at h
     .cases h
     .rename_i hno
      rw[htake]at h;rw[<-h];refine Wb (kl:=kl) all 0 σ σ rfl (λq d' W' hq=>by rw[eC];exact hk q d' W' hq) (λq hq hqk=>?_);rw[eC]at hqk ⊢;refine hsame q (by omega) ?_;rw[AK];intro hap';exact hno (vH.2 ⟨q,vE.2 (by omega),by simp[hap',hqk]⟩)
    have hnm:∀k,fr+8*i<=k->k<fr+8*i+8->(cR ops fr (λj=>listed.getD j false) 0 all σ).nm k=false:=λk h1 h2=>by
     refine IC all 0 σ k (hfree k (by omega)) (λq hq hS h=>?_);rw[eC]at hS h;have:q=i:=by omega
     subst this;exact hni hS
    have hins:cR ops fr (λj=>(listed.setIfInBounds i true).getD j false) 0 all σ=(cR ops fr (λj=>listed.getD j false) 0 all σ).aP o.dst d W (fr+8*i):=by
     rw[<-hdst];refine W9 (kl:=kl) (i:=i) (by simpa[On]using hni) (by simp[hd.sz,hin]) (λj hj=>getD_set_ne false (λe=>hj e.symm)) all 0 σ (o7 _) d W (by simpa using hat) (λq d' W' hq=>by rw[eC];exact hk q d' W' hq) (λp hp1 hp2 hS=>?_);refine F.aJT i p hp1 (by omega) (λhip=>hni (F.BD hd p i hS hip))
    have hop:=hs.run hT hH (by omega) hnm (λt ht=>by rw[hm];exact F.dst i o ho t ht) hR (wpAny P .any ops Q fuel (listed.setIfInBounds i true)) Q (λa' w' hd' hR'=>by
     refine ih (listed.setIfInBounds i true) a' w' (hd.set hi) ?_ (hd'.trans hdf) (by rw[hins];exact hR');have:=aGM hin h0;omega)
    unfold wpOp;simp only[ho];exact hop
def rV(P:Program)(ops:Array Oper)(pre kl:List (List Nat))(fr:Nat)(σ:St)(Post:Exit->St->Prop):List Oper->Nat->Rs->Prop
 |[],_,rs=>Post .normal (cR ops fr (λ_=>true) 0 rs σ)
 |o::rest,i,rs=>(∃d W,qI P ops o (ctx ops pre kl fr i rs σ) (fr+8*i) d W/\(W.all λp=>fS kl fr i p.1)=true/\rV P ops pre kl fr σ Post rest (i+1) (rs++[(d,W)])) \/
     ∃v W,tF ops o (ctx ops pre kl fr i rs σ)/\Bc P o (ctx ops pre kl fr i rs σ) (fr+8*i) v W/\(∀p,i<p->p<ops.size->i∈pre.getD p [])/\(∀q∈rs,q.2=[])/\Post (.panic [uK v]) ((⟨λ_=>none,σ.H,σ.nm⟩:St).aP none .any W (fr+8*i))
theorem rV.all{P:Program}{σ:St}{Post:Exit->St->Prop}:∀(l:List Oper)(i:Nat)(rs:Rs),i=rs.length->(∀(q:Nat)(d:D)(W:Wr),rs[q]?=some (d,W)->(W.all λp=>fS kl fr q p.1)=true)->rV P ops pre kl fr σ Post l i rs->
    (∃all:Rs,all.length=rs.length+l.length/\(∀(q:Nat)(d:D)(W:Wr),all[q]?=some (d,W)->(W.all λp=>fS kl fr q p.1)=true)/\(∀q,q<rs.length->all[q]?=rs[q]?)/\Post .normal (cR ops fr (λ_=>true) 0 all σ) /\
     ∀(q:Nat)(o:Oper),l[q]?=some o->∃d W,all[i+q]?=some (d,W)/\qI P ops o (ctx ops pre kl fr (i+q) (all.take (i+q)) σ) (fr+8*(i+q)) d W) \/
    ∃(all:Rs)(n:Nat)(o:Oper)(v:Value)(W:Wr),all.length=n/\i<=n/\l[n-i]?=some o/\(∀(q:Nat)(d:D)(W:Wr),all[q]?=some (d,W)->(W.all λp=>fS kl fr q p.1)=true)/\(∀q,q<rs.length->all[q]?=rs[q]?) /\
     (∀(q:Nat)(o:Oper),i+q<n->l[q]?=some o->∃d W,all[i+q]?=some (d,W)/\qI P ops o (ctx ops pre kl fr (i+q) (all.take (i+q)) σ) (fr+8*(i+q)) d W) /\
     tF ops o (ctx ops pre kl fr n all σ)/\Bc P o (ctx ops pre kl fr n all σ) (fr+8*n) v W/\(∀p,n<p->p<ops.size->n∈pre.getD p [])/\(∀q∈all,q.2=[])/\Post (.panic [uK v]) ((⟨λ_=>none,σ.H,σ.nm⟩:St).aP none .any W (fr+8*n))
 |[],i,rs,hi,hk,h=>.inl ⟨rs,by simp,hk,λ_ _=>rfl,h,λq o h=>by simp at h⟩
 |o::rest,i,rs,hi,hk,h=>by
   rcases h with⟨d,W,h1,h2,h3⟩|⟨v,W,h1,h2,h3,h4,h5⟩
   .have hk':∀(q:Nat)(d':D)(W':Wr),(rs++[(d,W)])[q]?=some (d',W')->(W'.all λp=>fS kl fr q p.1)=true:=λq d' W' hq=>by
     rcases a8x q rs.length with hlt|heq|hgt
     .rw[dV hlt]at hq;exact hk q d' W' hq
     .subst heq
      simp at hq;obtain⟨rfl,rfl⟩:=hq;rw[<-hi];exact h2
     .rw[oC (by simp;omega)]at hq;cases hq
    have step0:∀all:Rs,(∀q,q<(rs++[(d,W)]).length->all[q]?=(rs++[(d,W)])[q]?)->∃d W,all[i+0]?=some (d,W)/\qI P ops o (ctx ops pre kl fr (i+0) (all.take (i+0)) σ) (fr+8*(i+0)) d W:=λall a3=>by
     have hat:all[i]?=some (d,W):=by
      rw[a3 i (by simp[hi]),hi];simp
     have htake:all.take i=rs:=by
      apply Bg;intro q;rw[fU];by_cases hlt:q<i
      .rw[aI hlt,a3 q (by simp;omega),dV (by omega)]
      .rw[aE hlt,oC (by omega)]
     refine⟨d,W,hat,?_⟩;rw[rQ,htake];exact h1
    rcases rV.all rest (i+1) (rs++[(d,W)]) (by simp[hi]) hk' h3 with⟨all,a1,a2,a3,a4,a5⟩|⟨all,n,o',v,W',a1,a2,a3,a4,a5,a6,a7⟩
    .refine .inl ⟨all,by rw[a1];simp;omega,a2,λq hq=>by rw[a3 q (by simp;omega),dV hq],a4,λq o' hq=>?_⟩
     cases q with
     |zero=>
       simp at hq;subst hq;exact step0 all a3
     |succ q=>
       obtain⟨d',W',h4,h5⟩:=a5 q o' (by simpa using hq);rw[show i+1+q=i+(q+1)by omega]at h4 h5;exact⟨d',W',h4,h5⟩
    .refine .inr ⟨all,n,o',v,W',a1,by omega,?_,a4,λq hq=>by rw[a5 q (by simp;omega),dV hq],λq o'' hq hq'=>?_,a7⟩
     .rw[show n-i=(n-(i+1))+1 by omega]
      simpa using a3
     .cases q with
      |zero=>
        simp at hq';subst hq';exact step0 all a5
      |succ q=>
        obtain⟨d',W'',h4,h5⟩:=a6 q o'' (by omega) (by simpa using hq');rw[show i+1+q=i+(q+1)by omega]at h4 h5;exact⟨d',W'',h4,h5⟩
   .refine .inr ⟨rs,i,o,v,W,hi.symm,cE _,by simp,hk,λ_ _=>rfl,λq o' hq=>by omega,h1,h2,h3,h4,h5⟩
theorem MT{S:Nat->Bool}:∀(rs:Rs)(j:Nat)(σ:St),(∀q∈rs,q.2=[])->(cR ops fr S j rs σ).H=σ.H
 |[],_,_,_=>rfl
 |(d,W)::rs,j,σ,h=>by
   have hW:W=[]:=h (d,W) (by simp);subst hW;unfold cR;rw[MT rs (j+1) _ (λq hq=>h q (by simp[hq]))];split <;> rfl
theorem a1a{P:Program}{E:Env}{σ:St}{all:Rs}{Q:Exit->Act->World->Prop}{m:Nat}(F:wY ops pre kl fr m)(hm:E.m=m)(h100:100<=fr)(hfree:∀k,fr<=k->σ.nm k=false){n:Nat}(hn:n<ops.size)(hlen:all.length=n)
    (hk:∀(q:Nat)(d:D)(W:Wr),all[q]?=some (d,W)->(W.all λp=>fS kl fr q p.1)=true)
    (hstep:∀(q:Nat)(o:Oper),q<n->ops[q]?=some o->∃d W,all[q]?=some (d,W)/\qI P ops o (ctx ops pre kl fr q (all.take q) σ) (fr+8*q) d W)
    {o0:Oper} (ho0:ops[n]?=some o0) {pv:Value} {pW:Wr} (hgd:tF ops o0 (ctx ops pre kl fr n all σ)) (hpan:Bc P o0 (ctx ops pre kl fr n all σ) (fr+8*n) pv pW) (hlater:∀p,n<p->p<ops.size->n∈pre.getD p [])
    {a0:Act} (hQ:∀(S:Nat->Bool) a' w',a'.defers=a0.defers->R E ((cR ops fr S 0 all σ).aP none .any pW (fr+8*n)) a'.tmps w'->Q (.panic [uK pv]) a' w'):
    ∀(fuel:Nat)(listed:Array Bool)(a:Act)(w:World),rS ops listed->(∀j,On listed j->j<n)->Ai ops.size listed<=fuel->a.defers=a0.defers->R E (cR ops fr (λj=>listed.getD j false) 0 all σ) a.tmps w->wpAny P .any ops Q fuel listed a w:=by
 intro fuel
 induction fuel with
 |zero=>
   intro listed a w hd hltn hf hdf hR;have:On listed n:=Zy.1 λhno=>by
    have:=aGN hn ((BF hd.sz hn).1 hno);omega
   exact absurd (hltn n this) (OQ _)
 |succ fuel ih=>
   intro listed a w hd hltn hf hdf hR;refine⟨λhr=>?_,λi hi=>?_⟩
   .exfalso
    obtain⟨k,_,hk'⟩:=F.least hd n hn (λh=>OQ _ (hltn n h));rw[hr]at hk';cases hk'
   .obtain⟨h0,o,ho,_⟩:=mem_ready.1 hi
    have hin:=(mP.1 ho).1;have hni:¬ On listed i:=(BF hd.sz hin).2 h0;have hdst:Region.gG ops i=o.dst:=by simp[Region.gG,ho]
    have hin':i<=n:=Nat.le_of_not_lt λhlt=>OQ _ (hltn n (F.Mg hd hi (hlater i hlt hin)))
    have hpre:∀j∈pre.getD i [],On listed j:=λj hj=>F.Mg hd hi hj
    -- writers of what i may rely on
    have hap:∀p,p<ops.size->apart pre i p=false->On listed p->p∈pre.getD i []:=λp hp hap hon=>by
     have hpi:p≠i:=λe=>hni (e ▸ hon)
     simp only[apart,a9a,bne_eq_false_iff_eq,a97,vG]at hap;rcases hap with(h|h)|h
     .exact absurd h hpi
     .exact h
     .exact absurd (F.BD hd p i hon h) hni
    have hSpre:(λj=>(pre.getD i []).contains j)=λj=>(pre.getD i []).contains j:=rfl
    have htake:cR ops fr (λj=>(pre.getD i []).contains j) 0 (all.take i) σ=cR ops fr (λj=>(pre.getD i []).contains j) 0 all σ:=by
     have:=W8 (ops:=ops) (fr:=fr) (S:=λj=>(pre.getD i []).contains j) (n:=i) (λq hq=>by
      rw[AK];intro hc;have:=(F.Az i o ho q (vG.1 hc)).1;omega) all 0 σ
     simpa using this
    have hsame:∀p,p<ops.size->(apart pre i p=false)->listed.getD p false=(pre.getD i []).contains p:=λp hp hq=>by
     rw[a98,vG];exact⟨λh=>hap p hp hq h,λh=>hpre p h⟩
    have hT:∀t d,(ctx ops pre kl fr i (all.take i) σ).T t=some d->(cR ops fr (λj=>listed.getD j false) 0 all σ).T t=some d:=λt d' h=>by
     simp only[ctx]at h;split at h
     .cases h
     .rename_i hno
      rw[htake]at h;rw[<-h];refine Wa all 0 σ σ rfl (λq hq hqd=>?_);rw[eC]at hqd ⊢;refine hsame q (by omega) ?_;rw[AK];intro hap';exact hno (vH.2 ⟨q,vE.2 (by omega),by simp[hap',hqd]⟩)
    have hH:∀k o',(ctx ops pre kl fr i (all.take i) σ).H k=some o'->(cR ops fr (λj=>listed.getD j false) 0 all σ).H k=some o':=λk o' h=>by
     simp only[ctx]at h;split at h
     .cases h
     .rename_i hno
      rw[htake]at h;rw[<-h];refine Wb (kl:=kl) all 0 σ σ rfl (λq d' W' hq=>by rw[eC];exact hk q d' W' hq) (λq hq hqk=>?_);rw[eC]at hqk ⊢;refine hsame q (by omega) ?_;rw[AK];intro hap';exact hno (vH.2 ⟨q,vE.2 (by omega),by simp[hap',hqk]⟩)
    have hnm:∀k,fr+8*i<=k->k<fr+8*i+8->(cR ops fr (λj=>listed.getD j false) 0 all σ).nm k=false:=λk h1 h2=>by
     refine IC all 0 σ k (hfree k (by omega)) (λq hq hS h=>?_);rw[eC]at hS h;have:q=i:=by omega
     subst this;exact hni hS
    rcases Nat.lt_or_eq_of_le hin' with hlt|heq
    .obtain⟨d,W,hat,hs⟩:=hstep i o hlt ho
     have hins:cR ops fr (λj=>(listed.setIfInBounds i true).getD j false) 0 all σ=(cR ops fr (λj=>listed.getD j false) 0 all σ).aP o.dst d W (fr+8*i):=by
      rw[<-hdst];refine W9 (kl:=kl) (i:=i) (by simpa[On]using hni) (by simp[hd.sz,hin]) (λj hj=>getD_set_ne false (λe=>hj e.symm)) all 0 σ (o7 _) d W (by simpa using hat) (λq d' W' hq=>by rw[eC];exact hk q d' W' hq) (λp hp1 hp2 hS=>?_);refine F.aJT i p hp1 (by omega) (λhip=>hni (F.BD hd p i hS hip))
     have hop:=hs.run hT hH (by omega) hnm (λt ht=>by rw[hm];exact F.dst i o ho t ht) hR (wpAny P .any ops Q fuel (listed.setIfInBounds i true)) Q (λa' w' hd' hR'=>by
      refine ih (listed.setIfInBounds i true) a' w' (hd.set hi) (λj hj=>?_) ?_ (hd'.trans hdf) (by rw[hins];exact hR')
      .by_cases e:j=i
       .omega
       .refine hltn j ?_
        unfold On at hj ⊢;rw[getD_set_ne false (λh=>e h.symm)]at hj;exact hj
      .have:=aGM hin h0
       omega)
     unfold wpOp;simp only[ho];exact hop
    .subst heq
     rw[ho0]at ho;cases ho;have htk:all.take i=all:=by rw[<-hlen];exact a9E
     rw[htk]at hT hH;obtain⟨ν,G,I⟩:=id hR;unfold wpOp;simp only[ho0];rw[hgd.wanted hT I,aI rfl];refine .inl (aGJ (λ_ _ h=>h.elim) (λe a' w' h=>?_) (hpan E _ a w hT hH (by omega) hnm hR));obtain⟨rfl,he,hR'⟩:=h;exact hQ _ a' w' (he.trans hdf) hR'
end
section
variable{P:Program}{E:Env}{Q:Exit->St->Prop}
theorem a8F{id:Nat}{l:List Oper}{T:Nat->Option D}{H:Nat->Option aO}{N M:Nat}(pre kl:List (List Nat))(hmix:P.follows .mixedOrders=true)(hE:E.m=M)(hN:100<=N)(hB:JQ l.toArray pre kl N M=true)
    (h:Bn P l.toArray pre kl N (mk T H N) (λσ'=>Q .normal (mk σ'.T σ'.H (N+8*l.length))) l 0 []):iV P E (.region id l.toArray true) Q (mk T H N):=by
 intro a w hd hR;have F:=aJr hB;obtain⟨all,a1,a2,_,a4,a5⟩:=Bn.all l 0 [] rfl (λq d W hq=>by simp at hq) h;have hlen:all.length=l.toArray.size:=by rw[a1];simp
 have hbd:∀k,N+8*l.length<=k->(cR l.toArray N (λ_=>true) 0 all (mk T H N)).nm k=false:=λk hk=>by
  refine IC all 0 _ k (by simp;omega) (λq hq _ h=>?_);rw[a1]at hq;simp at hq;omega
 refine wp_region_any hmix (a1b (a0:=a) (σ:=mk T H N) F hE hN (λk hk=>by simp;exact hk) hlen a2 (λq o ho=>?_) (λa' w' hd' hR'=>⟨hd'.trans hd,_,a4,hR'.bound hbd⟩) l.toArray.size _ a _ ⟨by simp,λi o hon=>?_⟩ (aGO _) rfl ?_)
 .obtain⟨d,W,h1,h2⟩:=a5 q o (by simpa using ho)
  rw[eC]at h1 h2;exact⟨d,W,h1,h2⟩
 .exfalso
  unfold On at hon;simp[O3]at hon
 .have:cR l.toArray N (λj=>(AL l.toArray.size false).getD j false) 0 all (mk T H N)=mk T H N:=by
   have gen:∀(rs:Rs)(j:Nat)(σ:St),cR l.toArray N (λj=>(AL l.toArray.size false).getD j false) j rs σ=σ:=by
    intro rs
    induction rs with
    |nil=>intro j σ;rfl
    |cons r rs ih=>
      intro j σ;unfold cR;have:(AL l.toArray.size false).getD j false=false:=by simp[O3]
      rw[this];exact ih _ _
   exact gen all 0 _
  rw[this];obtain⟨ν,G,I⟩:=hR;exact⟨ν,G,I.iG ((cU.refl w).drew) (λ_ _=>rfl)⟩
theorem a8E{id:Nat}{l:List Oper}{T:Nat->Option D}{H:Nat->Option aO}{N M:Nat}(pre kl:List (List Nat))(hmix:P.follows .mixedOrders=true)(hE:E.m=M)(hN:100<=N)(hB:JQ l.toArray pre kl N M=true)
    (h:rV P l.toArray pre kl N (mk T H N) (λe σ'=>Q e (mk σ'.T σ'.H (N+8*l.length))) l 0 []):iV P E (.region id l.toArray true) Q (mk T H N):=by
 have F:=aJr hB;rcases rV.all l 0 [] rfl (λq d W hq=>by simp at hq) h with⟨all,a1,a2,_,a4,a5⟩|⟨all,n,o,v,W,a1,_,a3,a4,_,a6,a7,a8,a9,a10,a11⟩
 .refine a8F pre kl hmix hE hN hB ?_
  have go:∀(l':List Oper)(i:Nat),(∀(q:Nat),l'[q]?=l[i+q]?)->all.length=i+l'.length->Bn P l.toArray pre kl N (mk T H N) (λσ'=>Q .normal (mk σ'.T σ'.H (N+8*l.length))) l' i (all.take i):=by
   intro l'
   induction l' with
   |nil=>
     intro i _ hl;have:all.take i=all:=by rw[show i=all.length by simpa using hl.symm];exact a9E
     show Q .normal _;rw[this];exact a4
   |cons o' rest ih=>
     intro i hq hl;obtain⟨d,W,h1,h2⟩:=a5 i o' (by have:=hq 0;simpa using this.symm);rw[eC]at h1 h2;refine⟨d,W,h2,a2 i d W h1,?_⟩;have:=ih (i+1) (λq=>by have:=hq (q+1);rw[List.getElem?_cons_succ]at this;rw[this];congr 1;omega) (by simp at hl;omega);rw[List.take_add_one,h1]at this;exact this
  have:=go l 0 (λq=>by rw[eC]) (by rw[a1];simp);simpa using this
 .intro a w hd hR
  have hn:n<l.toArray.size:=by have:=(bZ.1 a3).1;simpa using this
  refine wp_region_any hmix (a1a (a0:=a) (σ:=mk T H N) F hE hN (λk hk=>by simp;exact hk) hn a1 a4 (λq o' hq ho=>?_) (o0:=o) (by simpa using a3) a7 a8 a9 (λS a' w' hd' hR'=>⟨hd'.trans hd,_,a11,?gS⟩) l.toArray.size _ a _ ⟨by simp,λi o hon=>?gA⟩ (λj hon=>?gB) (aGO _) rfl ?gC)
  .obtain⟨d,W,h1,h2⟩:=a6 q o' (by omega) (by simpa using ho)
   rw[eC]at h1 h2;exact⟨d,W,h1,h2⟩
  case gS=>
   have hbd:∀k,N+8*l.length<=k->((cR l.toArray N S 0 all (mk T H N)).aP none .any W (N+8*n)).nm k=false:=λk hk=>by
    have hn':n<l.length:=by simpa using hn
    have h1:=IC (ops:=l.toArray) (fr:=N) (S:=S) all 0 (mk T H N) k (by simp;omega) (λq hq _ h=>by omega);simp only[St.aP,h1,rT];rw[AK];simp only[ne_eq,aT,kJ];omega
   have hR2:=hR'.bound hbd;obtain⟨ν,G,I⟩:=hR2;refine⟨ν,G,{ I with T:=λt d h=>?_,H:=λk o h=>?_,cW:=λk o k' o' h h'=>?_ }⟩
   .simp[St.aP]at h
   .exact I.H k o (by simp only[St.aP,MT all 0 _ a10];exact h)
   .exact I.cW k o k' o' (by simp only[St.aP,MT all 0 _ a10];exact h) (by simp only[St.aP,MT all 0 _ a10];exact h')
  case gA=>
   exfalso;unfold On at hon;simp[O3]at hon
  case gB=>
   exfalso;unfold On at hon;simp[O3]at hon
  case gC=>
   have:cR l.toArray N (λj=>(AL l.toArray.size false).getD j false) 0 all (mk T H N)=mk T H N:=by
    have gen:∀(rs:Rs)(j:Nat)(σ:St),cR l.toArray N (λj=>(AL l.toArray.size false).getD j false) j rs σ=σ:=by
     intro rs
     induction rs with
     |nil=>intro j σ;rfl
     |cons r rs ih=>
       intro j σ;unfold cR;have:(AL l.toArray.size false).getD j false=false:=by simp[O3]
       rw[this];exact ih _ _
    exact gen all 0 _
   rw[this];obtain⟨ν,G,I⟩:=hR;exact⟨ν,G,I.iG ((cU.refl w).drew) (λ_ _=>rfl)⟩
end
def Z0(kl:List (List Nat))(fr:Nat)(rs:Rs):Prop:=∀(q:Nat)(d:D)(W:Wr),rs[q]?=some (d,W)->(W.all λx=>fS kl fr q x.1)=true
theorem Z0.nil{kl:List (List Nat)}{fr:Nat}:Z0 kl fr []:=λq d W h=>by simp at h
structure RsI(kl:List (List Nat))(fr:Nat)(rs:Rs)(i:Nat):Prop where
 ok:Z0 kl fr rs
 len:rs.length=i
section
variable{P:Program}{E:Env}{Q:Exit->St->Prop}{ops:Array Oper}{pre kl:List (List Nat)}{fr:Nat}{σ:St}{Post:St->Prop}{o:Oper}{rest:List Oper}{i:Nat}{rr:Rs}
end
end Go.Ab
/- The abstract machine: the same laws from facts on types that a program can print. -/
namespace Go.Ab
open Go.RowKit
inductive zK {α:Type}:List α->Nat->List α->List α->Prop
 |done {l:List α}:zK l 0 [] l
 |skip {x:α} {l new l':List α} {off:Nat} (r:zK l off new l'):zK (x::l) (off+1) new (x::l')
 |put {x y:α} {l new l':List α} (r:zK l 0 new l'):zK (x::l) 0 (y::new) (y::l')
theorem zK.eq{α:Type}{l new l':List α}{off:Nat}(h:zK l off new l'):l'=dL l off new/\off+new.length<=l.length:=by
 induction h with
 |done=>simp[dL]
 |skip r ih=>exact⟨by rw[ih.1];simp[dL,Nat.add_right_comm],by simp;have:=ih.2;omega⟩
 |put r ih=>exact⟨by rw[ih.1];simp[dL],by simp;have:=ih.2;omega⟩
inductive Bh {α:Type}:List α->Nat->Nat->List α->Prop
 |done {l:List α}:Bh l 0 0 []
 |skip {x:α} {l ds:List α} {off m:Nat} (r:Bh l off m ds):Bh (x::l) (off+1) m ds
 |take {x:α} {l ds:List α} {m:Nat} (r:Bh l 0 m ds):Bh (x::l) 0 (m+1) (x::ds)
theorem Bh.eq{α:Type}{l ds:List α}{off m:Nat}(h:Bh l off m ds):(l.drop off).take m=ds/\ds.length=m:=by
 induction h with
 |done=>simp
 |skip r ih=>exact⟨by simpa using ih.1,ih.2⟩
 |take r ih=>exact⟨by simpa using ih.1,by simpa using ih.2⟩
inductive J2 (pl:List (Nat×Nat)):List D->List (Nat×D)->List D->Prop
 |nil {cells:List D}:J2 pl cells [] cells
 |cons {cells cells' out cs:List D} {i off size:Nat} {d:D} {rest:List (Nat×D)} (hp:pl[i]?=some (off,size)) (hv:d.val=true) (hc:d.cells=cs) (hl:cs.length=size) (hs:zK cells off cs cells') (r:J2 pl cells' rest out):J2 pl cells ((i,d)::rest) out
theorem J2.eq{pl:List (Nat×Nat)}{cells out:List D}{parts:List (Nat×D)}(h:J2 pl cells parts out):lE pl cells parts=some out:=by
 induction h with
 |nil=>rfl
 |cons hp hv hc hl hs r ih=>
   obtain⟨h1,h2⟩:=hs.eq;subst hc;simp only[lE,hp];rw[aI (by simp[hv,hl];omega),<-h1];exact ih
def kF(P:Program)(t:TypeId):Option Bool:=(P.underlying t).map λ|.struct _|.array _ _=>true|_=>false
theorem pD{P:Program}{t:TypeId}{b:Bool}(h:kF P t=some b):∃d,P.underlying t=some d/\d.isRow=b:=by
 unfold kF at h;obtain⟨d,h1,h2⟩:=cO.1 h;refine⟨d,h1,?_⟩;rw[<-h2];cases d <;> rfl
section
variable{P:Program}{o:Oper}{σ:St}{fr:Nat}
theorem yI{t:TypeId}{x:Operand}{k off:Nat}{ob:aO}{d:D}(hu:kF P t=some false)(ho:o.op = .load t x)(hx:σ.ev x=some (.ref k off))(hk:σ.H k=some ob)(hc:ob.cells[off]?=some d):aW P o σ fr d []:=by
 obtain⟨dsc,h1,h2⟩:=pD hu;exact a3B ho h1 h2 hx hk hc
theorem Xw{t:TypeId}{x:Operand}{k off m:Nat}{ob:aO}{ds:List D}(hu:kF P t=some true)(hi:(P.info? t).map (·.size)=some m)(ho:o.op = .load t x)(hx:σ.ev x=some (.ref k off))(hk:σ.H k=some ob)(hc:(ob.cells.drop off).take m=ds)(hm:ds.length=m):aW P o σ fr (.agg ds) []:=by
 obtain⟨dsc,h1,h2⟩:=pD hu;exact aHZ ho h1 h2 hi hx hk hc hm
theorem lp1{t:TypeId}{x:Operand}{ts:List Tree}{off:Nat}{tr:Tree}(hu:kF P t=some false)(ho:o.op = .load t x)(hx:σ.ev x=some (.ptr ts off))(hc:ts[off]?=some tr):aW P o σ fr (.t tr) []:=by
 obtain⟨dsc,h1,h2⟩:=pD hu;exact a3A ho h1 h2 hx hc
theorem lpn{t:TypeId}{x:Operand}{ts xs:List Tree}{off m:Nat}(hu:kF P t=some true)(hi:(P.info? t).map (·.size)=some m)(ho:o.op = .load t x)(hx:σ.ev x=some (.ptr ts off))(hc:(ts.drop off).take m=xs)(hm:xs.length=m):aW P o σ fr (.agg (xs.map .t)) []:=by
 obtain⟨dsc,h1,h2⟩:=pD hu;exact a2z ho h1 h2 hi hx hc hm
theorem aHd{e:TypeId}{z:Value}(ho:o.op = .alloc e)(hz:(P.info? e).bind (·.zero)=some z)(h1:rI z=true):aW P o σ fr (.ref fr 0) [(fr,some (.box e (oO z).cells))]:=by
 intro E σ₁ a w hT hH h100 hf hd hR Q;obtain⟨i,hi,hz'⟩:=wP.1 hz;have hb:aW P { o with op:=.box e (.const z) } σ fr (.ref fr 0) [(fr,some (.box e (oO z).cells))]:=XX rfl (by simp[St.ev,h1]) (by cases z <;> first|rfl|cases h1);have h:=hb E σ₁ a w hT hH h100 hf hd hR Q;unfold Oper.wp at h ⊢;have he:(execOp a.eval o).run P w=(execOp a.eval { o with op:=.box e (.const z) }).run P w:=by
  unfold execOp;rw[ho];simp[Instr.alloc,Instr.box,zeroValue,typeInfo,hi,hz',Act.eval]
 rw[he];exact h
theorem O5(z:List Value)(hz:0<z.length):∀(len i:Nat),i<len*z.length->((cI len z).flatten)[i]?=z[i%z.length]?
 |0,i,h=>by omega
 |len+1,i,h=>by
   rw[pN,E5];by_cases hi:i<z.length
   .rw[dV hi,Nat.mod_eq_of_lt hi]
   .rw[dN (by omega),O5 z hz len (i-z.length) (by rw[kK,Nat.one_mul]at h;omega)]
    congr 1
    conv=>rhs;rw[show i=(i-z.length)+z.length by omega,Nat.add_mod_right]
theorem AG.of{t e:TypeId}{z:Value}{s bytes:Nat}(hT:mQ P t e z s bytes)(h1:∀u∈z.cells.toList,u.oneCell'=true)(len:Nat)(hl:len*s<=2^24):AG P t e s len (cI len z.cells.toList).flatten:=by
 have hs:=hT.s;have hzl:z.cells.toList.length=s:=by rw[nJ];exact hT.z
 have hlen:(cI len z.cells.toList).flatten.length=len*s:=by simp[hT.z]
 refine⟨hT.u,λu hu=>?_,hlen,?_,λw parts cells hf=>?_⟩
 .obtain⟨l,h2,h3⟩:=List.mem_flatten.1 hu
  rw[(List.mem_replicate.1 h2).2]at h3;exact h1 u h3
 .have:len<=len*s:=Nat.le_mul_of_pos_right _ hs
  unfold maxLen;omega
 .obtain⟨i,hi,hz,hsz,hby⟩:=info_parts hT.i
  by_cases h0:len=0
  .subst h0
   simp at hf;have h9:∀f:Nat->Value,Array.map f (aKa 0) = #[]:=λf=>by simp
   simp[Instr.buildSlice,run_underlying hT.u,sizeOf,typeInfo,hi,hsz,newRow,h9,hf]
  .refine run_buildSlice w t e len parts cells i z hT.u hi hz (by rw[hsz];omega) (by rw[hsz];exact Nat.mul_ne_zero h0 (by omega)) ?_
   rw[hsz];have:(aKa (len*s)).map (z.cells[· % z.cells.size]!)=(cI len z.cells.toList).flatten.toArray:=by
    apply O4;intro j;by_cases hj:j<len*s
    .have hm:j%z.cells.size<z.cells.size:=Nat.mod_lt _ (by rw[hT.z];exact hs)
     have e1:((aKa (len*s)).map (z.cells[· % z.cells.size]!))[j]?=z.cells[j%z.cells.size]?:=by simp[hj,hm]
     have e2:=O5 z.cells.toList (by rw[hzl];exact hs) len j (by rw[hzl];exact hj);rw[hzl,<-hT.z]at e2;rw[e1];simpa using e2.symm
    .rw[Eb (by simp;omega),Eb (by rw[List.size_toArray,hlen];omega)]
   rw[this];exact hf
end
theorem uW{E:Env}{s s':St}(h:∀(a:Act)(w:World),R E s a.tmps w->R E s' a.tmps w):dS E s s':=λtm w hR=>h ⟨tm,[]⟩ w hR
theorem aJE{E:Env}{T:Nat->Option D}{H:Nat->Option aO}{N:Nat}(k:Nat){e:TypeId}{s n:Nat}{ts:List Tree}(hk:H k=some (.row e s n ts false)):
    dS E (mk T H N) (mk T (λj=>if k=j then some (.row e s n ts true)else H j) N):=by
 refine uW λa w ⟨ν,G,I⟩=>⟨ν,λb=>if aU (ν k)=some b then n*s else G b,?_⟩
 obtain⟨hn,xs,r1,r2,r3,r4⟩:=I.H k _ hk;have hcell:∀b i u,Cell w G b i u->Cell w (λb=>if aU (ν k)=some b then n*s else G b) b i u:=λb i u hc=>by
  refine⟨hc.1,?_⟩;have h2:=hc.2;by_cases hb:aU (ν k)=some b
  .have:=(r4 b hb).2
   rw[this]at h2;simp at h2
  .simp only[aE hb];exact h2
 refine⟨I.kept,λb i u hc=>hcell b i u (I.eJ b i u hc),I.fJ,λb hb hX=>?_,I.sz,λt d ht=>?_,λj o hj=>?_,λj1 o1 j2 o2 h1 h2 hne=>?_⟩
 .have hne:aU (ν k)≠some b:=λe=>by
   rcases(r4 b e).1 with h|h
   .omega
   .exact hX h
  simp only[aE hne];exact I.g0 b hb hX
 .obtain⟨v,hv,hdv⟩:=I.T t d ht
  exact⟨v,hv,hdv.mono (λ_ h=>⟨h,rfl⟩) hcell⟩
 .by_cases hjk:k=j
  .subst hjk
   simp only[iO,iR]at hj;subst hj;exact⟨hn,xs,r1,r2,λi u t hu ht=>(r3 i u t hu ht).mono hcell,λg hg=>⟨(r4 g hg).1,by simp[hg]⟩⟩
  .simp only[aE hjk]at hj
   obtain⟨q1,q2⟩:=I.H j o hj;refine⟨q1,q2.mono q1 (λ_ h=>⟨h,rfl⟩) hcell (λg hg=>⟨rfl,aE (λe=>?_)⟩)⟩;exact I.cW j o k _ hj hk (λe=>hjk e.symm) g hg e
 .have back:∀j o,(if k=j then some (.row e s n ts true)else H j)=some o->∃o',H j=some o'/\∀g,bO w (ν j) o g->bO w (ν j) o' g:=λj o h=>by
   by_cases hj:k=j
   .subst hj;simp only[iO,iR]at h;subst h;exact⟨_,hk,λ_ h=>h⟩
   .rw[aE hj]at h;exact⟨o,h,λ_ h=>h⟩
  obtain⟨p1,hp1,f1⟩:=back j1 o1 h1;obtain⟨p2,hp2,f2⟩:=back j2 o2 h2;exact λg hg hg'=>I.cW j1 p1 j2 p2 hp1 hp2 hne g (f1 g hg) (f2 g hg')
theorem aJy{w:World}{G G':bV}{e:TypeId}{s n:Nat}{v:Value}{ys:List Value}{ts:List Tree}(h:w.ownsRow 0 e s v n ys)(hl:ys.length=ts.length)(hx:∀b i u,Cell w G b i u->Cell w G' b i u)(ht:∀(i:Nat)(u:Value)(t:Tree),ys[i]?=some u->ts[i]?=some t->TR w G u t)
    (hG:∀g,aU v=some g->n*s<=G' g):TR w G' v (.sl n ts):=M9 h hl (λi u t hu hd=>(ht i u t hu hd).mono hx) hG
theorem a6d{E:Env}{T:Nat->Option D}{H:Nat->Option aO}{N:Nat}(k:Nat){e e':TypeId}{s:Nat}{ls:List (Nat×List Tree)}(hk:H k=some (.nest e e' s ls)):
    dS E (mk T H N) (mk T (λj=>if k=j then some (.row e 1 ls.length (ls.map λp=>.sl p.1 p.2) true)else H j) N):=by
 refine uW λa w ⟨ν,G,I⟩=>?_
 obtain⟨hn,hob⟩:=I.H k _ hk;obtain⟨xs,r1,r2,r3,r4,r5⟩:=id hob;have hxl:xs.length=ls.length:=by rw[r1.1,lP]
 -- the inner rows' blocks
 let G':bV:=λb=>open Classical in if h:∃(i:Nat)(x:Value)(p:Nat×List Tree),xs[i]?=some x/\ls[i]?=some p/\aU x=some b then(h.choose_spec.choose_spec.choose).1*s else G b
 have hG1:∀(i:Nat)(x:Value)(p:Nat×List Tree)(b:Nat),xs[i]?=some x->ls[i]?=some p->aU x=some b->G' b=p.1*s:=λi x p b hx hp hb=>by
  have h:∃(i:Nat)(x:Value)(p:Nat×List Tree),xs[i]?=some x/\ls[i]?=some p/\aU x=some b:=⟨i,x,p,hx,hp,hb⟩
  obtain⟨q1,q2,q3⟩:=h.choose_spec.choose_spec.choose_spec;have:h.choose=i:=by
   by_cases e:h.choose=i
   .exact e
   .exact absurd hb (r3 _ _ _ _ e q1 hx b q3)
  simp only[G',dif_pos h];have q2':ls[i]?=some h.choose_spec.choose_spec.choose:=by rw[<-this];exact q2
  rw[hp]at q2';rw[<-gZ q2']
 have hG0:∀b,(∀(i:Nat)(x:Value)(p:Nat×List Tree),xs[i]?=some x->ls[i]?=some p->aU x≠some b)->G' b=G b:=λb hb=>by
  simp only[G'];rw[dif_neg];rintro⟨i,x,p,h1,h2,h3⟩;exact hb i x p h1 h2 h3
 have hin:∀(i:Nat)(x:Value)(p:Nat×List Tree)(b:Nat),xs[i]?=some x->ls[i]?=some p->aU x=some b->bO w (ν k) (.nest e e' s ls) b:=λi x p b hx hp hb=>by
  have hi:=(bZ.1 hp).1;rcases r1.2 with⟨_,h0⟩|⟨g0,cap,cur,hv,_⟩
  .omega
  .exact .inr ⟨g0,i,x,by rw[hv];rfl,hi,by rw[wA r1 (by rw[hv];rfl) hi];exact hx,hb⟩
 have hcell:∀b i u,Cell w G b i u->Cell w G' b i u:=λb i u hc=>by
  refine⟨hc.1,?_⟩;by_cases hb:∃(i:Nat)(x:Value)(p:Nat×List Tree),xs[i]?=some x/\ls[i]?=some p/\aU x=some b
  .obtain⟨j,x,p,h1,h2,h3⟩:=hb
   obtain⟨_,_,_,_,y4⟩:=r2 j x p h1 h2;have:=hc.2;rw[(y4 b h3).2]at this;omega
  .rw[hG0 b (λj x p h1 h2 h3=>hb ⟨j,x,p,h1,h2,h3⟩)];exact hc.2
 refine⟨ν,G',I.kept,λb i u hc=>hcell b i u (I.eJ b i u hc),I.fJ,λb hb hX=>?_,I.sz,λt d ht=>?_,λj o hj=>?_,λj1 o1 j2 o2 h1 h2 hne=>?_⟩
 .rw[hG0 b (λj x p h1 h2 h3=>?_)]
  .exact I.g0 b hb hX
  .rcases(hob.ft (hin j x p b h1 h2 h3)).2 with h|h
   .omega
   .exact hX h
 .obtain⟨v,hv,hdv⟩:=I.T t d ht
  exact⟨v,hv,hdv.mono (λ_ h=>⟨h,rfl⟩) hcell⟩
 .by_cases hjk:k=j
  .subst hjk
   simp only[iO,iR]at hj;subst hj;refine⟨hn,xs,r1,by simp[hxl],λi u t hu ht=>?_,λg hg=>⟨(r5 g hg).1,?_⟩⟩
   .rw[cZ]at ht
    obtain⟨p,hp,rfl⟩:=cO.1 ht;obtain⟨ys,y1,y2,y3,y4⟩:=r2 i u p hu hp;exact aJy y1 y2 hcell y3 λg hg=>by rw[hG1 i u p g hu hp hg];exact cE _
   .rw[hG0 g (λj x p h1 h2 h3=>r4 j x h1 g h3 hg),(r5 g hg).2]
    simp
  .simp only[aE hjk]at hj
   obtain⟨q1,q2⟩:=I.H j o hj;refine⟨q1,q2.mono q1 (λ_ h=>⟨h,rfl⟩) hcell (λg hg=>⟨rfl,hG0 g (λi x p h1 h2 h3=>?_)⟩)⟩;exact I.cW j o k _ hj hk (λe=>hjk e.symm) g hg (hin i x p g h1 h2 h3)
 .have back:∀j o,(if k=j then some (.row e 1 ls.length (ls.map λp=>.sl p.1 p.2) true)else H j)=some o->∃o',H j=some o'/\∀g,bO w (ν j) o g->bO w (ν j) o' g:=λj o h=>by
   by_cases hj:k=j
   .subst hj;simp only[iO,iR]at h;subst h;exact⟨_,hk,λ_ h=>.inl h⟩
   .rw[aE hj]at h;exact⟨o,h,λ_ h=>h⟩
  obtain⟨p1,hp1,f1⟩:=back j1 o1 h1;obtain⟨p2,hp2,f2⟩:=back j2 o2 h2;exact λg hg hg'=>I.cW j1 p1 j2 p2 hp1 hp2 hne g (f1 g hg) (f2 g hg')
inductive qR:aO->Prop
 |row {e:TypeId} {s:Nat} {st:Bool}:qR (.row e s 0 [] st)
 |nest {e e':TypeId} {s:Nat}:qR (.nest e e' s [])
 |bC {e e':TypeId} {m s:Nat}:qR (.bC e e' m s 0 [])
theorem qR.ok{o:aO}(h:qR o){E:Env}{ν:Nat->Value}{nm:Nat->Bool}{w:World}{G:bV}{k:Nat}(hk:ν k = .slice none 0 0):eT E ν nm w G k o:=by
 cases h with
 |row=>exact⟨[],by rw[hk];exact World.ownsRow_nil w 0 _ _,rfl,λi u t h=>by simp at h,λg hg=>by rw[hk]at hg;cases hg⟩
 |nest=>exact⟨[],by rw[hk];exact World.ownsRow_nil w 0 _ _,λi x p h=>by simp at h,λi j x y _ h=>by simp at h,λi x h=>by simp at h,λg hg=>by rw[hk]at hg;cases hg⟩
 |bC=>exact⟨[],by rw[hk];exact World.ownsRow_nil w 0 _ _,rfl,λi x d h=>by simp at h,λi x q ts h=>by simp at h,λi j x y q q' ts ts' _ h=>by simp at h,λi x q ts h=>by simp at h,λg hg=>by rw[hk]at hg;cases hg⟩
theorem qR.bO{o:aO}(h:qR o){w:World}{g:Nat}:¬ Ab.bO w (.slice none 0 0) o g:=by
 cases h with
 |row=>intro h;cases h
 |nest=>
   rintro(h|⟨_,_,_,h,_⟩)
   .cases h
   .cases h
 |bC=>
   rintro(h|⟨_,_,_,_,_,h,_⟩)
   .cases h
   .cases h
theorem a6f{E:Env}{T:Nat->Option D}{H:Nat->Option aO}{N:Nat}(t:Nat){o:aO}(ho:qR o)(ht:T t=some (.t (.v (.slice none 0 0))))(hN:100<=N):
    dS E (mk T H N) (mk (λx=>if t=x then some (.own N)else T x) (λk=>if N=k then some o else H k) (N+8)):=by
 refine uW λa w ⟨ν,G,I⟩=>?_
 obtain⟨v,hv,hdv⟩:=I.T t _ ht;have hv':=bY hdv;subst hv';have htm:t<E.m:=by rw[<-I.sz];exact(mP.1 hv).1
 have hI:=I.Dq (a:=a) (fr:=N) (dst:=some t) (W:=[(N,some o)]) hN (λk hk _=>by simp;exact hk) (λt' h=>by cases h;exact htm) [] (λk=>by
  by_cases h:k=N
  .subst h;simp[look]
  .simp[look,h,eN h]) rfl rfl rfl (cE _) (λ_ _ _=>⟨rfl,rfl⟩) (λ_ _ _ h=>h) (x:=.slice none 0 0) (λg hg=>absurd hg ho.bO) (ho.ok cB) (v:=.slice none 0 0) (d:=.own N) (by
   have:DR (cD ν N (.slice none 0 0)) ((mk T H N).aP (some t) .any [(N,some o)] N).nm w G (cD ν N (.slice none 0 0) N) (.own N):=.own (kN ..) (by rw[cB];rfl);rw[cB]at this;exact this)
 have he:(a.put (some t) (.slice none 0 0)).tmps=a.tmps:=by
  apply O4;intro i;simp only[Act.put];by_cases hi:t=i
  .subst hi
   rw[hv,Array.getElem?_setIfInBounds];simp[(mP.1 hv).1]
  .rw[tJ hi]
 rw[he]at hI;have hR:R E ((mk T H N).aP (some t) (.own N) [(N,some o)] N) a.tmps w:=⟨_,_,hI⟩;have hb:=hR.bound (N:=N+8) (λk hk=>by simp[St.aP];omega);have e1:((mk T H N).aP (some t) (.own N) [(N,some o)] N).T=λx=>if t=x then some (.own N)else T x:=by
  funext x
  simp[St.aP]
 have e2:((mk T H N).aP (some t) (.own N) [(N,some o)] N).H=λk=>if N=k then some o else H k:=by
  funext k
  simp only[St.aP,look];by_cases hk:N=k <;> simp[hk]
 rw[e1,e2]at hb;exact hb
theorem mD{α:Type}{f:α->List Tree}{s:Nat}(h:∀x,(f x).length=s)(l:List α):(l.flatMap f).length=l.length*s:=by
 induction l with
 |nil=>simp
 |cons a l ih=>rw[fV,aL,h,ih,eD,kK];omega
theorem flat_get{α:Type}{f:α->List Tree}{s:Nat}(h:∀x,(f x).length=s){l:List α}:∀{i:Nat}{x:α},l[i]?=some x->∀j,j<s->(l.flatMap f)[i*s+j]?=(f x)[j]?:=by
 induction l with
 |nil=>intro i x h;simp at h
 |cons a l ih=>
   intro i x hx j hj;rw[fV];cases i with
   |zero=>simp at hx;subst hx;rw[vA,eC,dV (by rw[h];exact hj)]
   |succ i=>
     rw[dN (by rw[h,kK];omega),h,show(i+1)*s+j-s=i*s+j by rw[kK];omega];exact ih (by simpa using hx) j hj
end Go.Ab
/- The abstract machine: rows that are made. -/
namespace Go.Ab
open Go.RowKit
inductive jT:List Value->List Tree->Prop
 |nil:jT [] []
 |v {x:Value} {l:List Value} {ts:List Tree} (h:x.oneCell'=true) (r:jT l ts):jT (x::l) (.v x::ts)
 |sl {l:List Value} {ts:List Tree} (r:jT l ts):jT (.slice none 0 0::l) (.sl 0 []::ts)
theorem jT.append{l l':List Value}{ts ts':List Tree}(h:jT l ts)(h':jT l' ts'):jT (l++l') (ts++ts'):=by
 induction h with
 |nil=>exact h'
 |v h r ih=>exact .v h ih
 |sl r ih=>exact .sl ih
theorem jT.IP{l:List Value}{ts:List Tree}(h:jT l ts):∀n,jT (cI n l).flatten (cI n ts).flatten
 |0=>.nil
 |n+1=>by rw[pN,pN,E5,E5];exact h.append (h.IP n)
theorem jT.rel{l:List Value}{ts:List Tree}(h:jT l ts)(w:World)(G:bV):l.length=ts.length/\∀(i:Nat)(u:Value)(t:Tree),l[i]?=some u->ts[i]?=some t->TR w G u t:=by
 induction h with
 |nil=>exact⟨rfl,λi u t h=>by simp at h⟩
 |v h r ih=>
   refine⟨by simp[ih.1],λi u t hu ht=>?_⟩;cases i with
   |zero=>simp at hu ht;subst hu ht;exact .v _ h
   |succ i=>exact ih.2 i u t (by simpa using hu) (by simpa using ht)
 |sl r ih=>
   refine⟨by simp[ih.1],λi u t hu ht=>?_⟩;cases i with
   |zero=>simp at hu ht;subst hu ht;exact .nil (λ_=>rfl)
   |succ i=>exact ih.2 i u t (by simpa using hu) (by simpa using ht)
theorem Xh{z:Value}{s:Nat}(hz:z.cells.size=s)(hs:0<s)(n:Nat):(madeCells z.cells (n*s)).toList=(cI n z.cells.toList).flatten:=by
 apply Bg;intro j;have hzl:z.cells.toList.length=s:=by rw[nJ];exact hz
 by_cases hj:j<n*s
 .have hm:j%z.cells.size<z.cells.size:=Nat.mod_lt _ (by rw[hz];exact hs)
  have e2:=O5 z.cells.toList (by rw[hzl];exact hs) n j (by rw[hzl];exact hj);rw[e2,hzl,<-hz];simp only[madeCells,a9c,Array.toList_range,cZ,OV,hz,hj,lH];rw[hz]at hm;rw[Array.getElem?_toList];rw[getElem!_pos _ _ (by rw[hz];exact hm),kL (by rw[hz];exact hm)]
 .rw[oC (by rw[nJ,size_madeCells];omega),oC (by simp[hz];omega)]
section
variable{P:Program}{o:Oper}{σ:St}{fr:Nat}
theorem a2y{t e:TypeId}{z:Value}{s bytes:Nat}(st:Bool){l c:Operand}{n:Nat}(hT:mQ P t e z s bytes)(ho:o.op = .makeSlice t l c)(hl:σ.ev l=some (I 0))(hc:σ.ev c=some (I n))
    (hb:bytes*n<=281474976710656/\n<=maxLen):aW P o σ fr (.own fr) [(fr,some (.row e s 0 [] st))]:=by
 intro E σ₁ a w hTT hHH h100 hf hd ⟨ν,G,I⟩ Q;obtain⟨i,hi,hz',h2,h3⟩:=info_parts hT.i;have hlv:=bY (I.ev (St.dE hTT hl));have hcv:=bY (I.ev (St.dE hTT hc));have hB:(i.bytes:Int)*(n:Int)<=281474976710656:=by
  have h:((i.bytes*n:Nat):Int)<=281474976710656:=by rw[h3];omega
  rwa [Zq]at h
 have hr:=run_make (P:=P) w t e i z hT.u hi hz' .i64 .i64 0 n (Int.le_refl _) (by omega) hB (by have:=hb.2;simp only[maxLen]at this;omega);simp only[kB,Int.toNat_zero]at hr;obtain⟨w',hw⟩:∃w',w'=w.alloc (.cells (madeCells z.cells (n*i.size)) e):=⟨_,rfl⟩
 rw[<-hw]at hr;have hA:cU w w':=hw ▸ (cU.refl w).alloc _;have r1:w'.ownsRow 0 e s (.slice (some ⟨w.heap.size,0,none⟩) 0 n) 0 []:=by
  have h0:=World.ownsRow_lit (base:=0) (e:=e) (size:=i.size) w (madeCells z.cells (n*i.size)) n (o7 _) hb.2 (size_madeCells _ _);rw[<-hw,h2]at h0;rcases h0.2 with⟨h',_⟩|⟨g,cap,cur,h',b1,b2,b3,b4,b5,b6⟩
  .simp at h'
  .simp only[Value.slice.injEq,iR,Addr.mk.injEq,and_true,true_and]at h'
   obtain⟨rfl,rfl⟩:=h';exact⟨by simp,.inr ⟨_,_,cur,rfl,b1,b2,o7 _,b4,b5,by simp⟩⟩
 have hG:∀b,b<w.heap.size->(λb=>if b=w.heap.size then(if st then 0*s else 0)else G b) b=G b:=λb hb=>aE (by omega)
 have he:(execOp a.eval o).run P w = .ok (.value (.slice (some ⟨w.heap.size,0,none⟩) 0 n)) w':=by
  unfold execOp;rw[ho];simp[hlv,hcv,hr]
 unfold Oper.wp;rw[he,Oper.upon_value];refine⟨put_defers ..,_,_,I.fresh (G':=λb=>if b=w.heap.size then(if st then 0*s else 0)else G b) h100 hf hd hA hG (x:=.slice (some ⟨w.heap.size,0,none⟩) 0 n) (λg hg=>by cases hg;exact cE _) ?_ ?_⟩
 .refine⟨[],by rw[cB];exact r1,rfl,λi u t hu=>by simp at hu,λg hg=>?_⟩
  rw[cB]at hg;cases hg;exact⟨.inl I.kept.size,aI rfl⟩
 .have:DR (cD ν fr (.slice (some ⟨w.heap.size,0,none⟩) 0 n)) (σ₁.aP o.dst .any [(fr,some (.row e s 0 [] st))] fr).nm w' (λb=>if b=w.heap.size then(if st then 0*s else 0)else G b) (cD ν fr (.slice (some ⟨w.heap.size,0,none⟩) 0 n) fr) (.own fr):=.own (kN ..) (by rw[cB];rfl)
  rw[cB]at this;exact this
theorem aHX{t e:TypeId}{z:Value}{s bytes:Nat}(st:Bool){l c:Operand}{n:Nat}{zt:List Tree}(hT:mQ P t e z s bytes)(hz:jT z.cells.toList zt)(ho:o.op = .makeSlice t l c)(hl:σ.ev l=some (I n))(hc:σ.ev c=some (I n))
    (hb:bytes*n<=281474976710656/\n<=maxLen):aW P o σ fr (.own fr) [(fr,some (.row e s n (cI n zt).flatten st))]:=by
 intro E σ₁ a w hTT hHH h100 hf hd ⟨ν,G,I⟩ Q;obtain⟨i,hi,hz',h2,h3⟩:=info_parts hT.i;have hlv:=bY (I.ev (St.dE hTT hl));have hcv:=bY (I.ev (St.dE hTT hc));obtain⟨w',hr,r1,r2⟩:=run_make_full (P:=P) w 0 t e i z s hT.u hi hz' h2 .i64 .i64 n (by rw[h3];exact hb.1) hb.2 (o7 _);have hB:(i.bytes:Int)*(n:Int)<=281474976710656:=by
  have h:((i.bytes*n:Nat):Int)<=281474976710656:=by rw[h3];omega
  rwa [Zq]at h
 have hr2:=run_make (P:=P) w t e i z hT.u hi hz' .i64 .i64 n n (by omega) (Int.le_refl _) hB (by have:=hb.2;simp only[maxLen]at this;omega);simp only[kB]at hr2;rw[hr]at hr2;have hw:w'=w.alloc (.cells (madeCells z.cells (n*i.size)) e):=by injection hr2
 have hA:cU w w':=hw ▸ (cU.refl w).alloc _;have hG:∀b,b<w.heap.size->(λb=>if b=w.heap.size then(if st then n*s else 0)else G b) b=G b:=λb hb=>aE (by omega)
 have he:(execOp a.eval o).run P w = .ok (.value (.slice (some ⟨w.heap.size,0,none⟩) n n)) w':=by
  unfold execOp;rw[ho];simp[hlv,hcv,hr]
 unfold Oper.wp;rw[he,Oper.upon_value];have hzr:=(hz.IP n).rel w' (λb=>if b=w.heap.size then(if st then n*s else 0)else G b);rw[<-Xh hT.z hT.s]at hzr;refine⟨put_defers ..,_,_,I.fresh (G':=λb=>if b=w.heap.size then(if st then n*s else 0)else G b) h100 hf hd hA hG (x:=.slice (some ⟨w.heap.size,0,none⟩) n n) (λg hg=>by cases hg;exact cE _) ?_ ?_⟩
 .refine⟨_,by rw[cB];exact r1,hzr.1,hzr.2,λg hg=>?_⟩
  rw[cB]at hg;cases hg;exact⟨.inl I.kept.size,aI rfl⟩
 .have:DR (cD ν fr (.slice (some ⟨w.heap.size,0,none⟩) n n)) (σ₁.aP o.dst .any [(fr,some (.row e s n (cI n zt).flatten st))] fr).nm w' (λb=>if b=w.heap.size then(if st then n*s else 0)else G b) (cD ν fr (.slice (some ⟨w.heap.size,0,none⟩) n n) fr) (.own fr):=.own (kN ..) (by rw[cB];rfl)
  rw[cB]at this;exact this
end
inductive RV (P:Program) (σ:St):ResultVar->D->Prop
 |tmp {t:Tmp} {d:D} (h:σ.T t=some d):RV P σ (.tmp t) d
 |row {p:Tmp} {t:TypeId} {k m:Nat} {e:TypeId} {ds:List D} (hp:σ.T p=some (.ref k 0)) (hk:σ.H k=some (.box e ds)) (hu:kF P t=some true) (hi:(P.info? t).map (·.size)=some m) (hm:ds.length=m):RV P σ (.cell p t) (.agg ds)
 |one {p:Tmp} {t:TypeId} {k:Nat} {e:TypeId} {d:D} (hp:σ.T p=some (.ref k 0)) (hk:σ.H k=some (.box e [d])) (hu:kF P t=some false):RV P σ (.cell p t) d
def II(tm:Array Value):ResultVar->Sem Value
 |.tmp t=>pure (tm.getD t undef)
 |.cell a t=>do loadVar t (<-asAddr (tm.getD a undef))
theorem RV.run{P:Program}{σ:St}{rv:ResultVar}{d:D}(h:RV P σ rv d){E:Env}{ν:Nat->Value}{G:bV}{w:World}{tm:Array Value}(I:Inv E σ ν G w tm):∃v,(II tm rv).run P w = .ok v w/\DR ν σ.nm w G v d:=by
 have get:∀p d,σ.T p=some d->DR ν σ.nm w G (tm.getD p undef) d:=λp d hp=>by
  obtain⟨v,hv,hd⟩:=I.T p d hp;have:tm.getD p undef=v:=by simp[Array.getD_eq_getD_getElem?,hv]
  rw[this];exact hd
 cases h with
 |tmp h=>exact⟨_,rfl,get _ _ h⟩
 | @row p t k m e ds hp hk hu hi hm=>
   obtain⟨g,hg,hv,_⟩:=mZ (get _ _ hp);obtain⟨dsc,h1,h2⟩:=pD hu;have hob:=(I.H k _ hk).2;have hall:∀i,i<m->∃u,w.cell? ⟨g,0+i,none⟩=some u/\∀d,ds[i]?=some d->DR ν σ.nm w G u d/\u.oneCell'=true:=λi h=>by
    have hd:ds[i]?=some ds[i]:=dC (by omega);obtain⟨g',u,hg',hcu,hdu,h1⟩:=hob.cell (o:=.box e ds) hd;rw[hg]at hg';cases hg';exact⟨u,by rw[eC];exact hcu,λd h=>by rw[hd]at h;cases h;exact⟨hdu,h1⟩⟩
   let cs:List Value:=(lR m).map λi=>(w.cell? ⟨g,0+i,none⟩).getD undef
   have hcs:∀i u,cs[i]?=some u->i<m/\w.cell? ⟨g,0+i,none⟩=some u:=λi u h=>by
    have hi:i<m:=by simpa[cs]using(bZ.1 h).1
    obtain⟨u',h',_⟩:=hall i hi;have h2:cs[i]?=some u':=by
     show((lR m).map λi=>(w.cell? ⟨g,0+i,none⟩).getD undef)[i]?=some u';rw[cZ,OV hi];simp only[lH,h',Option.getD_some]
    rw[h2]at h;cases h;exact⟨hi,h'⟩
   refine⟨.agg cs.toArray,?_,.agg (by simp[cs,hm]) (λi u d h h'=>?_) (λu h=>?_)⟩
   .simp only[II,hv,asAddr,Sem.run_bind,Sem.run_pure,Result.andThen_ok]
    exact run_loadVar_mid w g 0 t cs dsc (λj v h=>(hcs j v h).2) h1 h2 (by rw[hi];simp[cs])
   .obtain⟨hi,hcu⟩:=hcs i u (by simpa using h)
    obtain⟨u',h1,h2⟩:=hall i hi;rw[hcu]at h1;cases h1;exact(h2 d h').1
   .obtain⟨i,hiu⟩:=iS.1 (by simpa using h:u∈cs)
    obtain⟨hi,hcu⟩:=hcs i u hiu;obtain⟨u',h1,h2⟩:=hall i hi;rw[hcu]at h1;cases h1;exact(h2 _ (dC (by omega))).2
 | @one p t k e d hp hk hu=>
   obtain⟨g,hg,hv,_⟩:=mZ (get _ _ hp);obtain⟨dsc,h1,h2⟩:=pD hu;obtain⟨g',u,hg',hcu,hdu,_⟩:=(I.H k _ hk).2.cell (o:=.box e [d]) (i:=0) rfl;rw[hg]at hg';cases hg';refine⟨u,?_,hdu⟩;have h:=IJ h1 h2 hcu;simp only[Instr.loadAt,Instr.sureAddr,Sem.run_bind,Sem.run_pure,Result.andThen_ok]at h;simp only[II,hv,asAddr,Sem.run_bind,Sem.run_pure,Result.andThen_ok];exact h
theorem RV.all{P:Program}{σ:St}{rv:ResultVar}{d:D}(h:RV P σ rv d){E:Env}{w:World}{tm:Array Value}(hR:R E σ tm w):∃v,(II tm rv).run P w = .ok v w/\∀ν G,Inv E σ ν G w tm->DR ν σ.nm w G v d:=by
 obtain⟨ν,G,I⟩:=hR;obtain⟨v,hv,_⟩:=h.run I;refine⟨v,hv,λν' G' I'=>?_⟩;obtain⟨v',hv',hd'⟩:=h.run I';rw[hv]at hv';cases hv';exact hd'
theorem Df(fn:Func)(tm:Array Value):results fn tm=(do
    let vs <-fn.results.mapM (II tm)
    pure (if h:vs.size=1 then vs[0]else .tuple vs)):=by
 unfold results
 congr 1
abbrev a9l(rn:List (Nat×Nat))(H':List (Nat×aO)):Prop:=(rn.all (λp=>decide (p.1<50)||decide (100<=p.1))&&decide ((H'.map λp=>cG rn p.1).Nodup)&&H'.all (λp=>decide (p.1<108)))=true
section
variable{P:Program}{fn:Func}{E:Env}{σ:St}{r:D}{H':List (Nat×aO)}
theorem aGV{ν:Nat->Value}{nm:Nat->Bool}{w:World}{G:bV}{v1 v2:Value}{d1 d2:D}(h1:DR ν nm w G v1 d1)(h2:DR ν nm w G v2 d2):DR ν nm w G (.tuple #[v1,v2]) (.aS [d1,d2]):=.aS rfl λi u d hu hd=>by
 match i with
 |0=>simp at hu hd;subst hu hd;exact h1
 |1=>simp at hu hd;subst hu hd;exact h2
 |i+2=>simp at hu
theorem a0a{ν:Nat->Value}{nm:Nat->Bool}{w:World}{G:bV}{v1 v2 v3:Value}{d1 d2 d3:D}(h1:DR ν nm w G v1 d1)(h2:DR ν nm w G v2 d2)(h3:DR ν nm w G v3 d3):DR ν nm w G (.tuple #[v1,v2,v3]) (.aS [d1,d2,d3]):=.aS rfl λi u d hu hd=>by
 match i with
 |0=>simp at hu hd;subst hu hd;exact h1
 |1=>simp at hu hd;subst hu hd;exact h2
 |2=>simp at hu hd;subst hu hd;exact h3
 |i+3=>simp at hu
end
theorem a6g{E:Env}{T:Nat->Option D}{H:Nat->Option aO}{N:Nat}(k i:Nat){o0:aO}(h0:qR o0){e':TypeId}{ds:List D}(hk:H k=some (.box e' ds))(hi:ds[i]?=some (.t (.v (.slice none 0 0))))(hN:100<=N):
    dS E (mk T H N) (mk T (λj=>if N=j then some o0 else if k=j then some (.box e' (ds.set i (.own N)))else H j) (N+8)):=by
 refine uW λa w ⟨ν,G,I⟩=>?_
 have lt:∀j,(mk T H N).nm j=true->j<N:=λj hj=>by simpa using hj
 have ne:∀j,(mk T H N).nm j=true->cD ν N (.slice none 0 0) j=ν j:=λj hj=>oK (by have:=lt j hj;omega)
 have hn:∀j,(mk T H N).nm j=true->decide (j<N+8)=true/\cD ν N (.slice none 0 0) j=ν j:=λj hj=>⟨by have:=lt j hj;simp;omega,ne j hj⟩
 have old:∀j o,H j=some o->j<N:=λj o hj=>lt j (I.H j o hj).1
 have back:∀j o,(if N=j then some o0 else if k=j then some (.box e' (ds.set i (.own N)))else H j)=some o->j=N\/(j<N/\∃o',H j=some o'):=λj o h=>by
  by_cases h1:N=j
  .exact .inl h1.symm
  .rw[aE h1]at h
   by_cases h2:k=j
   .subst h2;exact .inr ⟨old _ _ hk,_,hk⟩
   .rw[aE h2]at h;exact .inr ⟨old _ _ h,_,h⟩
 refine⟨cD ν N (.slice none 0 0),G,I.kept,I.eJ,λj h1 h2=>?_,I.g0,I.sz,λt d ht=>?_,λj o hj=>?_,λj1 o1 j2 o2 h1 h2 hne g hg=>?_⟩
 .rw[oK (by omega)];exact I.fJ j h1 h2
 .obtain⟨v,hv,hdv⟩:=I.T t d ht
  exact⟨v,hv,hdv.mono hn (λ_ _ _ h=>h)⟩
 .rcases back j o hj with rfl|⟨hlt,o',ho'⟩
  .simp only[iO,iR]at hj
   subst hj;exact⟨by simp,h0.ok cB⟩
  .obtain⟨q1,q2⟩:=I.H j o' ho'
   have q3:=q2.mono (ν':=cD ν N (.slice none 0 0)) (nm':=λj=>decide (j<N+8)) q1 hn (λ_ _ _ h=>h) (λg _=>⟨rfl,rfl⟩);refine⟨by simp;omega,?_⟩;simp only[aE (show ¬ N=j by omega)]at hj;by_cases h2:k=j
   .subst h2
    rw[aI rfl]at hj;rw[hk]at ho';cases ho';cases hj;obtain⟨g,cur,z1,z2,z3,z4,z5,z6⟩:=q3;refine⟨g,cur,z1,z2,z3,z4,by rw[nI];exact z5,λm u d hu hd=>?_⟩;by_cases hm:i=m
    .subst hm
     have hlt2:i<ds.length:=(bZ.1 hi).1;rw[pO hlt2]at hd;cases hd;obtain⟨y1,y2⟩:=z6 i u _ hu hi;have:=bY y1;subst this;refine⟨?_,y2⟩;have hown:DR (cD ν N (.slice none 0 0)) (λj=>decide (j<N+8)) w G (cD ν N (.slice none 0 0) N) (.own N):=.own (by simp) (by rw[cB];rfl);rw[cB]at hown;exact hown
    .rw[qP hm]at hd
     exact z6 m u d hu hd
   .rw[aE h2]at hj
    rw[hj]at ho';cases ho';exact q3
 .have fb:∀j o,j<N->(if N=j then some o0 else if k=j then some (.box e' (ds.set i (.own N)))else H j)=some o->∃o',H j=some o'/\∀g,bO w (ν j) o g->bO w (ν j) o' g:=λj o hlt h=>by
   rw[aE (by omega)]at h;by_cases h2:k=j
   .subst h2;rw[aI rfl]at h;cases h;exact⟨_,hk,λ_ h=>h⟩
   .rw[aE h2]at h;exact⟨o,h,λ_ h=>h⟩
  rcases back j1 o1 h1 with rfl|⟨l1,p1,hp1⟩
  .rw[cB]at hg
   simp only[iO,iR]at h1;subst h1;exact absurd hg h0.bO
  .rcases back j2 o2 h2 with rfl|⟨l2,p2,hp2⟩
   .rw[cB]
    simp only[iO,iR]at h2;subst h2;exact h0.bO
   .rw[oK (by omega)]at hg ⊢
    obtain⟨y1,z1,f1⟩:=fb j1 o1 l1 h1;obtain⟨y2,z2,f2⟩:=fb j2 o2 l2 h2;exact λhg'=>I.cW j1 y1 j2 y2 z1 z2 hne g (f1 g hg) (f2 g hg')
theorem aIn{α:Type}{f:α->List Tree}{s:Nat}(h:∀x,(f x).length=s){x:α}:∀{l:List α}{i:Nat},i<l.length->dL (l.flatMap f) (i*s) (f x)=(l.set i x).flatMap f
 |[],i,hi=>by simp at hi
 |y::l,0,_=>by
   simp only[dL,vA,List.take_zero,k7,eC,List.set_cons_zero,fV,h x];rw[List.drop_append_of_le_length (by rw[h];exact cE _),rR (by rw[h];exact cE _),k7]
 |y::l,i+1,hi=>by
   have ih:=aIn h (x:=x) (l:=l) (i:=i) (by simpa using hi);rw[List.set_cons_succ,fV,fV,<-ih];have e1:(i+1)*s=s+i*s:=by rw[kK];omega
   simp only[dL,e1];rw[h x,List.take_append,List.drop_append,h y,vD (by rw[h];omega),rR (by rw[h];omega),k7,Nat.add_sub_cancel_left,show s+i*s+s-s=i*s+s by omega,bP,bP,bP]
end Go.Ab
/- The abstract machine: rows of rows of the walk's own, whose cells may be stored into. -/
namespace Go.Ab
open Go.RowKit
theorem aIW{E:Env}{nm:Nat->Bool}{w:World}{G:bV}{e':TypeId}{s n:Nat}{x:Value}{ys:List Value}{ts:List Tree}(y1:w.ownsRow 0 e' s x n ys)(y2:ys.length=ts.length)
    (y3:∀(i:Nat)(u:Value)(t:Tree),ys[i]?=some u->ts[i]?=some t->TR w G u t) (y4:∀g,aU x=some g->E.may g/\G g=0):eT E (λ_=>x) nm w G 0 (.row e' s n ts false):=
 ⟨ys,y1,y2,y3,λg hg=>by simpa using y4 g hg⟩
theorem NG{E:Env}{ν:Nat->Value}{nm:Nat->Bool}{w:World}{G:bV}{k:Nat}{e e':TypeId}{s:Nat}{ls:List (Nat×List Tree)}(h:eT E ν nm w G k (.nest e e' s ls)){i:Nat}{p:Nat×List Tree}(hp:ls[i]?=some p):
    ∃g x ys,aU (ν k)=some g/\Cell w G g i x/\w.ownsRow 0 e' s x p.1 ys/\ys.length=p.2.length/\(∀(i:Nat)(u:Value)(t:Tree),ys[i]?=some u->p.2[i]?=some t->TR w G u t)/\∀g,aU x=some g->E.may g/\G g=0:=by
 obtain⟨xs,r1,r2,r3,r4,r5⟩:=h;have hi:i<ls.length:=(bZ.1 hp).1;have hxl:xs.length=ls.length:=by rw[r1.1,lP]
 have hx:xs[i]?=some xs[i]:=dC (by omega);obtain⟨ys,y1,y2,y3,y4⟩:=r2 i _ p hx hp;rcases r1.2 with⟨_,h0⟩|⟨g0,cap,cur,hv,_⟩
 .omega
 .have hg:aU (ν k)=some g0:=by rw[hv];rfl
  exact⟨g0,xs[i],ys,hg,⟨by rw[wA r1 hg hi];exact hx,by rw[(r5 g0 hg).2];exact hi⟩,y1,y2,y3,y4⟩
theorem aG6{ν:Nat->Value}{nm:Nat->Bool}{w:World}{G:bV}{v:Value}{k i:Nat}(h:DR ν nm w G v (.sub k i)):∃g,aU (ν k)=some g/\Cell w G g i v/\nm k=true:=by
 cases h with|sub hk hg hc h1=>exact⟨_,hg,hc,hk⟩
theorem aG9{ν:Nat->Value}{nm:Nat->Bool}{w:World}{G:bV}{v:Value}{k i j:Nat}(h:DR ν nm w G v (.jE k i j)):∃g g' n c,aU (ν k)=some g/\Cell w G g i (.slice (some ⟨g',0,none⟩) n c)/\v = .pointer (some ⟨g',j,none⟩)/\nm k=true:=by
 cases h with|jE hk hg hc=>exact⟨_,_,_,_,hg,hc,rfl,hk⟩
theorem Yx{w:World}{G:bV}{b i:Nat}{u v:Value}(h:Cell w G b i u)(h':Cell w G b i v):u=v:=by
 have h1:=h.1;have h2:=h'.1;rw[h1]at h2;exact gZ h2
section
variable{P:Program}{o:Oper}{σ:St}{fr:Nat}
theorem a3Q{t:TypeId}{x y:Operand}{q:Nat}{e e':TypeId}{s:Nat}{ls:List (Nat×List Tree)}{k:IntKind}{j:Int}(hs:uX P t=some 1)(ho:o.op = .indexAddr t x y)(hx:σ.ev x=some (.own q))(hq:σ.H q=some (.nest e e' s ls))(hy:σ.ev y=some (.t (.v (.int k j))))(h0:0<=j)(hn:j<ls.length):
    aW P o σ fr (.ref q j.toNat) []:=
 dM λE σ₁ ν G w a hH I hev=>by
  have hv:=hev x _ hx;have hj:=bY (hev y _ hy);obtain⟨v,he⟩:∃v,a.eval x=v:=⟨_,rfl⟩
  rw[he]at hv;cases hv with
  |own hk h1=>
    obtain⟨xs,r1,_⟩:=(I.H q _ (hH q _ hq)).2;rcases r1.2 with⟨_,hz⟩|⟨g,cap,cur,hvv,_⟩
    .omega
    .refine⟨.pointer (some ⟨g,j.toNat,none⟩),?_,.ref hk (by rw[hvv];rfl)⟩
     unfold execOp;rw[ho];have:=IK hs w g 0 ls.length cap k j h0 hn;rw[lP,eC]at this;simp[he,hj,hvv,this]
theorem a3J{t:TypeId}{x:Operand}{k i:Nat}{e e':TypeId}{s:Nat}{ls:List (Nat×List Tree)}{p:Nat×List Tree}(hu:kF P t=some false)(ho:o.op = .load t x)(hx:σ.ev x=some (.ref k i))(hk:σ.H k=some (.nest e e' s ls))(hp:ls[i]?=some p):aW P o σ fr (.sub k i) []:=
 dM λE σ₁ ν G w a hH I hev=>by
  obtain⟨dsc,h1,h2⟩:=pD hu;obtain⟨g,hg,hv,hnm⟩:=mZ (hev x _ hx);obtain⟨g',u,ys,hg',hc,y1,_⟩:=NG (I.H k _ (hH k _ hk)).2 hp;rw[hg]at hg';cases hg';refine⟨u,?_,.sub hnm hg hc (pF y1)⟩;unfold execOp;rw[ho];simp[hv,IJ h1 h2 hc.1]
theorem a3H{t:TypeId}{x:Operand}{q:Nat}{e e':TypeId}{s:Nat}{ls:List (Nat×List Tree)}{tys:Array TypeId}{el:TypeId}(hu:P.underlying t=some (.slice el))(ho:o.op = .call { callee:=.builtin .len,args:=#[x],argTypes:=tys })(hty:tys = #[t])(hx:σ.ev x=some (.own q))(hq:σ.H q=some (.nest e e' s ls)):aW P o σ fr (I ls.length) []:=by
 intro E σ₁ a w hT hH h100 hf hd ⟨ν,G,I⟩ Q;have hv:=I.ev (St.dE hT hx);obtain⟨v,he⟩:∃v,a.eval x=v:=⟨_,rfl⟩
 rw[he]at hv;cases hv with
 |own hk h1=>
   obtain⟨xs,r1,_⟩:=(I.H q _ (hH q _ hq)).2;obtain⟨ax,c,hvv⟩:∃ax c,ν q = .slice ax ls.length c:=by
    rcases r1.2 with⟨hz,h0⟩|⟨g,cap,cur,hz,_⟩
    .exact⟨_,_,by rw[hz,h0]⟩
    .exact⟨_,_,hz⟩
   subst hty;unfold Oper.wp;have he':(execOp a.eval o).run P w = .ok (.value (.int .i64 ls.length)) w:=by
    unfold execOp;rw[ho];simp[resolve,invoke,builtin,he,hvv,Builtin.len_,run_underlying hu,goInt]
   rw[he',Oper.upon_value];exact⟨put_defers ..,ν,G,I.put (.t (.v _ rfl)) hd fr a rfl⟩
theorem a3G{t:TypeId}{x:Operand}{q i:Nat}{e e':TypeId}{s:Nat}{ls:List (Nat×List Tree)}{p:Nat×List Tree}{tys:Array TypeId}{el:TypeId}(hu:P.underlying t=some (.slice el))(ho:o.op = .call { callee:=.builtin .len,args:=#[x],argTypes:=tys })(hty:tys = #[t])(hx:σ.ev x=some (.sub q i))(hq:σ.H q=some (.nest e e' s ls))(hp:ls[i]?=some p):aW P o σ fr (I p.1) []:=by
 intro E σ₁ a w hT hH h100 hf hd ⟨ν,G,I⟩ Q;obtain⟨g,hg,hc,_⟩:=aG6 (I.ev (St.dE hT hx));obtain⟨g',u,ys,hg',hc',y1,_⟩:=NG (I.H q _ (hH q _ hq)).2 hp;rw[hg]at hg';cases hg';have hu':=Yx hc hc';obtain⟨ax,c,hvv⟩:∃ax c,u = .slice ax p.1 c:=by
  rcases y1.2 with⟨hz,h0⟩|⟨g,cap,cur,hz,_⟩
  .exact⟨_,_,by rw[hz,h0]⟩
  .exact⟨_,_,hz⟩
 subst hty;unfold Oper.wp;have he':(execOp a.eval o).run P w = .ok (.value (.int .i64 p.1)) w:=by
  unfold execOp;rw[ho];simp[resolve,invoke,builtin,hu',hvv,Builtin.len_,run_underlying hu,goInt]
 rw[he',Oper.upon_value];exact⟨put_defers ..,ν,G,I.put (.t (.v _ rfl)) hd fr a rfl⟩
theorem a3P{t:TypeId}{x y:Operand}{q i:Nat}{e e':TypeId}{s:Nat}{ls:List (Nat×List Tree)}{p:Nat×List Tree}{k:IntKind}{j:Int}(hs:uX P t=some 1)(ho:o.op = .indexAddr t x y)(hx:σ.ev x=some (.sub q i))(hq:σ.H q=some (.nest e e' s ls))(hp:ls[i]?=some p)(hy:σ.ev y=some (.t (.v (.int k j))))(h0:0<=j)(hn:j<p.1):
    aW P o σ fr (.jE q i j.toNat) []:=
 dM λE σ₁ ν G w a hH I hev=>by
  obtain⟨g,hg,hc,hk⟩:=aG6 (hev x _ hx);have hj:=bY (hev y _ hy);obtain⟨g',u,ys,hg',hc',y1,_⟩:=NG (I.H q _ (hH q _ hq)).2 hp;rw[hg]at hg';cases hg';have hu':=Yx hc hc';rcases y1.2 with⟨_,hz⟩|⟨g1,cap,cur,hvv,_⟩
  .omega
  .refine⟨.pointer (some ⟨g1,j.toNat,none⟩),?_,.jE hk hg (by rw[<-hvv];exact hc')⟩
   unfold execOp;rw[ho];have:=IK hs w g1 0 p.1 cap k j h0 hn;rw[lP,eC]at this;simp[hu',hj,hvv,this]
theorem a3I{t:TypeId}{x:Operand}{k i j:Nat}{e e':TypeId}{s:Nat}{ls:List (Nat×List Tree)}{p:Nat×List Tree}{tr:Tree}(hu:kF P t=some false)(ho:o.op = .load t x)(hx:σ.ev x=some (.jE k i j))(hk:σ.H k=some (.nest e e' s ls))(hp:ls[i]?=some p)(hj:p.2[j]?=some tr):aW P o σ fr (.t tr) []:=
 dM λE σ₁ ν G w a hH I hev=>by
  obtain⟨dsc,h1,h2⟩:=pD hu;obtain⟨g,g1,n,c,hg,hc,hv,hnm⟩:=aG9 (hev x _ hx);obtain⟨g',u,ys,hg',hc',y1,y2,y3,y4⟩:=NG (I.H k _ (hH k _ hk)).2 hp;rw[hg]at hg';cases hg';have hu':=Yx hc hc';subst hu';obtain⟨g2,z,hg2,hz,hd,_⟩:=(aIW (E:=E) (nm:=σ₁.nm) y1 y2 y3 y4).cell (i:=j) (d:=.t tr) (by simp[aO.cells,hj]);simp only[aU,iR]at hg2;subst hg2;cases hd with
  |t hd=>
    refine⟨z,?_,.t hd⟩;unfold execOp;rw[ho];simp[hv,IJ h1 h2 hz]
theorem a23{t:TypeId}{x y:Operand}{k i j:Nat}{e e':TypeId}{s:Nat}{ls:List (Nat×List Tree)}{p:Nat×List Tree}{tr:Tree}(hi:(P.info? t).map (·.size)=some 1)(ho:o.op = .store t x y)(hx:σ.ev x=some (.jE k i j))(hy:σ.ev y=some (.t tr))(hk:σ.H k=some (.nest e e' s ls))(hp:ls[i]?=some p)(hj:j<p.2.length):
    aW P o σ fr (.aS []) [(k,some (.nest e e' s (ls.set i (p.1,p.2.set j tr))))]:=by
 intro E σ₁ a w hT hH h100 hf hd ⟨ν,G,I⟩ Q;obtain⟨g,g1,n,c,hg,hc,hvx,hkn⟩:=aG9 (I.ev (St.dE hT hx));have hdy:=I.ev (St.dE hT hy);obtain⟨v,hev⟩:∃v,a.eval y=v:=⟨_,rfl⟩
 rw[hev]at hdy;cases hdy with
 |t htr=>
 have hob:=(I.H k _ (hH k _ hk)).2;obtain⟨xs,r1,r2,r3,r4,r5⟩:=id hob;have hil:i<ls.length:=(bZ.1 hp).1;have hxl:xs.length=ls.length:=by rw[r1.1,lP]
 have hxi:xs[i]?=some (.slice (some ⟨g1,0,none⟩) n c):=by rw[<-wA r1 hg hil];exact hc.1
 obtain⟨ys,y1,y2,y3,y4⟩:=r2 i _ p hxi hp;have hone:v.oneCell'=true:=htr.one;have hsp:dL p.2 j [tr]=p.2.set j tr:=by
  apply Bg;intro m;rw[ID (by simp;omega),a9P];simp only[eD,List.length_nil,eC];by_cases e1:m<j
  .rw[aI e1,aE (by omega)]
  .rw[aE e1]
   by_cases e2:j=m
   .subst e2;rw[aI (by omega),aI rfl,aI (by omega)];simp
   .rw[aE (by omega),aE e2]
 obtain⟨g2,hg2,hthere,hG0,hnew⟩:=(aIW (E:=E) (nm:=σ₁.nm) y1 y2 y3 y4).put (off:=j) (new:=[.t tr]) (vs:=[v]) (ob':=.row e' s p.1 (p.2.set j tr) false)
  (by simp only[aO.put];rw[aI ⟨by simp;omega,trivial⟩];simp[zH,hsp]) rfl (λm u d' hu hd'=>by
   cases m with
   |zero=>simp at hu hd';subst hu hd';exact⟨.t htr,hone⟩
   |succ m=>simp at hu) (by simp)
 simp only[aU,iR]at hg2;subst hg2;have hcv:(a.eval y).cells = #[v]:=by rw[hev];exact JG hone
 have hr:(Instr.storeAt t (.pointer (some ⟨g1,j,none⟩)) (a.eval y)).run P w = .ok () (w.setCells g1 j (a.eval y).cells.toList):=
  M5 (by rw[hcv];simpa using hthere) (by rw[hi,hcv];rfl) (λu hu=>by rw[hcv]at hu;simp at hu;subst hu;exact hone)
 rw[hcv]at hr;obtain⟨s1,s2,s3,s4,s5⟩:=MX (g:=g1) [v] j w;obtain⟨w',hw'⟩:∃w',w.setCells g1 j [v]=w':=⟨_,rfl⟩
 rw[hw']at hr s1 s2 s3 s4 s5;have hcell:∀b i u,Cell w G b i u->Cell w' G b i u:=λb i u h=>by
  have hne:b≠g1:=λe=>by have:=h.2;rw[e,hG0]at this;omega
  exact⟨(World.cell?_of_block (a:=⟨b,i,none⟩) (s5 b hne)).trans h.1,h.2⟩
 have hfoot1:bO w (ν k) (.nest e e' s ls) g1:=.inr ⟨g,i,_,hg,hil,hc.1,rfl⟩;have hmay:E.may g1:=(hob.ft hfoot1).2;have hgne:g≠g1:=λe=>r4 i _ hxi g1 rfl (by rw[hg,e])
 have hft:∀j oj,σ₁.H j=some oj->∀g',bO w' (ν j) oj g' ↔ bO w (ν j) oj g':=λm om hm g'=>uT λb hb=>s5 b λe=>by
  subst e;by_cases hmk:m=k
  .subst hmk
   rw[hg]at hb;cases hb;exact hgne rfl
  .exact I.cW m om k _ hm (hH k _ hk) hmk b (eK hb) hfoot1
 unfold Oper.wp;have he:(execOp a.eval o).run P w = .ok .skip w':=by
  unfold execOp;rw[ho];simp only[hvx,Sem.run_bind,hr];rfl
 rw[he,Oper.upon_skip];obtain⟨ob',hob'⟩:∃ob',aO.nest e e' s (ls.set i (p.1,p.2.set j tr))=ob':=⟨_,rfl⟩
 have hnm:∀j,σ₁.nm j=true->(σ₁.aP o.dst (.aS []) [(k,some ob')] fr).nm j=true/\ν j=ν j:=λj hj=>⟨by simp[St.aP,hj],rfl⟩
 rw[hob'];refine⟨put_defers ..,ν,G,⟨s1.trans I.kept.os,s2.trans I.kept.tape,s3.trans I.kept.output,by rw[s4];exact I.kept.size,λb hb hX=>?_⟩,λb i u h=>hcell b i u (I.eJ b i u h),I.fJ,I.g0,?_,λt' d' h=>?_,λm om h=>?_,λj1 o1 j2 o2 h1 h2 hne=>?_⟩
 .refine(s5 b (λe=>?_)).trans (I.kept.block b hb hX)
  subst e;rcases hmay with h|h
  .omega
  .exact hX h
 .cases o.dst <;> simp[Act.put,I.sz]
 .simp only[St.aP]at h
  split at h
  .rename_i he'
   cases h;have:=hd t' he';exact⟨undef,by simp[he',Act.put,I.sz,this],Hv⟩
  .rename_i he'
   obtain⟨u,hu,hdu⟩:=I.T t' d' h;refine⟨u,?_,hdu.mono hnm hcell⟩;cases hds:o.dst with
   |none=>simpa[Act.put]using hu
   |some t''=>
     have hne:t''≠t':=λe=>he' (by rw[hds,e])
     simp only[Act.put];rw[tJ hne];exact hu
 .by_cases hm:m=k
  .subst hm
   simp[St.aP,look]at h;subst h;subst hob';have h1:=(I.H m _ (hH m _ hk)).1;have hall:∀g',aU (ν m)=some g'->w'.heap[g']?=w.heap[g']?:=λg' hg'=>s5 g' λe=>by
    subst e;rw[hg]at hg';cases hg';exact hgne rfl
   have r1':w'.ownsRow 0 e 1 (ν m) (ls.set i (p.1,p.2.set j tr)).length xs:=by
    rw[nI];refine⟨r1.1,?_⟩;rcases r1.2 with h|⟨g3,cap,cur,hvv,z1,z2,z3⟩
    .exact .inl h
    .exact .inr ⟨g3,cap,cur,hvv,z1,by rw[hall g3 (by rw[hvv];rfl)];exact z2,z3⟩
   refine⟨(hnm m h1).1,xs,r1',λq x p' hx hp'=>?_,r3,r4,λg' hg'=>by rw[nI];exact r5 g' hg'⟩;by_cases hqi:i=q
   .subst hqi
    rw[pO hil]at hp';cases hp';rw[hxi]at hx;cases hx;obtain⟨ys',a1,a2,a3,a4⟩:=hnew w' hcell hw'.symm;exact⟨ys',a1,a2,a3,λg' hg'=>by simpa using a4 g' hg'⟩
   .rw[qP hqi]at hp'
    obtain⟨ys',a1,a2,a3,a4⟩:=r2 q x p' hx hp';refine⟨ys',⟨a1.1,?_⟩,a2,λi u t hu ht=>(a3 i u t hu ht).mono hcell,a4⟩;rcases a1.2 with h|⟨g3,cap,cur,hvv,z1,z2,z3⟩
    .exact .inl h
    .exact .inr ⟨g3,cap,cur,hvv,z1,by rw[s5 g3 (λe=>by subst e;exact r3 i q _ x hqi hxi hx g3 rfl (by rw[hvv];rfl))];exact z2,z3⟩
  .have h':σ₁.H m=some om:=by simpa[St.aP,look,eN hm]using h
   obtain⟨h1,h2⟩:=I.H m om h';refine⟨(hnm m h1).1,h2.mono h1 hnm hcell (λg' hg'=>⟨s5 g' (λe=>?_),rfl⟩)⟩;subst e;exact I.cW m om k _ h' (hH k _ hk) hm g' hg' hfoot1
 .have back:∀j oj,(σ₁.aP o.dst (.aS []) [(k,some ob')] fr).H j=some oj->∃oj',σ₁.H j=some oj'/\∀g',bO w' (ν j) oj g'->bO w (ν j) oj' g':=λm om h=>by
   by_cases hm:m=k
   .subst hm
    simp[St.aP,look]at h;subst h;subst hob';refine⟨_,hH m _ hk,λg' hg'=>(hft m _ (hH m _ hk) g').1 ?_⟩;rcases hg' with h|⟨g0,i',x,a1,a2,a3⟩
    .exact .inl h
    .exact .inr ⟨g0,i',x,a1,by rw[nI]at a2;exact a2,a3⟩
   .have h':σ₁.H m=some om:=by simpa[St.aP,look,eN hm]using h
    exact⟨om,h',λg' hg'=>(hft m om h' g').1 hg'⟩
  obtain⟨o1',h1',f1⟩:=back j1 o1 h1;obtain⟨o2',h2',f2⟩:=back j2 o2 h2;exact λg' hg1 hg2=>I.cW j1 o1' j2 o2' h1' h2' hne g' (f1 g' hg1) (f2 g' hg2)
inductive Zv (σ:St) (s:Operand) (e e':TypeId) (sz:Nat):Option Nat->List (Nat×List Tree)->Prop
 |own {k:Nat} {ls:List (Nat×List Tree)} (h:σ.ev s=some (.own k)) (hk:σ.H k=some (.nest e e' sz ls)):Zv σ s e e' sz (some k) ls
 |nil (h:σ.ev s=some (.t (.v (.slice none 0 0)))):Zv σ s e e' sz none []
def wL(k0:Option Nat)(q fr:Nat)(o:aO):Wr:=match k0 with|some k=>[(fr,some o),(k,none),(q,none)]|none=>[(fr,some o),(q,none)]
theorem aHc{t e e':TypeId}{z:Value}{bytes sz q:Nat}{s x:Operand}{k0:Option Nat}{ls ms:List (Nat×List Tree)}(hT:mQ P t e z 1 bytes)(ho:o.op = .call { callee:=.builtin .append,args:=#[s,x],argTypes:=#[t,t] })
    (hs:Zv σ s e e' sz k0 ls) (hx:σ.ev x=some (.own q)) (hq:σ.H q=some (.nest e e' sz ms)) (hne:k0≠some q) (hb:(ls.length+ms.length)*bytes<=140737488355328/\ls.length+ms.length<=maxLen):
    aW P o σ fr (.own fr) (wL k0 q fr (.nest e e' sz (ls++ms))):=by
 intro E σ₁ a w hTT hHH h100 hf hd ⟨ν,G,I⟩ Q;have hvx:=I.ev (St.dE hTT hx);obtain⟨vx,hex⟩:∃v,a.eval x=v:=⟨_,rfl⟩
 rw[hex]at hvx;cases hvx with
 |own hkq _=>
 have hobq:=(I.H q _ (hHH q _ hq)).2;obtain⟨us,u1,u2,u3,u4,u5⟩:=id hobq;have hul:us.length=ms.length:=by rw[u1.1,lP]
 have hone:∀u∈us,u.oneCell'=true:=λu hu=>by
  obtain⟨i,hi⟩:=iS.1 hu;have hlt:i<ms.length:=by rw[<-hul];exact(bZ.1 hi).1
  obtain⟨ys,y1,_⟩:=u2 i u _ hi (dC hlt);exact pF y1
 obtain⟨ax,c,hxv,hrd,hnone⟩:∃ax c,ν q = .slice ax ms.length c/\Rd w ax us/\(ax=none->c=0):=by
  rcases u1.2 with⟨hv,hn⟩|⟨g,cap,cur,hv,_⟩
  .have hx:us=[]:=AH (by omega)
   exact⟨none,0,by rw[hv,hn],by rw[hx];exact Rd.nil,λ_=>rfl⟩
  .exact⟨_,cap,hv,λj u hj=>⟨_,rfl,u1.cells (by rw[hv];rfl) j u hj⟩,λe=>by cases e⟩
 have hrow:∃v,a.eval s=v/\∃ob:eT E (λ_=>v) σ₁.nm w G 0 (.nest e e' sz ls),(∀k,some k=k0->ν k=v/\σ₁.H k=some (.nest e e' sz ls))/\(k0=none->aU v=none):=by
  cases hs with
  | @own k _ h hk=>
    have hv:=I.ev (St.dE hTT h);obtain⟨v,he⟩:∃v,a.eval s=v:=⟨_,rfl⟩
    rw[he]at hv;cases hv with
    |own _ _=>exact⟨_,he,(I.H _ _ (hHH _ _ hk)).2,(λk' hk'=>by cases hk';exact⟨rfl,hHH _ _ hk⟩),(λe=>by cases e)⟩
  |nil h=>
    have hv:=bY (I.ev (St.dE hTT h));exact⟨_,hv,qR.nest.ok rfl,(λk h=>by cases h),λ_=>rfl⟩
 obtain⟨v,hsv,hobv,hk0,hk0n⟩:=hrow;obtain⟨xs,r1,r2,r3,r4,r5⟩:=id hobv;change w.ownsRow 0 e 1 v ls.length xs at r1;change ∀(i:Nat)(x:Value),xs[i]?=some x->∀g,aU x=some g->aU v≠some g at r4
 change ∀g,aU v=some g->E.may g/\G g=ls.length at r5
 have hxl:xs.length=ls.length:=by rw[r1.1,lP]
 obtain⟨v',w',hr,p1,q1,q2,q3,q4,q5,q6,q7⟩:=M7 (ty:=o.type) hT r1 (m:=ms.length) (c:=c) (by rw[hul,lP]) hrd hnone hone hb.2 hb.1;unfold Oper.wp;have he:(execOp a.eval o).run P w = .ok (.value v') w':=by
  unfold execOp;rw[ho];simp[resolve,invoke,builtin,hsv,hex,hxv,hr]
 rw[he,Oper.upon_value];rw[<-kR r1]at q5 q6 q7;rw[<-kR p1]at q7
 -- blocks of the one are none of the other
 have dis1:∀g,bO w v (.nest e e' sz ls) g->¬ bO w (ν q) (.nest e e' sz ms) g:=λg hg hg'=>by
  cases k0 with
  |none=>
    rcases hg with h|⟨_,_,_,h,_⟩
    .rw[hk0n rfl]at h;cases h
    .rw[hk0n rfl]at h;cases h
  |some k=>
    obtain⟨h1,h2⟩:=hk0 k rfl;subst h1;exact I.cW k _ q _ h2 (hHH q _ hq) (λe=>hne (by rw[e])) g hg hg'
 have inx:∀(i:Nat)(x:Value),xs[i]?=some x->∀g,aU x=some g->bO w v (.nest e e' sz ls) g:=λi x hx g hg=>by
  have hi:i<ls.length:=by rw[<-hxl];exact(bZ.1 hx).1
  rcases r1.2 with⟨_,h0⟩|⟨g0,cap,cur,hv,_⟩
  .omega
  .exact .inr ⟨g0,i,x,by rw[hv];rfl,hi,by rw[wA r1 (by rw[hv];rfl) hi];exact hx,hg⟩
 have inu:∀(i:Nat)(x:Value),us[i]?=some x->∀g,aU x=some g->bO w (ν q) (.nest e e' sz ms) g:=λi x hx g hg=>by
  have hi:i<ms.length:=by rw[<-hul];exact(bZ.1 hx).1
  rcases u1.2 with⟨_,h0⟩|⟨g0,cap,cur,hv,_⟩
  .omega
  .exact .inr ⟨g0,i,x,by rw[hv];rfl,hi,by rw[wA u1 (by rw[hv];rfl) hi];exact hx,hg⟩
 have outv:∀(i:Nat)(x:Value),(xs++us)[i]?=some x->∀g,aU x=some g->g<w.heap.size/\aU v≠some g:=λi x hx g hg=>by
  by_cases hi:i<xs.length
  .rw[dV hi]at hx
   exact⟨(hobv.ft (inx i x hx g hg)).1,r4 i x hx g hg⟩
  .rw[dN (by omega)]at hx
   have h:=inu _ x hx g hg;exact⟨(hobq.ft h).1,λh'=>dis1 g (eK h') h⟩
 have outv':∀(i:Nat)(x:Value),(xs++us)[i]?=some x->∀g,aU x=some g->aU v'≠some g:=λi x hx g hg h=>by
  obtain⟨h1,h2⟩:=outv i x hx g hg;rcases q7 g h with h3|h3
  .omega
  .exact h2 h3
 let G':bV:=λb=>if aU v'=some b then ls.length+ms.length else G b
 have hcell:∀b i u,Cell w G b i u->Cell w' G' b i u:=λb i u h=>by
  by_cases hb':aU v=some b
  .have hG:G b=ls.length:=(r5 b hb').2
   have h2:=h.2;rw[hG]at h2;refine⟨(q6 b i hb' (by rw[lP];exact h2)).trans h.1,?_⟩;show i<if aU v'=some b then ls.length+ms.length else G b
   split
   .omega
   .rw[hG];exact h2
  .refine⟨(World.cell?_of_block (a:=⟨b,i,none⟩) (q5 b h.lt hb')).trans h.1,?_⟩
   have:aU v'≠some b:=λe=>by
    rcases q7 b e with h'|h'
    .have:=h.lt;omega
    .exact hb' h'
   show i<if aU v'=some b then ls.length+ms.length else G b
   rw[aE this];exact h.2
 have hmv:∀{x:Value}{n:Nat}{ys:List Value},(∀g,aU x=some g->g<w.heap.size/\aU v≠some g)->w.ownsRow 0 e' sz x n ys->w'.ownsRow 0 e' sz x n ys:=λhx h1=>by
  refine⟨h1.1,?_⟩;rcases h1.2 with h|⟨g,cap,cur,hvv,z1,z2,z3⟩
  .exact .inl h
  .have:=hx g (by rw[hvv];rfl)
   exact .inr ⟨g,cap,cur,hvv,z1,by rw[q5 g this.1 this.2];exact z2,z3⟩
 refine⟨put_defers ..,cD ν fr v',G',I.Dq h100 hf hd (k0.toList++[q]) (o:=.nest e e' sz (ls++ms)) (λk=>?_) q1 q2 q3 q4 (λb hb hnk=>?_) hcell (x:=v') (λg hg=>?_) ?_ ?_⟩
 .cases k0 with
  |none=>
    simp only[wL,look,a8p,k7,nH];by_cases h1:fr=k
    .rw[aI h1,aI h1.symm]
    .rw[aE h1,aE (eN h1)]
     by_cases h2:q=k
     .rw[aI h2,aI h2.symm]
     .rw[aE h2,aE (eN h2)]
  |some j=>
    simp only[wL,look,a8o,pP,k7,eZ,Zl,or_false];by_cases h1:fr=k
    .rw[aI h1,aI h1.symm]
    .rw[aE h1,aE (eN h1)]
     by_cases h2:j=k
     .rw[aI h2,aI (.inl h2.symm)]
     .rw[aE h2]
      by_cases h3:q=k
      .rw[aI h3,aI (.inr h3.symm)]
      .rw[aE h3,aE (by rintro(h|h);exact h2 h.symm;exact h3 h.symm)]
 .have hnv:aU v≠some b:=λe=>by
   cases k0 with
   |none=>rw[hk0n rfl]at e;cases e
   |some j=>
     obtain⟨h1,h2⟩:=hk0 j rfl;exact hnk j (by simp) _ h2 (eK (by rw[h1];exact e))
  refine⟨q5 b hb hnv,aE (λe=>?_)⟩;rcases q7 b e with h|h
  .omega
  .exact hnv h
 .rcases hg with hg|⟨g0,i,x,a1,a2,a3,a4⟩
  .rcases q7 g hg with h|h
   .exact .inl h
   .cases k0 with
    |none=>rw[hk0n rfl]at h;cases h
    |some j=>
      obtain⟨h1,h2⟩:=hk0 j rfl;exact .inr ⟨j,by simp,_,h2,eK (by rw[h1];exact h)⟩
  .right
   rw[wA p1 a1 (by rw[aL]at a2;exact a2)]at a3;by_cases hi:i<xs.length
   .rw[dV hi]at a3
    have h:=inx i x a3 g a4;cases k0 with
    |none=>
      have hl:=hi;rcases r1.2 with⟨_,h0⟩|⟨g0,cap,cur,hv,_⟩
      .omega
      .have:=hk0n rfl;rw[hv]at this;cases this
    |some j=>
      obtain⟨h1,h2⟩:=hk0 j rfl;exact⟨j,by simp,_,h2,by rw[h1];exact h⟩
   .rw[dN (by omega)]at a3
    exact⟨q,by simp,_,hHH q _ hq,inu _ x a3 g a4⟩
 .refine⟨xs++us,by rw[cB,aL];exact p1,λi x p hx hp=>?_,λi j x y hij hx hy g hg=>?_,λi x hx g hg=>by rw[cB];exact outv' i x hx g hg,λg hg=>?_⟩
  .have hG0:∀g,aU x=some g->G' g=G g:=λg hg=>aE (outv' i x hx g hg)
   have ho:=outv i x hx;by_cases hi:i<xs.length
   .rw[dV hi]at hx
    rw[dV (by omega)]at hp;obtain⟨ys,y1,y2,y3,y4⟩:=r2 i x p hx hp;exact⟨ys,hmv ho y1,y2,λi u t hu ht=>(y3 i u t hu ht).mono hcell,λg hg=>by rw[hG0 g hg];exact y4 g hg⟩
   .rw[dN (by omega)]at hx
    rw[dN (by omega)]at hp;obtain⟨ys,y1,y2,y3,y4⟩:=u2 _ x p hx (by rw[hxl];exact hp);exact⟨ys,hmv ho y1,y2,λi u t hu ht=>(y3 i u t hu ht).mono hcell,λg hg=>by rw[hG0 g hg];exact y4 g hg⟩
  .by_cases hi:i<xs.length
   .rw[dV hi]at hx
    by_cases hj:j<xs.length
    .rw[dV hj]at hy
     exact r3 i j x y hij hx hy g hg
    .rw[dN (by omega)]at hy
     exact λhg'=>dis1 g (inx i x hx g hg) (inu _ y hy g hg')
   .rw[dN (by omega)]at hx
    by_cases hj:j<xs.length
    .rw[dV hj]at hy
     exact λhg'=>dis1 g (inx j y hy g hg') (inu _ x hx g hg)
    .rw[dN (by omega)]at hy
     exact u3 _ _ x y (by omega) hx hy g hg
  .rw[cB]at hg
   refine⟨?_,by show(if aU v'=some g then _ else _)=_;rw[aI hg,aL]⟩;rcases q7 g hg with h|h
   .exact .inl (Nat.le_trans I.kept.size h)
   .exact(r5 g h).1
 .have hk':(σ₁.aP o.dst .any (wL k0 q fr (.nest e e' sz (ls++ms))) fr).nm fr=true:=kN ..
  have:DR (cD ν fr v') (σ₁.aP o.dst .any (wL k0 q fr (.nest e e' sz (ls++ms))) fr).nm w' G' (cD ν fr v' fr) (.own fr):=.own hk' (by rw[cB];exact pF p1);rw[cB]at this;exact this
theorem a3C{t e e':TypeId}{sz n q:Nat}{zv:Value}{ts:List Tree}{x:Operand}(hB:AG P t e 1 1 [zv])(ho:o.op = .buildSlice t 1 #[(0,x)])(hx:σ.ev x=some (.own q))(hq:σ.H q=some (.row e' sz n ts false)):
    aW P o σ fr (.own fr) [(fr,some (.nest e e' sz [(n,ts)])),(q,none)]:=by
 intro E σ₁ a w hT hHH h100 hf' hd ⟨ν,G,I⟩ Q;have hvx:=I.ev (St.dE hT hx);obtain⟨vx,hex⟩:∃v,a.eval x=v:=⟨_,rfl⟩
 rw[hex]at hvx;cases hvx with
 |own hkq h1q=>
 have hobq:=(I.H q _ (hHH q _ hq)).2;obtain⟨ys,y1,y2,y3,y4⟩:=id hobq;have hfill:Instr.fill (λi=>some (i*1,1)) [zv].toArray [(0,ν q)]=some #[ν q]:=by
  simp[Instr.fill,JG h1q]
 have hr:=hB.run w (#[(0,x)].map λ(i,x)=>(i,a.eval x)) #[ν q] (by simpa[hex]using hfill);unfold Oper.wp;have he:(execOp a.eval o).run P w = .ok (.value (.slice (some ⟨w.heap.size,0,none⟩) 1 1)) (w.alloc (.cells #[ν q] e)):=by
  unfold execOp;rw[ho];simp at hr;simp[hr]
 rw[he,Oper.upon_value];obtain⟨w',hw'⟩:∃w',w.alloc (.cells #[ν q] e)=w':=⟨_,rfl⟩
 have hA:cU w w':=hw' ▸ (cU.refl w).alloc _;have hnew:w'.heap[w.heap.size]?=some (.cells #[ν q] e):=by rw[<-hw'];exact heap_alloc_new w _
 rw[hw']
 let G':bV:=λb=>if b=w.heap.size then 1 else G b
 have hG:∀b,b<w.heap.size->G' b=G b:=λb hb=>aE (by omega)
 have hcell:∀b i u,Cell w G b i u->Cell w' G' b i u:=λb i u h=>h.iG hA hG
 have hlt:∀g,aU (ν q)=some g->g<w.heap.size:=λg hg=>hobq.sX hg
 have hown:w'.ownsRow 0 e 1 (.slice (some ⟨w.heap.size,0,none⟩) 1 1) 1 [ν q]:=⟨rfl,.inr ⟨w.heap.size,1,#[ν q],rfl,o7 _,hnew,cE _,hB.ml,rfl,rfl⟩⟩;refine⟨put_defers ..,cD ν fr (.slice (some ⟨w.heap.size,0,none⟩) 1 1),G',I.Dq h100 hf' hd [q] (o:=.nest e e' sz [(n,ts)]) (λk=>?_) hA.os hA.tape hA.output hA.size (λb hb _=>⟨hA.block b hb,hG b hb⟩) hcell (x:=.slice (some ⟨w.heap.size,0,none⟩) 1 1) (λg hg=>?_) ?_ ?_⟩
 .simp only[look,nH]
  by_cases h1:fr=k
  .rw[aI h1,aI h1.symm]
  .rw[aE h1,aE (eN h1)]
   by_cases h2:q=k
   .rw[aI h2,aI h2.symm]
   .rw[aE h2,aE (eN h2)]
 .rcases hg with hg|⟨g0,i,x,a1,a2,a3,a4⟩
  .cases hg;exact .inl (cE _)
  .rw[wA hown a1 a2]at a3
   have hi:i=0:=by simp at a2;exact a2
   subst hi;simp at a3;subst a3;exact .inr ⟨q,by simp,_,hHH q _ hq,a4⟩
 .rw[eT]
  refine⟨[ν q],by rw[cB];exact hown,λi x p hx hp=>?_,λi j x y hij hx hy=>?_,λi x hx g hg=>?_,λg hg=>?_⟩
  .have hi:i=0:=by have:=(bZ.1 hx).1;simp at this;exact this
   subst hi;simp at hx hp;subst hx hp;refine⟨ys,⟨y1.1,?_⟩,y2,λi u t hu ht=>(y3 i u t hu ht).mono hcell,λg hg=>⟨(y4 g hg).1,by rw[hG g (hlt g hg)];simpa using(y4 g hg).2⟩⟩;rcases y1.2 with h|⟨g,cap,cur,hvv,z1,z2,z3⟩
   .exact .inl h
   .exact .inr ⟨g,cap,cur,hvv,z1,by rw[hA.block g (hlt g (by rw[hvv];rfl))];exact z2,z3⟩
  .have:=(bZ.1 hx).1
   have:=(bZ.1 hy).1;simp at *
   omega
  .have hi:i=0:=by have:=(bZ.1 hx).1;simp at this;exact this
   subst hi;simp at hx;subst hx;rw[cB];intro h;cases h;exact absurd (hlt _ hg) (OQ _)
  .rw[cB]at hg
   cases hg;exact⟨.inl I.kept.size,aI rfl⟩
 .have:DR (cD ν fr (.slice (some ⟨w.heap.size,0,none⟩) 1 1)) (σ₁.aP o.dst .any [(fr,some (.nest e e' sz [(n,ts)])),(q,none)] fr).nm w' G' (cD ν fr (.slice (some ⟨w.heap.size,0,none⟩) 1 1) fr) (.own fr):=.own (kN ..) (by rw[cB];rfl)
  rw[cB]at this;exact this
end
end Go.Ab
/- The abstract machine: maps whose keys are numbers, words or truths; variables that are written no more. -/
namespace Go.Ab
open Go.RowKit
theorem uO{ν:Nat->Value}{nm:Nat->Bool}{w:World}{G:bV}{v:Value}{k:Nat}(h:DR ν nm w G v (.own k)):v=ν k/\nm k=true:=by
 cases h with|own hk h1=>exact⟨rfl,hk⟩
theorem aIr{d:TypeDesc}{k:Value}(hk:MapKept.IsKey d k):∀(l:List MapEntry)(i j:Nat)(e:MapEntry),(∀x∈l,MapKept.IsKey d x.key)->l[j]?=some e->e.key=k->(∀(m:Nat)(e':MapEntry),m<j->l[m]?=some e'->e'.key≠k)->Instr.findNow d k l i=some (some (i+j,e.val))
 |[],_,_,_,_,h,_,_=>by simp at h
 |x::l,i,0,e,hks,h,he,_=>by
   simp at h;subst h;obtain⟨r,hr,hiff⟩:=MapKept.sameNow_of_keys hk (hks x (.head _));have:r=true:=hiff.2 he.symm;subst this;simp[Instr.findNow,hr]
 |x::l,i,j+1,e,hks,h,he,hm=>by
   obtain⟨r,hr,hiff⟩:=MapKept.sameNow_of_keys hk (hks x (.head _));have:r=false:=by
    cases r with
    |false=>rfl
    |true=>exact absurd (hiff.1 rfl).symm (hm 0 x (by omega) rfl)
   subst this;simp only[Instr.findNow,hr];rw[aIr hk l (i+1) j e (λy hy=>hks y (.tail _ hy)) (by simpa using h) he (λm e' h1 h2=>hm (m+1) e' (by omega) (by simpa using h2)),Nat.add_assoc,Nat.add_comm 1 j]
theorem aIq{d:TypeDesc}{k:Value}(hk:MapKept.IsKey d k){l:List MapEntry}(hks:∀x∈l,MapKept.IsKey d x.key)(h:∀x∈l,x.key≠k):Instr.findNow d k l 0=some none:=by
 rcases MapKept.findNow_spec hk l 0 hks with⟨h1,_⟩|⟨j,e,_,h2,h3⟩
 .exact h1
 .exact absurd h3 (h e (iM h2))
section
variable{P:Program}{o:Oper}{σ:St}{fr:Nat}
theorem a2p{t:TypeId}(ho:o.op = .makeMap t none):aW P o σ fr (.own fr) [(fr,some (.mp []))]:=by
 intro E σ₁ a w hT hH h100 hf hd ⟨ν,G,I⟩ Q;unfold Oper.wp;have hr:(execOp a.eval o).run P w = .ok (.value (.map (some w.heap.size))) (w.alloc (.map #[] 0)):=by
  unfold execOp;rw[ho];rfl
 rw[hr,Oper.upon_value];have hA:cU w (w.alloc (.map #[] 0)):=(cU.refl w).alloc _;refine⟨put_defers ..,_,_,I.fresh (G':=λb=>if b=w.heap.size then 0 else G b) h100 hf hd hA (λb hb=>aE (by omega)) (x:=.map (some w.heap.size)) (λg hg=>by cases hg;exact cE _) ?_ ?_⟩
 .exact⟨w.heap.size,#[],0,cB,.inl I.kept.size,heap_alloc_new w _,aI rfl,⟨λx hx=>by simp at hx,by simp⟩,rfl,λi en p h=>by simp at h⟩
 .have:DR (cD ν fr (.map (some w.heap.size))) (σ₁.aP o.dst .any [(fr,some (.mp []))] fr).nm (w.alloc (.map #[] 0)) (λb=>if b=w.heap.size then 0 else G b) (cD ν fr (.map (some w.heap.size)) fr) (.own fr):=.own (kN ..) (by rw[cB];rfl)
  rw[cB]at this;exact this
theorem Xz{ν:Nat->Value}{nm:Nat->Bool}{w:World}{G:bV}{l:List (Value×D)}{d:TypeDesc}(hks:∀p∈l,MapKept.IsKey d p.1){es:Array MapEntry}(hl:es.size=l.length)(h:∀(i:Nat)(en:MapEntry)(p:Value×D),es[i]?=some en->l[i]?=some p->en.key=p.1/\DR ν nm w G en.val p.2):
    ∀x∈es.toList,∃(i:Nat)(p:Value×D),es[i]?=some x/\l[i]?=some p/\x.key=p.1/\MapKept.IsKey d x.key:=λx hx=>by
 obtain⟨i,hi⟩:=iS.1 hx;have hi':es[i]?=some x:=by simpa using hi
 have hlt:i<l.length:=by rw[<-hl];exact(mP.1 hi').1
 have hp:l[i]?=some l[i]:=dC hlt;have h1:=(h i x _ hi' hp).1;exact⟨i,_,hi',hp,h1,by rw[h1];exact hks _ (List.getElem_mem hlt)⟩
theorem a0w{es:Array MapEntry}{clock:Nat}(h:ZZ es clock)(k v:Value):ZZ (es.push { key:=k,val:=v,born:=clock }) (clock+1):=by
 refine⟨λx hx=>?_,?_⟩
 .simp at hx
  rcases hx with hx|rfl
  .have:=h.1 x (by simpa using hx);omega
  .exact Nat.lt_succ_self _
 .simp only[Array.toList_push,List.map_append,List.map_cons,List.map_nil]
  rw[List.nodup_append];refine⟨h.2,by simp,λa ha b hb e=>?_⟩;obtain⟨x,hx,rfl⟩:=List.mem_map.1 ha;have:=h.1 x hx;rw[nH.1 hb]at e;omega
theorem a2n{t kt et:TypeId}{d:TypeDesc}{x y z:Operand}{q:Nat}{l:List (Value×D)}{kv:Value}{dv:D}(hu:P.underlying t=some (.map kt et))(hd':P.underlying kt=some d)(ho:o.op = .insert t x y z)(hx:σ.ev x=some (.own q))(hq:σ.H q=some (.mp l))
    (hy:σ.ev y=some (.t (.v kv))) (hk:MapKept.IsKey d kv) (hks:∀p∈l,MapKept.IsKey d p.1) (hnew:∀p∈l,p.1≠kv) (hz:σ.ev z=some dv):aW P o σ fr (.aS []) [(q,some (.mp (l++[(kv,dv)])))]:=by
 intro E σ₁ a w hT hH h100 hf hd ⟨ν,G,I⟩ Q;obtain⟨hvx,hnq⟩:=uO (I.ev (St.dE hT hx));have hvy:=bY (I.ev (St.dE hT hy));have hvz:=I.ev (St.dE hT hz);have hob:=(I.H q _ (hH q _ hq)).2;obtain⟨g,es,clock,h1,h2,h3,h4,hs,h5,h6⟩:=id hob;have hkeys:=Xz hks h5 h6;have hnone:Instr.findNow d kv es.toList 0=some none:=aIq hk (λx hx=>let⟨_,_,_,_,_,h⟩:=hkeys x hx;h) λx hx=>by
  obtain⟨i,p,_,e2,e3,_⟩:=hkeys x hx;rw[e3];exact hnew p (iM e2)
 obtain⟨w',hw'⟩:∃w':World,{ w with heap:=w.heap.setIfInBounds g (.map (es.push { key:=kv,val:=a.eval z,born:=clock }) (clock+1)) }=w':=⟨_,rfl⟩
 unfold Oper.wp;have he:(execOp a.eval o).run P w = .ok .skip w':=by
  unfold execOp;rw[ho];simp[hvx,h1,hvy,Instr.mapUpdate,run_underlying hu,MapKept.run_getObj_map h3,MapKept.run_checkKey hd' hk,MapKept.run_findKey hd' hnone,MapKept.run_setObj_map _ h3,Result.andThen,hw']
 rw[he,Oper.upon_skip];have hnew':w'.heap[g]?=some (.map (es.push { key:=kv,val:=a.eval z,born:=clock }) (clock+1)):=by rw[<-hw'];exact(MapKept.heap_set h3).1
 have hold:∀b,b≠g->w'.heap[b]?=w.heap[b]?:=λb hb=>by rw[<-hw'];exact(MapKept.heap_set h3).2 b hb
 have hsz:w'.heap.size=w.heap.size:=by rw[<-hw'];simp
 have hos:w'.os=w.os/\w'.tape=w.tape/\w'.output=w.output:=by rw[<-hw'];exact⟨rfl,rfl,rfl⟩
 have hgq:aU (ν q)=some g:=by rw[h1];rfl
 have hcell:∀b i u,Cell w G b i u->Cell w' G b i u:=λb i u h=>by
  have hne:b≠g:=λe=>by have:=h.2;rw[e,h4]at this;omega
  exact⟨(World.cell?_of_block (a:=⟨b,i,none⟩) (hold b hne)).trans h.1,h.2⟩
 have hnm:∀j,σ₁.nm j=true->(σ₁.aP o.dst (.aS []) [(q,some (.mp (l++[(kv,dv)])))] fr).nm j=true/\ν j=ν j:=λj hj=>⟨by simp[St.aP,hj],rfl⟩
 have hft:∀j oj,σ₁.H j=some oj->j≠q->∀g',bO w' (ν j) oj g' ↔ bO w (ν j) oj g':=λm om hm hne g'=>uT λb hb=>hold b λe=>by
  subst e;exact I.cW m om q _ hm (hH q _ hq) hne b (eK hb) (eK hgq)
 refine⟨put_defers ..,ν,G,⟨hos.1.trans I.kept.os,hos.2.1.trans I.kept.tape,hos.2.2.trans I.kept.output,by rw[hsz];exact I.kept.size,λb hb hX=>?_⟩,λb i u h=>hcell b i u (I.eJ b i u h),I.fJ,I.g0,?_,λt' d' h=>?_,λm om h=>?_,λj1 o1 j2 o2 h1' h2' hne=>?_⟩
 .refine(hold b (λe=>?_)).trans (I.kept.block b hb hX)
  subst e;rcases h2 with h|h
  .omega
  .exact hX h
 .cases o.dst <;> simp[Act.put,I.sz]
 .simp only[St.aP]at h
  split at h
  .rename_i he'
   cases h;have:=hd t' he';exact⟨undef,by simp[he',Act.put,I.sz,this],Hv⟩
  .rename_i he'
   obtain⟨u,hu,hdu⟩:=I.T t' d' h;refine⟨u,?_,hdu.mono hnm hcell⟩;cases hds:o.dst with
   |none=>simpa[Act.put]using hu
   |some t''=>
     have hne:t''≠t':=λe=>he' (by rw[hds,e])
     simp only[Act.put];rw[tJ hne];exact hu
 .by_cases hm:m=q
  .subst hm
   simp[St.aP,look]at h;subst h;refine⟨(hnm m hnq).1,g,_,_,h1,h2,hnew',h4,a0w hs _ _,by simp[h5],λi en p he hp=>?_⟩;by_cases hi:i<l.length
   .rw[Array.getElem?_push_lt (by omega)]at he
    rw[dV hi]at hp;obtain⟨a1,a2⟩:=h6 i en p (by rw[kL (by omega)];exact he) hp;exact⟨a1,a2.mono hnm hcell⟩
   .have hi':i=l.length:=by have:=(bZ.1 hp).1;simp at this;omega
    subst hi';rw[<-h5,Array.getElem?_push_size]at he;simp at hp he;subst hp he;exact⟨rfl,hvz.mono hnm hcell⟩
  .have h':σ₁.H m=some om:=by simpa[St.aP,look,eN hm]using h
   obtain⟨e1,e2⟩:=I.H m om h';refine⟨(hnm m e1).1,e2.mono e1 hnm hcell (λg' hg'=>⟨hold g' (λe=>?_),rfl⟩)⟩;subst e;exact I.cW m om q _ h' (hH q _ hq) hm g' hg' (eK hgq)
 .have back:∀j oj,(σ₁.aP o.dst (.aS []) [(q,some (.mp (l++[(kv,dv)])))] fr).H j=some oj->∃oj',σ₁.H j=some oj'/\∀g',bO w' (ν j) oj g'->bO w (ν j) oj' g':=λm om h=>by
   by_cases hm:m=q
   .subst hm
    simp[St.aP,look]at h;subst h;exact⟨_,hH m _ hq,λg' hg'=>hg'⟩
   .have h':σ₁.H m=some om:=by simpa[St.aP,look,eN hm]using h
    exact⟨om,h',λg' hg'=>(hft m om h' hm g').1 hg'⟩
  obtain⟨o1',e1,f1⟩:=back j1 o1 h1';obtain⟨o2',e2,f2⟩:=back j2 o2 h2';exact λg' hg1 hg2=>I.cW j1 o1' j2 o2' e1 e2 hne g' (f1 g' hg1) (f2 g' hg2)
def Ms(ok:Bool)(d:D)(b:Bool):D:=if ok then .aS [d,.t (.v (.bool b))]else d
theorem aHh{ν:Nat->Value}{nm:Nat->Bool}{w:World}{G:bV}{v:Value}{d:D}{ok b:Bool}(h:DR ν nm w G v d):DR ν nm w G (if ok then .tuple #[v,.bool b]else v) (Ms ok d b):=by
 cases ok with
 |false=>exact h
 |true=>exact aGV h (.t (.v _ rfl))
theorem a2t{t kt et:TypeId}{d:TypeDesc}{x y:Operand}{ok:Bool}{q j:Nat}{l:List (Value×D)}{kv:Value}{dv:D}(hu:P.underlying t=some (.map kt et))(hd':P.underlying kt=some d)(ho:o.op = .lookup t x y ok)(hx:σ.ev x=some (.own q))(hq:σ.H q=some (.mp l))
    (hy:σ.ev y=some (.t (.v kv))) (hk:MapKept.IsKey d kv) (hks:∀p∈l,MapKept.IsKey d p.1) (hj:l[j]?=some (kv,dv)) (hb:∀(m:Nat)(p:Value×D),m<j->l[m]?=some p->p.1≠kv):aW P o σ fr (Ms ok dv true) []:=
 dM λE σ₁ ν G w a hH I hev=>by
  obtain⟨hvx,hnq⟩:=uO (hev x _ hx);have hvy:=bY (hev y _ hy);obtain⟨g,es,clock,h1,h2,h3,h4,_,h5,h6⟩:=(I.H q _ (hH q _ hq)).2;have hkeys:=Xz hks h5 h6;have hjl:j<es.size:=by rw[h5];exact(bZ.1 hj).1
  have hej:es[j]?=some es[j]:=kL hjl;obtain⟨e1,e2⟩:=h6 j _ _ hej hj;have hf:=aIr hk es.toList 0 j es[j] (λx hx=>let⟨_,_,_,_,_,h⟩:=hkeys x hx;h) (by simp) e1 (λm e' hm he'=>by
   have he'':es[m]?=some e':=by simpa using he'
   have hml:m<l.length:=by rw[<-h5];exact(mP.1 he'').1
   rw[(h6 m e' _ he'' (dC hml)).1];exact hb m _ hm (dC hml))
  refine⟨_,?_,aHh e2⟩;unfold execOp;rw[ho];cases ok <;> simp[hvx,h1,hvy,Instr.lookup,run_underlying hu,MapKept.run_getObj_map h3,MapKept.run_checkKey hd' hk,MapKept.run_findKey hd' hf,Result.andThen]
theorem a2s{t kt et:TypeId}{d:TypeDesc}{x y:Operand}{ok:Bool}{q:Nat}{l:List (Value×D)}{kv z:Value}(hu:P.underlying t=some (.map kt et))(hd':P.underlying kt=some d)(ho:o.op = .lookup t x y ok)(hx:σ.ev x=some (.own q))(hq:σ.H q=some (.mp l))
    (hy:σ.ev y=some (.t (.v kv))) (hk:MapKept.IsKey d kv) (hks:∀p∈l,MapKept.IsKey d p.1) (hb:∀p∈l,p.1≠kv) (hz:(P.info? et).bind (·.zero)=some z) (hz1:rI z=true):aW P o σ fr (Ms ok (oO z) false) []:=
 dM λE σ₁ ν G w a hH I hev=>by
  obtain⟨hvx,hnq⟩:=uO (hev x _ hx);have hvy:=bY (hev y _ hy);obtain⟨g,es,clock,h1,h2,h3,h4,_,h5,h6⟩:=(I.H q _ (hH q _ hq)).2;have hkeys:=Xz hks h5 h6;have hnone:Instr.findNow d kv es.toList 0=some none:=aIq hk (λx hx=>let⟨_,_,_,_,_,h⟩:=hkeys x hx;h) λx hx=>by
   obtain⟨i,p,_,e2,e3,_⟩:=hkeys x hx;rw[e3];exact hb p (iM e2)
  obtain⟨i,hi,hz'⟩:=wP.1 hz;refine⟨_,?_,aHh (Mt hz1)⟩;unfold execOp;rw[ho];cases ok <;> simp[hvx,h1,hvy,Instr.lookup,run_underlying hu,MapKept.run_getObj_map h3,MapKept.run_checkKey hd' hk,MapKept.run_findKey hd' hnone,Result.andThen,zeroValue,typeInfo,hi,hz']
theorem a29{t e:TypeId}{x:Operand}{n s:Nat}{ts:List Tree}(hu:P.underlying t=some (.array n e))(hs:(P.info? e).map (·.size)=some s)(ho:o.op = .slice t x none none none)(hx:σ.ev x=some (.ptr ts 0)):aW P o σ fr (.t (.sl n ts)) []:=
 dM λE σ₁ ν G w a hH I hev=>by
  obtain⟨b,q,us,hv,hl,hcu,htr⟩:=Di (hev x _ hx);obtain⟨inf,hinf,hsz⟩:=cO.1 hs;refine⟨.slice (some ⟨b,q,none⟩) n n,?_,.t (.sl b q n n us ts hl hcu (cE _) htr)⟩;unfold execOp;rw[ho];simp[hv,Instr.sliceAt,run_underlying hu,Instr.sureAddr,Instr.sliceBounds,sizeOf,typeInfo,hinf,Addr.add_mid]
end
theorem a6i{E:Env}{T:Nat->Option D}{H:Nat->Option aO}{N:Nat}(t k:Nat){e:TypeId}{ds:List D}{ts:List Tree}(ht:T t=some (.ref k 0))(hk:H k=some (.box e ds))(hl:ds.length=ts.length)
    (hw:∀(i:Nat)(tr:Tree),ts[i]?=some tr->∃d,ds[i]?=some d/\cJ H d (.t tr)):dS E (mk T H N) (mk (λx=>if t=x then some (.ptr ts 0)else T x) (λj=>if k=j then none else H j) N):=by
 refine uW λa w ⟨ν,G,I⟩=>?_
 obtain⟨hn,g,cur,h1,h2,h3,h4,h5,h6⟩:=I.H k _ hk;have hg:aU (ν k)=some g:=by rw[h1];rfl
 let G':bV:=λb=>if b=g then ts.length else G b
 have hcell:∀b i u,Cell w G b i u->Cell w G' b i u:=λb i u h=>by
  have hne:b≠g:=λe=>by have:=h.2;rw[e,h4]at this;omega
  exact⟨h.1,by show i<if b=g then _ else _;rw[aE hne];exact h.2⟩
 refine⟨ν,G',I.kept,λb i u h=>hcell b i u (I.eJ b i u h),I.fJ,λb hb hX=>?_,I.sz,λt' d h=>?_,λj oj h=>?_,λj1 o1 j2 o2 e1 e2 hne=>?_⟩
 .have hne:b≠g:=λe=>by
   subst e;rcases h2 with h|h
   .omega
   .exact hX h
  show(if b=g then _ else _)=_;rw[aE hne];exact I.g0 b hb hX
 .by_cases htt:t=t'
  .subst htt
   simp only[iO,iR]at h;subst h;obtain⟨v,hv,hd⟩:=I.T t _ ht;obtain⟨g',hg',hv',_⟩:=mZ hd;rw[hg]at hg';cases hg';refine⟨v,hv,?_⟩;rw[hv'];have:=DR.ptr (ν:=ν) (nm:=(mk T H N).nm) (w:=w) (G:=G') (b:=g) (o:=0) (off:=0) (us:=cur.toList) (ts:=ts) (by rw[nJ,h5,hl]) (λi u hu=>?_) (λi u tr hu htr=>?_)
   .simpa using this
   .have hu':cur[i]?=some u:=by simpa using hu
    have hi:i<ts.length:=by rw[<-hl,<-h5];exact(mP.1 hu').1
    exact⟨by rw[eC,BZ h3];exact hu',by show _<if g=g then _ else _;rw[aI rfl];omega⟩
   .have hu':cur[i]?=some u:=by simpa using hu
    obtain⟨d,hd,hwk⟩:=hw i tr htr;have:=hwk E _ ν G w a.tmps (λ_ _ h=>h) I u (h6 i u d hu' hd).1;cases this with|t h=>exact h.mono hcell
  .simp only[aE htt]at h
   obtain⟨v,hv,hd⟩:=I.T t' d h;exact⟨v,hv,hd.mono (λ_ h=>⟨h,rfl⟩) hcell⟩
 .by_cases hj:k=j
  .simp[aI hj]at h
  .simp only[aE hj]at h
   obtain⟨q1,q2⟩:=I.H j oj h;refine⟨q1,q2.mono q1 (λ_ h=>⟨h,rfl⟩) hcell (λg' hg'=>⟨rfl,aE (λe=>?_)⟩)⟩;subst e;exact I.cW j oj k _ h hk (λe=>hj e.symm) g' hg' (eK hg)
 .have back:∀j oj,(if k=j then none else H j)=some oj->H j=some oj:=λj oj h=>by
   by_cases hj:k=j
   .rw[aI hj]at h;cases h
   .rw[aE hj]at h;exact h
  exact I.cW j1 o1 j2 o2 (back j1 o1 e1) (back j2 o2 e2) hne
end Go.Ab
/- The abstract machine: rows whose elements hold rows of the walk's own. -/
namespace Go.Ab
open Go.RowKit
section
variable{P:Program}{o:Oper}{σ:St}{fr:Nat}
theorem a3O{t:TypeId}{x y:Operand}{q:Nat}{e e':TypeId}{m s n:Nat}{cs:List NC}{k:IntKind}{j:Int}(hs:uX P t=some m)(ho:o.op = .indexAddr t x y)(hx:σ.ev x=some (.own q))(hq:σ.H q=some (.bC e e' m s n cs))(hy:σ.ev y=some (.t (.v (.int k j))))(h0:0<=j)(hn:j<n):
    aW P o σ fr (.ref q (j.toNat*m)) []:=
 dM λE σ₁ ν G w a hH I hev=>by
  have hv:=hev x _ hx;have hj:=bY (hev y _ hy);obtain⟨v,he⟩:∃v,a.eval x=v:=⟨_,rfl⟩
  rw[he]at hv;cases hv with
  |own hk h1=>
    obtain⟨xs,r1,_⟩:=(I.H q _ (hH q _ hq)).2;rcases r1.2 with⟨_,hz⟩|⟨g,cap,cur,hvv,_⟩
    .omega
    .refine⟨.pointer (some ⟨g,j.toNat*m,none⟩),?_,.ref hk (by rw[hvv];rfl)⟩
     unfold execOp;rw[ho];have:=IK hs w g 0 n cap k j h0 hn;rw[eC]at this;simp[he,hj,hvv,this]
theorem a3F{t:TypeId}{x:Operand}{q:Nat}{e e':TypeId}{m s n:Nat}{cs:List NC}{tys:Array TypeId}{el:TypeId}(hu:P.underlying t=some (.slice el))(ho:o.op = .call { callee:=.builtin .len,args:=#[x],argTypes:=tys })(hty:tys = #[t])(hx:σ.ev x=some (.own q))(hq:σ.H q=some (.bC e e' m s n cs)):aW P o σ fr (I n) []:=by
 intro E σ₁ a w hT hH h100 hf hd ⟨ν,G,I⟩ Q;have hv:=I.ev (St.dE hT hx);obtain⟨v,he⟩:∃v,a.eval x=v:=⟨_,rfl⟩
 rw[he]at hv;cases hv with
 |own hk h1=>
   obtain⟨xs,r1,_⟩:=(I.H q _ (hH q _ hq)).2;obtain⟨ax,c,hvv⟩:∃ax c,ν q = .slice ax n c:=by
    rcases r1.2 with⟨hz,h0⟩|⟨g,cap,cur,hz,_⟩
    .exact⟨_,_,by rw[hz,h0]⟩
    .exact⟨_,_,hz⟩
   subst hty;unfold Oper.wp;have he':(execOp a.eval o).run P w = .ok (.value (.int .i64 n)) w:=by
    unfold execOp;rw[ho];simp[resolve,invoke,builtin,he,hvv,Builtin.len_,run_underlying hu,goInt]
   rw[he',Oper.upon_value];exact⟨put_defers ..,ν,G,I.put (.t (.v _ rfl)) hd fr a rfl⟩
end
def NC.xP:NC->Option Tree
 |.fK (.t t)=>some t
 |.cX q ts=>some (.sl q ts)
 |_=>none
theorem a6c{E:Env}{T:Nat->Option D}{H:Nat->Option aO}{N:Nat}(k:Nat){e e':TypeId}{m s n:Nat}{cs:List NC}{ts:List Tree}(hk:H k=some (.bC e e' m s n cs))(hts:cs.map NC.xP=ts.map some):
    dS E (mk T H N) (mk T (λj=>if k=j then some (.row e m n ts false)else H j) N):=by
 refine uW λa w ⟨ν,G,I⟩=>?_
 obtain⟨hn,hob⟩:=I.H k _ hk;obtain⟨xs,r1,hxl,rd,r2,r3,r4,r5⟩:=id hob;have hlt:cs.length=ts.length:=by have:=aR List.length hts;simpa using this
 let G':bV:=λb=>open Classical in if h:∃(i:Nat)(x:Value)(p:Nat×List Tree),xs[i]?=some x/\cs[i]?=some (.cX p.1 p.2)/\aU x=some b then(h.choose_spec.choose_spec.choose).1*s else G b
 have hG1:∀(i:Nat)(x:Value)(p:Nat×List Tree)(b:Nat),xs[i]?=some x->cs[i]?=some (.cX p.1 p.2)->aU x=some b->G' b=p.1*s:=λi x p b hx hp hb=>by
  have h:∃(i:Nat)(x:Value)(p:Nat×List Tree),xs[i]?=some x/\cs[i]?=some (.cX p.1 p.2)/\aU x=some b:=⟨i,x,p,hx,hp,hb⟩
  obtain⟨q1,q2,q3⟩:=h.choose_spec.choose_spec.choose_spec;have:h.choose=i:=by
   by_cases e:h.choose=i
   .exact e
   .exact absurd hb (r3 _ _ _ _ _ _ _ _ e q1 hx q2 hp b q3)
  simp only[G',dif_pos h];have q2':cs[i]?=some (.cX h.choose_spec.choose_spec.choose.1 h.choose_spec.choose_spec.choose.2):=by rw[<-this];exact q2
  rw[hp]at q2';have:=gZ q2';simp only[NC.cX.injEq]at this;rw[<-this.1]
 have hG0:∀b,(∀(i:Nat)(x:Value)(p:Nat×List Tree),xs[i]?=some x->cs[i]?=some (.cX p.1 p.2)->aU x≠some b)->G' b=G b:=λb hb=>by
  simp only[G'];rw[dif_neg];rintro⟨i,x,p,h1,h2,h3⟩;exact hb i x p h1 h2 h3
 have hin:∀(i:Nat)(x:Value)(p:Nat×List Tree)(b:Nat),xs[i]?=some x->cs[i]?=some (.cX p.1 p.2)->aU x=some b->bO w (ν k) (.bC e e' m s n cs) b:=λi x p b hx hp hb=>by
  have hi:=(bZ.1 hx).1;rcases r1.2 with⟨_,h0⟩|⟨g0,cap,cur,hv,_⟩
  .rw[r1.1,h0]at hi;omega
  .exact .inr ⟨g0,i,x,p.1,p.2,by rw[hv];rfl,hp,by rw[mY r1 (by rw[hv];rfl) hi];exact hx,hb⟩
 have hcell:∀b i u,Cell w G b i u->Cell w G' b i u:=λb i u hc=>by
  refine⟨hc.1,?_⟩;by_cases hb:∃(i:Nat)(x:Value)(p:Nat×List Tree),xs[i]?=some x/\cs[i]?=some (.cX p.1 p.2)/\aU x=some b
  .obtain⟨j,x,p,h1,h2,h3⟩:=hb
   obtain⟨_,_,_,_,y4⟩:=r2 j x p.1 p.2 h1 h2;have:=hc.2;rw[(y4 b h3).2]at this;omega
  .rw[hG0 b (λj x p h1 h2 h3=>hb ⟨j,x,p,h1,h2,h3⟩)];exact hc.2
 refine⟨ν,G',I.kept,λb i u hc=>hcell b i u (I.eJ b i u hc),I.fJ,λb hb hX=>?_,I.sz,λt d ht=>?_,λj o hj=>?_,λj1 o1 j2 o2 h1 h2 hne=>?_⟩
 .rw[hG0 b (λj x p h1 h2 h3=>?_)]
  .exact I.g0 b hb hX
  .rcases(hob.ft (hin j x p b h1 h2 h3)).2 with h|h
   .omega
   .exact hX h
 .obtain⟨v,hv,hdv⟩:=I.T t d ht
  exact⟨v,hv,hdv.mono (λ_ h=>⟨h,rfl⟩) hcell⟩
 .by_cases hjk:k=j
  .subst hjk
   simp only[iO,iR]at hj;subst hj;refine⟨hn,xs,r1,by rw[hxl,hlt],λi u t hu ht=>?_,λg hg=>⟨(r5 g hg).1,?_⟩⟩
   .have hi:i<cs.length:=by rw[hlt];exact(bZ.1 ht).1
    have hc:cs[i]?=some cs[i]:=dC hi;have h1:(cs.map NC.xP)[i]?=(ts.map some)[i]?:=by rw[hts]
    rw[cZ,cZ,hc,ht]at h1;have h1:NC.xP cs[i]=some t:=gZ h1;generalize cs[i]=c at hc h1;cases c with
    |fK d=>
      cases d with
      |t t'=>
        cases h1;cases(rd i u _ hu hc).1 with
        |t h=>exact h.mono hcell
      |_=>cases h1
    |cX q l=>
      cases h1;obtain⟨ys,y1,y2,y3,y4⟩:=r2 i u q l hu hc;exact aJy y1 y2 hcell y3 λg hg=>by rw[hG1 i u (q,l) g hu hc hg];exact cE _
   .rw[hG0 g (λj x p h1 h2 h3=>r4 j x p.1 p.2 h1 h2 g h3 hg),(r5 g hg).2]
    simp
  .simp only[aE hjk]at hj
   obtain⟨q1,q2⟩:=I.H j o hj;refine⟨q1,q2.mono q1 (λ_ h=>⟨h,rfl⟩) hcell (λg hg=>⟨rfl,hG0 g (λi x p h1 h2 h3=>?_)⟩)⟩;exact I.cW j o k _ hj hk (λe=>hjk e.symm) g hg (hin i x p g h1 h2 h3)
 .have back:∀j o,(if k=j then some (.row e m n ts false)else H j)=some o->∃o',H j=some o'/\∀g,bO w (ν j) o g->bO w (ν j) o' g:=λj o h=>by
   by_cases hj:k=j
   .subst hj;simp only[iO,iR]at h;subst h;exact⟨_,hk,λ_ h=>.inl h⟩
   .rw[aE hj]at h;exact⟨o,h,λ_ h=>h⟩
  obtain⟨p1,hp1,f1⟩:=back j1 o1 h1;obtain⟨p2,hp2,f2⟩:=back j2 o2 h2;exact λg hg hg'=>I.cW j1 p1 j2 p2 hp1 hp2 hne g (f1 g hg) (f2 g hg')
end Go.Ab
/- The abstract machine: an inner row is lent out under a name of its own. -/
namespace Go.Ab
open Go.RowKit
theorem a6h{E:Env}{T:Nat->Option D}{H:Nat->Option aO}{N:Nat}(k i:Nat){e e':TypeId}{m s n q:Nat}{cs:List NC}{ts:List Tree}(hk:H k=some (.bC e e' m s n cs))(hi:cs[i]?=some (.cX q ts))(hN:100<=N):
    dS E (mk T H N) (mk T (λj=>if N=j then some (.row e' s q ts false)else if k=j then some (.bC e e' m s n (cs.set i (.fK (.own N))))else H j) (N+8)):=by
 refine uW λa w ⟨ν,G,I⟩=>?_
 obtain⟨hn,hob⟩:=I.H k _ hk;obtain⟨xs,r1,hxl,rd,r2,r3,r4,r5⟩:=id hob;have hil:i<cs.length:=(bZ.1 hi).1;obtain⟨x,hx⟩:∃x,xs[i]?=some x:=⟨_,dC (by rw[hxl];exact hil)⟩
 obtain⟨ys,y1,y2,y3,y4⟩:=r2 i x q ts hx hi;have hlt:∀j,(mk T H N).nm j=true->j<N:=λj h=>by simpa[mk]using h
 have hnm:∀j,(mk T H N).nm j=true->decide (j<N+8)=true/\cD ν N x j=ν j:=λj h=>⟨by have:=hlt j h;simp;omega,by have:=hlt j h;unfold cD;rw[aE (by omega)]⟩
 have hkN:k<N:=hlt k hn;have hνN:cD ν N x N=x:=cB;have hνk:cD ν N x k=ν k:=(hnm k hn).2;have hinn:∀g,aU x=some g->bO w (ν k) (.bC e e' m s n cs) g:=λg hg=>by
  rcases r1.2 with⟨_,h0⟩|⟨g0,cap,cur,hv,_⟩
  .rw[<-hxl,r1.1,h0]at hil;omega
  .exact .inr ⟨g0,i,x,q,ts,by rw[hv];rfl,hi,by rw[mY r1 (by rw[hv];rfl) (by rw[hxl];exact hil)];exact hx,hg⟩
 have hset:∀(j q':Nat)(ts':List Tree),(cs.set i (.fK (.own N)))[j]?=some (.cX q' ts')->j≠i/\cs[j]?=some (.cX q' ts'):=λj q' ts' h=>by
  by_cases hj:i=j
  .subst hj
   rw[pO hil]at h;cases h
  .rw[qP hj]at h
   exact⟨λe=>hj e.symm,h⟩
 have hfk:∀g,bO w (ν k) (.bC e e' m s n (cs.set i (.fK (.own N)))) g->bO w (ν k) (.bC e e' m s n cs) g/\aU x≠some g:=λg hg=>by
  rcases hg with hg|⟨g0,j,z,q',ts',h1,h2,h3,h4⟩
  .exact⟨.inl hg,λe=>r4 i x q ts hx hi g e hg⟩
  .obtain⟨hj,hc⟩:=hset j q' ts' h2
   refine⟨.inr ⟨g0,j,z,q',ts',h1,hc,h3,h4⟩,λe=>?_⟩;have hz:xs[j]?=some z:=by rw[<-mY r1 h1 (by rw[hxl];exact(bZ.1 hc).1)];exact h3
   exact r3 j i z x q' q ts' ts hj hz hx hc hi g h4 e
 have hG:∀g,aU x=some g->E.may g/\G g=0:=y4
 refine⟨cD ν N x,G,I.kept,I.eJ,λj h1 h2=>by unfold cD;rw[aE (by omega)];exact I.fJ j h1 h2,I.g0,I.sz,λt d ht=>?_,λj o hj=>?_,λj1 o1 j2 o2 h1 h2 hne=>?_⟩
 .obtain⟨v,hv,hdv⟩:=I.T t d ht
  exact⟨v,hv,hdv.mono hnm (λ_ _ _ h=>h)⟩
 .simp only at hj
  by_cases hjN:N=j
  .subst hjN
   rw[aI rfl]at hj;cases hj;refine⟨by simp,ys,by rw[hνN];exact y1,y2,y3,λg hg=>?_⟩;rw[hνN]at hg;simpa using hG g hg
  .rw[aE hjN]at hj
   by_cases hjk:k=j
   .subst hjk
    rw[aI rfl]at hj;cases hj;refine⟨(hnm k hn).1,xs,by rw[hνk];exact r1,by rw[nI];exact hxl,λp z d hz hc=>?_,λp z q' ts' hz hc=>r2 p z q' ts' hz (hset p q' ts' hc).2,λp p' z z' q1 q2 t1 t2 hp hz hz' hc hc'=>r3 p p' z z' q1 q2 t1 t2 hp hz hz' (hset p q1 t1 hc).2 (hset p' q2 t2 hc').2,λp z q' ts' hz hc g hg=>by rw[hνk];exact r4 p z q' ts' hz (hset p q' ts' hc).2 g hg,λg hg=>by rw[hνk]at hg;exact r5 g hg⟩;by_cases hp:i=p
    .subst hp
     rw[pO hil]at hc;cases hc;rw[hx]at hz;cases hz;have:DR (cD ν N x) (mk T (λj=>if N=j then some (.row e' s q ts false)else if k=j then some (.bC e e' m s n (cs.set i (.fK (.own N))))else H j) (N+8)).nm w G (cD ν N x N) (.own N):=.own (by simp) (by rw[hνN];exact pF y1);rw[hνN]at this;exact⟨this,pF y1⟩
    .rw[qP hp]at hc
     exact⟨(rd p z d hz hc).1.mono hnm (λ_ _ _ h=>h),(rd p z d hz hc).2⟩
   .rw[aE hjk]at hj
    obtain⟨q1,q2⟩:=I.H j o hj;exact⟨(hnm j q1).1,q2.mono q1 hnm (λ_ _ _ h=>h) (λ_ _=>⟨rfl,rfl⟩)⟩
 .have back:∀j o,(if N=j then some (.row e' s q ts false)else if k=j then some (.bC e e' m s n (cs.set i (.fK (.own N))))else H j)=some o->(j=N/\∀g,bO w (cD ν N x j) o g->aU x=some g)\/(j≠N/\∃o',H j=some o'/\∀g,bO w (cD ν N x j) o g->bO w (ν j) o' g/\aU x≠some g):=λj o h=>by
   by_cases hjN:N=j
   .subst hjN
    rw[aI rfl]at h;cases h;exact .inl ⟨rfl,λg hg=>by rw[hνN]at hg;exact hg⟩
   .rw[aE hjN]at h
    refine .inr ⟨λe=>hjN e.symm,?_⟩;by_cases hjk:k=j
    .subst hjk
     rw[aI rfl]at h;cases h;exact⟨_,hk,λg hg=>by rw[hνk]at hg;exact hfk g hg⟩
    .rw[aE hjk]at h
     have hj1:=(I.H j o h).1;exact⟨o,h,λg hg=>by
      rw[(hnm j hj1).2]at hg;exact⟨hg,λe=>I.cW j o k _ h hk (λe=>hjk e.symm) g hg (hinn g e)⟩⟩
  rcases back j1 o1 h1 with⟨e1,f1⟩|⟨e1,p1,hp1,f1⟩ <;> rcases back j2 o2 h2 with⟨e2,f2⟩|⟨e2,p2,hp2,f2⟩
  .exact absurd (e1.trans e2.symm) hne
  .exact λg hg hg'=>(f2 g hg').2 (f1 g hg)
  .exact λg hg hg'=>(f1 g hg).2 (f2 g hg')
  .exact λg hg hg'=>I.cW j1 p1 j2 p2 hp1 hp2 hne g (f1 g hg).1 (f2 g hg').1
theorem a6l{E:Env}{T:Nat->Option D}{H:Nat->Option aO}{N:Nat}(k i f:Nat){e e':TypeId}{m s n q:Nat}{cs:List NC}{ts:List Tree}(hk:H k=some (.bC e e' m s n cs))(hi:cs[i]?=some (.fK (.own f)))(hf:H f=some (.row e' s q ts false)):
    dS E (mk T H N) (mk T (λj=>if f=j then none else if k=j then some (.bC e e' m s n (cs.set i (.cX q ts)))else H j) N):=by
 refine uW λa w ⟨ν,G,I⟩=>?_
 obtain⟨hn,hob⟩:=I.H k _ hk;obtain⟨xs,r1,hxl,rd,r2,r3,r4,r5⟩:=id hob;obtain⟨_,ys,y1,y2,y3,y4⟩:=I.H f _ hf;have hfk:f≠k:=λe=>by rw[e,hk]at hf;cases hf
 have hil:i<cs.length:=(bZ.1 hi).1;obtain⟨x,hx⟩:∃x,xs[i]?=some x:=⟨_,dC (by rw[hxl];exact hil)⟩
 have hxf:x=ν f:=by cases(rd i x _ hx hi).1 with|own _ _=>rfl
 have hset:∀(j q':Nat)(ts':List Tree),(cs.set i (.cX q ts))[j]?=some (.cX q' ts')->(j=i/\q'=q/\ts'=ts)\/(j≠i/\cs[j]?=some (.cX q' ts')):=λj q' ts' h=>by
  by_cases hj:i=j
  .subst hj
   rw[pO hil]at h;cases h;exact .inl ⟨rfl,rfl,rfl⟩
  .rw[qP hj]at h
   exact .inr ⟨λe=>hj e.symm,h⟩
 have hft:∀(p:Nat)(z:Value)(q':Nat)(ts':List Tree),xs[p]?=some z->cs[p]?=some (.cX q' ts')->∀g,aU z=some g->aU (ν f)≠some g:=λp z q' ts' hz hc g hg hg'=>by
  refine I.cW k _ f _ hk hf (λe=>hfk e.symm) g ?_ hg';rcases r1.2 with⟨_,h0⟩|⟨g0,cap,cur,hv,_⟩
  .have:=(bZ.1 hz).1
   rw[r1.1,h0]at this;omega
  .exact .inr ⟨g0,p,z,q',ts',by rw[hv];rfl,hc,by rw[mY r1 (by rw[hv];rfl) (bZ.1 hz).1];exact hz,hg⟩
 refine⟨ν,G,I.kept,I.eJ,I.fJ,I.g0,I.sz,I.T,λj o hj=>?_,λj1 o1 j2 o2 h1 h2 hne=>?_⟩
 .simp only at hj
  by_cases hjf:f=j
  .rw[aI hjf]at hj;cases hj
  .rw[aE hjf]at hj
   by_cases hjk:k=j
   .subst hjk
    rw[aI rfl]at hj;cases hj;refine⟨hn,xs,r1,by rw[nI];exact hxl,λp z d hz hc=>?_,λp z q' ts' hz hc=>?_,λp p' z z' q1 q2 t1 t2 hp hz hz' hc hc' g hg hg'=>?_,λp z q' ts' hz hc g hg hg'=>?_,r5⟩
    .by_cases hp:i=p
     .subst hp;rw[pO hil]at hc;cases hc
     .rw[qP hp]at hc;exact rd p z d hz hc
    .rcases hset p q' ts' hc with⟨rfl,rfl,rfl⟩|⟨_,hc⟩
     .rw[hx]at hz
      cases hz;subst hxf;exact⟨ys,y1,y2,y3,λg hg=>by simpa using y4 g hg⟩
     .exact r2 p z q' ts' hz hc
    .rcases hset p q1 t1 hc with⟨rfl,rfl,rfl⟩|⟨_,hn1⟩ <;> rcases hset p' q2 t2 hc' with⟨rfl,rfl,rfl⟩|⟨_,hn2⟩
     .exact hp rfl
     .rw[hx]at hz;cases hz;rw[hxf]at hg;exact hft p' z' q2 t2 hz' hn2 g hg' hg
     .rw[hx]at hz';cases hz';rw[hxf]at hg';exact hft p z q1 t1 hz hn1 g hg hg'
     .exact r3 p p' z z' q1 q2 t1 t2 hp hz hz' hn1 hn2 g hg hg'
    .rcases hset p q' ts' hc with⟨rfl,rfl,rfl⟩|⟨_,hc⟩
     .rw[hx]at hz;cases hz;rw[hxf]at hg;exact I.cW k _ f _ hk hf (λe=>hfk e.symm) g (eK hg') hg
     .exact r4 p z q' ts' hz hc g hg hg'
   .rw[aE hjk]at hj
    exact I.H j o hj
 .have back:∀j o,(if f=j then none else if k=j then some (.bC e e' m s n (cs.set i (.cX q ts)))else H j)=some o->j≠f/\∃o',H j=some o'/\∀g,bO w (ν j) o g->bO w (ν j) o' g\/(j=k/\aU (ν f)=some g):=λj o h=>by
   by_cases hjf:f=j
   .rw[aI hjf]at h;cases h
   .rw[aE hjf]at h
    refine⟨λe=>hjf e.symm,?_⟩;by_cases hjk:k=j
    .subst hjk
     rw[aI rfl]at h;cases h;refine⟨_,hk,λg hg=>?_⟩;rcases hg with hg|⟨g0,p,z,q',ts',b1,b2,h3,h4⟩
     .exact .inl (.inl hg)
     .rcases hset p q' ts' b2 with⟨rfl,rfl,rfl⟩|⟨_,hc⟩
      .rw[mY r1 b1 (by rw[hxl];exact hil),hx]at h3
       cases h3;rw[hxf]at h4;exact .inr ⟨rfl,h4⟩
      .exact .inl (.inr ⟨g0,p,z,q',ts',b1,hc,h3,h4⟩)
    .rw[aE hjk]at h
     exact⟨o,h,λg hg=>.inl hg⟩
  obtain⟨n1,p1,hp1,f1⟩:=back j1 o1 h1;obtain⟨n2,p2,hp2,f2⟩:=back j2 o2 h2;intro g hg hg';rcases f1 g hg with g1|⟨e1,g1⟩ <;> rcases f2 g hg' with g2|⟨e2,g2⟩
  .exact I.cW j1 p1 j2 p2 hp1 hp2 hne g g1 g2
  .exact I.cW j1 p1 f _ hp1 hf n1 g g1 g2
  .exact I.cW j2 p2 f _ hp2 hf n2 g g2 g1
  .exact hne (e1.trans e2.symm)
end Go.Ab
/- The abstract machine: a cell of such a row is written over. -/
namespace Go.Ab
open Go.RowKit
theorem a2I{w:World}{e:TypeId}{s n:Nat}{v:Value}{xs:List Value}(h:w.ownsRow 0 e s v n xs){g off:Nat}(hg:aU v=some g)(ho:off<xs.length)(u:Value):
    w.there g off 1/\(w.setCells g off [u]).ownsRow 0 e s v n (xs.set off u):=by
 rcases h.2 with⟨rfl,_⟩|⟨g0,cap,cur,hvv,r1,r2,r3,r4,r5,r6⟩
 .cases hg
 .rw[hvv]at hg
  cases hg;have hxn:xs.length=n*s:=h.1;have hxl:xs.length<=cur.size:=by rw[<-r6];simp;omega
  have hget:∀j,j<n*s->cur[j]?=xs[j]?:=λj hj=>by rw[<-r6,fU,aI hj];simp
  refine⟨λj hj=>⟨?_,by simp[World.frozen?,r2]⟩,by rw[nI];exact h.1,.inr ⟨g0,cap,_,hvv,r1,MY [u] off w cur r2,r3,r4,by rw[IE];exact r5,?_⟩⟩
  .rw[BZ r2,kL (by omega)];rfl
  .apply Bg
   intro i;rw[fU,a9P];by_cases c0:i<n*s
   .rw[aI c0]
    have:(pA cur off [u]).toList[i]?=(pA cur off [u])[i]?:=by simp
    rw[this,IF _ _ _ _ (by simp;omega)];by_cases c1:i<off
    .rw[aI c1,aE (by omega),hget i c0]
    .rw[aE c1]
     by_cases c2:off=i
     .subst c2
      rw[aI (by simp),aI rfl,aI ho];simp
     .rw[aE (by simp;omega),aE c2,hget i c0]
   .rw[aE c0,aE (by omega),oC (by omega)]
section
variable{P:Program}{o:Oper}{σ:St}{fr:Nat}
theorem aHT{t:TypeId}{x y:Operand}{k off:Nat}{e e':TypeId}{m s n:Nat}{cs:List NC}{d:D}(hi:(P.info? t).map (·.size)=some 1)(ho:o.op = .store t x y)(hx:σ.ev x=some (.ref k off)){d0:D}(hy:σ.ev y=some d0)(hwk:cJ σ.H d0 d)(lC:∀ν nm w G v,DR ν nm w G v d->v.oneCell'=true)(hk:σ.H k=some (.bC e e' m s n cs))(hoff:off<cs.length):
    aW P o σ fr (.aS []) [(k,some (.bC e e' m s n (cs.set off (.fK d))))]:=by
 intro E σ₁ a w hT hH h100 hf hd ⟨ν,G,I⟩ Q;obtain⟨g1,hg,hvx,hkn⟩:=mZ (I.ev (St.dE hT hx));have hdy:=hwk _ _ _ _ _ _ hH I _ (I.ev (St.dE hT hy));obtain⟨v,hev⟩:∃v,a.eval y=v:=⟨_,rfl⟩
 rw[hev]at hdy;have hone:v.oneCell'=true:=lC _ _ _ _ _ hdy;have hob:=(I.H k _ (hH k _ hk)).2;obtain⟨xs,r1,hxl,rd,r2,r3,r4,r5⟩:=id hob;have hG0:G g1=0:=(r5 g1 hg).2;obtain⟨hthere,hrow⟩:=a2I r1 hg (by rw[hxl];exact hoff) v;have hcv:(a.eval y).cells = #[v]:=by rw[hev];exact JG hone
 have hr:(Instr.storeAt t (.pointer (some ⟨g1,off,none⟩)) (a.eval y)).run P w = .ok () (w.setCells g1 off (a.eval y).cells.toList):=
  M5 (by rw[hcv];simpa using hthere) (by rw[hi,hcv];rfl) (λu hu=>by rw[hcv]at hu;simp at hu;subst hu;exact hone)
 rw[hcv]at hr;obtain⟨s1,s2,s3,s4,s5⟩:=MX (g:=g1) [v] off w;obtain⟨w',hw'⟩:∃w',w.setCells g1 off [v]=w':=⟨_,rfl⟩
 rw[hw']at hr s1 s2 s3 s4 s5 hrow;have hcell:∀b i u,Cell w G b i u->Cell w' G b i u:=λb i u h=>by
  have hne:b≠g1:=λe=>by have:=h.2;rw[e,hG0]at this;omega
  exact⟨(World.cell?_of_block (a:=⟨b,i,none⟩) (s5 b hne)).trans h.1,h.2⟩
 have hmay:E.may g1:=(r5 g1 hg).1;have hft:∀j oj,σ₁.H j=some oj->j≠k->∀g',bO w' (ν j) oj g' ↔ bO w (ν j) oj g':=λm om hm hmk g'=>uT λb hb=>s5 b λe=>by
  subst e;exact I.cW m om k _ hm (hH k _ hk) hmk b (eK hb) (eK hg)
 have hset:∀(j q':Nat)(ts':List Tree),(cs.set off (.fK d))[j]?=some (.cX q' ts')->j≠off/\cs[j]?=some (.cX q' ts'):=λj q' ts' h=>by
  by_cases hj:off=j
  .subst hj
   rw[pO hoff]at h;cases h
  .rw[qP hj]at h
   exact⟨λe=>hj e.symm,h⟩
 have hxs:∀j z,j≠off->(xs.set off v)[j]?=some z->xs[j]?=some z:=λj z hj h=>by rw[qP (λe=>hj e.symm)]at h;exact h
 have hfk:∀g',bO w' (ν k) (.bC e e' m s n (cs.set off (.fK d))) g'->bO w (ν k) (.bC e e' m s n cs) g':=λg' hg'=>by
  rcases hg' with h|⟨g0,j,z,q',ts',b1,b2,b3,b4⟩
  .exact .inl h
  .obtain⟨hj,hc⟩:=hset j q' ts' b2
   have hjl:j<xs.length:=by rw[hxl];exact(bZ.1 hc).1
   rw[mY hrow b1 (by rw[nI];exact hjl)]at b3;exact .inr ⟨g0,j,z,q',ts',b1,hc,by rw[mY r1 b1 hjl];exact hxs j z hj b3,b4⟩
 unfold Oper.wp;have he:(execOp a.eval o).run P w = .ok .skip w':=by
  unfold execOp;rw[ho];simp only[hvx,Sem.run_bind,hr];rfl
 rw[he,Oper.upon_skip];obtain⟨ob',hob'⟩:∃ob',aO.bC e e' m s n (cs.set off (.fK d))=ob':=⟨_,rfl⟩
 have hnm:∀j,σ₁.nm j=true->(σ₁.aP o.dst (.aS []) [(k,some ob')] fr).nm j=true/\ν j=ν j:=λj hj=>⟨by simp[St.aP,hj],rfl⟩
 rw[hob'];refine⟨put_defers ..,ν,G,⟨s1.trans I.kept.os,s2.trans I.kept.tape,s3.trans I.kept.output,by rw[s4];exact I.kept.size,λb hb hX=>?_⟩,λb i u h=>hcell b i u (I.eJ b i u h),I.fJ,I.g0,?_,λt' d' h=>?_,λm' om h=>?_,λj1 o1 j2 o2 h1 h2 hne=>?_⟩
 .refine(s5 b (λe=>?_)).trans (I.kept.block b hb hX)
  subst e;rcases hmay with h|h
  .omega
  .exact hX h
 .cases o.dst <;> simp[Act.put,I.sz]
 .simp only[St.aP]at h
  split at h
  .rename_i he'
   cases h;have:=hd t' he';exact⟨undef,by simp[he',Act.put,I.sz,this],Hv⟩
  .rename_i he'
   obtain⟨u,hu,hdu⟩:=I.T t' d' h;refine⟨u,?_,hdu.mono hnm hcell⟩;cases hds:o.dst with
   |none=>simpa[Act.put]using hu
   |some t''=>
     have hne:t''≠t':=λe=>he' (by rw[hds,e])
     simp only[Act.put];rw[tJ hne];exact hu
 .by_cases hm:m'=k
  .subst hm
   simp[St.aP,look]at h;subst h;subst hob';have h1:=(I.H m' _ (hH m' _ hk)).1;refine⟨(hnm m' h1).1,xs.set off v,hrow,by rw[nI,nI];exact hxl,λp z d' hz hc=>?_,λp z q' ts' hz hc=>?_,λp p' z z' q1 q2 t1 t2 hp hz hz' hc hc'=>r3 p p' z z' q1 q2 t1 t2 hp (hxs p z (hset p q1 t1 hc).1 hz) (hxs p' z' (hset p' q2 t2 hc').1 hz') (hset p q1 t1 hc).2 (hset p' q2 t2 hc').2,λp z q' ts' hz hc=>r4 p z q' ts' (hxs p z (hset p q' ts' hc).1 hz) (hset p q' ts' hc).2,r5⟩
   .by_cases hp:off=p
    .subst hp
     rw[pO hoff]at hc;rw[pO (by rw[hxl];exact hoff)]at hz;cases hc;cases hz;exact⟨hdy.mono hnm hcell,hone⟩
    .rw[qP hp]at hc hz
     exact⟨(rd p z d' hz hc).1.mono hnm hcell,(rd p z d' hz hc).2⟩
   .obtain⟨hj,hc⟩:=hset p q' ts' hc
    have hz:=hxs p z hj hz;obtain⟨ys,a1,a2,a3,a4⟩:=r2 p z q' ts' hz hc;refine⟨ys,⟨a1.1,?_⟩,a2,λi u t hu ht=>(a3 i u t hu ht).mono hcell,a4⟩;rcases a1.2 with h|⟨g3,cap,cur,hvv,z1,z2,z3⟩
    .exact .inl h
    .exact .inr ⟨g3,cap,cur,hvv,z1,by rw[s5 g3 (λe=>by subst e;exact r4 p z q' ts' hz hc g3 (by rw[hvv];rfl) hg)];exact z2,z3⟩
  .have h':σ₁.H m'=some om:=by simpa[St.aP,look,eN hm]using h
   obtain⟨h1,h2⟩:=I.H m' om h';refine⟨(hnm m' h1).1,h2.mono h1 hnm hcell (λg' hg'=>⟨s5 g' (λe=>?_),rfl⟩)⟩;subst e;exact I.cW m' om k _ h' (hH k _ hk) hm g' hg' (eK hg)
 .have back:∀j oj,(σ₁.aP o.dst (.aS []) [(k,some ob')] fr).H j=some oj->∃oj',σ₁.H j=some oj'/\∀g',bO w' (ν j) oj g'->bO w (ν j) oj' g':=λm' om h=>by
   by_cases hm:m'=k
   .subst hm
    simp[St.aP,look]at h;subst h;subst hob';exact⟨_,hH m' _ hk,hfk⟩
   .have h':σ₁.H m'=some om:=by simpa[St.aP,look,eN hm]using h
    exact⟨om,h',λg' hg'=>(hft m' om h' hm g').1 hg'⟩
  obtain⟨o1',h1',f1⟩:=back j1 o1 h1;obtain⟨o2',h2',f2⟩:=back j2 o2 h2;exact λg' hg1 hg2=>I.cW j1 o1' j2 o2' h1' h2' hne g' (f1 g' hg1) (f2 g' hg2)
end
end Go.Ab
/- The abstract machine: a row of one element that holds a row of the walk's own. -/
namespace Go.Ab
open Go.RowKit
theorem a6N:∀(pl:List (Nat×Nat))(ds:List (Nat×D))(cs out:List D),lE pl cs ds=some out->out.length=cs.length:=by
 intro pl ds
 induction ds with
 |nil=>intro cs out h;cases h;rfl
 |cons p r ih=>
   intro cs out h;obtain⟨i,d⟩:=p;simp only[lE]at h;split at h
   .cases h
   .split at h
    .rename_i hc
     simp only[aT,sY,kJ]at hc;rw[ih _ _ h,xN hc.2]
    .cases h
section
variable{P:Program}{o:Oper}{σ:St}{fr:Nat}
theorem aH0{t e e':TypeId}{m sz n q i0:Nat}{zs:List Value}{parts:Array (Nat×Operand)}{ds:List (Nat×D)}{out:List D}{ts:List Tree}(hB:AG P t e m 1 zs)(ho:o.op = .buildSlice t 1 parts)(hp:tA σ parts.toList ds)
    (hf:lE ((lR 1).map λi=>(i*m,m)) (zs.map λu=>.t (.v u)) ds=some out) (ho0:out[i0]?=some (.own q)) (hot:∀(i:Nat)(d:D),i≠i0->out[i]?=some d->∃t,d = .t t) (hq:σ.H q=some (.row e' sz n ts false)):
    aW P o σ fr (.own fr) [(fr,some (.bC e e' m sz 1 ((out.map NC.fK).set i0 (.cX n ts)))),(q,none)]:=by
 intro E σ₁ a w hT hHH h100 hf' hd ⟨ν,G,I⟩ Q;have hpl:∀(i:Nat)(p:Nat×Nat),((lR 1).map λi=>(i*m,m))[i]?=some p->(λi=>some (i*m,m)) i=some p:=λi p h=>by
  rw[cZ]at h;obtain⟨j,hj,rfl⟩:=cO.1 h;have h1:=(bZ.1 hj).1;have h2:=(bZ.1 hj).2;simp only[List.length_range]at h1;rw[List.getElem_range]at h2;rw[h2]
 obtain⟨h1,h2⟩:=hp.rel (λx d d' hx hw=>hw _ _ _ _ _ _ hHH I _ (I.ev (St.dE hT hx)));obtain⟨cells,hres,hsz,hrel⟩:=Nf hpl _ ds zs.toArray (zs.map λu=>.t (.v u)) out h1 h2 (by simp) (λi u d hu hd=>by
     have hz:zs[i]?=some u:=by simpa using hu
     rw[cZ,hz]at hd;cases hd;have:=hB.one u (iS.2 ⟨i,hz⟩);exact⟨.t (.v u this),this⟩) hf
 have hlen:out.length=1*m:=by rw[a6N _ _ _ _ hf];simp[hB.zl]
 have hi0:i0<out.length:=(bZ.1 ho0).1;have hobq:=(I.H q _ (hHH q _ hq)).2;obtain⟨ys,y1,y2,y3,y4⟩:=id hobq;have hcq:cells[i0]?=some (ν q):=by
  have hlt:i0<cells.size:=by rw[hsz];exact hi0
  obtain⟨hdr,_⟩:=hrel i0 _ _ (kL hlt) ho0;rw[kL hlt];generalize cells[i0]=z at hdr;cases hdr with
  |own _ _=>rfl
 have hr:=hB.run w (parts.map λ(i,x)=>(i,a.eval x)) cells (by rw[a9c];exact hres);unfold Oper.wp;have he:(execOp a.eval o).run P w = .ok (.value (.slice (some ⟨w.heap.size,0,none⟩) 1 1)) (w.alloc (.cells cells e)):=by
  unfold execOp;rw[ho];simp[hr]
 rw[he,Oper.upon_value];obtain⟨w',hw'⟩:∃w',w.alloc (.cells cells e)=w':=⟨_,rfl⟩
 have hA:cU w w':=hw' ▸ (cU.refl w).alloc _;have hnew:w'.heap[w.heap.size]?=some (.cells cells e):=by rw[<-hw'];exact heap_alloc_new w _
 rw[hw']
 let G':bV:=λb=>if b=w.heap.size then 0 else G b
 have hG:∀b,b<w.heap.size->G' b=G b:=λb hb=>aE (by omega)
 have hcell:∀b i u,Cell w G b i u->Cell w' G' b i u:=λb i u h=>h.iG hA hG
 have hlt:∀g,aU (ν q)=some g->g<w.heap.size:=λg hg=>hobq.sX hg
 have hown:w'.ownsRow 0 e m (.slice (some ⟨w.heap.size,0,none⟩) 1 1) 1 cells.toList:=⟨by simp[hsz,hlen],.inr ⟨w.heap.size,1,cells,rfl,o7 _,hnew,cE _,hB.ml,by rw[hsz,hlen],by rw[vD (by simp[hsz,hlen])]⟩⟩;have hinn:∀(i q':Nat)(ts':List Tree),((out.map NC.fK).set i0 (.cX n ts))[i]?=some (.cX q' ts')->i=i0/\q'=n/\ts'=ts:=λi q' ts' h=>by
  by_cases hi:i0=i
  .subst hi
   rw[pO (by simpa using hi0)]at h;cases h;exact⟨rfl,rfl,rfl⟩
  .rw[qP hi,cZ]at h
   obtain⟨d,_,hd'⟩:=cO.1 h;cases hd'
 refine⟨put_defers ..,cD ν fr (.slice (some ⟨w.heap.size,0,none⟩) 1 1),G',I.Dq h100 hf' hd [q] (o:=.bC e e' m sz 1 ((out.map NC.fK).set i0 (.cX n ts))) (λk=>?_) hA.os hA.tape hA.output hA.size (λb hb _=>⟨hA.block b hb,hG b hb⟩) hcell (x:=.slice (some ⟨w.heap.size,0,none⟩) 1 1) (λg hg=>?_) ?_ ?_⟩
 .simp only[look,nH]
  by_cases h1:fr=k
  .rw[aI h1,aI h1.symm]
  .rw[aE h1,aE (eN h1)]
   by_cases h2:q=k
   .rw[aI h2,aI h2.symm]
   .rw[aE h2,aE (eN h2)]
 .rcases hg with hg|⟨g0,i,x,q',ts',a1,a2,a3,a4⟩
  .cases hg;exact .inl (cE _)
  .obtain⟨rfl,rfl,rfl⟩:=hinn i q' ts' a2
   rw[mY hown a1 (by simp[hsz];exact hi0)]at a3;have:x=ν q:=by simp[hcq]at a3;exact a3.symm
   subst this;exact .inr ⟨q,by simp,_,hHH q _ hq,a4⟩
 .rw[eT]
  refine⟨cells.toList,by rw[cB];exact hown,by simp[hsz],λi x d hx hc=>?_,λi x q' ts' hx hc=>?_,λi j x y q1 q2 t1 t2 hij hx hy hc hc'=>?_,λi x q' ts' hx hc g hg=>?_,λg hg=>?_⟩
  .by_cases hi:i0=i
   .subst hi
    rw[pO (by simpa using hi0)]at hc;cases hc
   .rw[qP hi,cZ]at hc
    obtain⟨d',lC,hd2⟩:=cO.1 hc;cases hd2;obtain⟨t,rfl⟩:=hot i d (λe=>hi e.symm) lC;obtain⟨b1,b2⟩:=hrel i x _ (by simpa using hx) lC;cases b1 with
    |t b1=>exact⟨.t (b1.mono hcell),b2⟩
  .obtain⟨rfl,rfl,rfl⟩:=hinn i q' ts' hc
   have:x=ν q:=by simp[hcq]at hx;exact hx.symm
   subst this;refine⟨ys,⟨y1.1,?_⟩,y2,λi u t hu ht=>(y3 i u t hu ht).mono hcell,λg hg=>⟨(y4 g hg).1,by rw[hG g (hlt g hg)];simpa using(y4 g hg).2⟩⟩;rcases y1.2 with h|⟨g,cap,cur,hvv,z1,z2,z3⟩
   .exact .inl h
   .exact .inr ⟨g,cap,cur,hvv,z1,by rw[hA.block g (hlt g (by rw[hvv];rfl))];exact z2,z3⟩
  .exact absurd ((hinn i q1 t1 hc).1.trans (hinn j q2 t2 hc').1.symm) hij
  .obtain⟨rfl,rfl,rfl⟩:=hinn i q' ts' hc
   have:x=ν q:=by simp[hcq]at hx;exact hx.symm
   subst this;rw[cB];intro h;cases h;exact absurd (hlt _ hg) (OQ _)
  .rw[cB]at hg
   cases hg;exact⟨.inl I.kept.size,aI rfl⟩
 .have:DR (cD ν fr (.slice (some ⟨w.heap.size,0,none⟩) 1 1)) (σ₁.aP o.dst .any [(fr,some (.bC e e' m sz 1 ((out.map NC.fK).set i0 (.cX n ts)))),(q,none)] fr).nm w' G' (cD ν fr (.slice (some ⟨w.heap.size,0,none⟩) 1 1) fr) (.own fr):=.own (kN ..) (by rw[cB];rfl)
  rw[cB]at this;exact this
end
end Go.Ab
/- The abstract machine: append of rows whose elements hold rows of the walk's own. -/
namespace Go.Ab
open Go.RowKit
section
variable{P:Program}{o:Oper}{σ:St}{fr:Nat}
inductive Zu (σ:St) (s:Operand) (e e':TypeId) (m sz:Nat):Option Nat->Nat->List NC->Prop
 |own {k n:Nat} {cs:List NC} (h:σ.ev s=some (.own k)) (hk:σ.H k=some (.bC e e' m sz n cs)):Zu σ s e e' m sz (some k) n cs
 |nil (h:σ.ev s=some (.t (.v (.slice none 0 0)))):Zu σ s e e' m sz none 0 []
def Ze(cs:List NC):Prop:=∀(i:Nat)(d:D),cs[i]?=some (.fK d)->∃t,d = .t t
theorem aHa{t e e':TypeId}{z:Value}{bytes mm sz q n n':Nat}{s x:Operand}{k0:Option Nat}{ls ms:List NC}(hT:mQ P t e z mm bytes)(ho:o.op = .call { callee:=.builtin .append,args:=#[s,x],argTypes:=#[t,t] })
    (hs:Zu σ s e e' mm sz k0 n ls) (hx:σ.ev x=some (.own q)) (hq:σ.H q=some (.bC e e' mm sz n' ms)) (hne:k0≠some q) (hp1:Ze ls) (hp2:Ze ms) (hb:(n+n')*bytes<=140737488355328/\n+n'<=maxLen):
    aW P o σ fr (.own fr) (wL k0 q fr (.bC e e' mm sz (n+n') (ls++ms))):=by
 intro E σ₁ a w hTT hHH h100 hf hd ⟨ν,G,I⟩ Q;have hvx:=I.ev (St.dE hTT hx);obtain⟨vx,hex⟩:∃v,a.eval x=v:=⟨_,rfl⟩
 rw[hex]at hvx;cases hvx with
 |own hkq _=>
 have hobq:=(I.H q _ (hHH q _ hq)).2;obtain⟨us,u1,hul,ud,u2,u3,u4,u5⟩:=id hobq;have hunl:us.length=n'*mm:=u1.1;have hone:∀u∈us,u.oneCell'=true:=λu hu=>by
  obtain⟨i,hi⟩:=iS.1 hu;have hlt:=(bZ.1 hi).1;rw[hul]at hlt;obtain⟨c,hc⟩:∃c,ms[i]?=some c:=⟨_,dC hlt⟩
  cases c with
  |fK d=>exact(ud i u d hi hc).2
  |cX q ts=>obtain⟨ys,y1,_⟩:=u2 i u q ts hi hc;exact pF y1
 obtain⟨ax,c,hxv,hrd,hnone⟩:∃ax c,ν q = .slice ax n' c/\Rd w ax us/\(ax=none->c=0):=by
  rcases u1.2 with⟨hv,hn⟩|⟨g,cap,cur,hv,_⟩
  .have hx:us=[]:=AH (by rw[hunl,hn,vA])
   exact⟨none,0,by rw[hv,hn],by rw[hx];exact Rd.nil,λ_=>rfl⟩
  .exact⟨_,cap,hv,λj u hj=>⟨_,rfl,u1.cells (by rw[hv];rfl) j u hj⟩,λe=>by cases e⟩
 have hrow:∃v,a.eval s=v/\∃ob:eT E (λ_=>v) σ₁.nm w G 0 (.bC e e' mm sz n ls),(∀k,some k=k0->ν k=v/\σ₁.H k=some (.bC e e' mm sz n ls))/\(k0=none->aU v=none/\n=0):=by
  cases hs with
  | @own k _ _ h hk=>
    have hv:=I.ev (St.dE hTT h);obtain⟨v,he⟩:∃v,a.eval s=v:=⟨_,rfl⟩
    rw[he]at hv;cases hv with
    |own _ _=>
      obtain⟨xs,b1,b2,b3,b4⟩:=(I.H _ _ (hHH _ _ hk)).2;exact⟨_,he,⟨xs,b1,b2,λi x d hx hc=>by
       obtain⟨b5,b6⟩:=b3 i x d hx hc;obtain⟨t,rfl⟩:=hp1 i d hc;cases b5 with
       |t b5=>exact⟨.t b5,b6⟩,b4⟩,(λk' hk'=>by cases hk';exact⟨rfl,hHH _ _ hk⟩),(λe=>by cases e)⟩
  |nil h=>
    have hv:=bY (I.ev (St.dE hTT h));exact⟨_,hv,qR.bC.ok rfl,(λk h=>by cases h),λ_=>⟨rfl,rfl⟩⟩
 obtain⟨v,hsv,hobv,hk0,hk0n⟩:=hrow;obtain⟨xs,r1,hxl,rd,r2,r3,r4,r5⟩:=id hobv;change w.ownsRow 0 e mm v n xs at r1;change ∀(i:Nat)(x:Value)(q:Nat)(ts:List Tree),xs[i]?=some x->ls[i]?=some (.cX q ts)->∀g,aU x=some g->aU v≠some g at r4
 change ∀g,aU v=some g->E.may g/\G g=0 at r5
 obtain⟨v',w',hr,p1,q1,q2,q3,q4,q5,q6,q7⟩:=M7 (ty:=o.type) hT r1 (m:=n') (c:=c) hunl hrd hnone hone hb.2 hb.1;unfold Oper.wp;have he:(execOp a.eval o).run P w = .ok (.value v') w':=by
  unfold execOp;rw[ho];simp[resolve,invoke,builtin,hsv,hex,hxv,hr]
 rw[he,Oper.upon_value];rw[<-kR r1]at q5 q6 q7;rw[<-kR p1]at q7
 -- blocks of the one are none of the other
 have dis1:∀g,bO w v (.bC e e' mm sz n ls) g->¬ bO w (ν q) (.bC e e' mm sz n' ms) g:=λg hg hg'=>by
  cases k0 with
  |none=>
    rcases hg with h|⟨_,_,_,_,_,h,_⟩
    .rw[(hk0n rfl).1]at h;cases h
    .rw[(hk0n rfl).1]at h;cases h
  |some k=>
    obtain⟨h1,h2⟩:=hk0 k rfl;subst h1;exact I.cW k _ q _ h2 (hHH q _ hq) (λe=>hne (by rw[e])) g hg hg'
 have inx:∀(i:Nat)(x:Value)(q1:Nat)(ts:List Tree),xs[i]?=some x->ls[i]?=some (.cX q1 ts)->∀g,aU x=some g->bO w v (.bC e e' mm sz n ls) g:=λi x q1 ts hx hc g hg=>by
  have hi:=(bZ.1 hx).1;rcases r1.2 with⟨_,h0⟩|⟨g0,cap,cur,hv,_⟩
  .rw[r1.1,h0]at hi;omega
  .exact .inr ⟨g0,i,x,q1,ts,by rw[hv];rfl,hc,by rw[mY r1 (by rw[hv];rfl) hi];exact hx,hg⟩
 have inu:∀(i:Nat)(x:Value)(q1:Nat)(ts:List Tree),us[i]?=some x->ms[i]?=some (.cX q1 ts)->∀g,aU x=some g->bO w (ν q) (.bC e e' mm sz n' ms) g:=λi x q1 ts hx hc g hg=>by
  have hi:=(bZ.1 hx).1;rcases u1.2 with⟨_,h0⟩|⟨g0,cap,cur,hv,_⟩
  .rw[u1.1,h0]at hi;omega
  .exact .inr ⟨g0,i,x,q1,ts,by rw[hv];rfl,hc,by rw[mY u1 (by rw[hv];rfl) hi];exact hx,hg⟩
 -- a cell of the new row
 have cell2:∀(i:Nat)(x:Value)(c:NC),(xs++us)[i]?=some x->(ls++ms)[i]?=some c->(xs[i]?=some x/\ls[i]?=some c)\/(ls.length<=i/\us[i-ls.length]?=some x/\ms[i-ls.length]?=some c):=λi x c hx hc=>by
  by_cases hi:i<ls.length
  .rw[dV (by rw[hxl];exact hi)]at hx
   rw[dV hi]at hc;exact .inl ⟨hx,hc⟩
  .rw[dN (by rw[hxl];omega),hxl]at hx
   rw[dN (by omega)]at hc;exact .inr ⟨by omega,hx,hc⟩
 have outv:∀(i:Nat)(x:Value)(q1:Nat)(ts:List Tree),(xs++us)[i]?=some x->(ls++ms)[i]?=some (.cX q1 ts)->∀g,aU x=some g->g<w.heap.size/\aU v≠some g:=λi x q1 ts hx hc g hg=>by
  rcases cell2 i x _ hx hc with⟨hx,hc⟩|⟨_,hx,hc⟩
  .exact⟨(hobv.ft (inx i x q1 ts hx hc g hg)).1,r4 i x q1 ts hx hc g hg⟩
  .have h:=inu _ x q1 ts hx hc g hg
   exact⟨(hobq.ft h).1,λh'=>dis1 g (eK h') h⟩
 have outv':∀(i:Nat)(x:Value)(q1:Nat)(ts:List Tree),(xs++us)[i]?=some x->(ls++ms)[i]?=some (.cX q1 ts)->∀g,aU x=some g->aU v'≠some g:=λi x q1 ts hx hc g hg h=>by
  obtain⟨h1,h2⟩:=outv i x q1 ts hx hc g hg;rcases q7 g h with h3|h3
  .omega
  .exact h2 h3
 let G':bV:=λb=>if aU v'=some b then 0 else G b
 have hcell:∀b i u,Cell w G b i u->Cell w' G' b i u:=λb i u h=>by
  have hb':aU v≠some b:=λhb'=>by have:=h.2;rw[(r5 b hb').2]at this;omega
  refine⟨(World.cell?_of_block (a:=⟨b,i,none⟩) (q5 b h.lt hb')).trans h.1,?_⟩;have:aU v'≠some b:=λe=>by
   rcases q7 b e with h'|h'
   .have:=h.lt;omega
   .exact hb' h'
  show i<if aU v'=some b then 0 else G b
  rw[aE this];exact h.2
 have hmv:∀{x:Value}{n:Nat}{ys:List Value},(∀g,aU x=some g->g<w.heap.size/\aU v≠some g)->w.ownsRow 0 e' sz x n ys->w'.ownsRow 0 e' sz x n ys:=λhx h1=>by
  refine⟨h1.1,?_⟩;rcases h1.2 with h|⟨g,cap,cur,hvv,z1,z2,z3⟩
  .exact .inl h
  .have:=hx g (by rw[hvv];rfl)
   exact .inr ⟨g,cap,cur,hvv,z1,by rw[q5 g this.1 this.2];exact z2,z3⟩
 refine⟨put_defers ..,cD ν fr v',G',I.Dq h100 hf hd (k0.toList++[q]) (o:=.bC e e' mm sz (n+n') (ls++ms)) (λk=>?_) q1 q2 q3 q4 (λb hb hnk=>?_) hcell (x:=v') (λg hg=>?_) ?_ ?_⟩
 .cases k0 with
  |none=>
    simp only[wL,look,a8p,k7,nH];by_cases h1:fr=k
    .rw[aI h1,aI h1.symm]
    .rw[aE h1,aE (eN h1)]
     by_cases h2:q=k
     .rw[aI h2,aI h2.symm]
     .rw[aE h2,aE (eN h2)]
  |some j=>
    simp only[wL,look,a8o,pP,k7,eZ,Zl,or_false];by_cases h1:fr=k
    .rw[aI h1,aI h1.symm]
    .rw[aE h1,aE (eN h1)]
     by_cases h2:j=k
     .rw[aI h2,aI (.inl h2.symm)]
     .rw[aE h2]
      by_cases h3:q=k
      .rw[aI h3,aI (.inr h3.symm)]
      .rw[aE h3,aE (by rintro(h|h);exact h2 h.symm;exact h3 h.symm)]
 .have hnv:aU v≠some b:=λe=>by
   cases k0 with
   |none=>rw[(hk0n rfl).1]at e;cases e
   |some j=>
     obtain⟨h1,h2⟩:=hk0 j rfl;exact hnk j (by simp) _ h2 (eK (by rw[h1];exact e))
  refine⟨q5 b hb hnv,aE (λe=>?_)⟩;rcases q7 b e with h|h
  .omega
  .exact hnv h
 .rcases hg with hg|⟨g0,i,x,q1,ts,a1,a2,a3,a4⟩
  .rcases q7 g hg with h|h
   .exact .inl h
   .cases k0 with
    |none=>rw[(hk0n rfl).1]at h;cases h
    |some j=>
      obtain⟨h1,h2⟩:=hk0 j rfl;exact .inr ⟨j,by simp,_,h2,eK (by rw[h1];exact h)⟩
  .right
   have hlen:(xs++us).length=(ls++ms).length:=by rw[aL,aL,hxl,hul]
   rw[mY p1 a1 (by rw[hlen];exact(bZ.1 a2).1)]at a3;rcases cell2 i x _ a3 a2 with⟨hx,hc⟩|⟨_,hx,hc⟩
   .have h:=inx i x q1 ts hx hc g a4
    cases k0 with
    |none=>
      have hi:=(bZ.1 hx).1;rw[r1.1,(hk0n rfl).2]at hi;omega
    |some j=>
      obtain⟨h1,h2⟩:=hk0 j rfl;exact⟨j,by simp,_,h2,by rw[h1];exact h⟩
   .exact⟨q,by simp,_,hHH q _ hq,inu _ x q1 ts hx hc g a4⟩
 .refine⟨xs++us,by rw[cB];exact p1,by rw[aL,aL,hxl,hul],λi x d hx hc=>?_,λi x q1 ts hx hc=>?_,λi j x y q1 q2 t1 t2 hij hx hy hc hc' g hg=>?_,λi x q1 ts hx hc g hg=>by rw[cB];exact outv' i x q1 ts hx hc g hg,λg hg=>?_⟩
  .rcases cell2 i x _ hx hc with⟨hx,hc⟩|⟨_,hx,hc⟩
   .obtain⟨b1,b2⟩:=rd i x d hx hc
    obtain⟨t,rfl⟩:=hp1 i d hc;cases b1 with
    |t b1=>exact⟨.t (b1.mono hcell),b2⟩
   .obtain⟨b1,b2⟩:=ud _ x d hx hc
    obtain⟨t,rfl⟩:=hp2 _ d hc;cases b1 with
    |t b1=>exact⟨.t (b1.mono hcell),b2⟩
  .have hG0:∀g,aU x=some g->G' g=G g:=λg hg=>aE (outv' i x q1 ts hx hc g hg)
   have ho:=outv i x q1 ts hx hc;rcases cell2 i x _ hx hc with⟨hx,hc⟩|⟨_,hx,hc⟩
   .obtain⟨ys,y1,y2,y3,y4⟩:=r2 i x q1 ts hx hc
    exact⟨ys,hmv ho y1,y2,λi u t hu ht=>(y3 i u t hu ht).mono hcell,λg hg=>by rw[hG0 g hg];exact y4 g hg⟩
   .obtain⟨ys,y1,y2,y3,y4⟩:=u2 _ x q1 ts hx hc
    exact⟨ys,hmv ho y1,y2,λi u t hu ht=>(y3 i u t hu ht).mono hcell,λg hg=>by rw[hG0 g hg];exact y4 g hg⟩
  .rcases cell2 i x _ hx hc with⟨hx,hc⟩|⟨hi,hx,hc⟩ <;> rcases cell2 j y _ hy hc' with⟨hy,hc'⟩|⟨hj,hy,hc'⟩
   .exact r3 i j x y q1 q2 t1 t2 hij hx hy hc hc' g hg
   .exact λhg'=>dis1 g (inx i x q1 t1 hx hc g hg) (inu _ y q2 t2 hy hc' g hg')
   .exact λhg'=>dis1 g (inx j y q2 t2 hy hc' g hg') (inu _ x q1 t1 hx hc g hg)
   .exact u3 _ _ x y q1 q2 t1 t2 (by omega) hx hy hc hc' g hg
  .rw[cB]at hg
   refine⟨?_,aI hg⟩;rcases q7 g hg with h|h
   .exact .inl (Nat.le_trans I.kept.size h)
   .exact(r5 g h).1
 .have:DR (cD ν fr v') (σ₁.aP o.dst .any (wL k0 q fr (.bC e e' mm sz (n+n') (ls++ms))) fr).nm w' G' (cD ν fr v' fr) (.own fr):=.own (kN ..) (by rw[cB];exact pF p1)
  rw[cB]at this;exact this
end
end Go.Ab
