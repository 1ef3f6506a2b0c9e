/- The abstract machine: operations, calls, regions. Conditions are in the theorems. -/
import Derived.Test.YtihfefggdgiodaaGreatDoorE1
import Derived.Deep.MidRow
import Derived.Great.BuildSlice
open Array renaming all_eq_true_iff_forall_mem->aXe,getD->MM,getElem?_eq_getElem->iM,getElem?_eq_some_iff->eF,getElem?_setIfInBounds_ne->nL,replicate->k4,toList_map->Tv
open Bool renaming and_eq_false_iff->aX8,and_eq_true->bA,eq_false_iff->rM,eq_iff_iff->aX6,false_eq_true->Aj,false_or->jG,not_eq_false'->aX5,or_eq_true->lN
open Classical renaming not_not->Tq
open Iff renaming rfl->kZ
open List renaming all_eq_true->cT,any_eq_true->jN,append_assoc->fT,contains_iff_mem->nI,ext_getElem?->Ae,getElem?_append_left->cZ,getElem?_append_right->eE,getElem?_cons_zero->aDv,getElem?_eq_getElem->bM,getElem?_eq_none->rI,getElem?_eq_some_iff->bP,getElem?_map->cD,getElem?_take->eY,length_cons->dK,mem_iff_getElem?->gK,mem_map->eK,mem_range->nE,range->fJ,take_length->aXE
open Nat renaming add_assoc->Aa,add_zero->hZ,le_refl->bX,le_trans->iR,lt_irrefl->aDm,lt_of_lt_of_le->kL,lt_trichotomy->aDl,mul_le_mul_right->kK,strongRecOn->MD,sub_self->Fs,zero_add->cY,zero_le->dC,zero_mul->pT
open Ne renaming symm->dW
open Option renaming isSome_iff_exists->pR,map_eq_some_iff->b9
open Option.some renaming injEq->gD
open Prod.mk renaming injEq->Tb
/- The abstract machine: variables, rows, addresses, loads and stores. -/
namespace Go.Ab
open Go.RowKit
def D.cells:D->List D
 |.agg ds=>ds
 |d=>[d]
def D.val:D->Bool
 |.aT _|.any=>false
 |_=>true
theorem AU{v:Value}(h:v.oneCell'=true):v.cells = #[v]:=by cases v <;> first|rfl|cases h
theorem DR.cells{ν:Nat->Value}{nm:Nat->Bool}{w:World}{G:bQ}{v:Value}{d:D}(h:DR ν nm w G v d)(hd:d.val=true):
    v.cells.size=d.cells.length/\∀(i:Nat)(u:Value)(e:D),v.cells[i]?=some u->d.cells[i]?=some e->DR ν nm w G u e/\u.oneCell'=true:=by
 have one:d.one=true->v.cells.size=[d].length/\∀(i:Nat)(u:Value)(e:D),v.cells[i]?=some u->[d][i]?=some e->DR ν nm w G u e/\u.oneCell'=true:=λho=>by
  have hv:=h.LA ho;rw[AU hv];refine⟨rfl,λi u e hu he=>?_⟩;cases i with
  |zero=>simp at hu he;subst hu he;exact⟨h,hv⟩
  |succ i=>simp at he
 cases d with
 |agg ds=>
   cases h with
   | @agg vs _ hl h h1=>
     exact⟨hl,λi u e hu he=>⟨h i u e hu he,h1 u (gK.2 ⟨i,by rw[Array.getElem?_toList];exact hu⟩)⟩⟩
 |aT ds=>cases hd
 |any=>cases hd
 |t x=>exact one rfl
 |own k=>exact one rfl
 |ref k off=>exact one rfl
 |ptr ts off=>exact one rfl
 |fn f caps=>exact one rfl
 |sub k i=>exact one rfl
 |gM k i j=>exact one rfl
 |vw k i j=>exact one rfl
 |via k r=>exact one rfl
def NC.tell:NC->D
 |.dH d=>d
 |.cE ..=>.any
def aM.cells:aM->List D
 |.box _ ds=>ds
 |.row _ _ _ ts _=>ts.map .t
 |.nest ..=>[]
 |.mp ..=>[]
 |.it ..=>[]
 |.bI _ _ _ _ _ cs=>cs.map NC.tell
theorem eR.cell{E:Env}{ν:Nat->Value}{nm:Nat->Bool}{w:World}{G:bQ}{k:Nat}{o:aM}(h:eR E ν nm w G k o){i:Nat}{d:D}(hd:o.cells[i]?=some d):
    ∃g u,aQ (ν k)=some g/\w.cell? ⟨g,i,none⟩=some u/\DR ν nm w G u d/\u.oneCell'=true:=by
 cases o with
 |nest=>simp[aM.cells]at hd
 |mp=>simp[aM.cells]at hd
 |it=>simp[aM.cells]at hd
 |bI e e' m s n cs=>
   obtain⟨xs,h1,hxl,hD,h2,h3,h4,h5⟩:=h;simp only[aM.cells,cD]at hd;obtain⟨c,hc,rfl⟩:=b9.1 hd;have hi:i<xs.length:=by rw[hxl];exact(bP.1 hc).1
   have hx:xs[i]?=some xs[i]:=bM hi;have hg:∃g,aQ (ν k)=some g:=by
    rcases h1.2 with⟨_,hn⟩|⟨g,cap,cur,hv,_⟩
    .have:=h1.1
     rw[hn,pT]at this;omega
    .exact⟨g,by rw[hv];rfl⟩
   obtain⟨g,hg⟩:=hg;refine⟨g,xs[i],hg,by rw[kS h1 hg hi];exact hx,?_⟩;cases c with
   |dH d=>exact hD i _ d hx hc
   |cE q ts=>
     obtain⟨ys,y1,_⟩:=h2 i _ q ts hx hc;exact⟨.any,kV y1⟩
 |box e ds=>
   obtain⟨g,cur,h1,h2,h3,h4,h5,h6⟩:=h;have hi:i<cur.size:=by rw[h5];exact(bP.1 hd).1
   obtain⟨q1,q2⟩:=h6 i cur[i] d (iM hi) hd;exact⟨g,cur[i],by rw[h1];rfl,by rw[AV h3];exact iM hi,q1,q2⟩
 |row e s n ts st=>
   obtain⟨xs,h1,h2,h3,h4⟩:=h;simp only[aM.cells,cD]at hd;obtain⟨t,ht,rfl⟩:=b9.1 hd;have hi:i<xs.length:=by rw[h2];exact(bP.1 ht).1
   have htr:=h3 i xs[i] t (bM hi) ht;rcases h1.2 with⟨_,hn⟩|⟨g,cap,cur,hv,r1,r2,r3,r4,r5,r6⟩
   .have:=h1.1
    rw[hn,pT]at this;omega
   .refine⟨g,xs[i],by rw[hv];rfl,?_,.t htr,htr.one⟩
    rw[AV r2];have hx:(cur.toList.take (n*s))[i]?=some xs[i]:=by rw[r6];exact bM hi
    rw[eY]at hx;split at hx
    .simpa using hx
    .cases hx
theorem eR.Rl{E:Env}{ν:Nat->Value}{nm:Nat->Bool}{w:World}{G:bQ}{k:Nat}{o:aM}(h:eR E ν nm w G k o){g:Nat}(hg:Ab.aQ (ν k)=some g):E.may g:=(h.ft (dT hg)).2
def bU(ν:Nat->Value)(k:Nat)(x:Value):Nat->Value:=λj=>if j=k then x else ν j
theorem bT{ν:Nat->Value}{k:Nat}{x:Value}:bU ν k x k=x:=by simp[bU]
theorem lE{ν:Nat->Value}{k j:Nat}{x:Value}(h:j≠k):bU ν k x j=ν j:=by simp[bU,h]
theorem Inv.CW{E:Env}{σ:St}{ν:Nat->Value}{G G':bQ}{w w':World}{a:Act}(I:Inv E σ ν G w a.tmps){fr:Nat}(h100:100<=fr)(hf:∀k,fr<=k->k<fr+8->σ.nm k=false){dst:Option Tmp}(ht:∀t,dst=some t->t<E.m)
    {W:Wr} (K:List Nat) {o:aM} (hW:∀k,look k W=if k=fr then some (some o)else if k∈K then some none else none)
    (hos:w'.os=w.os) (htape:w'.tape=w.tape) (hout:w'.output=w.output) (hsize:w.heap.size<=w'.heap.size)
    (hblk:∀b,b<w.heap.size->(∀k∈K,∀o,σ.H k=some o->¬ bK w (ν k) o b)->w'.heap[b]?=w.heap[b]?/\G' b=G b) (hcell:∀b i u,Cell w G b i u->Cell w' G' b i u)
    {x:Value} (hx:∀g,bK w' x o g->w.heap.size<=g\/∃k∈K,∃o0,σ.H k=some o0/\bK w (ν k) o0 g) (ho:eR E (bU ν fr x) (σ.aN dst .any W fr).nm w' G' fr o) {v:Value} {d:D} (hd:DR (bU ν fr x) (σ.aN dst .any W fr).nm w' G' v d):
    Inv E (σ.aN dst d W fr) (bU ν fr x) G' w' (a.put dst v).tmps:=by
 have hnf:σ.nm fr=false:=hf fr (bX _) (by omega);have hn:∀k,σ.nm k=true->(σ.aN dst d W fr).nm k=true/\bU ν fr x k=ν k:=λk hk=>⟨by simp[St.aN,hk],lE (λe=>by rw[e,hnf]at hk;cases hk)⟩
 have cS:∀b,b<E.w0.heap.size->¬ E.X b->∀k∈K,∀o,σ.H k=some o->¬ bK w (ν k) o b:=λb hb hX k _ o ho hfo=>by
  rcases((I.H k o ho).2.ft hfo).2 with h|h
  .omega
  .exact hX h
 have other:∀k o1,σ.H k=some o1->k∉K->∀g,bK w (ν k) o1 g->w'.heap[g]?=w.heap[g]?/\G' g=G g:=λk o1 h hk g hg=>
  hblk g ((I.H k o1 h).2.ft hg).1 λj hj oj hoj hfo=>I.cF k o1 j oj h hoj (λe=>hk (by rw[e];exact hj)) g hg hfo
 have ft':∀k o1,σ.H k=some o1->k∉K->∀g,bK w' (ν k) o1 g ↔ bK w (ν k) o1 g:=λk o1 h hk g=>qY λg hg=>(other k o1 h hk g (dT hg)).1
 refine⟨⟨hos.trans I.kept.os,htape.trans I.kept.tape,hout.trans I.kept.output,iR I.kept.size hsize,λb hb hX=>?_⟩,λb i u h=>hcell b i u (I.cS b i u h),λk h1 h2=>?_,λb hb hX=>?_,?_,λt d' h=>?_,λk o' h=>?_,λk o1 k' o2 h h' hne g hg=>?_⟩
 .exact(hblk b (kL hb I.kept.size) (cS b hb hX)).1.trans (I.kept.block b hb hX)
 .rw[lE (by omega)]
  exact I.eL k h1 h2
 .exact(hblk b (kL hb I.kept.size) (cS b hb hX)).2.trans (I.g0 b hb hX)
 .cases dst <;> simp[Act.put,I.sz]
 .simp only[St.aN]at h
  split at h
  .rename_i he
   cases h;subst he;refine⟨v,?_,hd⟩;have:=ht t rfl;simp[Act.put,I.sz,this]
  .rename_i he
   obtain⟨u,hu,hdu⟩:=I.T t d' h;refine⟨u,?_,hdu.mono hn hcell⟩;cases dst with
   |none=>simpa[Act.put]using hu
   |some t'=>
     have hne:t'≠t:=λe=>he (by rw[e])
     simp only[Act.put];rw[nL hne];exact hu
 .simp only[St.aN,hW]at h
  by_cases hk:k=fr
  .subst hk
   simp only[fH,gD]at h;subst h;exact⟨by simp[St.aN],ho⟩
  .rw[aC hk]at h
   by_cases hk':k∈K
   .rw[aE hk']at h;cases h
   .rw[aC hk']at h
    obtain⟨h1,h2⟩:=I.H k o' h;exact⟨(hn k h1).1,h2.mono h1 hn hcell (λg hg=>other k o' h hk' g hg)⟩
 .simp only[St.aN,hW]at h h'
  by_cases hk:k=fr
  .subst hk
   rw[bT]at hg;simp only[fH,gD]at h;subst h;have hne':k'≠k:=λe=>hne e.symm
   rw[aC hne']at h';by_cases hk':k'∈K
   .rw[aE hk']at h';cases h'
   .rw[aC hk']at h'
    rw[lE hne',ft' k' o2 h' hk'];intro hgk;rcases hx g hg with h0|⟨j,hj,oj,hoj,hbj⟩
    .have:=((I.H k' o2 h').2.ft hgk).1
     omega
    .exact I.cF k' o2 j oj h' hoj (λe=>hk' (by rw[e];exact hj)) g hgk hbj
  .rw[aC hk]at h
   by_cases hk1:k∈K
   .rw[aE hk1]at h;cases h
   .rw[aC hk1]at h
    rw[lE hk,ft' k o1 h hk1]at hg;by_cases hk':k'=fr
    .subst hk'
     simp only[fH,gD]at h';subst h';rw[bT];intro hgx;rcases hx g hgx with h0|⟨j,hj,oj,hoj,hbj⟩
     .have:=((I.H k o1 h).2.ft hg).1
      omega
     .exact I.cF k o1 j oj h hoj (λe=>hk1 (by rw[e];exact hj)) g hg hbj
    .rw[aC hk']at h'
     by_cases hk2:k'∈K
     .rw[aE hk2]at h';cases h'
     .rw[aC hk2]at h'
      rw[lE hk',ft' k' o2 h' hk2];exact I.cF k o1 k' o2 h h' hne g hg
theorem Inv.new{E:Env}{σ:St}{ν:Nat->Value}{G G':bQ}{w w':World}{a:Act}(I:Inv E σ ν G w a.tmps){fr:Nat}(h100:100<=fr)(hf:∀k,fr<=k->k<fr+8->σ.nm k=false){dst:Option Tmp}(ht:∀t,dst=some t->t<E.m)
    {W:Wr} (k0:Option Nat) {o:aM} (hW:∀k,look k W=if k=fr then some (some o)else if some k=k0 then some none else none)
    (hos:w'.os=w.os) (htape:w'.tape=w.tape) (hout:w'.output=w.output) (hsize:w.heap.size<=w'.heap.size)
    (hblk:∀b,b<w.heap.size->(∀k,some k=k0->aQ (ν k)≠some b)->w'.heap[b]?=w.heap[b]?/\G' b=G b) (hcell:∀b i u,Cell w G b i u->Cell w' G' b i u)
    (hk0:∀k,some k=k0->∃o,σ.H k=some o)
    {x:Value} (hx:∀g,aQ x=some g->w.heap.size<=g\/∃k,some k=k0/\aQ (ν k)=some g) (ho:eR E (bU ν fr x) (σ.aN dst .any W fr).nm w' G' fr o) {v:Value} {d:D} (hd:DR (bU ν fr x) (σ.aN dst .any W fr).nm w' G' v d)
    (hp:∀w v g,bK w v o g->aQ v=some g:=by intro _ _ _ h;exact h):
    Inv E (σ.aN dst d W fr) (bU ν fr x) G' w' (a.put dst v).tmps:=by
 have hK:∀k,k∈k0.toList ↔ some k=k0:=λk=>by cases k0 <;> simp[eq_comm]
 refine I.CW h100 hf ht k0.toList (λk=>?_) hos htape hout hsize (λb hb h=>hblk b hb λk hk hbk=>?_) hcell (λg hg=>?_) ho hd
 .rw[hW]
  by_cases e:some k=k0
  .rw[aE e,aE ((hK k).2 e)]
  .rw[aC e,aC (λh=>e ((hK k).1 h))]
 .obtain⟨o,ho⟩:=hk0 k hk
  exact h k ((hK k).2 hk) o ho (dT hbk)
 .rcases hx g (hp _ _ _ hg)with h|⟨k,hk,hb⟩
  .exact .inl h
  .obtain⟨o,ho⟩:=hk0 k hk
   exact .inr ⟨k,(hK k).2 hk,o,ho,dT hb⟩
theorem Inv.fresh{E:Env}{σ:St}{ν:Nat->Value}{G G':bQ}{w w':World}{a:Act}(I:Inv E σ ν G w a.tmps){fr:Nat}(h100:100<=fr)(hf:∀k,fr<=k->k<fr+8->σ.nm k=false){dst:Option Tmp}(ht:∀t,dst=some t->t<E.m)
    {o:aM} (hA:bB w w') (hG:∀b,b<w.heap.size->G' b=G b) {x:Value} (hx:∀g,aQ x=some g->w.heap.size<=g) (ho:eR E (bU ν fr x) (σ.aN dst .any [(fr,some o)] fr).nm w' G' fr o) {v:Value} {d:D}
    (hd:DR (bU ν fr x) (σ.aN dst .any [(fr,some o)] fr).nm w' G' v d) (hp:∀w v g,bK w v o g->aQ v=some g:=by intro _ _ _ h;exact h):Inv E (σ.aN dst d [(fr,some o)] fr) (bU ν fr x) G' w' (a.put dst v).tmps:=
 I.new h100 hf ht none (λk=>by
  by_cases h:k=fr
  .subst h;simp[look]
  .simp[look,h,dW h]) hA.os hA.tape hA.output hA.size (λb hb _=>⟨hA.block b hb,hG b hb⟩) (λ_ _ _ h=>h.dI hA hG) (λ_ h=>by cases h) (λg hg=>.inl (hx g hg)) ho hd hp
theorem jH(σ:St)(dst:Option Tmp)(d:D)(W:Wr)(fr:Nat):(σ.aN dst d W fr).nm fr=true:=by simp[St.aN]
section
variable{P:Program}{o:Oper}{σ:St}{fr:Nat}
theorem aBg{e:TypeId}{x:Operand}{d:D}(ho:o.op = .box e x)(hx:σ.ev x=some d)(hv:d.val=true):aU P o σ fr (.ref fr 0) [(fr,some (.box e d.cells))]:=by
 intro E σ₁ a w hT _ h100 hf hd ⟨ν,G,I⟩ Q;have hdx:=I.ev (St.cP hT hx);unfold Oper.wp;have hr:(execOp a.eval o).run P w = .ok (.value (.pointer (some ⟨w.heap.size,0,none⟩))) (w.alloc (.cells (a.eval x).cells e)):=by
  unfold execOp;rw[ho];simp[Instr.box,newVar,newRow]
 rw[hr,Oper.upon_value];have hA:bB w (w.alloc (.cells (a.eval x).cells e)):=(bB.refl w).alloc _;refine⟨put_defers ..,_,_,I.fresh (G':=λb=>if b=w.heap.size then 0 else G b) h100 hf hd hA (λb hb=>aC (by omega)) (x:=.pointer (some ⟨w.heap.size,0,none⟩)) (λg hg=>by cases hg;exact bX _) ?_ (.ref (jH ..) (by rw[bT];rfl))⟩;obtain⟨hc1,hc2⟩:=hdx.cells hv;refine⟨w.heap.size,(a.eval x).cells,bT,.inl I.kept.size,heap_alloc_new w _,aE rfl,hc1,λi u d' hu hd'=>?_⟩;obtain⟨q1,q2⟩:=hc2 i u d' hu hd';refine⟨q1.mono (λk hk=>⟨by simp[St.aN,hk],lE (λe=>?_)⟩) (λ_ _ _ h=>h.dI hA (λb hb=>aC (by omega))),q2⟩;rw[e,hf fr (bX _) (by omega)]at hk;cases hk
theorem CH{t:TypeId}{dsc:TypeDesc}(hu:P.underlying t=some dsc)(hd:dsc.isRow=false){w:World}{b i:Nat}{u:Value}(hc:w.cell? ⟨b,i,none⟩=some u):(Instr.loadAt t (.pointer (some ⟨b,i,none⟩))).run P w = .ok u w:=by
 have hagg:(isAgg t).run P w = .ok false w:=by
  unfold isAgg;rw[Sem.run_bind,run_underlying hu w];cases dsc <;> simp_all
 simp[Instr.loadAt,Instr.sureAddr,loadVar,Sem.run_bind,hagg,hc]
theorem nZ{ν:Nat->Value}{nm:Nat->Bool}{w:World}{G:bQ}{v:Value}{k off:Nat}(h:DR ν nm w G v (.ref k off)):∃g,aQ (ν k)=some g/\v = .pointer (some ⟨g,off,none⟩)/\nm k=true:=by
 cases h with|ref hk hg=>exact⟨_,hg,rfl,hk⟩
theorem aSB{t:TypeId}{dsc:TypeDesc}{x:Operand}{k off:Nat}{ob:aM}{d:D}(ho:o.op = .load t x)(hu:P.underlying t=some dsc)(hdsc:dsc.isRow=false)(hx:σ.ev x=some (.ref k off))(hk:σ.H k=some ob)(hc:ob.cells[off]?=some d):aU P o σ fr d []:=
 c7 λE σ₁ ν G w a hH I hev=>by
  obtain⟨g,hg,hv,_⟩:=nZ (hev x _ hx);obtain⟨g',u,hg',hcu,hdu,_⟩:=(I.H k ob (hH k ob hk)).2.cell hc;rw[hg]at hg';cases hg';refine⟨u,?_,hdu⟩;unfold execOp;rw[ho];simp[hv,CH hu hdsc hcu]
theorem aSA{t:TypeId}{dsc:TypeDesc}{x:Operand}{k off m:Nat}{ob:aM}{ds:List D}(ho:o.op = .load t x)(hu:P.underlying t=some dsc)(hdsc:dsc.isRow=true)(hi:(P.info? t).map (·.size)=some m)(hx:σ.ev x=some (.ref k off))(hk:σ.H k=some ob)
    (hc:(ob.cells.drop off).take m=ds) (hm:ds.length=m):aU P o σ fr (.agg ds) []:=
 c7 λE σ₁ ν G w a hH I hev=>by
  obtain⟨g,hg,hv,_⟩:=nZ (hev x _ hx);have hob:=(I.H k ob (hH k ob hk)).2;have hget:∀i d,ds[i]?=some d->ob.cells[off+i]?=some d:=λi d h=>by
   rw[<-hc,eY]at h;split at h
   .simpa using h
   .cases h
  have hall:∀i,i<m->∃u,w.cell? ⟨g,off+i,none⟩=some u/\∀d,ds[i]?=some d->DR ν σ₁.nm w G u d/\u.oneCell'=true:=λi h=>by
   have hd:ds[i]?=some ds[i]:=bM (by omega);obtain⟨g',u,hg',hcu,hdu,h1⟩:=hob.cell (hget i _ hd);rw[hg]at hg';cases hg';exact⟨u,hcu,λd h=>by rw[hd]at h;cases h;exact⟨hdu,h1⟩⟩
  let cs:List Value:=(fJ m).map λi=>(w.cell? ⟨g,off+i,none⟩).getD undef
  have hcs:∀i u,cs[i]?=some u->i<m/\w.cell? ⟨g,off+i,none⟩=some u:=λi u h=>by
   have hi:i<m:=by simpa[cs]using(bP.1 h).1
   obtain⟨u',h',_⟩:=hall i hi;simp[cs,hi,h']at h;exact⟨hi,by rw[h',h]⟩
  refine⟨.agg cs.toArray,?_,.agg (by simp[cs,hm]) (λi u d h h'=>?_) (λu h=>?_)⟩
  .unfold execOp
   rw[ho];simp only[hv,Sem.run_bind,run_loadAt_mid w g off t cs dsc (λj v h=>(hcs j v h).2) hu hdsc (by rw[hi];simp[cs])];rfl
  .obtain⟨hi,hcu⟩:=hcs i u (by simpa using h)
   obtain⟨u',h1,h2⟩:=hall i hi;rw[hcu]at h1;cases h1;exact(h2 d h').1
  .obtain⟨i,hiu⟩:=gK.1 (by simpa using h:u∈cs)
   obtain⟨hi,hcu⟩:=hcs i u hiu;obtain⟨u',h1,h2⟩:=hall i hi;rw[hcu]at h1;cases h1;exact(h2 _ (bM (by omega))).2
theorem CP{ν:Nat->Value}{nm:Nat->Bool}{w:World}{G:bQ}{v:Value}{ts:List Tree}{off:Nat}(h:DR ν nm w G v (.ptr ts off)):∃(b o:Nat)(us:List Value),v = .pointer (some ⟨b,o+off,none⟩)/\us.length=ts.length/\(∀(i:Nat)(u:Value),us[i]?=some u->Cell w G b (o+i) u)/\∀(i:Nat)(u:Value)(t:Tree),us[i]?=some u->ts[i]?=some t->TR w G u t:=by
 cases h with | @ptr b o _ us _ hl hc h=>exact⟨b,o,us,rfl,hl,hc,h⟩
theorem aRz{t:TypeId}{dsc:TypeDesc}{x:Operand}{ts:List Tree}{off:Nat}{tr:Tree}(ho:o.op = .load t x)(hu:P.underlying t=some dsc)(hdsc:dsc.isRow=false)(hx:σ.ev x=some (.ptr ts off))(hc:ts[off]?=some tr):aU P o σ fr (.t tr) []:=
 c7 λE σ₁ ν G w a hH I hev=>by
  obtain⟨b,q,us,hv,hl,hcu,htr⟩:=CP (hev x _ hx);have hi:off<us.length:=by rw[hl];exact(bP.1 hc).1
  have hu':us[off]?=some us[off]:=bM hi;refine⟨us[off],?_,.t (htr off _ tr hu' hc)⟩;unfold execOp;rw[ho];simp[hv,CH hu hdsc (hcu off _ hu').1]
theorem aRy{t:TypeId}{dsc:TypeDesc}{x:Operand}{ts xs:List Tree}{off m:Nat}(ho:o.op = .load t x)(hu:P.underlying t=some dsc)(hdsc:dsc.isRow=true)(hi:(P.info? t).map (·.size)=some m)(hx:σ.ev x=some (.ptr ts off))
    (hc:(ts.drop off).take m=xs) (hm:xs.length=m):aU P o σ fr (.agg (xs.map .t)) []:=
 c7 λE σ₁ ν G w a hH I hev=>by
  obtain⟨b,q,us,hv,hl,hcu,htr⟩:=CP (hev x _ hx);have hget:∀i d,xs[i]?=some d->ts[off+i]?=some d:=λi d h=>by
   rw[<-hc,eY]at h;split at h
   .simpa using h
   .cases h
  let cs:List Value:=(us.drop off).take m
  have hlen:cs.length=m:=by
   have h1:xs.length=min m (ts.length-off):=by rw[<-hc];simp
   simp only[cs,List.length_take,List.length_drop,hl];omega
  have hcs:∀i u,cs[i]?=some u->us[off+i]?=some u:=λi u h=>by
   simp only[cs,eY]at h;split at h
   .simpa using h
   .cases h
  refine⟨.agg cs.toArray,?_,.agg (by simp[hlen,hm]) (λi u d h h'=>?_) (λu h=>?_)⟩
  .unfold execOp
   rw[ho];simp only[hv,Sem.run_bind,run_loadAt_mid w b (q+off) t cs dsc (λj v h=>by rw[Aa];exact(hcu _ v (hcs j v h)).1) hu hdsc (by rw[hi,hlen])];rfl
  .rw[cD]at h'
   obtain⟨tr,h1,rfl⟩:=b9.1 h';exact .t (htr _ u tr (hcs i u (by simpa using h)) (hget i tr h1))
  .obtain⟨i,hiu⟩:=gK.1 (by simpa using h:u∈cs)
   have hi':i<xs.length:=by rw[hm,<-hlen];exact(bP.1 hiu).1
   exact(htr _ u _ (hcs i u hiu) (hget i _ (bM hi'))).one
def F1(P:Program)(s:TypeId)(f:Nat):Option Nat:=
 match P.underlying s with
 |some (.struct fs)=>match fs[f]? with
   |some fl=>match P.info? fl.type with
     |some i=>if i.size=0 then none else some fl.offset
     |none=>none
   |none=>none
 |_=>none
theorem aAy{s:TypeId}{f q:Nat}(h:F1 P s f=some q)(w:World)(b i:Nat):(Instr.fieldAt s (.pointer (some ⟨b,i,none⟩)) f).run P w = .ok (.pointer (some ⟨b,i+q,none⟩)) w:=by
 unfold F1 at h;split at h
 .rename_i fs hu
  split at h
  .rename_i fl hfl
   split at h
   .rename_i inf hinf
    split at h
    .cases h
    .rename_i h0
     cases h;simp[Instr.fieldAt,run_underlying hu,hfl,Instr.sureAddr,fieldPlace,sizeOf,typeInfo,hinf,h0,Addr.add_mid]
   .cases h
  .cases h
 .cases h
theorem aBe{s:TypeId}{x:Operand}{f q k off:Nat}(ho:o.op = .fieldAddr s x f)(hq:F1 P s f=some q)(hx:σ.ev x=some (.ref k off)):aU P o σ fr (.ref k (off+q)) []:=
 c7 λE σ₁ ν G w a hH I hev=>by
  have hr:=hev x _ hx;obtain⟨g,hg,hv,hk⟩:=nZ hr;refine⟨.pointer (some ⟨g,off+q,none⟩),?_,?_⟩
  .unfold execOp
   rw[ho];simp[hv,aAy hq]
  .exact .ref hk hg
theorem aSQ{s:TypeId}{x:Operand}{f q off:Nat}{ts:List Tree}(ho:o.op = .fieldAddr s x f)(hq:F1 P s f=some q)(hx:σ.ev x=some (.ptr ts off)):aU P o σ fr (.ptr ts (off+q)) []:=
 c7 λE σ₁ ν G w a hH I hev=>by
  obtain⟨b,i,us,hv,hl,hcu,htr⟩:=CP (hev x _ hx);refine⟨.pointer (some ⟨b,i+(off+q),none⟩),?_,.ptr hl hcu htr⟩;unfold execOp;rw[ho];simp[hv,aAy hq,Aa]
def lJ(P:Program)(t:TypeId):Option Nat:=
 match P.underlying t with
 |some (.slice e)=>(P.info? e).map (·.size)
 |_=>none
theorem Ei{t:TypeId}{s:Nat}(h:lJ P t=some s)(w:World)(b i n c:Nat)(k:IntKind)(j:Int)(h0:0<=j)(hn:j<n):
    (Instr.indexAt t (.slice (some ⟨b,i,none⟩) n c) (.int k j)).run P w = .ok (.pointer (some ⟨b,i+j.toNat*s,none⟩)) w:=by
 unfold lJ at h;split at h
 .rename_i e hu
  obtain⟨inf,hinf,hs⟩:=b9.1 h;simp[Instr.indexAt,run_underlying hu,asIntOf,sizeOf,typeInfo,hinf,hs,h0,hn,Addr.add_mid]
 .cases h
theorem LD{t:TypeId}{x y:Operand}{s n:Nat}{ts:List Tree}{k:IntKind}{j:Int}(ho:o.op = .indexAddr t x y)(hs:lJ P t=some s)(hx:σ.ev x=some (.t (.sl n ts)))(hy:σ.ev y=some (.t (.v (.int k j))))(h0:0<=j)(hn:j<n):
    aU P o σ fr (.ptr ts (j.toNat*s)) []:=
 c7 λE σ₁ ν G w a hH I hev=>by
  have hv:=hev x _ hx;have hj:=bY (hev y _ hy);obtain⟨v,he⟩:∃v,a.eval x=v:=⟨_,rfl⟩
  rw[he]at hv;cases hv with
  |t hv=>
    cases hv with
    |nil _=>omega
    |sl b i n c us _ hl hc hn' h=>
      refine⟨.pointer (some ⟨b,i+j.toNat*s,none⟩),?_,.ptr hl hc h⟩;unfold execOp;rw[ho];simp[he,hj,Ei hs w b i n c k j h0 hn]
theorem Ez{t:TypeId}{x y:Operand}{s n q:Nat}{ts:List Tree}{e:TypeId}{st:Bool}{s':Nat}{k:IntKind}{j:Int}(ho:o.op = .indexAddr t x y)(hs:lJ P t=some s)(hx:σ.ev x=some (.own q))(hq:σ.H q=some (.row e s' n ts st))(hy:σ.ev y=some (.t (.v (.int k j))))(h0:0<=j)(hn:j<n):
    aU P o σ fr (.ref q (j.toNat*s)) []:=
 c7 λE σ₁ ν G w a hH I hev=>by
  have hv:=hev x _ hx;have hj:=bY (hev y _ hy);obtain⟨v,he⟩:∃v,a.eval x=v:=⟨_,rfl⟩
  rw[he]at hv;cases hv with
  |own hk h1=>
    obtain⟨xs,r1,r2,r3,r4⟩:=(I.H q _ (hH q _ hq)).2;rcases r1.2 with⟨_,hz⟩|⟨g,cap,cur,hvv,_⟩
    .omega
    .refine⟨.pointer (some ⟨g,j.toNat*s,none⟩),?_,.ref hk (by rw[hvv];rfl)⟩
     unfold execOp;rw[ho];simp[he,hj,hvv,Ei hs w g 0 n cap k j h0 hn]
def A0(P:Program)(t:TypeId):Option (Nat×Nat):=
 match P.underlying t with
 |some (.array n e)=>(P.info? e).map λi=>(n,i.size)
 |_=>none
theorem aBb{t:TypeId}{x y:Operand}{s n q off:Nat}{k:IntKind}{j:Int}(ho:o.op = .indexAddr t x y)(hs:A0 P t=some (n,s))(hx:σ.ev x=some (.ref q off))(hy:σ.ev y=some (.t (.v (.int k j))))(h0:0<=j)(hn:j<n):
    aU P o σ fr (.ref q (off+j.toNat*s)) []:=
 c7 λE σ₁ ν G w a hH I hev=>by
  have hr:=hev x _ hx;have hj:=bY (hev y _ hy);obtain⟨g,hg,hv,hk⟩:=nZ hr;refine⟨.pointer (some ⟨g,off+j.toNat*s,none⟩),?_,?_⟩
  .unfold A0 at hs
   split at hs
   .rename_i n' e hu
    obtain⟨inf,hinf,he⟩:=b9.1 hs;simp only[Tb]at he;obtain⟨rfl,rfl⟩:=he;unfold execOp;rw[ho];simp[hv,hj,Instr.indexAt,run_underlying hu,Instr.sureAddr,asIntOf,sizeOf,typeInfo,hinf,h0,hn,Addr.add_mid]
   .cases hs
  .exact .ref hk hg
theorem aSN{t:TypeId}{x y:Operand}{s n off:Nat}{ts:List Tree}{k:IntKind}{j:Int}(ho:o.op = .indexAddr t x y)(hs:A0 P t=some (n,s))(hx:σ.ev x=some (.ptr ts off))(hy:σ.ev y=some (.t (.v (.int k j))))(h0:0<=j)(hn:j<n):
    aU P o σ fr (.ptr ts (off+j.toNat*s)) []:=
 c7 λE σ₁ ν G w a hH I hev=>by
  have hj:=bY (hev y _ hy);obtain⟨b,q,us,hv,hl,hcu,htr⟩:=CP (hev x _ hx);refine⟨.pointer (some ⟨b,q+(off+j.toNat*s),none⟩),?_,.ptr hl hcu htr⟩;unfold A0 at hs;split at hs
  .rename_i n' e hu
   obtain⟨inf,hinf,he⟩:=b9.1 hs;simp only[Tb]at he;obtain⟨rfl,rfl⟩:=he;unfold execOp;rw[ho];simp[hv,hj,Instr.indexAt,run_underlying hu,Instr.sureAddr,asIntOf,sizeOf,typeInfo,hinf,h0,hn,Addr.add_mid,Aa]
  .cases hs
end
end Go.Ab
/- The abstract machine: stores, appends, values that are built. -/
namespace Go.Ab
open Go.RowKit
def cO{α:Type}(l:List α)(off:Nat)(new:List α):List α:=l.take off++new++l.drop (off+new.length)
theorem tD{α:Type}{l:List α}{off:Nat}{new:List α}(h:off+new.length<=l.length):(cO l off new).length=l.length:=by
 simp[cO];omega
theorem Ec{α:Type}{l:List α}{off:Nat}{new:List α}(h:off+new.length<=l.length)(i:Nat):(cO l off new)[i]?=if i<off then l[i]? else if i<off+new.length then new[i-off]? else l[i]?:=by
 unfold cO;by_cases h1:i<off
 .rw[aE h1,fT,cZ (by simp;omega),eY,aE h1]
 .rw[aC h1]
  by_cases h2:i<off+new.length
  .rw[aE h2,fT,eE (by simp;omega),cZ (by simp;omega)]
   congr 1
   simp;omega
  .rw[aC h2,eE (by simp;omega),List.getElem?_drop]
   congr 1
   simp;omega
def l3(cur:Array Value):Nat->List Value->Array Value
 |_,[]=>cur
 |o,v::r=>l3 (cur.setIfInBounds o v) (o+1) r
theorem Ed:∀(vs:List Value)(cur:Array Value)(o:Nat),(l3 cur o vs).size=cur.size
 |[],_,_=>rfl
 |v::r,cur,o=>by rw[l3,Ed r];simp
theorem Ee:∀(vs:List Value)(cur:Array Value)(o i:Nat),o+vs.length<=cur.size->(l3 cur o vs)[i]?=if i<o then cur[i]? else if i<o+vs.length then vs[i-o]? else cur[i]?
 |[],cur,o,i,_=>by simp[l3];intro h;omega
 |v::r,cur,o,i,h=>by
   rw[dK]at h;rw[l3,Ee r _ _ i (by simp;omega)];by_cases h1:i<o
   .rw[aE (by omega),aE h1,nL (by omega)]
   .by_cases h2:i=o
    .subst h2
     rw[aE (by omega),aC h1,aE (show i<i+(v::r).length by rw[dK];omega),Fs];have hi:i<cur.size:=by omega
     simp[hi]
    .rw[aC (by omega),aC h1]
     by_cases h3:i<o+1+r.length
     .rw[aE h3,aE (show i<o+(v::r).length by rw[dK];omega),show i-o=(i-(o+1))+1 by omega]
      simp
     .rw[aC h3,aC (show ¬ i<o+(v::r).length by rw[dK];omega),nL (by omega)]
theorem aAs{w:World}{g o:Nat}{cur:Array Value}{e:TypeId}{fr:Nat×Nat}{v:Value}(h:w.heap[g]?=some (.cells cur e fr)):(w.setCell ⟨g,o,none⟩ v).heap[g]?=some (.cells (cur.setIfInBounds o v) e fr):=by
 have hlt:=FR h;have hv:w.heap[g] = .cells cur e fr:=(eF.1 h).2;unfold World.setCell;simp only;rw[iM (by simpa using hlt),Array.getElem_modify];simp[hv]
theorem Kc{g:Nat}{e:TypeId}{fr:Nat×Nat}:∀(vs:List Value)(o:Nat)(w:World)(cur:Array Value),w.heap[g]?=some (.cells cur e fr)->(w.setCells g o vs).heap[g]?=some (.cells (l3 cur o vs) e fr)
 |[],_,_,_,h=>h
 |_::r,o,_,_,h=>Kc r (o+1) _ _ (aAs h)
theorem Kb{g:Nat}:∀(vs:List Value)(o:Nat)(w:World),(w.setCells g o vs).os=w.os/\(w.setCells g o vs).tape=w.tape/\(w.setCells g o vs).output=w.output/\(w.setCells g o vs).heap.size=w.heap.size/\∀b,b≠g->(w.setCells g o vs).heap[b]?=w.heap[b]?
 |[],_,_=>⟨rfl,rfl,rfl,rfl,λ_ _=>rfl⟩
 |v::r,o,w=>by
   obtain⟨h1,h2,h3,h4,h5⟩:=Kb r (o+1) (w.setCell ⟨g,o,none⟩ v);refine⟨h1,h2,h3,h4.trans (by simp[World.setCell]),λb hb=>(h5 b hb).trans ?_⟩;simp[World.setCell,Array.getElem?_modify,dW hb]
theorem Kg{P:Program}{w:World}{b o:Nat}{ty:TypeId}{v:Value}(ht:w.there b o v.cells.size)(hi:(P.info? ty).map (·.size)=some v.cells.size)(h1:∀u∈v.cells.toList,u.oneCell'=true):
    (Instr.storeAt ty (.pointer (some ⟨b,o,none⟩)) v).run P w = .ok () (w.setCells b o v.cells.toList):=by
 have:=run_storeAt_mid (P:=P) w b o ty v.cells ht hi (by rw[aXe];exact λx hx=>h1 x (Array.mem_toList_iff.2 hx));rw[<-this];rfl
def rB:List D->Option (List Tree)
 |[]=>some []
 |.t x::l=>(rB l).map (x :: ·)
 |_::_=>none
theorem aD6:∀{new:List D}{xs:List Tree},rB new=some xs->new=xs.map .t
 |[],xs,h=>by cases h;rfl
 |d::l,xs,h=>by
   cases d with
   |t x=>
     simp only[rB]at h;obtain⟨ys,hy,rfl⟩:=b9.1 h;rw[aD6 hy];rfl
   |_=>cases h
def aM.put:aM->Nat->List D->Option aM
 |.box e ds,off,new=>if off+new.length<=ds.length then some (.box e (cO ds off new))else none
 |.row e s n ts st,off,new=>if off+new.length<=ts.length/\st=false then(rB new).map λxs=>.row e s n (cO ts off xs) st else none
 |.nest ..,_,_=>none
 |.mp ..,_,_=>none
 |.it ..,_,_=>none
 |.bI ..,_,_=>none
theorem aM.aBT{ob ob':aM}{off:Nat}{new:List D}(hp:ob.put off new=some ob'){w w':World}{v:Value}{g:Nat}:(bK w' v ob' g ↔ aQ v=some g)/\(bK w v ob g ↔ aQ v=some g):=by
 cases ob with
 |nest=>cases hp
 |mp=>cases hp
 |it=>cases hp
 |bI=>cases hp
 |box e ds=>
   simp only[aM.put]at hp;split at hp
   .cases hp;exact⟨kZ,kZ⟩
   .cases hp
 |row e s n ts st=>
   simp only[aM.put]at hp;split at hp
   .obtain⟨ys,_,rfl⟩:=b9.1 hp
    exact⟨kZ,kZ⟩
   .cases hp
theorem eR.put{E:Env}{ν:Nat->Value}{nm:Nat->Bool}{w:World}{G:bQ}{k:Nat}{ob ob':aM}{off:Nat}{new:List D}{vs:List Value}(h:eR E ν nm w G k ob)(hp:ob.put off new=some ob')(hl:vs.length=new.length)
    (hv:∀(i:Nat)(u:Value)(d:D),vs[i]?=some u->new[i]?=some d->DR ν nm w G u d/\u.oneCell'=true) (hpos:0<new.length):
    ∃g,aQ (ν k)=some g/\w.there g off vs.length/\G g=0/\∀w',(∀b i u,Cell w G b i u->Cell w' G b i u)->w'=w.setCells g off vs->eR E ν nm w' G k ob':=by
 cases ob with
 |nest=>cases hp
 |mp=>cases hp
 |it=>cases hp
 |bI=>cases hp
 |box e ds=>
   obtain⟨g,cur,h1,h2,h3,h4,h5,h6⟩:=h;simp only[aM.put]at hp;split at hp
   .rename_i hle
    cases hp;refine⟨g,by rw[h1];rfl,λj hj=>⟨?_,by simp[World.frozen?,h3]⟩,h4,λw' hx hw=>?_⟩
    .rw[AV h3,iM (by omega)];rfl
    .subst hw
     refine⟨g,_,h1,h2,Kc vs off w cur h3,h4,by rw[Ed,h5,tD hle],λi u d hu hd=>?_⟩;rw[Ee _ _ _ _ (by omega)]at hu;rw[Ec hle]at hd;by_cases c1:i<off
     .rw[aE c1]at hu hd
      exact⟨(h6 i u d hu hd).1.mono (λ_ h=>⟨h,rfl⟩) hx,(h6 i u d hu hd).2⟩
     .rw[aC c1]at hu hd
      by_cases c2:i<off+vs.length
      .rw[aE c2]at hu
       rw[aE (by omega)]at hd;exact⟨(hv _ u d hu hd).1.mono (λ_ h=>⟨h,rfl⟩) hx,(hv _ u d hu hd).2⟩
      .rw[aC c2]at hu
       rw[aC (by omega)]at hd;exact⟨(h6 i u d hu hd).1.mono (λ_ h=>⟨h,rfl⟩) hx,(h6 i u d hu hd).2⟩
   .cases hp
 |row e s n ts st=>
   obtain⟨xs,h1,h2,h3,h4⟩:=h;simp only[aM.put]at hp;split at hp
   .rename_i hle
    obtain⟨hle,rfl⟩:=hle;obtain⟨ys,hys,rfl⟩:=b9.1 hp;have hnew:=aD6 hys;subst hnew;simp only[List.length_map]at hle hl hpos;rcases h1.2 with⟨_,hz⟩|⟨g,cap,cur,hvv,r1,r2,r3,r4,r5,r6⟩
    .have:=h1.1
     rw[hz,pT]at this;omega
    .have hGg:=(h4 g (by rw[hvv];rfl)).2
     simp only[if_false,Aj]at hGg;have hxl:xs.length<=cur.size:=by rw[<-r6];simp;omega
     refine⟨g,by rw[hvv];rfl,λj hj=>⟨?_,by simp[World.frozen?,r2]⟩,hGg,λw' hx hw=>?_⟩
     .rw[AV r2,iM (by omega)];rfl
     .subst hw
      refine⟨cO xs off vs,⟨by rw[tD (by omega)];exact h1.1,.inr ⟨g,cap,_,hvv,r1,Kc vs off w cur r2,r3,r4,by rw[Ed];exact r5,?_⟩⟩,by rw[tD (by omega),tD (by omega)];exact h2,λi u t hu ht=>?_,λg' hg'=>h4 g' hg'⟩
      .apply Ae
       intro i;rw[eY,Ec (by omega)];have hxn:xs.length=n*s:=h1.1;have hget:∀j,j<n*s->cur[j]?=xs[j]?:=λj hj=>by rw[<-r6,eY,aE hj];simp
       by_cases c0:i<n*s
       .rw[aE c0]
        have:(l3 cur off vs).toList[i]?=(l3 cur off vs)[i]?:=by simp
        rw[this,Ee _ _ _ _ (by omega)];by_cases c1:i<off
        .rw[aE c1,aE c1,hget i c0]
        .rw[aC c1,aC c1]
         by_cases c2:i<off+vs.length
         .rw[aE c2,aE c2]
         .rw[aC c2,aC c2,hget i c0]
       .rw[aC c0,aC (by omega),aC (by omega),rI (by omega)]
      .rw[Ec (by omega)]at hu ht
       by_cases c1:i<off
       .rw[aE c1]at hu ht
        exact(h3 i u t hu ht).mono hx
       .rw[aC c1]at hu ht
        by_cases c2:i<off+vs.length
        .rw[aE c2]at hu
         rw[aE (by omega)]at ht;have:=(hv _ u (.t t) hu (by rw[cD,ht];rfl)).1;cases this with|t h=>exact h.mono hx
        .rw[aC c2]at hu
         rw[aC (by omega)]at ht;exact(h3 i u t hu ht).mono hx
   .cases hp
section
variable{P:Program}{o:Oper}{σ:St}{fr:Nat}
inductive Ah (σ:St) (y:Operand):D->Prop
 |ev {d:D} (h:σ.ev y=some d):Ah σ y d
 |own {k n:Nat} {e:TypeId} {s:Nat} {ts:List Tree} (h:σ.ev y=some (.own k)) (hk:σ.H k=some (.row e s n ts true)):Ah σ y (.t (.sl n ts))
 |wk {d d':D} (h:σ.ev y=some d) (hw:bR σ.H d d'):Ah σ y d'
theorem Ah.rel{y:Operand}{d:D}(h:Ah σ y d){σ₁:St}(hT:∀t d,σ.T t=some d->σ₁.T t=some d)(hH:∀k o,σ.H k=some o->σ₁.H k=some o){E:Env}{ν:Nat->Value}{G:bQ}{w:World}{a:Act}(I:Inv E σ₁ ν G w a.tmps):DR ν σ₁.nm w G (a.eval y) d:=by
 cases h with
 |ev h=>exact I.ev (St.cP hT h)
 |own h hk=>
   have hv:=I.ev (St.cP hT h);obtain⟨v,he⟩:∃v,a.eval y=v:=⟨_,rfl⟩
   rw[he]at hv ⊢;cases hv with
   |own _ _=>exact .t (I.rows _ _ _ _ _ _ (hH _ _ hk) rfl)
 |wk h hw=>exact hw _ _ _ _ _ _ hH I _ (I.ev (St.cP hT h))
theorem LB{t:TypeId}{x y:Operand}{k off:Nat}{ob ob':aM}{d:D}(ho:o.op = .store t x y)(hi:(P.info? t).map (·.size)=some d.cells.length)(hx:σ.ev x=some (.ref k off))(hy:Ah σ y d)(hv:d.val=true)(hk:σ.H k=some ob)
    (hp:ob.put off d.cells=some ob') (hpos:0<d.cells.length):aU P o σ fr (.aT []) [(k,some ob')]:=by
 intro E σ₁ a w hT hH h100 hf hd ⟨ν,G,I⟩ Q;obtain⟨g,hg,hvx,hkn⟩:=nZ (I.ev (St.cP hT hx));have hdy:=hy.rel hT hH I;obtain⟨hc1,hc2⟩:=hdy.cells hv;have hob:=(I.H k ob (hH k ob hk)).2;obtain⟨g',hg',hthere,hG0,hnew⟩:=hob.put hp (vs:=(a.eval y).cells.toList) (by simpa using hc1) (λi u d' hu hd'=>hc2 i u d' (by simpa using hu) hd') hpos;rw[hg]at hg';cases hg';have hr:(Instr.storeAt t (.pointer (some ⟨g,off,none⟩)) (a.eval y)).run P w = .ok () (w.setCells g off (a.eval y).cells.toList):=
  Kg (by simpa using hthere) (by rw[hi,hc1]) (λu hu=>by
   obtain⟨i,hiu⟩:=gK.1 hu;have hlt:i<d.cells.length:=by rw[<-hc1];simpa using(bP.1 hiu).1
   exact(hc2 i u _ (by simpa using hiu) (bM hlt)).2)
 obtain⟨s1,s2,s3,s4,s5⟩:=Kb (g:=g) (a.eval y).cells.toList off w;obtain⟨w',hw'⟩:∃w',w.setCells g off (a.eval y).cells.toList=w':=⟨_,rfl⟩
 rw[hw']at hr s1 s2 s3 s4 s5;have hcell:∀b i u,Cell w G b i u->Cell w' G b i u:=λb i u h=>by
  have hne:b≠g:=λe=>by have:=h.2;rw[e,hG0]at this;omega
  exact⟨(World.cell?_of_block (a:=⟨b,i,none⟩) (s5 b hne)).trans h.1,h.2⟩
 have hmay:E.may g:=hob.Rl hg;unfold Oper.wp;have he:(execOp a.eval o).run P w = .ok .skip w':=by
  unfold execOp;rw[ho];simp only[hvx,Sem.run_bind,hr];rfl
 rw[he,Oper.upon_skip];have hnm:∀j,σ₁.nm j=true->(σ₁.aN o.dst (.aT []) [(k,some ob')] fr).nm j=true/\ν j=ν j:=λj hj=>⟨by simp[St.aN,hj],rfl⟩
 refine⟨put_defers ..,ν,G,⟨s1.trans I.kept.os,s2.trans I.kept.tape,s3.trans I.kept.output,by rw[s4];exact I.kept.size,λb hb hX=>?_⟩,λb i u h=>hcell b i u (I.cS b i u h),I.eL,I.g0,?_,λt' d' h=>?_,λj oj h=>?_,λj1 o1 j2 o2 h1 h2 hne=>?_⟩
 .refine(s5 b (λe=>?_)).trans (I.kept.block b hb hX)
  subst e;rcases hmay with h|h
  .omega
  .exact hX h
 .cases o.dst <;> simp[Act.put,I.sz]
 .simp only[St.aN]at h
  split at h
  .rename_i he'
   cases h;have:=hd t' he';exact⟨undef,by simp[he',Act.put,I.sz,this],EZ⟩
  .rename_i he'
   obtain⟨u,hu,hdu⟩:=I.T t' d' h;refine⟨u,?_,hdu.mono hnm hcell⟩;cases hds:o.dst with
   |none=>simpa[Act.put]using hu
   |some t''=>
     have hne:t''≠t':=λe=>he' (by rw[hds,e])
     simp only[Act.put];rw[nL hne];exact hu
 .by_cases hj:j=k
  .subst hj
   simp[St.aN,look]at h;subst h;have h1:=(I.H j ob (hH j ob hk)).1;refine⟨(hnm j h1).1,eR.mono h1 hnm (λ_ _ _ h=>h) (λ_ _=>⟨rfl,rfl⟩) (hnew w' hcell hw'.symm)⟩
  .have h':σ₁.H j=some oj:=by simpa[St.aN,look,dW hj]using h
   obtain⟨h1,h2⟩:=I.H j oj h';refine⟨(hnm j h1).1,h2.mono h1 hnm hcell (λg' hg'=>⟨s5 g' (λe=>?_),rfl⟩)⟩;subst e;exact I.cF j oj k ob h' (hH k ob hk) hj g' hg' (dT hg)
 .have back:∀j oj,(σ₁.aN o.dst (.aT []) [(k,some ob')] fr).H j=some oj->∃oj',σ₁.H j=some oj'/\∀g',bK w' (ν j) oj g'->bK w (ν j) oj' g':=λj oj h=>by
   by_cases hj:j=k
   .subst hj
    simp[St.aN,look]at h;subst h;exact⟨ob,hH j ob hk,λg' hg'=>(aM.aBT (w:=w) (w':=w') hp).2.2 ((aM.aBT (w:=w) (w':=w') hp).1.1 hg')⟩
   .have h':σ₁.H j=some oj:=by simpa[St.aN,look,dW hj]using h
    refine⟨oj,h',λg' hg'=>(qY λb hb=>s5 b λe=>?_).1 hg'⟩;subst e;exact I.cF j oj k ob h' (hH k ob hk) hj b (dT hb) (dT hg)
  obtain⟨o1',h1',f1⟩:=back j1 o1 h1;obtain⟨o2',h2',f2⟩:=back j2 o2 h2;exact λg' hg1 hg2=>I.cF j1 o1' j2 o2' h1' h2' hne g' (f1 g' hg1) (f2 g' hg2)
end
end Go.Ab
/- The abstract machine: appends, values that are built, parts of values, lengths. -/
namespace Go.Ab
open Go.RowKit
structure kA(P:Program)(t e:TypeId)(z:Value)(s bytes:Nat):Prop where
 u:P.underlying t=some (.slice e)
 i:(P.info? e).map (λi=>(i.zero,i.size,i.bytes))=some (some z,s,bytes)
 z:z.cells.size=s
 s:0<s
theorem Ej{P:Program}{t ty e:TypeId}{z:Value}{s bytes:Nat}(hT:kA P t e z s bytes){w:World}{v:Value}{n:Nat}{xs:List Value}(hown:w.ownsRow 0 e s v n xs){ax:Option Addr}{m c:Nat}{news:List Value}(hl:news.length=m*s)(hnews:Rd w ax news)(hc:ax=none->c=0)
    (h1:∀u∈news,u.oneCell'=true) (h63:n+m<=maxLen) (hbytes:(n+m)*bytes<=140737488355328):
    ∃v' w',(Builtin.append_ #[t,t] ty #[v,.slice ax m c]).run P w = .ok v' w'/\w'.ownsRow 0 e s v' (n+m) (xs++news)/\w'.os=w.os/\w'.tape=w.tape/\w'.output=w.output/\w.heap.size<=w'.heap.size /\
     (∀b,b<w.heap.size->v.ownBlock≠some b->w'.heap[b]?=w.heap[b]?)/\(∀g i,v.ownBlock=some g->i<n*s->w'.cell? ⟨g,i,none⟩=w.cell? ⟨g,i,none⟩)/\∀g,v'.ownBlock=some g->w.heap.size<=g\/v.ownBlock=some g:=by
 obtain⟨i,hi,hz,h2,h3⟩:=info_parts hT.i;cases ax with
 |none=>
   have hnil:news=[]:=Rd.aT4 hnews;subst hnil;have hm:m=0:=by
    have:=hl;simp only[List.length_nil]at this;rcases Nat.mul_eq_zero.1 this.symm with h|h
    .exact h
    .have:=hT.s;omega
   subst hm;have:=hc rfl;subst this;have hsame:(Builtin.append_ #[t,t] ty #[v,.slice none 0 0]).run P w = .ok v w:=by
    rcases hown.2 with⟨rfl,rfl⟩|⟨g,cap,cur,rfl,_,hg,hnc,_,_,_⟩
    .simp[Builtin.append_,run_underlying hT.u,sizeOf,typeInfo,hi,Builtin.lenOf,Builtin.firstCells]
    .simp[Builtin.append_,run_underlying hT.u,sizeOf,typeInfo,hi,Builtin.lenOf,Builtin.firstCells,hnc,storeCells]
   exact⟨v,w,hsame,by simpa using hown,rfl,rfl,rfl,bX _,λ_ _ _=>rfl,λ_ _ _ _=>rfl,λg hg=>.inr hg⟩
 |some ad=>
   have hn':∀j u,news[j]?=some u->w.cell? (ad.add j)=some u:=λj u hj=>by
    obtain⟨ad',e',hc'⟩:=hnews j u hj;cases e';exact hc'
   obtain⟨v',w',hr,r2,r3,r4⟩:=run_append_own (P:=P) w 0 t ty e i z s bytes hT.u hi hz h2 h3 hT.z hT.s v n xs hown ad m c news hl hn' h1 h63 hbytes (dC _);have key:(v'.ownBlock=v.ownBlock/\(m=0\/v'.ownBlock≠none))\/(v'.ownBlock=some w.heap.size/\∀b,b<w.heap.size->w'.heap[b]?=w.heap[b]?):=by
    rcases hown.2 with⟨rfl,rfl⟩|⟨g,cap,cur,rfl,_,hg,hnc,hcm,hcs,htake⟩
    .by_cases hm:m=0
     .left
      rw[r4.2 ⟨rfl,hm⟩];exact⟨rfl,.inl hm⟩
     .right
      have hr':=run_append_nil (P:=P) w t ty e i z hT.u hi hz ad m c news (by rw[h2];exact hl) hn' (by omega) (by simp only[maxLen]at h63;omega) (by rw[h3];simp only[cY]at hbytes;omega);rw[hr']at hr;cases hr;exact⟨rfl,λb hb=>heap_alloc_old _ _ hb⟩
    .by_cases hroom:n+m<=cap
     .left
      have hfit:n*i.size+news.length<=cur.size:=by rw[hl,hcs,h2,<-Nat.add_mul];exact kK _ hroom
      have hr':=run_append_room (P:=P) w t ty e i hT.u hi g n cap cur hg ad m c news (by rw[h2];exact hl) hn' h1 hroom hfit;rw[hr']at hr;cases hr;exact⟨rfl,.inr (by simp[Value.ownBlock])⟩
     .right
      have holds:∀j u,xs[j]?=some u->w.cell? ((⟨g,0,none⟩:Addr).add j)=some u:=hown.cells (g:=g) rfl
      have hr':=run_append_grow (P:=P) w t ty e i z hT.u hi hz ⟨g,0,none⟩ n cap xs (by rw[h2];exact hown.1) holds ad m c news (by rw[h2];exact hl) hn' (by omega) (by simp only[maxLen]at h63;omega) (growslice_fits (by omega) (by rw[h3];exact hbytes));rw[hr']at hr;cases hr;exact⟨rfl,λb hb=>heap_alloc_old _ _ hb⟩
   refine⟨v',w',hr,r2,r3.os,r3.tape,r3.output,r3.size,λb hb hne=>r3.block b hb (λe=>hne e.symm),λg j hg hj=>?_,λg hg=>?_⟩
   .have hgl:g<w.heap.size:=(hown.lt g hg).2
    rcases key with⟨k1,_⟩|⟨_,k2⟩
    .have hx:xs[j]?=some (xs[j]'(by rw[hown.1];exact hj)):=bM _
     have c1:=hown.cells hg j _ hx;have c2:=r2.cells (g:=g) (by rw[k1];exact hg) j _ (by rw[cZ (by rw[hown.1];exact hj)];exact hx);rw[Addr.add_mid,cY]at c1 c2;rw[c1,c2]
    .exact World.cell?_of_block (a:=⟨g,j,none⟩) (k2 g hgl)
   .rcases key with⟨k1,_⟩|⟨k1,_⟩
    .exact .inr (by rw[<-k1];exact hg)
    .rw[k1]at hg;cases hg;exact .inl (bX _)
inductive Src (σ:St) (x:Operand):Nat->List Tree->Prop
 |t {n:Nat} {ts:List Tree} (h:σ.ev x=some (.t (.sl n ts))):Src σ x n ts
 |own {k n:Nat} {ts:List Tree} {e:TypeId} {s:Nat} {st:Bool} (h:σ.ev x=some (.own k)) (hk:σ.H k=some (.row e s n ts st)):Src σ x n ts
 |nil (h:σ.ev x=some (.t (.v (.slice none 0 0)))):Src σ x 0 []
theorem Src.rd{σ σ₁:St}{x:Operand}{n:Nat}{ts:List Tree}(h:Src σ x n ts){E:Env}{ν:Nat->Value}{G:bQ}{w:World}{a:Act}(hT:∀t d,σ.T t=some d->σ₁.T t=some d)(hH:∀k o,σ.H k=some o->σ₁.H k=some o)(I:Inv E σ₁ ν G w a.tmps):
    ∃ax c us,a.eval x = .slice ax n c/\us.length=ts.length/\Rd w ax us/\(ax=none->c=0/\n=0)/\∀(i:Nat)(u:Value)(t:Tree),us[i]?=some u->ts[i]?=some t->TR w G u t:=by
 cases h with
 |t h=>
   have hv:=I.ev (St.cP hT h);obtain⟨v,he⟩:∃v,a.eval x=v:=⟨_,rfl⟩
   rw[he]at hv ⊢;cases hv with
   |t hv=>
     cases hv with
     |nil h0=>exact⟨_,_,[],rfl,rfl,Rd.nil,λe=>⟨h0 e,rfl⟩,λi u t h=>by simp at h⟩
     |sl b q _ c us _ hl hc hn h=>exact⟨_,c,us,rfl,hl,λj u hj=>⟨_,rfl,by rw[Addr.add_mid];exact(hc j u hj).1⟩,(λe=>by cases e),h⟩
 |own h hk=>
   have hv:=I.ev (St.cP hT h);obtain⟨v,he⟩:∃v,a.eval x=v:=⟨_,rfl⟩
   rw[he]at hv ⊢;cases hv with
   |own _ _=>
     obtain⟨xs,r1,r2,r3,r4⟩:=(I.H _ _ (hH _ _ hk)).2;rcases r1.2 with⟨hv,hn⟩|⟨g,cap,cur,hv,_⟩
     .have hx:xs=[]:=List.eq_nil_of_length_eq_zero (by rw[r1.1,hn,pT])
      exact⟨none,0,xs,by rw[hv,hn],r2,by rw[hx];exact Rd.nil,λ_=>⟨rfl,hn⟩,r3⟩
     .exact⟨_,cap,xs,hv,r2,λj u hj=>⟨_,rfl,r1.cells (by rw[hv];rfl) j u hj⟩,(λe=>by cases e),r3⟩
 |nil h=>
   have hv:=bY (I.ev (St.cP hT h));exact⟨none,0,[],hv,rfl,Rd.nil,λ_=>⟨rfl,rfl⟩,λi u t h=>by simp at h⟩
inductive MJ (σ:St) (s:Operand) (e:TypeId) (size:Nat) (st:Bool):Option Nat->Nat->List Tree->Prop
 |own {k n:Nat} {ts:List Tree} (h:σ.ev s=some (.own k)) (hk:σ.H k=some (.row e size n ts st)):MJ σ s e size st (some k) n ts
 |nil (h:σ.ev s=some (.t (.v (.slice none 0 0)))):MJ σ s e size st none 0 []
 |aT6 (h:σ.ev s=some (.t (.sl 0 []))) (hnil:False):MJ σ s e size st none 0 []
def gE(k0:Option Nat)(fr:Nat)(o:aM):Wr:=match k0 with|some k=>[(fr,some o),(k,none)]|none=>[(fr,some o)]
section
variable{P:Program}{o:Oper}{σ:St}{fr:Nat}
theorem vB{t e:TypeId}{z:Value}{size bytes:Nat}(st:Bool){s x:Operand}{k0:Option Nat}{n m:Nat}{ts ys:List Tree}(hT:kA P t e z size bytes)(ho:o.op = .call { callee:=.builtin .append,args:=#[s,x],argTypes:=#[t,t] })
    (hs:MJ σ s e size st k0 n ts) (hx:Src σ x m ys) (hl:ys.length=m*size) (hb:(n+m)*bytes<=140737488355328/\n+m<=maxLen):aU P o σ fr (.own fr) (gE k0 fr (.row e size (n+m) (ts++ys) st)):=by
 intro E σ₁ a w hTT hHH h100 hf hd ⟨ν,G,I⟩ Q;obtain⟨ax,c,us,hxv,hul,hrd,hnone,htr⟩:=hx.rd hTT hHH I;have hone:∀u∈us,u.oneCell'=true:=λu hu=>by
  obtain⟨i,hi⟩:=gK.1 hu;have hlt:i<ys.length:=by rw[<-hul];exact(bP.1 hi).1
  exact(htr i u _ hi (bM hlt)).one
 -- the row that grows
 have hrow:∃v xs,a.eval s=v/\w.ownsRow 0 e size v n xs/\xs.length=ts.length/\(∀(i:Nat)(u:Value)(t:Tree),xs[i]?=some u->ts[i]?=some t->TR w G u t)/\(∀k,some k=k0->ν k=v/\∃ob,σ₁.H k=some ob)/\(k0=none->v.ownBlock=none) /\
     (∀g,v.ownBlock=some g->E.may g/\G g=if st then n*size else 0):=by
  cases hs with
  | @own k _ _ h hk=>
    have hv:=I.ev (St.cP hTT h);obtain⟨v,he⟩:∃v,a.eval s=v:=⟨_,rfl⟩
    rw[he]at hv;cases hv with
    |own _ _=>
      obtain⟨xs,r1,r2,r3,r4⟩:=(I.H _ _ (hHH _ _ hk)).2;exact⟨_,xs,he,r1,r2,r3,(λk' hk'=>by cases hk';exact⟨rfl,_,hHH _ _ hk⟩),(λe=>by cases e),λg hg=>r4 g (TG hg)⟩
  |nil h=>
    have hv:=bY (I.ev (St.cP hTT h));exact⟨_,[],hv,World.ownsRow_nil w 0 e size,rfl,(λi u t h=>by simp at h),(λk h=>by cases h),(λ_=>rfl),(λg hg=>by cases hg)⟩
  |aT6 h hn=>exact hn.elim
 obtain⟨v,xs,hsv,hown,hxl,hxt,hk0,hk0n,hmay⟩:=hrow;obtain⟨v',w',hr,r2,q1,q2,q3,q4,q5,q6,q7⟩:=Ej (ty:=o.type) hT hown (m:=m) (c:=c) (by rw[hul];exact hl) hrd (λe=>(hnone e).1) hone hb.2 hb.1;unfold Oper.wp;have he:(execOp a.eval o).run P w = .ok (.value v') w':=by
  unfold execOp;rw[ho];simp[resolve,invoke,builtin,hsv,hxv,hr]
 rw[he,Oper.upon_value];have hcell:∀b i u,Cell w G b i u->Cell w' (λb=>if v'.ownBlock=some b then(if st then(n+m)*size else 0)else G b) b i u:=λb i u h=>by
  by_cases hb':v.ownBlock=some b
  .have hG:=(hmay b hb').2
   have h2:=h.2;rw[hG]at h2;cases st with
   |false=>simp at h2
   |true=>
     simp only[fH]at h2 hG;refine⟨(q6 b i hb' h2).trans h.1,?_⟩;show i<if v'.ownBlock=some b then(if true=true then(n+m)*size else 0)else G b
     split
     .simp only[fH]
      exact kL h2 (kK _ (Nat.le_add_right _ _))
     .rw[hG];exact h2
  .refine⟨(World.cell?_of_block (a:=⟨b,i,none⟩) (q5 b h.lt hb')).trans h.1,?_⟩
   have:v'.ownBlock≠some b:=λe=>by
    rcases q7 b e with h'|h'
    .have:=h.lt;omega
    .exact hb' h'
   simp only[aC this];exact h.2
 have hblkv:∀g,aQ v'=some g->v'.ownBlock=some g:=λg hg=>by rw[<-iB r2];exact hg
 refine⟨put_defers ..,bU ν fr v',_,I.new h100 hf hd k0 (o:=.row e size (n+m) (ts++ys) st) (λk=>?_) q1 q2 q3 q4 (λb hb hnk=>?_) hcell (λk hk=>(hk0 k hk).2) (x:=v') (λg hg=>?_) ?_ ?_⟩
 .cases k0 with
  |none=>
    by_cases h:k=fr
    .subst h;simp[gE,look]
    .simp[gE,look,h,dW h]
  |some j=>
    by_cases h:k=fr
    .subst h;simp[gE,look]
    .by_cases h':k=j
     .subst h';simp[gE,look,h,dW h]
     .simp[gE,look,h,dW h,h',dW h']
 .have hne:v.ownBlock≠some b:=λe=>by
   cases k0 with
   |none=>rw[hk0n rfl]at e;cases e
   |some j=>exact hnk j rfl (by rw[(hk0 j rfl).1,iB hown];exact e)
  refine⟨q5 b hb hne,aC (λe=>?_)⟩;rcases q7 b e with h|h
  .omega
  .exact hne h
 .rcases q7 g (hblkv g hg)with h|h
  .exact .inl h
  .cases k0 with
   |none=>rw[hk0n rfl]at h;cases h
   |some j=>exact .inr ⟨j,rfl,by rw[(hk0 j rfl).1,iB hown];exact h⟩
 .refine⟨xs++us,by rw[bT];exact r2,by simp[hxl,hul],λi u t hu ht=>?_,λg hg=>?_⟩
  .by_cases hi:i<xs.length
   .rw[cZ hi]at hu
    rw[cZ (by omega)]at ht;exact(hxt i u t hu ht).mono hcell
   .rw[eE (by omega)]at hu
    rw[eE (by omega)]at ht;exact(htr _ u t hu (by rw[hxl];exact ht)).mono hcell
  .rw[bT]at hg
   have hg':=hblkv g hg;refine⟨?_,aE hg'⟩;rcases q7 g hg' with h|h
   .exact .inl (iR I.kept.size h)
   .exact(hmay g h).1
 .have:DR (bU ν fr v') (σ₁.aN o.dst .any (gE k0 fr (.row e size (n+m) (ts++ys) st)) fr).nm w' (λb=>if v'.ownBlock=some b then(if st then(n+m)*size else 0)else G b) (bU ν fr v' fr) (.own fr):=.own (jH ..) (by rw[bT];exact kV r2)
  rw[bT]at this;exact this
theorem jU{t:TypeId}{x:Operand}{n:Nat}{ts:List Tree}{e:TypeId}{tys:Array TypeId}(hu:P.underlying t=some (.slice e))(ho:o.op = .call { callee:=.builtin .len,args:=#[x],argTypes:=tys })(hty:tys = #[t])(hx:Src σ x n ts):aU P o σ fr (I n) []:=by
 intro E σ₁ a w hT hH h100 hf hd ⟨ν,G,I⟩ Q;obtain⟨ax,c,us,hxv,_⟩:=hx.rd hT hH I;subst hty;unfold Oper.wp;have he:(execOp a.eval o).run P w = .ok (.value (.int .i64 n)) w:=by
  unfold execOp;rw[ho];simp[resolve,invoke,builtin,hxv,Builtin.len_,run_underlying hu,goInt]
 rw[he,Oper.upon_value];exact⟨put_defers ..,ν,G,I.put (.t (.v _ rfl)) hd fr a rfl⟩
def gY(pl:List (Nat×Nat)):List D->List (Nat×D)->Option (List D)
 |cells,[]=>some cells
 |cells,(i,d)::rest=>match pl[i]? with
   |none=>none
   |some (off,size)=>if d.val&&(d.cells.length == size)&&decide (off+d.cells.length<=cells.length)then gY pl (cO cells off d.cells) rest else none
theorem aCa:∀(vs:List Value)(k off:Nat)(cells:Array Value),(vs.zipIdx k).foldl (λcs (c,j)=>cs.setIfInBounds (off+j) c) cells=l3 cells (off+k) vs
 |[],_,_,_=>rfl
 |v::r,k,off,cells=>by
   rw[List.zipIdx_cons,List.foldl_cons,aCa r (k+1) off,l3,Aa]
theorem FZ{ν:Nat->Value}{nm:Nat->Bool}{w:World}{G:bQ}{place:Nat->Option (Nat×Nat)}{pl:List (Nat×Nat)}(hpl:∀i p,pl[i]?=some p->place i=some p):∀(parts:List (Nat×Value))(ds:List (Nat×D))(cells:Array Value)(cs out:List D),
    parts.length=ds.length->(∀(i:Nat)(p:Nat×Value)(q:Nat×D),parts[i]?=some p->ds[i]?=some q->p.1=q.1/\DR ν nm w G p.2 q.2)->cells.size=cs.length->(∀(i:Nat)(u:Value)(d:D),cells[i]?=some u->cs[i]?=some d->DR ν nm w G u d/\u.oneCell'=true)->gY pl cs ds=some out->
    ∃res,Instr.fill place cells parts=some res/\res.size=out.length/\∀(i:Nat)(u:Value)(d:D),res[i]?=some u->out[i]?=some d->DR ν nm w G u d/\u.oneCell'=true
 |[],[],cells,cs,out,_,_,hs,hr,hf=>by cases hf;exact⟨cells,rfl,hs,hr⟩
 |[],_::_,_,_,_,h,_,_,_,_=>by cases h
 |_::_,[],_,_,_,h,_,_,_,_=>by cases h
 |(i,v)::rest,(i',d)::ds,cells,cs,out,hlen,hp,hs,hr,hf=>by
   obtain⟨h1,h2⟩:=hp 0 (i,v) (i',d) rfl rfl;simp only at h1 h2;subst h1;simp only[gY]at hf;split at hf
   .cases hf
   .rename_i off size hpi
    split at hf
    .rename_i hc
     simp only[bA,kX,eC]at hc;obtain⟨⟨c1,c2⟩,c3⟩:=hc;obtain⟨g1,g2⟩:=h2.cells c1;have hstep:Instr.fill place cells ((i,v)::rest)=Instr.fill place (l3 cells off v.cells.toList) rest:=by
      simp only[Instr.fill,hpl i _ hpi];rw[aC (by simp[g1,c2];omega)]
      congr 1
      have:=aCa v.cells.toList 0 off cells;rw[hZ]at this;rw[<-this,<-Array.foldl_toList];simp
     rw[hstep];have hvl:v.cells.toList.length=d.cells.length:=by simpa using g1
     refine FZ hpl rest ds _ _ out (by simpa using hlen) (λj p q h h'=>hp (j+1) p q (by simpa using h) (by simpa using h')) (by rw[Ed,tD c3];exact hs) (λj u e hu he=>?_) hf;rw[Ee _ _ _ _ (by omega)]at hu;rw[Ec c3]at he;by_cases k1:j<off
     .rw[aE k1]at hu he;exact hr j u e hu he
     .rw[aC k1]at hu he
      by_cases k2:j<off+d.cells.length
      .rw[aE (by omega)]at hu
       rw[aE k2]at he;exact g2 _ u e (by simpa using hu) he
      .rw[aC (by omega)]at hu
       rw[aC k2]at he;exact hr j u e hu he
    .cases hf
inductive nC (σ:St):List (Nat×Operand)->List (Nat×D)->Prop
 |nil:nC σ [] []
 |cons {i:Nat} {x:Operand} {d d':D} {l:List (Nat×Operand)} {ds:List (Nat×D)} (h:σ.ev x=some d) (hw:bR σ.H d d') (r:nC σ l ds):nC σ ((i,x)::l) ((i,d')::ds)
theorem nC.rel{σ:St}{ν:Nat->Value}{nm:Nat->Bool}{w:World}{G:bQ}{ρ:Operand->Value}(hev:∀x d d',σ.ev x=some d->bR σ.H d d'->DR ν nm w G (ρ x) d'){l:List (Nat×Operand)}{ds:List (Nat×D)}(h:nC σ l ds):
    (l.map λp=>(p.1,ρ p.2)).length=ds.length/\∀(i:Nat)(p:Nat×Value)(q:Nat×D),(l.map λp=>(p.1,ρ p.2))[i]?=some p->ds[i]?=some q->p.1=q.1/\DR ν nm w G p.2 q.2:=by
 induction h with
 |nil=>exact⟨rfl,λi p q h=>by simp at h⟩
 |cons h hw r ih=>
   refine⟨by simpa using ih.1,λi p q hp hq=>?_⟩;cases i with
   |zero=>simp at hp hq;subst hp hq;exact⟨rfl,hev _ _ _ h hw⟩
   |succ i=>exact ih.2 i p q (by simpa using hp) (by simpa using hq)
structure aEA(P:Program)(t:TypeId)(zs:List Value)(pl:List (Nat×Nat)):Prop where
 one:∀u∈zs,u.oneCell'=true
 run:∃place:Nat->Option (Nat×Nat),(∀i p,pl[i]?=some p->place i=some p)/\∀parts,P.built t parts=Instr.fill place zs.toArray parts
theorem aSZ{t:TypeId}{zs:List Value}{pl:List (Nat×Nat)}{parts:Array (Nat×Operand)}{ds:List (Nat×D)}{out:List D}(hB:aEA P t zs pl)(ho:o.op = .build t parts)(hp:nC σ parts.toList ds)(hf:gY pl (zs.map λu=>.t (.v u)) ds=some out):aU P o σ fr (.agg out) []:=
 c7 λE σ₁ ν G w a hH I hev=>by
  obtain⟨place,hpl,hrun⟩:=hB.run;obtain⟨h1,h2⟩:=hp.rel (λx d d' hx hw=>hw _ _ _ _ _ _ hH I _ (hev x d hx));obtain⟨res,hres,hsz,hrel⟩:=FZ hpl _ ds zs.toArray (zs.map λu=>.t (.v u)) out h1 h2 (by simp) (λi u d hu hd=>by
   have hz:zs[i]?=some u:=by simpa using hu
   rw[cD,hz]at hd;cases hd;have:=hB.one u (gK.2 ⟨i,hz⟩);exact⟨.t (.v u this),this⟩) hf
  refine⟨.agg res,?_,.agg hsz (λi u d hu hd=>(hrel i u d hu hd).1) (λu hu=>?_)⟩
  .unfold execOp
   rw[ho];have:=run_build (P:=P) w t (parts.map λ(i,x)=>(i,a.eval x)) res (by rw[hrun,Tv];exact hres);simp[this]
  .obtain⟨i,hi⟩:=gK.1 hu
   have hi':res[i]?=some u:=by simpa using hi
   have hlt:i<out.length:=by rw[<-hsz];exact(eF.1 hi').1
   exact(hrel i u _ hi' (bM hlt)).2
inductive pP (H:Nat->Option aM):List D->List Tree->Prop
 |nil:pP H [] []
 |t {x:Tree} {l:List D} {xs:List Tree} (r:pP H l xs):pP H (.t x::l) (x::xs)
 |own {k n:Nat} {e:TypeId} {s:Nat} {ts:List Tree} {l:List D} {xs:List Tree} (h:H k=some (.row e s n ts true)) (r:pP H l xs):pP H (.own k::l) (.sl n ts::xs)
theorem pP.len{H:Nat->Option aM}{l:List D}{xs:List Tree}(h:pP H l xs):l.length=xs.length:=by
 induction h with
 |nil=>rfl
 |t r ih=>simp[ih]
 |own h r ih=>simp[ih]
theorem pP.rel{H:Nat->Option aM}{l:List D}{xs:List Tree}(h:pP H l xs){ν:Nat->Value}{nm:Nat->Bool}{w:World}{G:bQ}(hr:∀k e s n ts,H k=some (.row e s n ts true)->TR w G (ν k) (.sl n ts)):
    ∀(i:Nat)(u:Value)(d:D)(t:Tree),l[i]?=some d->xs[i]?=some t->DR ν nm w G u d->TR w G u t:=by
 induction h with
 |nil=>intro i u d t h;simp at h
 |t r ih=>
   intro i u d t hd ht hu;cases i with
   |zero=>simp at hd ht;subst hd ht;cases hu with|t h=>exact h
   |succ i=>exact ih i u d t (by simpa using hd) (by simpa using ht) hu
 |own h r ih=>
   intro i u d t hd ht hu;cases i with
   |zero=>simp at hd ht;subst hd ht;cases hu with|own _ _=>exact hr _ _ _ _ _ h
   |succ i=>exact ih i u d t (by simpa using hd) (by simpa using ht) hu
structure kM(P:Program)(t e:TypeId)(s len:Nat)(zs:List Value):Prop where
 u:P.underlying t=some (.slice e)
 one:∀u∈zs,u.oneCell'=true
 zl:zs.length=len*s
 ml:len<=maxLen
 run:∀(w:World)(parts:Array (Nat×Value))(cells:Array Value),Instr.fill (λi=>some (i*s,s)) zs.toArray parts.toList=some cells->(Instr.buildSlice t len parts).run P w = .ok (.slice (some ⟨w.heap.size,0,none⟩) len len) (w.alloc (.cells cells e))
theorem aSE{t e:TypeId}{s len:Nat}(st:Bool){zs:List Value}{parts:Array (Nat×Operand)}{ds:List (Nat×D)}{out:List D}{ts:List Tree}(hB:kM P t e s len zs)(ho:o.op = .buildSlice t len parts)(hp:nC σ parts.toList ds)
    (hf:gY ((fJ len).map λi=>(i*s,s)) (zs.map λu=>.t (.v u)) ds=some out) (hts:pP σ.H out ts):aU P o σ fr (.own fr) [(fr,some (.row e s len ts st))]:=by
 intro E σ₁ a w hT hHH h100 hf' hd ⟨ν,G,I⟩ Q;have hpl:∀(i:Nat)(p:Nat×Nat),((fJ len).map λi=>(i*s,s))[i]?=some p->(λi=>some (i*s,s)) i=some p:=λi p h=>by
  rw[cD]at h;obtain⟨j,hj,rfl⟩:=b9.1 h;have:=(bP.1 hj).2;simp at this;simp[this]
 obtain⟨h1,h2⟩:=hp.rel (λx d d' hx hw=>hw _ _ _ _ _ _ hHH I _ (I.ev (St.cP hT hx)));obtain⟨cells,hres,hsz,hrel⟩:=FZ hpl _ ds zs.toArray (zs.map λu=>.t (.v u)) out h1 h2 (by simp) (λi u d hu hd=>by
     have hz:zs[i]?=some u:=by simpa using hu
     rw[cD,hz]at hd;cases hd;have:=hB.one u (gK.2 ⟨i,hz⟩);exact⟨.t (.v u this),this⟩) hf
 have hfl:∀(pl:List (Nat×Nat))(ds:List (Nat×D))(cs out:List D),gY pl cs ds=some out->out.length=cs.length:=by
  intro pl ds
  induction ds with
  |nil=>intro cs out h;cases h;rfl
  |cons p r ih=>
    intro cs out h;obtain⟨i,d⟩:=p;simp only[gY]at h;split at h
    .cases h
    .split at h
     .rename_i hc
      simp only[bA,kX,eC]at hc;rw[ih _ _ h,tD hc.2]
     .cases h
 have hlen:out.length=len*s:=by rw[hfl _ _ _ _ hf];simp[hB.zl]
 have hmap:=hts.len;have hr:=hB.run w (parts.map λ(i,x)=>(i,a.eval x)) cells (by rw[Tv];exact hres);unfold Oper.wp;have he:(execOp a.eval o).run P w = .ok (.value (.slice (some ⟨w.heap.size,0,none⟩) len len)) (w.alloc (.cells cells e)):=by
  unfold execOp;rw[ho];simp[hr]
 rw[he,Oper.upon_value];have hA:bB w (w.alloc (.cells cells e)):=(bB.refl w).alloc _;have hG:∀b,b<w.heap.size->(λb=>if b=w.heap.size then(if st then len*s else 0)else G b) b=G b:=λb hb=>aC (by omega)
 refine⟨put_defers ..,_,_,I.fresh (G':=λb=>if b=w.heap.size then(if st then len*s else 0)else G b) h100 hf' hd hA hG (x:=.slice (some ⟨w.heap.size,0,none⟩) len len) (λg hg=>by cases hg;exact bX _) ?_ ?_⟩
 .refine⟨cells.toList,?_,?_,λi u t hu ht=>?_,λg hg=>?_⟩
  .rw[bT]
   exact⟨by simp[hsz,hlen],.inr ⟨w.heap.size,len,cells,rfl,dC _,heap_alloc_new w _,bX _,hB.ml,by rw[hsz,hlen],by rw[List.take_of_length_le (by simp[hsz,hlen])]⟩⟩
  .rw[<-hmap];simpa using hsz
  .have hlt:i<out.length:=by rw[hmap];exact(bP.1 ht).1
   have:=(hrel i u _ (by simpa using hu) (bM hlt)).1;exact(hts.rel (λk e s n ts h=>I.rows _ _ _ _ _ _ (hHH _ _ h) rfl) i u _ t (bM hlt) ht this).mono (λ_ _ _ h=>h.dI hA hG)
  .rw[bT]at hg
   cases hg;exact⟨.inl I.kept.size,aE rfl⟩
 .have:DR (bU ν fr (.slice (some ⟨w.heap.size,0,none⟩) len len)) (σ₁.aN o.dst .any [(fr,some (.row e s len ts st))] fr).nm (w.alloc (.cells cells e)) (λb=>if b=w.heap.size then(if st then len*s else 0)else G b) (bU ν fr (.slice (some ⟨w.heap.size,0,none⟩) len len) fr) (.own fr):=.own (jH ..) (by rw[bT];rfl)
  rw[bT]at this;exact this
end
end Go.Ab
/- The abstract machine: calls. -/
namespace Go.Ab
open Go.RowKit
inductive GD (fl:Bool) (σ:St) (nm':Nat->Bool) (ρ:Nat->Nat):List Operand->List D->Prop
 |nil:GD fl σ nm' ρ [] []
 |cons {x:Operand} {d0 d d':D} {xs:List Operand} {ds:List D} (h:σ.ev x=some d0) (hw:bR σ.H d0 d) (hd:dN fl σ.H nm' ρ d d') (r:GD fl σ nm' ρ xs ds):GD fl σ nm' ρ (x::xs) (d'::ds)
theorem GD.get{fl:Bool}{σ:St}{nm':Nat->Bool}{ρ:Nat->Nat}{xs:List Operand}{ds:List D}(h:GD fl σ nm' ρ xs ds):xs.length=ds.length/\∀(i:Nat)(d':D),ds[i]?=some d'->∃x d0 d,xs[i]?=some x/\σ.ev x=some d0/\bR σ.H d0 d/\dN fl σ.H nm' ρ d d':=by
 induction h with
 |nil=>exact⟨rfl,λi d' h=>by simp at h⟩
 |cons h hw hd r ih=>
   refine⟨by simp[ih.1],λi d' hi=>?_⟩;cases i with
   |zero=>simp at hi;subst hi;exact⟨_,_,_,rfl,h,hw,hd⟩
   |succ i=>obtain⟨x,d0,d,h1,h2⟩:=ih.2 i d' (by simpa using hi);exact⟨x,d0,d,by simpa using h1,h2⟩
theorem dN.mono{fl:Bool}{H H₁:Nat->Option aM}{nm':Nat->Bool}{ρ:Nat->Nat}(hH:∀k o,H k=some o->H₁ k=some o){d d':D}(h:dN fl H nm' ρ d d'):dN fl H₁ nm' ρ d d':=by
 induction h with
 |t h=>exact .t h
 |nil=>exact .nil
 |own h hk=>exact .own h hk
 |ref h hk=>exact .ref h hk
 |rd h hst ht hn=>exact .rd (hH _ _ h) hst ht hn
 |ptr=>exact .ptr
 |agg hl h ih=>exact .agg hl ih
 |aT hl h ih=>exact .aT hl ih
 |fn hl h ih=>exact .fn hl ih
 |any=>exact .any
 |via h hk=>exact .via h hk
theorem gQ.mono{fl:Bool}{H H₁:Nat->Option aM}{nm':Nat->Bool}{ρ:Nat->Nat}(hH:∀k o,H k=some o->H₁ k=some o){o o':aM}(h:gQ fl H nm' ρ o o'):gQ fl H₁ nm' ρ o o':=by
 cases h with
 |row h hn=>exact .row h hn
 |box hl h=>exact .box hl (λi d d' h1 h2=>(h i d d' h1 h2).mono hH)
 |nest h=>exact .nest h
 |it=>exact .it
 |mp hl h=>exact .mp hl (λi p p' h1 h2=>⟨(h i p p' h1 h2).1,(h i p p' h1 h2).2.mono hH⟩)
 |bI hl h=>exact .bI hl (λi c c' h1 h2=>by
     cases h i c c' h1 h2 with
     |d hd=>exact .d (hd.mono hH)
     |cE=>exact .cE)
def back(fr:Nat)(rb:List (Nat×Nat))(k:Nat):Nat:=if fr<=k/\k<fr+8 then 100+(k-fr)else bC rb k
def fU(fr:Nat)(rb:List (Nat×Nat))(k:Nat):Bool:=(decide (fr<=k)&&decide (k<fr+8))||(look k rb).isSome
inductive mA (H':List (Nat×aM)) (nmd:Nat->Bool) (ρ:Nat->Nat):Wr->Prop
 |nil:mA H' nmd ρ []
 |gone {k:Nat} {l:Wr} (r:mA H' nmd ρ l):mA H' nmd ρ ((k,none)::l)
 |cons {k:Nat} {o o':aM} {l:Wr} (h:look (ρ k) H'=some o) (ho:gQ false (λk=>look k H') nmd ρ o o') (r:mA H' nmd ρ l):mA H' nmd ρ ((k,some o')::l)
theorem mA.get{H':List (Nat×aM)}{nmd:Nat->Bool}{ρ:Nat->Nat}{W:Wr}(h:mA H' nmd ρ W){k:Nat}{o':aM}(hl:look k W=some (some o')):∃o,look (ρ k) H'=some o/\gQ false (λk=>look k H') nmd ρ o o':=by
 induction h with
 |nil=>cases hl
 |gone r ih=>
   unfold look at hl;split at hl
   .cases hl
   .exact ih hl
 |cons h ho r ih=>
   unfold look at hl;split at hl
   .rename_i e;cases hl;subst e;exact⟨_,h,ho⟩
   .exact ih hl
def qZ(rn rb:List (Nat×Nat))(H:List (Nat×aM)):Bool:=
 H.all (λp=>decide (50<=p.1)&&decide (p.1<100))&&decide ((H.map λp=>bC rn p.1).Nodup)&&H.all (λp=>look (bC rn p.1) rb == some p.1)&&rb.all (λp=>H.any λq=>q.1 == p.2&&bC rn q.1 == p.1)
def AW(fr:Nat)(rn:List (Nat×Nat))(H:List (Nat×aM))(W:Wr):Bool:=
 H.all (λp=>(look (bC rn p.1) W).isSome)&&W.all (λp=>(decide (fr<=p.1)&&decide (p.1<fr+8))||H.any (λq=>bC rn q.1 == p.1))
theorem CZ{α:Type}{k:Nat}:∀{l:List (Nat×α)},k∈l.map (·.1)->∃x,look k l=some x
 |[],h=>by cases h
 |p::l,h=>by
   unfold look;by_cases e:p.1=k
   .rw[aE e];exact⟨_,rfl⟩
   .rw[aC e]
    rw[List.map_cons]at h;rcases List.mem_cons.1 h with h|h
    .exact absurd h.symm e
    .exact CZ h
section
variable{P:Program}{o:Oper}{σ:St}{fr:Nat}
theorem o9 {f : FuncId} {fn : Func} (hfn : P.funcs[f]? = some fn) (hname : fn.name ≠ "runtime.NumGoroutine") (hb : fn.body ≠ none) (vs : Array Value) (w : World) : (callFunc f vs).run P w = .ok (.enter f vs) w := by
 unfold callFunc;simp[run_program,hfn,hname,hb]
theorem aDT{H:List (Nat×aM)}{r d:D}{H':List (Nat×aM)}{W:Wr}(rn rb:List (Nat×Nat)){E:Env}{σ₁:St}{ν:Nat->Value}{G:bQ}{w:World}{tm:Array Value}(I:Inv E σ₁ ν G w tm)
    (h100:100<=fr) (hf:∀k,fr<=k->k<fr+8->σ₁.nm k=false) (hHin:∀k'∈H.map (·.1),∃o',σ₁.H (bC rn k')=some o')
    (hres:dN false (λk=>look k H') (fU fr rb) (back fr rb) r d) (hW:mA H' (fU fr rb) (back fr rb) W) (hc:AW fr rn H W=true) (hc0:qZ rn rb H=true)
    {m:Nat} {w':World} {v:Value} {ν':Nat->Value} {G':bQ} {tC:hM w λb=>∃k'∈H.map (·.1),∃o',σ₁.H (bC rn k')=some o'/\bK w (ν (bC rn k')) o' b}
    {tg:E8 G}
    (I':Inv { (⟨m,w,G,λb=>∃k'∈H.map (·.1),∃o',σ₁.H (bC rn k')=some o'/\bK w (ν (bC rn k')) o' b,λk=>ν (bC rn k),tC,tg,[]⟩:Env)with m:=1 } (res r H') ν' G' w' #[v]) (dst:Option Tmp) (hdst:∀t,dst=some t->t<E.m) (a:Act) (ha:a.tmps=tm):
    R E (σ₁.aN dst d W fr) (a.put dst v).tmps w':=by
 subst ha;simp only[qZ,bA,eC]at hc0;obtain⟨⟨⟨c1,c2⟩,c3⟩,c6⟩:=hc0;have hin:∀k'∈H.map (·.1),50<=k'/\k'<100/\look (bC rn k') rb=some k':=λk' hk'=>by
  obtain⟨p,hp,rfl⟩:=eK.1 hk';have q1:=cT.1 c1 p hp;have q3:=cT.1 c3 p hp;simp only[bA,eC,kX]at q1 q3;exact⟨q1.1,q1.2,q3⟩
 have hrb:∀k x,look k rb=some x->x∈H.map (·.1)/\bC rn x=k:=λk x hx=>by
  have:=cT.1 c6 _ (jW hx);simp only[jN,bA,kX]at this;obtain⟨q,hq,e1,e2⟩:=this;exact⟨eK.2 ⟨q,hq,e1⟩,by rw[<-e1];exact e2⟩
 have hnr:∀k,σ₁.nm k=true->¬ (fr<=k/\k<fr+8):=λk hk h=>by rw[hf k h.1 h.2]at hk;cases hk
 have hinnr:∀k'∈H.map (·.1),¬ (fr<=bC rn k'/\bC rn k'<fr+8):=λk' hk'=>by
  obtain⟨o',ho'⟩:=hHin k' hk';exact hnr _ (I.H _ _ ho').1
 have hXmay:∀b,(∃k'∈H.map (·.1),∃o',σ₁.H (bC rn k')=some o'/\bK w (ν (bC rn k')) o' b)->E.may b:=λb ⟨k',hk',o',ho',hb⟩=>((I.H _ _ ho').2.ft hb).2
 have hXlt:∀b,(∃k'∈H.map (·.1),∃o',σ₁.H (bC rn k')=some o'/\bK w (ν (bC rn k')) o' b)->b<w.heap.size:=λb ⟨k',hk',o',ho',hb⟩=>((I.H _ _ ho').2.ft hb).1
 obtain⟨X',hX'⟩:∃X':Nat->Prop,X'=λb=>∃k'∈H.map (·.1),∃o',σ₁.H (bC rn k')=some o'/\bK w (ν (bC rn k')) o' b:=⟨_,rfl⟩
 have hXe:∀b,X' b ↔ (∃k'∈H.map (·.1),∃o',σ₁.H (bC rn k')=some o'/\bK w (ν (bC rn k')) o' b):=λb=>by rw[hX']
 simp only[AW,bA]at hc;obtain⟨c4,c5⟩:=hc;have hin4:∀k'∈H.map (·.1),∃x,look (bC rn k') W=some x:=λk' hk'=>by
  obtain⟨p,hp,rfl⟩:=eK.1 hk';exact pR.1 (cT.1 c4 p hp)
 have hWk:∀k x,look k W=some x->(fr<=k/\k<fr+8)\/∃k'∈H.map (·.1),bC rn k'=k:=λk x hx=>by
  have:=cT.1 c5 _ (jW hx);simp only[lN,bA,eC,jN,kX]at this;rcases this with h|⟨q,hq,he⟩
  .exact .inl h
  .exact .inr ⟨q.1,eK.2 ⟨q,hq,rfl⟩,he⟩
 have hcell:∀b i u,Cell w G b i u->Cell w' G' b i u:=I'.cS
 have hblk:∀b,b<w.heap.size->¬ X' b->w'.heap[b]?=w.heap[b]?/\G' b=G b:=λb hb hX=>⟨I'.kept.block b hb (λh=>hX ((hXe b).2 h)),I'.g0 b hb (λh=>hX ((hXe b).2 h))⟩
 obtain⟨ν'',hν''⟩:∃ν'':Nat->Value,ν''=λk=>if fr<=k/\k<fr+8 then ν' (100+(k-fr))else ν k:=⟨_,rfl⟩
 have hnew:∀k,fU fr rb k=true->ν'' k=ν' (back fr rb k):=λk hk=>by
  rw[hν''];simp only[fU,lN,bA,eC]at hk;unfold back;by_cases h:fr<=k/\k<fr+8
  .simp only[aE h]
  .simp only[aC h]
   rcases hk with hk|hk
   .exact absurd hk h
   .obtain⟨x,hx⟩:=pR.1 hk
    obtain⟨h1,h2⟩:=hrb k x hx;unfold bC;rw[hx];have:=I'.eL x (hin x h1).1 (hin x h1).2.1;simp only;rw[this];show ν k=ν (bC rn x);rw[h2]
 have hold:∀k,¬ (fr<=k/\k<fr+8)->ν'' k=ν k:=λk h=>by rw[hν''];simp only[aC h]
 have hnm:∀k,σ₁.nm k=true->(σ₁.aN dst d W fr).nm k=true/\ν'' k=ν k:=λk hk=>⟨by simp[St.aN,hk],hold k (hnr k hk)⟩
 have hnb:∀k,fU fr rb k=true->(σ₁.aN dst d W fr).nm k=true:=λk hk=>by
  simp only[fU,lN,bA,eC]at hk;rcases hk with hk|hk
  .simp[St.aN,hk]
  .obtain⟨x,hx⟩:=pR.1 hk
   obtain⟨h1,h2⟩:=hrb k x hx;obtain⟨o',ho'⟩:=hHin x h1;rw[h2]at ho';simp[St.aN,(I.H _ _ ho').1]
 have hνr:∀k',fU fr rb k'=true->(res r H').nm (back fr rb k')=true->ν'' k'=ν' (back fr rb k'):=λk hk _=>hnew k hk
 have hWold:∀k o1,(σ₁.aN dst d W fr).H k=some o1->look k W=none->σ₁.H k=some o1:=λk o1 h hl=>by
  simp only[St.aN,hl]at h;exact h
 have hnotX:∀k o1,σ₁.H k=some o1->look k W=none->∀g,bK w (ν k) o1 g->¬ X' g:=λk o1 h hl g hg hx=>by
  obtain⟨k',hk',o',ho',hb⟩:=(hXe g).1 hx;refine I.cF k o1 _ o' h ho' (λe=>?_) g hg hb;obtain⟨x,hx⟩:=hin4 k' hk';rw[<-e,hl]at hx;cases hx
 have hWnew:∀k o1,(σ₁.aN dst d W fr).H k=some o1->look k W≠none->fU fr rb k=true/\∃o0,look (back fr rb k) H'=some o0/\gQ false (λk=>look k H') (fU fr rb) (back fr rb) o0 o1:=λk o1 h hl=>by
  cases hx:look k W with
  |none=>exact absurd hx hl
  |some x=>
    simp only[St.aN,hx]at h;subst h;refine⟨?_,hW.get hx⟩;simp only[fU,lN,bA,eC];rcases hWk k _ hx with h|⟨k',hk',he⟩
    .exact .inl h
    .right
     rw[<-he,(hin k' hk').2.2];rfl
 have hmay':∀g,(w.heap.size<=g\/X' g)->E.may g:=λg h=>by
  rcases h with h|h
  .exact .inl (iR I.kept.size h)
  .exact hXmay g ((hXe g).1 h)
 have hgX:∀k o0,look (back fr rb k) H'=some o0->fU fr rb k=true->∀g,bK w' (ν'' k) o0 g->w.heap.size<=g\/X' g:=λk o0 h hb g hg=>by
  rw[hnew k hb]at hg;rcases((I'.H _ o0 h).2.ft hg).2 with h|h
  .exact .inl h
  .exact .inr ((hXe g).2 h)
 have hft:∀k o1,σ₁.H k=some o1->look k W=none->∀g,bK w' (ν k) o1 g ↔ bK w (ν k) o1 g:=λk o1 h hl g=>
  qY λb hb=>(hblk b ((I.H k o1 h).2.pN hb) (hnotX k o1 h hl b (dT hb))).1
 have hinj:∀k k',fU fr rb k=true->fU fr rb k'=true->back fr rb k=back fr rb k'->k=k':=λk k' h h' e=>by
  have val:∀k,fU fr rb k=true->(fr<=k/\k<fr+8/\back fr rb k=100+(k-fr))\/∃x,back fr rb k=x/\x<100/\bC rn x=k:=λk h=>by
   by_cases hc:fr<=k/\k<fr+8
   .exact .inl ⟨hc.1,hc.2,by unfold back;rw[aE hc]⟩
   .right
    simp only[fU,lN,bA,eC]at h;rcases h with h|h
    .exact absurd h hc
    .obtain⟨x,hx⟩:=pR.1 h
     obtain⟨h1,h2⟩:=hrb k x hx;exact⟨x,by unfold back;rw[aC hc];unfold bC;rw[hx],(hin x h1).2.1,h2⟩
  rcases val k h with⟨a1,a2,a3⟩|⟨x,a1,a2,a3⟩ <;> rcases val k' h' with⟨b1,b2,b3⟩|⟨y,b1,b2,b3⟩
  .omega
  .omega
  .omega
  .rw[<-a3,<-b3,<-a1,<-b1,e]
 refine⟨ν'',G',⟨I'.kept.os.trans I.kept.os,I'.kept.tape.trans I.kept.tape,I'.kept.output.trans I.kept.output,iR I.kept.size I'.kept.size,λb hb hX=>?_⟩,λb i u h=>hcell b i u (I.cS b i u h),λk h1 h2=>?_,λb hb hX=>?_,?_,λt d' h=>?_,λk o1 h=>?_,λk o1 k' o2 h h' hne g hg=>?_⟩
 .refine(hblk b (kL hb I.kept.size) (λhx=>?_)).1.trans (I.kept.block b hb hX)
  rcases hXmay b ((hXe b).1 hx)with h|h
  .omega
  .exact hX h
 .rw[hold k (by omega)];exact I.eL k h1 h2
 .refine(hblk b (kL hb I.kept.size) (λhx=>?_)).2.trans (I.g0 b hb hX)
  rcases hXmay b ((hXe b).1 hx)with h|h
  .omega
  .exact hX h
 .cases dst <;> simp[Act.put,I.sz]
 .simp only[St.aN]at h
  split at h
  .rename_i he
   cases h;obtain⟨v0,hv0,hd0⟩:=I'.T 0 r (by simp);simp at hv0;subst hv0;have hlt:=hdst t he;refine⟨v,by simp[he,Act.put,I.sz,hlt],(hres.rel (λ_ _ _ h=>h) I'.rows hνr hd0).mono (λk hk=>⟨hnb k hk,rfl⟩) (λ_ _ _ h=>h)⟩
  .rename_i he
   obtain⟨u,hu,hdu⟩:=I.T t d' h;refine⟨u,?_,hdu.mono hnm hcell⟩;cases hds:dst with
   |none=>simpa[Act.put]using hu
   |some t''=>
     have hne:t''≠t:=λe=>he (by rw[hds,e])
     simp only[Act.put];rw[nL hne];exact hu
 .by_cases hl:look k W=none
  .have h0:=hWold k o1 h hl
   obtain⟨q1,q2⟩:=I.H k o1 h0;exact⟨(hnm k q1).1,q2.mono q1 hnm hcell (λg hg=>hblk g (q2.ft hg).1 (hnotX k o1 h0 hl g hg))⟩
  .obtain⟨q1,o0,q2,q3⟩:=hWnew k o1 h hl
   have hv:=(I'.H _ o0 q2).2.view (E':=E) (ν':=ν'') (k':=k) q3 I'.rows hνr (hnew k q1) (λg _ hm=>hmay' g (hm.elim .inl λh=>.inr ((hXe g).2 h)));exact⟨hnb k q1,eR.mono q1 (λk hk=>⟨hnb k hk,rfl⟩) (λ_ _ _ h=>h) (λ_ _=>⟨rfl,rfl⟩) hv⟩
 .by_cases hl:look k W=none
  .have h0:=hWold k o1 h hl
   obtain⟨q1,q2⟩:=I.H k o1 h0;rw[(hnm k q1).2,hft k o1 h0 hl]at hg;by_cases hl':look k' W=none
   .have h0':=hWold k' o2 h' hl'
    rw[(hnm k' (I.H k' o2 h0').1).2,hft k' o2 h0' hl'];exact I.cF k o1 k' o2 h0 h0' hne g hg
   .obtain⟨p1,o0,p2,p3⟩:=hWnew k' o2 h' hl'
    intro hg';rcases hgX k' o0 p2 p1 g (p3.ft.1 hg')with hh|hh
    .have:=(q2.ft hg).1;omega
    .exact hnotX k o1 h0 hl g hg hh
  .obtain⟨p1,o0,p2,p3⟩:=hWnew k o1 h hl
   by_cases hl':look k' W=none
   .have h0':=hWold k' o2 h' hl'
    obtain⟨q1,q2⟩:=I.H k' o2 h0';rw[(hnm k' q1).2,hft k' o2 h0' hl'];intro hg';rcases hgX k o0 p2 p1 g (p3.ft.1 hg)with hh|hh
    .have:=(q2.ft hg').1;omega
    .exact hnotX k' o2 h0' hl' g hg' hh
   .obtain⟨p1',o0',p2',p3'⟩:=hWnew k' o2 h' hl'
    rw[hnew k p1]at hg;rw[hnew k' p1'];exact λhg'=>I'.cF _ o0 _ o0' p2 p2' (λe=>hne (hinj k k' p1 p1' e)) g (p3.ft.1 hg) (p3'.ft.1 hg')
theorem aBf{ι:Type}{C:ι->Prop}{f:FuncId}{ds:List D}{H:List (Nat×aM)}{r':ι->D}{H'':ι->List (Nat×aM)}(rn rb:List (Nat×Nat)){d':ι->D}{W':ι->Wr}
    (hrun:∀(E:Env)(σ₁:St)(ν:Nat->Value)(G:bQ)(w:World)(a:Act),(∀t d,σ.T t=some d->σ₁.T t=some d)->(∀k o,σ.H k=some o->σ₁.H k=some o)->Inv E σ₁ ν G w a.tmps->
     ∃vals:List Value,(execOp a.eval o).run P w = .ok (.enter f vals.toArray) w/\vals.length=ds.length/\∀(t:Nat)(d':D),ds[t]?=some d'->∃v d0,vals[t]?=some v/\DR ν σ₁.nm w G v d0/\dN false σ.H (λk=>decide (k<100)) (bC rn) d0 d')
    (hS:aDz P f ds H C r' H'') (hH:rN false σ (λk=>decide (k<100)) (bC rn) H)
    (hres:∀i,C i->dN false (λk=>look k (H'' i)) (fU fr rb) (back fr rb) (r' i) (d' i)) (hW:∀i,C i->mA (H'' i) (fU fr rb) (back fr rb) (W' i)) (hc:∀i,C i->AW fr rn H (W' i)=true) (hc0:qZ rn rb H=true):A9 P o σ fr C d' W':=by
 intro E σ₁ a w hT hHH h100 hf hdst ⟨ν,G,I⟩ Q;simp only[qZ,bA,eC]at hc0;obtain⟨⟨⟨c1,c2⟩,c3⟩,c6⟩:=hc0;have hin:∀k'∈H.map (·.1),50<=k'/\k'<100/\look (bC rn k') rb=some k':=λk' hk'=>by
  obtain⟨p,hp,rfl⟩:=eK.1 hk';have q1:=cT.1 c1 p hp;have q3:=cT.1 c3 p hp;simp only[bA,eC,kX]at q1 q3;exact⟨q1.1,q1.2,q3⟩
 have hrb:∀k x,look k rb=some x->x∈H.map (·.1)/\bC rn x=k:=λk x hx=>by
  have:=cT.1 c6 _ (jW hx);simp only[jN,bA,kX]at this;obtain⟨q,hq,e1,e2⟩:=this;exact⟨eK.2 ⟨q,hq,e1⟩,by rw[<-e1];exact e2⟩
 have hHin:∀k'∈H.map (·.1),∃o',σ₁.H (bC rn k')=some o':=λk' hk'=>by
  obtain⟨x,hx⟩:=CZ hk';obtain⟨o',h1,_⟩:=hH.get hx;exact⟨o',hHH _ _ h1⟩
 have hnr:∀k,σ₁.nm k=true->¬ (fr<=k/\k<fr+8):=λk hk h=>by rw[hf k h.1 h.2]at hk;cases hk
 have hinnr:∀k'∈H.map (·.1),¬ (fr<=bC rn k'/\bC rn k'<fr+8):=λk' hk'=>by
  obtain⟨o',ho'⟩:=hHin k' hk';exact hnr _ (I.H _ _ ho').1
 unfold Oper.wp;obtain⟨vals,hrun,hlen,hargs⟩:=hrun E σ₁ ν G w a hT hHH I;rw[hrun,Oper.upon_enter]
 let X':Nat->Prop:=λb=>∃k'∈H.map (·.1),∃o',σ₁.H (bC rn k')=some o'/\bK w (ν (bC rn k')) o' b
 have hXmay:∀b,X' b->E.may b:=λb ⟨k',hk',o',ho',hb⟩=>((I.H _ _ ho').2.ft hb).2
 have hXlt:∀b,X' b->b<w.heap.size:=λb ⟨k',hk',o',ho',hb⟩=>((I.H _ _ ho').2.ft hb).1
 let E':Env:=⟨vals.toArray.size,w,G,X',λk=>ν (bC rn k),E.tC.cS I.kept.size I.kept.block hXmay,I.tg,[]⟩
 have hρ:∀k',decide (k'<100)=true->σ₁.nm (bC rn k')=true->(λk=>ν (bC rn k)) k'=ν (bC rn k'):=λ_ _ _=>rfl
 have hR:R E' (args ds H) vals.toArray w:=by
  refine⟨λk=>ν (bC rn k),G,⟨rfl,rfl,rfl,bX _,λ_ _ _=>rfl⟩,λ_ _ _ h=>h,λ_ _ _=>rfl,λ_ _ _=>rfl,rfl,λt d' h=>?_,λk o' h=>?_,λk o1 k' o2 h h' hne g hg=>?_⟩
  .obtain⟨v,d0,h1,h2,h3⟩:=hargs t d' h
   exact⟨v,by simp[h1],(h3.mono hHH).rel (λ_ _ _ h=>h) I.rows hρ h2⟩
  .obtain⟨o0,h1,h2⟩:=hH.get h
   have hk:k∈H.map (·.1):=vD h;exact⟨aL (hin k hk).2.1,(I.H _ o0 (hHH _ _ h1)).2.view (h2.mono hHH) I.rows hρ rfl (λg hg _=>.inr ⟨k,hk,o0,hHH _ _ h1,hg⟩)⟩
  .obtain⟨q1,h1,l1⟩:=hH.get h
   obtain⟨q2,h2,l2⟩:=hH.get h';exact λhg'=>I.cF _ q1 _ q2 (hHH _ _ h1) (hHH _ _ h2) (λe=>hne (LJ (by rw[List.map_map];exact c2) k (vD h) k' (vD h') e)) g (l1.ft.1 hg) (l2.ft.1 hg')
 refine(hS E' w _ rfl rfl (by simpa using hlen) hR).mono ?_;rintro e w' ⟨v,rfl,i0,hC0,ν',G',I'⟩;obtain⟨r,hr0⟩:∃r,r' i0=r:=⟨_,rfl⟩
 obtain⟨H',hH0⟩:∃H',H'' i0=H':=⟨_,rfl⟩
 obtain⟨d,hd0⟩:∃d,d' i0=d:=⟨_,rfl⟩
 obtain⟨W,hW0⟩:∃W,W' i0=W:=⟨_,rfl⟩
 have hres:=hres i0 hC0;have hW:=hW i0 hC0;have hc:=hc i0 hC0;rw[hr0,hH0]at I';rw[hr0,hH0,hd0]at hres;rw[hH0,hW0]at hW;rw[hW0]at hc;show(a.put o.dst v).defers=a.defers/\∃i,C i/\R E (σ₁.aN o.dst (d' i) (W' i) fr) (a.put o.dst v).tmps w'
 refine⟨put_defers ..,i0,hC0,?_⟩;rw[hd0,hW0];exact aDT (H:=H) rn rb I h100 hf hHin hres hW hc (by simp only[qZ,bA,eC];exact⟨⟨⟨c1,c2⟩,c3⟩,c6⟩) I' o.dst hdst a rfl
theorem aSY{f:FuncId}{ds:List D}{H:List (Nat×aM)}{pv:Value}{H'':List (Nat×aM)}(rn rb:List (Nat×Nat)){W':Wr}
    (hrun:∀(E:Env)(σ₁:St)(ν:Nat->Value)(G:bQ)(w:World)(a:Act),(∀t d,σ.T t=some d->σ₁.T t=some d)->(∀k o,σ.H k=some o->σ₁.H k=some o)->Inv E σ₁ ν G w a.tmps->
     ∃vals:List Value,(execOp a.eval o).run P w = .ok (.enter f vals.toArray) w/\vals.length=ds.length/\∀(t:Nat)(d':D),ds[t]?=some d'->∃v d0,vals[t]?=some v/\DR ν σ₁.nm w G v d0/\dN false σ.H (λk=>decide (k<100)) (bC rn) d0 d')
    (hS:GA P f ds H pv H'') (hH:rN false σ (λk=>decide (k<100)) (bC rn) H)
    (hW:mA H'' (fU fr rb) (back fr rb) W') (hc:AW fr rn H W'=true) (hc0:qZ rn rb H=true):rG P o σ fr pv W':=by
 intro E σ₁ a w hT hHH h100 hf ⟨ν,G,I⟩;simp only[qZ,bA,eC]at hc0;obtain⟨⟨⟨c1,c2⟩,c3⟩,c6⟩:=hc0;have hin:∀k'∈H.map (·.1),50<=k'/\k'<100/\look (bC rn k') rb=some k':=λk' hk'=>by
  obtain⟨p,hp,rfl⟩:=eK.1 hk';have q1:=cT.1 c1 p hp;have q3:=cT.1 c3 p hp;simp only[bA,eC,kX]at q1 q3;exact⟨q1.1,q1.2,q3⟩
 have hrb:∀k x,look k rb=some x->x∈H.map (·.1)/\bC rn x=k:=λk x hx=>by
  have:=cT.1 c6 _ (jW hx);simp only[jN,bA,kX]at this;obtain⟨q,hq,e1,e2⟩:=this;exact⟨eK.2 ⟨q,hq,e1⟩,by rw[<-e1];exact e2⟩
 have hHin:∀k'∈H.map (·.1),∃o',σ₁.H (bC rn k')=some o':=λk' hk'=>by
  obtain⟨x,hx⟩:=CZ hk';obtain⟨o',h1,_⟩:=hH.get hx;exact⟨o',hHH _ _ h1⟩
 have hnr:∀k,σ₁.nm k=true->¬ (fr<=k/\k<fr+8):=λk hk h=>by rw[hf k h.1 h.2]at hk;cases hk
 have hinnr:∀k'∈H.map (·.1),¬ (fr<=bC rn k'/\bC rn k'<fr+8):=λk' hk'=>by
  obtain⟨o',ho'⟩:=hHin k' hk';exact hnr _ (I.H _ _ ho').1
 unfold Oper.wp;obtain⟨vals,hrun,hlen,hargs⟩:=hrun E σ₁ ν G w a hT hHH I;rw[hrun,Oper.upon_enter]
 let X':Nat->Prop:=λb=>∃k'∈H.map (·.1),∃o',σ₁.H (bC rn k')=some o'/\bK w (ν (bC rn k')) o' b
 have hXmay:∀b,X' b->E.may b:=λb ⟨k',hk',o',ho',hb⟩=>((I.H _ _ ho').2.ft hb).2
 have hXlt:∀b,X' b->b<w.heap.size:=λb ⟨k',hk',o',ho',hb⟩=>((I.H _ _ ho').2.ft hb).1
 let E':Env:=⟨vals.toArray.size,w,G,X',λk=>ν (bC rn k),E.tC.cS I.kept.size I.kept.block hXmay,I.tg,[]⟩
 have hρ:∀k',decide (k'<100)=true->σ₁.nm (bC rn k')=true->(λk=>ν (bC rn k)) k'=ν (bC rn k'):=λ_ _ _=>rfl
 have hR:R E' (args ds H) vals.toArray w:=by
  refine⟨λk=>ν (bC rn k),G,⟨rfl,rfl,rfl,bX _,λ_ _ _=>rfl⟩,λ_ _ _ h=>h,λ_ _ _=>rfl,λ_ _ _=>rfl,rfl,λt d' h=>?_,λk o' h=>?_,λk o1 k' o2 h h' hne g hg=>?_⟩
  .obtain⟨v,d0,h1,h2,h3⟩:=hargs t d' h
   exact⟨v,by simp[h1],(h3.mono hHH).rel (λ_ _ _ h=>h) I.rows hρ h2⟩
  .obtain⟨o0,h1,h2⟩:=hH.get h
   have hk:k∈H.map (·.1):=vD h;exact⟨aL (hin k hk).2.1,(I.H _ o0 (hHH _ _ h1)).2.view (h2.mono hHH) I.rows hρ rfl (λg hg _=>.inr ⟨k,hk,o0,hHH _ _ h1,hg⟩)⟩
  .obtain⟨q1,h1,l1⟩:=hH.get h
   obtain⟨q2,h2,l2⟩:=hH.get h';exact λhg'=>I.cF _ q1 _ q2 (hHH _ _ h1) (hHH _ _ h2) (λe=>hne (LJ (by rw[List.map_map];exact c2) k (vD h) k' (vD h') e)) g (l1.ft.1 hg) (l2.ft.1 hg')
 refine(hS E' w _ rfl rfl (by simpa using hlen) hR).mono ?_;rintro e w' ⟨rfl,ν',G',I'⟩;refine⟨rfl,rfl,?_⟩;exact aDT (d:=.any) (H:=H) rn rb I h100 hf hHin .any hW hc (by simp only[qZ,bA,eC];exact⟨⟨⟨c1,c2⟩,c3⟩,c6⟩) I' none (λ_ h=>by cases h) a rfl
end
end Go.Ab
/- The abstract machine: a region that draws its order. Each operation is looked at once, from what comes before it in every order. -/
namespace Go.Ab
open Go.RowKit
abbrev Rs:=List (D×Wr)
def bS(ops:Array Oper)(fr:Nat)(S:Nat->Bool):Nat->Rs->St->St
 |_,[],σ=>σ
 |i,(d,W)::rs,σ=>bS ops fr S (i+1) rs (if S i then σ.aN (Region.dP ops i) d W (fr+8*i)else σ)
def eB(kl:List (List Nat))(fr p k:Nat):Bool:=(kl.getD p []).contains k||(decide (fr+8*p<=k)&&decide (k<fr+8*p+8))
def apart(pre:List (List Nat))(i p:Nat):Bool:=p != i&&!(pre.getD i []).contains p&&!(pre.getD p []).contains i
def ctx(ops:Array Oper)(pre kl:List (List Nat))(fr i:Nat)(rs:Rs)(σ:St):St:=
 ⟨λt=>if(fJ ops.size).any (λp=>apart pre i p&&(Region.dP ops p == some t))=true then none else(bS ops fr (λj=>(pre.getD i []).contains j) 0 rs σ).T t,
  λk=>if(fJ ops.size).any (λp=>apart pre i p&&eB kl fr p k)=true then none else(bS ops fr (λj=>(pre.getD i []).contains j) 0 rs σ).H k,σ.nm⟩
def p6(P:Program)(ops:Array Oper)(pre kl:List (List Nat))(fr:Nat)(σ:St)(Post:St->Prop):List Oper->Nat->Rs->Prop
 |[],_,rs=>Post (bS ops fr (λ_=>true) 0 rs σ)
 |o::rest,i,rs=>∃d W,nB P ops o (ctx ops pre kl fr i rs σ) (fr+8*i) d W/\(W.all λp=>eB kl fr i p.1)=true/\p6 P ops pre kl fr σ Post rest (i+1) (rs++[(d,W)])
def Cj(ops:Array Oper)(pre kl:List (List Nat))(fr m:Nat):Bool:=
 Region.noSelect ops &&
 (fJ ops.size).all (λi=>match ops[i]? with
  |none=>false
  |some o=>o.after.all (λe=>!Region.binds .any e||decide (e.on<i))&&(match o.dst with |none=>true |some t=>decide (t<m)) &&
    (pre.getD i []).all (λj=>decide (j<i)&&o.after.any (λe=>Region.binds .any e&&(e.on == j||(pre.getD e.on []).contains j)))) &&
 (fJ ops.size).all (λq=>(fJ q).all λp=>(pre.getD q []).contains p ||
  ((Region.dP ops p).isNone||Region.dP ops p != Region.dP ops q)&&(kl.getD p []).all (λk=>!eB kl fr q k)&&(kl.getD q []).all (λk=>!eB kl fr p k))
structure tZ(ops:Array Oper)(pre kl:List (List Nat))(fr m:Nat):Prop where
 Qs:Region.noSelect ops=true
 back:∀(i:Nat)(o:Oper),ops[i]?=some o->∀e∈o.after,Region.binds .any e=true->e.on<i
 dst:∀(i:Nat)(o:Oper),ops[i]?=some o->∀t,o.dst=some t->t<m
 AB:∀(i:Nat)(o:Oper),ops[i]?=some o->∀j∈pre.getD i [],j<i/\∃e∈o.after,Region.binds .any e=true/\(e.on=j\/j∈pre.getD e.on [])
 aDN:∀p q,p<q->q<ops.size->p∉pre.getD q []->(∀t,Region.dP ops p=some t->Region.dP ops q≠some t)/\∀k,eB kl fr p k=true->eB kl fr q k=false
theorem aD8{ops:Array Oper}{pre kl:List (List Nat)}{fr m:Nat}(h:Cj ops pre kl fr m=true):tZ ops pre kl fr m:=by
 unfold Cj at h;simp only[bA]at h;obtain⟨⟨h1,h3⟩,h4⟩:=h;have lt:∀{i:Nat}{o:Oper},ops[i]?=some o->i<ops.size:=λho=>(eF.1 ho).1
 have e3:∀(i:Nat)(o:Oper),ops[i]?=some o->_:=λi o ho=>by
  have:=cT.1 h3 i (nE.2 (lt ho));simp only[ho,bA]at this;exact this
 refine⟨h1,λi o ho e he hb=>?_,λi o ho t ht=>?_,λi o ho j hj=>?_,λp q hpq hq hnp=>?_⟩
 .have:=(aXe.1 (e3 i o ho).1.1) e he
  simpa[hb]using this
 .have:=(e3 i o ho).1.2
  rw[ht]at this;exact cH this
 .have:=cT.1 (e3 i o ho).2 j hj
  simp only[bA,eC]at this;refine⟨this.1,?_⟩;obtain⟨e,he,hb⟩:=Array.any_eq_true'.1 this.2;simp only[bA,lN,kX,nI]at hb;exact⟨e,he,hb.1,hb.2⟩
 .have:=cT.1 (cT.1 h4 q (nE.2 hq)) p (nE.2 hpq)
  simp only[lN,nI,bA]at this;rcases this with h|⟨⟨h1,h2⟩,h3⟩
  .exact absurd h hnp
  .refine⟨λt ht he=>?_,λk hk=>?_⟩
   .rw[ht,he]at h1
    simp at h1
   .rw[rM]
    intro hkq;have hk':=hk;have hkq':=hkq;simp only[eB,lN,nI,bA,eC]at hk' hkq';rcases hk' with hk'|hk'
    .have:=cT.1 h2 k hk'
     simp[hkq]at this
    .rcases hkq' with hkq'|hkq'
     .have:=cT.1 h3 k hkq'
      simp[hk]at this
     .omega
section
variable{ops:Array Oper}{pre kl:List (List Nat)}{fr m:Nat}{listed:Array Bool}
theorem tZ.AF(F:tZ ops pre kl fr m)(h:oN ops listed):∀(i j:Nat),On listed i->j∈pre.getD i []->On listed j:=by
 intro i
 induction i using MD with
 |_ i ih=>
   intro j hi hj;have hlt:=On.lt h hi;have ho:ops[i]?=some ops[i]:=by simp[hlt]
   obtain⟨_,e,he,hb,hc⟩:=F.AB i _ ho j hj;have hon:=h.down i _ hi ho e he hb;rcases hc with hc|hc
   .exact hc ▸ hon
   .exact ih e.on (F.back i _ ho e he hb) j hon hc
theorem tZ.Kn(F:tZ ops pre kl fr m)(h:oN ops listed){i j:Nat}(hr:i∈Region.ready .any ops listed)(hj:j∈pre.getD i []):On listed j:=by
 obtain⟨h0,o,ho,hall⟩:=mem_ready.1 hr;obtain⟨_,e,he,hb,hc⟩:=F.AB i o ho j hj;rcases hc with hc|hc
 .exact hc ▸ hall e he hb
 .exact F.AF h e.on j (hall e he hb) hc
theorem tZ.least(F:tZ ops pre kl fr m)(h:oN ops listed):∀i,i<ops.size->¬ On listed i->∃k,k<=i/\k∈Region.ready .any ops listed:=by
 intro i
 induction i using MD with
 |_ i ih=>
   intro hlt hi;by_cases hex:∃j,j<i/\¬ On listed j
   .obtain⟨j,hj,hn⟩:=hex
    obtain⟨k,hk,hr⟩:=ih j hj (by omega) hn;exact⟨k,by omega,hr⟩
   .have ho:ops[i]?=some ops[i]:=by simp[hlt]
    refine⟨i,bX _,mem_ready.2 ⟨(AL h.sz hlt).1 hi,_,ho,λe he hb=>?_⟩⟩;have:=F.back i _ ho e he hb;exact Tq.1 λhn=>hex ⟨e.on,this,hn⟩
end
theorem St.ext'{σ σ':St}(h1:∀t,σ.T t=σ'.T t)(h2:∀k,σ.H k=σ'.H k)(h3:∀k,σ.nm k=σ'.nm k):σ=σ':=by
 cases σ;cases σ';simp only[St.mk.injEq];exact⟨funext h1,funext h2,funext h3⟩
theorem LP{W:Wr}{k:Nat}{f:Nat->Bool}(h:(W.all λp=>f p.1)=true)(hk:f k=false):look k W=none:=by
 cases hl:look k W with
 |none=>rfl
 |some x=>
   have:=cT.1 h _ (jW hl);simp only at this;rw[hk]at this;cases this
theorem aPs{σ:St}{t1 t2:Option Tmp}{d1 d2:D}{W1 W2:Wr}{f1 f2:Nat}(ht:∀t,t1=some t->t2≠some t)(hW:∀k,look k W1=none\/look k W2=none):(σ.aN t1 d1 W1 f1).aN t2 d2 W2 f2=(σ.aN t2 d2 W2 f2).aN t1 d1 W1 f1:=by
 refine St.ext' (λt=>?_) (λk=>?_) (λk=>?_)
 .simp only[St.aN]
  by_cases h2:t2=some t
  .rw[aE h2,aC (λh1=>ht t h1 h2)]
   simp[h2]
  .rw[aC h2]
   by_cases h1:t1=some t
   .rw[aE h1,aE h1]
   .rw[aC h1,aC h1,aC h2]
 .simp only[St.aN]
  rcases hW k with h|h
  .simp only[h]
  .simp only[h]
 .simp only[St.aN]
  cases σ.nm k <;> simp[Bool.or_comm]
section
variable{ops:Array Oper}{pre kl:List (List Nat)}{fr:Nat}
theorem aAj(S:Nat->Bool){i:Nat}{d:D}{W:Wr}(hW:(W.all λp=>eB kl fr i p.1)=true):∀(rs:Rs)(j:Nat)(σ:St),(∀(q:Nat)(d':D)(W':Wr),rs[q]?=some (d',W')->(W'.all λp=>eB kl fr (j+q) p.1)=true)->
    (∀q,q<rs.length->S (j+q)=true->(∀t,Region.dP ops i=some t->Region.dP ops (j+q)≠some t)/\∀k,eB kl fr i k=true->eB kl fr (j+q) k=false)->
    bS ops fr S j rs (σ.aN (Region.dP ops i) d W (fr+8*i))=(bS ops fr S j rs σ).aN (Region.dP ops i) d W (fr+8*i)
 |[],_,_,_,_=>rfl
 |(d',W')::rs,j,σ,hk,hc=>by
   have hk':=hk 0 d' W' rfl;rw[hZ]at hk';have rec_:=λσ=>aAj (d:=d) S hW rs (j+1) σ (λq d'' W'' h=>by have:=hk (q+1) d'' W'' (by simpa using h);rwa [show j+(q+1)=j+1+q by omega]at this)
    (λq hq hS=>by have:=hc (q+1) (by simpa using hq) (by rw[show j+(q+1)=j+1+q by omega];exact hS);rwa [show j+(q+1)=j+1+q by omega]at this)
   unfold bS;by_cases hS:S j=true
   .obtain⟨c1,c2⟩:=hc 0 (by simp) (by simpa using hS)
    rw[hZ]at c1 c2;simp only[hS,fH];rw[aPs c1 (λk=>?_)]
    .exact rec_ _
    .by_cases hki:eB kl fr i k=true
     .exact .inr (LP hk' (c2 k hki))
     .exact .inl (LP hW (by simpa using hki))
   .simp only[hS,if_false,Aj]
    exact rec_ σ
theorem Qg{S S':Nat->Bool}{i:Nat}(hi:S i=false)(hi':S' i=true)(hS:∀j,j≠i->S' j=S j):∀(rs:Rs)(j:Nat)(σ:St),j<=i->∀d W,rs[i-j]?=some (d,W)->
    (∀(q:Nat)(d':D)(W':Wr),rs[q]?=some (d',W')->(W'.all λp=>eB kl fr (j+q) p.1)=true)->
    (∀p,i<p->p<j+rs.length->S p=true->(∀t,Region.dP ops i=some t->Region.dP ops p≠some t)/\∀k,eB kl fr i k=true->eB kl fr p k=false)->
    bS ops fr S' j rs σ=(bS ops fr S j rs σ).aN (Region.dP ops i) d W (fr+8*i)
 |[],_,_,_,_,_,h,_,_=>by simp at h
 |(d',W')::rs,j,σ,hj,d,W,h,hk,hc=>by
   have hk2:∀(q:Nat)(d'':D)(W'':Wr),rs[q]?=some (d'',W'')->(W''.all λp=>eB kl fr (j+1+q) p.1)=true:=λq d'' W'' h=>by have:=hk (q+1) d'' W'' (by simpa using h);rwa [show j+(q+1)=j+1+q by omega]at this
   unfold bS;by_cases e:j=i
   .subst e
    simp only[Fs,aDv,gD,Tb]at h;obtain⟨rfl,rfl⟩:=h;simp only[hi,hi',fH,if_false,Aj];have hsame:∀(rs:Rs)(q:Nat)(σ:St),j<q->bS ops fr S' q rs σ=bS ops fr S q rs σ:=by
     intro rs
     induction rs with
     |nil=>intro q σ _;rfl
     |cons r rs ih=>intro q σ hq;unfold bS;rw[hS q (by omega)];exact ih _ _ (by omega)
    rw[hsame rs (j+1) _ (by omega)];have hk0:=hk 0 d' W' rfl;rw[hZ]at hk0;exact aAj S hk0 rs (j+1) σ hk2 (λq hq hSq=>hc (j+1+q) (by omega) (by simp;omega) hSq)
   .rw[hS j e]
    refine Qg hi hi' hS rs (j+1) _ (by omega) d W ?_ hk2 (λp h1 h2 h3=>hc p h1 (by simp;omega) h3);rw[show i-j=(i-(j+1))+1 by omega]at h;simpa using h
theorem Qh{S S':Nat->Bool}{t:Nat}:∀(rs:Rs)(j:Nat)(σ σ':St),σ.T t=σ'.T t->(∀q,q<rs.length->Region.dP ops (j+q)=some t->S (j+q)=S' (j+q))->(bS ops fr S j rs σ).T t=(bS ops fr S' j rs σ').T t
 |[],_,_,_,h,_=>h
 |(d,W)::rs,j,σ,σ',h,hq=>by
   unfold bS;refine Qh rs (j+1) _ _ ?_ (λq h1 h2=>by have:=hq (q+1) (by simpa using h1) (by rw[show j+(q+1)=j+1+q by omega];exact h2);rwa [show j+(q+1)=j+1+q by omega]at this);by_cases hd:Region.dP ops j=some t
   .have:=hq 0 (by simp) (by simpa using hd)
    rw[hZ]at this;rw[this];split
    .simp[St.aN,hd]
    .exact h
   .split <;> split <;> simp[St.aN,hd,h]
theorem Qi{S S':Nat->Bool}{k:Nat}:∀(rs:Rs)(j:Nat)(σ σ':St),σ.H k=σ'.H k->(∀(q:Nat)(d':D)(W':Wr),rs[q]?=some (d',W')->(W'.all λp=>eB kl fr (j+q) p.1)=true)->(∀q,q<rs.length->eB kl fr (j+q) k=true->S (j+q)=S' (j+q))->(bS ops fr S j rs σ).H k=(bS ops fr S' j rs σ').H k
 |[],_,_,_,h,_,_=>h
 |(d,W)::rs,j,σ,σ',h,hk,hq=>by
   unfold bS;refine Qi rs (j+1) _ _ ?_ (λq d'' W'' h=>by have:=hk (q+1) d'' W'' (by simpa using h);rwa [show j+(q+1)=j+1+q by omega]at this)
    (λq h1 h2=>by have:=hq (q+1) (by simpa using h1) (by rw[show j+(q+1)=j+1+q by omega];exact h2);rwa [show j+(q+1)=j+1+q by omega]at this)
   have hk0:=hk 0 d W rfl;rw[hZ]at hk0;by_cases hd:eB kl fr j k=true
   .have:=hq 0 (by simp) (by simpa using hd)
    rw[hZ]at this;rw[this];split
    .simp only[St.aN];rw[h]
    .exact h
   .have hl:=LP hk0 (by simpa using hd:eB kl fr j k=false)
    split <;> split <;> simp[St.aN,hl,h]
theorem Eb{S:Nat->Bool}:∀(rs:Rs)(j:Nat)(σ:St)(k:Nat),σ.nm k=false->(∀q,q<rs.length->S (j+q)=true->¬ (fr+8*(j+q)<=k/\k<fr+8*(j+q)+8))->(bS ops fr S j rs σ).nm k=false
 |[],_,_,_,h,_=>h
 |(d,W)::rs,j,σ,k,h,hq=>by
   unfold bS;refine Eb rs (j+1) _ k ?_ (λq h1 h2=>by have:=hq (q+1) (by simpa using h1) (by rw[show j+(q+1)=j+1+q by omega];exact h2);rwa [show j+(q+1)=j+1+q by omega]at this);split
   .rename_i hS
    have:=hq 0 (by simp) (by simpa using hS);rw[hZ]at this;simp only[St.aN,h,jG];rw[rM];simp only[ne_eq,bA,eC];exact this
   .exact h
theorem p6.all{P:Program}{σ:St}{Post:St->Prop}:∀(l:List Oper)(i:Nat)(rs:Rs),i=rs.length->(∀(q:Nat)(d:D)(W:Wr),rs[q]?=some (d,W)->(W.all λp=>eB kl fr q p.1)=true)->p6 P ops pre kl fr σ Post l i rs->
    ∃all:Rs,all.length=rs.length+l.length/\(∀(q:Nat)(d:D)(W:Wr),all[q]?=some (d,W)->(W.all λp=>eB kl fr q p.1)=true)/\(∀q,q<rs.length->all[q]?=rs[q]?)/\Post (bS ops fr (λ_=>true) 0 all σ) /\
     ∀(q:Nat)(o:Oper),l[q]?=some o->∃d W,all[i+q]?=some (d,W)/\nB P ops o (ctx ops pre kl fr (i+q) (all.take (i+q)) σ) (fr+8*(i+q)) d W
 |[],i,rs,hi,hk,h=>⟨rs,by simp,hk,λ_ _=>rfl,h,λq o h=>by simp at h⟩
 |o::rest,i,rs,hi,hk,h=>by
   obtain⟨d,W,h1,h2,h3⟩:=h;obtain⟨all,a1,a2,a3,a4,a5⟩:=p6.all rest (i+1) (rs++[(d,W)]) (by simp[hi]) (λq d' W' hq=>by
    rcases aDl q rs.length with hlt|heq|hgt
    .rw[cZ hlt]at hq;exact hk q d' W' hq
    .subst heq
     simp at hq;obtain⟨rfl,rfl⟩:=hq;rw[<-hi];exact h2
    .rw[rI (by simp;omega)]at hq;cases hq) h3
   have hat:all[i]?=some (d,W):=by
    rw[a3 i (by simp[hi]),hi];simp
   refine⟨all,by rw[a1];simp;omega,a2,λq hq=>by rw[a3 q (by simp;omega),cZ hq],a4,λq o' hq=>?_⟩;cases q with
   |zero=>
     simp at hq;subst hq;have htake:all.take i=rs:=by
      apply Ae;intro q;rw[eY];by_cases hlt:q<i
      .rw[aE hlt,a3 q (by simp;omega),cZ (by omega)]
      .rw[aC hlt,rI (by omega)]
     refine⟨d,W,hat,?_⟩;rw[hZ,htake];exact h1
   |succ q=>
     obtain⟨d',W',h4,h5⟩:=a5 q o' (by simpa using hq);rw[show i+1+q=i+(q+1)by omega]at h4 h5;exact⟨d',W',h4,h5⟩
theorem Qf{S:Nat->Bool}{n:Nat}(hS:∀q,n<=q->S q=false):∀(rs:Rs)(j:Nat)(σ:St),bS ops fr S j (rs.take (n-j)) σ=bS ops fr S j rs σ
 |[],_,_=>by simp
 |(d,W)::rs,j,σ=>by
   by_cases h:j<n
   .rw[show n-j=(n-(j+1))+1 by omega,List.take_succ_cons]
    unfold bS;exact Qf hS rs (j+1) _
   .have hnone:∀(rs:Rs)(q:Nat)(σ:St),n<=q->bS ops fr S q rs σ=σ:=by
     intro rs
     induction rs with
     |nil=>intro q σ _;rfl
     |cons r rs ih=>intro q σ hq;unfold bS;rw[hS q hq];exact ih _ _ (by omega)
    rw[hnone _ _ _ (by omega),hnone _ _ _ (by omega)]
theorem aQm{P:Program}{E:Env}{σ:St}{all:Rs}{Q:Exit->Act->World->Prop}{m:Nat}(F:tZ ops pre kl fr m)(hm:E.m=m)(h100:100<=fr)(hfree:∀k,fr<=k->σ.nm k=false)(hlen:all.length=ops.size)
    (hk:∀(q:Nat)(d:D)(W:Wr),all[q]?=some (d,W)->(W.all λp=>eB kl fr q p.1)=true)
    (hstep:∀(q:Nat)(o:Oper),ops[q]?=some o->∃d W,all[q]?=some (d,W)/\nB P ops o (ctx ops pre kl fr q (all.take q) σ) (fr+8*q) d W)
    {a0:Act} (hQ:∀a' w',a'.defers=a0.defers->R E (bS ops fr (λ_=>true) 0 all σ) a'.tmps w'->Q .normal a' w'):
    ∀(fuel:Nat)(listed:Array Bool)(a:Act)(w:World),oN ops listed->zY ops.size listed<=fuel->a.defers=a0.defers->R E (bS ops fr (λj=>listed.getD j false) 0 all σ) a.tmps w->wpAny P .any ops Q fuel listed a w:=by
 have hfin:∀(listed:Array Bool)(a:Act)(w:World),(∀j,j<ops.size->On listed j)->a.defers=a0.defers->R E (bS ops fr (λj=>listed.getD j false) 0 all σ) a.tmps w->Q .normal a w:=λlisted a w hall hd hR=>by
  refine hQ a w hd ?_;have:bS ops fr (λj=>listed.getD j false) 0 all σ=bS ops fr (λ_=>true) 0 all σ:=by
   have gen:∀(rs:Rs)(j:Nat)(σ:St),j+rs.length<=ops.size->bS ops fr (λj=>listed.getD j false) j rs σ=bS ops fr (λ_=>true) j rs σ:=by
    intro rs
    induction rs with
    |nil=>intro j σ _;rfl
    |cons r rs ih=>
      intro j σ hj;unfold bS;have:=hall j (by simp at hj;omega);unfold On at this;rw[this];exact ih _ _ (by simp at hj;omega)
   exact gen all 0 σ (by omega)
  rw[<-this];exact hR
 intro fuel
 induction fuel with
 |zero=>
   intro listed a w hd hf hdf hR;have hall:∀j,j<ops.size->On listed j:=λj hj=>Tq.1 λhn=>by
    have:=aAZ hj ((AL hd.sz hj).1 hn);omega
   refine⟨List.eq_nil_iff_forall_not_mem.2 λj hj=>?_,hfin listed a w hall hdf hR⟩;obtain⟨h0,o,ho,_⟩:=mem_ready.1 hj;have hlt:=(eF.1 ho).1;exact(AL hd.sz hlt).2 h0 (hall j hlt)
 |succ fuel ih=>
   intro listed a w hd hf hdf hR;refine⟨λhr=>?_,λi hi=>?_⟩
   .refine hfin listed a w (λj hj=>Tq.1 λhn=>?_) hdf hR
    obtain⟨k,_,hk'⟩:=F.least hd j hj hn;rw[hr]at hk';cases hk'
   .obtain⟨h0,o,ho,_⟩:=mem_ready.1 hi
    have hin:=(eF.1 ho).1;have hni:¬ On listed i:=(AL hd.sz hin).2 h0;have hdst:Region.dP ops i=o.dst:=by simp[Region.dP,ho]
    obtain⟨d,W,hat,hs⟩:=hstep i o ho;have hpre:∀j∈pre.getD i [],On listed j:=λj hj=>F.Kn hd hi hj
    -- writers of what i may rely on
    have hap:∀p,p<ops.size->apart pre i p=false->On listed p->p∈pre.getD i []:=λp hp hap hon=>by
     have hpi:p≠i:=λe=>hni (e ▸ hon)
     simp only[apart,aX8,bne_eq_false_iff_eq,aX5,nI]at hap;rcases hap with(h|h)|h
     .exact absurd h hpi
     .exact h
     .exact absurd (F.AF hd p i hon h) hni
    have hSpre:(λj=>(pre.getD i []).contains j)=λj=>(pre.getD i []).contains j:=rfl
    have htake:bS ops fr (λj=>(pre.getD i []).contains j) 0 (all.take i) σ=bS ops fr (λj=>(pre.getD i []).contains j) 0 all σ:=by
     have:=Qf (ops:=ops) (fr:=fr) (S:=λj=>(pre.getD i []).contains j) (n:=i) (λq hq=>by
      rw[rM];intro hc;have:=(F.AB i o ho q (nI.1 hc)).1;omega) all 0 σ
     simpa using this
    have hsame:∀p,p<ops.size->(apart pre i p=false)->listed.getD p false=(pre.getD i []).contains p:=λp hp hq=>by
     rw[aX6,nI];exact⟨λh=>hap p hp hq h,λh=>hpre p h⟩
    have hT:∀t d,(ctx ops pre kl fr i (all.take i) σ).T t=some d->(bS ops fr (λj=>listed.getD j false) 0 all σ).T t=some d:=λt d' h=>by
     simp only[ctx]at h;split at h
     .cases h
     .rename_i hno
      rw[htake]at h;rw[<-h];refine Qh all 0 σ σ rfl (λq hq hqd=>?_);rw[cY]at hqd ⊢;refine hsame q (by omega) ?_;rw[rM];intro hap';exact hno (jN.2 ⟨q,nE.2 (by omega),by simp[hap',hqd]⟩)
    have hH:∀k o',(ctx ops pre kl fr i (all.take i) σ).H k=some o'->(bS ops fr (λj=>listed.getD j false) 0 all σ).H k=some o':=λk o' h=>by
     simp only[ctx]at h;split at h
     .cases h
     .rename_i hno
      rw[htake]at h;rw[<-h];refine Qi (kl:=kl) all 0 σ σ rfl (λq d' W' hq=>by rw[cY];exact hk q d' W' hq) (λq hq hqk=>?_);rw[cY]at hqk ⊢;refine hsame q (by omega) ?_;rw[rM];intro hap';exact hno (jN.2 ⟨q,nE.2 (by omega),by simp[hap',hqk]⟩)
    have hnm:∀k,fr+8*i<=k->k<fr+8*i+8->(bS ops fr (λj=>listed.getD j false) 0 all σ).nm k=false:=λk h1 h2=>by
     refine Eb all 0 σ k (hfree k (by omega)) (λq hq hS h=>?_);rw[cY]at hS h;have:q=i:=by omega
     subst this;exact hni hS
    have hins:bS ops fr (λj=>(listed.setIfInBounds i true).getD j false) 0 all σ=(bS ops fr (λj=>listed.getD j false) 0 all σ).aN o.dst d W (fr+8*i):=by
     rw[<-hdst];refine Qg (kl:=kl) (i:=i) (by simpa[On]using hni) (by simp[hd.sz,hin]) (λj hj=>getD_set_ne false (λe=>hj e.symm)) all 0 σ (dC _) d W (by simpa using hat) (λq d' W' hq=>by rw[cY];exact hk q d' W' hq) (λp hp1 hp2 hS=>?_);refine F.aDN i p hp1 (by omega) (λhip=>hni (F.AF hd p i hS hip))
    have hop:=hs.run hT hH (by omega) hnm (λt ht=>by rw[hm];exact F.dst i o ho t ht) hR (wpAny P .any ops Q fuel (listed.setIfInBounds i true)) Q (λa' w' hd' hR'=>by
     refine ih (listed.setIfInBounds i true) a' w' (hd.set hi) ?_ (hd'.trans hdf) (by rw[hins];exact hR');have:=aAY hin h0;omega)
    unfold wpOp;simp only[ho];exact hop
def oR(P:Program)(ops:Array Oper)(pre kl:List (List Nat))(fr:Nat)(σ:St)(Post:Exit->St->Prop):List Oper->Nat->Rs->Prop
 |[],_,rs=>Post .normal (bS ops fr (λ_=>true) 0 rs σ)
 |o::rest,i,rs=>(∃d W,nB P ops o (ctx ops pre kl fr i rs σ) (fr+8*i) d W/\(W.all λp=>eB kl fr i p.1)=true/\oR P ops pre kl fr σ Post rest (i+1) (rs++[(d,W)])) \/
     ∃v W,pX ops o (ctx ops pre kl fr i rs σ)/\rG P o (ctx ops pre kl fr i rs σ) (fr+8*i) v W/\(∀p,i<p->p<ops.size->i∈pre.getD p [])/\(∀q∈rs,q.2=[])/\Post (.panic [qN v]) ((⟨λ_=>none,σ.H,σ.nm⟩:St).aN none .any W (fr+8*i))
theorem oR.all{P:Program}{σ:St}{Post:Exit->St->Prop}:∀(l:List Oper)(i:Nat)(rs:Rs),i=rs.length->(∀(q:Nat)(d:D)(W:Wr),rs[q]?=some (d,W)->(W.all λp=>eB kl fr q p.1)=true)->oR P ops pre kl fr σ Post l i rs->
    (∃all:Rs,all.length=rs.length+l.length/\(∀(q:Nat)(d:D)(W:Wr),all[q]?=some (d,W)->(W.all λp=>eB kl fr q p.1)=true)/\(∀q,q<rs.length->all[q]?=rs[q]?)/\Post .normal (bS ops fr (λ_=>true) 0 all σ) /\
     ∀(q:Nat)(o:Oper),l[q]?=some o->∃d W,all[i+q]?=some (d,W)/\nB P ops o (ctx ops pre kl fr (i+q) (all.take (i+q)) σ) (fr+8*(i+q)) d W) \/
    ∃(all:Rs)(n:Nat)(o:Oper)(v:Value)(W:Wr),all.length=n/\i<=n/\l[n-i]?=some o/\(∀(q:Nat)(d:D)(W:Wr),all[q]?=some (d,W)->(W.all λp=>eB kl fr q p.1)=true)/\(∀q,q<rs.length->all[q]?=rs[q]?) /\
     (∀(q:Nat)(o:Oper),i+q<n->l[q]?=some o->∃d W,all[i+q]?=some (d,W)/\nB P ops o (ctx ops pre kl fr (i+q) (all.take (i+q)) σ) (fr+8*(i+q)) d W) /\
     pX ops o (ctx ops pre kl fr n all σ)/\rG P o (ctx ops pre kl fr n all σ) (fr+8*n) v W/\(∀p,n<p->p<ops.size->n∈pre.getD p [])/\(∀q∈all,q.2=[])/\Post (.panic [qN v]) ((⟨λ_=>none,σ.H,σ.nm⟩:St).aN none .any W (fr+8*n))
 |[],i,rs,hi,hk,h=>.inl ⟨rs,by simp,hk,λ_ _=>rfl,h,λq o h=>by simp at h⟩
 |o::rest,i,rs,hi,hk,h=>by
   rcases h with⟨d,W,h1,h2,h3⟩|⟨v,W,h1,h2,h3,h4,h5⟩
   .have hk':∀(q:Nat)(d':D)(W':Wr),(rs++[(d,W)])[q]?=some (d',W')->(W'.all λp=>eB kl fr q p.1)=true:=λq d' W' hq=>by
     rcases aDl q rs.length with hlt|heq|hgt
     .rw[cZ hlt]at hq;exact hk q d' W' hq
     .subst heq
      simp at hq;obtain⟨rfl,rfl⟩:=hq;rw[<-hi];exact h2
     .rw[rI (by simp;omega)]at hq;cases hq
    have step0:∀all:Rs,(∀q,q<(rs++[(d,W)]).length->all[q]?=(rs++[(d,W)])[q]?)->∃d W,all[i+0]?=some (d,W)/\nB P ops o (ctx ops pre kl fr (i+0) (all.take (i+0)) σ) (fr+8*(i+0)) d W:=λall a3=>by
     have hat:all[i]?=some (d,W):=by
      rw[a3 i (by simp[hi]),hi];simp
     have htake:all.take i=rs:=by
      apply Ae;intro q;rw[eY];by_cases hlt:q<i
      .rw[aE hlt,a3 q (by simp;omega),cZ (by omega)]
      .rw[aC hlt,rI (by omega)]
     refine⟨d,W,hat,?_⟩;rw[hZ,htake];exact h1
    rcases oR.all rest (i+1) (rs++[(d,W)]) (by simp[hi]) hk' h3 with⟨all,a1,a2,a3,a4,a5⟩|⟨all,n,o',v,W',a1,a2,a3,a4,a5,a6,a7⟩
    .refine .inl ⟨all,by rw[a1];simp;omega,a2,λq hq=>by rw[a3 q (by simp;omega),cZ hq],a4,λq o' hq=>?_⟩
     cases q with
     |zero=>
       simp at hq;subst hq;exact step0 all a3
     |succ q=>
       obtain⟨d',W',h4,h5⟩:=a5 q o' (by simpa using hq);rw[show i+1+q=i+(q+1)by omega]at h4 h5;exact⟨d',W',h4,h5⟩
    .refine .inr ⟨all,n,o',v,W',a1,by omega,?_,a4,λq hq=>by rw[a5 q (by simp;omega),cZ hq],λq o'' hq hq'=>?_,a7⟩
     .rw[show n-i=(n-(i+1))+1 by omega]
      simpa using a3
     .cases q with
      |zero=>
        simp at hq';subst hq';exact step0 all a5
      |succ q=>
        obtain⟨d',W'',h4,h5⟩:=a6 q o'' (by omega) (by simpa using hq');rw[show i+1+q=i+(q+1)by omega]at h4 h5;exact⟨d',W'',h4,h5⟩
   .refine .inr ⟨rs,i,o,v,W,hi.symm,bX _,by simp,hk,λ_ _=>rfl,λq o' hq=>by omega,h1,h2,h3,h4,h5⟩
theorem K7{S:Nat->Bool}:∀(rs:Rs)(j:Nat)(σ:St),(∀q∈rs,q.2=[])->(bS ops fr S j rs σ).H=σ.H
 |[],_,_,_=>rfl
 |(d,W)::rs,j,σ,h=>by
   have hW:W=[]:=h (d,W) (by simp);subst hW;unfold bS;rw[K7 rs (j+1) _ (λq hq=>h q (by simp[hq]))];split <;> rfl
theorem aQl{P:Program}{E:Env}{σ:St}{all:Rs}{Q:Exit->Act->World->Prop}{m:Nat}(F:tZ ops pre kl fr m)(hm:E.m=m)(h100:100<=fr)(hfree:∀k,fr<=k->σ.nm k=false){n:Nat}(hn:n<ops.size)(hlen:all.length=n)
    (hk:∀(q:Nat)(d:D)(W:Wr),all[q]?=some (d,W)->(W.all λp=>eB kl fr q p.1)=true)
    (hstep:∀(q:Nat)(o:Oper),q<n->ops[q]?=some o->∃d W,all[q]?=some (d,W)/\nB P ops o (ctx ops pre kl fr q (all.take q) σ) (fr+8*q) d W)
    {o0:Oper} (ho0:ops[n]?=some o0) {pv:Value} {pW:Wr} (hgd:pX ops o0 (ctx ops pre kl fr n all σ)) (hpan:rG P o0 (ctx ops pre kl fr n all σ) (fr+8*n) pv pW) (hlater:∀p,n<p->p<ops.size->n∈pre.getD p [])
    {a0:Act} (hQ:∀(S:Nat->Bool) a' w',a'.defers=a0.defers->R E ((bS ops fr S 0 all σ).aN none .any pW (fr+8*n)) a'.tmps w'->Q (.panic [qN pv]) a' w'):
    ∀(fuel:Nat)(listed:Array Bool)(a:Act)(w:World),oN ops listed->(∀j,On listed j->j<n)->zY ops.size listed<=fuel->a.defers=a0.defers->R E (bS ops fr (λj=>listed.getD j false) 0 all σ) a.tmps w->wpAny P .any ops Q fuel listed a w:=by
 intro fuel
 induction fuel with
 |zero=>
   intro listed a w hd hltn hf hdf hR;have:On listed n:=Tq.1 λhno=>by
    have:=aAZ hn ((AL hd.sz hn).1 hno);omega
   exact absurd (hltn n this) (aDm _)
 |succ fuel ih=>
   intro listed a w hd hltn hf hdf hR;refine⟨λhr=>?_,λi hi=>?_⟩
   .exfalso
    obtain⟨k,_,hk'⟩:=F.least hd n hn (λh=>aDm _ (hltn n h));rw[hr]at hk';cases hk'
   .obtain⟨h0,o,ho,_⟩:=mem_ready.1 hi
    have hin:=(eF.1 ho).1;have hni:¬ On listed i:=(AL hd.sz hin).2 h0;have hdst:Region.dP ops i=o.dst:=by simp[Region.dP,ho]
    have hin':i<=n:=Nat.le_of_not_lt λhlt=>aDm _ (hltn n (F.Kn hd hi (hlater i hlt hin)))
    have hpre:∀j∈pre.getD i [],On listed j:=λj hj=>F.Kn hd hi hj
    -- writers of what i may rely on
    have hap:∀p,p<ops.size->apart pre i p=false->On listed p->p∈pre.getD i []:=λp hp hap hon=>by
     have hpi:p≠i:=λe=>hni (e ▸ hon)
     simp only[apart,aX8,bne_eq_false_iff_eq,aX5,nI]at hap;rcases hap with(h|h)|h
     .exact absurd h hpi
     .exact h
     .exact absurd (F.AF hd p i hon h) hni
    have hSpre:(λj=>(pre.getD i []).contains j)=λj=>(pre.getD i []).contains j:=rfl
    have htake:bS ops fr (λj=>(pre.getD i []).contains j) 0 (all.take i) σ=bS ops fr (λj=>(pre.getD i []).contains j) 0 all σ:=by
     have:=Qf (ops:=ops) (fr:=fr) (S:=λj=>(pre.getD i []).contains j) (n:=i) (λq hq=>by
      rw[rM];intro hc;have:=(F.AB i o ho q (nI.1 hc)).1;omega) all 0 σ
     simpa using this
    have hsame:∀p,p<ops.size->(apart pre i p=false)->listed.getD p false=(pre.getD i []).contains p:=λp hp hq=>by
     rw[aX6,nI];exact⟨λh=>hap p hp hq h,λh=>hpre p h⟩
    have hT:∀t d,(ctx ops pre kl fr i (all.take i) σ).T t=some d->(bS ops fr (λj=>listed.getD j false) 0 all σ).T t=some d:=λt d' h=>by
     simp only[ctx]at h;split at h
     .cases h
     .rename_i hno
      rw[htake]at h;rw[<-h];refine Qh all 0 σ σ rfl (λq hq hqd=>?_);rw[cY]at hqd ⊢;refine hsame q (by omega) ?_;rw[rM];intro hap';exact hno (jN.2 ⟨q,nE.2 (by omega),by simp[hap',hqd]⟩)
    have hH:∀k o',(ctx ops pre kl fr i (all.take i) σ).H k=some o'->(bS ops fr (λj=>listed.getD j false) 0 all σ).H k=some o':=λk o' h=>by
     simp only[ctx]at h;split at h
     .cases h
     .rename_i hno
      rw[htake]at h;rw[<-h];refine Qi (kl:=kl) all 0 σ σ rfl (λq d' W' hq=>by rw[cY];exact hk q d' W' hq) (λq hq hqk=>?_);rw[cY]at hqk ⊢;refine hsame q (by omega) ?_;rw[rM];intro hap';exact hno (jN.2 ⟨q,nE.2 (by omega),by simp[hap',hqk]⟩)
    have hnm:∀k,fr+8*i<=k->k<fr+8*i+8->(bS ops fr (λj=>listed.getD j false) 0 all σ).nm k=false:=λk h1 h2=>by
     refine Eb all 0 σ k (hfree k (by omega)) (λq hq hS h=>?_);rw[cY]at hS h;have:q=i:=by omega
     subst this;exact hni hS
    rcases Nat.lt_or_eq_of_le hin' with hlt|heq
    .obtain⟨d,W,hat,hs⟩:=hstep i o hlt ho
     have hins:bS ops fr (λj=>(listed.setIfInBounds i true).getD j false) 0 all σ=(bS ops fr (λj=>listed.getD j false) 0 all σ).aN o.dst d W (fr+8*i):=by
      rw[<-hdst];refine Qg (kl:=kl) (i:=i) (by simpa[On]using hni) (by simp[hd.sz,hin]) (λj hj=>getD_set_ne false (λe=>hj e.symm)) all 0 σ (dC _) d W (by simpa using hat) (λq d' W' hq=>by rw[cY];exact hk q d' W' hq) (λp hp1 hp2 hS=>?_);refine F.aDN i p hp1 (by omega) (λhip=>hni (F.AF hd p i hS hip))
     have hop:=hs.run hT hH (by omega) hnm (λt ht=>by rw[hm];exact F.dst i o ho t ht) hR (wpAny P .any ops Q fuel (listed.setIfInBounds i true)) Q (λa' w' hd' hR'=>by
      refine ih (listed.setIfInBounds i true) a' w' (hd.set hi) (λj hj=>?_) ?_ (hd'.trans hdf) (by rw[hins];exact hR')
      .by_cases e:j=i
       .omega
       .refine hltn j ?_
        unfold On at hj ⊢;rw[getD_set_ne false (λh=>e h.symm)]at hj;exact hj
      .have:=aAY hin h0
       omega)
     unfold wpOp;simp only[ho];exact hop
    .subst heq
     rw[ho0]at ho;cases ho;have htk:all.take i=all:=by rw[<-hlen];exact aXE
     rw[htk]at hT hH;obtain⟨ν,G,I⟩:=id hR;unfold wpOp;simp only[ho0];rw[hgd.wanted hT I,aE rfl];refine .inl (aAX (λ_ _ h=>h.elim) (λe a' w' h=>?_) (hpan E _ a w hT hH (by omega) hnm hR));obtain⟨rfl,he,hR'⟩:=h;exact hQ _ a' w' (he.trans hdf) hR'
end
section
variable{P:Program}{E:Env}{Q:Exit->St->Prop}
theorem aD3{id:Nat}{l:List Oper}{T:Nat->Option D}{H:Nat->Option aM}{N M:Nat}(pre kl:List (List Nat))(hmix:P.follows .mixedOrders=true)(hE:E.m=M)(hN:100<=N)(hB:Cj l.toArray pre kl N M=true)
    (h:p6 P l.toArray pre kl N (mk T H N) (λσ'=>Q .normal (mk σ'.T σ'.H (N+8*l.length))) l 0 []):fX P E (.region id l.toArray true) Q (mk T H N):=by
 intro a w hd hR;have F:=aD8 hB;obtain⟨all,a1,a2,_,a4,a5⟩:=p6.all l 0 [] rfl (λq d W hq=>by simp at hq) h;have hlen:all.length=l.toArray.size:=by rw[a1];simp
 have hbd:∀k,N+8*l.length<=k->(bS l.toArray N (λ_=>true) 0 all (mk T H N)).nm k=false:=λk hk=>by
  refine Eb all 0 _ k (by simp;omega) (λq hq _ h=>?_);rw[a1]at hq;simp at hq;omega
 refine wp_region_any hmix (aQm (a0:=a) (σ:=mk T H N) F hE hN (λk hk=>by simp;exact hk) hlen a2 (λq o ho=>?_) (λa' w' hd' hR'=>⟨hd'.trans hd,_,a4,hR'.bound hbd⟩) l.toArray.size _ a _ ⟨by simp,λi o hon=>?_⟩ (aA0 _) rfl ?_)
 .obtain⟨d,W,h1,h2⟩:=a5 q o (by simpa using ho)
  rw[cY]at h1 h2;exact⟨d,W,h1,h2⟩
 .exfalso
  unfold On at hon;simp[MM]at hon
 .have:bS l.toArray N (λj=>(k4 l.toArray.size false).getD j false) 0 all (mk T H N)=mk T H N:=by
   have gen:∀(rs:Rs)(j:Nat)(σ:St),bS l.toArray N (λj=>(k4 l.toArray.size false).getD j false) j rs σ=σ:=by
    intro rs
    induction rs with
    |nil=>intro j σ;rfl
    |cons r rs ih=>
      intro j σ;unfold bS;have:(k4 l.toArray.size false).getD j false=false:=by simp[MM]
      rw[this];exact ih _ _
   exact gen all 0 _
  rw[this];obtain⟨ν,G,I⟩:=hR;exact⟨ν,G,I.dI ((bB.refl w).drew) (λ_ _=>rfl)⟩
theorem aWh{id:Nat}{l:List Oper}{T:Nat->Option D}{H:Nat->Option aM}{N M:Nat}(pre kl:List (List Nat))(hmix:P.follows .mixedOrders=true)(hE:E.m=M)(hN:100<=N)(hB:Cj l.toArray pre kl N M=true)
    (h:oR P l.toArray pre kl N (mk T H N) (λe σ'=>Q e (mk σ'.T σ'.H (N+8*l.length))) l 0 []):fX P E (.region id l.toArray true) Q (mk T H N):=by
 have F:=aD8 hB;rcases oR.all l 0 [] rfl (λq d W hq=>by simp at hq) h with⟨all,a1,a2,_,a4,a5⟩|⟨all,n,o,v,W,a1,_,a3,a4,_,a6,a7,a8,a9,a10,a11⟩
 .refine aD3 pre kl hmix hE hN hB ?_
  have go:∀(l':List Oper)(i:Nat),(∀(q:Nat),l'[q]?=l[i+q]?)->all.length=i+l'.length->p6 P l.toArray pre kl N (mk T H N) (λσ'=>Q .normal (mk σ'.T σ'.H (N+8*l.length))) l' i (all.take i):=by
   intro l'
   induction l' with
   |nil=>
     intro i _ hl;have:all.take i=all:=by rw[show i=all.length by simpa using hl.symm];exact aXE
     show Q .normal _;rw[this];exact a4
   |cons o' rest ih=>
     intro i hq hl;obtain⟨d,W,h1,h2⟩:=a5 i o' (by have:=hq 0;simpa using this.symm);rw[cY]at h1 h2;refine⟨d,W,h2,a2 i d W h1,?_⟩;have:=ih (i+1) (λq=>by have:=hq (q+1);rw[List.getElem?_cons_succ]at this;rw[this];congr 1;omega) (by simp at hl;omega);rw[List.take_add_one,h1]at this;exact this
  have:=go l 0 (λq=>by rw[cY]) (by rw[a1];simp);simpa using this
 .intro a w hd hR
  have hn:n<l.toArray.size:=by have:=(bP.1 a3).1;simpa using this
  refine wp_region_any hmix (aQl (a0:=a) (σ:=mk T H N) F hE hN (λk hk=>by simp;exact hk) hn a1 a4 (λq o' hq ho=>?_) (o0:=o) (by simpa using a3) a7 a8 a9 (λS a' w' hd' hR'=>⟨hd'.trans hd,_,a11,?gS⟩) l.toArray.size _ a _ ⟨by simp,λi o hon=>?gA⟩ (λj hon=>?gB) (aA0 _) rfl ?gC)
  .obtain⟨d,W,h1,h2⟩:=a6 q o' (by omega) (by simpa using ho)
   rw[cY]at h1 h2;exact⟨d,W,h1,h2⟩
  case gS=>
   have hbd:∀k,N+8*l.length<=k->((bS l.toArray N S 0 all (mk T H N)).aN none .any W (N+8*n)).nm k=false:=λk hk=>by
    have hn':n<l.length:=by simpa using hn
    have h1:=Eb (ops:=l.toArray) (fr:=N) (S:=S) all 0 (mk T H N) k (by simp;omega) (λq hq _ h=>by omega);simp only[St.aN,h1,jG];rw[rM];simp only[ne_eq,bA,eC];omega
   have hR2:=hR'.bound hbd;obtain⟨ν,G,I⟩:=hR2;refine⟨ν,G,{ I with T:=λt d h=>?_,H:=λk o h=>?_,cF:=λk o k' o' h h'=>?_ }⟩
   .simp[St.aN]at h
   .exact I.H k o (by simp only[St.aN,K7 all 0 _ a10];exact h)
   .exact I.cF k o k' o' (by simp only[St.aN,K7 all 0 _ a10];exact h) (by simp only[St.aN,K7 all 0 _ a10];exact h')
  case gA=>
   exfalso;unfold On at hon;simp[MM]at hon
  case gB=>
   exfalso;unfold On at hon;simp[MM]at hon
  case gC=>
   have:bS l.toArray N (λj=>(k4 l.toArray.size false).getD j false) 0 all (mk T H N)=mk T H N:=by
    have gen:∀(rs:Rs)(j:Nat)(σ:St),bS l.toArray N (λj=>(k4 l.toArray.size false).getD j false) j rs σ=σ:=by
     intro rs
     induction rs with
     |nil=>intro j σ;rfl
     |cons r rs ih=>
       intro j σ;unfold bS;have:(k4 l.toArray.size false).getD j false=false:=by simp[MM]
       rw[this];exact ih _ _
    exact gen all 0 _
   rw[this];obtain⟨ν,G,I⟩:=hR;exact⟨ν,G,I.dI ((bB.refl w).drew) (λ_ _=>rfl)⟩
end
def RT(ops:Array Oper)(pre:List (List Nat))(i t p:Nat):Bool:=
 (fJ ops.size).all (λq=>!(apart pre i q)||Region.dP ops q != some t)&&(pre.getD i []).contains p&&(Region.dP ops p == some t)&&(pre.getD i []).all (λq=>decide (q<=p)||Region.dP ops q != some t)
def RU(ops:Array Oper)(pre:List (List Nat))(i t:Nat):Bool:=
 (fJ ops.size).all (λq=>!(apart pre i q)||Region.dP ops q != some t)&&(pre.getD i []).all (λq=>Region.dP ops q != some t)
def aBm(ops:Array Oper)(pre kl:List (List Nat))(fr i k:Nat):Bool:=
 (fJ ops.size).all (λq=>!(apart pre i q)||!(eB kl fr q k))&&(pre.getD i []).all (λq=>!(eB kl fr q k))
theorem aAm{ops:Array Oper}{fr:Nat}{S:Nat->Bool}{t p:Nat}{d:D}{W:Wr}(hS:S p=true)(hd:Region.dP ops p=some t):∀(rs:Rs)(j:Nat)(σ:St),j<=p->rs[p-j]?=some (d,W)->(∀q,p<q->q<j+rs.length->S q=true->Region.dP ops q≠some t)->
    (bS ops fr S j rs σ).T t=some d
 |[],_,_,_,h,_=>by simp at h
 |(d',W')::rs,j,σ,hj,h,hq=>by
   unfold bS;by_cases e:j=p
   .subst e
    simp only[Fs,aDv,gD,Tb]at h;obtain⟨rfl,rfl⟩:=h;have hno:∀(rs:Rs)(q:Nat)(σ:St),j<q->(∀x,j<x->x<q+rs.length->S x=true->Region.dP ops x≠some t)->(bS ops fr S q rs σ).T t=σ.T t:=by
     intro rs
     induction rs with
     |nil=>intro q σ _ _;rfl
     |cons r rs ih=>
       intro q σ hq' hx;unfold bS;rw[ih (q+1) _ (by omega) (λx h1 h2=>hx x h1 (by simp;omega))];split
       .rename_i hSq
        have:=hx q hq' (by simp) hSq;simp[St.aN,this]
       .rfl
    rw[hno rs (j+1) _ (by omega) (λx h1 h2=>hq x h1 (by simp;omega))];simp[hS,St.aN,hd]
   .refine aAm (W:=W) hS hd rs (j+1) _ (by omega) ?_ (λq h1 h2=>hq q h1 (by simp;omega))
    rw[show p-j=(p-(j+1))+1 by omega]at h;simpa using h
theorem aAl{ops:Array Oper}{fr:Nat}{S:Nat->Bool}{t:Nat}:∀(rs:Rs)(j:Nat)(σ:St),(∀q,S q=true->Region.dP ops q≠some t)->(bS ops fr S j rs σ).T t=σ.T t
 |[],_,_,_=>rfl
 |(d',W')::rs,j,σ,hq=>by
   unfold bS;rw[aAl rs (j+1) _ hq];split
   .rename_i hS;simp[St.aN,hq j hS]
   .rfl
theorem aAk{ops:Array Oper}{kl:List (List Nat)}{fr:Nat}{S:Nat->Bool}{k:Nat}:∀(rs:Rs)(j:Nat)(σ:St),(∀q,S q=true->eB kl fr q k=false)->(∀(q:Nat)(d':D)(W':Wr),rs[q]?=some (d',W')->(W'.all λx=>eB kl fr (j+q) x.1)=true)->(bS ops fr S j rs σ).H k=σ.H k
 |[],_,_,_,_=>rfl
 |(d',W')::rs,j,σ,hq,hk=>by
   unfold bS;rw[aAk (kl:=kl) rs (j+1) _ hq (λq d'' W'' h=>by have:=hk (q+1) d'' W'' (by simpa using h);rwa [show j+(q+1)=j+1+q by omega]at this)];split
   .rename_i hS
    have h0:=hk 0 d' W' rfl;rw[hZ]at h0;have:=LP h0 (hq j hS);simp[St.aN,this]
   .rfl
def vX(kl:List (List Nat))(fr:Nat)(rs:Rs):Prop:=∀(q:Nat)(d:D)(W:Wr),rs[q]?=some (d,W)->(W.all λx=>eB kl fr q x.1)=true
theorem aWE{ops:Array Oper}{pre kl:List (List Nat)}{fr i t:Nat}{rs:Rs}{σ:St}(p:Nat){d:D}{W:Wr}(h:RT ops pre i t p=true)(hp:rs[p]?=some (d,W)):(ctx ops pre kl fr i rs σ).T t=some d:=by
 simp only[RT,bA,kX,nI]at h;obtain⟨⟨⟨h1,h2⟩,h3⟩,h4⟩:=h;simp only[ctx];rw[aC (λhc=>by
  obtain⟨q,hq,hq2⟩:=jN.1 hc;have:=cT.1 h1 q hq;simp only[bA,kX]at hq2;simp[hq2.1,hq2.2]at this)]
 refine aAm (p:=p) (by rw[nI];exact h2) h3 rs 0 σ (dC _) (by simpa using hp) (λq hq _ hS hd=>?_);have:=cT.1 h4 q (nI.1 hS);simp only[lN,eC,bne_iff_ne,ne_eq]at this;rcases this with h|h
 .omega
 .exact h hd
theorem aWF{ops:Array Oper}{pre kl:List (List Nat)}{fr i t:Nat}{rs:Rs}{σ:St}{d:D}(h:RU ops pre i t=true)(hp:σ.T t=some d):(ctx ops pre kl fr i rs σ).T t=some d:=by
 simp only[RU,bA]at h;obtain⟨h1,h4⟩:=h;simp only[ctx];rw[aC (λhc=>by
  obtain⟨q,hq,hq2⟩:=jN.1 hc;have:=cT.1 h1 q hq;simp only[bA,kX]at hq2;simp[hq2.1,hq2.2]at this)]
 rw[aAl rs 0 σ (λq hS hd=>by
  have:=cT.1 h4 q (nI.1 hS);simp[hd]at this)]
 exact hp
theorem l5{ops:Array Oper}{pre kl:List (List Nat)}{fr i k:Nat}{rs:Rs}{σ:St}{ob:aM}(hr:vX kl fr rs)(h:aBm ops pre kl fr i k=true)(hp:σ.H k=some ob):(ctx ops pre kl fr i rs σ).H k=some ob:=by
 simp only[aBm,bA]at h;obtain⟨h1,h4⟩:=h;simp only[ctx];rw[aC (λhc=>by
  obtain⟨q,hq,hq2⟩:=jN.1 hc;have:=cT.1 h1 q hq;simp only[bA]at hq2;simp[hq2.1,hq2.2]at this)]
 rw[aAk (kl:=kl) rs 0 σ (λq hS=>by
  have:=cT.1 h4 q (nI.1 hS);simpa using this) (λq d' W' h=>by rw[cY];exact hr q d' W' h)]
 exact hp
theorem vX.nil{kl:List (List Nat)}{fr:Nat}:vX kl fr []:=λq d W h=>by simp at h
theorem vX.snoc{kl:List (List Nat)}{fr i:Nat}{rs:Rs}{d:D}{W:Wr}(h:vX kl fr rs)(hi:rs.length=i)(hk:(W.all λx=>eB kl fr i x.1)=true):vX kl fr (rs++[(d,W)]):=λq d' W' hq=>by
 rcases aDl q rs.length with hlt|heq|hgt
 .rw[cZ hlt]at hq;exact h q d' W' hq
 .subst heq
  simp at hq;obtain⟨rfl,rfl⟩:=hq;rw[hi];exact hk
 .rw[rI (by simp;omega)]at hq;cases hq
structure rF(kl:List (List Nat))(fr:Nat)(rs:Rs)(i:Nat):Prop where
 ok:vX kl fr rs
 len:rs.length=i
theorem rF.snoc{kl:List (List Nat)}{fr i:Nat}{rs:Rs}{d:D}{W:Wr}(h:rF kl fr rs i)(hk:(W.all λx=>eB kl fr i x.1)=true):rF kl fr (rs++[(d,W)]) (i+1):=⟨h.ok.snoc h.len hk,by simp[h.len]⟩
theorem rF.rev{kl:List (List Nat)}{fr i:Nat}{rr:Rs}(h:rF kl fr rr.reverse i){p q:Nat}(hpq:p+q+1=i){x:D×Wr}(hp:rr[q]?=some x):rr.reverse[p]?=some x:=by
 have hl:=h.len;rw[List.length_reverse]at hl;rw[List.getElem?_reverse (by omega),show rr.length-1-p=q by omega];exact hp
theorem fP{ops:Array Oper}{pre kl:List (List Nat)}{fr i t:Nat}{rr:Rs}{σ:St}{d:D}{W:Wr}(hr:rF kl fr rr.reverse i)(p q:Nat)(hpq:p+q+1=i)(h:RT ops pre i t p=true)(hp:rr[q]?=some (d,W)):(ctx ops pre kl fr i rr.reverse σ).ev (.tmp t)=some d:=aWE p h (hr.rev hpq hp)
theorem oE{ops:Array Oper}{pre kl:List (List Nat)}{fr i t:Nat}{rs:Rs}{σ:St}{d:D}(h:RU ops pre i t=true)(hp:σ.T t=some d):(ctx ops pre kl fr i rs σ).ev (.tmp t)=some d:=aWF h hp
section
variable{P:Program}{E:Env}{Q:Exit->St->Prop}{ops:Array Oper}{pre kl:List (List Nat)}{fr:Nat}{σ:St}{Post:St->Prop}{o:Oper}{rest:List Oper}{i:Nat}{rr:Rs}
def Lc:List (Option Tmp)->Nat->Rs->St->St
 |dst::ds,fr,(d,W)::rs,σ=>Lc ds (fr+8) rs (σ.aN dst d W fr)
 |_,_,_,σ=>σ
theorem aAn{ops:Array Oper}{fr:Nat}:∀(ds:List (Option Tmp))(j:Nat)(rs:Rs)(σ:St),rs.length=ds.length->(∀q,q<ds.length->ds[q]?=some (Region.dP ops (j+q)))->bS ops fr (λ_=>true) j rs σ=Lc ds (fr+8*j) rs σ
 |[],_,[],_,_,_=>rfl
 |[],_,_::_,_,h,_=>by simp at h
 |_::_,_,[],_,h,_=>by simp at h
 |dst::ds,j,(d,W)::rs,σ,h,hd=>by
   have h0:=hd 0 (by simp);simp only[aDv,gD,hZ]at h0;unfold bS Lc;rw[aE rfl,<-h0,aAn ds (j+1) rs _ (by simpa using h) (λq hq=>by have:=hd (q+1) (by simpa using hq);rw[show j+(q+1)=j+1+q by omega]at this;simpa using this)];rw[show fr+8*(j+1)=fr+8*j+8 by omega]
theorem aD5{id:Nat}{l:List Oper}{T:Nat->Option D}{H:Nat->Option aM}{N M:Nat}(pre kl:List (List Nat))(hmix:P.follows .mixedOrders=true)(hE:E.m=M)(hN:100<=N)(hB:Cj l.toArray pre kl N M=true)
    (N':Nat) (hN':N+8*l.length=N') (h:rF kl N ([]:Rs).reverse 0->p6 P l.toArray pre kl N (mk T H N) (λσ'=>Q .normal (mk σ'.T σ'.H N')) l 0 ([]:Rs).reverse):fX P E (.region id l.toArray true) Q (mk T H N):=
 aD3 pre kl hmix hE hN hB (by rw[hN'];exact h ⟨vX.nil,rfl⟩)
theorem fI{d:D}{W:Wr}(hr:rF kl fr rr.reverse i)(hg:o.guard=none)(f:Nat)(i':Nat)(hf:fr+8*i=f)(hi:i+1=i')(h:aU P o (ctx ops pre kl fr i rr.reverse σ) f d W)(hk:(W.all λp=>eB kl fr i p.1)=true)
    (r:rF kl fr ((d,W)::rr).reverse i'->p6 P ops pre kl fr σ Post rest i' ((d,W)::rr).reverse):p6 P ops pre kl fr σ Post (o::rest) i rr.reverse:=by
 subst hf hi;rw[List.reverse_cons]at r;exact⟨d,W,.inl ⟨.inl hg,h⟩,hk,r (hr.snoc hk)⟩
theorem aDa(ds:List (Option Tmp))(hr:rF kl fr rr.reverse i)(hi:ds.length=i)(hds:((fJ ds.length).all λq=>ds[q]? == some (Region.dP ops q))=true)(h:Post (Lc ds fr rr.reverse σ)):p6 P ops pre kl fr σ Post [] i rr.reverse:=by
 show Post (bS ops fr (λ_=>true) 0 rr.reverse σ);rw[aAn ds 0 rr.reverse σ (by rw[hr.len,hi]) (λq hq=>by
  have:=cT.1 hds q (nE.2 hq);rw[cY];simpa using this)]
 exact h
end
end Go.Ab
