/- The abstract machine, run: every operation. Conditions are in the theorems. -/
import Derived.Test.YtlhdefefoaldfaaGreatDoorE6
import Derived.Laws.CopyRow
import Derived.ChangeKeysEq
import Derived.Lib.OthersKept
import Derived.Lib.UnsafeStr
import Derived.OpenShut
import Derived.SizedLaws
import Derived.Lib.LaidTab
open Array renaming empty_append->bAb,ext'->v8,getElem?_eq_getElem->p8,getElem?_modify->aBA,getElem?_setIfInBounds_ne->v7,getElem?_toList->Fl,length_toList->p7,size_append->bAa,toList_append->bA9
open Bool renaming and_eq_true->bM,and_eq_true_iff->Fk,or_eq_true->nD
open Go.IntKind renaming i64->aC
open Int renaming natCast_mul->bA0,toNat->vX,toNat_of_nonneg->bAZ
open List renaming all_eq_true->eI,any_eq_true->rJ,drop_drop->bAV,drop_zero->bAT,eq_nil_of_length_eq_zero->aMu,flatMap->iY,flatMap_cons->jX,flatten_cons->vW,getElem?_append_left->gK,getElem?_append_right->dW,getElem?_drop->zM,getElem?_eq_getElem->dE,getElem?_eq_some_iff->dC,getElem?_map->dT,getElem?_range->SD,getElem?_take->iX,length->gW,length_append->dK,length_drop->Ff,length_map->dR,length_replicate->aAr,length_take->kS,map_append->rG,map_congr_left->bAR,map_cons->iB,map_map->zL,map_nil->aAp,mem_append->lV,mem_append_left->bAO,mem_append_right->bAN,mem_cons->eP,mem_cons_of_mem->eY,mem_cons_self->gN,mem_iff_getElem?->jN,mem_map->fG,replicate->e9,replicate_succ->rF,size_toArray->bAL,take_append_drop->SC,take_left->SB,take_of_length_le->Fe
open Nat renaming add_mul->jW,beq->bR,beq_refl->aMn,ble->kQ,eq_of_beq_eq_true->cA,le_add_right->aMm,le_of_ble_eq_true->fN,le_refl->bZ,min_eq_left->a9y,mul_le_mul_right->nB,zero_add->fJ,zero_le->vU,zero_mul->Fc
open Ne renaming symm->dS
open Option renaming bind_eq_some_iff->lH,map_eq_some_iff->cV,map_none->oN,map_some->lG
open Option.some renaming inj->fV
open Prod renaming fst->zH,snd->s7
open UInt8 renaming ofNat->fF
/- Operations: calls; every operation. -/
namespace Go.Ax
open aA
open Go.RowKit Go.Ab
theorem a4h{f:Nat->Option Nat}{x y:X}(h:fS f x=some y):y.pl=true:=by
 cases x <;> simp only[fS]at h <;> first|(split at h <;> cases h <;> rfl)|(cases h <;> rfl)|cases h
theorem Yi{f:Nat->Option Nat}{H:Nat->Option XO}:∀{al:List (Nat×Nat)}{H':XH},pI f H al=some H'->H'.map (·.1)=al.map (·.1)
 |[],H',h=>by cases h;rfl
 |(new,q)::l,H',h=>by
   unfold pI at h;split at h
   .split at h
    .split at h
     .rename_i r hr
      cases h;rw[iB,iB,Yi hr]
     .cases h
    .cases h
   .cases h
theorem aAb{σ:Vw}{nm':Nat->Bool}{ρ:Nat->Nat}{f:Nat->Option Nat}(hf:∀k k',f k=some k'->nm' k'=true/\k=ρ k'):∀{al:List (Nat×Nat)}{H':XH},(∀p∈al,ρ p.1=p.2)->pI f σ.H al=some H'->wB false σ.den nm' ρ (HA H')
 |[],H',_,h=>by cases h;exact .nil
 |(new,q)::l,H',hp,h=>by
   unfold pI at h;split at h
   .rename_i o ho
    split at h
    .rename_i o' ho'
     split at h
     .rename_i r hr
      cases h;have e:=hp (new,q) (gN ..);simp only at e;exact .cons (by rw[e];exact gJ ho) (JP hf ho') (aAb hf (λp hm=>hp p (eY _ hm)) hr)
     .cases h
    .cases h
   .cases h
theorem aAa{H2:List (Nat×aZ)}{nm':Nat->Bool}{ρ:Nat->Nat}{f:Nat->Option Nat}(hf:∀k k',f k=some k'->nm' k'=true/\k=ρ k'){R:Wr}(hR:oR H2 nm' ρ R):∀{l:XH}{W:Wx},(∀p∈l,Ab.look p.1 H2=some p.2.A)->oJ f l=some W->oR H2 nm' ρ (WA W++R)
 |[],W,_,h=>by cases h;exact hR
 |(k,o)::l,W,hp,h=>by
   unfold oJ at h;split at h
   .rename_i k' hk
    split at h
    .rename_i o' ho'
     split at h
     .rename_i r hr
      cases h;have e:=hp (k,o) (gN ..);simp only at e;have:=aAa hf hR (λp hm=>hp p (eY _ hm)) hr;exact .cons (by rw[<-(hf k k' hk).2];exact e) (JP hf ho') this
     .cases h
    .cases h
   .cases h
theorem Rj{H2:List (Nat×aZ)}{nm':Nat->Bool}{ρ:Nat->Nat}{H':XH}:∀(rn:List (Nat×Nat)),oR H2 nm' ρ (WA (gone H' rn))
 |[]=>.nil
 |(new,q)::l=>by
   unfold gone;split
   .exact Rj l
   .exact .gone (Rj l)
theorem RL{H':XH}{new q:Nat}:∀{rn:List (Nat×Nat)},(new,q)∈rn->lk new H'=none->(q,none)∈gone H' rn
 |(n,q')::l,h,hn=>by
   unfold gone;rcases eP.1 h with e|h
   .cases e
    rw[hn];exact gN ..
   .split
    .exact RL h hn
    .exact eY _ (RL h hn)
theorem RM{H':XH}{q:Nat}{x:Option XO}:∀{rn:List (Nat×Nat)},(q,x)∈gone H' rn->∃new,(new,q)∈rn
 |(n,q')::l,h=>by
   unfold gone at h;split at h
   .obtain⟨new,hm⟩:=RM h
    exact⟨new,eY _ hm⟩
   .rcases eP.1 h with e|h
    .cases e;exact⟨n,gN ..⟩
    .obtain⟨new,hm⟩:=RM h
     exact⟨new,eY _ hm⟩
theorem aAW{f:Nat->Option Nat}{k':Nat}{x:Option XO}:∀{l:XH}{W:Wx},oJ f l=some W->(k',x)∈W->∃k,f k=some k'
 |[],W,h,hm=>by cases h;cases hm
 |(k,o)::l,W,h,hm=>by
   unfold oJ at h;split at h
   .rename_i k2 hk
    split at h
    .split at h
     .rename_i r hr
      cases h;rcases eP.1 hm with e|hm
      .cases e;exact⟨k,hk⟩
      .exact aAW hr hm
     .cases h
    .cases h
   .cases h
theorem aAV{f:Nat->Option Nat}{k k':Nat}(hk:f k=some k'):∀{l:XH}{W:Wx}{o:XO},oJ f l=some W->lk k l=some o->∃x,(k',x)∈W
 |[],W,o,h,hm=>by cases hm
 |(k1,o1)::l,W,o,h,hm=>by
   unfold oJ at h;split at h
   .rename_i k2 hk2
    split at h
    .split at h
     .rename_i r hr
      cases h;unfold lk at hm;split at hm
      .rename_i he
       have:=cA he;subst this;rw[hk]at hk2;cases hk2;exact⟨_,gN ..⟩
      .obtain⟨x,hx⟩:=aAV hk hr hm
       exact⟨x,eY _ hx⟩
     .cases h
    .cases h
   .cases h
structure RbF(fr:Nat)(rn:List (Nat×Nat)):Prop where
 iQ:∀new q,(new,q)∈rn->50<=new/\new<100/\¬ (fr<=q/\q<fr+8)/\lk new rn=some q
 nd:(rn.map (·.2)).Nodup
theorem aK0{fr:Nat}{rn:List (Nat×Nat)}(h:Qa fr rn=true):RbF fr rn:=by
 unfold Qa at h;rw[bM]at h;refine⟨λnew q hm=>?_,Qp h.2⟩;have:=eI.1 h.1 _ hm;simp only[bM,nD]at this;obtain⟨⟨⟨a,b⟩,c⟩,d⟩:=this;have a:=fN a;have b:new<100:=fN b;refine⟨a,b,λ⟨c1,c2⟩=>?_,?_⟩
 .rcases c with c|c
  .have c:q<fr:=fN c
   omega
  .have c:=fN c
   omega
 .split at d
  .rename_i z hz;rw[hz,cA d]
  .cases d
def pF(p:Nat×Nat):Nat×Nat:=(p.2,p.1)
theorem Q9{fr:Nat}{rn:List (Nat×Nat)}(F:RbF fr rn){new q:Nat}(h:(new,q)∈rn):Ab.look q (rn.map pF)=some new:=by
 obtain⟨x,hx⟩:=FN (l:=rn.map pF) (k:=q) (fG.2 ⟨(q,new),fG.2 ⟨_,h,rfl⟩,rfl⟩);obtain⟨p,hp,he⟩:=fG.1 (lC hx);cases he;rw[hx,Qn F.nd h hp]
theorem RR{σ:Vw}{r:aE}:∀{l:List Operand}{k:List X->O},σ.vK l k=some r->∃xs,k xs=some r/\xs.length=l.length/\∀(i:Nat)(x:X),xs[i]?=some x->∃p,l[i]?=some p/\σ.ev p=some x
 |[],k,h=>⟨[],h,rfl,λi p h=>by simp at h⟩
 |x::l,k,h=>by
   unfold Vw.vK at h;obtain⟨y,hy,h⟩:=bL h;obtain⟨xs,h1,h2,h3⟩:=RR h;refine⟨y::xs,h1,by simp[h2],λi p hp=>?_⟩;cases i with
   |zero=>simp at hp;subst hp;exact⟨x,rfl,hy⟩
   |succ i=>exact h3 i p (by simpa using hp)
theorem Fb.ok{P:Program}{o:Oper}{σ:St}{fr:Nat}{d:D}{W:Wr}(h:Fb P o σ fr (λ_:Unit=>True) (λ_=>d) (λ_=>W)):bI P o σ fr d W:=λE σ₁ a w h1 h2 h3 h4 h5 h6 Q=>Oper.wp_mono (λ_ _ ⟨q1,_,_,q2⟩=>⟨q1,q2⟩) (h E σ₁ a w h1 h2 h3 h4 h5 h6 Q)
theorem ZD:∀{l:XH},sK (l.map (·.1))=true->∀p∈l,lk p.1 l=some p.2
 |[],_,p,hp=>by cases hp
 |(k,o)::l,h,p,hp=>by
   rcases eP.1 hp with e|hm
   .subst e
    unfold lk;rw[show bR k k=true from aMn k]
   .have hnd:=Qp h
    rw[iB,List.nodup_cons]at hnd;have hne:k≠p.1:=λe=>hnd.1 (fG.2 ⟨p,hm,e.symm⟩)
    unfold lk;rw[oB hne];unfold sK at h;simp only[iB]at h;split at h
    .cases h
    .exact ZD h p hm
section
variable{c:Cx}{σ:Vw}{κ:Nat->Bool}{fr:Nat}{o:Oper}{k:X->Wx->O}{r:aE}
theorem Zi(hG:pZ c.P c.G)(hσ:σ.Ok κ){fo:Operand}{args:Array Operand}{tys:Array TypeId}{f:FuncId}{caps asL ys:List X}{g:bK}{fn:Func}{code:Code}{els:O}(ho:o.op = .call { callee:=.value fo,args:=args,argTypes:=tys })(hfo:σ.ev fo=some (.fn f caps))(hl:asL.length=args.toList.length)
    (hev:∀(i:Nat)(x:X),asL[i]?=some x->∃p,args.toList[i]?=some p/\σ.ev p=some x) (hg:lk f c.G=some g) (hfn:c.P.funcs[f]?=some fn) (hb:fn.body=some code) (hD:eJ σ.den.H ((asL++caps).map X.D) (ys.map X.D)) (h:Jk σ fr g ys els k=some r):els=some r\/eL c σ fr o k r:=by
 unfold Jk at h;obtain⟨rn,hrn⟩:∃rn,JX 50 (reach σ.H 40 (kL ys []) [])=rn:=⟨_,rfl⟩
 simp only[hrn]at h;split at h
 .exact .inl h
 rename_i hrb;have F:=aK0 hrb;split at h
 .exact .inl h
 rename_i zs hzs;split at h
 .exact .inl h
 rename_i H' hH';split at h
 case h_2=>exact .inl h
 rename_i pre res hres;split at h
 case h_2=>cases h
 rename_i hnd;obtain ⟨x,hx,h6⟩:=bL h;clear h;obtain ⟨W,hW,h7⟩:=bL h6;clear h6;obtain ⟨h8,hpre⟩:=oG h7;clear h7;refine .inr ⟨x,_,h8,a4h hx,fun hon=>?_⟩;obtain ⟨hname,hE⟩:=hG f g hg;have hname' : fn.name ≠ "runtime.NumGoroutine" := by
  unfold FJ at hname;rw[hfn]at hname;simpa using hname
 have hDoes:=hE zs H' pre res hres (hpre hon.g);have hf1:∀k k',old rn k=some k'->decide (k'<100)=true/\k=bP rn k':=λk k' hk=>by
  obtain⟨_,b,_,d⟩:=F.iQ _ _ (FG hk);exact⟨aQ b,(Eu d).symm⟩
 have hf2:∀k k',j7 fr rn k=some k'->hJ fr (rn.map pF) k'=true/\k=back fr (rn.map pF) k':=λk k' hk=>by
  unfold j7 at hk;split at hk
  .rename_i hle
   have hle:=fN hle;split at hk
   .rename_i hlt
    have hlt:k<108:=fN hlt;cases hk;refine⟨?_,?_⟩
    .unfold hJ
     rw[nD,bM];exact .inl ⟨aQ (by omega),aQ (by omega)⟩
    .unfold back
     rw[aJ ⟨by omega,by omega⟩];omega
   .cases hk
  .have hm:=mT hk
   obtain⟨_,_,c3,_⟩:=F.iQ _ _ hm;have hlook:=Q9 F hm;refine⟨?_,?_⟩
   .unfold hJ
    rw[nD,hlook];exact .inr rfl
   .unfold back
    rw[aD c3];unfold bP;rw[hlook]
 have hkeys:(HA H').map (·.1)=rn.map (·.1):=by
  rw[<-Yi hH'];unfold HA;rw[zL];rfl
 have hkey:∀{p:Nat×aZ},p∈HA H'->∃q,(p.1,q)∈rn:=λ{p} hp=>by
  have:p.1∈rn.map (·.1):=hkeys ▸ fG.2 ⟨p,hp,rfl⟩;obtain⟨⟨a,b⟩,hm,e⟩:=fG.1 this;simp only at e;subst e;exact⟨b,hm⟩
 have hkey':∀{new q:Nat},(new,q)∈rn->∃p∈HA H',p.1=new:=λ{new q} hm=>by
  have:new∈(HA H').map (·.1):=hkeys ▸ fG.2 ⟨_,hm,rfl⟩;obtain⟨p,hp,e⟩:=fG.1 this;exact⟨p,hp,e⟩
 have hrnm:∀{new q:Nat},(new,q)∈rn->bP rn new=q:=λhm=>Eu (F.iQ _ _ hm).2.2.2
 refine Fb.ok (a6M (ds:=zs.map X.D) (H:=HA H') (r':=λ_=>res.1.D) (H'':=λ_=>HA res.2) rn (rn.map pF) ?_ hDoes.n (aAb hf1 (λp hp=>hrnm hp) hH') (λ_ _=>JO hf2 _ _ hx) (λ_ _=>?_) (λ_ _=>?_) ?_)
 .intro E σ₁ ν G w a hT hHH I
  have hfv:=I.ev (St.fH hT (bV hσ hon hfo));obtain⟨v,hv⟩:∃v,a.eval fo=v:=⟨_,rfl⟩
  rw[hv]at hfv;unfold X.D at hfv;cases hfv with
  | @fn _ vs _ hvl hvd=>
    have hL:=(x9 hf1 ys zs hzs (H:=σ.den.H)).get;rw[fO,fO]at hL;have hlen:args.toList.length+caps.length=zs.length:=by
     have e1:=hD.len;have e2:=hL.1;simp only[dR,dK]at e1 e2;omega
    have hvl':vs.size=caps.length:=by rw[hvl,fO,dR]
    refine⟨args.toList.map a.eval++vs.toList,?_,?_,λt d' ht=>?_⟩
    .unfold execOp
     rw[ho];have:(args.toList.map a.eval++vs.toList).toArray=args.map a.eval++vs:=by
      apply v8;simp
     rw[this];simp only[resolve,hv,Deferred.ofValue,invoke,Sem.run_bind,Sem.run_pure,Result.andThen_ok,bAb];exact aKO hfn hname' (by rw[hb];exact λe=>by cases e) _ w
    .simp only[dK,dR,p7]at hlen ⊢
     omega
    .have htl:t<zs.length:=by have:=(dC.1 ht).1;simpa using this
     obtain⟨dy,hdy⟩:∃dy,(ys.map X.D)[t]?=some dy:=⟨_,dE (by rw[hL.1,dR];exact htl)⟩
     obtain⟨d0,hd0,hwk⟩:=hD.get t dy hdy;have hle:=hL.2 t dy d' hdy ht;rw[dT]at hd0;obtain⟨x0,hx0,rfl⟩:=cV.1 hd0;have hval:∃u,(args.toList.map a.eval++vs.toList)[t]?=some u/\DR ν σ₁.nm w G u x0.D:=by
      by_cases hlt:t<args.toList.length
      .rw[gK (by omega)]at hx0
       obtain⟨p,hp,hpv⟩:=hev t x0 hx0;refine⟨a.eval p,?_,I.ev (St.fH hT (bV hσ hon hpv))⟩;rw[gK (by rw[dR];exact hlt),dT,hp];rfl
      .rw[dW (by omega),hl]at hx0
       have hi:t-args.toList.length<vs.size:=by rw[hvl'];exact(dC.1 hx0).1
       refine⟨vs[t-args.toList.length],?_,hvd _ _ _ (p8 hi) (by rw[fO,dT,hx0];rfl)⟩;rw[dW (by rw[dR];omega),dR,Fl,p8 hi]
     obtain⟨u,hu,hdr⟩:=hval;exact⟨u,dy,hu,hwk E σ₁ ν G w a.tmps hHH I u hdr,hle⟩
 .have hlk:∀p∈res.2,Ab.look p.1 (HA res.2)=some p.2.A:=λp hp=>by
   rw[vE,ZD hnd p hp];rfl
  have:=aAa hf2 (Rj (H2:=HA res.2) (nm':=hJ fr (rn.map pF)) (ρ:=back fr (rn.map pF)) (H':=res.2) rn) hlk hW;unfold WA at this ⊢;rw[rG];exact this
 .unfold F7
  rw[bM];refine⟨eI.2 λp hp=>?_,eI.2 λp hp=>?_⟩
  .obtain⟨q,hm⟩:=hkey hp
   rw[hrnm hm];have hq:∃x,(q,x)∈W++gone res.2 rn:=by
    cases hlk:lk p.1 res.2 with
    |none=>exact⟨none,bAN _ (RL hm hlk)⟩
    |some o=>
      obtain⟨_,b,_,d⟩:=F.iQ _ _ hm;have hbk:j7 fr rn p.1=some q:=by
       unfold j7;rw[show kQ 100 p.1=false by
        cases hble:kQ 100 p.1 with
        |false=>rfl
        |true=>have:=fN hble;omega]
       exact d
      obtain⟨x,hx⟩:=aAV hbk hW hlk;exact⟨x,bAO _ hx⟩
   obtain⟨x,hx⟩:=hq;obtain⟨y,hy⟩:=FN (l:=WA (W++gone res.2 rn)) (k:=q) (fG.2 ⟨(q,x.map XO.A),fG.2 ⟨_,hx,rfl⟩,rfl⟩);rw[hy];rfl
  .obtain⟨⟨q,x⟩,hm,rfl⟩:=fG.1 hp
   rw[nD];have hin:(∃new,(new,q)∈rn)->(HA H').any (λz=>bP rn z.1 == q)=true:=λ⟨new,hn⟩=>by
    obtain⟨p,hp,e⟩:=hkey' hn;exact rJ.2 ⟨p,hp,by rw[e,hrnm hn];exact CO _⟩
   rcases lV.1 hm with hm|hm
   .obtain⟨k0,hk0⟩:=aAW hW hm
    unfold j7 at hk0;split at hk0
    .rename_i hle
     have hle:=fN hle;split at hk0
     .rename_i hlt
      have hlt:k0<108:=fN hlt;cases hk0;left;rw[bM];exact⟨aQ (aMm ..),aQ (by simp only;omega)⟩
     .cases hk0
    .exact .inr (hin ⟨k0,mT hk0⟩)
   .exact .inr (hin (RM hm))
 .unfold sU
  simp only[bM];refine⟨⟨⟨eI.2 λp hp=>?_,aQ ?_⟩,eI.2 λp hp=>?_⟩,eI.2 λp hp=>?_⟩
  .obtain⟨q,hm⟩:=hkey hp
   obtain⟨a,b,_,_⟩:=F.iQ _ _ hm;rw[bM];exact⟨aQ a,aQ b⟩
  .have:(HA H').map (λp=>bP rn p.1)=rn.map (·.2):=by
    have e:(HA H').map (λp=>bP rn p.1)=((HA H').map (·.1)).map (bP rn):=by rw[zL];rfl
    rw[e,hkeys,zL];exact bAR λp hp=>hrnm hp
   rw[this];exact F.nd
  .obtain⟨q,hm⟩:=hkey hp
   rw[hrnm hm,Q9 F hm];exact CO _
  .obtain⟨⟨new,q⟩,hm,rfl⟩:=fG.1 hp
   obtain⟨p,hp',e⟩:=hkey' hm;refine rJ.2 ⟨p,hp',?_⟩;rw[bM,e,hrnm hm];exact⟨CO _,CO _⟩
theorem a8C(hG:pZ c.P c.G)(hσ:σ.Ok κ){fo:Operand}{args:Array Operand}{tys:Array TypeId}{f:FuncId}{caps:List X}(ho:o.op = .call { callee:=.value fo,args:=args,argTypes:=tys })(hfo:σ.ev fo=some (.fn f caps))(h:σ.vK args.toList (λxs=>aAQ c σ fr f (xs++caps) k)=some r):eL c σ fr o k r:=by
 obtain⟨asL,h1,hl,hev⟩:=RR h;clear h;unfold aAQ at h1;obtain⟨g,hg,h2⟩:=bL h1;clear h1;obtain⟨fn,hfn,h3⟩:=bL h2;clear h2;split at h3
 .cases h3
 rename_i code hb;rcases Zi hG hσ ho hfo hl hev hg hfn hb (Re c σ _ _) h3 with h|h
 .rcases Zi hG hσ ho hfo hl hev hg hfn hb eJ.refl h with h|h
  .cases h
  .exact h
 .exact h
end
end Go.Ax
/- Parts of rows of the walk's own, and copy. -/
namespace Go.Ax
open aA
open Go.RowKit Go.Ab
theorem aKR{E:Env}{σ₁:St}{ν:Nat->Value}{G:cE}{w w':World}{a:Act}(I:Inv E σ₁ ν G w a.tmps){k fr g:Nat}{ob ob':aZ}(hk:σ₁.H k=some ob)(hg:bQ (ν k)=some g)(hG0:G g=0)(hf1:∀w v g,cZ w v ob g ↔ bQ v=some g)(hf2:∀w v g,cZ w v ob' g ↔ bQ v=some g)
    (s1:w'.os=w.os) (s2:w'.tape=w.tape) (s3:w'.output=w.output) (s4:w'.heap.size=w.heap.size) (s5:∀b,b≠g->w'.heap[b]?=w.heap[b]?) (hcell:∀b i u,Cell w G b i u->Cell w' G b i u)
    (hnew:fI E ν σ₁.nm w' G k ob') {dst:Option Tmp} {v:Value} {d:D} (hd:∀t,dst=some t->t<E.m) (hv:DR ν σ₁.nm w' G v d):Inv E (σ₁.bC dst d [(k,some ob')] fr) ν G w' (a.put dst v).tmps:=by
 have hob:=(I.H k ob hk).2;have hmay:E.may g:=hob.ZT hg;have hnm:∀j,σ₁.nm j=true->(σ₁.bC dst d [(k,some ob')] fr).nm j=true/\ν j=ν j:=λj hj=>⟨by simp[St.bC,hj],rfl⟩
 refine⟨⟨s1.trans I.kept.os,s2.trans I.kept.tape,s3.trans I.kept.output,by rw[s4];exact I.kept.size,λb hb hX=>?_⟩,λb i u h=>hcell b i u (I.eR b i u h),I.gE,I.g0,?_,λt' d' h=>?_,λj oj h=>?_,λj1 o1 j2 o2 h1 h2 hne=>?_⟩
 .refine(s5 b (λe=>?_)).trans (I.kept.block b hb hX)
  subst e;rcases hmay with h|h
  .omega
  .exact hX h
 .cases dst <;> simp[Act.put,I.sz]
 .simp only[St.bC]at h
  split at h
  .rename_i he'
   cases h;have:=hd t' he';exact⟨v,by simp[he',Act.put,I.sz,this],hv.mono hnm (λ_ _ _ h=>h)⟩
  .rename_i he'
   obtain⟨u,hu,hdu⟩:=I.T t' d' h;refine⟨u,?_,hdu.mono hnm hcell⟩;cases dst with
   |none=>simpa[Act.put]using hu
   |some t''=>
     have hne:t''≠t':=λe=>he' (by rw[e])
     simp only[Act.put];rw[v7 hne];exact hu
 .by_cases hj:j=k
  .subst hj
   simp[St.bC,Ab.look]at h;subst h;have h1:=(I.H j ob hk).1;exact⟨(hnm j h1).1,fI.mono h1 hnm (λ_ _ _ h=>h) (λ_ _=>⟨rfl,rfl⟩) hnew⟩
  .have h':σ₁.H j=some oj:=by simpa[St.bC,Ab.look,dS hj]using h
   obtain⟨h1,h2⟩:=I.H j oj h';refine⟨(hnm j h1).1,h2.mono h1 hnm hcell (λg' hg'=>⟨s5 g' (λe=>?_),rfl⟩)⟩;subst e;exact I.eB j oj k ob h' hk hj g' hg' (gF hg)
 .have back:∀j oj,(σ₁.bC dst d [(k,some ob')] fr).H j=some oj->∃oj',σ₁.H j=some oj'/\∀g',cZ w' (ν j) oj g'->cZ w (ν j) oj' g':=λj oj h=>by
   by_cases hj:j=k
   .subst hj
    simp[St.bC,Ab.look]at h;subst h;exact⟨ob,hk,λg' hg'=>(hf1 _ _ _).2 ((hf2 _ _ _).1 hg')⟩
   .have h':σ₁.H j=some oj:=by simpa[St.bC,Ab.look,dS hj]using h
    refine⟨oj,h',λg' hg'=>(CD λb hb=>s5 b λe=>?_).1 hg'⟩;subst e;exact I.eB j oj k ob h' hk hj b (gF hb) (gF hg)
  obtain⟨o1',h1',f1⟩:=back j1 o1 h1;obtain⟨o2',h2',f2⟩:=back j2 o2 h2;exact λg' hg1 hg2=>I.eB j1 o1' j2 o2' h1' h2' hne g' (f1 g' hg1) (f2 g' hg2)
section
variable{P:Program}{o:Oper}{s:St}{fr:Nat}
theorem a5X{t e e0:TypeId}{x:Operand}{lo hi:Option Operand}{sz n q:Nat}{ts:List Tree}{st:Bool}{a b:Option Int}(hu:P.underlying t=some (.slice e))(hs:iP P e=some sz)(ho:o.op = .slice t x lo hi none)(hx:s.ev x=some (.own q))(hq:s.H q=some (.row e0 sz n ts st))
    (hlo:nE s lo a) (hhi:nE s hi b) (hok:dX n a b=true):bI P o s fr (.vw q (eG a*sz) (eT n b-eG a)) []:=
 dV λE σ₁ ν G w ac hH I hev=>by
  have hd:=hev x _ hx;obtain⟨kl,e1⟩:=hlo.run (ρ:=ac.eval) (λx d h=>cL (hev x _ h));obtain⟨kh,e2⟩:=hhi.run (ρ:=ac.eval) (λx d h=>cL (hev x _ h));obtain⟨g1,g2,g3,g4⟩:=QW hok;obtain⟨inf,hinf,hsz⟩:=cV.1 hs;obtain⟨hv,hk⟩:=FK hd;obtain⟨xs,r1,_⟩:=(I.H q _ (hH q _ hq)).2;rcases r1.2 with⟨hz,h0⟩|⟨g,cap,cur,hz,_,_,hcap,_⟩
  .subst h0
   have hb:=zC (P:=P) (w:=w) (isS:=true) (n:=0) (cap:=0) (lo:=a) (hi:=b) (kl:=kl) (kh:=kh) g1 (by omega) g3 g4;have z1:eT 0 b=0:=by omega
   have z2:eG a=0:=by omega
   rw[z1,z2]at hb;refine⟨.slice none 0 0,?_,?_⟩
   .unfold execOp
    rw[ho];simp only[hv,hz,e1,e2,oN];simp[Instr.sliceAt,Instr.slice,run_underlying hu,hb,sizeOf,typeInfo,hinf]
   .rw[z1,z2]
    exact .Im hk rfl
  .have hb:=zC (P:=P) (w:=w) (isS:=true) (n:=n) (cap:=cap) (lo:=a) (hi:=b) (kl:=kl) (kh:=kh) g1 (by omega) g3 g4
   refine⟨.slice (if cap=eG a then some ⟨g,0,none⟩else some ((⟨g,0,none⟩:Addr).add (eG a*sz))) (eT n b-eG a) (cap-eG a),?_,?_⟩
   .unfold execOp
    rw[ho];simp only[hv,hz,e1,e2,oN];simp[Instr.sliceAt,Instr.slice,run_underlying hu,hb,sizeOf,typeInfo,hinf,hsz]
   .by_cases hc:cap=eG a
    .rw[aJ hc]
     exact .vw hk (by rw[hz];rfl) (λh=>by omega) (by omega)
    .rw[aD hc,Addr.add_mid,fJ]
     exact .vw hk (by rw[hz];rfl) (λ_=>rfl) (by omega)
inductive SH (s:St) (x:Operand) (sz:Nat):Nat->List Tree->Prop
 |src {n:Nat} {ts:List Tree} (h:Src s x n ts) (hl:ts.length=n*sz):SH s x sz n ts
 |vw {k off n N:Nat} {ts:List Tree} {e:TypeId} {st:Bool} (h:s.ev x=some (.vw k off n)) (hk:s.H k=some (.row e sz N ts st)) (hb:off+n*sz<=ts.length):SH s x sz n ((ts.drop off).take (n*sz))
theorem SH.rd{s σ₁:St}{x:Operand}{sz n:Nat}{ts:List Tree}(h:SH s x sz n ts){E:Env}{ν:Nat->Value}{G:cE}{w:World}{a:Act}(hT:∀t d,s.T t=some d->σ₁.T t=some d)(hH:∀k o,s.H k=some o->σ₁.H k=some o)(I:Inv E σ₁ ν G w a.tmps):
    ∃ax c us,a.eval x = .slice ax n c/\us.length=n*sz/\ts.length=n*sz/\Rd w ax us/\(ax=none->c=0/\n=0)/\∀(i:Nat)(u:Value)(t:Tree),us[i]?=some u->ts[i]?=some t->TR w G u t:=by
 cases h with
 |src h hl=>
   obtain⟨ax,c,us,h1,h2,h3,h4,h5⟩:=h.rd hT hH I;exact⟨ax,c,us,h1,h2.trans hl,hl,h3,h4,h5⟩
 | @vw k off _ N ts e st h hk hb=>
   have hv:=I.ev (St.fH hT h);obtain⟨v,he⟩:∃v,a.eval x=v:=⟨_,rfl⟩
   rw[he]at hv ⊢;have hlen:((ts.drop off).take (n*sz)).length=n*sz:=by rw[kS,Ff];omega
   cases hv with
   |Im hkn hc=>exact⟨none,_,[],rfl,by simp,hlen,Rd.nil,λ_=>⟨hc,rfl⟩,λi u t h=>by simp at h⟩
   | @vw _ _ _ o c g hkn hg ho hn=>
     obtain⟨xs,r1,r2,r3,r4⟩:=(I.H _ _ (hH _ _ hk)).2;by_cases hn0:n=0
     .subst hn0
      exact⟨some ⟨g,o,none⟩,c,[],rfl,by simp,hlen,λj u hj=>by simp at hj,(λe=>by cases e),λi u t h=>by simp at h⟩
     .have ho':=ho (by omega)
      subst ho';refine⟨some ⟨g,o,none⟩,c,(xs.drop o).take (n*sz),rfl,by rw[kS,Ff];omega,hlen,λj u hj=>⟨_,rfl,?_⟩,(λe=>by cases e),λi u t hu ht=>?_⟩
      .rw[iX]at hj
       split at hj
       .rw[zM]at hj
        have:=r1.cells (g:=g) (by rw[<-mR r1];exact hg) _ u hj;rw[Addr.add_mid]at this ⊢;rw[fJ]at this;exact this
       .cases hj
      .rw[iX]at hu ht
       split at hu
       .rename_i hi
        rw[aJ hi]at ht;rw[zM]at hu ht;exact r3 _ u t hu ht
       .cases hu
end
end Go.Ax
/- Arrays in variables at places that are not known; rows cut at their ends; nil slices. -/
namespace Go.Ax
open aA
open Go.RowKit Go.Ab
theorem Z4{τ:Ty}:∀{xs:List X}{l:List τ.V},J2 τ xs=some l->xs=l.map (X.e τ)
 |[],l,h=>by cases h;rfl
 |x::r,l,h=>by
   cases x with
   |e τ' y=>
     unfold J2 at h;generalize iI τ' τ=p at h;cases p with
     |none=>cases h
     |some q=>
       obtain⟨q⟩:=q;subst q;simp only at h;split at h
       .rename_i l' hl
        cases h;rw[Z4 hl];rfl
       .cases h
   |_=>cases h
theorem aKG(τ:Ty)(off:Nat)(z:τ.V):∀(l:List τ.V)(i:Nat),x7 τ (off+i) z i l=(l.set off z).map (X.e τ)
 |[],i=>by simp[x7]
 |y::l,i=>by
   unfold x7;cases off with
   |zero=>
     have h0:bR (0+i) i=true:=by rw[fJ];exact aMn i
     rw[h0];have:∀(l:List τ.V)(j:Nat),0+i<j->x7 τ (0+i) z j l=l.map (X.e τ):=by
      intro l
      induction l with
      |nil=>intro j _;rfl
      |cons y l ih=>
        intro j hj;unfold x7;have hb:bR (0+i) j=false:=by
         cases hb:bR (0+i) j with
         |false=>rfl
         |true=>have:=cA hb;omega
        rw[hb,ih (j+1) (by omega)];rfl
     rw[this l (i+1) (by omega)];rfl
   |succ off=>
     have hb:bR (off+1+i) i=false:=by
      cases hb:bR (off+1+i) i with
      |false=>rfl
      |true=>have:=cA hb;omega
     have ih:=aKG τ off z l (i+1);rw[show off+(i+1)=off+1+i by omega]at ih;rw[hb,ih];rfl
section
variable{c:Cx}{σ:Vw}{κ:Nat->Bool}{fr:Nat}{o:Oper}{r:aE}
theorem a73{t:TypeId}{a x:X}{k:X->O}(h:Zc c σ t a x k=some r):∃y,k y=some r/\y.pl=true/\(σ.On->∀{xa xn:Operand},o.op = .indexAddr t xa xn->σ.den.ev xa=some a.D->σ.den.ev xn=some x.D->bI c.P o σ.den fr y.D []):=by
 unfold Zc at h;replace h:=Jq h;obtain⟨ik,n,hx,h⟩:=h;split at h
 .rename_i q off
  split at h
  .rename_i m s hs
   obtain⟨h1,h2⟩:=oG h;refine⟨_,h1,rfl,λhon xa xn ho ha hn=>?_⟩;obtain⟨g1,g2⟩:=cU (h2 hon.g);rw[hx]at hn;exact aKk (P:=c.P) (fr:=fr) ho hs ha hn g1 g2
  .cases h
 .cases h
theorem a6p{t:TypeId}{a:X}{k:X->O}(h:ZZ c σ t a k=some r):∃y,k y=some r/\y.pl=true/\(σ.On->∀{x:Operand},o.op = .load t x->σ.den.ev x=some a.D->bI c.P o σ.den fr y.D []):=by
 unfold ZZ at h;split at h
 .rename_i q off hrw
  split at h
  .rename_i e τ y xs hq
   split at h
   .rename_i h1
    obtain⟨l,hl,h⟩:=bL h;obtain⟨z,h3,h4⟩:=FR h;refine⟨_,h3,rfl,λhon x ho hx=>?_⟩;obtain⟨_,g2⟩:=h4 hon.g;rw[Int.toNat_natCast]at g2;refine J3 hrw ho hx (gJ hq) ?_;have e1:=Z4 hl;show((X.e τ y::xs).map X.D)[off]?=_;rw[e1,zL,dT,g2];rfl
   .cases h
  .cases h
 .cases h
theorem a4K{t:TypeId}{a y:X}{k:X->Wx->O}(h:YL c σ t a y k=some r):∃W,k (.bD []) W=some r/\∀{x z:Operand},o.op = .store t x z->σ.den.ev x=some a.D->σ.den.ev z=some y.D->y.val=true->bI c.P o σ.den fr (.bD []) (WA W):=by
 unfold YL at h;split at h
 .rename_i q off τ z hm
  split at h
  .rename_i h1
   split at h
   .rename_i e xs hq
    obtain⟨l,hl,h⟩:=bL h;obtain⟨hlt,h⟩:=jL h;have hlt:=cU hlt;refine⟨_,h,λho hx hz hv=>?_⟩;have e1:=Z4 hl;have e2:=aKG τ off z l 0;rw[Nat.add_zero]at e2;have hc:=R9 hv;have hcl:(X.e τ z).cells=[X.e τ z]:=rfl;refine Bx (d:=(X.e τ z).D) (ob':=(XO.box e (x7 τ off z 0 l)).A) ho ?_ hx (.ev hz) (Io hv) (gJ hq) ?_ ?_
    .rw[hc,hcl];exact hm
    .show(if off+(X.e τ z).D.cells.length<=(xs.map X.D).length then _ else none)=_
     rw[hc,hcl,e1,aJ (by simp;omega),e2];simp only[XO.A]
     congr 2
     show dG ((l.map (X.e τ)).map X.D) off [(X.e τ z).D]=((l.set off z).map (X.e τ)).map X.D;rw[zL,zL,List.map_set,List.set_eq_take_append_cons_drop,aJ (by simpa using hlt)];simp[dG]
    .rw[hc,hcl];exact Nat.one_pos
   .cases h
  .cases h
 .cases h
end
section
variable{P:Program}{o:Oper}{s:St}{fr:Nat}
theorem a6J{t e e0:TypeId}{x:Operand}{hi:Option Operand}{sz N q:Nat}{ts:List Tree}{n:Int}(hu:P.underlying t=some (.slice e))(hs:iP P e=some sz)(ho:o.op = .slice t x none hi none)(hx:s.ev x=some (.own q))(hq:s.H q=some (.row e0 sz N ts false))
    (hhi:nE s hi (some n)) (h0:0<=n) (hn:n<=N):bI P o s fr (.own fr) [(fr,some (.row e0 sz n.toNat (ts.take (n.toNat*sz)) false)),(q,none)]:=by
 intro E σ₁ a w hT hH h100 hf hd ⟨ν,G,I⟩ Q;obtain⟨hv,hk⟩:=FK (I.ev (St.fH hT hx));obtain⟨kh,e2⟩:=hhi.run (ρ:=a.eval) (λx d h=>cL (I.ev (St.fH hT h)));obtain⟨inf,hinf,hsz⟩:=cV.1 hs;have hqq:=hH q _ hq;have hob:=(I.H q _ hqq).2;obtain⟨xs,r1,r2,r3,r4⟩:=id hob;have key:∃v',(execOp a.eval o).run P w = .ok (.value v') w/\w.ownsRow 0 e0 sz v' n.toNat (xs.take (n.toNat*sz))/\(∀g,bQ v'=some g->bQ (ν q)=some g):=by
  have hxl:=r1.1;rcases r1.2 with⟨hz,h00⟩|⟨g,cap,cur,hz,q1,q2,q3,q4,q5,q6⟩
  .subst h00
   have hb:=zC (P:=P) (w:=w) (isS:=true) (n:=0) (cap:=0) (lo:=none) (hi:=some n) (kl:=.i64) (kh:=kh) (by simp[eG,eT]) (by simp[eT];omega) (λ_ h=>by cases h) (λb h=>by cases h;exact h0);have z1:n.toNat=0:=by omega
   simp only[eT,eG,z1]at hb;refine⟨.slice none 0 0,?_,?_,λg hg=>by cases hg⟩
   .unfold execOp
    rw[ho];simp only[hv,hz,e2,oN,lG]at hb ⊢;simp[Instr.sliceAt,Instr.slice,run_underlying hu,hb,sizeOf,typeInfo,hinf]
   .rw[z1]
    have:xs.take (0*sz)=[]:=by simp
    rw[this];exact World.ownsRow_nil w 0 e0 sz
  .have hb:=zC (P:=P) (w:=w) (isS:=true) (n:=N) (cap:=cap) (lo:=none) (hi:=some n) (kl:=.i64) (kh:=kh) (by simp[eG,eT]) (by simp only[eT];omega) (λ_ h=>by cases h) (λb h=>by cases h;exact h0)
   simp only[eT,eG]at hb;refine⟨.slice (some ⟨g,0,none⟩) n.toNat cap,?_,⟨?_,.inr ⟨g,cap,cur,rfl,q1,q2,by omega,q4,q5,?_⟩⟩,λg' hg=>by rw[hz];exact hg⟩
   .unfold execOp
    rw[ho];simp only[hv,hz,e2,oN,lG]at hb ⊢;have hadd0:(⟨g,0,none⟩:Addr).add 0=⟨g,0,none⟩:=by rw[Addr.add_mid]
    simp[Instr.sliceAt,Instr.slice,run_underlying hu,hb,sizeOf,typeInfo,hinf,hsz,hadd0]
   .rw[kS,hxl]
    exact a9y (nB _ (by omega))
   .rw[<-q6,List.take_take,a9y (nB _ (by omega))]
 obtain⟨v',he,r2',hblk⟩:=key;unfold Oper.wp;rw[he,Oper.upon_value];have hG0:∀g,bQ (ν q)=some g->E.may g/\G g=0:=λg hg=>by simpa using r4 g hg
 refine⟨put_defers ..,dI ν fr v',_,I.new (G':=G) h100 hf hd (some q) (o:=.row e0 sz n.toNat (ts.take (n.toNat*sz)) false) (λk=>?_) rfl rfl rfl (bZ _) (λb hb hnk=>⟨rfl,rfl⟩) (λ_ _ _ h=>h) (λk hk=>by cases hk;exact⟨_,hqq⟩) (x:=v') (λg hg=>.inr ⟨q,rfl,hblk g hg⟩) ?_ ?_⟩
 .by_cases h:k=fr
  .subst h;simp[Ab.look]
  .by_cases h':k=q
   .subst h';simp[Ab.look,h,dS h]
   .simp[Ab.look,h,dS h,h',dS h']
 .refine⟨xs.take (n.toNat*sz),by rw[dP];exact r2',by simp[r2],λi u t hu ht=>?_,λg hg=>?_⟩
  .rw[iX]at hu ht
   split at hu
   .rename_i hi
    rw[aJ hi]at ht;exact r3 i u t hu ht
   .cases hu
  .rw[dP]at hg
   simpa using hG0 g (hblk g hg)
 .have:DR (dI ν fr v') (σ₁.bC o.dst .any [(fr,some (.row e0 sz n.toNat (ts.take (n.toNat*sz)) false)),(q,none)] fr).nm w G (dI ν fr v' fr) (.own fr):=.own (pC ..) (by rw[dP];exact Bv r2')
  rw[dP]at this;exact this
theorem a57{t e:TypeId}{x:Operand}{lo hi:Option Operand}{a b:Option Int}{sz:Nat}(hu:P.underlying t=some (.slice e))(hs:iP P e=some sz)(ho:o.op = .slice t x lo hi none)(hx:s.ev x=some (.t (.v (.slice none 0 0))))(hlo:nE s lo a)(hhi:nE s hi b)(hz:(CX a&&CX b)=true):bI P o s fr (.t (.v (.slice none 0 0))) []:=
 dV λE σ₁ ν G w ac hH I hev=>by
  have hd:=cL (hev x _ hx);obtain⟨kl,e1⟩:=hlo.run (ρ:=ac.eval) (λx d h=>cL (hev x _ h));obtain⟨kh,e2⟩:=hhi.run (ρ:=ac.eval) (λx d h=>cL (hev x _ h));obtain⟨inf,hinf,hsz⟩:=cV.1 hs;rw[bM]at hz;have za:eG a=0/\∀x,a=some x->0<=x:=by
   cases a with
   |none=>exact⟨rfl,λx h=>by cases h⟩
   |some x=>have:=cU hz.1;subst this;exact⟨rfl,λx h=>by cases h;exact Int.le_refl _⟩
  have zb:eT 0 b=0/\∀x,b=some x->0<=x:=by
   cases b with
   |none=>exact⟨rfl,λx h=>by cases h⟩
   |some x=>have:=cU hz.2;subst this;exact⟨rfl,λx h=>by cases h;exact Int.le_refl _⟩
  have hb:=zC (P:=P) (w:=w) (isS:=true) (n:=0) (cap:=0) (lo:=a) (hi:=b) (kl:=kl) (kh:=kh) (by omega) (by omega) za.2 zb.2;rw[za.1,zb.1]at hb;refine⟨.slice none 0 0,?_,.t (.v _ rfl)⟩;unfold execOp;rw[ho];simp only[hd,e1,e2,oN];simp[Instr.sliceAt,Instr.slice,run_underlying hu,hb,sizeOf,typeInfo,hinf]
theorem a6K{t e:TypeId}{x:Operand}(hu:P.underlying t=some (.slice e))(ho:o.op = .call { callee:=.builtin .cap,args:=#[x],argTypes:=#[t] })(hx:s.ev x=some (.t (.v (.slice none 0 0)))):bI P o s fr (I 0) []:=
 dV λE σ₁ ν G w ac hH I hev=>by
  have hd:=cL (hev x _ hx);refine⟨.int .i64 0,?_,.t (.v _ rfl)⟩;unfold execOp;rw[ho];simp[resolve,invoke,builtin,hd,Builtin.cap_,run_underlying hu,goInt]
end
section
variable{c:Cx}{σ:Vw}{κ:Nat->Bool}{fr:Nat}{o:Oper}{k:X->Wx->O}{r:aE}
theorem a7y(hσ:σ.Ok κ){t:TypeId}{x:Operand}{hi:Option Operand}{q:Nat}(ho:o.op = .slice t x none hi none)(hx:σ.ev x=some (.own q))(h:σ.lB hi (λhi=>aAJ c σ fr t q hi k)=some r):eL c σ fr o k r:=by
 obtain⟨b,h,hb⟩:=yD hσ h;unfold aAJ at h;split at h
 .rename_i e e' τ l n hu hq
  split at h
  .rename_i m hm
   split at h
   .rename_i hs
    have hs:=cA hs;subst hs;obtain⟨hd,h⟩:=jL h;obtain⟨h0,hn⟩:=cU hd;refine⟨_,_,h,rfl,λhon=>?_⟩;have:=a6J (P:=c.P) (fr:=fr) hu hm ho (bV hσ hon hx) (gJ hq) (hb hon) h0 hn;unfold WA;simp only[iB,aAp,lG,oN,XO.A,kS];rw[Zq (λx=>eA τ x)]at this;rw[show min n.toNat l.length=n.toNat by omega];exact this
   .cases h
  .cases h
 .cases h
theorem a7j(hσ:σ.Ok κ){t:TypeId}{x:Operand}{lo hi:Option Operand}(ho:o.op = .slice t x lo hi none)(hx:σ.ev x=some .cC) (h:σ.lB lo (λlo=>σ.lB hi λhi=>match c.P.underlying t with
        |some (.slice e)=>match iP c.P e with
          |some _=>lF (σ.g.map (·.2)) (CX lo&&CX hi) (k .cC [])
          |none=>none
        |_=>none)=some r):eL c σ fr o k r:=by
  obtain⟨a,h,ha⟩:=yD hσ h;obtain⟨b,h,hb⟩:=yD hσ h;split at h
  .rename_i e hu
   split at h
   .rename_i m hm
    obtain⟨h,hz⟩:=oG h;exact⟨_,_,h,rfl,λhon=>a57 (P:=c.P) (fr:=fr) hu hm ho (bV hσ hon hx) (ha hon) (hb hon) (hz hon.g)⟩
   .cases h
  .cases h
end
theorem aKP{P:Program}{t t' ty e:TypeId}{z:Value}{s bytes:Nat}(hT:p9 P t e z s bytes)(ht':P.underlying t'=some (.int .i64)){n:Nat}(hm:n<=maxLen)(hb:n*bytes<=140737488355328)(w:World):
    ∃v' w',(Builtin.append_ #[t,t'] ty #[.slice none 0 0,.int .i64 n]).run P w = .ok v' w'/\w'.ownsRow 0 e s v' n (e9 n z.cells.toList).flatten/\cS w w'/\∀g,bQ v'=some g->w.heap.size<=g:=by
 obtain⟨i,hi,hz,h2,h3⟩:=info_parts hT.i;have hmx:n<=9223372036854775807:=by simp only[maxLen]at hm;omega
 have hw:aC.wrap (n:Int)=n:=IntWalk.i64_in _ ⟨by omega,by omega⟩;have hneg:¬ ((n:Int)<0):=by omega
 have hby:¬ (281474976710656<(n:Int)*(i.bytes:Int)):=by
  rw[h3];have:((n*bytes:Nat):Int)<=281474976710656:=by omega
  rw[bA0]at this;omega
 by_cases hn:n=0
 .subst hn
  refine⟨.slice none 0 0,w,?_,by simpa using World.ownsRow_nil w 0 e s,cS.refl w,λg hg=>by cases hg⟩;simp[Builtin.append_,run_underlying hT.u,run_underlying ht',sizeOf,typeInfo,hi,Go.asInt,asIntOf,(show aC.wrap 0=0 by decide)]
 .have hs0:=hT.s
  have h63:¬ (9223372036854775807<(n:Int)):=by omega
  have h48:¬ (281474976710656<Builtin.nextslicecap n 0*i.bytes):=by rw[nextslicecap_zero (by omega),h3];omega
  have hnz:¬ (n*i.size=0):=by rw[h2];exact Nat.ne_of_gt (Nat.mul_pos (by omega) hs0)
  have hnz':¬ (n=0\/i.size=0):=by rw[h2];omega
  have hge:=grownCap_ge w n 0 e;have hcm:grownCap w n 0 e<=maxLen:=grownCap_le_maxLen w n 0 e hm;have hzc:(Builtin.zeroCells z.cells n).toList=(e9 n z.cells.toList).flatten:=by
   have:=ZV hT.z hT.s n;rw[<-hT.z]at this;exact this
  have hzl:(Builtin.zeroCells z.cells n).size=n*s:=by rw[size_zeroCells,hT.z]
  refine⟨.slice (some ⟨w.heap.size,0,none⟩) n (grownCap w n 0 e),w.drew.alloc (.cells (Builtin.zeroCells z.cells n++Builtin.zeroCells z.cells (grownCap w n 0 e-n)) e),?_,⟨?_,.inr ⟨w.heap.size,_,_,rfl,vU _,heap_alloc_new w.drew _,hge,hcm,?_,?_⟩⟩,⟨rfl,rfl,rfl,by simp,λb hb=>heap_alloc_old w.drew _ hb⟩,λg hg=>by cases hg;exact bZ _⟩
  .simp[Builtin.append_,run_underlying hT.u,run_underlying ht',sizeOf,typeInfo,zeroValue,hi,hz,Go.asInt,asIntOf,hw,hneg,hby,hn,h63,h48,Question.forced,run_firstCells_none,newRow,grownCap]
   exact λh=>absurd h hnz
  .rw[<-hzc,p7,hzl]
  .rw[bAa,hzl,size_zeroCells,hT.z,<-jW]
   congr 1
   omega
  .rw[bA9,<-hzc,<-hzl,<-p7]
   exact SB
theorem a6Q{P:Program}{o:Oper}{σ:St}{fr:Nat}{t t' e:TypeId}{z:Value}{s bytes:Nat}(st:Bool){x y:Operand}{n:Nat}{zt:List Tree}(hT:p9 P t e z s bytes)(hz:jM z.cells.toList zt)(ht':P.underlying t'=some (.int .i64))(ho:o.op = .call { callee:=.builtin .append,args:=#[x,y],argTypes:=#[t,t'] })
    (hx:σ.ev x=some (.t (.v (.slice none 0 0)))) (hy:σ.ev y=some (I n)) (hb:n*bytes<=140737488355328/\n<=maxLen):bI P o σ fr (.own fr) [(fr,some (.row e s n (e9 n zt).flatten st))]:=by
 intro E σ₁ a w hTT hHH h100 hf hd ⟨ν,G,I⟩ Q;have hxv:=cL (I.ev (St.fH hTT hx));have hyv:=cL (I.ev (St.fH hTT hy));obtain⟨v',w',hr,r1,hA,hbk⟩:=aKP (ty:=o.type) hT ht' hb.2 hb.1 w;have he:(execOp a.eval o).run P w = .ok (.value v') w':=by
  unfold execOp;rw[ho];simp[resolve,invoke,builtin,hxv,hyv,hr]
 unfold Oper.wp;rw[he,Oper.upon_value]
 let G':cE:=λb=>if bQ v'=some b then(if st then n*s else 0)else G b
 have hG:∀b,b<w.heap.size->G' b=G b:=λb hb'=>aD (λe=>by have:=hbk b e;omega)
 have hzr:=(hz.JN n).rel w' G';refine⟨put_defers ..,_,_,I.fresh (G':=G') h100 hf hd hA hG (x:=v') (λg hg=>hbk g hg) ?_ ?_⟩
 .refine⟨_,by rw[dP];exact r1,hzr.1,hzr.2,λg hg=>?_⟩
  rw[dP]at hg;exact⟨.inl (Nat.le_trans I.kept.size (hbk g hg)),aJ hg⟩
 .have:DR (dI ν fr v') (σ₁.bC o.dst .any [(fr,some (.row e s n (e9 n zt).flatten st))] fr).nm w' G' (dI ν fr v' fr) (.own fr):=.own (pC ..) (by rw[dP];exact Bv r1)
  rw[dP]at this;exact this
theorem a42{P:Program}{t t' ty e:TypeId}{z:Value}{s bytes:Nat}(hT:p9 P t e z s bytes)(ht':P.underlying t'=some (.int .i64)){w:World}{v:Value}{n:Nat}{xs:List Value}(hown:w.ownsRow 0 e s v n xs){m:Nat}
    (h1:∀u∈(e9 m z.cells.toList).flatten,u.oneCell'=true) (h63:n+m<=maxLen) (hbytes:(n+m)*bytes<=140737488355328):
    ∃v' w',(Builtin.append_ #[t,t'] ty #[v,.int .i64 m]).run P w = .ok v' w'/\w'.ownsRow 0 e s v' (n+m) (xs++(e9 m z.cells.toList).flatten)/\w'.os=w.os/\w'.tape=w.tape/\w'.output=w.output/\w.heap.size<=w'.heap.size /\
     (∀b,b<w.heap.size->v.ownBlock≠some b->w'.heap[b]?=w.heap[b]?)/\(∀g i,v.ownBlock=some g->i<n*s->w'.cell? ⟨g,i,none⟩=w.cell? ⟨g,i,none⟩)/\∀g,v'.ownBlock=some g->w.heap.size<=g\/v.ownBlock=some g:=by
 obtain⟨i,hi,hz,h2,h3⟩:=info_parts hT.i;have hs0:=hT.s;have hmx:m<=9223372036854775807:=by simp only[maxLen]at h63;omega
 have hw:aC.wrap (m:Int)=m:=IntWalk.i64_in _ ⟨by omega,by omega⟩;have hneg:¬ ((m:Int)<0):=by omega
 have hmb:m*bytes<=(n+m)*bytes:=nB _ (Nat.le_add_left _ _);have hby:¬ (281474976710656<(m:Int)*(i.bytes:Int)):=by
  rw[h3];have:((m*bytes:Nat):Int)<=281474976710656:=by omega
  rw[bA0]at this;omega
 have hzc:(Builtin.zeroCells z.cells m).toList=(e9 m z.cells.toList).flatten:=by
  have:=ZV hT.z hT.s m;rw[<-hT.z]at this;exact this
 have hzl:(Builtin.zeroCells z.cells m).size=m*s:=by rw[size_zeroCells,hT.z]
 generalize hnews:(e9 m z.cells.toList).flatten=news at *
 have hnl:news.length=m*s:=by rw[<-hzc,p7,hzl]
 have hza:Builtin.zeroCells z.cells m=news.toArray:=by rw[<-hzc]
 have hlen:(xs++news).length=(n+m)*s:=by rw[dK,hown.1,hnl,jW]
 rcases hown.2 with⟨rfl,rfl⟩|⟨g,cap,cur,rfl,_,hg,hnc,hcm,hcs,htake⟩
 .have hx:xs=[]:=aMu (by simpa using hown.1)
  subst hx;obtain⟨v',w',hr,r1,hA,hbk⟩:=aKP (ty:=ty) hT ht' (n:=m) (by omega) (by omega) w;refine⟨v',w',hr,?_,hA.os,hA.tape,hA.output,hA.size,λb hb _=>hA.block b hb,(λg i hg _=>by cases hg),λg hg=>.inl (hbk g (by rw[mR r1];exact hg))⟩;rw[fJ,List.nil_append,<-hnews];exact r1
 .by_cases hm:m=0
  .subst hm
   have:news=[]:=aMu (by simpa using hnl);subst this;refine⟨_,w,?_,by simpa using hown,rfl,rfl,rfl,bZ _,λ_ _ _=>rfl,λ_ _ _ _=>rfl,λg hg=>.inr hg⟩;simp[Builtin.append_,run_underlying hT.u,run_underlying ht',sizeOf,typeInfo,hi,Go.asInt,asIntOf,(show aC.wrap 0=0 by decide),hnc,storeCells]
  .have hnz:¬ (m*i.size=0):=by rw[h2];exact Nat.ne_of_gt (Nat.mul_pos (by omega) hs0)
   by_cases hroom:n+m<=cap
   .have hfit:n*i.size+news.length<=cur.size:=by rw[hnl,hcs,h2,<-jW];exact nB _ hroom
    have hst:=run_storeCells_at P g (n*i.size) e news 0 cur w hg (by simpa using hfit) h1;simp only[Nat.add_zero]at hst;have hr:(Builtin.append_ #[t,t'] ty #[.slice (some ⟨g,0,none⟩) n cap,.int .i64 m]).run P w = .ok (.slice (some ⟨g,0,none⟩) (n+m) cap) (w.setRow g (cur.toList.take (n*i.size)++news++cur.toList.drop (n*i.size+news.length)).toArray):=by
     simp[Builtin.append_,run_underlying hT.u,run_underlying ht',sizeOf,typeInfo,zeroValue,hi,hz,Go.asInt,asIntOf,hw,hneg,hby,hroom,hza,Addr.add_lit,hst];exact λh=>absurd h hnz
    have r2:(w.setRow g (cur.toList.take (n*i.size)++news++cur.toList.drop (n*i.size+news.length)).toArray).ownsRow 0 e s (.slice (some ⟨g,0,none⟩) (n+m) cap) (n+m) (xs++news):=by
     refine⟨hlen,.inr ⟨g,cap,_,rfl,vU _,setRow_heap w g cur _ e _ hg,hroom,hcm,?_,?_⟩⟩
     .simp only[bAL,dK,kS,Ff,p7]
      rw[hnl,hcs,h2];have:(n+m)*s<=cap*s:=nB _ hroom;rw[jW]at this;omega
     .rw[h2,htake,<-hlen]
      exact SB
    refine⟨_,_,hr,r2,rfl,rfl,rfl,by simp,λb _ hb=>setRow_other w g b _ (λe=>hb (by simp[Value.ownBlock,e])),λg' j hg' hj=>?_,λg' hg'=>.inr hg'⟩;have e1:g'=g:=by simpa[Value.ownBlock]using hg'.symm
    subst e1;have hx:xs[j]?=some (xs[j]'(by rw[hown.1];exact hj)):=dE _;have c1:=hown.cells (g:=g') rfl j _ hx;have c2:=r2.cells (g:=g') rfl j _ (by rw[gK (by rw[hown.1];exact hj)];exact hx);rw[Addr.add_mid,fJ]at c1 c2;rw[c1,c2]
   .have holds:∀j u,xs[j]?=some u->w.cell? ((⟨g,0,none⟩:Addr).add j)=some u:=hown.cells (g:=g) rfl
    have hfo:=run_firstCells_some (P:=P) w.drew i.size n ⟨g,0,none⟩ n cap xs (by rw[h2];exact hown.1) (by simpa using holds);have h48':¬ (281474976710656<Builtin.nextslicecap (n+m) cap*i.bytes):=by
     have:=growslice_fits (need:=n+m) (old:=cap) (bytes:=bytes) (by omega) hbytes;rw[h3];omega
    have h63':¬ (9223372036854775807<((n:Int)+(m:Int))):=by simp only[maxLen]at h63;omega
    have hr:(Builtin.append_ #[t,t'] ty #[.slice (some ⟨g,0,none⟩) n cap,.int .i64 m]).run P w =
        .ok (.slice (some ⟨w.heap.size,0,none⟩) (n+m) (grownCap w (n+m) cap e)) (w.drew.alloc (.cells ((xs++news).toArray++Builtin.zeroCells z.cells (grownCap w (n+m) cap e-(n+m))) e)):=by
     simp[Builtin.append_,run_underlying hT.u,run_underlying ht',sizeOf,typeInfo,zeroValue,hi,hz,Go.asInt,asIntOf,hw,hneg,hby,hroom,h63',h48',Question.forced,hza,hfo,newRow,grownCap];rw[aD hnz]
     congr 3
     apply v8;simp
    have hge:=grownCap_ge w (n+m) cap e;have hcm':grownCap w (n+m) cap e<=maxLen:=grownCap_le_maxLen w (n+m) cap e h63;refine⟨_,_,hr,⟨hlen,.inr ⟨w.heap.size,_,_,rfl,vU _,heap_alloc_new w.drew _,hge,hcm',?_,?_⟩⟩,rfl,rfl,rfl,by simp,λb hb _=>heap_alloc_old w.drew _ hb,λg' j hg' hj=>?_,λg' hg'=>?_⟩
    .simp only[bAa,bAL,size_zeroCells,hT.z,hlen,<-jW]
     congr 1
     omega
    .simp only[bA9]
     rw[<-hlen];exact SB
    .have e1:g'=g:=by simpa[Value.ownBlock]using hg'.symm
     subst e1;exact World.cell?_of_block (a:=⟨g',j,none⟩) (heap_alloc_old w.drew _ (hown.lt g' rfl).2)
    .simp only[Value.ownBlock,Option.some.injEq]at hg'
     exact .inl (by omega)
theorem a6P{P:Program}{o:Oper}{σ:St}{fr:Nat}{t t' e:TypeId}{z:Value}{size bytes:Nat}(st:Bool){s x:Operand}{k n m:Nat}{ts zt:List Tree}(hT:p9 P t e z size bytes)(hz:jM z.cells.toList zt)(ht':P.underlying t'=some (.int .i64))(ho:o.op = .call { callee:=.builtin .append,args:=#[s,x],argTypes:=#[t,t'] })
    (hs:σ.ev s=some (.own k)) (hk:σ.H k=some (.row e size n ts st)) (hx:σ.ev x=some (I m)) (hb:(n+m)*bytes<=140737488355328/\n+m<=maxLen):bI P o σ fr (.own fr) (mZ (some k) fr (.row e size (n+m) (ts++(e9 m zt).flatten) st)):=by
 intro E σ₁ a w hTT hHH h100 hf hd ⟨ν,G,I⟩ Q;have hxv:=cL (I.ev (St.fH hTT hx));have hzr:=(hz.JN m).rel w G;have hone:∀u∈(e9 m z.cells.toList).flatten,u.oneCell'=true:=λu hu=>by
  obtain⟨i,hi⟩:=jN.1 hu;have hlt:i<((e9 m zt).flatten).length:=by rw[<-hzr.1];exact(dC.1 hi).1
  exact(hzr.2 i u _ hi (dE hlt)).one
 have hrow:∃v xs,a.eval s=v/\w.ownsRow 0 e size v n xs/\xs.length=ts.length/\(∀(i:Nat)(u:Value)(t:Tree),xs[i]?=some u->ts[i]?=some t->TR w G u t)/\(∀k',some k'=some k->ν k'=v/\∃ob,σ₁.H k'=some ob)/\(some k=none->v.ownBlock=none) /\
     (∀g,v.ownBlock=some g->E.may g/\G g=if st then n*size else 0):=by
  have hv:=I.ev (St.fH hTT hs);obtain⟨v,he⟩:∃v,a.eval s=v:=⟨_,rfl⟩
  rw[he]at hv;cases hv with
  |own _ _=>
    obtain⟨xs,r1,r2,r3,r4⟩:=(I.H _ _ (hHH _ _ hk)).2;exact⟨_,xs,he,r1,r2,r3,(λk' hk'=>by cases hk';exact⟨rfl,_,hHH _ _ hk⟩),(λe=>by cases e),λg hg=>r4 g (aAS hg)⟩
 obtain⟨v,xs,hsv,hown,hxl,hxt,hk0,hk0n,hmay⟩:=hrow;obtain⟨v',w',hr,r2,q1,q2,q3,q4,q5,q6,q7⟩:=a42 (ty:=o.type) hT ht' hown (m:=m) hone hb.2 hb.1;generalize hus:(e9 m z.cells.toList).flatten=us at *
 generalize hys:(e9 m zt).flatten=ys at *
 have hul:=hzr.1;have htr:=hzr.2;have hk0o:∃k0,k0=some k:=⟨_,rfl⟩
 obtain⟨k0,hk0e⟩:=hk0o;rw[<-hk0e]at hk0 hk0n ⊢;unfold Oper.wp;have he:(execOp a.eval o).run P w = .ok (.value v') w':=by
  unfold execOp;rw[ho];simp[resolve,invoke,builtin,hsv,hxv,hr]
 rw[he,Oper.upon_value];have hcell:∀b i u,Cell w G b i u->Cell w' (λb=>if v'.ownBlock=some b then(if st then(n+m)*size else 0)else G b) b i u:=λb i u h=>by
  by_cases hb':v.ownBlock=some b
  .have hG:=(hmay b hb').2
   have h2:=h.2;rw[hG]at h2;cases st with
   |false=>simp at h2
   |true=>
     simp only[gZ]at h2 hG;refine⟨(q6 b i hb' h2).trans h.1,?_⟩;show i<if v'.ownBlock=some b then(if true=true then(n+m)*size else 0)else G b
     split
     .simp only[gZ]
      exact Nat.lt_of_lt_of_le h2 (nB _ (aMm _ _))
     .rw[hG];exact h2
  .refine⟨(World.cell?_of_block (a:=⟨b,i,none⟩) (q5 b h.lt hb')).trans h.1,?_⟩
   have:v'.ownBlock≠some b:=λe=>by
    rcases q7 b e with h'|h'
    .have:=h.lt;omega
    .exact hb' h'
   simp only[aD this];exact h.2
 have hblkv:∀g,bQ v'=some g->v'.ownBlock=some g:=λg hg=>by rw[<-mR r2];exact hg
 refine⟨put_defers ..,dI ν fr v',_,I.new h100 hf hd k0 (o:=.row e size (n+m) (ts++ys) st) (λk=>?_) q1 q2 q3 q4 (λb hb hnk=>?_) hcell (λk hk=>(hk0 k hk).2) (x:=v') (λg hg=>?_) ?_ ?_⟩
 .cases k0 with
  |none=>
    by_cases h:k=fr
    .subst h;simp[mZ,Ab.look]
    .simp[mZ,Ab.look,h,dS h]
  |some j=>
    by_cases h:k=fr
    .subst h;simp[mZ,Ab.look]
    .by_cases h':k=j
     .subst h';simp[mZ,Ab.look,h,dS h]
     .simp[mZ,Ab.look,h,dS h,h',dS h']
 .have hne:v.ownBlock≠some b:=λe=>by
   cases k0 with
   |none=>rw[hk0n rfl]at e;cases e
   |some j=>exact hnk j rfl (by rw[(hk0 j rfl).1,mR hown];exact e)
  refine⟨q5 b hb hne,aD (λe=>?_)⟩;rcases q7 b e with h|h
  .omega
  .exact hne h
 .rcases q7 g (hblkv g hg)with h|h
  .exact .inl h
  .cases k0 with
   |none=>rw[hk0n rfl]at h;cases h
   |some j=>exact .inr ⟨j,rfl,by rw[(hk0 j rfl).1,mR hown];exact h⟩
 .refine⟨xs++us,by rw[dP];exact r2,by simp[hxl,hul],λi u t hu ht=>?_,λg hg=>?_⟩
  .by_cases hi:i<xs.length
   .rw[gK hi]at hu
    rw[gK (by omega)]at ht;exact(hxt i u t hu ht).mono hcell
   .rw[dW (by omega)]at hu
    rw[dW (by omega)]at ht;exact(htr _ u t hu (by rw[hxl];exact ht)).mono hcell
  .rw[dP]at hg
   have hg':=hblkv g hg;refine⟨?_,aJ hg'⟩;rcases q7 g hg' with h|h
   .exact .inl (Nat.le_trans I.kept.size h)
   .exact(hmay g h).1
 .have:DR (dI ν fr v') (σ₁.bC o.dst .any (mZ k0 fr (.row e size (n+m) (ts++ys) st)) fr).nm w' (λb=>if v'.ownBlock=some b then(if st then(n+m)*size else 0)else G b) (dI ν fr v' fr) (.own fr):=.own (pC ..) (by rw[dP];exact Bv r2)
  rw[dP]at this;exact this
section
variable{c:Cx}{σ:Vw}{κ:Nat->Bool}{fr:Nat}{o:Oper}{k:X->Wx->O}{r:aE}
theorem a8I(hσ:σ.Ok κ){t t':TypeId}{x y:Operand}{st:Bool}(ho:o.op = .call { callee:=.builtin .append,args:=#[x,y],argTypes:=#[t,t'] })(h:aA6 c σ fr st t t' x y k=some r):eL c σ fr o k r:=by
 unfold aA6 at h;obtain⟨⟨e,τ,b⟩,hE,h⟩:=bL h;simp only at h;obtain⟨v,hv,h2⟩:=bL h;clear h;obtain⟨w,hw,h⟩:=bL h2;clear h2;split at h
 .rename_i n ht
  unfold J0 at h;obtain⟨h0,h⟩:=jL h;obtain⟨hb,h⟩:=jL h;refine⟨_,_,h,rfl,λhon=>?_⟩;obtain⟨z,hA,hz⟩:=Jr hE;have h0:(0:Int)<=(n:Int):=cU (p:=(0:Int)<=(show Int from n)) h0;unfold cF at hb;have hb:=cU hb;have hn:((vX n:Nat):Int)=n:=bAZ h0;have hy1:σ.den.ev y=some (I (vX n:Nat)):=by
   rw[hn];exact bV hσ hon hw
  have:=a6Q (P:=c.P) (fr:=fr) st hA hz ht ho (bV hσ hon hv) hy1 ⟨hb.1,by simp only[maxLen];have:=hb.2;omega⟩;have hfl:∀m:Nat,(e9 m τ.zero).flatMap (bH τ)=(e9 m (bH τ τ.zero)).flatten:=λm=>by
   induction m with
   |zero=>rfl
   |succ m ih=>rw[rF,rF,jX,vW,ih]
  unfold WA;simp only[iB,aAp,lG,XO.A,aAr,hfl];exact this
 .rename_i q n ht
  split at h
  .rename_i e' τ' l st' hq
   generalize iI τ' τ=p at h;cases p with
   |none=>cases h
   |some g=>
     obtain⟨g⟩:=g;subst g;simp only at h;split at h
     .rename_i hb
      have hb:=cA hb;subst hb;have h:Zh τ' e' fr b q st' l n k=some r:=h;unfold Zh at h;obtain⟨h0,h⟩:=jL h;obtain⟨hb,h⟩:=jL h;refine⟨_,_,h,rfl,λhon=>?_⟩;obtain⟨z,hA,hz⟩:=Jr hE;have h0:(0:Int)<=(n:Int):=cU (p:=(0:Int)<=(show Int from n)) h0;unfold cF at hb;have hb:=cU hb;have hn:((vX n:Nat):Int)=n:=bAZ h0;have hy1:σ.den.ev y=some (I (vX n:Nat)):=by
       rw[hn];exact bV hσ hon hw
      have:=a6P (P:=c.P) (fr:=fr) st' hA hz ht ho (k:=q) (n:=gW l) (m:=vX n) (ts:=iY (bH τ') l) (bV hσ hon hv) (by rw[gJ hq];rfl) hy1 ⟨hb.1,by simp only[maxLen];have:=hb.2;omega⟩;have hfl:∀m:Nat,(e9 m τ'.zero).flatMap (bH τ')=(e9 m (bH τ' τ'.zero)).flatten:=λm=>by
       induction m with
       |zero=>rfl
       |succ m ih=>rw[rF,rF,jX,vW,ih]
      unfold WA;simp only[iB,aAp,lG,oN,XO.A];rw[dK,aAr,List.flatMap_append,hfl];exact this
     .cases h
  .cases h
 .cases h
end
section
variable{c:Cx}{σ:Vw}{κ:Nat->Bool}{fr:Nat}{o:Oper}{k:X->Wx->O}{r:aE}
theorem aKL{P:Program}{t:TypeId}{ms:_}(hu:P.underlying t=some (.interface ms))(w:World):(Op.equal t .nilIface .nilIface).run P w = .ok true w:=by
 obtain⟨d,hd⟩:∃d,Op.maxDepth=d+1:=⟨9999,rfl⟩
 unfold Op.equal;rw[hd];simp[Op.equalIn,run_underlying hu]
theorem a7k(hσ:σ.Ok κ){op:BinOp}{xt yt:TypeId}{x y:Operand}{v w:X}{b:Bool}(ho:o.op = .binOp op xt x y yt)(hx:σ.ev x=some v)(hy:σ.ev y=some w)(hn:ZH c.P xt op v w y=some b)(h:k (.e .bo b) []=some r):eL c σ fr o k r:=by
 unfold ZH at hn;split at hn
 .split at hn
  .rename_i cv ms hu
   split at hn
   .cases hn
    refine⟨_,_,h,rfl,λhon=>jR (vr:=.bool true) ho (bV hσ hon hx) (bV hσ hon hy) (λw=>?_) rfl⟩;rw[eqGuard_nil_constR];have:=aKL hu w;simp[binOp,this]
   .cases hn
    refine⟨_,_,h,rfl,λhon=>jR (vr:=.bool false) ho (bV hσ hon hx) (bV hσ hon hy) (λw=>?_) rfl⟩;rw[eqGuard_nil_constR];have:=aKL hu w;simp[binOp,this]
   .cases hn
  .cases hn
 .cases hn
end
section
variable{c:Cx}{σ:Vw}{κ:Nat->Bool}{fr:Nat}{o:Oper}{k:X->Wx->O}{r:aE}
theorem a7x(_hσ:σ.Ok κ){op:BinOp}{xt yt:TypeId}{x y:Operand}{v w:X}{b:Bool}(_ho:o.op = .binOp op xt x y yt)(_hx:σ.ev x=some v)(_hy:σ.ev y=some w)(hn:Zx c.P op xt v w=some b)(_h:k (.e .bo b) []=some r):eL c σ fr o k r:=by
 unfold Zx at hn;cases hn
end
end Go.Ax
/- A string's iterator; a builder's bytes as a string. -/
namespace Go.Ax
open aA
open Go.RowKit Go.Ab
section
variable{P:Program}{o:Oper}{σ:St}{fr:Nat}
theorem a54{t:TypeId}{x:Operand}{s:ByteArray}(hu:P.underlying t=some .string)(ho:o.op = .range t x)(hx:σ.ev x=some (.t (.v (.string s)))):bI P o σ fr (.own fr) [(fr,some (.it s 0))]:=by
 intro E σ₁ a w hT hH h100 hf hd ⟨ν,G,I⟩ Q;have hvx:=cL (I.ev (St.fH hT hx));unfold Oper.wp;have hr:(execOp a.eval o).run P w = .ok (.value (.pointer (some ⟨w.heap.size,0,none⟩))) (w.alloc (.stringIter s 0)):=by
  unfold execOp;rw[ho];simp[hvx,run_range_string w t s hu,World.iter]
 rw[hr,Oper.upon_value];have hA:cS w (w.alloc (.stringIter s 0)):=(cS.refl w).alloc _;refine⟨put_defers ..,_,_,I.fresh (G':=λb=>if b=w.heap.size then 0 else G b) h100 hf hd hA (λb hb=>aD (by omega)) (x:=.pointer (some ⟨w.heap.size,0,none⟩)) (λg hg=>by cases hg;exact bZ _) ?_ ?_⟩
 .exact⟨w.heap.size,dP,.inl I.kept.size,heap_alloc_new w _,aJ rfl⟩
 .have:DR (dI ν fr (.pointer (some ⟨w.heap.size,0,none⟩))) (σ₁.bC o.dst .any [(fr,some (.it s 0))] fr).nm (w.alloc (.stringIter s 0)) (λb=>if b=w.heap.size then 0 else G b) (dI ν fr (.pointer (some ⟨w.heap.size,0,none⟩)) fr) (.own fr):=.own (pC ..) (by rw[dP];rfl)
  rw[dP]at this;exact this
theorem a5a{x:Operand}{s:ByteArray}{pos q:Nat}(ho:o.op = .next x true)(hx:σ.ev x=some (.own q))(hq:σ.H q=some (.it s pos))(h:¬ pos<s.size):bI P o σ fr (.bD [.t (.v (.bool false))]) []:=
 dV λE σ₁ ν G w ac hH I hev=>by
  obtain⟨hv,hk⟩:=FK (hev x _ hx);obtain⟨g,h1,h2,h3,h4⟩:=(I.H q _ (hH q _ hq)).2;refine⟨.tuple #[.bool false],?_,.bD rfl λi u d hu hd=>?_⟩
  .unfold execOp
   rw[ho];simp[hv,h1,Lib.run_next_end_at w g s pos o.type h3 h]
  .match i,hu,hd with
   |0,hu,hd=>cases hu;cases hd;exact .t (.v _ rfl)
   |i+1,hu,hd=>simp at hd
theorem a58{x:Operand}{s:ByteArray}{pos q:Nat}(ho:o.op = .next x true)(hx:σ.ev x=some (.own q))(hq:σ.H q=some (.it s pos))(h:pos<s.size)(ha:(s[pos]'h).toNat<128):
    bI P o σ fr (.bD [.t (.v (.bool true)),.t (.v (.int .i64 pos)),.t (.v (.int .i32 (s[pos]'h).toNat))]) [(q,some (.it s (pos+1)))]:=by
 intro E σ₁ a w hT hH h100 hf hd ⟨ν,G,I⟩ Q;obtain⟨hv,hk⟩:=FK (I.ev (St.fH hT hx));obtain⟨g,h1,h2,h3,h4⟩:=(I.H q _ (hH q _ hq)).2;unfold Oper.wp;have hr:(execOp a.eval o).run P w = .ok (.value (.tuple #[.bool true,.int .i64 pos,.int .i32 (s[pos]'h).toNat])) (w.iterAt g s (pos+1)):=by
  unfold execOp;rw[ho];simp[hv,h1,Lib.run_next_ascii_at w g s pos o.type h3 h ha]
 rw[hr,Oper.upon_value];have s5:∀b,b≠g->(w.iterAt g s (pos+1)).heap[b]?=w.heap[b]?:=λb hb=>by
  simp only[World.iterAt];rw[v7 (dS hb)]
 have hcell:∀b i u,Cell w G b i u->Cell (w.iterAt g s (pos+1)) G b i u:=λb i u h=>by
  have hne:b≠g:=λe=>by have:=h.2;rw[e,h4]at this;omega
  exact⟨(World.cell?_of_block (a:=⟨b,i,none⟩) (s5 b hne)).trans h.1,h.2⟩
 refine⟨put_defers ..,ν,G,aKR (w':=w.iterAt g s (pos+1)) (ob':=.it s (pos+1)) I (hH q _ hq) (by rw[h1];rfl) h4 (λ_ _ _=>Iff.rfl) (λ_ _ _=>Iff.rfl) rfl rfl rfl (by simp[World.iterAt]) s5 hcell ⟨g,h1,h2,Lib.iterAt_heap w g s pos _ h3,h4⟩ hd (.bD rfl λi u d hu hd'=>?_)⟩
 match i,hu,hd' with
 |0,hu,hd'=>cases hu;cases hd';exact .t (.v _ rfl)
 |1,hu,hd'=>cases hu;cases hd';exact .t (.v _ rfl)
 |2,hu,hd'=>cases hu;cases hd';exact .t (.v _ rfl)
 |i+3,hu,hd'=>simp at hd'
theorem a47{E:Env}{σ₁:St}{ν:Nat->Value}{G:cE}{w w':World}{a:Act}(I:Inv E σ₁ ν G w a.tmps){k g:Nat}{ob:aZ}(hk:σ₁.H k=some ob)(hg:bQ (ν k)=some g)
    (s1:w'.os=w.os) (s2:w'.tape=w.tape) (s3:w'.output=w.output) (s4:w'.heap.size=w.heap.size) (s5:∀b,b≠g->w'.heap[b]?=w.heap[b]?) (hcell:∀b i u,Cell w G b i u->Cell w' G b i u)
    {dst:Option Tmp} {v:Value} {d:D} (hd:∀t,dst=some t->t<E.m) (hv:DR ν σ₁.nm w' G v d):Inv E (σ₁.bC dst d [(k,none)] fr) ν G w' (a.put dst v).tmps:=by
 have hmay:E.may g:=(I.H k ob hk).2.ZT hg;have hnm:∀j,σ₁.nm j=true->(σ₁.bC dst d [(k,none)] fr).nm j=true/\ν j=ν j:=λj hj=>⟨by simp[St.bC,hj],rfl⟩
 have back:∀j oj,(σ₁.bC dst d [(k,none)] fr).H j=some oj->j≠k/\σ₁.H j=some oj:=λj oj h=>by
  by_cases hj:j=k
  .subst hj;simp[St.bC,Ab.look]at h
  .exact⟨hj,by simpa[St.bC,Ab.look,dS hj]using h⟩
 refine⟨⟨s1.trans I.kept.os,s2.trans I.kept.tape,s3.trans I.kept.output,by rw[s4];exact I.kept.size,λb hb hX=>?_⟩,λb i u h=>hcell b i u (I.eR b i u h),I.gE,I.g0,?_,λt' d' h=>?_,λj oj h=>?_,λj1 o1 j2 o2 h1 h2 hne=>?_⟩
 .refine(s5 b (λe=>?_)).trans (I.kept.block b hb hX)
  subst e;rcases hmay with h|h
  .omega
  .exact hX h
 .cases dst <;> simp[Act.put,I.sz]
 .simp only[St.bC]at h
  split at h
  .rename_i he'
   cases h;have:=hd t' he';exact⟨v,by simp[he',Act.put,I.sz,this],hv.mono hnm (λ_ _ _ h=>h)⟩
  .rename_i he'
   obtain⟨u,hu,hdu⟩:=I.T t' d' h;refine⟨u,?_,hdu.mono hnm hcell⟩;cases dst with
   |none=>simpa[Act.put]using hu
   |some t''=>
     have hne:t''≠t':=λe=>he' (by rw[e])
     simp only[Act.put];rw[v7 hne];exact hu
 .obtain⟨hj,h'⟩:=back j oj h
  obtain⟨h1,h2⟩:=I.H j oj h';refine⟨(hnm j h1).1,h2.mono h1 hnm hcell (λg' hg'=>⟨s5 g' (λe=>?_),rfl⟩)⟩;subst e;exact I.eB j oj k ob h' hk hj g' hg' (gF hg)
 .obtain⟨n1,e1⟩:=back j1 o1 h1
  obtain⟨n2,e2⟩:=back j2 o2 h2;have f:∀j oj,j≠k->σ₁.H j=some oj->∀g',cZ w' (ν j) oj g'->cZ w (ν j) oj g':=λj oj hj h g' hg'=>(CD λb hb=>s5 b λe=>by
   subst e;exact I.eB j oj k ob h hk hj b (gF hb) (gF hg)).1 hg'
  exact λg' hg1 hg2=>I.eB j1 o1 j2 o2 e1 e2 hne g' (f j1 o1 n1 e1 g' hg1) (f j2 o2 n2 e2 g' hg2)
theorem a8M(w:World)(g n:Nat):(w.freeze ⟨g,0,none⟩ n).os=w.os/\(w.freeze ⟨g,0,none⟩ n).tape=w.tape/\(w.freeze ⟨g,0,none⟩ n).output=w.output/\(w.freeze ⟨g,0,none⟩ n).heap.size=w.heap.size/\(∀b,b≠g->(w.freeze ⟨g,0,none⟩ n).heap[b]?=w.heap[b]?) /\
    ∀b i,(w.freeze ⟨g,0,none⟩ n).cell? ⟨b,i,none⟩=w.cell? ⟨b,i,none⟩:=by
 unfold World.freeze;split
 .exact⟨rfl,rfl,rfl,rfl,λ_ _=>rfl,λ_ _=>rfl⟩
 .refine⟨rfl,rfl,rfl,by simp,λb hb=>by simp[aBA,dS hb],λb i=>?_⟩
  simp only[World.cell?,aBA];by_cases h:g=b
  .subst h
   rw[aJ rfl];cases w.heap[g]? with
   |none=>rfl
   |some o=>
     cases o with
     |cells c e fz=>obtain⟨lo,hi⟩:=fz;rfl
     |_=>rfl
  .rw[aD h]
theorem aJc{ν:Nat->Value}{nm:Nat->Bool}{w:World}{G:cE}{v:Value}{k:Nat}{r:Value->Value->Prop}(h:DR ν nm w G v (.via k r)):r (ν k) v:=by
 cases h with|via hk h h1=>exact h
theorem aJp{w:World}{G:cE}{u x:Value}(h:TR w G u (.v x)):u=x:=by
 cases h with|v _ _=>rfl
theorem a50{t e' e:TypeId}{x:Operand}{q s n:Nat}{ts:List Tree}{st:Bool}(hu:P.underlying o.type=some (.pointer e'))(ho:o.op = .call { callee:=.builtin .unsafeSliceData,args:=#[x],argTypes:=#[t] })
    (hx:σ.ev x=some (.own q)) (hq:σ.H q=some (.row e s n ts st)):bI P o σ fr (.via q (mO 1)) []:=by
 intro E σ₁ a w hT hH h100 hf hd ⟨ν,G,I⟩ Q;obtain⟨hv,hk⟩:=FK (I.ev (St.fH hT hx));obtain⟨xs,r1,_⟩:=(I.H q _ (hH q _ hq)).2;have fin:∀(p:Option Addr)(w':World),cS w w'->(Builtin.unsafeSliceData_ #[t] o.type #[ν q]).run P w = .ok (.pointer p) w'->mO 1 (ν q) (.pointer p)->o.wp P a w (λa' w'=>a'.defers=a.defers/\R E (σ₁.bC o.dst (.via q (mO 1)) [] fr) a'.tmps w') Q:=λp w' hA hr hR=>by
  unfold Oper.wp;have he:(execOp a.eval o).run P w = .ok (.value (.pointer p)) w':=by
   unfold execOp;rw[ho];simp[resolve,invoke,builtin,hv,hr]
  rw[he,Oper.upon_value];exact⟨put_defers ..,ν,G,(I.iK hA λ_ _=>rfl).put (.via hk hR rfl) hd fr a rfl⟩
 rcases r1.2 with⟨hz,h0⟩|⟨g,cap,cur,hz,_,r2,r3,r4,r5,_⟩
 .exact fin none w (cS.refl w) (by rw[hz];exact Lib.run_unsafeSliceData_nil ..) ⟨_,rfl,λa' n' c' he hn'=>by rw[hz]at he;cases he;omega⟩
 .by_cases hc:cap=0
  .subst hc
   refine fin _ _ ((cS.refl w).alloc _) (by rw[hz,Nat.le_zero.1 r3];exact Lib.run_unsafeSliceData_zero w _ _ e' hu ⟨g,0,none⟩ 0 (e,cur.size) (by simp[World.shape?,r2])) ⟨_,rfl,λa' n' c' he hn'=>?_⟩;rw[hz]at he;cases he;omega
  .exact fin (some ⟨g,0,none⟩) w (cS.refl w) (by rw[hz];exact Lib.run_unsafeSliceData_row _ _ _ _ _ _ hc) ⟨_,rfl,λa' n' c' he hn'=>by rw[hz]at he;cases he;rfl⟩
theorem a5Z{t:TypeId}{x:Operand}(ho:o.op = .call { callee:=.builtin .unsafeSliceData,args:=#[x],argTypes:=#[t] })(hx:σ.ev x=some (.t (.v (.slice none 0 0)))):bI P o σ fr (.t (.v (.pointer none))) []:=
 dV λE σ₁ ν G w a hH I hev=>by
  have hv:=cL (hev x _ hx);refine⟨_,?_,.t (.v _ rfl)⟩;unfold execOp;rw[ho];simp[resolve,invoke,builtin,hv,Lib.run_unsafeSliceData_nil]
theorem a5V{pt it e:TypeId}{x y:Operand}{q:Nat}{l:List UInt8}{st:Bool}(hp:P.underlying pt=some (.pointer e))(hc:P.cellsOf e=1)(ho:o.op = .call { callee:=.builtin .unsafeString,args:=#[x,y],argTypes:=#[pt,it] })
    (hx:σ.ev x=some (.via q (mO 1))) (hy:σ.ev y=some (.t (.v (.int .i64 l.length)))) (hq:σ.H q=some (.row e 1 l.length (l.map λb=>.v (.int .u8 b.toNat)) st)):bI P o σ fr (.t (.v (.string ⟨l.toArray⟩))) [(q,none)]:=by
 intro E σ₁ a w hT hH h100 hf hd ⟨ν,G,I⟩ Q;have hvy:=cL (I.ev (St.fH hT hy));have hvx:=I.ev (St.fH hT hx);have hqn:=hH q _ hq;obtain⟨xs,r1,r2,r3,r4⟩:=(I.H q _ hqn).2;obtain⟨p,hpv,hpr⟩:∃p,a.eval x = .pointer p/\∀a' n' c',ν q = .slice a' n' c'->0<n'->p=a':=by
  exact aJc hvx
 have hr0:xs.length=l.length:=by rw[r2,dR]
 have fin:∀w',(Builtin.unsafeString_ #[pt,it] o.type #[.pointer p,.int .i64 l.length]).run P w = .ok (.string ⟨l.toArray⟩) w'->(∀v',ν q=v'->(∃(g:Nat),bQ v'=some g/\w'=w.freeze ⟨g,0,none⟩ l.length)\/w'=w)->o.wp P a w (λa' w'=>a'.defers=a.defers/\R E (σ₁.bC o.dst (.t (.v (.string ⟨l.toArray⟩))) [(q,none)] fr) a'.tmps w') Q:=λw' hr hw'=>by
  unfold Oper.wp;have he:(execOp a.eval o).run P w = .ok (.value (.string ⟨l.toArray⟩)) w':=by
   unfold execOp;rw[ho];simp[resolve,invoke,builtin,hpv,hvy,hr]
  rw[he,Oper.upon_value];rcases hw' _ rfl with⟨g,hg,rfl⟩|rfl
  .obtain⟨s1,s2,s3,s4,s5,s6⟩:=a8M w g l.length
   exact⟨put_defers ..,ν,G,a47 I hqn hg s1 s2 s3 s4 s5 (λb i u h=>⟨(s6 b i).trans h.1,h.2⟩) hd (.t (.v _ rfl))⟩
  .have:=I.put (dst:=o.dst) (v:=.string ⟨l.toArray⟩) (d:=.t (.v (.string ⟨l.toArray⟩))) (.t (.v _ rfl)) hd fr a rfl
   have back:∀j oj,(σ₁.bC o.dst (.t (.v (.string ⟨l.toArray⟩))) [(q,none)] fr).H j=some oj->(σ₁.bC o.dst (.t (.v (.string ⟨l.toArray⟩))) [] fr).H j=some oj:=λj oj h=>by
    by_cases hj:j=q
    .subst hj;simp[St.bC,Ab.look]at h
    .simpa[St.bC,Ab.look,dS hj]using h
   exact⟨put_defers ..,ν,G,this.kept,this.eR,this.gE,this.g0,this.sz,this.T,λj oj h=>this.H j oj (back j oj h),λj1 o1 j2 o2 h1 h2=>this.eB j1 o1 j2 o2 (back j1 o1 h1) (back j2 o2 h2)⟩
 rcases Nat.eq_zero_or_pos l.length with h0|h0
 .have:l=[]:=aMu h0
  subst this;refine fin w ?_ (λ_ _=>.inr rfl);exact Lib.run_unsafeString_none w pt it o.type p
 .rcases r1.2 with⟨hz,hn⟩|⟨g,cap,cur,hz,_,q2,q3,q4,q5,q6⟩
  .omega
  .have hpe:=hpr _ _ _ hz h0
   subst hpe;refine fin _ (Lib.run_unsafeString_row w pt it o.type e hp hc g cur.size (by simp[World.shape?,q2]) l (λe=>by subst e;simp at h0) (by omega) (by simp only[maxLen]at q4;omega) λj b hb=>?_) (λv' hv'=>.inl ⟨g,by rw[<-hv',hz];rfl,rfl⟩);have hj:j<l.length:=(dC.1 hb).1;have hxj:xs[j]?=some xs[j]:=dE (by omega);have ht:=r3 j _ _ hxj (by rw[dT,hb];rfl);have hcell:=JL r1 (by rw[hz];rfl) (i:=j) (by omega);rw[Addr.add_mid,fJ,hcell,hxj];rw[aJp ht]
theorem a5U{pt it:TypeId}{x y:Operand}(ho:o.op = .call { callee:=.builtin .unsafeString,args:=#[x,y],argTypes:=#[pt,it] })(hx:σ.ev x=some (.t (.v (.pointer none))))(hy:σ.ev y=some (.t (.v (.int .i64 0)))):bI P o σ fr (.t (.v (.string ⟨#[]⟩))) []:=
 dV λE σ₁ ν G w a hH I hev=>by
  have hv:=cL (hev x _ hx);have hvy:=cL (hev y _ hy);refine⟨_,?_,.t (.v _ rfl)⟩;unfold execOp;rw[ho];have hr:=Lib.run_unsafeString_none (P:=P) w pt it o.type none;simp[resolve,invoke,builtin,hv,hvy,hr];rfl
end
section
variable{c:Cx}{σ:Vw}{κ:Nat->Bool}{fr:Nat}{o:Oper}{k:X->Wx->O}{r:aE}
theorem a7h(hσ:σ.Ok κ){t:TypeId}{x:Operand}{s:List UInt8}(ho:o.op = .range t x)(hu:c.P.underlying t=some .string)(hx:σ.ev x=some (.e .tx s))(h:k (.own fr) [(fr,some (.it s 0))]=some r):eL c σ fr o k r:=
 ⟨_,_,h,rfl,λhon=>a54 hu ho (bV hσ hon hx)⟩
theorem a7m(hσ:σ.Ok κ){x:Operand}{q:Nat}{s:List UInt8}{pos:Int}(ho:o.op = .next x true)(hx:σ.ev x=some (.own q))(hq:σ.H q=some (.it s pos))(h:ZK s pos q k=some r):eL c σ fr o k r:=by
 unfold ZK at h;rcases zB h with⟨_,h⟩|⟨hb,h⟩
 .obtain⟨b,h0,hb,h⟩:=Zg h
  obtain⟨ha,h⟩:=jL h;have ha:=cU ha;have hlt:pos.toNat<(⟨s.toArray⟩:ByteArray).size:=by
   have:=(dC.1 hb).1;exact this
  have hbv:(⟨s.toArray⟩:ByteArray)[pos.toNat]'hlt=b:=by
   have:=(dC.1 hb).2;exact this
  refine⟨_,_,h,rfl,λhon=>?_⟩;have:=a58 (P:=c.P) (fr:=fr) ho (bV hσ hon hx) (gJ hq) hlt (by rw[hbv];exact ha);rw[hbv]at this;have e1:(pos.toNat:Int)=pos:=by omega
  have e2:(pos+1).toNat=pos.toNat+1:=by omega
  rw[e1]at this;unfold WA;simp only[iB,aAp,lG,XO.A,e2];exact this
 .have hb:=of_decide_eq_false hb
  exact⟨_,_,h,rfl,λhon=>a5a (P:=c.P) (fr:=fr) ho (bV hσ hon hx) (gJ hq) (λhc=>hb (by have:pos.toNat<s.length:=hc;omega))⟩
theorem YF:∀l:List UInt8,iY (bH .u8) l=List.map (λb:UInt8=>Tree.v (.int .u8 b.toNat)) l
 |[]=>rfl
 |b::l=>bE (λts=>Tree.v (.int .u8 b.toNat)::ts) (YF l)
theorem aMJ{a b:Int}(h:aAG a b=true):a=b:=cU h
theorem a7g(hσ:σ.Ok κ){t:TypeId}{x:Operand}{v:X}(ho:o.op = .call { callee:=.builtin .unsafeSliceData,args:=#[x],argTypes:=#[t] })(hx:σ.ev x=some v)(h:Ya c σ o.type v k=some r):eL c σ fr o k r:=by
 unfold Ya at h;split at h
 .rename_i e' hu
  split at h
  .rename_i q
   split at h
   .rename_i e τ l st hq
    exact⟨_,_,h,rfl,λhon=>a50 (P:=c.P) (fr:=fr) hu ho (bV hσ hon hx) (gJ hq)⟩
   .cases h
  .exact⟨_,_,h,rfl,λhon=>a5Z (P:=c.P) (fr:=fr) ho (bV hσ hon hx)⟩
  .cases h
 .cases h
theorem a7d(hσ:σ.Ok κ){pt it:TypeId}{x y:Operand}{v w:X}(ho:o.op = .call { callee:=.builtin .unsafeString,args:=#[x,y],argTypes:=#[pt,it] })(hx:σ.ev x=some v)(hy:σ.ev y=some w)(h:YC c σ pt v w k=some r):eL c σ fr o k r:=by
 unfold YC at h;split at h
 .rename_i e hu
  split at h
  .rename_i q n
   split at h
   .rename_i e0 l st hq
    split at h
    .rename_i hc
     rw[bM]at hc;obtain⟨hn,h2⟩:=jL h;clear h;have hn:n=(gW (α:=UInt8) l:Int):=aMJ hn;subst hn;have he:e0=e:=cA hc.1;subst he;refine⟨_,_,h2,rfl,λhon=>?_⟩;have:σ.den.H q=some (.row e0 1 (gW (α:=UInt8) l) (iY (bH .u8) l) st):=gJ hq;have this:=this.trans (bE (λts=>some (aZ.row e0 1 (gW (α:=UInt8) l) ts st)) (YF l));exact a5V (P:=c.P) (fr:=fr) hu (cA hc.2) ho (bV hσ hon hx) (bV hσ hon hy) this
    .cases h
   .cases h
  .rename_i n
   obtain⟨hn,h⟩:=jL h;have hn:n=(0:Int):=aMJ hn;subst hn;exact⟨_,_,h,rfl,λhon=>a5U (P:=c.P) (fr:=fr) ho (bV hσ hon hx) (bV hσ hon hy)⟩
  .cases h
 .cases h
end
end Go.Ax
/- Every operation. -/
namespace Go.Ax
open aA
open Go.RowKit Go.Ab
theorem Yp{x:X}{k:X->Wx->O}{r:aE}(h:yC x k=some r):x.pl=true/\k x []=some r:=by
 unfold yC at h;split at h
 .rename_i hp;exact⟨hp,h⟩
 .cases h
theorem F9{α:Type}{a:Array α}{x:α}(h:a.toList=[x]):a = #[x]:=v8 h
theorem zE{α:Type}{a:Array α}{x y:α}(h:a.toList=[x,y]):a = #[x,y]:=v8 h
theorem a9k{α:Type}{a:Array α}{x y z:α}(h:a.toList=[x,y,z]):a = #[x,y,z]:=v8 h
theorem a9l{α:Type}{a:Array α}(h:a.toList=[]):a = #[]:=v8 h
section
variable{c:Cx}{σ:Vw}{κ:Nat->Bool}{fr:Nat}{o:Oper}{k:X->Wx->O}{r:aE}
theorem a7l(hσ:σ.Ok κ){x:Operand}(ho:o.op = .nilCheck x) (h:(ob (σ.ev x) λv=>match v with
    |.ref ..=>k v []
    |.rr ..=>k v []
    |.pt ..=>k v []
    |.fn ..=>k v []
    |_=>none)=some r):eL c σ fr o k r:=by
  obtain⟨v,hv,h⟩:=bL h;have hp:=yV hv;cases v with
  |ref q off=>exact⟨_,_,h,rfl,λhon=>Qk ho (bV hσ hon hv) (.inl ⟨_,_,rfl⟩)⟩
  |rr q i j s=>exact⟨_,_,h,rfl,λhon=>Qk ho (bV hσ hon hv) (.inl ⟨_,_,rfl⟩)⟩
  |pt τ y j=>exact⟨_,_,h,rfl,λhon=>Qk ho (bV hσ hon hv) (.inr (.inl ⟨_,_,rfl⟩))⟩
  |fn f xs=>exact⟨_,_,h,rfl,λhon=>Qk ho (bV hσ hon hv) (.inr (.inr ⟨_,_,rfl⟩))⟩
  |_=>cases h
theorem a7v(hσ:σ.Ok κ){f:FuncId}{first caps:Array Operand}(ho:o.op = .makeFunc (.func f) first caps)(hf:first.toList=[])(h:σ.vK caps.toList (λxs=>k (.fn f xs) [])=some r):eL c σ fr o k r:=by
 obtain⟨xs,h,hl,hev⟩:=RR h;rw[a9l hf]at ho;refine⟨_,_,h,rfl,λhon=>?_⟩;unfold X.D;rw[fO];refine a5k ho (by rw[dR,hl,p7]) (λi x d hx hd=>?_);rw[dT]at hd;obtain⟨y,hy,rfl⟩:=cV.1 hd;obtain⟨p,hp,hpv⟩:=hev i y hy;rw[Fl,hx]at hp;cases hp;exact bV hσ hon hpv
theorem a8A(hσ:σ.Ok κ){s d:TypeId}{x:Operand}(ho:o.op = .convert s d x) (h:(ob (σ.ev x) λv=>match c.P.underlying s,c.P.underlying d,v with
    |some (.slice e),some .string,v=>match c.P.underlying e with
      |some (.int .u8)=>ob (σ.src .u8 v) λl=>k (.e .tx l) []
      |_=>none
    |_,_,v=>R8 c.P s d v λr=>k r [])=some r):eL c σ fr o k r:=by
  obtain⟨v,hv,h⟩:=bL h;split at h
  .rename_i hs hd
   split at h
   .rename_i he
    obtain⟨l,hl,h⟩:=bL h;exact a8D hσ hs he hd ho hv hl h
   .cases h
  .exact a8B hσ ho hv h
theorem a7w(hσ:σ.Ok κ){x:Operand}{n:Nat}(ho:o.op = .extract x n) (h:(ob (σ.ev x) λv=>match v with
    |.bD xs=>ob xs[n]? λr=>yC r k
    |_=>none)=some r):eL c σ fr o k r:=by
  obtain⟨v,hv,h⟩:=bL h;split at h
  .rename_i xs
   obtain⟨y,hy,h⟩:=bL h;obtain⟨hp,h⟩:=Yp h;refine⟨_,_,h,hp,λhon=>?_⟩;have hD:=bV hσ hon hv;unfold X.D at hD;rw[fO]at hD;exact a6H ho hD (by rw[dT,hy];rfl)
  .cases h
theorem a7r(_hσ:σ.Ok κ){t e e':TypeId}{n b q:Nat}{τ τ':Ty}{l:List τ'.V}{ps:Array (Nat×Operand)}(_ho:o.op = .buildSlice t n ps)(_hE:oL c t=some (e,τ,b))(hp:ZL σ n ps.toList=some (q,e',⟨τ',l⟩))(_hτ:τ = .sl τ')
    (_h:k (.own fr) [(fr,some (.nest e e' τ' [l])),(q,none)]=some r):eL c σ fr o k r:=by
 unfold ZL at hp;cases hp
theorem a7q(_hσ:σ.Ok κ){t e e':TypeId}{n b q:Nat}{τ κ':Ty}{l:List κ'.V}{ys:List X}{ps:Array (Nat×Operand)}(_ho:o.op = .buildSlice t n ps)(_hE:oL c t=some (e,τ,b))(_hp:aKv σ n ps.toList=some (q,e',⟨κ',l⟩,ys))
    (h:Z2 σ fr e e' q κ' l ys k τ=some r):eL c σ fr o k r:=by
 unfold Z2 at h;cases h
theorem a8J(_hσ:σ.Ok κ){t e e1 e1':TypeId}{x y:Operand}{v w:X}{bt q:Nat}{τ0 κ' ρ:Ty}{l':List (List κ'.V×ρ.V)}(_ho:o.op = .call { callee:=.builtin .append,args:=#[x,y],argTypes:=#[t,t] })(_hE:oL c t=some (e,τ0,bt))
    (_hx:σ.ev x=some v) (_hy:σ.ev y=some w) (_hw:aKu σ w=some (q,e1,e1',⟨κ',ρ,l'⟩)) (h:aA8 σ e fr bt v q e1 e1' κ' ρ l' k τ0=some r):eL c σ fr o k r:=by
 unfold aA8 at h;cases h
theorem a8K(_hσ:σ.Ok κ){t e e1 e1':TypeId}{x y:Operand}{v w:X}{bt q:Nat}{τ0 τ:Ty}{l':List (List τ.V)}(_ho:o.op = .call { callee:=.builtin .append,args:=#[x,y],argTypes:=#[t,t] })(_hE:oL c t=some (e,τ0,bt))(_hτ:τ0 = .sl τ)
    (_hx:σ.ev x=some v) (_hy:σ.ev y=some w) (_hw:aLB σ w=some (q,e1,e1',⟨τ,l'⟩)) (h:aA9 σ e fr bt v q e1 e1' τ l' k=some r):eL c σ fr o k r:=by
 unfold aA9 at h;cases h
theorem a7n{t:TypeId}(ho:o.op = .makeMap t none){τ:Ty}(h:k (.own fr) [(fr,some (.mp τ []))]=some r):eL c σ fr o k r:=
 ⟨_,_,h,rfl,λ_=>a5f ho⟩
theorem a7u(_hσ:σ.Ok κ){t kt et:TypeId}{m x y:Operand}{a b v:X}(_ho:o.op = .insert t m x y)(_hu:c.P.underlying t=some (.map kt et))(_hm:σ.ev m=some a)(_hx:σ.ev x=some b)(_hy:σ.ev y=some v)(h:ZQ c σ kt a b v k=some r):eL c σ fr o k r:=by
 unfold ZQ at h;cases h
theorem a7p(_hσ:σ.Ok κ){t kt et:TypeId}{m x:Operand}{cm:Bool}{a b z:X}(_ho:o.op = .lookup t m x cm)(_hu:c.P.underlying t=some (.map kt et))(_hm:σ.ev m=some a)(_hx:σ.ev x=some b)(_hz:wD c.P et=some z)(h:ZS c σ kt a b z cm (λr=>yC r k)=some r):eL c σ fr o k r:=by
 unfold ZS at h;cases h
theorem a7f(hσ:σ.Ok κ){t:TypeId}{x:Operand}{τ:Ty}{y:τ.V}{j:Nat}(ho:o.op = .slice t x none none none)(hx:σ.ev x=some (.pt τ y j))(h:Y5 c t (.pt τ y j) (λr=>k r [])=some r):eL c σ fr o k r:=by
 unfold Y5 at h;split at h
 case h_2=>cases h
 rename_i n e hu;obtain rfl|⟨j',rfl⟩:j=0\/∃j',j=j'+1:=by cases j;exact .inl rfl;exact .inr ⟨_,rfl⟩
 case inr=>cases h
 simp only at h;split at h
 case h_2=>cases h
 rename_i τ' _;split at h
 case h_2=>cases h
 rename_i m hm;split at h
 case h_2=>cases h
 split at h
 case h_2=>cases h
 rename_i l hl;split at h
 case h_2=>cases h
 rename_i hn;have hn:=cA hn;refine⟨_,_,h,rfl,λhon=>?_⟩;have:=a5Y (P:=c.P) (fr:=fr) hu hm ho (bV hσ hon hx);rw[YV _ _ _ _ hl,<-hn]at this;exact this
theorem a6r(a:Option Int):Z1 a=eG a:=by cases a <;> rfl
theorem a79(n:Nat)(b:Option Int):hiV n b=eT n b:=by cases b <;> rfl
theorem a7e(hσ:σ.Ok κ){t e0:TypeId}{x:Operand}{lo hi:Option Operand}{q:Nat}{τ:Ty}{l:List τ.V}(ho:o.op = .slice t x lo hi none)(hx:σ.ev x=some (.own q))(hq:σ.H q=some (.row e0 τ l false))(h:σ.lB lo (λlo=>σ.lB hi λhi=>Y4 c σ t q τ l lo hi k)=some r):eL c σ fr o k r:=by
 obtain⟨a,h,ha⟩:=yD hσ h;obtain⟨b,h,hb⟩:=yD hσ h;unfold Y4 at h;split at h
 case h_2=>cases h
 rename_i e hu;split at h
 case h_2=>cases h
 rename_i m hm;split at h
 case h_2=>cases h
 rename_i hs;have hs:=cA hs;subst hs;obtain⟨h,hok⟩:=oG h;refine⟨_,_,h,rfl,λhon=>?_⟩;have:=a5X (P:=c.P) (fr:=fr) hu hm ho (bV hσ hon hx) (gJ hq) (ha hon) (hb hon) (hok hon.g);rw[<-a6r,<-a79]at this;exact this
theorem a7z(_hσ:σ.Ok κ){t t':TypeId}{x y:Operand}{v w:X}(_ho:o.op = .call { callee:=.builtin .copy,args:=#[x,y],argTypes:=#[t,t'] })(_hx:σ.ev x=some v)(_hy:σ.ev y=some w)(h:aAK c σ t v w k=some r):eL c σ fr o k r:=by
 unfold aAK at h;cases h
theorem a8E(hσ:σ.Ok κ){st:Bool}{b:Builtin}{args:Array Operand}{tys:Array TypeId}(ho:o.op = .call { callee:=.builtin b,args:=args,argTypes:=tys })(h:eM c σ fr st { o with op:=.call { callee:=.builtin b,args:=args,argTypes:=tys } } k=some r):eL c σ fr o k r:=by
 unfold eM at h;simp only at h;split at h
 .rename_i x t ha ht
  cases F9 ha;cases F9 ht;obtain⟨v,hv,h⟩:=bL h;exact a7t hσ ho hv h
 .rename_i x y t t' ha ht
  cases zE ha;cases zE ht;split at h
  .exact a8I hσ ho h
  rename_i he;have he:=cA he;subst he;obtain⟨⟨e,τ,bt⟩,hE,h⟩:=bL h;simp only at h;obtain⟨v,hv,h1⟩:=bL h;clear h;obtain⟨w,hw,h2⟩:=bL h1;clear h1;split at h2
  .rename_i q e1 e1' τ1 l' hnw
   split at h2
   .rename_i hτ _
    split at h2
    .exact a8K hσ ho hE hτ.down hv hw hnw h2
    .cases h2
   .cases h2
  split at h2
  .rename_i q e1 e1' κ' ρ l' hnw
   exact a8J hσ ho hE hv hw hnw h2
  obtain⟨l',hl',h⟩:=bL h2;clear h2;refine a8H hσ ho hE hv hw hl' (st:=st) ?_;split at h
  .rename_i q
   split at h
   .rename_i e' τ' l st' hq
    generalize iI τ' τ=p at h;cases p with
    |none=>cases h
    |some g=>
      obtain⟨g⟩:=g;subst g;simp only at h;split at h
      .rename_i hb
       have hb:=cA hb;subst hb;exact .inl ⟨q,st',l,rfl,hq,h⟩
      .cases h
   .cases h
  .exact .inr ⟨rfl,h⟩
  .cases h
 .rename_i x t ha ht
  cases F9 ha;cases F9 ht;obtain⟨v,hv,h⟩:=bL h;exact a7g hσ ho hv h
 .rename_i x y t t' ha ht
  cases zE ha;cases zE ht;obtain⟨v,hv,h⟩:=bL h;obtain⟨w,hw,h⟩:=bL h;exact a7d hσ ho hv hw h
 .rename_i x t ha ht
  cases F9 ha;cases F9 ht;obtain⟨v,hv,h⟩:=bL h;split at h
  .rename_i e hu
   exact⟨_,_,h,rfl,λhon=>a6K (P:=c.P) (fr:=fr) hu ho (bV hσ hon hv)⟩
  .cases h
 .rename_i x y t t' ha ht
  cases zE ha;cases zE ht;obtain⟨v,hv,h⟩:=bL h;obtain⟨w,hw,h⟩:=bL h;exact a7z hσ ho hv hw h
 .rename_i x y ha
  cases zE ha;obtain⟨v,hv,h⟩:=bL h;obtain⟨w,hw,h⟩:=bL h;split at h
  .unfold RA at h
   exact⟨_,_,h,rfl,λhon=>a5i ho (bV hσ hon hv) (bV hσ hon hw)⟩
  .cases h
 .rename_i x y z ha
  cases a9k ha;obtain⟨v,hv,h1⟩:=bL h;clear h;obtain⟨w,hw,h2⟩:=bL h1;clear h1;obtain⟨u,hu,h3⟩:=bL h2;clear h2;split at h3
  .unfold RA at h3
   exact⟨_,_,h3,rfl,λhon=>a5j ho (bV hσ hon hv) (bV hσ hon hw) (bV hσ hon hu)⟩
  .cases h3
 .rename_i x y ha
  cases zE ha;obtain⟨v,hv,h⟩:=bL h;obtain⟨w,hw,h⟩:=bL h;split at h
  .unfold aLG at h
   exact⟨_,_,h,rfl,λhon=>a5h ho (bV hσ hon hv) (bV hσ hon hw)⟩
  .cases h
 .cases h
theorem a4L(hG:pZ c.P c.G):Rn c:=by
 intro σ κ fr st o k r hσ h;obtain⟨op,hop⟩:∃op,o.op=op:=⟨_,rfl⟩
 cases op with
 |move x=>
   unfold eM at h;rw[hop]at h;obtain⟨v,hv,h⟩:=bL h;exact⟨_,_,h,yV hv,λhon=>a5e hop (bV hσ hon hv)⟩
 |assign x=>
   unfold eM at h;rw[hop]at h;obtain⟨v,hv,h⟩:=bL h;exact⟨_,_,h,yV hv,λhon=>a6O hop (bV hσ hon hv)⟩
 |pick b x y=>
   unfold eM at h;rw[hop]at h;exact a7i hσ hop h
 |alloc e=>
   unfold eM at h;rw[hop]at h;obtain⟨z,hz,h⟩:=bL h;exact a8L hop hz h
 |box e x=>
   unfold eM at h;rw[hop]at h;obtain⟨v,hv,h⟩:=bL h;split at h
   .rename_i hval
    exact a8G hσ hop hv hval h
   .cases h
 |build t ps=>
   unfold eM at h;rw[hop]at h;obtain⟨z,hz,h⟩:=bL h;obtain⟨pl,hp,h⟩:=bL h;exact a8F hσ hop hz hp h
 |buildSlice t n ps=>
   unfold eM at h;rw[hop]at h;obtain⟨⟨e,τ,b⟩,hE,h⟩:=bL h;simp only at h;split at h
   .rename_i q e' τ' l hnp
    split at h
    .rename_i hτ _
     split at h
     .exact a7r hσ hop hE hnp hτ.down h
     .cases h
    .cases h
   split at h
   .rename_i q e' κ' l ys hnp
    exact a7q hσ hop hE hnp h
   split at h
   .rename_i hle
    exact a7s hσ hop hE (fN hle) h
   .cases h
 |makeMap t m=>
   unfold eM at h;rw[hop]at h;cases m with
   |none=>
     simp only at h;split at h
     .split at h
      .exact a7n hop h
      .cases h
     .cases h
   |some _=>cases h
 |insert t m x y=>
   unfold eM at h;rw[hop]at h;simp only at h;split at h
   .rename_i kt et hu
    obtain⟨a,ha,h⟩:=bL h;obtain⟨b,hb,h⟩:=bL h;obtain⟨v,hv,h⟩:=bL h;exact a7u hσ hop hu ha hb hv h
   .cases h
 |range t x=>
   unfold eM at h;rw[hop]at h;simp only at h;split at h
   .rename_i hu
    obtain⟨v,hv,h⟩:=bL h;split at h
    .exact a7h hσ hop hu hv h
    .cases h
   .cases h
 |next i b=>
   unfold eM at h;rw[hop]at h;cases b with
   |true=>
     simp only at h;obtain⟨v,hv,h⟩:=bL h;split at h
     .split at h
      .rename_i hq
       exact a7m hσ hop hv hq h
      .cases h
     .cases h
   |false=>cases h
 |lookup t m x cm=>
   unfold eM at h;rw[hop]at h;simp only at h;split at h
   .rename_i kt et hu
    obtain⟨a,ha,h⟩:=bL h;obtain⟨b,hb,h⟩:=bL h;obtain⟨z,hz,h⟩:=bL h;exact a7p hσ hop hu ha hb hz h
   .cases h
 |load t a=>
   unfold eM at h;rw[hop]at h;obtain⟨v,hv,h⟩:=bL h;cases st with
   |true=>
     obtain⟨y,h,_,hok⟩:=a6o (fr:=fr) (o:=o) h;obtain⟨hp,h⟩:=Yp h;exact⟨_,_,h,hp,λhon=>hok hop (bV hσ hon hv)⟩
   |false=>
     obtain⟨y,h,hp,hok⟩:=a6p (fr:=fr) (o:=o) h;exact⟨_,_,h,hp,λhon=>hok hon hop (bV hσ hon hv)⟩
 |store t a y=>
   unfold eM at h;rw[hop]at h;obtain⟨v,hv,h⟩:=bL h;obtain⟨w,hw,h⟩:=bL h;split at h
   .rename_i hval
    cases st with
    |true=>
      obtain⟨W,h,hok⟩:=a4J (fr:=fr) (o:=o) h;refine⟨_,_,h,rfl,λhon=>?_⟩;unfold X.D;exact hok hop (bV hσ hon hv) (bV hσ hon hw) hval
    |false=>
      obtain⟨W,h,hok⟩:=a4K (fr:=fr) (o:=o) h;refine⟨_,_,h,rfl,λhon=>?_⟩;unfold X.D;exact hok hop (bV hσ hon hv) (bV hσ hon hw) hval
   .cases h
 |nilCheck x=>
   unfold eM at h;rw[hop]at h;exact a7l hσ hop h
 |binOp op xt x y yt=>
   unfold eM at h;rw[hop]at h;obtain⟨v,hv,h⟩:=bL h;obtain⟨w,hw,h⟩:=bL h;split at h
   .rename_i b hn
    exact a7k hσ hop hv hw hn h
   split at h
   .rename_i b hn
    exact a7x hσ hop hv hw hn h
   .obtain⟨z,h,hp,hok⟩:=a9V (fr:=fr) (o:=o) (σ:=σ.den) h
    exact⟨_,_,h,hp,λhon=>hok hon.g hop (bV hσ hon hv) (bV hσ hon hw)⟩
 |unOp op t x=>
   unfold eM at h;rw[hop]at h;simp only at h;obtain⟨v,hv,h'⟩:=bL h;clear h;split at h'
   .unfold aKw at h'
    exact⟨_,_,h',rfl,λhon=>a56 hop (bV hσ hon hv)⟩
   .unfold aLC at h'
    exact⟨_,_,h',rfl,λhon=>a5b hop (bV hσ hon hv)⟩
   .cases h'
 |convert s d x=>
   unfold eM at h;rw[hop]at h;exact a8A hσ hop h
 |makeInterface t x=>
   unfold eM at h;rw[hop]at h;obtain⟨v,hv,h⟩:=bL h;split at h
   .rename_i ik n hu
    exact⟨_,_,h,rfl,λhon=>a5g hop hu (bV hσ hon hv)⟩
   .cases h
 |makeFunc g first caps=>
   unfold eM at h;rw[hop]at h;cases g with
   |func f=>
     simp only at h;split at h
     .rename_i hf
      exact a7v hσ hop hf h
     .cases h
   |_=>cases h
 |makeSlice t n m=>
   unfold eM at h;rw[hop]at h;simp only at h;split at h
   .rename_i he
    obtain⟨v,hv,h⟩:=bL h;split at h
    .obtain⟨⟨e,τ,b⟩,hE,h⟩:=bL h
     exact a7o hσ hop he hv hE h
    .cases h
   .cases h
 |slice t x lo hi mx=>
   unfold eM at h;rw[hop]at h;cases mx with
   |none=>
     obtain⟨v,hv,h⟩:=bL h;split at h
     .exact a7j hσ hop hv h
     .exact a7f hσ hop hv h
     .split at h
      .rename_i hq
       cases st with
       |true=>exact a7e hσ hop hv hq h
       |false=>
         cases lo with
         |none=>exact a7y hσ hop hv h
         |some x=>
           obtain⟨w,_,h⟩:=bL h;obtain⟨_,n,_,h⟩:=Jq h;obtain⟨_,h,_⟩:=yD hσ h;cases h
      .exact aL6 hσ hop hv h
     .exact aL6 hσ hop hv h
   |some _=>cases h
 |fieldAddr s x f=>
   unfold eM at h;rw[hop]at h;obtain⟨v,hv,h⟩:=bL h;obtain⟨y,h,hp,hok⟩:=a8V (fr:=fr) (o:=o) (σ:=σ) h;exact⟨_,_,h,hp,λhon=>hok hop (bV hσ hon hv)⟩
 |field s x f=>
   unfold eM at h;rw[hop]at h;obtain⟨v,hv,h⟩:=bL h;obtain⟨y,h,hok⟩:=a8U (fr:=fr) (o:=o) (σ:=σ) h;obtain⟨hp,h⟩:=Yp h;exact⟨_,_,h,hp,λhon=>hok hop (bV hσ hon hv)⟩
 |indexAddr t x n=>
   unfold eM at h;rw[hop]at h;obtain⟨v,hv,h⟩:=bL h;obtain⟨w,hw,h⟩:=bL h;cases st with
   |true=>
     obtain⟨y,h,hp,hok⟩:=a74 (fr:=fr) (o:=o) h;exact⟨_,_,h,hp,λhon=>hok hon hop (bV hσ hon hv) (bV hσ hon hw)⟩
   |false=>
     obtain⟨y,h,hp,hok⟩:=a73 (fr:=fr) (o:=o) h;exact⟨_,_,h,hp,λhon=>hok hon hop (bV hσ hon hv) (bV hσ hon hw)⟩
 |index t x n=>
   unfold eM at h;rw[hop]at h;obtain⟨v,hv,h⟩:=bL h;obtain⟨w,hw,h⟩:=bL h;obtain⟨y,h,hp,hok⟩:=a71 (fr:=fr) (o:=o) h;exact⟨_,_,h,hp,λhon=>hok hon hop (bV hσ hon hv) (bV hσ hon hw)⟩
 |extract x n=>
   unfold eM at h;rw[hop]at h;exact a7w hσ hop h
 |call cl=>
   obtain⟨cal,args,tys⟩:=cl;cases cal with
   |builtin b=>
     refine a8E hσ (st:=st) hop ?_;unfold eM at h ⊢;rw[hop]at h;exact h
   |value f=>
     unfold eM at h;rw[hop]at h;obtain⟨v,hv,h⟩:=bL h;split at h
     .exact a8C hG hσ hop hv h
     .cases h
   |_=>unfold eM at h;rw[hop]at h;cases h
 |_=>unfold eM at h;rw[hop]at h;cases h
end
end Go.Ax
/- Panics. -/
namespace Go.Ax
open aA
open Go.RowKit Go.Ab
def vY(P:Program)(G:List (Nat×kT)):Prop:=∀f g,lk f G=some g->FJ P f=true/\kA P f g
theorem vY.nil{P:Program}:vY P []:=λf g h=>by cases h
theorem vY.cons{P:Program}{f:Nat}{g:kT}{G:List (Nat×kT)}(hn:FJ P f=true)(h:kA P f g)(k:vY P G):vY P ((f,g)::G):=λf' g' h'=>by
 unfold lk at h';split at h'
 .rename_i hb
  have hb:=cA hb;subst hb;cases h';exact⟨hn,h⟩
 .exact k f' g' h'
section
variable{c:Cx}{σ:Vw}{κ:Nat->Bool}{fr:Nat}{o:Oper}{k:X->Wx->O}{kp:Value->Wx->O}{r:aE}
theorem a9D{g:Option Bool}{b:Bool}{k:O}{r:aE}(hg:g=none)(h:b=true)(hk:k=some r):lF g b k=some r:=by
 subst hg h;exact hk
theorem aK5(hG:vY c.P c.Gp)(hσ:σ.Ok κ)(hgn:σ.g=none){fo:Operand}{args:Array Operand}{tys:Array TypeId}{f:FuncId}{caps asL ys:List X}{g:kT}{fn:Func}{code:Code}{els:O}(ho:o.op = .call { callee:=.value fo,args:=args,argTypes:=tys })(hfo:σ.ev fo=some (.fn f caps))(hl:asL.length=args.toList.length)
    (hev:∀(i:Nat)(x:X),asL[i]?=some x->∃p,args.toList[i]?=some p/\σ.ev p=some x) (hg:lk f c.Gp=some g) (hfn:c.P.funcs[f]?=some fn) (hb:fn.body=some code) (hD:eJ σ.den.H ((asL++caps).map X.D) (ys.map X.D)) (h:Rf σ fr g ys els k kp=some r):els=some r\/eL c σ fr o k r\/∃v W,kp v W=some r/\(σ.On->tA c.P o σ.den fr v (WA W)):=by
 have h0:=h;unfold Rf at h;obtain⟨rn,hrn⟩:∃rn,JX 50 (reach σ.H 40 (kL ys []) [])=rn:=⟨_,rfl⟩
 simp only[hrn]at h;split at h
 .exact .inl h
 rename_i hrb;have F:=aK0 hrb;split at h
 .exact .inl h
 rename_i zs hzs;split at h
 .exact .inl h
 rename_i H' hH';split at h
 case h_2=>exact .inl h
 rename_i pre bb rn0 pv H2 hres;split at h
 case h_2=>cases h
 rename_i hnd2;rw[bM]at hnd2;obtain⟨hnd1,hnd⟩:=hnd2;obtain⟨hpre,h⟩:=jL h;obtain⟨hname,hE⟩:=hG f g hg;have hcase:(bb=some true/\(ob (fS (j7 fr rn) rn0.1) λx=>ob (oJ (j7 fr rn) rn0.2) λW=>k x (W++gone rn0.2 rn))=some r)\/(bb≠some true/\(ob (oJ (j7 fr rn) H2) λW=>kp pv (W++gone H2 rn))=some r):=by
  unfold brO at h;split at h
  .rename_i b0
   rcases zB h with⟨hb1,h⟩|⟨hb1,h⟩
   .exact .inl ⟨by rw[hb1],h⟩
   .exact .inr ⟨by rw[hb1];simp,h⟩
  .exact .inr ⟨by simp,h⟩
 rcases hcase with⟨hb1,h⟩|⟨hb1,h⟩
 ·-- it comes back
  have hG':pZ c.P [(f,λxs H=>match g xs H with|some (pre,b,r,_)=>some (pre&&(b == some true),r)|none=>none)]:=pZ.cons hname (λxs H pre' r' he hp=>by
   split at he
   .rename_i p b r0 rp hq
    have he:=fV he;have e1:=bE zH he;have e2:=bE s7 he;simp only at e1 e2;rw[hp,bM]at e1;rw[<-e2];exact(hE xs H _ _ _ _ hq e1.1).1 (eq_of_beq e1.2)
   .cases he) pZ.nil
  refine .inr ?_;rcases Zi (c:=⟨c.P,c.ex,_,[]⟩) (k:=k) (els:=none) hG' hσ ho hfo hl hev (by unfold lk;rw[aMn]) hfn hb hD (by
   unfold Jk;simp only[hrn];rw[hrb];simp only[hzs,hH',hres,hnd1];obtain⟨x,hx,h6⟩:=bL h;obtain⟨W,hW,h7⟩:=bL h6;rw[hx];show ob (oJ (j7 fr rn) rn0.2) _=some r;rw[hW];exact a9D (by rw[hgn];rfl) (by rw[hpre,hb1];rfl) h7)with h8|h8
  .cases h8
  .exact .inl h8
 obtain ⟨W,hW,h8⟩:=bL h;refine .inr (.inr ⟨pv,_,h8,fun hon=>?_⟩);have hname' : fn.name ≠ "runtime.NumGoroutine" := by
  unfold FJ at hname;rw[hfn]at hname;simpa using hname
 have hDoes:=(hE zs H' _ _ _ _ hres hpre).2 hb1 pv rfl;have hf1:∀k k',old rn k=some k'->decide (k'<100)=true/\k=bP rn k':=λk k' hk=>by
  obtain⟨_,b,_,d⟩:=F.iQ _ _ (FG hk);exact⟨aQ b,(Eu d).symm⟩
 have hf2:∀k k',j7 fr rn k=some k'->hJ fr (rn.map pF) k'=true/\k=back fr (rn.map pF) k':=λk k' hk=>by
  unfold j7 at hk;split at hk
  .rename_i hle
   have hle:=fN hle;split at hk
   .rename_i hlt
    have hlt:k<108:=fN hlt;cases hk;refine⟨?_,?_⟩
    .unfold hJ
     rw[nD,bM];exact .inl ⟨aQ (by omega),aQ (by omega)⟩
    .unfold back
     rw[aJ ⟨by omega,by omega⟩];omega
   .cases hk
  .have hm:=mT hk
   obtain⟨_,_,c3,_⟩:=F.iQ _ _ hm;have hlook:=Q9 F hm;refine⟨?_,?_⟩
   .unfold hJ
    rw[nD,hlook];exact .inr rfl
   .unfold back
    rw[aD c3];unfold bP;rw[hlook]
 have hkeys:(HA H').map (·.1)=rn.map (·.1):=by
  rw[<-Yi hH'];unfold HA;rw[zL];rfl
 have hkey:∀{p:Nat×aZ},p∈HA H'->∃q,(p.1,q)∈rn:=λ{p} hp=>by
  have:p.1∈rn.map (·.1):=hkeys ▸ fG.2 ⟨p,hp,rfl⟩;obtain⟨⟨a,b⟩,hm,e⟩:=fG.1 this;simp only at e;subst e;exact⟨b,hm⟩
 have hkey':∀{new q:Nat},(new,q)∈rn->∃p∈HA H',p.1=new:=λ{new q} hm=>by
  have:new∈(HA H').map (·.1):=hkeys ▸ fG.2 ⟨_,hm,rfl⟩;obtain⟨p,hp,e⟩:=fG.1 this;exact⟨p,hp,e⟩
 have hrnm:∀{new q:Nat},(new,q)∈rn->bP rn new=q:=λhm=>Eu (F.iQ _ _ hm).2.2.2
 refine a6L (ds:=zs.map X.D) (H:=HA H') (H'':=HA H2) rn (rn.map pF) ?_ hDoes (aAb hf1 (λp hp=>hrnm hp) hH') ?_ ?_ ?_
 .intro E σ₁ ν G w a hT hHH I
  have hfv:=I.ev (St.fH hT (bV hσ hon hfo));obtain⟨v,hv⟩:∃v,a.eval fo=v:=⟨_,rfl⟩
  rw[hv]at hfv;unfold X.D at hfv;cases hfv with
  | @fn _ vs _ hvl hvd=>
    have hL:=(x9 hf1 ys zs hzs (H:=σ.den.H)).get;rw[fO,fO]at hL;have hlen:args.toList.length+caps.length=zs.length:=by
     have e1:=hD.len;have e2:=hL.1;simp only[dR,dK]at e1 e2;omega
    have hvl':vs.size=caps.length:=by rw[hvl,fO,dR]
    refine⟨args.toList.map a.eval++vs.toList,?_,?_,λt d' ht=>?_⟩
    .unfold execOp
     rw[ho];have:(args.toList.map a.eval++vs.toList).toArray=args.map a.eval++vs:=by
      apply v8;simp
     rw[this];simp only[resolve,hv,Deferred.ofValue,invoke,Sem.run_bind,Sem.run_pure,Result.andThen_ok,bAb];exact aKO hfn hname' (by rw[hb];exact λe=>by cases e) _ w
    .simp only[dK,dR,p7]at hlen ⊢
     omega
    .have htl:t<zs.length:=by have:=(dC.1 ht).1;simpa using this
     obtain⟨dy,hdy⟩:∃dy,(ys.map X.D)[t]?=some dy:=⟨_,dE (by rw[hL.1,dR];exact htl)⟩
     obtain⟨d0,hd0,hwk⟩:=hD.get t dy hdy;have hle:=hL.2 t dy d' hdy ht;rw[dT]at hd0;obtain⟨x0,hx0,rfl⟩:=cV.1 hd0;have hval:∃u,(args.toList.map a.eval++vs.toList)[t]?=some u/\DR ν σ₁.nm w G u x0.D:=by
      by_cases hlt:t<args.toList.length
      .rw[gK (by omega)]at hx0
       obtain⟨p,hp,hpv⟩:=hev t x0 hx0;refine⟨a.eval p,?_,I.ev (St.fH hT (bV hσ hon hpv))⟩;rw[gK (by rw[dR];exact hlt),dT,hp];rfl
      .rw[dW (by omega),hl]at hx0
       have hi:t-args.toList.length<vs.size:=by rw[hvl'];exact(dC.1 hx0).1
       refine⟨vs[t-args.toList.length],?_,hvd _ _ _ (p8 hi) (by rw[fO,dT,hx0];rfl)⟩;rw[dW (by rw[dR];omega),dR,Fl,p8 hi]
     obtain⟨u,hu,hdr⟩:=hval;exact⟨u,dy,hu,hwk E σ₁ ν G w a.tmps hHH I u hdr,hle⟩
 .have hlk:∀p∈H2,Ab.look p.1 (HA H2)=some p.2.A:=λp hp=>by
   rw[vE,ZD hnd p hp];rfl
  have:=aAa hf2 (Rj (H2:=HA H2) (nm':=hJ fr (rn.map pF)) (ρ:=back fr (rn.map pF)) (H':=H2) rn) hlk hW;unfold WA at this ⊢;rw[rG];exact this
 .unfold F7
  rw[bM];refine⟨eI.2 λp hp=>?_,eI.2 λp hp=>?_⟩
  .obtain⟨q,hm⟩:=hkey hp
   rw[hrnm hm];have hq:∃x,(q,x)∈W++gone H2 rn:=by
    cases hlk:lk p.1 H2 with
    |none=>exact⟨none,bAN _ (RL hm hlk)⟩
    |some o=>
      obtain⟨_,b,_,d⟩:=F.iQ _ _ hm;have hbk:j7 fr rn p.1=some q:=by
       unfold j7;rw[show kQ 100 p.1=false by
        cases hble:kQ 100 p.1 with
        |false=>rfl
        |true=>have:=fN hble;omega]
       exact d
      obtain⟨x,hx⟩:=aAV hbk hW hlk;exact⟨x,bAO _ hx⟩
   obtain⟨x,hx⟩:=hq;obtain⟨y,hy⟩:=FN (l:=WA (W++gone H2 rn)) (k:=q) (fG.2 ⟨(q,x.map XO.A),fG.2 ⟨_,hx,rfl⟩,rfl⟩);rw[hy];rfl
  .obtain⟨⟨q,x⟩,hm,rfl⟩:=fG.1 hp
   rw[nD];have hin:(∃new,(new,q)∈rn)->(HA H').any (λz=>bP rn z.1 == q)=true:=λ⟨new,hn⟩=>by
    obtain⟨p,hp,e⟩:=hkey' hn;exact rJ.2 ⟨p,hp,by rw[e,hrnm hn];exact CO _⟩
   rcases lV.1 hm with hm|hm
   .obtain⟨k0,hk0⟩:=aAW hW hm
    unfold j7 at hk0;split at hk0
    .rename_i hle
     have hle:=fN hle;split at hk0
     .rename_i hlt
      have hlt:k0<108:=fN hlt;cases hk0;left;rw[bM];exact⟨aQ (aMm ..),aQ (by simp only;omega)⟩
     .cases hk0
    .exact .inr (hin ⟨k0,mT hk0⟩)
   .exact .inr (hin (RM hm))
 .unfold sU
  simp only[bM];refine⟨⟨⟨eI.2 λp hp=>?_,aQ ?_⟩,eI.2 λp hp=>?_⟩,eI.2 λp hp=>?_⟩
  .obtain⟨q,hm⟩:=hkey hp
   obtain⟨a,b,_,_⟩:=F.iQ _ _ hm;rw[bM];exact⟨aQ a,aQ b⟩
  .have:(HA H').map (λp=>bP rn p.1)=rn.map (·.2):=by
    have e:(HA H').map (λp=>bP rn p.1)=((HA H').map (·.1)).map (bP rn):=by rw[zL];rfl
    rw[e,hkeys,zL];exact bAR λp hp=>hrnm hp
   rw[this];exact F.nd
  .obtain⟨q,hm⟩:=hkey hp
   rw[hrnm hm,Q9 F hm];exact CO _
  .obtain⟨⟨new,q⟩,hm,rfl⟩:=fG.1 hp
   obtain⟨p,hp',e⟩:=hkey' hm;refine rJ.2 ⟨p,hp',?_⟩;rw[bM,e,hrnm hm];exact⟨CO _,CO _⟩
theorem a5I(hG:vY c.P c.Gp)(hσ:σ.Ok κ){fo:Operand}{args:Array Operand}{tys:Array TypeId}{f:FuncId}{caps:List X}{g:kT}(ho:o.op = .call { callee:=.value fo,args:=args,argTypes:=tys })(hfo:σ.ev fo=some (.fn f caps))(hg:lk f c.Gp=some g)(hgn:σ.g=none)(h:σ.vK args.toList (λxs=>aAR c σ fr f g (xs++caps) k kp)=some r):eL c σ fr o k r\/∃v W,kp v W=some r/\(σ.On->tA c.P o σ.den fr v (WA W)):=by
 obtain⟨asL,h1,hl,hev⟩:=RR h;clear h;unfold aAR at h1;obtain⟨fn,hfn,h3⟩:=bL h1;clear h1;split at h3
 .cases h3
 rename_i code hb;rcases aK5 hG hσ hgn ho hfo hl hev hg hfn hb (Re c σ _ _) h3 with h|h
 .rcases aK5 hG hσ hgn ho hfo hl hev hg hfn hb eJ.refl h with h|h
  .cases h
  .exact h
 .exact h
theorem a5J(hG:vY c.P c.Gp):Rt c:=λσ κ fr o k kp els r hσ hgn h=>by
 unfold Qg at h;split at h
 .rename_i x ho
  obtain⟨v,hv,h⟩:=bL h;split at h
  case h_2=>cases h
  rename_i t w;refine .inr (.inr ⟨_,_,h,λhon=>?_⟩);intro E σ₁ a wd hT hH h100 hf hR;obtain⟨ν,G,I⟩:=id hR;have hd:=I.ev (St.fH hT (bV hσ hon hv));have he:a.eval x = .iface t w:=cL hd;unfold Oper.wp execOp;rw[ho];have:(Instr.panic (a.eval x)).run c.P wd = .halt (.panic (.iface t w)) wd:=by rw[he];rfl
  simp only[this,Sem.run_bind,Result.andThen];exact⟨rfl,rfl,ν,G,I.put (dst:=none) (v:=undef) (d:=.any) .any (λ_ h=>by cases h) fr a rfl⟩
 .rename_i f args tys ho
  split at h
  .rename_i g caps hf
   split at h
   .rename_i gp hg
    exact .inr (a5I hG hσ ho hf hg hgn h)
   .exact .inl h
  .exact .inl h
 .exact .inl h
end
end Go.Ax
/- What a printed text needs. -/
namespace Go.Ax
open aA
open Go.RowKit Go.Ab
theorem bY{c:Cx}(hm:c.P.follows .mixedOrders=true)(hG:pZ c.P c.G)(hGp:vY c.P c.Gp):aF c:=⟨hm,a4L hG,a5J hGp⟩
def Fh(c:Cx)(M:Nat)(h:Hint)(code:Code):Prop:=match h with
 |.sub _ _ _ _ I1 I2 I3 L=>cN c M code I1 I2 I3 L
 |.d=>True
 |.gI ..=>True
 |.seq x y=>match code with
   |.seq a b=>Fh c M x a/\Fh c M y b
   |_=>False
 |.cond x y=>match code with
   |.cond _ a b=>Fh c M x a/\Fh c M y b
   |_=>False
 |.block x=>match code with
   |.block _ a=>Fh c M x a
   |_=>False
theorem bO{c:Cx}{M:Nat}:∀(h:Hint)(code:Code),Fh c M h code->bJ c M h code
 |.sub ..,code,h=>by
   unfold bJ;cases code <;> exact h
 |.d,code,_=>cO code
 |.gI a b d,code,_=>by
   cases code with
   |seq a b=>exact⟨cO a,cO b⟩
   |cond x a b=>exact⟨cO a,cO b⟩
   |block i a=>exact cO a
   |_=>exact trivial
 |.seq x y,code,h=>by
   cases code with
   |seq a b=>exact⟨bO x a h.1,bO y b h.2⟩
   |_=>exact h.elim
 |.cond x y,code,h=>by
   cases code with
   |cond z a b=>exact⟨bO x a h.1,bO y b h.2⟩
   |_=>exact h.elim
 |.block x,code,h=>by
   cases code with
   |block i a=>exact bO x a h
   |_=>exact h.elim
def cK:List Nat->Code->Code
 |[],c=>c
 |0::l,.seq a _=>cK l a
 |1::l,.seq _ b=>cK l b
 |0::l,.cond _ a _=>cK l a
 |1::l,.cond _ _ b=>cK l b
 |0::l,.block _ a=>cK l a
 |0::l,.loop a=>cK l a
 |_,c=>c
theorem cR.wk{P:Program}{f:FuncId}{ds ds':List D}{H:List (Nat×aZ)}{r:D}{H':List (Nat×aZ)}(h:cR P f ds' H r H')(hw:eJ (λk=>Ab.look k H) ds ds'):cR P f ds H r H':=λE w vs h1 h2 h3 ⟨ν,G,I⟩=>by
 refine h E w vs h1 h2 (h3.trans hw.len) ⟨ν,G,{ I with T:=λt d' ht=>?_ }⟩;obtain⟨d,hd,hwk⟩:=hw.get t d' ht;obtain⟨v,hv,hr⟩:=I.T t d hd;exact⟨v,hv,hwk E _ ν G w vs (λ_ _ h=>h) I v hr⟩
theorem eJ.two{H:Nat->Option aZ}{a b a' b':D}(h:cG H a a')(k:cG H b b'):eJ H [a,b] [a',b']:=.cons h (.cons k .nil)
theorem aM.e0{P:Program}{f:FuncId}{g:Bool×aE}(h:g.1=true->cR P f [] [] g.2.1.D (HA g.2.2)):aM P f (E0 g):=λxs H pre r he hp=>by
 unfold E0 at he;split at he
 .cases he;exact h hp
 .cases he
theorem aM.e1{P:Program}{f:FuncId}{a:Ty}{g:a.V->Bool×aE}(h:∀x,(g x).1=true->cR P f [(iO a x).D] [] (g x).2.1.D (HA (g x).2.2)):aM P f (E1 a g):=λxs H pre r he hp=>by
 unfold E1 at he;split at he
 .split at he
  .rename_i y hy
   have he:=fV he;have h1:=bE zH he;have h2:=bE s7 he;simp only at h1 h2;rw[<-h2];exact cR.wk (h y (h1.trans hp)) (.cons (lQ hy) .nil)
  .cases he
 .cases he
theorem aM.e2{P:Program}{f:FuncId}{a b:Ty}{g:a.V->b.V->Bool×aE}(h:∀x y,(g x y).1=true->cR P f [(iO a x).D,(iO b y).D] [] (g x y).2.1.D (HA (g x y).2.2)):aM P f (E2 a b g):=λxs H pre r he hp=>by
 unfold E2 at he;split at he
 .split at he
  .rename_i y hy
   split at he
   .rename_i z hz
    have he:=fV he;have h1:=bE zH he;have h2:=bE s7 he;simp only at h1 h2;rw[<-h2];exact cR.wk (h y z (h1.trans hp)) (.cons (lQ hy) (.cons (lQ hz) .nil))
   .cases he
  .cases he
 .cases he
theorem aM.e3{P:Program}{f:FuncId}{a b d:Ty}{g:a.V->b.V->d.V->Bool×aE}(h:∀x y z,(g x y z).1=true->cR P f [(iO a x).D,(iO b y).D,(iO d z).D] [] (g x y z).2.1.D (HA (g x y z).2.2)):aM P f (E3 a b d g):=λxs H pre r he hp=>by
 unfold E3 at he;split at he
 .split at he
  .rename_i y hy
   split at he
   .rename_i z hz
    split at he
    .rename_i u hu
     have he:=fV he;have h1:=bE zH he;have h2:=bE s7 he;simp only at h1 h2;rw[<-h2];exact cR.wk (h y z u (h1.trans hp)) (.cons (lQ hy) (.cons (lQ hz) (.cons (lQ hu) .nil)))
    .cases he
   .cases he
  .cases he
 .cases he
theorem aM.e4{P:Program}{f:FuncId}{a b d e:Ty}{g:a.V->b.V->d.V->e.V->Bool×aE}(h:∀x y z u,(g x y z u).1=true->cR P f [(iO a x).D,(iO b y).D,(iO d z).D,(iO e u).D] [] (g x y z u).2.1.D (HA (g x y z u).2.2)):aM P f (E4 a b d e g):=λxs H pre r he hp=>by
 unfold E4 at he;split at he
 .split at he
  .rename_i y hy
   split at he
   .rename_i z hz
    split at he
    .rename_i u hu
     split at he
     .rename_i v hv
      have he:=fV he;have h1:=bE zH he;have h2:=bE s7 he;simp only at h1 h2;rw[<-h2];exact cR.wk (h y z u v (h1.trans hp)) (.cons (lQ hy) (.cons (lQ hz) (.cons (lQ hu) (.cons (lQ hv) .nil))))
     .cases he
    .cases he
   .cases he
  .cases he
 .cases he
def CG(a b:Nat):Bool:=!(bR a b)
theorem FW{a b:Nat}(h:CG a b=true):a≠b:=λe=>by
 subst e;simp[CG]at h
theorem aH{τ:Ty}{x:X}{y:τ.V}(h:ue τ x=some y):x = .e τ y:=by
 unfold ue at h;split at h
 .rename_i τ' z
  generalize iI τ' τ=p at h;cases p with
  |none=>cases h
  |some q=>obtain⟨q⟩:=q;subst q;cases h;rfl
 .cases h
theorem jF{e:TypeId}{τ:Ty}{st:Bool}{x:XO}{l:List τ.V}(h:ur e τ st x=some l):x = .row e τ l st:=by
 unfold ur at h;split at h
 .rename_i e' τ' z st'
  split at h
  .rename_i hb
   rw[bM]at hb;have h1:=cA hb.1;have h2:=eq_of_beq hb.2;subst h1 h2;generalize iI τ' τ=p at h;cases p with
   |none=>cases h
   |some q=>obtain⟨q⟩:=q;subst q;cases h;rfl
  .cases h
 .cases h
theorem aM.f1{P:Program}{f:FuncId}{a:Ty}{q:FuncId}{g:a.V->Bool×aE}(h:∀x,(g x).1=true->cR P f [(iO a x).D,(X.fn q []).D] [] (g x).2.1.D (HA (g x).2.2)):aM P f (Ef1 a q g):=λxs H pre r he hp=>by
 unfold Ef1 at he;split at he
 .split at he
  .rename_i hb
   have hb:=cA hb;subst hb;split at he
   .rename_i y hy
    have he:=fV he;have h1:=bE zH he;have h2:=bE s7 he;simp only at h1 h2;rw[<-h2];exact cR.wk (h y (h1.trans hp)) (.cons (lQ hy) (.cons cG.refl .nil))
   .cases he
  .cases he
 .cases he
theorem aM.f2{P:Program}{f:FuncId}{a b:Ty}{q:FuncId}{g:a.V->b.V->Bool×aE}(h:∀x y,(g x y).1=true->cR P f [(iO a x).D,(iO b y).D,(X.fn q []).D] [] (g x y).2.1.D (HA (g x y).2.2)):aM P f (Ef2 a b q g):=λxs H pre r he hp=>by
 unfold Ef2 at he;split at he
 .split at he
  .rename_i hb
   have hb:=cA hb;subst hb;split at he
   .rename_i y hy
    split at he
    .rename_i z hz
     have he:=fV he;have h1:=bE zH he;have h2:=bE s7 he;simp only at h1 h2;rw[<-h2];exact cR.wk (h y z (h1.trans hp)) (.cons (lQ hy) (.cons (lQ hz) (.cons cG.refl .nil)))
    .cases he
   .cases he
  .cases he
 .cases he
theorem eO{P:Program}{f:FuncId}{δ:Type}{fQ:List X->XH->Option δ}{p:δ->Bool}{R:δ->aE}{az:δ->List X}{HH:δ->XH}(hio:∀{xs H d},fQ xs H=some d->xs=az d/\H=HH d)
    (h:∀d,p d=true->cR P f ((az d).map X.D) (HA (HH d)) (R d).1.D (HA (R d).2)):aM P f (fD fQ p R):=λxs H pre r he hp=>by
 unfold fD at he;split at he
 .rename_i d hd
  have he:=fV he;have h1:=bE zH he;have h2:=bE s7 he;simp only at h1 h2;obtain⟨e1,e2⟩:=hio hd;rw[e1,e2,<-h2];exact h d (h1.trans hp)
 .cases he
theorem vL{P:Program}{f:FuncId}{δ:Type}{fQ:List X->XH->Option δ}{p:δ->Bool}{b:δ->Option Bool}{R R':δ->aE}{az:δ->List X}{HH:δ->XH}(hio:∀{xs H d},fQ xs H=some d->xs=az d/\H=HH d)
    (h:∀d,p d=true->(b d=some true->cR P f ((az d).map X.D) (HA (HH d)) (R d).1.D (HA (R d).2))/\(b d≠some true->∀v,(R' d).1 = .dY v->zR P f ((az d).map X.D) (HA (HH d)) v (HA (R' d).2))):kA P f (vM fQ p b R R'):=λxs H pre b' r rp he hp=>by
 unfold vM at he;split at he
 .rename_i d hd
  have he:=fV he;have h1:=bE zH he;have h2:=bE (λq=>q.2.1) he;have h3:=bE (λq=>q.2.2.1) he;have h4:=bE (λq=>q.2.2.2) he;simp only at h1 h2 h3 h4;obtain⟨e1,e2⟩:=hio hd;rw[e1,e2,<-h2,<-h3,<-h4];exact h d (h1.trans hp)
 .cases he
theorem pM{P:Program}{f:FuncId}{ρ:Type}{zz:Option ρ}{R:ρ->aE}{d0:ρ}{ds:List D}{H:List (Nat×aZ)}(h1:∀y,zz=some y->cR P f ds H (R y).1.D (HA (R y).2))(h:zz.isSome=true):cR P f ds H (R (zz.getD d0)).1.D (HA (R (zz.getD d0)).2):=by
 cases zz with
 |none=>cases h
 |some y=>exact h1 y rfl
theorem JV{P:Program}{f:FuncId}{ρ ρ':Type}{zz:Option (ρ ⊕ ρ')}{R:ρ->aE}{R':ρ'->aE}{d0:ρ}{d0':ρ'}{ds:List D}{H:List (Nat×aZ)}(h1:∀y,zz=some (.inl y)->cR P f ds H (R y).1.D (HA (R y).2))
    (h2:∀y,zz=some (.inr y)->iL P f ds H (R' y)) (h:zz.isSome=true):
    (some (kM zz)=some true->cR P f ds H (R (aV d0 zz)).1.D (HA (R (aV d0 zz)).2))/\(some (kM zz)≠some true->∀v,(R' (dF d0' zz)).1 = .dY v->zR P f ds H v (HA (R' (dF d0' zz)).2)):=by
 cases zz with
 |none=>cases h
 |some s=>
   cases s with
   |inl y=>exact⟨λ_=>h1 y rfl,λhb=>absurd rfl hb⟩
   |inr y=>
     refine⟨(λhb=>by cases hb),λ_ v hv=>?_⟩;have h3:=h2 y rfl;unfold iL at h3;change(R' y).1 = .dY v at hv;rw[hv]at h3;exact h3
theorem a5K{P:Program}{f:FuncId}{ρ ρ':Type}{zz:Option (ρ ⊕ ρ')}{R0:aE}{R':ρ'->aE}{d0':ρ'}{ds:List D}{H:List (Nat×aZ)}(h1:∀y,zz≠some (.inl y))(h2:∀y,zz=some (.inr y)->iL P f ds H (R' y))(h:zz.isSome=true):
    (none=some true->cR P f ds H R0.1.D (HA R0.2))/\((none:Option Bool)≠some true->∀v,(R' (dF d0' zz)).1 = .dY v->zR P f ds H v (HA (R' (dF d0' zz)).2)):=by
 refine⟨(λhb=>by cases hb),λ_ v hv=>?_⟩;cases zz with
 |none=>cases h
 |some s=>
   cases s with
   |inl y=>exact absurd rfl (h1 y)
   |inr y=>
     have h3:=h2 y rfl;unfold iL at h3;change(R' y).1 = .dY v at hv;rw[hv]at h3;exact h3
theorem aM.or{P:Program}{f:FuncId}{g g':bK}(h:aM P f g)(k:aM P f g'):aM P f (Eor g g'):=λxs H pre r he hp=>by
 unfold Eor at he;split at he
 .rename_i r' hr
  cases he;exact h xs H pre r hr hp
 .exact k xs H pre r he hp
end Go.Ax
/- Contracts of library functions. -/
namespace Go.Ax
open aA
open Go.RowKit Go.Ab
theorem cR.RE{P:Program}{f:FuncId}{ds:List D}{d:D} (h:∀(w:World),Bq w->∀(G:cE)(ν:Nat->Value)(nm:Nat->Bool)(vs:Array Value),vs.size=ds.length->(∀(i:Nat)(d':D),ds[i]?=some d'->∃v,vs[i]?=some v/\DR ν nm w G v d')->
    Calls P f vs w λe w'=>∃v,e = .returned v/\cS w w'/\∃G',(∀b,b<w.heap.size->G' b=G b)/\∀ν nm,DR ν nm w' G' v d):cR P f ds [] d []:=by
 intro E w vs hE0 hm hsz ⟨ν,G,I⟩;refine(h w (hE0 ▸ E.x6 E.w0 (bZ _) λ_ _ _=>rfl) G ν _ vs hsz (λi d' hd=>I.T i d' hd)).mono ?_;rintro e w' ⟨v,rfl,hA,G',hG,hd⟩;have J:=I.iK hA hG;exact⟨v,rfl,ν,G',⟨J.kept.os,J.kept.tape,J.kept.output,J.kept.size,J.kept.block⟩,J.eR,J.gE,J.g0,rfl,λt d' ht=>by
  cases t with
  |zero=>cases ht;exact⟨v,rfl,hd _ _⟩
  |succ t=>exact absurd (show(none:Option D)=some _ from ht) (by simp),λk o hk=>absurd (show(none:Option aZ)=some _ from hk) (by simp),λk o k' o' hk=>absurd (show(none:Option aZ)=some _ from hk) (by simp)⟩
abbrev cB(P:Program)(f:FuncId)(xs:List X)(H:XH)(R:aE):Prop:=cR P f (xs.map X.D) (HA H) R.1.D (HA R.2)
theorem cY{α:Type}{z:Option α}{P:Program}{f:FuncId}{ds:List D}{H:List (Nat×aZ)}{R:α->aE}{R':aE}{v:α}(h:z.isSome=true)(fin:∀{d},z=some d->cR P f ds H (R d).1.D (HA (R d).2))(re:R'=R (z.getD v)):cR P f ds H R'.1.D (HA R'.2):=by
 obtain⟨d,hd⟩:=Option.isSome_iff_exists.1 h;rw[re,hd];exact fin hd
theorem cD{c:Cx}(hc:aF c){f:FuncId}{fn:Func}{code:Code}(hf:c.P.funcs[f]?=some fn)(hb:fn.body=some code){h:Hint}(hh:bJ c fn.ntmps h code){xs:List X}{H:XH}(hm:kQ xs.length fn.ntmps=true){ow:Bool}{α:Type}{w:O}{un:aE->Option α}{d:α}{R:aE}(uo:∀{r},un r=some d->r=R)
    (he:∀{r},w=some r->exec c fn.ntmps h code ⟨bU 0 xs,H,100⟩ (bX c fn ow)=some r) (hd:w.bind un=some d) {y:D} (cv:iL c.P f (xs.map X.D) (HA H) R=cR c.P f (xs.map X.D) (HA H) y (HA R.2):=by rfl):cR c.P f (xs.map X.D) (HA H) y (HA R.2):=by
 obtain⟨r,hr,hu⟩:=lH.1 hd;have:=yU (r:=r) hc hf hb hh (fN hm) (he hr);rw[uo hu]at this;exact cv.mp this
theorem eZ{Y:Type}(v:Exit->Sg->Y){X:Y->Exit×Sg}(e:Exit)(h:∀y,v (X y).1 (X y).2=y)(x:∀y,iJ (X y).1=iJ e)(n:(CG (iJ e) 7&&CG (iJ e) 9)=true):CS v (λ_ _=>()) (λ_ _=>()) X (aW 1) (aW 2) (iJ e) (iJ (.goto 1)) (iJ (.goto 2)):=
 ⟨h,λ_=>rfl,λ_=>rfl,x,λ_=>rfl,λ_=>rfl,FW (Fk.1 n).1,FW (Fk.1 n).2,FW rfl⟩
theorem iS{Y Y':Type}(v:Exit->Sg->Y)(v':Exit->Sg->Y'){X:Y->Exit×Sg}{X':Y'->Exit×Sg}(e e':Exit)(h:∀y,v (X y).1 (X y).2=y)(h':∀y,v' (X' y).1 (X' y).2=y)(x:∀y,iJ (X y).1=iJ e)(x':∀y,iJ (X' y).1=iJ e')(n:(CG (iJ e) (iJ e')&&(CG (iJ e) 9&&CG (iJ e') 9))=true):CS v v' (λ_ _=>()) X X' (aW 2) (iJ e) (iJ e') (iJ (.goto 2)):=
 ⟨h,h',λ_=>rfl,x,x',λ_=>rfl,FW (Fk.1 n).1,FW (Fk.1 (Fk.1 n).2).1,FW (Fk.1 (Fk.1 n).2).2⟩
end Go.Ax
/- What came in as an argument and reads as data is data of the run. -/
namespace Go.Ax
open Go.RowKit Go.Ab Go.WideShapes
def DR0(w:World)(G:cE)(v:Value)(d:D):Prop:=DR (λ_=>.nilFunc) (λ_=>false) w G v d
def mD(w:World)(b:Nat):Nat:=match w.heap[b]? with|some (.cells c _ _)=>c.size|_=>0
theorem a9M{w:World}{b i:Nat}{u:Value}(hc:w.cell? ⟨b,i,none⟩=some u):Cell w (mD w) b i u:=by
 refine⟨hc,?_⟩;unfold World.cell? at hc;unfold mD;split at hc
 .rename_i cs _ _ hh
  rw[hh];simp only[Option.isSome_none,Bool.false_eq_true,if_false]at hc ⊢;exact(Array.getElem?_eq_some_iff.1 hc).1
 .cases hc
theorem a4O{w:World}{a:Addr}{u:Value}(h:w.cell? a=some u):a=⟨a.block,a.off,none⟩:=by
 obtain⟨b,o,s⟩:=a;cases s with
 |none=>rfl
 |some s=>
   unfold World.cell? at h;split at h <;> simp at h
def Jl:Ty->Nat
 |.i .i64=>8
 |.i .u64=>8
 |.i _=>1
 |.u8=>1
 |.bo=>1
 |.tx=>16
 |.ex=>1
 |.sl _=>24
 |.pr a b=>Jl a+Jl b
def CF(P:Program)(q:Ty->TypeId->Bool):Ty->Nat->List Field->Bool
 |τ,o,[f]=>q τ f.type&&bR f.offset o&&bR (P.cellsOf f.type) τ.size
 |.pr a b,o,f::g::fs=>q a f.type&&bR f.offset o&&bR (P.cellsOf f.type) a.size&&CF P q b (o+a.size) (g::fs)
 |_,_,_=>false
def CQ(q:Ty->TypeId->Bool)(e:TypeId):Ty->Nat->Bool
 |τ,1=>q τ e
 |.pr a b,n+2=>q a e&&CQ q e b (n+1)
 |_,_=>false
def Bo(P:Program):Nat->Ty->TypeId->Bool
 |0,_,_=>false
 |n+1,τ,t=>match τ,P.underlying t with
   |.i k,some (.int k')=>decide (k'=k)
   |.u8,some (.int .u8)=>true
   |.bo,some .bool=>true
   |.tx,some .string=>true
   |.sl a,some (.slice e)=>Bo P n a e&&bR (P.cellsOf e) a.size&&kQ (Jl a) (P.bytesOf e)
   |.pr a b,some (.struct fs)=>bR (P.cellsOf t) (a.size+b.size)&&CF P (Bo P n) (.pr a b) 0 fs.toList
   |.pr a b,some (.array k e)=>bR (P.cellsOf t) (a.size+b.size)&&CQ (λτ e=>Bo P n τ e&&bR (P.cellsOf e) τ.size) e (.pr a b) k
   |_,_=>false
def rD:(τ:Ty)->τ.V->Prop
 |.i k,x=>(Lit.int k x).wf=true
 |.sl e,l=>∀y,List.Mem y (show List e.V from l)->rD e y
 |.pr a b,x=>rD a x.1/\rD b x.2
 |_,_=>True
def sY:(τ:Ty)->τ.V->Prop
 |.tx,s=>gW (α:=UInt8) s<=reachBytes
 |.sl e,l=>gW (α:=e.V) l*Jl e<=reachBytes/\∀y,List.Mem y (show List e.V from l)->sY e y
 |.pr a b,x=>sY a x.1/\sY b x.2
 |_,_=>True
def jV(w:World)(cs:List Value)(ts:List Tree):Prop:=cs.length=ts.length/\∀(i:Nat)(u:Value)(t:Tree),cs[i]?=some u->ts[i]?=some t->TR w (mD w) u t
theorem jV.one{w:World}{u:Value}{t:Tree}(h:TR w (mD w) u t):jV w [u] [t]:=⟨rfl,λi u' t' hu ht=>by
 cases i with
 |zero=>cases hu;cases ht;exact h
 |succ i=>cases hu⟩
theorem jV.app{w:World}{a b:List Value}{s t:List Tree}(h:jV w a s)(k:jV w b t):jV w (a++b) (s++t):=⟨by rw[dK,dK,h.1,k.1],λi u x hu hx=>by
 by_cases hi:i<a.length
 .rw[gK hi]at hu
  rw[gK (by rw[<-h.1];exact hi)]at hx;exact h.2 i u x hu hx
 .rw[dW (by omega)]at hu
  rw[dW (by have:=h.1;omega)]at hx;rw[h.1]at hu;exact k.2 _ u x hu hx⟩
theorem Z3{α:Type}{Q:Nat->α->Prop}:∀n:Nat,(∀i,i<n->∃v,Q i v)->∃l:List α,l.length=n/\∀(i:Nat)(v:α),l[i]?=some v->Q i v
 |0,_=>⟨[],rfl,λi v h=>by cases h⟩
 |n+1,h=>by
   obtain⟨l,hl,hQ⟩:=Z3 n λi hi=>h i (by omega)
   obtain⟨v,hv⟩:=h n (by omega);refine⟨l++[v],by simp[hl],λi u hu=>?_⟩;by_cases hi:i<n
   .rw[gK (by omega)]at hu
    exact hQ i u hu
   .have hlt:=(dC.1 hu).1
    have:i=n:=by simp[hl]at hlt;omega
    subst this;rw[dW (by omega),hl,Nat.sub_self]at hu;cases hu;exact hv
theorem flat_get{α:Type}{f:α->List Tree}{s:Nat}(h:∀x,(f x).length=s):∀(l:List α)(q r:Nat)(x:α),l[q]?=some x->r<s->(l.flatMap f)[q*s+r]?=(f x)[r]?
 |[],q,r,x,hx,_=>by cases hx
 |y::l,0,r,x,hx,hr=>by
   cases hx;rw[jX,Fc,fJ,gK (by rw[h];exact hr)]
 |y::l,q+1,r,x,hx,hr=>by
   rw[jX,dW (by rw[h,jW];omega),h,show(q+1)*s+r-s=q*s+r by rw[jW];omega];exact flat_get h l q r x hx hr
theorem aBK{H:Type}{P:Program}{e:TypeId}:∀{l:List (DataW H)}{d:DataW H}{m:Nat},d∈l->m∈d.weights P e->m∈DataW.weightsAll P e l
 |[],d,m,h,_=>by cases h
 |x::l,d,m,h,hm=>by
   simp only[DataW.weightsAll,lV];rcases eP.1 h with rfl|h
   .exact .inl hm
   .exact .inr (aBK h hm)
section
variable{H:Type}{enc:TypeId×Value->H}{P:Program}{w:World}{base:Nat}{spare:Nat->Bool}{held:Bool}
def aAj(enc:TypeId×Value->H)(P:Program)(w:World)(base:Nat)(spare:Nat->Bool)(held:Bool)(τ:Ty)(t:TypeId):Prop:=
 ∀(fuel:Nat)(cs:List Value)(x:DataW H×List MemPlace),DataW.trod enc P w base spare held fuel t cs=some x->
  ∃v:τ.V,rD τ v/\jV w cs (bH τ v)/\((∀m∈x.1.weights P t,m<=reachBytes)->sY τ v)
theorem aKa{q:Ty->TypeId->Bool}(hq:∀τ t,q τ t=true->aAj enc P w base spare held τ t)(n:Nat):∀(fs:List Field)(τ:Ty)(o:Nat)(cs:List Value)(xs:List (DataW H×List MemPlace)),CF P q τ o fs=true->cs.length=o+τ.size->xs.length=fs.length->
    (∀(i:Nat)(f:Field),fs[i]?=some f->DataW.trod enc P w base spare held n f.type ((cs.drop f.offset).take (P.cellsOf f.type))=xs[i]?)->
    ∃v:τ.V,rD τ v/\jV w (cs.drop o) (bH τ v)/\((∀m∈DataW.weightsEach P (fs.map (·.type)) (xs.map (·.1)),m<=reachBytes)->sY τ v)
 |[],τ,o,cs,xs,h,_,_,_=>by cases τ <;> simp[CF]at h
 |[f],τ,o,cs,xs,h,hl,hx,ht=>by
   have h':(q τ f.type&&bR f.offset o&&bR (P.cellsOf f.type) τ.size)=true:=by cases τ <;> simpa[CF]using h
   simp only[bM]at h';obtain⟨⟨h1,h2⟩,h3⟩:=h';have h2:=cA h2;have h3:=cA h3
   match xs,hx with
   |[x],_=>
     have g:=ht 0 f rfl;rw[h2,h3,Fe (by rw[Ff];omega)]at g;obtain⟨v,v1,v2,v3⟩:=hq τ f.type h1 n _ x g;refine⟨v,v1,v2,λhm=>v3 λm hm'=>hm m ?_⟩;simp[DataW.weightsEach,hm']
 |f::g::fs,τ,o,cs,xs,h,hl,hx,ht=>by
   cases τ with
   |pr a b=>
     simp only[CF,bM]at h;obtain⟨⟨⟨h1,h2⟩,h3⟩,h4⟩:=h;have h2:=cA h2;have h3:=cA h3
     match xs,hx with
     |x::xs,hx=>
       have e:=ht 0 f rfl;rw[h2,h3]at e;obtain⟨v,v1,v2,v3⟩:=hq a f.type h1 n _ x e;have hsz:(Ty.pr a b).size=a.size+b.size:=rfl;obtain⟨u,u1,u2,u3⟩:=aKa hq n (g::fs) b (o+a.size) cs xs h4 (by omega) (by simpa using hx) λi f' hf=>ht (i+1) f' hf
       refine⟨(v,u),⟨v1,u1⟩,?_,λhm=>⟨v3 λm hm'=>hm m ?_,u3 λm hm'=>hm m ?_⟩⟩
       .have hd:cs.drop o=(cs.drop o).take a.size++cs.drop (o+a.size):=by
         rw[<-bAV,SC]
        rw[hd];exact v2.app u2
       .simp only[iB,DataW.weightsEach,lV]
        exact .inl hm'
       .simp only[iB,DataW.weightsEach,lV]at hm' ⊢
        exact .inr hm'
   |_=>simp[CF]at h
theorem trod_array{t e:TypeId}{n fuel:Nat}{cs:List Value}{x:DataW H×List MemPlace}(ht:P.underlying t=some (.array n e))(h:DataW.trod enc P w base spare held fuel t cs=some x):
    ∃xs:List (DataW H×List MemPlace),x.1 = .agg (xs.map (·.1))/\cs.length=P.cellsOf t/\xs.length=n/\∃m,∀i,i<n->DataW.trod enc P w base spare held m e ((cs.drop (i*P.cellsOf e)).take (P.cellsOf e))=xs[i]?:=by
 cases fuel with
 |zero=>cases h
 |succ m=>
   unfold DataW.trod at h;rw[ht]at h;split at h <;> simp_all;obtain⟨hl,xs,hp,hd⟩:=h;refine⟨xs,by rw[<-hd],by simpa using Lib.mapM_length hp,m,λi hi=>?_⟩;obtain⟨u,hu,hfu⟩:=Lib.mapM_at hp i i (by rw[SD hi]);rw[hu];exact hfu
theorem aKb{q:Ty->TypeId->Bool}(hq:∀τ t,q τ t=true->aAj enc P w base spare held τ t/\P.cellsOf t=τ.size)(m:Nat)(e:TypeId):∀(n:Nat)(τ:Ty)(cs:List Value)(xs:List (DataW H×List MemPlace)),CQ q e τ n=true->cs.length=τ.size->xs.length=n->
    (∀i,i<n->DataW.trod enc P w base spare held m e ((cs.drop (i*P.cellsOf e)).take (P.cellsOf e))=xs[i]?)->
    ∃v:τ.V,rD τ v/\jV w cs (bH τ v)/\((∀m∈DataW.weightsAll P e (xs.map (·.1)),m<=reachBytes)->sY τ v)
 |0,τ,cs,xs,h,_,_,_=>by cases τ <;> simp[CQ]at h
 |1,τ,cs,xs,h,hl,hx,ht=>by
   have h':q τ e=true:=by cases τ <;> simpa[CQ]using h
   obtain⟨h1,h2⟩:=hq τ e h'
   match xs,hx with
   |[x],_=>
     have g:=ht 0 (by omega);rw[Fc,bAT,Fe (by omega)]at g;obtain⟨v,v1,v2,v3⟩:=h1 m _ x g;exact⟨v,v1,v2,λhm=>v3 λk hk=>hm k (by simp[DataW.weightsAll,hk])⟩
 |n+2,τ,cs,xs,h,hl,hx,ht=>by
   cases τ with
   |pr a b=>
     simp only[CQ,bM]at h;obtain⟨h1,h2⟩:=h;obtain⟨h3,h4⟩:=hq a e h1
     match xs,hx with
     |x::xs,hx=>
       have g:=ht 0 (by omega);rw[Fc,bAT,h4]at g;obtain⟨v,v1,v2,v3⟩:=h3 m _ x g;have hsz:(Ty.pr a b).size=a.size+b.size:=rfl;obtain⟨u,u1,u2,u3⟩:=aKb hq m e (n+1) b (cs.drop a.size) xs h2 (by rw[Ff];omega) (by simpa using hx) λi hi=>by
        have:=ht (i+1) (by omega);rw[bAV,h4];rw[h4,jW,Nat.one_mul,Nat.add_comm]at this;exact this
       refine⟨(v,u),⟨v1,u1⟩,?_,λhm=>⟨v3 λk hk=>hm k ?_,u3 λk hk=>hm k ?_⟩⟩
       .have:=v2.app u2
        rw[SC]at this;exact this
       .simp only[iB,DataW.weightsAll,lV]
        exact .inl hk
       .simp only[iB,DataW.weightsAll,lV]
        exact .inr hk
   |_=>simp[CQ]at h
theorem opens(n:Nat):∀(τ:Ty)(t:TypeId),Bo P n τ t=true->aAj enc P w base spare held τ t:=by
 induction n with
 |zero=>intro τ t h;cases h
 |succ n ih=>
   intro τ t h fuel cs x hx;unfold Bo at h;split at h
   .rename_i k k' hu
    have:=cU h;subst this;obtain⟨z,rfl,rfl,hw⟩:=DataW.trod_int hu hx;exact⟨z,hw,.one (.v _ rfl),λ_=>trivial⟩
   .rename_i hu
    obtain⟨z,rfl,rfl,hw⟩:=DataW.trod_int hu hx;have hb:0<=z/\z<256:=by
     simp[Lit.wf]at hw;have h1:IntKind.u8.min=0:=rfl;have h2:IntKind.u8.max=255:=rfl;omega
    refine⟨fF z.toNat,trivial,?_,λ_=>trivial⟩;have e:bH .u8 (fF z.toNat)=[.v (.int .u8 z)]:=by
     show[Tree.v (.int .u8 ((fF z.toNat).toNat:Int))]=_;rw[UInt8.toNat_ofNat',show((z.toNat%2^8:Nat):Int)=z by omega]
    rw[e];exact .one (.v _ rfl)
   .rename_i hu
    obtain⟨z,rfl,rfl⟩:=DataW.trod_bool hu hx;exact⟨z,trivial,.one (.v _ rfl),λ_=>trivial⟩
   .rename_i hu
    obtain⟨z,rfl,rfl,hs⟩:=DataW.trod_string hu hx;refine⟨z.data.toList,trivial,.one (.v _ rfl),λhm=>?_⟩;exact hm _ (by simp[DataW.weights])
   .rename_i a e hu
    simp only[bM]at h;obtain⟨⟨h1,h2⟩,h3⟩:=h;have h2:=cA h2;have h3:=fN h3;rcases DataW.trod_slice hu hx with⟨rfl,rfl⟩|⟨ad,len,cap,elems,rest,m,_,rfl,rfl,hb,hlc,hcap,hel,hE,_,_⟩
    .exact⟨[],(λy hy=>by cases hy),.one (.nil λ_=>rfl),λ_=>⟨by simp,λy hy=>by cases hy⟩⟩
    .have hs:=size_pos a
     rw[h2]at hE;have hk:∀i,i<len->∃v:a.V,rD a v/\(∃ci,w.cells? base (ad.add (i*a.size)) a.size=some ci/\jV w ci (bH a v))/\((∀y∈elems.map (·.1),∀m∈y.weights P e,m<=reachBytes)->sY a v):=by
      intro i hi;have g:=hE i hi;rw[dE (by omega)]at g;obtain⟨ci,hci,hti⟩:=lH.1 g;obtain⟨v,v1,v2,v3⟩:=ih a e h1 m ci _ hti;exact⟨v,v1,⟨ci,hci,v2⟩,λhm=>v3 λm' hm'=>hm _ (fG.2 ⟨_,List.getElem_mem _,rfl⟩) m' hm'⟩
     obtain⟨l,hl,hQ⟩:=Z3 (Q:=λi v=>rD a v/\(∃ci,w.cells? base (ad.add (i*a.size)) a.size=some ci/\jV w ci (bH a v))/\((∀y∈elems.map (·.1),∀m∈y.weights P e,m<=reachBytes)->sY a v)) len hk;have hmem:∀y∈l,∃i,l[i]?=some y:=λy hy=>jN.1 hy
     refine⟨l,λy hy=>?_,?_,λhm=>⟨?_,λy hy=>?_⟩⟩
     .obtain⟨i,hi⟩:=hmem y hy
      exact(hQ i y hi).1
     .show jV w _ [.sl (gW l) (iY (bH a) l)]
      rw[hl];by_cases h0:len=0
      .subst h0
       have:l=[]:=List.length_eq_zero_iff.1 hl;subst this;exact .one (.nil λhh=>by cases hh)
      ·-- each cell
       have cellAt:∀i y,l[i]?=some y->∀r,r<a.size->∃u t,w.cell? ⟨ad.block,ad.off+(i*a.size+r),none⟩=some u/\(bH a y)[r]?=some t/\TR w (mD w) u t/\ad.spot=none:=by
        intro i y hy r hr;have spot0:∀{j:Nat}{y':a.V},l[j]?=some y'->∃ci,w.cells? base (ad.add (j*a.size)) a.size=some ci/\jV w ci (bH a y'):=λhy'=>(hQ _ _ hy').2.1
        obtain⟨y0,hy0⟩:∃y0,l[0]?=some y0:=⟨_,dE (by omega)⟩
        obtain⟨c0,hc0,_⟩:=spot0 hy0;have hsp:ad.spot=none:=by
         unfold World.cells? at hc0;split at hc0
         .obtain⟨u,_,hu⟩:=Lib.mapM_at hc0 0 0 (by rw[SD hs])
          have:=a4O hu;simp[Addr.add]at this;have h5:=bE Addr.spot this;exact h5
         .cases hc0
        obtain⟨ci,hci,hrel⟩:=spot0 hy;unfold World.cells? at hci;split at hci
        .obtain⟨u,hu,hcu⟩:=Lib.mapM_at hci r r (by rw[SD hr])
         have hlen:=hrel.1;rw[eA]at hlen;obtain⟨t,ht⟩:∃t,(bH a y)[r]?=some t:=⟨_,dE (by rw[eA];exact hr)⟩
         refine⟨u,t,?_,ht,hrel.2 r u t hu ht,hsp⟩;have:(ad.add (i*a.size)).add r=⟨ad.block,ad.off+(i*a.size+r),none⟩:=by
          obtain⟨b,o,s⟩:=ad;simp only at hsp;subst hsp;unfold Addr.add;by_cases e1:i*a.size=0 <;> by_cases e2:r=0 <;> simp[e1,e2,Nat.add_assoc]
         rw[<-this];exact hcu
        .cases hci
       obtain⟨y0,hy0⟩:∃y0,l[0]?=some y0:=⟨_,dE (by omega)⟩
       obtain⟨_,_,_,_,_,hsp⟩:=cellAt 0 y0 hy0 0 hs;have hflat:(iY (bH a) l).length=len*a.size:=by rw[CI,hl]
       have all:∀j,j<len*a.size->∃u t,w.cell? ⟨ad.block,ad.off+j,none⟩=some u/\(iY (bH a) l)[j]?=some t/\TR w (mD w) u t:=by
        intro j hj;have hq:j / a.size<len:=Nat.div_lt_of_lt_mul (by rw[Nat.mul_comm];exact hj);have hr:=Nat.mod_lt j hs;have hj':j / a.size*a.size+j%a.size=j:=by rw[Nat.mul_comm];exact Nat.div_add_mod j a.size
        obtain⟨y,hy⟩:∃y,l[j / a.size]?=some y:=⟨_,dE (by omega)⟩
        obtain⟨u,t,h4,h5,h6,_⟩:=cellAt _ y hy _ hr;rw[hj']at h4;refine⟨u,t,h4,?_,h6⟩;rw[<-h5,<-flat_get (λx=>eA a x) l _ _ y hy hr,hj']
       obtain⟨us,hus,hU⟩:=Z3 (Q:=λj u=>w.cell? ⟨ad.block,ad.off+j,none⟩=some u/\∃t,(iY (bH a) l)[j]?=some t/\TR w (mD w) u t) (len*a.size) λj hj=>by
        obtain⟨u,t,h4,h5,h6⟩:=all j hj;exact⟨u,h4,t,h5,h6⟩
       have had:ad=⟨ad.block,ad.off,none⟩:=by
        obtain⟨b,o,s⟩:=ad;simp only at hsp;subst hsp;rfl
       rw[had];refine .one (.sl ad.block ad.off len cap us _ (by rw[hus,hflat]) (λi u hi=>a9M (hU i u hi).1) hlc λi u t hu ht=>?_);obtain⟨_,t',h5,h6⟩:=hU i u hu;rw[ht]at h5;cases h5;exact h6
     .have:=hm ((elems.map (·.1)).length+(rest.map (·.1)).length |> (· * P.bytesOf e)) (by simp[DataW.weights,hu])
      simp only[dR]at this;have h4:len*Jl a<=(elems.length+rest.length)*P.bytesOf e:=Nat.mul_le_mul (by omega) h3;show gW l*_<=_;rw[hl];omega
     .obtain⟨i,hi⟩:=hmem y hy
      refine(hQ i y hi).2.2 λd hd m hm'=>hm m ?_
      have:m∈DataW.weightsAll P e (elems.map (·.1)):=aBK hd hm';simp only[DataW.weights,hu,eP,lV];exact .inr (.inl this)
   .rename_i a b fs hu
    simp only[bM]at h;obtain⟨h1,h2⟩:=h;have h1:=cA h1;obtain⟨xs,m,rfl,rfl,hl,hxl,hf⟩:=DataW.trod_struct hu hx;obtain⟨v,v1,v2,v3⟩:=aKa ih m fs.toList (.pr a b) 0 cs xs h2 (by rw[hl,h1];simp[Ty.size]) (by rw[hxl];simp) λi f hi=>hf i f (by simpa using hi)
    refine⟨v,v1,by simpa using v2,λhm=>v3 λm' hm'=>hm m' ?_⟩;simp only[DataW.weights,hu];exact hm'
   .rename_i a b k e hu
    simp only[bM]at h;obtain⟨h1,h2⟩:=h;have h1:=cA h1;obtain⟨xs,hx1,hl,hxl,m,hf⟩:=trod_array hu hx;obtain⟨v,v1,v2,v3⟩:=aKb (λτ t h=>by
     simp only[bM]at h;exact⟨ih τ t h.1,cA h.2⟩) m e k (.pr a b) cs xs h2 (by rw[hl,h1];rfl) hxl hf
    refine⟨v,v1,v2,λhm=>v3 λm' hm'=>hm m' ?_⟩;rw[hx1];simp only[DataW.weights,hu];exact hm'
   .cases h
def aA3(τ:Ty)(x:τ.V):D:=match τ.one with|true=>.t (vN τ x)|false=>.agg ((bH τ x).map .t)
theorem jV.cell{τ:Ty}{v:τ.V}{u:Value}(h1:τ.one=true)(h:jV w [u] (bH τ v)):DR0 w (mD w) u (aA3 τ v):=by
 unfold aA3;rw[h1];rw[Jf h1]at h;exact .t (h.2 0 _ _ rfl rfl)
theorem a6U{n:Nat}{e t:TypeId}{r:Reach}{b0:Nat}{v:Value}(ht:P.underlying t=some (.array n e))(h:Value.okWide P w r b0 t v):∃cs,v = .agg cs/\cs.size=P.cellsOf t:=by
 simp only[Value.okWide,ht]at h;obtain⟨cs,h1,h2,_⟩:=h;exact⟨cs,h1,h2⟩
theorem Fa{n:Nat}{τ:Ty}{t:TypeId}(hτ:Bo P n τ t=true){r:Reach}{b0:Nat}{v:Value}{d:DataW H}{ps:List MemPlace}(hval:Value.okWide P w r b0 t v)(hd:DataW.Trod enc P w base spare held t v d ps):
    ∃x:τ.V,rD τ x/\DR0 w (mD w) v (aA3 τ x)/\((∀m∈d.weights P t,m<=reachBytes)->sY τ x):=by
 obtain⟨fuel,hf⟩:=hd;obtain⟨x,x1,x2,x3⟩:=opens n τ t hτ fuel _ _ hf;refine⟨x,x1,?_,x3⟩;cases n with
 |zero=>cases hτ
 |succ n=>
   unfold Bo at hτ;split at hτ
   .rename_i hu
    obtain⟨z,rfl⟩:=okWide_int hu hval;exact jV.cell rfl x2
   .rename_i hu
    obtain⟨z,rfl⟩:=okWide_int hu hval;exact jV.cell rfl x2
   .rename_i hu
    obtain⟨z,rfl⟩:=okWide_bool hu hval;exact jV.cell rfl x2
   .rename_i hu
    obtain⟨z,rfl⟩:=okWide_string hu hval;exact jV.cell rfl x2
   .rename_i hu
    obtain⟨a,l,c,rfl⟩:=okWide_slice hu hval;exact jV.cell rfl x2
   .rename_i a b fs hu
    obtain⟨cs,rfl,hcs⟩:=okWide_struct hu hval;have hc:(Value.agg cs).cells.toList=cs.toList:=rfl;rw[hc]at x2;refine .agg (by have:=x2.1;simpa using this) (λi u d' hu' hd'=>?_) λu hu'=>?_
    .rw[dT]at hd'
     obtain⟨tr,ht,rfl⟩:=cV.1 hd';exact .t (x2.2 i u tr (by simpa using hu') ht)
    .obtain⟨i,hi⟩:=jN.1 hu'
     obtain⟨tr,ht⟩:∃tr,(bH (.pr a b) x)[i]?=some tr:=⟨_,dE (by rw[<-x2.1];exact(dC.1 hi).1)⟩
     exact(x2.2 i u tr hi ht).one
   .rename_i a b k e hu
    obtain⟨cs,rfl,hcs⟩:=a6U hu hval;have hc:(Value.agg cs).cells.toList=cs.toList:=rfl;rw[hc]at x2;refine .agg (by have:=x2.1;simpa using this) (λi u d' hu' hd'=>?_) λu hu'=>?_
    .rw[dT]at hd'
     obtain⟨tr,ht,rfl⟩:=cV.1 hd';exact .t (x2.2 i u tr (by simpa using hu') ht)
    .obtain⟨i,hi⟩:=jN.1 hu'
     obtain⟨tr,ht⟩:∃tr,(bH (.pr a b) x)[i]?=some tr:=⟨_,dE (by rw[<-x2.1];exact(dC.1 hi).1)⟩
     exact(x2.2 i u tr hi ht).one
   .cases hτ
end
end Go.Ax
