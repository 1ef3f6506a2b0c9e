/- The abstract machine, run: every operation. Conditions are in the theorems. -/
import Derived.Test.YtpmhkjnnolpknaaDoorE6
import Derived.Laws.CopyRow
import Derived.ChangeKeysEq
import Derived.Lib.OthersKept
import Derived.Lib.UnsafeStr
import Derived.OpenShut
import Derived.SizedLaws
import Derived.Lib.LaidTab
open Array renaming empty_append->a2L,ext'->tX,getElem?_eq_getElem->j4,getElem?_modify->a2K,getElem?_setIfInBounds_ne->pQ,getElem?_toList->aHJ,length_toList->nE,size_append->a2J,toList_append->a2I
open Bool renaming and_eq_true->bM,and_eq_true_iff->EA,and_true->a2E,false_eq_true->B7,not_eq_true'->Vg,or_eq_true->kX
open Go.IntKind renaming i64->aA
open Iff renaming rfl->kW
open Int renaming natCast_mul->a1w,toNat->OS,toNat_of_nonneg->a1u
open List renaming all_eq_true->eG,any_eq_true->nC,append_assoc->fU,append_nil->nB,drop_drop->a1q,drop_zero->kJ,eq_nil_of_length_eq_zero->HI,ext_getElem?->BX,flatMap->b8,flatMap_append->Du,flatMap_cons->gO,flatten_cons->Dt,getElem?_append_left->dJ,getElem?_append_right->eS,getElem?_drop->oC,getElem?_eq_getElem->bJ,getElem?_eq_none->iV,getElem?_eq_some_iff->bU,getElem?_map->cY,getElem?_range->Dr,getElem?_take->eN,length->dN,length_append->cP,length_drop->pN,length_map->cW,length_nil->HE,length_replicate->HD,length_take->fJ,map_append->fO,map_congr_left->HC,map_cons->eX,map_map->mZ,map_nil->pM,mem_append->jF,mem_append_left->a1h,mem_append_right->a1g,mem_cons->dT,mem_cons_of_mem->mY,mem_cons_self->Dp,mem_iff_getElem?->iA,mem_map->dM,nil_append->fR,replicate->bY,replicate_succ->pL,size_toArray->aGt,take_append_drop->aGs,take_left->aGq,take_of_length_le->oB,take_take->a1b,take_zero->Gz
open Nat renaming add_mul->iL,add_zero->iU,beq->bB,beq_refl->aGo,ble->j3,eq_of_beq_eq_true->bF,le_add_right->aGn,le_of_ble_eq_true->fQ,le_refl->cQ,le_trans->pK,min_eq_left->Dm,mul_eq_zero->a1U,mul_le_mul_right->kV,mul_one->jZ,zero_add->eD,zero_le->xO,zero_mul->pJ
open Ne renaming symm->eF
open Option renaming bind_eq_some_iff->xN,map_eq_some_iff->cR,map_none->pG,map_some->iT
open Option.some renaming inj->fI
open Prod renaming fst->BT,snd->BS
open UInt8 renaming ofNat->dV,toNat->tO,toNat_inj->VV
/- Operations: calls; every operation. -/
namespace Go.Ax
open aB
open Go.RowKit Go.Ab
theorem aWh{f:Nat->Option Nat}{x y:X}(h:fG f x=some y):y.pl=true:=by
 cases x <;> simp only[fG]at h <;> first|(split at h <;> cases h <;> rfl)|(cases h <;> rfl)|cases h
theorem T4{f:Nat->Option Nat}{H:Nat->Option XO}:∀{al:List (Nat×Nat)}{H':XH},nZ f H al=some H'->H'.map (·.1)=al.map (·.1)
 |[],H',h=>by cases h;rfl
 |(new,q)::l,H',h=>by
   unfold nZ at h;split at h
   .split at h
    .split at h
     .rename_i r hr
      cases h;rw[eX,eX,T4 hr]
     .cases h
    .cases h
   .cases h
theorem VU{σ:Vw}{nm':Nat->Bool}{ρ:Nat->Nat}{f:Nat->Option Nat}(hf:∀k k',f k=some k'->nm' k'=true/\k=ρ k'):∀{al:List (Nat×Nat)}{H':XH},(∀p∈al,ρ p.1=p.2)->nZ f σ.H al=some H'->xW false σ.den nm' ρ (HA H')
 |[],H',_,h=>by cases h;exact .nil
 |(new,q)::l,H',hp,h=>by
   unfold nZ at h;split at h
   .rename_i o ho
    split at h
    .rename_i o' ho'
     split at h
     .rename_i r hr
      cases h;have e:=hp (new,q) (Dp ..);simp only at e;exact .cons (by rw[e];exact dI ho) (GH hf ho') (VU hf (λp hm=>hp p (mY _ hm)) hr)
     .cases h
    .cases h
   .cases h
theorem VT{H2:List (Nat×aQ)}{nm':Nat->Bool}{ρ:Nat->Nat}{f:Nat->Option Nat}(hf:∀k k',f k=some k'->nm' k'=true/\k=ρ k'){R:Wr}(hR:nF H2 nm' ρ R):∀{l:XH}{W:Wx},(∀p∈l,Ab.look p.1 H2=some p.2.A)->mU f l=some W->nF H2 nm' ρ (WA W++R)
 |[],W,_,h=>by cases h;exact hR
 |(k,o)::l,W,hp,h=>by
   unfold mU at h;split at h
   .rename_i k' hk
    split at h
    .rename_i o' ho'
     split at h
     .rename_i r hr
      cases h;have e:=hp (k,o) (Dp ..);simp only at e;have:=VT hf hR (λp hm=>hp p (mY _ hm)) hr;exact .cons (by rw[<-(hf k k' hk).2];exact e) (GH hf ho') this
     .cases h
    .cases h
   .cases h
theorem OF{H2:List (Nat×aQ)}{nm':Nat->Bool}{ρ:Nat->Nat}{H':XH}:∀(rn:List (Nat×Nat)),nF H2 nm' ρ (WA (gone H' rn))
 |[]=>.nil
 |(new,q)::l=>by
   unfold gone;split
   .exact OF l
   .exact .gone (OF l)
theorem Nf{H':XH}{new q:Nat}:∀{rn:List (Nat×Nat)},(new,q)∈rn->lk new H'=none->(q,none)∈gone H' rn
 |(n,q')::l,h,hn=>by
   unfold gone;rcases dT.1 h with e|h
   .cases e
    rw[hn];exact Dp ..
   .split
    .exact Nf h hn
    .exact mY _ (Nf h hn)
theorem Ng{H':XH}{q:Nat}{x:Option XO}:∀{rn:List (Nat×Nat)},(q,x)∈gone H' rn->∃new,(new,q)∈rn
 |(n,q')::l,h=>by
   unfold gone at h;split at h
   .obtain⟨new,hm⟩:=Ng h
    exact⟨new,mY _ hm⟩
   .rcases dT.1 h with e|h
    .cases e;exact⟨n,Dp ..⟩
    .obtain⟨new,hm⟩:=Ng h
     exact⟨new,mY _ hm⟩
theorem VJ{f:Nat->Option Nat}{k':Nat}{x:Option XO}:∀{l:XH}{W:Wx},mU f l=some W->(k',x)∈W->∃k,f k=some k'
 |[],W,h,hm=>by cases h;cases hm
 |(k,o)::l,W,h,hm=>by
   unfold mU at h;split at h
   .rename_i k2 hk
    split at h
    .split at h
     .rename_i r hr
      cases h;rcases dT.1 hm with e|hm
      .cases e;exact⟨k,hk⟩
      .exact VJ hr hm
     .cases h
    .cases h
   .cases h
theorem VI{f:Nat->Option Nat}{k k':Nat}(hk:f k=some k'):∀{l:XH}{W:Wx}{o:XO},mU f l=some W->lk k l=some o->∃x,(k',x)∈W
 |[],W,o,h,hm=>by cases hm
 |(k1,o1)::l,W,o,h,hm=>by
   unfold mU at h;split at h
   .rename_i k2 hk2
    split at h
    .split at h
     .rename_i r hr
      cases h;unfold lk at hm;split at hm
      .rename_i he
       have:=bF he;subst this;rw[hk]at hk2;cases hk2;exact⟨_,Dp ..⟩
      .obtain⟨x,hx⟩:=VI hk hr hm
       exact⟨x,mY _ hx⟩
     .cases h
    .cases h
   .cases h
structure RbF(fr:Nat)(rn:List (Nat×Nat)):Prop where
 iF:∀new q,(new,q)∈rn->50<=new/\new<100/\¬ (fr<=q/\q<fr+8)/\lk new rn=some q
 nd:(rn.map (·.2)).Nodup
theorem aE5{fr:Nat}{rn:List (Nat×Nat)}(h:NI fr rn=true):RbF fr rn:=by
 unfold NI at h;rw[bM]at h;refine⟨λnew q hm=>?_,NW h.2⟩;have:=eG.1 h.1 _ hm;simp only[bM,kX]at this;obtain⟨⟨⟨a,b⟩,c⟩,d⟩:=this;have a:=fQ a;have b:new<100:=fQ b;refine⟨a,b,λ⟨c1,c2⟩=>?_,?_⟩
 .rcases c with c|c
  .have c:q<fr:=fQ c
   omega
  .have c:=fQ c
   omega
 .split at d
  .rename_i z hz;rw[hz,bF d]
  .cases d
def nW(p:Nat×Nat):Nat×Nat:=(p.2,p.1)
theorem NH{fr:Nat}{rn:List (Nat×Nat)}(F:RbF fr rn){new q:Nat}(h:(new,q)∈rn):Ab.look q (rn.map nW)=some new:=by
 obtain⟨x,hx⟩:=DM (l:=rn.map nW) (k:=q) (dM.2 ⟨(q,new),dM.2 ⟨_,h,rfl⟩,rfl⟩);obtain⟨p,hp,he⟩:=dM.1 (kS hx);cases he;rw[hx,NV F.nd h hp]
theorem No{σ:Vw}{r:aM}:∀{l:List Operand}{k:List X->O},σ.tG l k=some r->∃xs,k xs=some r/\xs.length=l.length/\∀(i:Nat)(x:X),xs[i]?=some x->∃p,l[i]?=some p/\σ.ev p=some x
 |[],k,h=>⟨[],h,rfl,λi p h=>by simp at h⟩
 |x::l,k,h=>by
   unfold Vw.tG at h;obtain⟨y,hy,h⟩:=bD h;obtain⟨xs,h1,h2,h3⟩:=No h;refine⟨y::xs,h1,by simp[h2],λi p hp=>?_⟩;cases i with
   |zero=>simp at hp;subst hp;exact⟨x,rfl,hy⟩
   |succ i=>exact h3 i p (by simpa using hp)
theorem Dl.ok{P:Program}{o:Oper}{σ:St}{fr:Nat}{d:D}{W:Wr}(h:Dl P o σ fr (λ_:Unit=>True) (λ_=>d) (λ_=>W)):aZ P o σ fr d W:=λE σ₁ a w h1 h2 h3 h4 h5 h6 Q=>Oper.wp_mono (λ_ _ ⟨q1,_,_,q2⟩=>⟨q1,q2⟩) (h E σ₁ a w h1 h2 h3 h4 h5 h6 Q)
theorem Tr:∀{l:XH},qY (l.map (·.1))=true->∀p∈l,lk p.1 l=some p.2
 |[],_,p,hp=>by cases hp
 |(k,o)::l,h,p,hp=>by
   rcases dT.1 hp with e|hm
   .subst e
    unfold lk;rw[show bB k k=true from aGo k]
   .have hnd:=NW h
    rw[eX,List.nodup_cons]at hnd;have hne:k≠p.1:=λe=>hnd.1 (dM.2 ⟨p,hm,e.symm⟩)
    unfold lk;rw[mM hne];unfold qY at h;simp only[eX]at h;split at h
    .cases h
    .exact Tr h p hm
section
variable{c:Cx}{σ:Vw}{κ:Nat->Bool}{fr:Nat}{o:Oper}{k:X->Wx->O}{r:aM}
theorem U6(hG:oF c.P c.G)(hσ:σ.Ok κ){fo:Operand}{args:Array Operand}{tys:Array TypeId}{f:FuncId}{caps asL ys:List X}{g:bR}{fn:Func}{code:Code}{els:O}(ho:o.op = .call { callee:=.value fo,args:=args,argTypes:=tys })(hfo:σ.ev fo=some (.fn f caps))(hl:asL.length=args.toList.length)
    (hev:∀(i:Nat)(x:X),asL[i]?=some x->∃p,args.toList[i]?=some p/\σ.ev p=some x) (hg:lk f c.G=some g) (hfn:c.P.funcs[f]?=some fn) (hb:fn.body=some code) (hD:dL σ.den.H ((asL++caps).map X.D) (ys.map X.D)) (h:Gn σ fr g ys els k=some r):els=some r\/dU c σ fr o k r:=by
 unfold Gn at h;obtain⟨rn,hrn⟩:∃rn,GR 50 (reach σ.H 40 (jU ys []) [])=rn:=⟨_,rfl⟩
 simp only[hrn]at h;split at h
 .exact .inl h
 rename_i hrb;have F:=aE5 hrb;split at h
 .exact .inl h
 rename_i zs hzs;split at h
 .exact .inl h
 rename_i H' hH';split at h
 case h_2=>exact .inl h
 rename_i pre res hres;split at h
 case h_2=>cases h
 rename_i hnd;obtain ⟨x,hx,h6⟩:=bD h;clear h;obtain ⟨W,hW,h7⟩:=bD h6;clear h6;obtain ⟨h8,hpre⟩:=mS h7;clear h7;refine .inr ⟨x,_,h8,aWh hx,fun hon=>?_⟩;obtain ⟨hname,hE⟩:=hG f g hg;have hname' : fn.name ≠ "runtime.NumGoroutine" := by
  unfold DL at hname;rw[hfn]at hname;simpa using hname
 have hDoes:=hE zs H' pre res hres (hpre hon.g);have hf1:∀k k',old rn k=some k'->decide (k'<100)=true/\k=bL rn k':=λk k' hk=>by
  obtain⟨_,b,_,d⟩:=F.iF _ _ (DJ hk);exact⟨aO b,(DB d).symm⟩
 have hf2:∀k k',jJ fr rn k=some k'->gM fr (rn.map nW) k'=true/\k=back fr (rn.map nW) k':=λk k' hk=>by
  unfold jJ at hk;split at hk
  .rename_i hle
   have hle:=fQ hle;split at hk
   .rename_i hlt
    have hlt:k<108:=fQ hlt;cases hk;refine⟨?_,?_⟩
    .unfold gM
     rw[kX,bM];exact .inl ⟨aO (by omega),aO (by omega)⟩
    .unfold back
     rw[aJ ⟨by omega,by omega⟩];omega
   .cases hk
  .have hm:=mN hk
   obtain⟨_,_,c3,_⟩:=F.iF _ _ hm;have hlook:=NH F hm;refine⟨?_,?_⟩
   .unfold gM
    rw[kX,hlook];exact .inr rfl
   .unfold back
    rw[aH c3];unfold bL;rw[hlook]
 have hkeys:(HA H').map (·.1)=rn.map (·.1):=by
  rw[<-T4 hH'];unfold HA;rw[mZ];rfl
 have hkey:∀{p:Nat×aQ},p∈HA H'->∃q,(p.1,q)∈rn:=λ{p} hp=>by
  have:p.1∈rn.map (·.1):=hkeys ▸ dM.2 ⟨p,hp,rfl⟩;obtain⟨⟨a,b⟩,hm,e⟩:=dM.1 this;simp only at e;subst e;exact⟨b,hm⟩
 have hkey':∀{new q:Nat},(new,q)∈rn->∃p∈HA H',p.1=new:=λ{new q} hm=>by
  have:new∈(HA H').map (·.1):=hkeys ▸ dM.2 ⟨_,hm,rfl⟩;obtain⟨p,hp,e⟩:=dM.1 this;exact⟨p,hp,e⟩
 have hrnm:∀{new q:Nat},(new,q)∈rn->bL rn new=q:=λhm=>DB (F.iF _ _ hm).2.2.2
 refine Dl.ok (aYF (ds:=zs.map X.D) (H:=HA H') (r':=λ_=>res.1.D) (H'':=λ_=>HA res.2) rn (rn.map nW) ?_ hDoes.n (VU hf1 (λp hp=>hrnm hp) hH') (λ_ _=>GG hf2 _ _ hx) (λ_ _=>?_) (λ_ _=>?_) ?_)
 .intro E σ₁ ν G w a hT hHH I
  have hfv:=I.ev (St.c7 hT (bC hσ hon hfo));obtain⟨v,hv⟩:∃v,a.eval fo=v:=⟨_,rfl⟩
  rw[hv]at hfv;unfold X.D at hfv;cases hfv with
  | @fn _ vs _ hvl hvd=>
    have hL:=(wJ hf1 ys zs hzs (H:=σ.den.H)).get;rw[fC,fC]at hL;have hlen:args.toList.length+caps.length=zs.length:=by
     have e1:=hD.len;have e2:=hL.1;simp only[cW,cP]at e1 e2;omega
    have hvl':vs.size=caps.length:=by rw[hvl,fC,cW]
    refine⟨args.toList.map a.eval++vs.toList,?_,?_,λt d' ht=>?_⟩
    .unfold execOp
     rw[ho];have:(args.toList.map a.eval++vs.toList).toArray=args.map a.eval++vs:=by
      apply tX;simp
     rw[this];simp only[resolve,hv,Deferred.ofValue,invoke,Sem.run_bind,Sem.run_pure,Result.andThen_ok,a2L];exact aEZ hfn hname' (by rw[hb];exact λe=>by cases e) _ w
    .simp only[cP,cW,nE]at hlen ⊢
     omega
    .have htl:t<zs.length:=by have:=(bU.1 ht).1;simpa using this
     obtain⟨dy,hdy⟩:∃dy,(ys.map X.D)[t]?=some dy:=⟨_,bJ (by rw[hL.1,cW];exact htl)⟩
     obtain⟨d0,hd0,hwk⟩:=hD.get t dy hdy;have hle:=hL.2 t dy d' hdy ht;rw[cY]at hd0;obtain⟨x0,hx0,rfl⟩:=cR.1 hd0;have hval:∃u,(args.toList.map a.eval++vs.toList)[t]?=some u/\DR ν σ₁.nm w G u x0.D:=by
      by_cases hlt:t<args.toList.length
      .rw[dJ (by omega)]at hx0
       obtain⟨p,hp,hpv⟩:=hev t x0 hx0;refine⟨a.eval p,?_,I.ev (St.c7 hT (bC hσ hon hpv))⟩;rw[dJ (by rw[cW];exact hlt),cY,hp];rfl
      .rw[eS (by omega),hl]at hx0
       have hi:t-args.toList.length<vs.size:=by rw[hvl'];exact(bU.1 hx0).1
       refine⟨vs[t-args.toList.length],?_,hvd _ _ _ (j4 hi) (by rw[fC,cY,hx0];rfl)⟩;rw[eS (by rw[cW];omega),cW,aHJ,j4 hi]
     obtain⟨u,hu,hdr⟩:=hval;exact⟨u,dy,hu,hwk E σ₁ ν G w a.tmps hHH I u hdr,hle⟩
 .have hlk:∀p∈res.2,Ab.look p.1 (HA res.2)=some p.2.A:=λp hp=>by
   rw[wN,Tr hnd p hp];rfl
  have:=VT hf2 (OF (H2:=HA res.2) (nm':=gM fr (rn.map nW)) (ρ:=back fr (rn.map nW)) (H':=res.2) rn) hlk hW;unfold WA at this ⊢;rw[fO];exact this
 .unfold Dj
  rw[bM];refine⟨eG.2 λp hp=>?_,eG.2 λp hp=>?_⟩
  .obtain⟨q,hm⟩:=hkey hp
   rw[hrnm hm];have hq:∃x,(q,x)∈W++gone res.2 rn:=by
    cases hlk:lk p.1 res.2 with
    |none=>exact⟨none,a1g _ (Nf hm hlk)⟩
    |some o=>
      obtain⟨_,b,_,d⟩:=F.iF _ _ hm;have hbk:jJ fr rn p.1=some q:=by
       unfold jJ;rw[show j3 100 p.1=false by
        cases hble:j3 100 p.1 with
        |false=>rfl
        |true=>have:=fQ hble;omega]
       exact d
      obtain⟨x,hx⟩:=VI hbk hW hlk;exact⟨x,a1h _ hx⟩
   obtain⟨x,hx⟩:=hq;obtain⟨y,hy⟩:=DM (l:=WA (W++gone res.2 rn)) (k:=q) (dM.2 ⟨(q,x.map XO.A),dM.2 ⟨_,hx,rfl⟩,rfl⟩);rw[hy];rfl
  .obtain⟨⟨q,x⟩,hm,rfl⟩:=dM.1 hp
   rw[kX];have hin:(∃new,(new,q)∈rn)->(HA H').any (λz=>bL rn z.1 == q)=true:=λ⟨new,hn⟩=>by
    obtain⟨p,hp,e⟩:=hkey' hn;exact nC.2 ⟨p,hp,by rw[e,hrnm hn];exact BN _⟩
   rcases jF.1 hm with hm|hm
   .obtain⟨k0,hk0⟩:=VJ hW hm
    unfold jJ at hk0;split at hk0
    .rename_i hle
     have hle:=fQ hle;split at hk0
     .rename_i hlt
      have hlt:k0<108:=fQ hlt;cases hk0;left;rw[bM];exact⟨aO (aGn ..),aO (by simp only;omega)⟩
     .cases hk0
    .exact .inr (hin ⟨k0,mN hk0⟩)
   .exact .inr (hin (Ng hm))
 .unfold rG
  simp only[bM];refine⟨⟨⟨eG.2 λp hp=>?_,aO ?_⟩,eG.2 λp hp=>?_⟩,eG.2 λp hp=>?_⟩
  .obtain⟨q,hm⟩:=hkey hp
   obtain⟨a,b,_,_⟩:=F.iF _ _ hm;rw[bM];exact⟨aO a,aO b⟩
  .have:(HA H').map (λp=>bL rn p.1)=rn.map (·.2):=by
    have e:(HA H').map (λp=>bL rn p.1)=((HA H').map (·.1)).map (bL rn):=by rw[mZ];rfl
    rw[e,hkeys,mZ];exact HC λp hp=>hrnm hp
   rw[this];exact F.nd
  .obtain⟨q,hm⟩:=hkey hp
   rw[hrnm hm,NH F hm];exact BN _
  .obtain⟨⟨new,q⟩,hm,rfl⟩:=dM.1 hp
   obtain⟨p,hp',e⟩:=hkey' hm;refine nC.2 ⟨p,hp',?_⟩;rw[bM,e,hrnm hm];exact⟨BN _,BN _⟩
theorem aZ0(hG:oF c.P c.G)(hσ:σ.Ok κ){fo:Operand}{args:Array Operand}{tys:Array TypeId}{f:FuncId}{caps:List X}(ho:o.op = .call { callee:=.value fo,args:=args,argTypes:=tys })(hfo:σ.ev fo=some (.fn f caps))(h:σ.tG args.toList (λxs=>VE c σ fr f (xs++caps) k)=some r):dU c σ fr o k r:=by
 obtain⟨asL,h1,hl,hev⟩:=No h;clear h;unfold VE at h1;obtain⟨g,hg,h2⟩:=bD h1;clear h1;obtain⟨fn,hfn,h3⟩:=bD h2;clear h2;split at h3
 .cases h3
 rename_i code hb;rcases U6 hG hσ ho hfo hl hev hg hfn hb (OA c σ _ _) h3 with h|h
 .rcases U6 hG hσ ho hfo hl hev hg hfn hb dL.refl h with h|h
  .cases h
  .exact h
 .exact h
end
end Go.Ax
/- Parts of rows of the walk's own, and copy. -/
namespace Go.Ax
open aB
open Go.RowKit Go.Ab
theorem aE1{E:Env}{σ₁:St}{ν:Nat->Value}{G:bT}{w w':World}{a:Act}(I:Inv E σ₁ ν G w a.tmps){k fr g:Nat}{ob ob':aQ}(hk:σ₁.H k=some ob)(hg:aV (ν k)=some g)(hG0:G g=0)(hf1:∀w v g,bN w v ob g ↔ aV v=some g)(hf2:∀w v g,bN w v ob' g ↔ aV v=some g)
    (s1:w'.os=w.os) (s2:w'.tape=w.tape) (s3:w'.output=w.output) (s4:w'.heap.size=w.heap.size) (s5:∀b,b≠g->w'.heap[b]?=w.heap[b]?) (hcell:∀b i u,Cell w G b i u->Cell w' G b i u)
    (hnew:eR E ν σ₁.nm w' G k ob') {dst:Option Tmp} {v:Value} {d:D} (hd:∀t,dst=some t->t<E.m) (hv:DR ν σ₁.nm w' G v d):Inv E (σ₁.aS dst d [(k,some ob')] fr) ν G w' (a.put dst v).tmps:=by
 have hob:=(I.H k ob hk).2;have hmay:E.may g:=hob.UD hg;have hnm:∀j,σ₁.nm j=true->(σ₁.aS dst d [(k,some ob')] fr).nm j=true/\ν j=ν j:=λj hj=>⟨by simp[St.aS,hj],rfl⟩
 refine⟨⟨s1.trans I.kept.os,s2.trans I.kept.tape,s3.trans I.kept.output,by rw[s4];exact I.kept.size,λb hb hX=>?_⟩,λb i u h=>hcell b i u (I.dY b i u h),I.fA,I.g0,?_,λt' d' h=>?_,λj oj h=>?_,λj1 o1 j2 o2 h1 h2 hne=>?_⟩
 .refine(s5 b (λe=>?_)).trans (I.kept.block b hb hX)
  subst e;rcases hmay with h|h
  .omega
  .exact hX h
 .cases dst <;> simp[Act.put,I.sz]
 .simp only[St.aS]at h
  split at h
  .rename_i he'
   cases h;have:=hd t' he';exact⟨v,by simp[he',Act.put,I.sz,this],hv.mono hnm (λ_ _ _ h=>h)⟩
  .rename_i he'
   obtain⟨u,hu,hdu⟩:=I.T t' d' h;refine⟨u,?_,hdu.mono hnm hcell⟩;cases dst with
   |none=>simpa[Act.put]using hu
   |some t''=>
     have hne:t''≠t':=λe=>he' (by rw[e])
     simp only[Act.put];rw[pQ hne];exact hu
 .by_cases hj:j=k
  .subst hj
   simp[St.aS,Ab.look]at h;subst h;have h1:=(I.H j ob hk).1;exact⟨(hnm j h1).1,eR.mono h1 hnm (λ_ _ _ h=>h) (λ_ _=>⟨rfl,rfl⟩) hnew⟩
  .have h':σ₁.H j=some oj:=by simpa[St.aS,Ab.look,eF hj]using h
   obtain⟨h1,h2⟩:=I.H j oj h';refine⟨(hnm j h1).1,h2.mono h1 hnm hcell (λg' hg'=>⟨s5 g' (λe=>?_),rfl⟩)⟩;subst e;exact I.cK j oj k ob h' hk hj g' hg' (dR hg)
 .have back:∀j oj,(σ₁.aS dst d [(k,some ob')] fr).H j=some oj->∃oj',σ₁.H j=some oj'/\∀g',bN w' (ν j) oj g'->bN w (ν j) oj' g':=λj oj h=>by
   by_cases hj:j=k
   .subst hj
    simp[St.aS,Ab.look]at h;subst h;exact⟨ob,hk,λg' hg'=>(hf1 _ _ _).2 ((hf2 _ _ _).1 hg')⟩
   .have h':σ₁.H j=some oj:=by simpa[St.aS,Ab.look,eF hj]using h
    refine⟨oj,h',λg' hg'=>(rC λb hb=>s5 b λe=>?_).1 hg'⟩;subst e;exact I.cK j oj k ob h' hk hj b (dR hb) (dR hg)
  obtain⟨o1',h1',f1⟩:=back j1 o1 h1;obtain⟨o2',h2',f2⟩:=back j2 o2 h2;exact λg' hg1 hg2=>I.cK j1 o1' j2 o2' h1' h2' hne g' (f1 g' hg1) (f2 g' hg2)
section
variable{P:Program}{o:Oper}{s:St}{fr:Nat}
theorem aXO{t e e0:TypeId}{x:Operand}{lo hi:Option Operand}{sz n q:Nat}{ts:List Tree}{st:Bool}{a b:Option Int}(hs0:0<sz)(hu:P.underlying t=some (.slice e))(hs:fL P e=some sz)(ho:o.op = .slice t x lo hi none)(hx:s.ev x=some (.own q))(hq:s.H q=some (.row e0 sz n ts st))
    (hlo:l8 s lo a) (hhi:l8 s hi b) (hok:dX n a b=true):aZ P o s fr (.vw q (dQ a*sz) (eO n b-dQ a)) []:=
 dF λE σ₁ ν G w ac hH I hev=>by
  have hd:=hev x _ hx;obtain⟨kl,e1⟩:=hlo.run (ρ:=ac.eval) (λx d h=>cC (hev x _ h));obtain⟨kh,e2⟩:=hhi.run (ρ:=ac.eval) (λx d h=>cC (hev x _ h));obtain⟨g1,g2,g3,g4⟩:=Mn hok;obtain⟨inf,hinf,hsz⟩:=cR.1 hs;obtain⟨hv,hk⟩:=qZ hd;obtain⟨xs,r1,_⟩:=(I.H q _ (hH q _ hq)).2;rcases r1.2 with⟨hz,h0⟩|⟨g,cap,cur,hz,_,_,hcap,_⟩
  .subst h0
   have hb:=xI (P:=P) (w:=w) (isS:=true) (n:=0) (cap:=0) (lo:=a) (hi:=b) (kl:=kl) (kh:=kh) g1 (by omega) g3 g4;have z1:eO 0 b=0:=by omega
   have z2:dQ a=0:=by omega
   rw[z1,z2]at hb;refine⟨.slice none 0 0,?_,?_⟩
   .unfold execOp
    rw[ho];simp only[hv,hz,e1,e2,pG];simp[Instr.sliceAt,Instr.slice,run_underlying hu,hb,sizeOf,typeInfo,hinf]
   .rw[z1,z2]
    exact .Ap hk rfl hz
  .have hb:=xI (P:=P) (w:=w) (isS:=true) (n:=n) (cap:=cap) (lo:=a) (hi:=b) (kl:=kl) (kh:=kh) g1 (by omega) g3 g4
   refine⟨.slice (if cap=dQ a then some ⟨g,0,none⟩else some ((⟨g,0,none⟩:Addr).add (dQ a*sz))) (eO n b-dQ a) (cap-dQ a),?_,?_⟩
   .unfold execOp
    rw[ho];simp only[hv,hz,e1,e2,pG];simp[Instr.sliceAt,Instr.slice,run_underlying hu,hb,sizeOf,typeInfo,hinf,hsz]
   .by_cases hc:cap=dQ a
    .rw[aJ hc]
     exact .vw hk (by rw[hz];rfl) (λh=>by omega) (by omega) (λh=>⟨n,by
      have h0:dQ a=0:=(a1U.1 h).resolve_right (by omega);rw[hz,h0,Nat.sub_zero]⟩)
    .rw[aH hc,Addr.add_mid,eD]
     exact .vw hk (by rw[hz];rfl) (λ_=>rfl) (by omega) (λh=>⟨n,by
      have h0:dQ a=0:=(a1U.1 h).resolve_right (by omega);rw[hz,h0,Nat.sub_zero,pJ]⟩)
inductive rL (s:St) (x:Operand) (sz:Nat):Nat->List Tree->Prop
 |src {n:Nat} {ts:List Tree} (h:Src s x n ts) (hl:ts.length=n*sz):rL s x sz n ts
 |vw {k off n N:Nat} {ts:List Tree} {e:TypeId} {st:Bool} (h:s.ev x=some (.vw k off n)) (hk:s.H k=some (.row e sz N ts st)) (hb:off+n*sz<=ts.length):rL s x sz n ((ts.drop off).take (n*sz))
theorem rL.rd{s σ₁:St}{x:Operand}{sz n:Nat}{ts:List Tree}(h:rL s x sz n ts){E:Env}{ν:Nat->Value}{G:bT}{w:World}{a:Act}(hT:∀t d,s.T t=some d->σ₁.T t=some d)(hH:∀k o,s.H k=some o->σ₁.H k=some o)(I:Inv E σ₁ ν G w a.tmps):
    ∃ax c us,a.eval x = .slice ax n c/\us.length=n*sz/\ts.length=n*sz/\Rd w ax us/\(ax=none->c=0/\n=0)/\∀(i:Nat)(u:Value)(t:Tree),us[i]?=some u->ts[i]?=some t->TR w G u t:=by
 cases h with
 |src h hl=>
   obtain⟨ax,c,us,h1,h2,h3,h4,h5⟩:=h.rd hT hH I;exact⟨ax,c,us,h1,h2.trans hl,hl,h3,h4,h5⟩
 | @vw k off _ N ts e st h hk hb=>
   have hv:=I.ev (St.c7 hT h);obtain⟨v,he⟩:∃v,a.eval x=v:=⟨_,rfl⟩
   rw[he]at hv ⊢;have hlen:((ts.drop off).take (n*sz)).length=n*sz:=by rw[fJ,pN];omega
   cases hv with
   |Ap hkn hc _=>exact⟨none,_,[],rfl,by simp,hlen,Rd.nil,λ_=>⟨hc,rfl⟩,λi u t h=>by simp at h⟩
   | @vw _ _ _ o c g hkn hg ho hn _=>
     obtain⟨xs,r1,r2,r3,r4⟩:=(I.H _ _ (hH _ _ hk)).2;by_cases hn0:n=0
     .subst hn0
      exact⟨some ⟨g,o,none⟩,c,[],rfl,by simp,hlen,λj u hj=>by simp at hj,(λe=>by cases e),λi u t h=>by simp at h⟩
     .have ho':=ho (by omega)
      subst ho';refine⟨some ⟨g,o,none⟩,c,(xs.drop o).take (n*sz),rfl,by rw[fJ,pN];omega,hlen,λj u hj=>⟨_,rfl,?_⟩,(λe=>by cases e),λi u t hu ht=>?_⟩
      .rw[eN]at hj
       split at hj
       .rw[oC]at hj
        have:=r1.cells (g:=g) (by rw[<-jR r1];exact hg) _ u hj;rw[Addr.add_mid]at this ⊢;rw[eD]at this;exact this
       .cases hj
      .rw[eN]at hu ht
       split at hu
       .rename_i hi
        rw[aJ hi]at ht;rw[oC]at hu ht;exact r3 _ u t hu ht
       .cases hu
theorem aXF{w:World}{e s N cap n g:Nat}{xs:List Value}(h:w.ownsRow 0 e s (.slice (some ⟨g,0,none⟩) N cap) N xs)(hn:n<=N):w.ownsRow 0 e s (.slice (some ⟨g,0,none⟩) n cap) n (xs.take (n*s)):=by
 rcases h.2 with⟨h1,_⟩|⟨g',cap',cur,h1,h2,h3,h4,h5,h6,h7⟩
 .cases h1
 .cases h1
  refine⟨by rw[fJ,h.1];exact Dm (kV _ hn),.inr ⟨g,cap,cur,rfl,h2,h3,pK hn h4,h5,h6,?_⟩⟩;rw[<-h7,a1b,Dm (kV _ hn)]
theorem aYK{t e:TypeId}{z:Value}{size bytes:Nat}{x y:Operand}{k n N m:Nat}{ts ys:List Tree}(hT:l9 P t e z size bytes)(ho:o.op = .call { callee:=.builtin .append,args:=#[x,y],argTypes:=#[t,t] })
    (hs:s.ev x=some (.vw k 0 n)) (hk:s.H k=some (.row e size N ts false)) (hn:n<=N) (hx:rL s y size m ys) (hb:(n+m)*bytes<=140737488355328/\n+m<=maxLen):aZ P o s fr (.own fr) [(fr,some (.row e size (n+m) (ts.take (n*size)++ys) false)),(k,none)]:=by
 intro E σ₁ a w hTT hHH h100 hf hd ⟨ν,G,I⟩ Q;obtain⟨ax,c,us,hxv,hul,hyl,hrd,hnone,htr⟩:=hx.rd hTT hHH I;have hone:∀u∈us,u.oneCell'=true:=λu hu=>by
  obtain⟨i,hi⟩:=iA.1 hu;have hlt:i<ys.length:=by rw[hyl,<-hul];exact(bU.1 hi).1
  exact(htr i u _ hi (bJ hlt)).one
 have hrow:∃v xs,a.eval x=v/\w.ownsRow 0 e size v n xs/\xs.length=(ts.take (n*size)).length/\(∀(i:Nat)(u:Value)(t:Tree),xs[i]?=some u->(ts.take (n*size))[i]?=some t->TR w G u t)/\aV (ν k)=v.ownBlock /\
     (∀g,v.ownBlock=some g->E.may g/\G g=0):=by
  have hv:=I.ev (St.c7 hTT hs);obtain⟨v,he⟩:∃v,a.eval x=v:=⟨_,rfl⟩
  rw[he]at hv;obtain⟨xs,r1,r2,r3,r4⟩:=(I.H _ _ (hHH _ _ hk)).2;have tk:∀(i:Nat)(u:Value)(t:Tree),(xs.take (n*size))[i]?=some u->(ts.take (n*size))[i]?=some t->TR w G u t:=λi u t hu ht=>by
   rw[eN]at hu ht;split at hu
   .rename_i hi
    rw[aJ hi]at ht;exact r3 i u t hu ht
   .cases hu
  cases hv with
  |Ap hkn hc hz=>
    subst hc;exact⟨_,[],he,World.ownsRow_nil w 0 e size,by simp,(λi u t h=>by simp at h),by rw[hz];rfl,λg hg=>by cases hg⟩
  | @vw _ _ _ o1 c1 g hkn hg h1 h2 hp=>
    obtain⟨N',hz⟩:=hp rfl;rw[hz]at r1;rcases r1.2 with⟨h3,_⟩|⟨g',cap,cur,h3,hr⟩
    .cases h3
    .cases h3
     have own1:w.ownsRow 0 e size (.slice (some ⟨g,0,none⟩) N c1) N xs:=⟨r1.1,.inr ⟨g,c1,cur,rfl,hr⟩⟩;exact⟨_,xs.take (n*size),he,aXF own1 hn,by rw[fJ,fJ,r2],tk,by rw[hz];rfl,λg' hg'=>by
      cases hg';exact r4 g hg⟩
 obtain⟨v,xs,hsv,hown,hxl,hxt,hkb,hmay⟩:=hrow;obtain⟨v',w',hr,r2,q1,q2,q3,q4,q5,q6,q7⟩:=Mw (ty:=o.type) hT hown (m:=m) (c:=c) hul hrd (λe=>(hnone e).1) hone hb.2 hb.1;unfold Oper.wp;have he:(execOp a.eval o).run P w = .ok (.value v') w':=by
  unfold execOp;rw[ho];simp[resolve,invoke,builtin,hsv,hxv,hr]
 rw[he,Oper.upon_value];have hcell:∀b i u,Cell w G b i u->Cell w' (λb=>if v'.ownBlock=some b then 0 else G b) b i u:=λb i u h=>by
  by_cases hb':v.ownBlock=some b
  .have hG:=(hmay b hb').2
   have h2:=h.2;rw[hG]at h2;omega
  .refine⟨(World.cell?_of_block (a:=⟨b,i,none⟩) (q5 b h.lt hb')).trans h.1,?_⟩
   have:v'.ownBlock≠some b:=λe=>by
    rcases q7 b e with h'|h'
    .have:=h.lt;omega
    .exact hb' h'
   simp only[aH this];exact h.2
 have hblkv:∀g,aV v'=some g->v'.ownBlock=some g:=λg hg=>by rw[<-jR r2];exact hg
 have hwr:jK (some k) fr (.row e size (n+m) (ts.take (n*size)++ys) false)=[(fr,some (.row e size (n+m) (ts.take (n*size)++ys) false)),(k,none)]:=rfl;rw[<-hwr];refine⟨put_defers ..,bZ ν fr v',_,I.new h100 hf hd (some k) (o:=.row e size (n+m) (ts.take (n*size)++ys) false) (λj'=>?_) q1 q2 q3 q4 (λb hb hnk=>?_) hcell (λj hj=>by cases hj;exact⟨_,hHH _ _ hk⟩) (x:=v') (λg hg=>?_) ?_ ?_⟩
 .by_cases h:j'=fr
  .subst h;simp[jK,Ab.look]
  .by_cases h':j'=k
   .subst h';simp[jK,Ab.look,h,eF h]
   .simp[jK,Ab.look,h,eF h,h',eF h']
 .have hne:v.ownBlock≠some b:=λe=>hnk k rfl (by rw[hkb];exact e)
  refine⟨q5 b hb hne,aH (λe=>?_)⟩;rcases q7 b e with h|h
  .omega
  .exact hne h
 .rcases q7 g (hblkv g hg)with h|h
  .exact .inl h
  .exact .inr ⟨k,rfl,by rw[hkb];exact h⟩
 .refine⟨xs++us,by rw[b7];exact r2,by rw[cP,cP,hxl,hul,hyl],λi u t hu ht=>?_,λg hg=>?_⟩
  .by_cases hi:i<xs.length
   .rw[dJ hi]at hu
    rw[dJ (by omega)]at ht;exact(hxt i u t hu ht).mono hcell
   .rw[eS (by omega)]at hu
    rw[eS (by omega)]at ht;exact(htr _ u t hu (by rw[hxl];exact ht)).mono hcell
  .rw[b7]at hg
   have hg':=hblkv g hg;refine⟨?_,aJ hg'⟩;rcases q7 g hg' with h|h
   .exact .inl (pK I.kept.size h)
   .exact(hmay g h).1
 .have:DR (bZ ν fr v') (σ₁.aS o.dst .any (jK (some k) fr (.row e size (n+m) (ts.take (n*size)++ys) false)) fr).nm w' (λb=>if v'.ownBlock=some b then 0 else G b) (bZ ν fr v' fr) (.own fr):=.own (kA ..) (by rw[b7];exact lV r2)
  rw[b7]at this;exact this
theorem aYC{t t' e e0:TypeId}{x y:Operand}{q off n m N:Nat}{ts us:List Tree}(hu:P.underlying t=some (.slice e))(hs:fL P e=some 1)(ho:o.op = .call { callee:=.builtin .copy,args:=#[x,y],argTypes:=#[t,t'] })
    (hx:(s.ev x=some (.own q)/\off=0/\n=N)\/s.ev x=some (.vw q off n)) (hq:s.H q=some (.row e0 1 N ts false)) (hy:rL s y 1 m us) (hb:off+n<=ts.length):
    aZ P o s fr (I (min m n:Nat)) [(q,some (.row e0 1 N (ts.take off++us.take n++ts.drop (off+min m n)) false))]:=by
 intro E σ₁ a w hT hH h100 hf hd ⟨ν,G,I⟩ Q;obtain⟨ax,c,cs,hyv,hcl,hul,hrd,hnone,htr⟩:=hy.rd hT hH I;rw[jZ]at hcl hul;have hob:=(I.H q _ (hH q _ hq)).2;obtain⟨xs,r1,r2,r3,r4⟩:=id hob;have hone:∀v∈cs,v.oneCell'=true:=λv hv=>by
  obtain⟨i,hi⟩:=iA.1 hv;have hlt:i<us.length:=by rw[hul,<-hcl];exact(bU.1 hi).1
  exact(htr i v _ hi (bJ hlt)).one
 -- the destination
 have hdst:∃base cap,a.eval x = .slice base n cap/\((base=none/\n=0)\/∃g o',base=some ⟨g,o',none⟩/\aV (ν q)=some g/\(0<n->o'=off)):=by
  rcases hx with⟨hx,h0,hn⟩|hx
  .obtain⟨hv,_⟩:=qZ (I.ev (St.c7 hT hx))
   subst h0 hn;rcases r1.2 with⟨hz,h0⟩|⟨g,cap,cur,hz,_⟩
   .exact⟨none,0,by rw[hv,hz,h0],.inl ⟨rfl,h0⟩⟩
   .exact⟨_,cap,by rw[hv,hz],.inr ⟨g,0,rfl,by rw[hz];rfl,λ_=>rfl⟩⟩
  .have hv:=I.ev (St.c7 hT hx)
   obtain⟨v,he⟩:∃v,a.eval x=v:=⟨_,rfl⟩
   rw[he]at hv ⊢;cases hv with
   |vw hk hg ho hn _=>exact⟨_,_,rfl,.inr ⟨_,_,rfl,hg,ho⟩⟩
   |Ap hk hc _=>exact⟨none,_,rfl,.inl ⟨rfl,rfl⟩⟩
 obtain⟨base,cap,hxv,hbase⟩:=hdst;obtain⟨inf,hinf,hsz⟩:=cR.1 hs;have hmin:(cs.take n).length=min m n:=by rw[fJ,hcl,Nat.min_comm]
 have key:∃w',(Builtin.copy_ #[t,t'] o.type #[.slice base n cap,.slice ax m c]).run P w = .ok (.int .i64 (min m n:Nat)) w' /\
     ((w'=w/\min m n=0)\/∃g cur et,aV (ν q)=some g/\w.heap[g]?=some (.cells cur et (0,0))/\off+min m n<=cur.size/\(∀i,i<N->cur.toList[i]?=xs[i]?)/\w'=w.setRow g (cur.toList.take off++cs.take n++cur.toList.drop (off+min m n)).toArray):=by
  by_cases h0:min m n=0
  .refine⟨w,?_,.inl ⟨rfl,h0⟩⟩
   have hN:Nat.min m n=0:=h0;cases base with
   |none=>
     cases ax with
     |none=>simp[Builtin.copy_,run_underlying hu,Builtin.lenOf,Builtin.firstCells,sizeOf,typeInfo,hinf,hN,goInt]
     |some ad=>
       have hl0:=run_loadCells_list (P:=P) w ad [] (by simp);simp only[HE]at hl0;simp[Builtin.copy_,run_underlying hu,Builtin.lenOf,Builtin.firstCells,sizeOf,typeInfo,hinf,hN,goInt,hl0]
   |some ab=>
     cases ax with
     |none=>simp[Builtin.copy_,run_underlying hu,Builtin.lenOf,Builtin.firstCells,sizeOf,typeInfo,hinf,hN,goInt,storeCells]
     |some ad=>
       have hl0:=run_loadCells_list (P:=P) w ad [] (by simp);simp only[HE]at hl0;simp[Builtin.copy_,run_underlying hu,Builtin.lenOf,Builtin.firstCells,sizeOf,typeInfo,hinf,hN,goInt,storeCells,hl0]
  .rcases hbase with⟨_,hn⟩|⟨g,o',rfl,hg,ho'⟩
   .omega
   .have ho'':=ho' (by omega)
    subst ho'';have hax:∃ad,ax=some ad:=by
     cases ax with
     |none=>have:=(hnone rfl).2;omega
     |some ad=>exact⟨ad,rfl⟩
    obtain⟨ad,rfl⟩:=hax;rcases r1.2 with⟨hz,_⟩|⟨g',cap',cur,hz,_,z2,z3,z4,z5,z6⟩
    .rw[hz]at hg;cases hg
    .rw[hz]at hg
     cases hg;have hxl:xs.length=N:=by rw[r1.1,jZ]
     have hfit:o'+(cs.take n).length<=cur.size:=by rw[hmin,z5];omega
     refine⟨_,?_,.inr ⟨_,cur,_,by rw[hz];rfl,z2,by rw[<-hmin];exact hfit,λi hi=>?_,rfl⟩⟩
     .have:=run_copy_row (P:=P) w t t' o.type e _ o' n cap ad m c cur _ (cs.take n) hu (by rw[hinf];simp[hsz]) z2 (by rw[hmin]) (λj v hj=>by
       rw[eN]at hj;split at hj
       .obtain⟨ad',he',hc'⟩:=hrd j v hj
        cases he';exact hc'
       .cases hj) hfit (λv hv=>hone v (List.mem_of_mem_take hv))
      rw[hmin]at this;exact this
     .rw[<-z6,eN,aJ (by omega)]
 obtain⟨w',hr,hw'⟩:=key;unfold Oper.wp;have he:(execOp a.eval o).run P w = .ok (.value (.int .i64 (min m n:Nat))) w':=by
  unfold execOp;rw[ho];simp[resolve,invoke,builtin,hxv,hyv,hr]
 rw[he,Oper.upon_value];have hxl:xs.length=N:=by rw[r1.1,jZ]
 rcases hw' with⟨rfl,h0⟩|⟨g,cur,et,hg,hcur,hfit,hsame,rfl⟩
 .have hts:ts.take off++us.take n++ts.drop (off+min m n)=ts:=by
   have:us.take n=[]:=by
    apply HI;rw[fJ,hul,Nat.min_comm];exact h0
   rw[this,h0,nB,iU,aGs]
  rw[hts];refine⟨put_defers ..,ν,G,?_⟩;have:=I.put (dst:=o.dst) (v:=.int .i64 (min m n:Nat)) (d:=Go.Ab.I (min m n:Nat)) (.t (.v _ rfl)) hd fr a rfl;refine⟨this.kept,this.dY,this.fA,this.g0,this.sz,this.T,λk ok hk=>?_,λk ok k' ok' h1 h2=>?_⟩
  .by_cases hkq:q=k
   .subst hkq
    simp[St.aS,Ab.look]at hk;subst hk;exact this.H q _ (by simp[St.aS,Ab.look];exact hH q _ hq)
   .exact this.H k ok (by simpa[St.aS,Ab.look,hkq]using hk)
  .have conv:∀k ok,(σ₁.aS o.dst (Go.Ab.I (min m n:Nat)) [(q,some (.row e0 1 N ts false))] fr).H k=some ok->(σ₁.aS o.dst (Go.Ab.I (min m n:Nat)) [] fr).H k=some ok:=λk ok h=>by
    by_cases hkq:q=k
    .subst hkq
     simp[St.aS,Ab.look]at h;subst h;simp[St.aS,Ab.look];exact hH q _ hq
    .simpa[St.aS,Ab.look,hkq]using h
   exact this.cK k ok k' ok' (conv k ok h1) (conv k' ok' h2)
 .have hG0:G g=0:=by simpa using(r4 g hg).2
  have hsz':cur.size=cur.toList.length:=by simp
  have s5:∀b,b≠g->(w.setRow g (cur.toList.take off++cs.take n++cur.toList.drop (off+min m n)).toArray).heap[b]?=w.heap[b]?:=λb hb=>setRow_other w g b _ hb
  have hcell:∀b i u,Cell w G b i u->Cell (w.setRow g (cur.toList.take off++cs.take n++cur.toList.drop (off+min m n)).toArray) G b i u:=λb i u h=>by
   have hne:b≠g:=λe=>by have:=h.2;rw[e,hG0]at this;omega
   exact⟨(World.cell?_of_block (a:=⟨b,i,none⟩) (s5 b hne)).trans h.1,h.2⟩
  have hcslen:(cur.toList.take off++cs.take n++cur.toList.drop (off+min m n)).length=cur.size:=by
   simp only[cP,fJ,pN,hcl,hsz'];rw[hsz']at hfit;omega
  have hnewrow:(w.setRow g (cur.toList.take off++cs.take n++cur.toList.drop (off+min m n)).toArray).ownsRow 0 e0 1 (ν q) N (xs.take off++cs.take n++xs.drop (off+min m n)):=by
   have hxs':xs=cur.toList.take N:=by
    apply BX;intro i;rw[eN];by_cases hi:i<N
    .rw[aJ hi,hsame i hi]
    .rw[aH hi,iV (by omega)]
   have hoN:off+min m n<=N:=by rw[<-r2,hxl]at hb;omega
   refine⟨by simp only[cP,fJ,pN,hxl,hcl];omega,?_⟩;rcases r1.2 with⟨hz,_⟩|⟨g',cap',cur',hz,z1,z2,z3,z4,z5,z6⟩
   .rw[hz]at hg;cases hg
   .rw[hz]at hg
    cases hg;rw[hcur]at z2;cases z2;refine .inr ⟨_,cap',_,hz,z1,setRow_heap w _ cur _ _ (0,0) hcur,z3,z4,by rw[aGt,hcslen];exact z5,?_⟩;rw[jZ];apply BX;intro i;rw[eN];have hl1:(cur.toList.take off).length=off:=by rw[fJ];rw[hsz']at hfit;omega
    have hl2:(xs.take off).length=off:=by rw[fJ,hxl];omega
    by_cases hi:i<N
    .rw[aJ hi]
     by_cases h1:i<off
     .rw[fU,fU,dJ (by omega),dJ (by omega),eN,eN,aJ h1,aJ h1,hsame i hi]
     .have h4:(cur.toList.take off).length<=i:=by omega
      have h5:(xs.take off).length<=i:=by omega
      rw[fU,fU,eS h4,eS h5,hl1,hl2];by_cases h2:i-off<min m n
      .rw[dJ (by rw[hmin];exact h2),dJ (by rw[hmin];exact h2)]
      .have h3:(cs.take n).length<=i-off:=by rw[hmin];omega
       rw[eS h3,eS h3,hmin,oC,oC,show off+min m n+(i-off-min m n)=i by omega,hsame i hi]
    .rw[aH hi,iV]
     simp only[cP,fJ,pN,hxl,hcl];omega
  refine⟨put_defers ..,ν,G,aE1 (w':=w.setRow g (cur.toList.take off++cs.take n++cur.toList.drop (off+min m n)).toArray) (ob':=.row e0 1 N (ts.take off++us.take n++ts.drop (off+min m n)) false) I (hH q _ hq) hg hG0 (λ_ _ _=>kW) (λ_ _ _=>kW) rfl rfl rfl (setRow_size w g (cur.toList.take off++cs.take n++cur.toList.drop (off+min m n)).toArray) s5 hcell ⟨_,hnewrow,?_,λi u tr hu' htr'=>?_,r4⟩ hd (.t (.v _ rfl))⟩
  .simp only[cP,fJ,pN,hcl,hul,r2]
  .have hl1:(xs.take off).length=(ts.take off).length:=by simp[r2]
   have hl2:(cs.take n).length=(us.take n).length:=by simp[hcl,hul]
   rw[fU]at hu' htr';by_cases h1:i<(xs.take off).length
   .rw[dJ h1]at hu'
    rw[dJ (by omega)]at htr';rw[eN]at hu' htr';split at hu'
    .rename_i hi
     rw[aJ hi]at htr';exact(r3 i u tr hu' htr').mono hcell
    .cases hu'
   .rw[eS (by omega)]at hu'
    rw[eS (by omega),<-hl1]at htr';by_cases h2:i-(xs.take off).length<(cs.take n).length
    .rw[dJ h2]at hu'
     rw[dJ (by omega)]at htr';rw[eN]at hu' htr';split at hu'
     .rename_i hi
      rw[aJ hi]at htr';exact(htr _ u tr hu' htr').mono hcell
     .cases hu'
    .rw[eS (by omega)]at hu'
     rw[eS (by omega),<-hl2]at htr';rw[oC]at hu' htr';exact(r3 _ u tr hu' htr').mono hcell
end
end Go.Ax
/- Arrays in variables at places that are not known; rows cut at their ends; nil slices. -/
namespace Go.Ax
open aB
open Go.RowKit Go.Ab
theorem UN{τ:Ty}:∀{xs:List X}{l:List τ.V},G1 τ xs=some l->xs=l.map (X.e τ)
 |[],l,h=>by cases h;rfl
 |x::r,l,h=>by
   cases x with
   |e τ' y=>
     unfold G1 at h;generalize eA τ' τ=p at h;cases p with
     |none=>cases h
     |some q=>
       obtain⟨q⟩:=q;subst q;simp only at h;split at h
       .rename_i l' hl
        cases h;rw[UN hl];rfl
       .cases h
   |_=>cases h
theorem aER(τ:Ty)(off:Nat)(z:τ.V):∀(l:List τ.V)(i:Nat),wH τ (off+i) z i l=(l.set off z).map (X.e τ)
 |[],i=>by simp[wH]
 |y::l,i=>by
   unfold wH;cases off with
   |zero=>
     have h0:bB (0+i) i=true:=by rw[eD];exact aGo i
     rw[h0];have:∀(l:List τ.V)(j:Nat),0+i<j->wH τ (0+i) z j l=l.map (X.e τ):=by
      intro l
      induction l with
      |nil=>intro j _;rfl
      |cons y l ih=>
        intro j hj;unfold wH;have hb:bB (0+i) j=false:=by
         cases hb:bB (0+i) j with
         |false=>rfl
         |true=>have:=bF hb;omega
        rw[hb,ih (j+1) (by omega)];rfl
     rw[this l (i+1) (by omega)];rfl
   |succ off=>
     have hb:bB (off+1+i) i=false:=by
      cases hb:bB (off+1+i) i with
      |false=>rfl
      |true=>have:=bF hb;omega
     have ih:=aER τ off z l (i+1);rw[show off+(i+1)=off+1+i by omega]at ih;rw[hb,ih];rfl
section
variable{c:Cx}{σ:Vw}{κ:Nat->Bool}{fr:Nat}{o:Oper}{r:aM}
theorem aYu{t:TypeId}{a x:X}{k:X->O}(h:U0 c σ t a x k=some r):∃y,k y=some r/\y.pl=true/\(σ.On->∀{xa xn:Operand},o.op = .indexAddr t xa xn->σ.den.ev xa=some a.D->σ.den.ev xn=some x.D->aZ c.P o σ.den fr y.D []):=by
 unfold U0 at h;replace h:=Gt h;obtain⟨ik,n,hx,h⟩:=h;split at h
 .rename_i q off
  split at h
  .rename_i m s hs
   obtain⟨h1,h2⟩:=mS h;refine⟨_,h1,rfl,λhon xa xn ho ha hn=>?_⟩;obtain⟨g1,g2⟩:=cT (h2 hon.g);rw[hx]at hn;exact aEo (P:=c.P) (fr:=fr) ho hs ha hn g1 g2
  .cases h
 .cases h
theorem aY8{t:TypeId}{a:X}{k:X->O}(h:UK c σ t a k=some r):∃y,k y=some r/\y.pl=true/\(σ.On->∀{x:Operand},o.op = .load t x->σ.den.ev x=some a.D->aZ c.P o σ.den fr y.D []):=by
 unfold UK at h;split at h
 .rename_i q off hrw
  split at h
  .rename_i e τ y xs hq
   split at h
   .rename_i h1
    obtain⟨l,hl,h⟩:=bD h;obtain⟨z,h3,h4⟩:=D2 h;refine⟨_,h3,rfl,λhon x ho hx=>?_⟩;obtain⟨_,g2⟩:=h4 hon.g;rw[Int.toNat_natCast]at g2;refine G2 hrw ho hx (dI hq) ?_;have e1:=UN hl;show((X.e τ y::xs).map X.D)[off]?=_;rw[e1,mZ,cY,g2];rfl
   .cases h
  .cases h
 .cases h
theorem aWR{t:TypeId}{a y:X}{k:X->Wx->O}(h:Sw c σ t a y k=some r):∃W,k (.aU []) W=some r/\∀{x z:Operand},o.op = .store t x z->σ.den.ev x=some a.D->σ.den.ev z=some y.D->y.val=true->aZ c.P o σ.den fr (.aU []) (WA W):=by
 unfold Sw at h;split at h
 .rename_i q off τ z hm
  split at h
  .rename_i h1
   split at h
   .rename_i e xs hq
    obtain⟨l,hl,h⟩:=bD h;obtain⟨hlt,h⟩:=fH h;have hlt:=cT hlt;refine⟨_,h,λho hx hz hv=>?_⟩;have e1:=UN hl;have e2:=aER τ off z l 0;rw[iU]at e2;have hc:=Nx hv;have hcl:(X.e τ z).cells=[X.e τ z]:=rfl;refine Ti (d:=(X.e τ z).D) (ob':=(XO.box e (wH τ off z 0 l)).A) ho ?_ hx (.ev hz) (Fg hv) (dI hq) ?_ ?_
    .rw[hc,hcl];exact hm
    .show(if off+(X.e τ z).D.cells.length<=(xs.map X.D).length then _ else none)=_
     rw[hc,hcl,e1,aJ (by simp;omega),e2];simp only[XO.A]
     congr 2
     show c8 ((l.map (X.e τ)).map X.D) off [(X.e τ z).D]=((l.set off z).map (X.e τ)).map X.D;rw[mZ,mZ,List.map_set,List.set_eq_take_append_cons_drop,aJ (by simpa using hlt)];simp[c8]
    .rw[hc,hcl];exact Nat.one_pos
   .cases h
  .cases h
 .cases h
end
section
variable{P:Program}{o:Oper}{s:St}{fr:Nat}
theorem aYB{t e e0:TypeId}{x:Operand}{hi:Option Operand}{sz N q:Nat}{ts:List Tree}{n:Int}(hu:P.underlying t=some (.slice e))(hs:fL P e=some sz)(ho:o.op = .slice t x none hi none)(hx:s.ev x=some (.own q))(hq:s.H q=some (.row e0 sz N ts false))
    (hhi:l8 s hi (some n)) (h0:0<=n) (hn:n<=N):aZ P o s fr (.own fr) [(fr,some (.row e0 sz n.toNat (ts.take (n.toNat*sz)) false)),(q,none)]:=by
 intro E σ₁ a w hT hH h100 hf hd ⟨ν,G,I⟩ Q;obtain⟨hv,hk⟩:=qZ (I.ev (St.c7 hT hx));obtain⟨kh,e2⟩:=hhi.run (ρ:=a.eval) (λx d h=>cC (I.ev (St.c7 hT h)));obtain⟨inf,hinf,hsz⟩:=cR.1 hs;have hqq:=hH q _ hq;have hob:=(I.H q _ hqq).2;obtain⟨xs,r1,r2,r3,r4⟩:=id hob;have key:∃v',(execOp a.eval o).run P w = .ok (.value v') w/\w.ownsRow 0 e0 sz v' n.toNat (xs.take (n.toNat*sz))/\(∀g,aV v'=some g->aV (ν q)=some g):=by
  have hxl:=r1.1;rcases r1.2 with⟨hz,h00⟩|⟨g,cap,cur,hz,q1,q2,q3,q4,q5,q6⟩
  .subst h00
   have hb:=xI (P:=P) (w:=w) (isS:=true) (n:=0) (cap:=0) (lo:=none) (hi:=some n) (kl:=.i64) (kh:=kh) (by simp[dQ,eO]) (by simp[eO];omega) (λ_ h=>by cases h) (λb h=>by cases h;exact h0);have z1:n.toNat=0:=by omega
   simp only[eO,dQ,z1]at hb;refine⟨.slice none 0 0,?_,?_,λg hg=>by cases hg⟩
   .unfold execOp
    rw[ho];simp only[hv,hz,e2,pG,iT]at hb ⊢;simp[Instr.sliceAt,Instr.slice,run_underlying hu,hb,sizeOf,typeInfo,hinf]
   .rw[z1]
    have:xs.take (0*sz)=[]:=by simp
    rw[this];exact World.ownsRow_nil w 0 e0 sz
  .have hb:=xI (P:=P) (w:=w) (isS:=true) (n:=N) (cap:=cap) (lo:=none) (hi:=some n) (kl:=.i64) (kh:=kh) (by simp[dQ,eO]) (by simp only[eO];omega) (λ_ h=>by cases h) (λb h=>by cases h;exact h0)
   simp only[eO,dQ]at hb;refine⟨.slice (some ⟨g,0,none⟩) n.toNat cap,?_,⟨?_,.inr ⟨g,cap,cur,rfl,q1,q2,by omega,q4,q5,?_⟩⟩,λg' hg=>by rw[hz];exact hg⟩
   .unfold execOp
    rw[ho];simp only[hv,hz,e2,pG,iT]at hb ⊢;have hadd0:(⟨g,0,none⟩:Addr).add 0=⟨g,0,none⟩:=by rw[Addr.add_mid]
    simp[Instr.sliceAt,Instr.slice,run_underlying hu,hb,sizeOf,typeInfo,hinf,hsz,hadd0]
   .rw[fJ,hxl]
    exact Dm (kV _ (by omega))
   .rw[<-q6,a1b,Dm (kV _ (by omega))]
 obtain⟨v',he,r2',hblk⟩:=key;unfold Oper.wp;rw[he,Oper.upon_value];have hG0:∀g,aV (ν q)=some g->E.may g/\G g=0:=λg hg=>by simpa using r4 g hg
 refine⟨put_defers ..,bZ ν fr v',_,I.new (G':=G) h100 hf hd (some q) (o:=.row e0 sz n.toNat (ts.take (n.toNat*sz)) false) (λk=>?_) rfl rfl rfl (cQ _) (λb hb hnk=>⟨rfl,rfl⟩) (λ_ _ _ h=>h) (λk hk=>by cases hk;exact⟨_,hqq⟩) (x:=v') (λg hg=>.inr ⟨q,rfl,hblk g hg⟩) ?_ ?_⟩
 .by_cases h:k=fr
  .subst h;simp[Ab.look]
  .by_cases h':k=q
   .subst h';simp[Ab.look,h,eF h]
   .simp[Ab.look,h,eF h,h',eF h']
 .refine⟨xs.take (n.toNat*sz),by rw[b7];exact r2',by simp[r2],λi u t hu ht=>?_,λg hg=>?_⟩
  .rw[eN]at hu ht
   split at hu
   .rename_i hi
    rw[aJ hi]at ht;exact r3 i u t hu ht
   .cases hu
  .rw[b7]at hg
   simpa using hG0 g (hblk g hg)
 .have:DR (bZ ν fr v') (σ₁.aS o.dst .any [(fr,some (.row e0 sz n.toNat (ts.take (n.toNat*sz)) false)),(q,none)] fr).nm w G (bZ ν fr v' fr) (.own fr):=.own (kA ..) (by rw[b7];exact lV r2')
  rw[b7]at this;exact this
theorem aXW{t e:TypeId}{x:Operand}{lo hi:Option Operand}{a b:Option Int}{sz:Nat}(hu:P.underlying t=some (.slice e))(hs:fL P e=some sz)(ho:o.op = .slice t x lo hi none)(hx:s.ev x=some (.t (.v (.slice none 0 0))))(hlo:l8 s lo a)(hhi:l8 s hi b)(hz:(B9 a&&B9 b)=true):aZ P o s fr (.t (.v (.slice none 0 0))) []:=
 dF λE σ₁ ν G w ac hH I hev=>by
  have hd:=cC (hev x _ hx);obtain⟨kl,e1⟩:=hlo.run (ρ:=ac.eval) (λx d h=>cC (hev x _ h));obtain⟨kh,e2⟩:=hhi.run (ρ:=ac.eval) (λx d h=>cC (hev x _ h));obtain⟨inf,hinf,hsz⟩:=cR.1 hs;rw[bM]at hz;have za:dQ a=0/\∀x,a=some x->0<=x:=by
   cases a with
   |none=>exact⟨rfl,λx h=>by cases h⟩
   |some x=>have:=cT hz.1;subst this;exact⟨rfl,λx h=>by cases h;exact Int.le_refl _⟩
  have zb:eO 0 b=0/\∀x,b=some x->0<=x:=by
   cases b with
   |none=>exact⟨rfl,λx h=>by cases h⟩
   |some x=>have:=cT hz.2;subst this;exact⟨rfl,λx h=>by cases h;exact Int.le_refl _⟩
  have hb:=xI (P:=P) (w:=w) (isS:=true) (n:=0) (cap:=0) (lo:=a) (hi:=b) (kl:=kl) (kh:=kh) (by omega) (by omega) za.2 zb.2;rw[za.1,zb.1]at hb;refine⟨.slice none 0 0,?_,.t (.v _ rfl)⟩;unfold execOp;rw[ho];simp only[hd,e1,e2,pG];simp[Instr.sliceAt,Instr.slice,run_underlying hu,hb,sizeOf,typeInfo,hinf]
theorem aYD{t e:TypeId}{x:Operand}(hu:P.underlying t=some (.slice e))(ho:o.op = .call { callee:=.builtin .cap,args:=#[x],argTypes:=#[t] })(hx:s.ev x=some (.t (.v (.slice none 0 0)))):aZ P o s fr (I 0) []:=
 dF λE σ₁ ν G w ac hH I hev=>by
  have hd:=cC (hev x _ hx);refine⟨.int .i64 0,?_,.t (.v _ rfl)⟩;unfold execOp;rw[ho];simp[resolve,invoke,builtin,hd,Builtin.cap_,run_underlying hu,goInt]
end
section
variable{c:Cx}{σ:Vw}{κ:Nat->Bool}{fr:Nat}{o:Oper}{k:X->Wx->O}{r:aM}
theorem aZW(hσ:σ.Ok κ){t:TypeId}{x:Operand}{hi:Option Operand}{q:Nat}(ho:o.op = .slice t x none hi none)(hx:σ.ev x=some (.own q))(h:σ.kD hi (λhi=>Uw c σ fr t q hi k)=some r):dU c σ fr o k r:=by
 obtain⟨b,h,hb⟩:=wL hσ h;unfold Uw at h;split at h
 .rename_i e e' τ l n hu hq
  split at h
  .rename_i m hm
   split at h
   .rename_i hs
    have hs:=bF hs;subst hs;obtain⟨hd,h⟩:=fH h;obtain⟨h0,hn⟩:=cT hd;refine⟨_,_,h,rfl,λhon=>?_⟩;have:=aYB (P:=c.P) (fr:=fr) hu hm ho (bC hσ hon hx) (dI hq) (hb hon) h0 hn;unfold WA;simp only[eX,pM,iT,pG,XO.A,fJ];rw[BF (λx=>dB τ x)]at this;rw[show min n.toNat l.length=n.toNat by omega];exact this
   .cases h
  .cases h
 .cases h
theorem aZG(hσ:σ.Ok κ){t:TypeId}{x:Operand}{lo hi:Option Operand}(ho:o.op = .slice t x lo hi none)(hx:σ.ev x=some .bI) (h:σ.kD lo (λlo=>σ.kD hi λhi=>match c.P.underlying t with
        |some (.slice e)=>match fL c.P e with
          |some _=>kI (σ.g.map (·.2)) (B9 lo&&B9 hi) (k .bI [])
          |none=>none
        |_=>none)=some r):dU c σ fr o k r:=by
  obtain⟨a,h,ha⟩:=wL hσ h;obtain⟨b,h,hb⟩:=wL hσ h;split at h
  .rename_i e hu
   split at h
   .rename_i m hm
    obtain⟨h,hz⟩:=mS h;exact⟨_,_,h,rfl,λhon=>aXW (P:=c.P) (fr:=fr) hu hm ho (bC hσ hon hx) (ha hon) (hb hon) (hz hon.g)⟩
   .cases h
  .cases h
end
theorem aE0{P:Program}{t t' ty e:TypeId}{z:Value}{s bytes:Nat}(hT:l9 P t e z s bytes)(ht':P.underlying t'=some (.int .i64)){n:Nat}(hm:n<=maxLen)(hb:n*bytes<=140737488355328)(w:World):
    ∃v' w',(Builtin.append_ #[t,t'] ty #[.slice none 0 0,.int .i64 n]).run P w = .ok v' w'/\w'.ownsRow 0 e s v' n (bY n z.cells.toList).flatten/\cG w w'/\∀g,aV v'=some g->w.heap.size<=g:=by
 obtain⟨i,hi,hz,h2,h3⟩:=info_parts hT.i;have hmx:n<=9223372036854775807:=by simp only[maxLen]at hm;omega
 have hw:aA.wrap (n:Int)=n:=IntWalk.i64_in _ ⟨by omega,by omega⟩;have hneg:¬ ((n:Int)<0):=by omega
 have hby:¬ (281474976710656<(n:Int)*(i.bytes:Int)):=by
  rw[h3];have:((n*bytes:Nat):Int)<=281474976710656:=by omega
  rw[a1w]at this;omega
 by_cases hn:n=0
 .subst hn
  refine⟨.slice none 0 0,w,?_,by simpa using World.ownsRow_nil w 0 e s,cG.refl w,λg hg=>by cases hg⟩;simp[Builtin.append_,run_underlying hT.u,run_underlying ht',sizeOf,typeInfo,hi,Go.asInt,asIntOf,(show aA.wrap 0=0 by decide)]
 .have hs0:=hT.s
  have h63:¬ (9223372036854775807<(n:Int)):=by omega
  have h48:¬ (281474976710656<Builtin.nextslicecap n 0*i.bytes):=by rw[nextslicecap_zero (by omega),h3];omega
  have hnz:¬ (n*i.size=0):=by rw[h2];exact Nat.ne_of_gt (Nat.mul_pos (by omega) hs0)
  have hnz':¬ (n=0\/i.size=0):=by rw[h2];omega
  have hge:=grownCap_ge w n 0 e;have hcm:grownCap w n 0 e<=maxLen:=grownCap_le_maxLen w n 0 e hm;have hzc:(Builtin.zeroCells z.cells n).toList=(bY n z.cells.toList).flatten:=by
   have:=UE hT.z hT.s n;rw[<-hT.z]at this;exact this
  have hzl:(Builtin.zeroCells z.cells n).size=n*s:=by rw[size_zeroCells,hT.z]
  refine⟨.slice (some ⟨w.heap.size,0,none⟩) n (grownCap w n 0 e),w.drew.alloc (.cells (Builtin.zeroCells z.cells n++Builtin.zeroCells z.cells (grownCap w n 0 e-n)) e),?_,⟨?_,.inr ⟨w.heap.size,_,_,rfl,xO _,heap_alloc_new w.drew _,hge,hcm,?_,?_⟩⟩,⟨rfl,rfl,rfl,by simp,λb hb=>heap_alloc_old w.drew _ hb⟩,λg hg=>by cases hg;exact cQ _⟩
  .simp[Builtin.append_,run_underlying hT.u,run_underlying ht',sizeOf,typeInfo,zeroValue,hi,hz,Go.asInt,asIntOf,hw,hneg,hby,hn,h63,h48,Question.forced,run_firstCells_none,newRow,grownCap]
   exact λh=>absurd h hnz
  .rw[<-hzc,nE,hzl]
  .rw[a2J,hzl,size_zeroCells,hT.z,<-iL]
   congr 1
   omega
  .rw[a2I,<-hzc,<-hzl,<-nE]
   exact aGq
theorem aYJ{P:Program}{o:Oper}{σ:St}{fr:Nat}{t t' e:TypeId}{z:Value}{s bytes:Nat}(st:Bool){x y:Operand}{n:Nat}{zt:List Tree}(hT:l9 P t e z s bytes)(hz:iK z.cells.toList zt)(ht':P.underlying t'=some (.int .i64))(ho:o.op = .call { callee:=.builtin .append,args:=#[x,y],argTypes:=#[t,t'] })
    (hx:σ.ev x=some (.t (.v (.slice none 0 0)))) (hy:σ.ev y=some (I n)) (hb:n*bytes<=140737488355328/\n<=maxLen):aZ P o σ fr (.own fr) [(fr,some (.row e s n (bY n zt).flatten st))]:=by
 intro E σ₁ a w hTT hHH h100 hf hd ⟨ν,G,I⟩ Q;have hxv:=cC (I.ev (St.c7 hTT hx));have hyv:=cC (I.ev (St.c7 hTT hy));obtain⟨v',w',hr,r1,hA,hbk⟩:=aE0 (ty:=o.type) hT ht' hb.2 hb.1 w;have he:(execOp a.eval o).run P w = .ok (.value v') w':=by
  unfold execOp;rw[ho];simp[resolve,invoke,builtin,hxv,hyv,hr]
 unfold Oper.wp;rw[he,Oper.upon_value]
 let G':bT:=λb=>if aV v'=some b then(if st then n*s else 0)else G b
 have hG:∀b,b<w.heap.size->G' b=G b:=λb hb'=>aH (λe=>by have:=hbk b e;omega)
 have hzr:=(hz.GF n).rel w' G';refine⟨put_defers ..,_,_,I.fresh (G':=G') h100 hf hd hA hG (x:=v') (λg hg=>hbk g hg) ?_ ?_⟩
 .refine⟨_,by rw[b7];exact r1,hzr.1,hzr.2,λg hg=>?_⟩
  rw[b7]at hg;exact⟨.inl (pK I.kept.size (hbk g hg)),aJ hg⟩
 .have:DR (bZ ν fr v') (σ₁.aS o.dst .any [(fr,some (.row e s n (bY n zt).flatten st))] fr).nm w' G' (bZ ν fr v' fr) (.own fr):=.own (kA ..) (by rw[b7];exact lV r1)
  rw[b7]at this;exact this
theorem aW9{P:Program}{t t' ty e:TypeId}{z:Value}{s bytes:Nat}(hT:l9 P t e z s bytes)(ht':P.underlying t'=some (.int .i64)){w:World}{v:Value}{n:Nat}{xs:List Value}(hown:w.ownsRow 0 e s v n xs){m:Nat}
    (h1:∀u∈(bY m z.cells.toList).flatten,u.oneCell'=true) (h63:n+m<=maxLen) (hbytes:(n+m)*bytes<=140737488355328):
    ∃v' w',(Builtin.append_ #[t,t'] ty #[v,.int .i64 m]).run P w = .ok v' w'/\w'.ownsRow 0 e s v' (n+m) (xs++(bY m z.cells.toList).flatten)/\w'.os=w.os/\w'.tape=w.tape/\w'.output=w.output/\w.heap.size<=w'.heap.size /\
     (∀b,b<w.heap.size->v.ownBlock≠some b->w'.heap[b]?=w.heap[b]?)/\(∀g i,v.ownBlock=some g->i<n*s->w'.cell? ⟨g,i,none⟩=w.cell? ⟨g,i,none⟩)/\∀g,v'.ownBlock=some g->w.heap.size<=g\/v.ownBlock=some g:=by
 obtain⟨i,hi,hz,h2,h3⟩:=info_parts hT.i;have hs0:=hT.s;have hmx:m<=9223372036854775807:=by simp only[maxLen]at h63;omega
 have hw:aA.wrap (m:Int)=m:=IntWalk.i64_in _ ⟨by omega,by omega⟩;have hneg:¬ ((m:Int)<0):=by omega
 have hmb:m*bytes<=(n+m)*bytes:=kV _ (Nat.le_add_left _ _);have hby:¬ (281474976710656<(m:Int)*(i.bytes:Int)):=by
  rw[h3];have:((m*bytes:Nat):Int)<=281474976710656:=by omega
  rw[a1w]at this;omega
 have hzc:(Builtin.zeroCells z.cells m).toList=(bY m z.cells.toList).flatten:=by
  have:=UE hT.z hT.s m;rw[<-hT.z]at this;exact this
 have hzl:(Builtin.zeroCells z.cells m).size=m*s:=by rw[size_zeroCells,hT.z]
 generalize hnews:(bY m z.cells.toList).flatten=news at *
 have hnl:news.length=m*s:=by rw[<-hzc,nE,hzl]
 have hza:Builtin.zeroCells z.cells m=news.toArray:=by rw[<-hzc]
 have hlen:(xs++news).length=(n+m)*s:=by rw[cP,hown.1,hnl,iL]
 rcases hown.2 with⟨rfl,rfl⟩|⟨g,cap,cur,rfl,_,hg,hnc,hcm,hcs,htake⟩
 .have hx:xs=[]:=HI (by simpa using hown.1)
  subst hx;obtain⟨v',w',hr,r1,hA,hbk⟩:=aE0 (ty:=ty) hT ht' (n:=m) (by omega) (by omega) w;refine⟨v',w',hr,?_,hA.os,hA.tape,hA.output,hA.size,λb hb _=>hA.block b hb,(λg i hg _=>by cases hg),λg hg=>.inl (hbk g (by rw[jR r1];exact hg))⟩;rw[eD,fR,<-hnews];exact r1
 .by_cases hm:m=0
  .subst hm
   have:news=[]:=HI (by simpa using hnl);subst this;refine⟨_,w,?_,by simpa using hown,rfl,rfl,rfl,cQ _,λ_ _ _=>rfl,λ_ _ _ _=>rfl,λg hg=>.inr hg⟩;simp[Builtin.append_,run_underlying hT.u,run_underlying ht',sizeOf,typeInfo,hi,Go.asInt,asIntOf,(show aA.wrap 0=0 by decide),hnc,storeCells]
  .have hnz:¬ (m*i.size=0):=by rw[h2];exact Nat.ne_of_gt (Nat.mul_pos (by omega) hs0)
   by_cases hroom:n+m<=cap
   .have hfit:n*i.size+news.length<=cur.size:=by rw[hnl,hcs,h2,<-iL];exact kV _ hroom
    have hst:=run_storeCells_at P g (n*i.size) e news 0 cur w hg (by simpa using hfit) h1;simp only[iU]at hst;have hr:(Builtin.append_ #[t,t'] ty #[.slice (some ⟨g,0,none⟩) n cap,.int .i64 m]).run P w = .ok (.slice (some ⟨g,0,none⟩) (n+m) cap) (w.setRow g (cur.toList.take (n*i.size)++news++cur.toList.drop (n*i.size+news.length)).toArray):=by
     simp[Builtin.append_,run_underlying hT.u,run_underlying ht',sizeOf,typeInfo,zeroValue,hi,hz,Go.asInt,asIntOf,hw,hneg,hby,hroom,hza,Addr.add_lit,hst];exact λh=>absurd h hnz
    have r2:(w.setRow g (cur.toList.take (n*i.size)++news++cur.toList.drop (n*i.size+news.length)).toArray).ownsRow 0 e s (.slice (some ⟨g,0,none⟩) (n+m) cap) (n+m) (xs++news):=by
     refine⟨hlen,.inr ⟨g,cap,_,rfl,xO _,setRow_heap w g cur _ e _ hg,hroom,hcm,?_,?_⟩⟩
     .simp only[aGt,cP,fJ,pN,nE]
      rw[hnl,hcs,h2];have:(n+m)*s<=cap*s:=kV _ hroom;rw[iL]at this;omega
     .rw[h2,htake,<-hlen]
      exact aGq
    refine⟨_,_,hr,r2,rfl,rfl,rfl,by simp,λb _ hb=>setRow_other w g b _ (λe=>hb (by simp[Value.ownBlock,e])),λg' j hg' hj=>?_,λg' hg'=>.inr hg'⟩;have e1:g'=g:=by simpa[Value.ownBlock]using hg'.symm
    subst e1;have hx:xs[j]?=some (xs[j]'(by rw[hown.1];exact hj)):=bJ _;have c1:=hown.cells (g:=g') rfl j _ hx;have c2:=r2.cells (g:=g') rfl j _ (by rw[dJ (by rw[hown.1];exact hj)];exact hx);rw[Addr.add_mid,eD]at c1 c2;rw[c1,c2]
   .have holds:∀j u,xs[j]?=some u->w.cell? ((⟨g,0,none⟩:Addr).add j)=some u:=hown.cells (g:=g) rfl
    have hfo:=run_firstCells_some (P:=P) w.drew i.size n ⟨g,0,none⟩ n cap xs (by rw[h2];exact hown.1) (by simpa using holds);have h48':¬ (281474976710656<Builtin.nextslicecap (n+m) cap*i.bytes):=by
     have:=growslice_fits (need:=n+m) (old:=cap) (bytes:=bytes) (by omega) hbytes;rw[h3];omega
    have h63':¬ (9223372036854775807<((n:Int)+(m:Int))):=by simp only[maxLen]at h63;omega
    have hr:(Builtin.append_ #[t,t'] ty #[.slice (some ⟨g,0,none⟩) n cap,.int .i64 m]).run P w =
        .ok (.slice (some ⟨w.heap.size,0,none⟩) (n+m) (grownCap w (n+m) cap e)) (w.drew.alloc (.cells ((xs++news).toArray++Builtin.zeroCells z.cells (grownCap w (n+m) cap e-(n+m))) e)):=by
     simp[Builtin.append_,run_underlying hT.u,run_underlying ht',sizeOf,typeInfo,zeroValue,hi,hz,Go.asInt,asIntOf,hw,hneg,hby,hroom,h63',h48',Question.forced,hza,hfo,newRow,grownCap];rw[aH hnz]
     congr 3
     apply tX;simp
    have hge:=grownCap_ge w (n+m) cap e;have hcm':grownCap w (n+m) cap e<=maxLen:=grownCap_le_maxLen w (n+m) cap e h63;refine⟨_,_,hr,⟨hlen,.inr ⟨w.heap.size,_,_,rfl,xO _,heap_alloc_new w.drew _,hge,hcm',?_,?_⟩⟩,rfl,rfl,rfl,by simp,λb hb _=>heap_alloc_old w.drew _ hb,λg' j hg' hj=>?_,λg' hg'=>?_⟩
    .simp only[a2J,aGt,size_zeroCells,hT.z,hlen,<-iL]
     congr 1
     omega
    .simp only[a2I]
     rw[<-hlen];exact aGq
    .have e1:g'=g:=by simpa[Value.ownBlock]using hg'.symm
     subst e1;exact World.cell?_of_block (a:=⟨g',j,none⟩) (heap_alloc_old w.drew _ (hown.lt g' rfl).2)
    .simp only[Value.ownBlock,Option.some.injEq]at hg'
     exact .inl (by omega)
theorem aYI{P:Program}{o:Oper}{σ:St}{fr:Nat}{t t' e:TypeId}{z:Value}{size bytes:Nat}(st:Bool){s x:Operand}{k n m:Nat}{ts zt:List Tree}(hT:l9 P t e z size bytes)(hz:iK z.cells.toList zt)(ht':P.underlying t'=some (.int .i64))(ho:o.op = .call { callee:=.builtin .append,args:=#[s,x],argTypes:=#[t,t'] })
    (hs:σ.ev s=some (.own k)) (hk:σ.H k=some (.row e size n ts st)) (hx:σ.ev x=some (I m)) (hb:(n+m)*bytes<=140737488355328/\n+m<=maxLen):aZ P o σ fr (.own fr) (jK (some k) fr (.row e size (n+m) (ts++(bY m zt).flatten) st)):=by
 intro E σ₁ a w hTT hHH h100 hf hd ⟨ν,G,I⟩ Q;have hxv:=cC (I.ev (St.c7 hTT hx));have hzr:=(hz.GF m).rel w G;have hone:∀u∈(bY m z.cells.toList).flatten,u.oneCell'=true:=λu hu=>by
  obtain⟨i,hi⟩:=iA.1 hu;have hlt:i<((bY m zt).flatten).length:=by rw[<-hzr.1];exact(bU.1 hi).1
  exact(hzr.2 i u _ hi (bJ hlt)).one
 have hrow:∃v xs,a.eval s=v/\w.ownsRow 0 e size v n xs/\xs.length=ts.length/\(∀(i:Nat)(u:Value)(t:Tree),xs[i]?=some u->ts[i]?=some t->TR w G u t)/\(∀k',some k'=some k->ν k'=v/\∃ob,σ₁.H k'=some ob)/\(some k=none->v.ownBlock=none) /\
     (∀g,v.ownBlock=some g->E.may g/\G g=if st then n*size else 0):=by
  have hv:=I.ev (St.c7 hTT hs);obtain⟨v,he⟩:∃v,a.eval s=v:=⟨_,rfl⟩
  rw[he]at hv;cases hv with
  |own _ _=>
    obtain⟨xs,r1,r2,r3,r4⟩:=(I.H _ _ (hHH _ _ hk)).2;exact⟨_,xs,he,r1,r2,r3,(λk' hk'=>by cases hk';exact⟨rfl,_,hHH _ _ hk⟩),(λe=>by cases e),λg hg=>r4 g (aG2 hg)⟩
 obtain⟨v,xs,hsv,hown,hxl,hxt,hk0,hk0n,hmay⟩:=hrow;obtain⟨v',w',hr,r2,q1,q2,q3,q4,q5,q6,q7⟩:=aW9 (ty:=o.type) hT ht' hown (m:=m) hone hb.2 hb.1;generalize hus:(bY m z.cells.toList).flatten=us at *
 generalize hys:(bY m zt).flatten=ys at *
 have hul:=hzr.1;have htr:=hzr.2;have hk0o:∃k0,k0=some k:=⟨_,rfl⟩
 obtain⟨k0,hk0e⟩:=hk0o;rw[<-hk0e]at hk0 hk0n ⊢;unfold Oper.wp;have he:(execOp a.eval o).run P w = .ok (.value v') w':=by
  unfold execOp;rw[ho];simp[resolve,invoke,builtin,hsv,hxv,hr]
 rw[he,Oper.upon_value];have hcell:∀b i u,Cell w G b i u->Cell w' (λb=>if v'.ownBlock=some b then(if st then(n+m)*size else 0)else G b) b i u:=λb i u h=>by
  by_cases hb':v.ownBlock=some b
  .have hG:=(hmay b hb').2
   have h2:=h.2;rw[hG]at h2;cases st with
   |false=>simp at h2
   |true=>
     simp only[fY]at h2 hG;refine⟨(q6 b i hb' h2).trans h.1,?_⟩;show i<if v'.ownBlock=some b then(if true=true then(n+m)*size else 0)else G b
     split
     .simp only[fY]
      exact Nat.lt_of_lt_of_le h2 (kV _ (aGn _ _))
     .rw[hG];exact h2
  .refine⟨(World.cell?_of_block (a:=⟨b,i,none⟩) (q5 b h.lt hb')).trans h.1,?_⟩
   have:v'.ownBlock≠some b:=λe=>by
    rcases q7 b e with h'|h'
    .have:=h.lt;omega
    .exact hb' h'
   simp only[aH this];exact h.2
 have hblkv:∀g,aV v'=some g->v'.ownBlock=some g:=λg hg=>by rw[<-jR r2];exact hg
 refine⟨put_defers ..,bZ ν fr v',_,I.new h100 hf hd k0 (o:=.row e size (n+m) (ts++ys) st) (λk=>?_) q1 q2 q3 q4 (λb hb hnk=>?_) hcell (λk hk=>(hk0 k hk).2) (x:=v') (λg hg=>?_) ?_ ?_⟩
 .cases k0 with
  |none=>
    by_cases h:k=fr
    .subst h;simp[jK,Ab.look]
    .simp[jK,Ab.look,h,eF h]
  |some j=>
    by_cases h:k=fr
    .subst h;simp[jK,Ab.look]
    .by_cases h':k=j
     .subst h';simp[jK,Ab.look,h,eF h]
     .simp[jK,Ab.look,h,eF h,h',eF h']
 .have hne:v.ownBlock≠some b:=λe=>by
   cases k0 with
   |none=>rw[hk0n rfl]at e;cases e
   |some j=>exact hnk j rfl (by rw[(hk0 j rfl).1,jR hown];exact e)
  refine⟨q5 b hb hne,aH (λe=>?_)⟩;rcases q7 b e with h|h
  .omega
  .exact hne h
 .rcases q7 g (hblkv g hg)with h|h
  .exact .inl h
  .cases k0 with
   |none=>rw[hk0n rfl]at h;cases h
   |some j=>exact .inr ⟨j,rfl,by rw[(hk0 j rfl).1,jR hown];exact h⟩
 .refine⟨xs++us,by rw[b7];exact r2,by simp[hxl,hul],λi u t hu ht=>?_,λg hg=>?_⟩
  .by_cases hi:i<xs.length
   .rw[dJ hi]at hu
    rw[dJ (by omega)]at ht;exact(hxt i u t hu ht).mono hcell
   .rw[eS (by omega)]at hu
    rw[eS (by omega)]at ht;exact(htr _ u t hu (by rw[hxl];exact ht)).mono hcell
  .rw[b7]at hg
   have hg':=hblkv g hg;refine⟨?_,aJ hg'⟩;rcases q7 g hg' with h|h
   .exact .inl (pK I.kept.size h)
   .exact(hmay g h).1
 .have:DR (bZ ν fr v') (σ₁.aS o.dst .any (jK k0 fr (.row e size (n+m) (ts++ys) st)) fr).nm w' (λb=>if v'.ownBlock=some b then(if st then(n+m)*size else 0)else G b) (bZ ν fr v' fr) (.own fr):=.own (kA ..) (by rw[b7];exact lV r2)
  rw[b7]at this;exact this
section
variable{c:Cx}{σ:Vw}{κ:Nat->Bool}{fr:Nat}{o:Oper}{k:X->Wx->O}{r:aM}
theorem aZ6(hσ:σ.Ok κ){t t':TypeId}{x y:Operand}{st:Bool}(ho:o.op = .call { callee:=.builtin .append,args:=#[x,y],argTypes:=#[t,t'] })(h:VO c σ fr st t t' x y k=some r):dU c σ fr o k r:=by
 unfold VO at h;obtain⟨⟨e,τ,b⟩,hE,h⟩:=bD h;simp only at h;obtain⟨v,hv,h2⟩:=bD h;clear h;obtain⟨w,hw,h⟩:=bD h2;clear h2;split at h
 .rename_i n ht
  unfold GY at h;obtain⟨h0,h⟩:=fH h;obtain⟨hb,h⟩:=fH h;refine⟨_,_,h,rfl,λhon=>?_⟩;obtain⟨z,hA,hz⟩:=pE hE;have h0:(0:Int)<=(n:Int):=cT (p:=(0:Int)<=(show Int from n)) h0;unfold b9 at hb;have hb:=cT hb;have hn:((OS n:Nat):Int)=n:=a1u h0;have hy1:σ.den.ev y=some (I (OS n:Nat)):=by
   rw[hn];exact bC hσ hon hw
  have:=aYJ (P:=c.P) (fr:=fr) st hA hz ht ho (bC hσ hon hv) hy1 ⟨hb.1,by simp only[maxLen];have:=hb.2;omega⟩;have hfl:∀m:Nat,(bY m τ.zero).flatMap (aR τ)=(bY m (aR τ τ.zero)).flatten:=λm=>by
   induction m with
   |zero=>rfl
   |succ m ih=>rw[pL,pL,gO,Dt,ih]
  unfold WA;simp only[eX,pM,iT,XO.A,HD,hfl];exact this
 .rename_i q n ht
  split at h
  .rename_i e' τ' l st' hq
   generalize eA τ' τ=p at h;cases p with
   |none=>cases h
   |some g=>
     obtain⟨g⟩:=g;subst g;simp only at h;split at h
     .rename_i hb
      have hb:=bF hb;subst hb;have h:U4 τ' e' fr b q st' l n k=some r:=h;unfold U4 at h;obtain⟨h0,h⟩:=fH h;obtain⟨hb,h⟩:=fH h;refine⟨_,_,h,rfl,λhon=>?_⟩;obtain⟨z,hA,hz⟩:=pE hE;have h0:(0:Int)<=(n:Int):=cT (p:=(0:Int)<=(show Int from n)) h0;unfold b9 at hb;have hb:=cT hb;have hn:((OS n:Nat):Int)=n:=a1u h0;have hy1:σ.den.ev y=some (I (OS n:Nat)):=by
       rw[hn];exact bC hσ hon hw
      have:=aYI (P:=c.P) (fr:=fr) st' hA hz ht ho (k:=q) (n:=dN l) (m:=OS n) (ts:=b8 (aR τ') l) (bC hσ hon hv) (by rw[dI hq];rfl) hy1 ⟨hb.1,by simp only[maxLen];have:=hb.2;omega⟩;have hfl:∀m:Nat,(bY m τ'.zero).flatMap (aR τ')=(bY m (aR τ' τ'.zero)).flatten:=λm=>by
       induction m with
       |zero=>rfl
       |succ m ih=>rw[pL,pL,gO,Dt,ih]
      unfold WA;simp only[eX,pM,iT,pG,XO.A];rw[cP,HD,Du,hfl];exact this
     .cases h
  .cases h
 .cases h
end
section
variable{c:Cx}{σ:Vw}{κ:Nat->Bool}{fr:Nat}{o:Oper}{k:X->Wx->O}{r:aM}
theorem aEW{P:Program}{t:TypeId}{ms:_}(hu:P.underlying t=some (.interface ms))(w:World):(Op.equal t .nilIface .nilIface).run P w = .ok true w:=by
 obtain⟨d,hd⟩:∃d,Op.maxDepth=d+1:=⟨9999,rfl⟩
 unfold Op.equal;rw[hd];simp[Op.equalIn,run_underlying hu]
theorem aZH(hσ:σ.Ok κ){op:BinOp}{xt yt:TypeId}{x y:Operand}{v w:X}{b:Bool}(ho:o.op = .binOp op xt x y yt)(hx:σ.ev x=some v)(hy:σ.ev y=some w)(hn:Tt c.P xt op v w y=some b)(h:k (.e .bo b) []=some r):dU c σ fr o k r:=by
 unfold Tt at hn;split at hn
 .split at hn
  .rename_i cv ms hu
   split at hn
   .cases hn
    refine⟨_,_,h,rfl,λhon=>iZ (vr:=.bool true) ho (bC hσ hon hx) (bC hσ hon hy) (λw=>?_) rfl⟩;rw[eqGuard_nil_constR];have:=aEW hu w;simp[binOp,this]
   .cases hn
    refine⟨_,_,h,rfl,λhon=>iZ (vr:=.bool false) ho (bC hσ hon hx) (bC hσ hon hy) (λw=>?_) rfl⟩;rw[eqGuard_nil_constR];have:=aEW hu w;simp[binOp,this]
   .cases hn
  .cases hn
 .cases hn
end
def Dk(P:Program)(t:TypeId)(vs:List Value)(v:Value):Prop:=∃dsc,P.underlying t=some dsc/\if dsc.isRow=true then v = .agg vs.toArray else vs=[v]
theorem aEV{P:Program}{t:TypeId}{s off:Nat}{vs:List Value}{dsc:TypeDesc}(hu:P.underlying t=some dsc)(hs:fL P t=some s)(h1:dsc.isRow=false->s=1)(hl:((vs.drop off).take s).length=s)(w:World):∃v,(part t vs.toArray off).run P w = .ok v w/\Dk P t ((vs.drop off).take s) v:=by
 obtain⟨inf,hinf,hsz⟩:=cR.1 hs;cases hr:dsc.isRow with
 |true=>
   refine⟨.agg ((vs.drop off).take s).toArray,?_,dsc,hu,by rw[aJ hr]⟩;have hagg:(isAgg t).run P w = .ok true w:=by
    unfold isAgg;rw[Sem.run_bind,run_underlying hu w];cases dsc <;> simp_all [TypeDesc.isRow]
   simp[part,hagg,sizeOf,typeInfo,hinf,hsz]
 |false=>
   have h1:=h1 hr;subst h1;have hlt:off<vs.length:=by rw[fJ,pN]at hl;omega
   have hagg:(isAgg t).run P w = .ok false w:=by
    unfold isAgg;rw[Sem.run_bind,run_underlying hu w];cases dsc <;> simp_all [TypeDesc.isRow]
   refine⟨vs[off],?_,dsc,hu,?_⟩
   .simp[part,hagg,hlt]
   .rw[hr]
    simp only[B7,lX];rw[List.drop_eq_getElem_cons hlt,List.take_succ_cons,Gz]
def pP(xs:List X)(vs:List Value):Prop:=xs.length=vs.length/\∀(i:Nat)(x:X)(v:Value)(b:Value),xs[i]?=some x->vs[i]?=some v->x.D = .t (.v b)->v=b
theorem pP.chunk{xs:List X}{vs:List Value}(h:pP xs vs)(off s:Nat):pP ((xs.drop off).take s) ((vs.drop off).take s):=by
 refine⟨by simp[h.1],λi x v b hx hv hb=>?_⟩;rw[eN]at hx hv;split at hx
 .rename_i hi
  rw[aJ hi]at hv;rw[oC]at hx hv;exact h.2 _ x v b hx hv hb
 .cases hx
theorem aZt{P:Program}{n:Nat}{t:TypeId}{xs ys:List X}{r:Bool}(h:mR P n t xs ys=some r):∃dsc,P.underlying t=some dsc/\(dsc.isRow=false->xs.length=1):=by
 cases n with
 |zero=>cases h
 |succ n=>
   unfold mR at h;split at h
   .rename_i hu;refine⟨_,hu,λ_=>?_⟩;split at h <;> first|rfl|cases h
   .rename_i hu;refine⟨_,hu,λ_=>?_⟩;split at h <;> first|rfl|cases h
   .rename_i hu;refine⟨_,hu,λ_=>?_⟩;split at h <;> first|rfl|cases h
   .rename_i hu;exact⟨_,hu,λh=>by cases h⟩
   .rename_i hu;exact⟨_,hu,λh=>by cases h⟩
   .cases h
theorem aGS{P:Program}{n s off:Nat}{t:TypeId}{xs ys:List X}{r:Bool}(hs:fL P t=some s)(h:De s off xs ys (mR P n t)=some r){vs us:List Value}(hv:pP xs vs)(hu:pP ys us)
    (ih:∀{xs ys:List X}{r:Bool}{vs us:List Value}{v u:Value},mR P n t xs ys=some r->pP xs vs->pP ys us->Dk P t vs v->Dk P t us u->∀d w,(Op.equalIn (d+n) t v u).run P w = .ok r w) (d:Nat) (w:World):
    ∃v u,(part t vs.toArray off).run P w = .ok v w/\(part t us.toArray off).run P w = .ok u w/\(Op.equalIn (d+n) t v u).run P w = .ok r w:=by
 unfold De at h;split at h
 .rename_i hb
  rw[bM]at hb;have hb1:=bF hb.1;have hb2:=bF hb.2;rw[Fo,Gg]at hb1 hb2;simp only[Fo,Gg]at h;obtain⟨dsc,hd,h1⟩:=aZt h;have c1:=hv.chunk off s;have c2:=hu.chunk off s;have hs1:dsc.isRow=false->s=1:=λhr=>by rw[<-hb1];exact h1 hr
  obtain⟨v,e1,v1⟩:=aEV (vs:=vs) hd hs hs1 (by rw[<-c1.1];exact hb1) w;obtain⟨u,e2,u1⟩:=aEV (vs:=us) hd hs hs1 (by rw[<-c2.1];exact hb2) w;exact⟨v,u,e1,e2,ih h c1 c2 v1 u1 d w⟩
 .cases h
theorem a0l(a b:List UInt8):(a == b)=decide (a=b):=by by_cases h:a=b <;> simp[h]
theorem Un{P:Program}:∀(n:Nat)(t:TypeId){xs ys:List X}{r:Bool}{vs us:List Value}{v u:Value},mR P n t xs ys=some r->pP xs vs->pP ys us->Dk P t vs v->Dk P t us u->∀d w,(Op.equalIn (d+n) t v u).run P w = .ok r w
 |0,t,xs,ys,r,vs,us,v,u,h,_,_,_,_=>by cases h
 |n+1,t,xs,ys,r,vs,us,v,u,h,hv,hu,⟨d1,e1,f1⟩,⟨d2,e2,f2⟩=>λd w=>by
   have e12:d1=d2:=fI (e1.symm.trans e2);subst e12;have one:∀{x:X}{vs:List Value}{v b:Value},pP [x] vs->vs=[v]->x.D = .t (.v b)->v=b:=λhc hv hd=>by
    subst hv;exact hc.2 0 _ _ _ rfl rfl hd
   unfold mR at h;rw[show d+(n+1)=(d+n)+1 from rfl];split at h
   .rename_i ki hui
    obtain rfl:=fI (e1.symm.trans hui);simp only[TypeDesc.isRow,B7,lX]at f1 f2;split at h
    .rename_i k a k' b
     split at h
     .rename_i hk
      have hk:=cT hk;subst hk;cases h;rw[one hv f1 rfl,one hu f2 rfl,run_equalIn_int w (d+n) t k ki a b hui];rfl
     .cases h
    .rename_i a b
     cases h;rw[one (b:=.int .u8 (tO a:Int)) hv f1 rfl,one (b:=.int .u8 (tO b:Int)) hu f2 rfl,run_equalIn_int w (d+n) t .u8 ki _ _ hui]
     congr 1
     have:((tO a:Int) == (tO b:Int))=decide ((tO a:Int)=(tO b:Int)):=rfl;rw[this];unfold Gh;rw[decide_eq_decide];exact⟨λh=>VV.1 (by exact_mod_cast h),λh=>by rw[h]⟩
    .cases h
   .rename_i hui
    obtain rfl:=fI (e1.symm.trans hui);simp only[TypeDesc.isRow,B7,lX]at f1 f2;split at h
    .rename_i a b
     cases h;rw[one hv f1 rfl,one hu f2 rfl,run_equalIn_bool' w (d+n) t a b hui];rfl
    .cases h
   .rename_i hui
    obtain rfl:=fI (e1.symm.trans hui);simp only[TypeDesc.isRow,B7,lX]at f1 f2;split at h
    .rename_i a b
     cases h;rw[one (b:=.string ⟨⟨a⟩⟩) hv f1 rfl,one (b:=.string ⟨⟨b⟩⟩) hu f2 rfl,run_equalIn_string w (d+n) t _ _ hui]
     congr 1
     rw[ByteArray.toList_eq,ByteArray.toList_eq];exact a0l a b
    .cases h
   .rename_i m e hui
    obtain rfl:=fI (e1.symm.trans hui);simp only[TypeDesc.isRow,fY]at f1 f2;subst f1 f2;split at h
    .rename_i s hs
     obtain⟨inf,hinf,hsz⟩:=cR.1 hs;rw[run_equalIn_array w (d+n) _ _ hui hinf];have hcell:P.cellsOf e=s:=by simp[Program.cellsOf,hinf,hsz]
     rw[hcell]
     revert h
     generalize List.range m=is;intro h
     induction is generalizing r with
     |nil=>cases h;simp[Op.eqItems]
     |cons i is ih=>
       have step:∀{r1:Bool},De s (i*s) xs ys (mR P n e)=some r1->∀{r2:Bool},(Op.eqItems (d+n) e s vs.toArray us.toArray is).run P w = .ok r2 w->(Op.eqItems (d+n) e s vs.toArray us.toArray (i::is)).run P w = .ok (r1&&r2) w:=λ{r1} h1 {r2} h2=>by
        obtain⟨v,u,p1,p2,p3⟩:=aGS hs h1 hv hu (λh1 h2 h3 h4 h5=>Un n e h1 h2 h3 h4 h5) d w;simp only[Op.eqItems,Sem.run_bind,p1,p2,p3,Result.andThen_ok];cases r1
        .simp
        .simpa using h2
       cases is with
       |nil=>
         have:=step h (r2:=true) (by simp[Op.eqItems])
         rwa [a2E]at this
       |cons i' is'=>
         unfold Gx at h;split at h
         .rename_i a ha
          split at h
          .rename_i b hb
           cases h;exact step ha (ih b hb)
          .cases h
         .cases h
    .cases h
   .rename_i fs hui
    obtain rfl:=fI (e1.symm.trans hui);simp only[TypeDesc.isRow,fY]at f1 f2;subst f1 f2;split at h
    .cases h
    .rename_i hst
     have hfs:P.fieldsOf t=fs:=by simp[Program.fieldsOf,hui]
     rw[run_equalIn_struct w (d+n) t _ _ (by rw[hfs];exact hui) hst,hfs]
     revert h
     generalize fs.toList=l;intro h
     induction l generalizing r with
     |nil=>cases h;simp[Op.eqFields]
     |cons f l ih=>
       have step : ∀ {r1 : Bool}, (match fL P f.type with | some s => (match f.name == "_" with | true => none | false => De s f.offset xs ys (mR P n f.type)) | none => none) = some r1 → ∀ {r2 : Bool}, (Op.eqFields (d + n) vs.toArray us.toArray l).run P w = .ok r2 w → (Op.eqFields (d + n) vs.toArray us.toArray (f :: l)).run P w = .ok (r1 && r2) w := fun {r1} h1 {r2} h2 => by
        split at h1
        .rename_i s hs
         split at h1
         .cases h1
         .rename_i hnm
          have hne : f.name ≠ "_" := by simpa using hnm
          obtain⟨v,u,p1,p2,p3⟩:=aGS hs h1 hv hu (λh1 h2 h3 h4 h5=>Un n f.type h1 h2 h3 h4 h5) d w;simp only[Op.eqFields,hne,ne_eq,not_false_eq_true,fY,Sem.run_bind,p1,p2,p3,Result.andThen_ok];cases r1
          .simp
          .simpa using h2
        .cases h1
       cases l with
       |nil=>
         have:=step h (r2:=true) (by simp[Op.eqFields])
         rwa [a2E]at this
       |cons f' l'=>
         unfold Gx at h;split at h
         .rename_i a ha
          split at h
          .rename_i b hb
           cases h;exact step ha (ih b hb)
          .cases h
         .cases h
   .cases h
section
variable{c:Cx}{σ:Vw}{κ:Nat->Bool}{fr:Nat}{o:Oper}{k:X->Wx->O}{r:aM}
theorem aGb{ν:Nat->Value}{nm:Nat->Bool}{w:World}{G:bT}{v:Value}{xs:List X}(h:DR ν nm w G v (X.agg xs).D):∃vs:Array Value,v = .agg vs/\pP xs vs.toList:=by
 unfold X.D at h;rw[fC]at h;cases h with
 | @agg vs _ hl hr h1=>
   refine⟨vs,rfl,by simpa using hl.symm,λi x v b hx hv hb=>?_⟩;have:=hr i v x.D (by simpa using hv) (by rw[cY,hx];rfl);rw[hb]at this;exact cC this
theorem aZV(hσ:σ.Ok κ){op:BinOp}{xt yt:TypeId}{x y:Operand}{v w:X}{b:Bool}(ho:o.op = .binOp op xt x y yt)(hx:σ.ev x=some v)(hy:σ.ev y=some w)(hn:Uo c.P op xt v w=some b)(h:k (.e .bo b) []=some r):dU c σ fr o k r:=by
 refine⟨_,_,h,rfl,λhon=>?_⟩;unfold Uo at hn;split at hn
 case h_2=>cases hn
 split at hn
 case h_2=>cases hn
 rename_i xs _ ys;split at hn
 case h_2=>cases hn
 rename_i hrow hg;refine dF λE σ₁ ν G w a hH I hev=>⟨.bool b,?_,.t (.v _ rfl)⟩
 obtain⟨vs,hvs,c1⟩:=aGb (hev x _ (bC hσ hon hx));obtain⟨us,hus,c2⟩:=aGb (hev y _ (bC hσ hon hy));obtain⟨dsc,g1,g2⟩:=nY hrow;have hV:∀zs:Array Value,Dk c.P xt zs.toList (.agg zs):=λzs=>⟨dsc,g1,by rw[aJ g2]⟩
 have hrun:∀r0,mR c.P 12 xt xs ys=some r0->(Op.equalIn 10000 xt (.agg vs) (.agg us)).run c.P w = .ok r0 w:=λr0 h0=>Un 12 xt h0 c1 c2 (hV vs) (hV us) 9988 w
 have hgd:=run_eqGuard_agg (P:=c.P) w op xt x y vs us hg;unfold execOp;rw[ho];simp only[hvs,hus,Sem.run_bind,hgd,Result.andThen_ok];split at hn
 .rw[run_eql_struct,hrun b hn]
  rfl
 .split at hn
  .rename_i b0 h0
   cases hn;rw[run_neq_struct,hrun b0 h0];rfl
  .cases hn
 .cases hn
end
end Go.Ax
/- A string's iterator; a builder's bytes as a string. -/
namespace Go.Ax
open aB
open Go.RowKit Go.Ab
section
variable{P:Program}{o:Oper}{σ:St}{fr:Nat}
theorem aXT{t:TypeId}{x:Operand}{s:ByteArray}(hu:P.underlying t=some .string)(ho:o.op = .range t x)(hx:σ.ev x=some (.t (.v (.string s)))):aZ P o σ fr (.own fr) [(fr,some (.it s 0))]:=by
 intro E σ₁ a w hT hH h100 hf hd ⟨ν,G,I⟩ Q;have hvx:=cC (I.ev (St.c7 hT hx));unfold Oper.wp;have hr:(execOp a.eval o).run P w = .ok (.value (.pointer (some ⟨w.heap.size,0,none⟩))) (w.alloc (.stringIter s 0)):=by
  unfold execOp;rw[ho];simp[hvx,run_range_string w t s hu,World.iter]
 rw[hr,Oper.upon_value];have hA:cG w (w.alloc (.stringIter s 0)):=(cG.refl w).alloc _;refine⟨put_defers ..,_,_,I.fresh (G':=λb=>if b=w.heap.size then 0 else G b) h100 hf hd hA (λb hb=>aH (by omega)) (x:=.pointer (some ⟨w.heap.size,0,none⟩)) (λg hg=>by cases hg;exact cQ _) ?_ ?_⟩
 .exact⟨w.heap.size,b7,.inl I.kept.size,heap_alloc_new w _,aJ rfl⟩
 .have:DR (bZ ν fr (.pointer (some ⟨w.heap.size,0,none⟩))) (σ₁.aS o.dst .any [(fr,some (.it s 0))] fr).nm (w.alloc (.stringIter s 0)) (λb=>if b=w.heap.size then 0 else G b) (bZ ν fr (.pointer (some ⟨w.heap.size,0,none⟩)) fr) (.own fr):=.own (kA ..) (by rw[b7];rfl)
  rw[b7]at this;exact this
theorem aXY{x:Operand}{s:ByteArray}{pos q:Nat}(ho:o.op = .next x true)(hx:σ.ev x=some (.own q))(hq:σ.H q=some (.it s pos))(h:¬ pos<s.size):aZ P o σ fr (.aU [.t (.v (.bool false))]) []:=
 dF λE σ₁ ν G w ac hH I hev=>by
  obtain⟨hv,hk⟩:=qZ (hev x _ hx);obtain⟨g,h1,h2,h3,h4⟩:=(I.H q _ (hH q _ hq)).2;refine⟨.tuple #[.bool false],?_,.aU rfl λi u d hu hd=>?_⟩
  .unfold execOp
   rw[ho];simp[hv,h1,Lib.run_next_end_at w g s pos o.type h3 h]
  .match i,hu,hd with
   |0,hu,hd=>cases hu;cases hd;exact .t (.v _ rfl)
   |i+1,hu,hd=>simp at hd
theorem aXX{x:Operand}{s:ByteArray}{pos q:Nat}(ho:o.op = .next x true)(hx:σ.ev x=some (.own q))(hq:σ.H q=some (.it s pos))(h:pos<s.size)(ha:(s[pos]'h).toNat<128):
    aZ P o σ fr (.aU [.t (.v (.bool true)),.t (.v (.int .i64 pos)),.t (.v (.int .i32 (s[pos]'h).toNat))]) [(q,some (.it s (pos+1)))]:=by
 intro E σ₁ a w hT hH h100 hf hd ⟨ν,G,I⟩ Q;obtain⟨hv,hk⟩:=qZ (I.ev (St.c7 hT hx));obtain⟨g,h1,h2,h3,h4⟩:=(I.H q _ (hH q _ hq)).2;unfold Oper.wp;have hr:(execOp a.eval o).run P w = .ok (.value (.tuple #[.bool true,.int .i64 pos,.int .i32 (s[pos]'h).toNat])) (w.iterAt g s (pos+1)):=by
  unfold execOp;rw[ho];simp[hv,h1,Lib.run_next_ascii_at w g s pos o.type h3 h ha]
 rw[hr,Oper.upon_value];have s5:∀b,b≠g->(w.iterAt g s (pos+1)).heap[b]?=w.heap[b]?:=λb hb=>by
  simp only[World.iterAt];rw[pQ (eF hb)]
 have hcell:∀b i u,Cell w G b i u->Cell (w.iterAt g s (pos+1)) G b i u:=λb i u h=>by
  have hne:b≠g:=λe=>by have:=h.2;rw[e,h4]at this;omega
  exact⟨(World.cell?_of_block (a:=⟨b,i,none⟩) (s5 b hne)).trans h.1,h.2⟩
 refine⟨put_defers ..,ν,G,aE1 (w':=w.iterAt g s (pos+1)) (ob':=.it s (pos+1)) I (hH q _ hq) (by rw[h1];rfl) h4 (λ_ _ _=>kW) (λ_ _ _=>kW) rfl rfl rfl (by simp[World.iterAt]) s5 hcell ⟨g,h1,h2,Lib.iterAt_heap w g s pos _ h3,h4⟩ hd (.aU rfl λi u d hu hd'=>?_)⟩
 match i,hu,hd' with
 |0,hu,hd'=>cases hu;cases hd';exact .t (.v _ rfl)
 |1,hu,hd'=>cases hu;cases hd';exact .t (.v _ rfl)
 |2,hu,hd'=>cases hu;cases hd';exact .t (.v _ rfl)
 |i+3,hu,hd'=>simp at hd'
theorem aWc{E:Env}{σ₁:St}{ν:Nat->Value}{G:bT}{w w':World}{a:Act}(I:Inv E σ₁ ν G w a.tmps){k g:Nat}{ob:aQ}(hk:σ₁.H k=some ob)(hg:aV (ν k)=some g)
    (s1:w'.os=w.os) (s2:w'.tape=w.tape) (s3:w'.output=w.output) (s4:w'.heap.size=w.heap.size) (s5:∀b,b≠g->w'.heap[b]?=w.heap[b]?) (hcell:∀b i u,Cell w G b i u->Cell w' G b i u)
    {dst:Option Tmp} {v:Value} {d:D} (hd:∀t,dst=some t->t<E.m) (hv:DR ν σ₁.nm w' G v d):Inv E (σ₁.aS dst d [(k,none)] fr) ν G w' (a.put dst v).tmps:=by
 have hmay:E.may g:=(I.H k ob hk).2.UD hg;have hnm:∀j,σ₁.nm j=true->(σ₁.aS dst d [(k,none)] fr).nm j=true/\ν j=ν j:=λj hj=>⟨by simp[St.aS,hj],rfl⟩
 have back:∀j oj,(σ₁.aS dst d [(k,none)] fr).H j=some oj->j≠k/\σ₁.H j=some oj:=λj oj h=>by
  by_cases hj:j=k
  .subst hj;simp[St.aS,Ab.look]at h
  .exact⟨hj,by simpa[St.aS,Ab.look,eF hj]using h⟩
 refine⟨⟨s1.trans I.kept.os,s2.trans I.kept.tape,s3.trans I.kept.output,by rw[s4];exact I.kept.size,λb hb hX=>?_⟩,λb i u h=>hcell b i u (I.dY b i u h),I.fA,I.g0,?_,λt' d' h=>?_,λj oj h=>?_,λj1 o1 j2 o2 h1 h2 hne=>?_⟩
 .refine(s5 b (λe=>?_)).trans (I.kept.block b hb hX)
  subst e;rcases hmay with h|h
  .omega
  .exact hX h
 .cases dst <;> simp[Act.put,I.sz]
 .simp only[St.aS]at h
  split at h
  .rename_i he'
   cases h;have:=hd t' he';exact⟨v,by simp[he',Act.put,I.sz,this],hv.mono hnm (λ_ _ _ h=>h)⟩
  .rename_i he'
   obtain⟨u,hu,hdu⟩:=I.T t' d' h;refine⟨u,?_,hdu.mono hnm hcell⟩;cases dst with
   |none=>simpa[Act.put]using hu
   |some t''=>
     have hne:t''≠t':=λe=>he' (by rw[e])
     simp only[Act.put];rw[pQ hne];exact hu
 .obtain⟨hj,h'⟩:=back j oj h
  obtain⟨h1,h2⟩:=I.H j oj h';refine⟨(hnm j h1).1,h2.mono h1 hnm hcell (λg' hg'=>⟨s5 g' (λe=>?_),rfl⟩)⟩;subst e;exact I.cK j oj k ob h' hk hj g' hg' (dR hg)
 .obtain⟨n1,e1⟩:=back j1 o1 h1
  obtain⟨n2,e2⟩:=back j2 o2 h2;have f:∀j oj,j≠k->σ₁.H j=some oj->∀g',bN w' (ν j) oj g'->bN w (ν j) oj g':=λj oj hj h g' hg'=>(rC λb hb=>s5 b λe=>by
   subst e;exact I.cK j oj k ob h hk hj b (dR hb) (dR hg)).1 hg'
  exact λg' hg1 hg2=>I.cK j1 o1 j2 o2 e1 e2 hne g' (f j1 o1 n1 e1 g' hg1) (f j2 o2 n2 e2 g' hg2)
theorem aZc(w:World)(g n:Nat):(w.freeze ⟨g,0,none⟩ n).os=w.os/\(w.freeze ⟨g,0,none⟩ n).tape=w.tape/\(w.freeze ⟨g,0,none⟩ n).output=w.output/\(w.freeze ⟨g,0,none⟩ n).heap.size=w.heap.size/\(∀b,b≠g->(w.freeze ⟨g,0,none⟩ n).heap[b]?=w.heap[b]?) /\
    ∀b i,(w.freeze ⟨g,0,none⟩ n).cell? ⟨b,i,none⟩=w.cell? ⟨b,i,none⟩:=by
 unfold World.freeze;split
 .exact⟨rfl,rfl,rfl,rfl,λ_ _=>rfl,λ_ _=>rfl⟩
 .refine⟨rfl,rfl,rfl,by simp,λb hb=>by simp[a2K,eF hb],λb i=>?_⟩
  simp only[World.cell?,a2K];by_cases h:g=b
  .subst h
   rw[aJ rfl];cases w.heap[g]? with
   |none=>rfl
   |some o=>
     cases o with
     |cells c e fz=>obtain⟨lo,hi⟩:=fz;rfl
     |_=>rfl
  .rw[aH h]
theorem aVf{ν:Nat->Value}{nm:Nat->Bool}{w:World}{G:bT}{v:Value}{k:Nat}{r:Value->Value->Prop}(h:DR ν nm w G v (.via k r)):r (ν k) v:=by
 cases h with|via hk h h1=>exact h
theorem aWI{w:World}{G:bT}{u x:Value}(h:TR w G u (.v x)):u=x:=by
 cases h with|v _ _=>rfl
theorem aXR{t e' e:TypeId}{x:Operand}{q s n:Nat}{ts:List Tree}{st:Bool}(hu:P.underlying o.type=some (.pointer e'))(ho:o.op = .call { callee:=.builtin .unsafeSliceData,args:=#[x],argTypes:=#[t] })
    (hx:σ.ev x=some (.own q)) (hq:σ.H q=some (.row e s n ts st)):aZ P o σ fr (.via q (Co 1)) []:=by
 intro E σ₁ a w hT hH h100 hf hd ⟨ν,G,I⟩ Q;obtain⟨hv,hk⟩:=qZ (I.ev (St.c7 hT hx));obtain⟨xs,r1,_⟩:=(I.H q _ (hH q _ hq)).2;have fin:∀(p:Option Addr)(w':World),cG w w'->(Builtin.unsafeSliceData_ #[t] o.type #[ν q]).run P w = .ok (.pointer p) w'->Co 1 (ν q) (.pointer p)->o.wp P a w (λa' w'=>a'.defers=a.defers/\R E (σ₁.aS o.dst (.via q (Co 1)) [] fr) a'.tmps w') Q:=λp w' hA hr hR=>by
  unfold Oper.wp;have he:(execOp a.eval o).run P w = .ok (.value (.pointer p)) w':=by
   unfold execOp;rw[ho];simp[resolve,invoke,builtin,hv,hr]
  rw[he,Oper.upon_value];exact⟨put_defers ..,ν,G,(I.fN hA λ_ _=>rfl).put (.via hk hR rfl) hd fr a rfl⟩
 rcases r1.2 with⟨hz,h0⟩|⟨g,cap,cur,hz,_,r2,r3,r4,r5,_⟩
 .exact fin none w (cG.refl w) (by rw[hz];exact Lib.run_unsafeSliceData_nil ..) ⟨_,rfl,λa' n' c' he hn'=>by rw[hz]at he;cases he;omega⟩
 .by_cases hc:cap=0
  .subst hc
   refine fin _ _ ((cG.refl w).alloc _) (by rw[hz,Nat.le_zero.1 r3];exact Lib.run_unsafeSliceData_zero w _ _ e' hu ⟨g,0,none⟩ 0 (e,cur.size) (by simp[World.shape?,r2])) ⟨_,rfl,λa' n' c' he hn'=>?_⟩;rw[hz]at he;cases he;omega
  .exact fin (some ⟨g,0,none⟩) w (cG.refl w) (by rw[hz];exact Lib.run_unsafeSliceData_row _ _ _ _ _ _ hc) ⟨_,rfl,λa' n' c' he hn'=>by rw[hz]at he;cases he;rfl⟩
theorem aXQ{t:TypeId}{x:Operand}(ho:o.op = .call { callee:=.builtin .unsafeSliceData,args:=#[x],argTypes:=#[t] })(hx:σ.ev x=some (.t (.v (.slice none 0 0)))):aZ P o σ fr (.t (.v (.pointer none))) []:=
 dF λE σ₁ ν G w a hH I hev=>by
  have hv:=cC (hev x _ hx);refine⟨_,?_,.t (.v _ rfl)⟩;unfold execOp;rw[ho];simp[resolve,invoke,builtin,hv,Lib.run_unsafeSliceData_nil]
theorem aXL{pt it e:TypeId}{x y:Operand}{q:Nat}{l:List UInt8}{st:Bool}(hp:P.underlying pt=some (.pointer e))(hc:P.cellsOf e=1)(ho:o.op = .call { callee:=.builtin .unsafeString,args:=#[x,y],argTypes:=#[pt,it] })
    (hx:σ.ev x=some (.via q (Co 1))) (hy:σ.ev y=some (.t (.v (.int .i64 l.length)))) (hq:σ.H q=some (.row e 1 l.length (l.map λb=>.v (.int .u8 b.toNat)) st)):aZ P o σ fr (.t (.v (.string ⟨l.toArray⟩))) [(q,none)]:=by
 intro E σ₁ a w hT hH h100 hf hd ⟨ν,G,I⟩ Q;have hvy:=cC (I.ev (St.c7 hT hy));have hvx:=I.ev (St.c7 hT hx);have hqn:=hH q _ hq;obtain⟨xs,r1,r2,r3,r4⟩:=(I.H q _ hqn).2;obtain⟨p,hpv,hpr⟩:∃p,a.eval x = .pointer p/\∀a' n' c',ν q = .slice a' n' c'->0<n'->p=a':=by
  exact aVf hvx
 have hr0:xs.length=l.length:=by rw[r2,cW]
 have fin:∀w',(Builtin.unsafeString_ #[pt,it] o.type #[.pointer p,.int .i64 l.length]).run P w = .ok (.string ⟨l.toArray⟩) w'->(∀v',ν q=v'->(∃(g:Nat),aV v'=some g/\w'=w.freeze ⟨g,0,none⟩ l.length)\/w'=w)->o.wp P a w (λa' w'=>a'.defers=a.defers/\R E (σ₁.aS o.dst (.t (.v (.string ⟨l.toArray⟩))) [(q,none)] fr) a'.tmps w') Q:=λw' hr hw'=>by
  unfold Oper.wp;have he:(execOp a.eval o).run P w = .ok (.value (.string ⟨l.toArray⟩)) w':=by
   unfold execOp;rw[ho];simp[resolve,invoke,builtin,hpv,hvy,hr]
  rw[he,Oper.upon_value];rcases hw' _ rfl with⟨g,hg,rfl⟩|rfl
  .obtain⟨s1,s2,s3,s4,s5,s6⟩:=aZc w g l.length
   exact⟨put_defers ..,ν,G,aWc I hqn hg s1 s2 s3 s4 s5 (λb i u h=>⟨(s6 b i).trans h.1,h.2⟩) hd (.t (.v _ rfl))⟩
  .have:=I.put (dst:=o.dst) (v:=.string ⟨l.toArray⟩) (d:=.t (.v (.string ⟨l.toArray⟩))) (.t (.v _ rfl)) hd fr a rfl
   have back:∀j oj,(σ₁.aS o.dst (.t (.v (.string ⟨l.toArray⟩))) [(q,none)] fr).H j=some oj->(σ₁.aS o.dst (.t (.v (.string ⟨l.toArray⟩))) [] fr).H j=some oj:=λj oj h=>by
    by_cases hj:j=q
    .subst hj;simp[St.aS,Ab.look]at h
    .simpa[St.aS,Ab.look,eF hj]using h
   exact⟨put_defers ..,ν,G,this.kept,this.dY,this.fA,this.g0,this.sz,this.T,λj oj h=>this.H j oj (back j oj h),λj1 o1 j2 o2 h1 h2=>this.cK j1 o1 j2 o2 (back j1 o1 h1) (back j2 o2 h2)⟩
 rcases Nat.eq_zero_or_pos l.length with h0|h0
 .have:l=[]:=HI h0
  subst this;refine fin w ?_ (λ_ _=>.inr rfl);exact Lib.run_unsafeString_none w pt it o.type p
 .rcases r1.2 with⟨hz,hn⟩|⟨g,cap,cur,hz,_,q2,q3,q4,q5,q6⟩
  .omega
  .have hpe:=hpr _ _ _ hz h0
   subst hpe;refine fin _ (Lib.run_unsafeString_row w pt it o.type e hp hc g cur.size (by simp[World.shape?,q2]) l (λe=>by subst e;simp at h0) (by omega) (by simp only[maxLen]at q4;omega) λj b hb=>?_) (λv' hv'=>.inl ⟨g,by rw[<-hv',hz];rfl,rfl⟩);have hj:j<l.length:=(bU.1 hb).1;have hxj:xs[j]?=some xs[j]:=bJ (by omega);have ht:=r3 j _ _ hxj (by rw[cY,hb];rfl);have hcell:=kP r1 (by rw[hz];rfl) (i:=j) (by omega);rw[Addr.add_mid,eD,hcell,hxj];rw[aWI ht]
theorem aXK{pt it:TypeId}{x y:Operand}(ho:o.op = .call { callee:=.builtin .unsafeString,args:=#[x,y],argTypes:=#[pt,it] })(hx:σ.ev x=some (.t (.v (.pointer none))))(hy:σ.ev y=some (.t (.v (.int .i64 0)))):aZ P o σ fr (.t (.v (.string ⟨#[]⟩))) []:=
 dF λE σ₁ ν G w a hH I hev=>by
  have hv:=cC (hev x _ hx);have hvy:=cC (hev y _ hy);refine⟨_,?_,.t (.v _ rfl)⟩;unfold execOp;rw[ho];have hr:=Lib.run_unsafeString_none (P:=P) w pt it o.type none;simp[resolve,invoke,builtin,hv,hvy,hr];rfl
end
section
variable{c:Cx}{σ:Vw}{κ:Nat->Bool}{fr:Nat}{o:Oper}{k:X->Wx->O}{r:aM}
theorem aZE(hσ:σ.Ok κ){t:TypeId}{x:Operand}{s:List UInt8}(ho:o.op = .range t x)(hu:c.P.underlying t=some .string)(hx:σ.ev x=some (.e .tx s))(h:k (.own fr) [(fr,some (.it s 0))]=some r):dU c σ fr o k r:=
 ⟨_,_,h,rfl,λhon=>aXT hu ho (bC hσ hon hx)⟩
theorem aZJ(hσ:σ.Ok κ){x:Operand}{q:Nat}{s:List UInt8}{pos:Int}(ho:o.op = .next x true)(hx:σ.ev x=some (.own q))(hq:σ.H q=some (.it s pos))(h:Tv s pos q k=some r):dU c σ fr o k r:=by
 unfold Tv at h;rcases tK h with⟨_,h⟩|⟨hb,h⟩
 .obtain⟨b,h0,hb,h⟩:=G4 h
  obtain⟨ha,h⟩:=fH h;have ha:=cT ha;have hlt:pos.toNat<(⟨s.toArray⟩:ByteArray).size:=by
   have:=(bU.1 hb).1;exact this
  have hbv:(⟨s.toArray⟩:ByteArray)[pos.toNat]'hlt=b:=by
   have:=(bU.1 hb).2;exact this
  refine⟨_,_,h,rfl,λhon=>?_⟩;have:=aXX (P:=c.P) (fr:=fr) ho (bC hσ hon hx) (dI hq) hlt (by rw[hbv];exact ha);rw[hbv]at this;have e1:(pos.toNat:Int)=pos:=by omega
  have e2:(pos+1).toNat=pos.toNat+1:=by omega
  rw[e1]at this;unfold WA;simp only[eX,pM,iT,XO.A,e2];exact this
 .have hb:=of_decide_eq_false hb
  exact⟨_,_,h,rfl,λhon=>aXY (P:=c.P) (fr:=fr) ho (bC hσ hon hx) (dI hq) (λhc=>hb (by have:pos.toNat<s.length:=hc;omega))⟩
theorem aDu:∀l:List UInt8,b8 (aR .u8) l=List.map (λb:UInt8=>Tree.v (.int .u8 b.toNat)) l
 |[]=>rfl
 |b::l=>aY (λts=>Tree.v (.int .u8 b.toNat)::ts) (aDu l)
theorem aGL{a b:Int}(h:xD a b=true):a=b:=cT h
theorem aZD(hσ:σ.Ok κ){t:TypeId}{x:Operand}{v:X}(ho:o.op = .call { callee:=.builtin .unsafeSliceData,args:=#[x],argTypes:=#[t] })(hx:σ.ev x=some v)(h:TU c σ o.type v k=some r):dU c σ fr o k r:=by
 unfold TU at h;split at h
 .rename_i e' hu
  split at h
  .rename_i q
   split at h
   .rename_i e τ l st hq
    exact⟨_,_,h,rfl,λhon=>aXR (P:=c.P) (fr:=fr) hu ho (bC hσ hon hx) (dI hq)⟩
   .cases h
  .exact⟨_,_,h,rfl,λhon=>aXQ (P:=c.P) (fr:=fr) ho (bC hσ hon hx)⟩
  .cases h
 .cases h
theorem aZA(hσ:σ.Ok κ){pt it:TypeId}{x y:Operand}{v w:X}(ho:o.op = .call { callee:=.builtin .unsafeString,args:=#[x,y],argTypes:=#[pt,it] })(hx:σ.ev x=some v)(hy:σ.ev y=some w)(h:Sn c σ pt v w k=some r):dU c σ fr o k r:=by
 unfold Sn at h;split at h
 .rename_i e hu
  split at h
  .rename_i q n
   split at h
   .rename_i e0 l st hq
    split at h
    .rename_i hc
     rw[bM]at hc;obtain⟨hn,h2⟩:=fH h;clear h;have hn:n=(dN (α:=UInt8) l:Int):=aGL hn;subst hn;have he:e0=e:=bF hc.1;subst he;refine⟨_,_,h2,rfl,λhon=>?_⟩;have:σ.den.H q=some (.row e0 1 (dN (α:=UInt8) l) (b8 (aR .u8) l) st):=dI hq;have this:=this.trans (aY (λts=>some (aQ.row e0 1 (dN (α:=UInt8) l) ts st)) (aDu l));exact aXL (P:=c.P) (fr:=fr) hu (bF hc.2) ho (bC hσ hon hx) (bC hσ hon hy) this
    .cases h
   .cases h
  .rename_i n
   obtain⟨hn,h⟩:=fH h;have hn:n=(0:Int):=aGL hn;subst hn;exact⟨_,_,h,rfl,λhon=>aXK (P:=c.P) (fr:=fr) ho (bC hσ hon hx) (bC hσ hon hy)⟩
  .cases h
 .cases h
end
end Go.Ax
/- Every operation. -/
namespace Go.Ax
open aB
open Go.RowKit Go.Ab
theorem GM{x:X}{k:X->Wx->O}{r:aM}(h:wK x k=some r):x.pl=true/\k x []=some r:=by
 unfold wK at h;split at h
 .rename_i hp;exact⟨hp,h⟩
 .cases h
theorem tM{α:Type}{a:Array α}{x:α}(h:a.toList=[x]):a = #[x]:=tX h
theorem xK{α:Type}{a:Array α}{x y:α}(h:a.toList=[x,y]):a = #[x,y]:=tX h
theorem a1D{α:Type}{a:Array α}{x y z:α}(h:a.toList=[x,y,z]):a = #[x,y,z]:=tX h
theorem a1E{α:Type}{a:Array α}(h:a.toList=[]):a = #[]:=tX h
section
variable{c:Cx}{σ:Vw}{κ:Nat->Bool}{fr:Nat}{o:Oper}{k:X->Wx->O}{r:aM}
theorem aZI(hσ:σ.Ok κ){x:Operand}(ho:o.op = .nilCheck x) (h:(ob (σ.ev x) λv=>match v with
    |.ref ..=>k v []
    |.rr ..=>k v []
    |.pt ..=>k v []
    |.fn ..=>k v []
    |_=>none)=some r):dU c σ fr o k r:=by
  obtain⟨v,hv,h⟩:=bD h;have hp:=xA hv;cases v with
  |ref q off=>exact⟨_,_,h,rfl,λhon=>NR ho (bC hσ hon hv) (.inl ⟨_,_,rfl⟩)⟩
  |rr q i j s=>exact⟨_,_,h,rfl,λhon=>NR ho (bC hσ hon hv) (.inl ⟨_,_,rfl⟩)⟩
  |pt τ y j=>exact⟨_,_,h,rfl,λhon=>NR ho (bC hσ hon hv) (.inr (.inl ⟨_,_,rfl⟩))⟩
  |fn f xs=>exact⟨_,_,h,rfl,λhon=>NR ho (bC hσ hon hv) (.inr (.inr ⟨_,_,rfl⟩))⟩
  |_=>cases h
theorem aZT(hσ:σ.Ok κ){f:FuncId}{first caps:Array Operand}(ho:o.op = .makeFunc (.func f) first caps)(hf:first.toList=[])(h:σ.tG caps.toList (λxs=>k (.fn f xs) [])=some r):dU c σ fr o k r:=by
 obtain⟨xs,h,hl,hev⟩:=No h;rw[a1E hf]at ho;refine⟨_,_,h,rfl,λhon=>?_⟩;unfold X.D;rw[fC];refine aXb ho (by rw[cW,hl,nE]) (λi x d hx hd=>?_);rw[cY]at hd;obtain⟨y,hy,rfl⟩:=cR.1 hd;obtain⟨p,hp,hpv⟩:=hev i y hy;rw[aHJ,hx]at hp;cases hp;exact bC hσ hon hpv
theorem aZY(hσ:σ.Ok κ){s d:TypeId}{x:Operand}(ho:o.op = .convert s d x) (h:(ob (σ.ev x) λv=>match c.P.underlying s,c.P.underlying d,v with
    |some (.slice e),some .string,v=>match c.P.underlying e with
      |some (.int .u8)=>ob (σ.src .u8 v) λl=>k (.e .tx l) []
      |_=>none
    |_,_,v=>Nw c.P s d v λr=>k r [])=some r):dU c σ fr o k r:=by
  obtain⟨v,hv,h⟩:=bD h;split at h
  .rename_i hs hd
   split at h
   .rename_i he
    obtain⟨l,hl,h⟩:=bD h;exact aZ1 hσ hs he hd ho hv hl h
   .cases h
  .exact aZZ hσ ho hv h
theorem aZU(hσ:σ.Ok κ){x:Operand}{n:Nat}(ho:o.op = .extract x n) (h:(ob (σ.ev x) λv=>match v with
    |.aU xs=>ob xs[n]? λr=>wK r k
    |_=>none)=some r):dU c σ fr o k r:=by
  obtain⟨v,hv,h⟩:=bD h;split at h
  .rename_i xs
   obtain⟨y,hy,h⟩:=bD h;obtain⟨hp,h⟩:=GM h;refine⟨_,_,h,hp,λhon=>?_⟩;have hD:=bC hσ hon hv;unfold X.D at hD;rw[fC]at hD;exact aXz ho hD (by rw[cY,hy];rfl)
  .cases h
theorem aZP(hσ:σ.Ok κ){t e e':TypeId}{n b q:Nat}{τ τ':Ty}{l:List τ'.V}{ps:Array (Nat×Operand)}(ho:o.op = .buildSlice t n ps)(hE:lE c t=some (e,τ,b))(hp:GX σ n ps.toList=some (q,e',⟨τ',l⟩))(hτ:τ = .sl τ')
    (h:k (.own fr) [(fr,some (.nest e e' τ' [l])),(q,none)]=some r):dU c σ fr o k r:=by
 subst hτ;obtain⟨z,hA,hz⟩:=pE hE;unfold GX at hp;split at hp
 case h_2=>cases hp
 rename_i x hps;split at hp
 case h_2=>cases hp
 rename_i hn;have hn:=bF hn;subst hn;split at hp
 case h_2=>cases hp
 rename_i q' hx;split at hp
 case h_2=>cases hp
 rename_i e1 τ1 l1 hq;cases hp;rw[tM hps]at ho;refine⟨_,_,h,rfl,λhon=>?_⟩;have h1:∀u∈z.cells.toList,u.oneCell'=true:=by
  clear ho hps h hA;generalize z.cells.toList=l at hz;generalize aR (.sl τ') (Ty.zero (.sl τ'))=m at hz
  induction hz with
  |nil=>intro u hu;cases hu
  |v h r ih=>
    intro u hu;rcases dT.1 hu with rfl|hu
    .exact h
    .exact ih u hu
  |sl r ih=>
    intro u hu;rcases dT.1 hu with rfl|hu
    .rfl
    .exact ih u hu
 have hs1:z.cells.toList.length=1:=by rw[nE];exact hA.z
 obtain⟨zv,hzv⟩:∃zv,z.cells.toList=[zv]:=by
  match z.cells.toList,hs1 with
  |[zv],_=>exact⟨zv,rfl⟩
 have hL:=xP.of hA h1 1 (by show 1*1<=2^24;decide);rw[hzv]at hL;exact aXh (P:=c.P) (fr:=fr) hL ho (bC hσ hon hx) (dI hq)
theorem aZN(hσ:σ.Ok κ){t e e':TypeId}{n b q:Nat}{τ τ':Ty}{l:List τ'.V}{ps:Array (Nat×Operand)}(ho:o.op = .buildSlice t n ps)(hE:lE c t=some (e,τ,b))(hp:GX σ n ps.toList=some (q,e',⟨τ',l⟩))(hτ:τ = .sl τ')
    (h:k (.own fr) [(fr,some (.bE e e' τ' .un [(l,())] none)),(q,none)]=some r):dU c σ fr o k r:=by
 subst hτ;obtain⟨z,hA,hz⟩:=pE hE;unfold GX at hp;split at hp
 case h_2=>cases hp
 rename_i x hps;split at hp
 case h_2=>cases hp
 rename_i hn;have hn:=bF hn;subst hn;split at hp
 case h_2=>cases hp
 rename_i q' hx;split at hp
 case h_2=>cases hp
 rename_i e1 τ1 l1 hq;cases hp;rw[tM hps]at ho;refine⟨_,_,h,rfl,λhon=>?_⟩;have h1:∀u∈z.cells.toList,u.oneCell'=true:=by
  clear ho hps h hA;generalize z.cells.toList=l at hz;generalize aR (.sl τ') (Ty.zero (.sl τ'))=m at hz
  induction hz with
  |nil=>intro u hu;cases hu
  |v h r ih=>
    intro u hu;rcases dT.1 hu with rfl|hu
    .exact h
    .exact ih u hu
  |sl r ih=>
    intro u hu;rcases dT.1 hu with rfl|hu
    .rfl
    .exact ih u hu
 have hs1:z.cells.toList.length=1:=by rw[nE];exact hA.z
 obtain⟨zv,hzv⟩:∃zv,z.cells.toList=[zv]:=by
  match z.cells.toList,hs1 with
  |[zv],_=>exact⟨zv,rfl⟩
 have hL:=xP.of hA h1 1 (by show 1*1<=2^24;decide);rw[hzv]at hL;have hp1:pF σ.den (#[(0,x)]:Array (Nat×Operand)).toList [(0,X.D (.own q))]:=.cons (bC hσ hon hx) bV.refl .nil;have:=aEl (P:=c.P) (fr:=fr) (i0:=0) (out:=[X.D (.own q)]) hL ho hp1 rfl rfl (λi d hi hd=>by
  obtain⟨i',rfl⟩:∃i',i=i'+1:=⟨i-1,by omega⟩
  simp at hd) (dI hq)
 exact this
theorem aYQ{τ κ ρ:Ty}(h:Tp τ=some (κ,ρ)):τ.size=1+ρ.size:=by
 unfold Tp at h;split at h
 .cases h;rfl
 .cases h;rfl
 .cases h
theorem a1K{l:List Value}{m:List Tree}(hz:iK l m):∀u∈l,u.oneCell'=true:=by
 induction hz with
 |nil=>intro u hu;cases hu
 |v h r ih=>
   intro u hu;rcases dT.1 hu with rfl|hu
   .exact h
   .exact ih u hu
 |sl r ih=>
   intro u hu;rcases dT.1 hu with rfl|hu
   .rfl
   .exact ih u hu
theorem aZO(hσ:σ.Ok κ){t e e':TypeId}{n b q:Nat}{τ κ':Ty}{l:List κ'.V}{ys:List X}{ps:Array (Nat×Operand)}(ho:o.op = .buildSlice t n ps)(hE:lE c t=some (e,τ,b))(hp:To σ n ps.toList=some (q,e',⟨κ',l⟩,ys))
    (h:UL σ fr e e' q κ' l ys k τ=some r):dU c σ fr o k r:=by
 unfold UL at h;split at h
 case h_2=>cases h
 rename_i κ1 ρ;split at h
 case h_2=>cases h
 rename_i hκ _;have hκ':=hκ.down;subst hκ';split at h
 case h_2=>cases h
 rename_i hle;have hle:=fQ hle;split at h
 case h_2=>cases h
 rename_i rr hj;obtain⟨z,hA,hz⟩:=pE hE;change l9 c.P t e z (1+ρ.size) b at hA;unfold To at hp;split at hp
 case h_2=>cases hp
 rename_i x hps;split at hp
 case h_2=>cases hp
 rename_i hn;have hn:=bF hn;subst hn;split at hp
 case h_2=>cases hp
 rename_i q' ys' hx;split at hp
 case h_2=>cases hp
 rename_i e1 τ1 l1 hq;cases hp;rw[tM hps]at ho;refine⟨_,_,h,rfl,λhon=>?_⟩;have h1:=a1K hz;have hs1:z.cells.toList.length=1+ρ.size:=by rw[nE];exact hA.z
 have hL:=xP.of hA h1 1 (by omega);have hzs:(bY 1 z.cells.toList).flatten=z.cells.toList:=by simp
 rw[hzs]at hL;have hev:=bC hσ hon hx;unfold X.D Ds at hev;have hw:dL σ.den.H (Ds ys) ((aR ρ rr).map .t):=by
  rw[fC];have h2:dL σ.den.H (ys.map X.D) ((ys.map σ.iJ).map X.D):=by
   rw[mZ];exact dL.of_map (f:=X.D) (g:=X.D ∘ σ.iJ) λx _=>w9 σ x
  exact h2.trans (oY hj)
 have hpw:pF σ.den (#[(0,x)]:Array (Nat×Operand)).toList [(0,.agg (X.D (.own q)::(aR ρ rr).map .t))]:=.cons hev (bV.agg (.cons bV.refl hw)) .nil;have hol:(X.D (.own q)::(aR ρ rr).map D.t).length=1+ρ.size:=by rw[List.length_cons,cW,dB,Nat.add_comm]
 have hf:jC ((List.range 1).map λi=>(i*(1+ρ.size),1+ρ.size)) (z.cells.toList.map λu=>.t (.v u)) [(0,.agg (X.D (.own q)::(aR ρ rr).map .t))]=some (X.D (.own q)::(aR ρ rr).map .t):=by
  show jC [(0*(1+ρ.size),1+ρ.size)] _ _=_;unfold jC;show(if(D.agg _).val&&((D.agg (X.D (.own q)::(aR ρ rr).map .t)).cells.length == 1+ρ.size)&&decide (0*(1+ρ.size)+(D.agg (X.D (.own q)::(aR ρ rr).map .t)).cells.length<=(z.cells.toList.map λu=>D.t (.v u)).length)then _ else _)=_;have hc:(D.agg (X.D (.own q)::(aR ρ rr).map .t)).cells=X.D (.own q)::(aR ρ rr).map .t:=rfl;rw[hc,hol,cW,hs1,aJ (by simp[D.val])];unfold jC
  congr 1
  rw[pJ];show(z.cells.toList.map λu=>D.t (.v u)).take 0++_++(z.cells.toList.map λu=>D.t (.v u)).drop (0+_)=_;rw[Gz,fR,List.drop_eq_nil_of_le (by rw[hol,cW,hs1];omega),nB]
 have:=aEl (P:=c.P) (fr:=fr) (i0:=0) hL ho hpw hf rfl (λi d hi hd=>by
  obtain⟨i',rfl⟩:∃i',i=i'+1:=⟨i-1,by omega⟩
  rw[List.getElem?_cons_succ,cY]at hd;obtain⟨t,_,rfl⟩:=cR.1 hd;exact⟨t,rfl⟩) (dI hq)
 have hcell:(((X.D (.own q)::(aR ρ rr).map .t).map NC.eZ).set 0 (.cM (dN l) (b8 (aR κ') l)))=jB (1+ρ.size) (b8 eQ [(l,rr)]) none:=by
  show NC.cM _ _::((aR ρ rr).map D.t).map NC.eZ=(eQ (l,rr)++[]);rw[nB,mZ];rfl
 rw[hcell]at this;exact this
theorem aFG{w:X}{q:Nat}{e1 e1':TypeId}{κ' ρ:Ty}{l:List (List κ'.V×ρ.V)}(h:GS σ w=some (q,e1,e1',⟨κ',ρ,l⟩)):w = .own q/\σ.H q=some (.bE e1 e1' κ' ρ l none):=by
 unfold GS at h;split at h
 .split at h
  .rename_i q' e e' κ'' ρ' l' hq
   cases h;exact⟨rfl,hq⟩
  .cases h
 .cases h
theorem aZ8(hσ:σ.Ok κ){t e e1 e1':TypeId}{x y:Operand}{v w:X}{bt q:Nat}{τ0 κ' ρ:Ty}{l':List (List κ'.V×ρ.V)}(ho:o.op = .call { callee:=.builtin .append,args:=#[x,y],argTypes:=#[t,t] })(hE:lE c t=some (e,τ0,bt))
    (hx:σ.ev x=some v) (hy:σ.ev y=some w) (hw:GS σ w=some (q,e1,e1',⟨κ',ρ,l'⟩)) (h:VR σ e fr bt v q e1 e1' κ' ρ l' k τ0=some r):dU c σ fr o k r:=by
 unfold VR at h;split at h
 case h_2=>cases h
 rename_i κ1 ρ1 hns;have hsz:=aYQ hns;split at h
 case h_2=>cases h
 rename_i hκ _;have hκ':=hκ.down;subst hκ';split at h
 case h_2=>cases h
 rename_i hρ _;have hρ':=hρ.down;subst hρ';split at h
 case h_2=>cases h
 rename_i he;have he:=bF he;subst he;obtain⟨z,hA,_⟩:=pE hE;rw[hsz]at hA;obtain⟨rfl,hq⟩:=aFG hw;split at h
 .obtain⟨hb,h⟩:=fH h
  refine⟨_,_,h,rfl,λhon=>?_⟩;unfold b9 at hb;have hb:=cT hb;have:=aEv (P:=c.P) (fr:=fr) (ls:=[]) hA ho (.nil (bC hσ hon hx)) (bC hσ hon hy) (dI hq) (by simp) (λi d h=>by simp at h) (VA l') ⟨by rw[eD];exact hb.1,by simp only[maxLen];omega⟩;rw[eD]at this;exact this
 .split at h
  case h_2=>cases h
  rename_i q0 e0 e0' κ0 ρ0 l hv;obtain⟨rfl,hq0⟩:=aFG hv;split at h
  case h_2=>cases h
  rename_i hκ0 _;split at h
  case h_2=>cases h
  rename_i hρ0 _;have h0:=hκ0;have h0':=hρ0;subst h0 h0';split at h
  case h_2=>cases h
  rename_i hc;simp only[bM,Vg]at hc;obtain⟨⟨c1,c2⟩,c3⟩:=hc;have c1:=bF c1;have c2:=bF c2;have c3:=mT c3;subst c1 c2;obtain⟨hb,h⟩:=fH h;refine⟨_,_,h,rfl,λhon=>?_⟩;unfold b9 at hb;have hb:=cT hb;have:=aEv (P:=c.P) (fr:=fr) hA ho (.own (bC hσ hon hx) (dI hq0)) (bC hσ hon hy) (dI hq) (λe=>c3 (fI e)) (VA l) (VA l') ⟨hb.1,by simp only[maxLen];omega⟩;have e1:jB (1+ρ0.size) (b8 eQ l) none++jB (1+ρ0.size) (b8 eQ l') none=jB (1+ρ0.size) (b8 eQ (l++l')) none:=by
   show b8 eQ l++b8 eQ l'=b8 eQ (l++l');rw[Du]
  rw[e1,<-cP]at this;exact this
theorem aFK{w:X}{q:Nat}{e1 e1':TypeId}{τ:Ty}{l:List (List τ.V)}(h:GW σ w=some (q,e1,e1',⟨τ,l⟩)):w = .own q/\σ.H q=some (.nest e1 e1' τ l):=by
 unfold GW at h;split at h
 .split at h
  .rename_i q' e e' τ' l' hq
   cases h;exact⟨rfl,hq⟩
  .cases h
 .cases h
theorem aZ9(hσ:σ.Ok κ){t e e1 e1':TypeId}{x y:Operand}{v w:X}{bt q:Nat}{τ0 τ:Ty}{l':List (List τ.V)}(ho:o.op = .call { callee:=.builtin .append,args:=#[x,y],argTypes:=#[t,t] })(hE:lE c t=some (e,τ0,bt))(hτ:τ0 = .sl τ)
    (hx:σ.ev x=some v) (hy:σ.ev y=some w) (hw:GW σ w=some (q,e1,e1',⟨τ,l'⟩)) (h:VS σ e fr bt v q e1 e1' τ l' k=some r):dU c σ fr o k r:=by
 subst hτ;obtain⟨z,hA,_⟩:=pE hE;obtain⟨rfl,hq⟩:=aFK hw;unfold VS at h;split at h
 case h_2=>cases h
 rename_i he;have he:=bF he;subst he;split at h
 .obtain⟨hb,h⟩:=fH h
  refine⟨_,_,h,rfl,λhon=>?_⟩;unfold b9 at hb;have hb:=cT hb;have:=aEw (P:=c.P) (fr:=fr) hA ho (.nil (bC hσ hon hx)) (bC hσ hon hy) (dI hq) (by simp) (by rw[cW,HE];exact⟨by rw[eD];exact hb.1,by simp only[maxLen];omega⟩);exact this
 .split at h
  case h_2=>cases h
  rename_i q0 e0 e0' τ0 l hv;obtain⟨rfl,hq0⟩:=aFK hv;split at h
  case h_2=>cases h
  rename_i hτ _;have hτ':=hτ;subst hτ';split at h
  case h_2=>cases h
  rename_i hc;simp only[bM,Vg]at hc;obtain⟨⟨c1,c2⟩,c3⟩:=hc;have c1:=bF c1;have c2:=bF c2;have c3:=mT c3;subst c1 c2;obtain⟨hb,h⟩:=fH h;refine⟨_,_,h,rfl,λhon=>?_⟩;unfold b9 at hb;have hb:=cT hb;have:=aEw (P:=c.P) (fr:=fr) hA ho (.own (bC hσ hon hx) (dI hq0)) (bC hσ hon hy) (dI hq) (λe=>c3 (fI e)) (by rw[cW,cW];exact⟨hb.1,by simp only[maxLen];omega⟩);unfold WA;simp only[eX,pM,iT,pG,XO.A];rw[<-fO]at this;exact this
theorem Na{d:TypeDesc}{τ:Ty}(h:D0 d τ=true)(x:τ.V):n9 τ x = .v (kv τ x)/\MapKept.IsKey d (kv τ x)/\τ.one=true:=by
 unfold D0 at h;split at h
 .exact⟨rfl,(cT h).symm,rfl⟩
 .exact⟨rfl,rfl,rfl⟩
 .exact⟨rfl,trivial,rfl⟩
 .exact⟨rfl,trivial,rfl⟩
 .cases h
theorem a0P{a b:Int}(h:xD a b=true):a=b:=cT h
theorem a0O{a b:Int}(h:a=b):xD a b=true:=aO h
theorem a0R{a b:Bool}(h:Gi a b=true):a=b:=cT h
theorem a0Q{a b:Bool}(h:a=b):Gi a b=true:=aO h
theorem N9{d:TypeDesc}{τ:Ty}(h:D0 d τ=true)(x y:τ.V):D1 τ x y=true ↔ kv τ x=kv τ y:=by
 unfold D0 at h;split at h
 .show xD x y=true ↔ _
  exact⟨λe=>aY (Value.int _) (a0P e),λe=>a0O (Value.int.inj e).2⟩
 .show Gh x y=true ↔ _
  unfold Gh;simp only[hJ,kv,Value.int.injEq,true_and];constructor
  .intro e;rw[e]
  .intro e;exact VV.1 (by omega)
 .show Nu x y=true ↔ _
  unfold Nu;simp only[hJ,kv,Value.string.injEq];constructor
  .intro e;rw[e]
  .intro e
   have:=aY (λb:ByteArray=>b.data.toList) e;exact this
 .show Gi x y=true ↔ _
  exact⟨λe=>aY Value.bool (a0R e),λe=>a0Q (Value.bool.inj e)⟩
 .cases h
theorem aFa{τ:Ty}{x:X}{kf:τ.V->O}(h:N8 τ x kf=some r):∃y,kf y=some r/\(τ.one=true->x.D = .t (n9 τ y)):=by
 unfold N8 at h;split at h
 .rename_i τ' y
  split at h
  .rename_i he _
   have he':=he;subst he';exact⟨y,h,λh1=>o8 h1 y⟩
  .cases h
 .cases h
theorem aFU{τ:Ty}{x:τ.V}{kf:X->O}{k0:O}:∀{l:List (τ.V×X)},UI τ x kf k0 l=some r->
    (∃j y v,l[j]?=some (y,v)/\D1 τ y x=true/\(∀(m:Nat)(p:τ.V×X),m<j->l[m]?=some p->D1 τ p.1 x=false)/\kf v=some r)\/((∀p∈l,D1 τ p.1 x=false)/\k0=some r)
 |[],h=>.inr ⟨λp hp=>(by cases hp),h⟩
 |(y,v)::l,h=>by
   rcases tK h with⟨hb,h⟩|⟨hb,h⟩
   .exact .inl ⟨0,y,v,rfl,hb,λm p hm=>by omega,h⟩
   .rcases aFU h with⟨j,y',v',h1,h2,h3,h4⟩|⟨h1,h2⟩
    .refine .inl ⟨j+1,y',v',by simpa using h1,h2,λm p hm hp=>?_,h4⟩
     cases m with
     |zero=>simp at hp;subst hp;exact hb
     |succ m=>exact h3 m p (by omega) (by simpa using hp)
    .refine .inr ⟨λp hp=>?_,h2⟩
     rcases dT.1 hp with rfl|hp
     .exact hb
     .exact h1 p hp
theorem aEy{cm b:Bool}{x:X}:(Tm cm x b).D=NT cm x.D b:=by
 cases cm with
 |false=>rfl
 |true=>
   show(X.aU [x,.e .bo b]).D=_;simp only[X.D,Ds];rfl
theorem aZK{t:TypeId}(ho:o.op = .makeMap t none){τ:Ty}(h:k (.own fr) [(fr,some (.mp τ []))]=some r):dU c σ fr o k r:=
 ⟨_,_,h,rfl,λ_=>aX4 ho⟩
theorem aZS(hσ:σ.Ok κ){t kt et:TypeId}{m x y:Operand}{a b v:X}(ho:o.op = .insert t m x y)(hu:c.P.underlying t=some (.map kt et))(hm:σ.ev m=some a)(hx:σ.ev x=some b)(hy:σ.ev y=some v)(h:UB c σ kt a b v k=some r):dU c σ fr o k r:=by
 unfold UB at h;split at h
 case h_2=>cases h
 rename_i d q hd;split at h
 case h_2=>cases h
 rename_i τ l hq;split at h
 case h_2=>cases h
 rename_i hc;rw[bM]at hc;obtain⟨hc,hv⟩:=hc;obtain⟨z,h,hz⟩:=aFa h;obtain⟨hn,h⟩:=fH h;refine⟨_,_,h,rfl,λhon=>?_⟩;obtain⟨k1,k2,k3⟩:=Na hc z;have hx':=bC hσ hon hx;rw[hz k3,k1]at hx';have hks:∀p∈(l.map λp=>(kv τ p.1,p.2.D)),MapKept.IsKey d p.1:=λp hp=>by
  obtain⟨p',_,rfl⟩:=dM.1 hp;exact(Na hc p'.1).2.1
 have:=aX2 (P:=c.P) (fr:=fr) hu hd ho (bC hσ hon hm) (dI hq) hx' k2 hks (λp hp e=>by
  obtain⟨p',hp',rfl⟩:=dM.1 hp;have h1:=eG.1 hn p' hp';rw[(N9 hc p'.1 z).2 e]at h1;cases h1) (bC hσ hon hy)
 unfold X.D WA;simp only[eX,pM,iT,XO.A,fO];exact this
theorem aZM(hσ:σ.Ok κ){t kt et:TypeId}{m x:Operand}{cm:Bool}{a b z:X}(ho:o.op = .lookup t m x cm)(hu:c.P.underlying t=some (.map kt et))(hm:σ.ev m=some a)(hx:σ.ev x=some b)(hz:rM c.P et=some z)(h:UC c σ kt a b z cm (λr=>wK r k)=some r):dU c σ fr o k r:=by
 unfold UC at h;split at h
 case h_2=>cases h
 rename_i d q hd;split at h
 case h_2=>cases h
 rename_i τ l hq;split at h
 case h_2=>cases h
 rename_i hc;obtain⟨y,h,hy⟩:=aFa h;obtain⟨k1,k2,k3⟩:=Na hc y;have hks:∀p∈(l.map λp=>(kv τ p.1,p.2.D)),MapKept.IsKey d p.1:=λp hp=>by
  obtain⟨p',_,rfl⟩:=dM.1 hp;exact(Na hc p'.1).2.1
 rcases aFU h with⟨j,y',v,h1,h2,h3,h4⟩|⟨h1,h2⟩
 .obtain⟨hp,h⟩:=GM h4
  refine⟨_,_,h,hp,λhon=>?_⟩;have hx':=bC hσ hon hx;rw[hy k3,k1]at hx';rw[aEy];refine aX8 (P:=c.P) (fr:=fr) hu hd ho (bC hσ hon hm) (dI hq) hx' k2 hks (j:=j) (by rw[cY,h1];show some (kv τ y',v.D)=_;rw[(N9 hc y' y).1 h2]) (λm p hm hp e=>?_);rw[cY]at hp;obtain⟨p',hp',rfl⟩:=cR.1 hp;have:=h3 m p' hm hp';rw[(N9 hc p'.1 y).2 e]at this;cases this
 .obtain⟨hp,h⟩:=GM h2
  refine⟨_,_,h,hp,λhon=>?_⟩;have hx':=bC hσ hon hx;rw[hy k3,k1]at hx';rw[aEy];unfold rM at hz;split at hz
  case h_2=>cases hz
  rename_i w hw;have hD:z.D=oW w/\xE w=true:=⟨(GQ hz).2.1,(GQ hz).1⟩;rw[hD.1];refine aX7 (P:=c.P) (fr:=fr) hu hd ho (bC hσ hon hm) (dI hq) hx' k2 hks (λp hp e=>?_) hw hD.2;obtain⟨p',hp',rfl⟩:=dM.1 hp;have:=h1 p' hp';rw[(N9 hc p'.1 y).2 e]at this;cases this
theorem aZC(hσ:σ.Ok κ){t:TypeId}{x:Operand}{τ:Ty}{y:τ.V}{j:Nat}(ho:o.op = .slice t x none none none)(hx:σ.ev x=some (.pt τ y j))(h:TM c t (.pt τ y j) (λr=>k r [])=some r):dU c σ fr o k r:=by
 unfold TM at h;split at h
 case h_2=>cases h
 rename_i n e hu;obtain rfl|⟨j',rfl⟩:j=0\/∃j',j=j'+1:=by cases j;exact .inl rfl;exact .inr ⟨_,rfl⟩
 case inr=>cases h
 simp only at h;split at h
 case h_2=>cases h
 rename_i τ' _;split at h
 case h_2=>cases h
 rename_i m hm;split at h
 case h_2=>cases h
 split at h
 case h_2=>cases h
 rename_i l hl;split at h
 case h_2=>cases h
 rename_i hn;have hn:=bF hn;refine⟨_,_,h,rfl,λhon=>?_⟩;have:=aXP (P:=c.P) (fr:=fr) hu hm ho (bC hσ hon hx);rw[TF _ _ _ _ hl,<-hn]at this;exact this
theorem aY9(a:Option Int):jV a=dQ a:=by cases a <;> rfl
theorem aYw(n:Nat)(b:Option Int):jX n b=eO n b:=by cases b <;> rfl
theorem aZB(hσ:σ.Ok κ){t e0:TypeId}{x:Operand}{lo hi:Option Operand}{q:Nat}{τ:Ty}{l:List τ.V}(ho:o.op = .slice t x lo hi none)(hx:σ.ev x=some (.own q))(hq:σ.H q=some (.row e0 τ l false))(h:σ.kD lo (λlo=>σ.kD hi λhi=>TL c σ t q τ l lo hi k)=some r):dU c σ fr o k r:=by
 obtain⟨a,h,ha⟩:=wL hσ h;obtain⟨b,h,hb⟩:=wL hσ h;unfold TL at h;split at h
 case h_2=>cases h
 rename_i e hu;split at h
 case h_2=>cases h
 rename_i m hm;split at h
 case h_2=>cases h
 rename_i hs;rw[bM]at hs;have hs0:=fQ hs.2;have hs:=bF hs.1;subst hs;obtain⟨h,hok⟩:=mS h;refine⟨_,_,h,rfl,λhon=>?_⟩;have:=aXO (P:=c.P) (fr:=fr) hs0 hu hm ho (bC hσ hon hx) (dI hq) (ha hon) (hb hon) (hok hon.g);rw[<-aY9,<-aYw]at this;exact this
theorem Uy(hσ:σ.Ok κ){τ:Ty}{w:X}{y:Operand}{kf:List τ.V->O}(hy:σ.ev y=some w)(h:Gj σ τ w kf=some r):∃src,kf src=some r/\(σ.On->τ.size=1->rL σ.den y 1 src.length (src.flatMap (aR τ))):=by
 unfold Gj at h;split at h
 .rename_i q i n s
  split at h
  case h_2=>cases h
  rename_i e τ' l st hq;split at h
  case h_2=>cases h
  rename_i hτ _;have hτ':=hτ;subst hτ';split at h
  case h_2=>cases h
  rename_i hs;have hs:=bF hs;subst hs;obtain⟨hb,h⟩:=fH h;have hb:=cT hb;refine⟨_,h,λhon h1=>?_⟩;have hq':σ.den.H q=some (.row e 1 l.length (l.flatMap (aR τ')) st):=by
   have h0:σ.den.H q=some (.row e τ'.size l.length (l.flatMap (aR τ')) st):=dI hq;rw[h1]at h0;exact h0
  have hv:=bC hσ hon hy;unfold X.D at hv;rw[h1]at hv;have hl:=o7 l;rw[h1]at hl;have:=rL.vw (sz:=1) hv hq' (by rw[hl];omega);have e1:((b8 (aR τ') l).drop (i*1)).take (n*1)=b8 (aR τ') ((l.drop i).take n):=by
   have e2:=Nk (f:=aR τ') (s:=1) (λx=>by rw[dB τ' x,h1]) l i;have e3:=BF (f:=aR τ') (s:=1) (λx=>by rw[dB τ' x,h1]) (l.drop i) n;rw[e2,e3]
  rw[e1]at this;have e4:((l.drop i).take n).length=n:=by rw[fJ,pN];omega
  show rL σ.den y 1 ((l.drop i).take n).length (b8 (aR τ') ((l.drop i).take n));rw[e4];exact this
 .obtain⟨l,hl,h⟩:=bD h
  refine⟨l,h,λhon h1=>.src (Ml (bC hσ hon hy) hl) ?_⟩;have:=o7 l;rw[h1]at this;exact this
theorem aFl(_hσ:σ.Ok κ){t t' e0:TypeId}{x y:Operand}{q i n:Nat}{τ:Ty}{l src:List τ.V}(ho:o.op = .call { callee:=.builtin .copy,args:=#[x,y],argTypes:=#[t,t'] })(hx:σ.On->(σ.den.ev x=some (.own q)/\i=0/\n=l.length)\/σ.den.ev x=some (.vw q i n))(hq:σ.H q=some (.row e0 τ l false))
    (hy:σ.On->τ.size=1->rL σ.den y 1 src.length (src.flatMap (aR τ))) (h:Nv c t q i n e0 τ l src k=some r):dU c σ fr o k r:=by
 unfold Nv at h;split at h
 case h_2=>cases h
 rename_i hm;obtain⟨e,he,hs⟩:=xN.1 hm;split at h
 case h_2=>cases h
 rename_i h1;have h1:=bF h1;obtain⟨hb,h⟩:=fH h;have hb:=cT hb;refine⟨_,_,h,rfl,λhon=>?_⟩;have hu:c.P.underlying t=some (.slice e):=by
  unfold Ns at he;split at he
  .rename_i e' hu;cases he;exact hu
  .cases he
 have hq':σ.den.H q=some (.row e0 1 l.length (l.flatMap (aR τ)) false):=by
  have h0:σ.den.H q=some (.row e0 τ.size l.length (l.flatMap (aR τ)) false):=dI hq;rw[h1]at h0;exact h0
 have hl:=o7 l;rw[h1,jZ]at hl;have hf:∀x:τ.V,(aR τ x).length=1:=λx=>by rw[dB τ x,h1]
 have:=aYC (P:=c.P) (fr:=fr) hu hs ho (hx hon) hq' (hy hon h1) (by rw[hl];exact hb);have e1:=BF (f:=aR τ) (s:=1) hf l i;have e2:=BF (f:=aR τ) (s:=1) hf src n;have e3:=Nk (f:=aR τ) (s:=1) hf l (i+min src.length n);rw[jZ]at e1 e2 e3;rw[e1,e2,e3,<-Du,<-Du]at this;have e4:(l.take i++src.take n++l.drop (i+min src.length n)).length=l.length:=by
  simp only[cP,fJ,pN];omega
 have hA:(XO.row e0 τ (l.take i++src.take n++l.drop (i+min src.length n)) false).A = .row e0 1 l.length (b8 (aR τ) (l.take i++src.take n++l.drop (i+min src.length n))) false:=by
  show aQ.row e0 τ.size (l.take i++src.take n++l.drop (i+min src.length n)).length _ false=_;rw[e4,h1]
 show aZ c.P o σ.den fr _ [(q,some (XO.row e0 τ (l.take i++src.take n++l.drop (i+min src.length n)) false).A)];rw[hA];exact this
theorem aZX(hσ:σ.Ok κ){t t':TypeId}{x y:Operand}{v w:X}(ho:o.op = .call { callee:=.builtin .copy,args:=#[x,y],argTypes:=#[t,t'] })(hx:σ.ev x=some v)(hy:σ.ev y=some w)(h:Ux c σ t v w k=some r):dU c σ fr o k r:=by
 unfold Ux at h;split at h
 .rename_i q
  split at h
  case h_2=>cases h
  rename_i e τ l hq;obtain⟨src,h,hs⟩:=Uy hσ hy h;exact aFl hσ ho (λhon=>.inl ⟨bC hσ hon hx,rfl,rfl⟩) hq hs h
 .rename_i q i n s
  split at h
  case h_2=>cases h
  rename_i e τ l hq;split at h
  case h_2=>cases h
  rename_i hb;have hb:=bF hb;subst hb;obtain⟨src,h,hs⟩:=Uy hσ hy h;refine aFl hσ ho (λhon=>.inr ?_) hq hs h;have:=bC hσ hon hx;unfold X.D at this;rw[jZ]at this;exact this
 .cases h
theorem aZ7(hσ:σ.Ok κ){t e:TypeId}{x y:Operand}{v w:X}{bt:Nat}{τ:Ty}{p:Nat×Nat×Nat}(ho:o.op = .call { callee:=.builtin .append,args:=#[x,y],argTypes:=#[t,t] })(hE:lE c t=some (e,τ,bt))
    (hx:σ.ev x=some v) (hp:T9 v=some p) (hy:σ.ev y=some w) (h:VQ σ e τ bt fr p w k=some r):dU c σ fr o k r:=by
 unfold T9 at hp;split at hp
 case h_2=>cases hp
 rename_i q i n s;split at hp
 case h_2=>cases hp
 rename_i hi;have hi:=bF hi;subst hi;cases hp;unfold VQ at h;simp only at h;split at h
 case h_2=>cases h
 rename_i e' τ' l hq;split at h
 case h_2=>cases h
 rename_i hτ _;have hτ':=hτ;subst hτ';split at h
 case h_2=>cases h
 rename_i hc;simp only[bM]at hc;have he:=bF hc.1;have hs:=bF hc.2.1;have h1:=bF hc.2.2;subst he hs;obtain⟨hn,h⟩:=fH h;have hn:=cT hn;obtain⟨src,h,hsrc⟩:=Uy hσ hy h;obtain⟨hb,h⟩:=fH h;obtain⟨z,hA,_⟩:=pE hE;refine⟨_,_,h,rfl,λhon=>?_⟩;unfold b9 at hb;have hb:=cT hb;rw[h1]at hA;have hv:=bC hσ hon hx;have hq':=dI hq;have hq':σ.den.H q=some (.row e' 1 l.length (l.flatMap (aR τ')) false):=by
  have h0:σ.den.H q=some (.row e' τ'.size l.length (l.flatMap (aR τ')) false):=hq';rw[h1]at h0;exact h0
 have:=aYK (P:=c.P) (fr:=fr) hA ho hv hq' hn (hsrc hon h1) ⟨hb.1,by simp only[maxLen];omega⟩;have e3:=BF (f:=aR τ') (s:=1) (λx=>by rw[dB τ' x,h1]) l n;rw[e3,<-Du]at this;have e4:((l.take n)++src).length=n+src.length:=by rw[cP,fJ,Dm hn]
 rw[<-e4,<-h1]at this;exact this
theorem aZ2(hσ:σ.Ok κ){st:Bool}{b:Builtin}{args:Array Operand}{tys:Array TypeId}(ho:o.op = .call { callee:=.builtin b,args:=args,argTypes:=tys })(h:eE c σ fr st { o with op:=.call { callee:=.builtin b,args:=args,argTypes:=tys } } k=some r):dU c σ fr o k r:=by
 unfold eE at h;simp only at h;split at h
 .rename_i x t ha ht
  cases tM ha;cases tM ht;obtain⟨v,hv,h⟩:=bD h;exact aZR hσ ho hv h
 .rename_i x y t t' ha ht
  cases xK ha;cases xK ht;split at h
  .exact aZ6 hσ ho h
  rename_i he;have he:=bF he;subst he;obtain⟨⟨e,τ,bt⟩,hE,h⟩:=bD h;simp only at h;obtain⟨v,hv,h1⟩:=bD h;clear h;obtain⟨w,hw,h2⟩:=bD h1;clear h1;split at h2
  .rename_i p hp
   exact aZ7 hσ ho hE hv hp hw h2
  rename_i hnp;clear hnp;split at h2
  .rename_i q e1 e1' τ1 l' hnw
   split at h2
   .rename_i hτ _
    split at h2
    .exact aZ9 hσ ho hE hτ.down hv hw hnw h2
    .cases h2
   .cases h2
  split at h2
  .rename_i q e1 e1' κ' ρ l' hnw
   exact aZ8 hσ ho hE hv hw hnw h2
  obtain⟨l',hl',h⟩:=bD h2;clear h2;refine aZ5 hσ ho hE hv hw hl' (st:=st) ?_;split at h
  .rename_i q
   split at h
   .rename_i e' τ' l st' hq
    generalize eA τ' τ=p at h;cases p with
    |none=>cases h
    |some g=>
      obtain⟨g⟩:=g;subst g;simp only at h;split at h
      .rename_i hb
       have hb:=bF hb;subst hb;exact .inl ⟨q,st',l,rfl,hq,h⟩
      .cases h
   .cases h
  .exact .inr ⟨rfl,h⟩
  .cases h
 .rename_i x t ha ht
  cases tM ha;cases tM ht;obtain⟨v,hv,h⟩:=bD h;exact aZD hσ ho hv h
 .rename_i x y t t' ha ht
  cases xK ha;cases xK ht;obtain⟨v,hv,h⟩:=bD h;obtain⟨w,hw,h⟩:=bD h;exact aZA hσ ho hv hw h
 .rename_i x t ha ht
  cases tM ha;cases tM ht;obtain⟨v,hv,h⟩:=bD h;split at h
  .rename_i e hu
   exact⟨_,_,h,rfl,λhon=>aYD (P:=c.P) (fr:=fr) hu ho (bC hσ hon hv)⟩
  .cases h
 .rename_i x y t t' ha ht
  cases xK ha;cases xK ht;obtain⟨v,hv,h⟩:=bD h;obtain⟨w,hw,h⟩:=bD h;exact aZX hσ ho hv hw h
 .rename_i x y ha
  cases xK ha;obtain⟨v,hv,h⟩:=bD h;obtain⟨w,hw,h⟩:=bD h;split at h
  .unfold N0 at h
   exact⟨_,_,h,rfl,λhon=>aX9 ho (bC hσ hon hv) (bC hσ hon hw)⟩
  .cases h
 .rename_i x y z ha
  cases a1D ha;obtain⟨v,hv,h1⟩:=bD h;clear h;obtain⟨w,hw,h2⟩:=bD h1;clear h1;obtain⟨u,hu,h3⟩:=bD h2;clear h2;split at h3
  .unfold N0 at h3
   exact⟨_,_,h3,rfl,λhon=>aXa ho (bC hσ hon hv) (bC hσ hon hw) (bC hσ hon hu)⟩
  .cases h3
 .rename_i x y ha
  cases xK ha;obtain⟨v,hv,h⟩:=bD h;obtain⟨w,hw,h⟩:=bD h;split at h
  .unfold aFO at h
   exact⟨_,_,h,rfl,λhon=>aX6 ho (bC hσ hon hv) (bC hσ hon hw)⟩
  .cases h
 .cases h
theorem aWS(hG:oF c.P c.G):OH c:=by
 intro σ κ fr st o k r hσ h;obtain⟨op,hop⟩:∃op,o.op=op:=⟨_,rfl⟩
 cases op with
 |move x=>
   unfold eE at h;rw[hop]at h;obtain⟨v,hv,h⟩:=bD h;exact⟨_,_,h,xA hv,λhon=>aX3 hop (bC hσ hon hv)⟩
 |assign x=>
   unfold eE at h;rw[hop]at h;obtain⟨v,hv,h⟩:=bD h;exact⟨_,_,h,xA hv,λhon=>aYH hop (bC hσ hon hv)⟩
 |pick b x y=>
   unfold eE at h;rw[hop]at h;exact aZF hσ hop h
 |alloc e=>
   unfold eE at h;rw[hop]at h;obtain⟨z,hz,h⟩:=bD h;exact aZa hop hz h
 |box e x=>
   unfold eE at h;rw[hop]at h;obtain⟨v,hv,h⟩:=bD h;split at h
   .rename_i hval
    exact aZ4 hσ hop hv hval h
   .cases h
 |build t ps=>
   unfold eE at h;rw[hop]at h;obtain⟨z,hz,h⟩:=bD h;obtain⟨pl,hp,h⟩:=bD h;exact aZ3 hσ hop hz hp h
 |buildSlice t n ps=>
   unfold eE at h;rw[hop]at h;obtain⟨⟨e,τ,b⟩,hE,h⟩:=bD h;simp only at h;split at h
   .rename_i q e' τ' l hnp
    split at h
    .rename_i hτ _
     split at h
     .split at h
      .exact aZN hσ hop hE hnp hτ.down h
      .exact aZP hσ hop hE hnp hτ.down h
     .cases h
    .cases h
   split at h
   .rename_i q e' κ' l ys hnp
    exact aZO hσ hop hE hnp h
   split at h
   .rename_i hle
    exact aZQ hσ hop hE (fQ hle) h
   .cases h
 |makeMap t m=>
   unfold eE at h;rw[hop]at h;cases m with
   |none=>
     simp only at h;split at h
     .split at h
      .exact aZK hop h
      .cases h
     .cases h
   |some _=>cases h
 |insert t m x y=>
   unfold eE at h;rw[hop]at h;simp only at h;split at h
   .rename_i kt et hu
    obtain⟨a,ha,h⟩:=bD h;obtain⟨b,hb,h⟩:=bD h;obtain⟨v,hv,h⟩:=bD h;exact aZS hσ hop hu ha hb hv h
   .cases h
 |range t x=>
   unfold eE at h;rw[hop]at h;simp only at h;split at h
   .rename_i hu
    obtain⟨v,hv,h⟩:=bD h;split at h
    .exact aZE hσ hop hu hv h
    .cases h
   .cases h
 |next i b=>
   unfold eE at h;rw[hop]at h;cases b with
   |true=>
     simp only at h;obtain⟨v,hv,h⟩:=bD h;split at h
     .split at h
      .rename_i hq
       exact aZJ hσ hop hv hq h
      .cases h
     .cases h
   |false=>cases h
 |lookup t m x cm=>
   unfold eE at h;rw[hop]at h;simp only at h;split at h
   .rename_i kt et hu
    obtain⟨a,ha,h⟩:=bD h;obtain⟨b,hb,h⟩:=bD h;obtain⟨z,hz,h⟩:=bD h;exact aZM hσ hop hu ha hb hz h
   .cases h
 |load t a=>
   unfold eE at h;rw[hop]at h;obtain⟨v,hv,h⟩:=bD h;cases st with
   |true=>
     obtain⟨y,h,_,hok⟩:=aY7 (fr:=fr) (o:=o) h;obtain⟨hp,h⟩:=GM h;exact⟨_,_,h,hp,λhon=>hok hop (bC hσ hon hv)⟩
   |false=>
     obtain⟨y,h,hp,hok⟩:=aY8 (fr:=fr) (o:=o) h;exact⟨_,_,h,hp,λhon=>hok hon hop (bC hσ hon hv)⟩
 |store t a y=>
   unfold eE at h;rw[hop]at h;obtain⟨v,hv,h⟩:=bD h;obtain⟨w,hw,h⟩:=bD h;split at h
   .rename_i hval
    cases st with
    |true=>
      obtain⟨W,h,hok⟩:=aWQ (fr:=fr) (o:=o) h;refine⟨_,_,h,rfl,λhon=>?_⟩;unfold X.D;exact hok hop (bC hσ hon hv) (bC hσ hon hw) hval
    |false=>
      obtain⟨W,h,hok⟩:=aWR (fr:=fr) (o:=o) h;refine⟨_,_,h,rfl,λhon=>?_⟩;unfold X.D;exact hok hop (bC hσ hon hv) (bC hσ hon hw) hval
   .cases h
 |nilCheck x=>
   unfold eE at h;rw[hop]at h;exact aZI hσ hop h
 |binOp op xt x y yt=>
   unfold eE at h;rw[hop]at h;obtain⟨v,hv,h⟩:=bD h;obtain⟨w,hw,h⟩:=bD h;split at h
   .rename_i b hn
    exact aZH hσ hop hv hw hn h
   split at h
   .rename_i b hn
    exact aZV hσ hop hv hw hn h
   .obtain⟨z,h,hp,hok⟩:=a0k (fr:=fr) (o:=o) (σ:=σ.den) h
    exact⟨_,_,h,hp,λhon=>hok hon.g hop (bC hσ hon hv) (bC hσ hon hw)⟩
 |unOp op t x=>
   unfold eE at h;rw[hop]at h;simp only at h;obtain⟨v,hv,h'⟩:=bD h;clear h;split at h'
   .unfold aFH at h'
    exact⟨_,_,h',rfl,λhon=>aXV hop (bC hσ hon hv)⟩
   .unfold aFL at h'
    exact⟨_,_,h',rfl,λhon=>aXZ hop (bC hσ hon hv)⟩
   .cases h'
 |convert s d x=>
   unfold eE at h;rw[hop]at h;exact aZY hσ hop h
 |makeInterface t x=>
   unfold eE at h;rw[hop]at h;obtain⟨v,hv,h⟩:=bD h;split at h
   .rename_i ik n hu
    exact⟨_,_,h,rfl,λhon=>aX5 hop hu (bC hσ hon hv)⟩
   .cases h
 |makeFunc g first caps=>
   unfold eE at h;rw[hop]at h;cases g with
   |func f=>
     simp only at h;split at h
     .rename_i hf
      exact aZT hσ hop hf h
     .cases h
   |_=>cases h
 |makeSlice t n m=>
   unfold eE at h;rw[hop]at h;simp only at h;split at h
   .rename_i he
    obtain⟨v,hv,h⟩:=bD h;split at h
    .obtain⟨⟨e,τ,b⟩,hE,h⟩:=bD h
     exact aZL hσ hop he hv hE h
    .cases h
   .cases h
 |slice t x lo hi mx=>
   unfold eE at h;rw[hop]at h;cases mx with
   |none=>
     obtain⟨v,hv,h⟩:=bD h;split at h
     .exact aZG hσ hop hv h
     .exact aZC hσ hop hv h
     .split at h
      .rename_i hq
       cases st with
       |true=>exact aZB hσ hop hv hq h
       |false=>
         cases lo with
         |none=>exact aZW hσ hop hv h
         |some x=>
           obtain⟨w,_,h⟩:=bD h;obtain⟨_,n,_,h⟩:=Gt h;obtain⟨_,h,_⟩:=wL hσ h;cases h
      .exact aFk hσ hop hv h
     .exact aFk hσ hop hv h
   |some _=>cases h
 |fieldAddr s x f=>
   unfold eE at h;rw[hop]at h;obtain⟨v,hv,h⟩:=bD h;obtain⟨y,h,hp,hok⟩:=aZq (fr:=fr) (o:=o) (σ:=σ) h;exact⟨_,_,h,hp,λhon=>hok hop (bC hσ hon hv)⟩
 |field s x f=>
   unfold eE at h;rw[hop]at h;obtain⟨v,hv,h⟩:=bD h;obtain⟨y,h,hok⟩:=aZp (fr:=fr) (o:=o) (σ:=σ) h;obtain⟨hp,h⟩:=GM h;exact⟨_,_,h,hp,λhon=>hok hop (bC hσ hon hv)⟩
 |indexAddr t x n=>
   unfold eE at h;rw[hop]at h;obtain⟨v,hv,h⟩:=bD h;obtain⟨w,hw,h⟩:=bD h;cases st with
   |true=>
     obtain⟨y,h,hp,hok⟩:=aYv (fr:=fr) (o:=o) h;exact⟨_,_,h,hp,λhon=>hok hon hop (bC hσ hon hv) (bC hσ hon hw)⟩
   |false=>
     obtain⟨y,h,hp,hok⟩:=aYu (fr:=fr) (o:=o) h;exact⟨_,_,h,hp,λhon=>hok hon hop (bC hσ hon hv) (bC hσ hon hw)⟩
 |index t x n=>
   unfold eE at h;rw[hop]at h;obtain⟨v,hv,h⟩:=bD h;obtain⟨w,hw,h⟩:=bD h;obtain⟨y,h,hp,hok⟩:=aYt (fr:=fr) (o:=o) h;exact⟨_,_,h,hp,λhon=>hok hon hop (bC hσ hon hv) (bC hσ hon hw)⟩
 |extract x n=>
   unfold eE at h;rw[hop]at h;exact aZU hσ hop h
 |call cl=>
   obtain⟨cal,args,tys⟩:=cl;cases cal with
   |builtin b=>
     refine aZ2 hσ (st:=st) hop ?_;unfold eE at h ⊢;rw[hop]at h;exact h
   |value f=>
     unfold eE at h;rw[hop]at h;obtain⟨v,hv,h⟩:=bD h;split at h
     .exact aZ0 hG hσ hop hv h
     .cases h
   |_=>unfold eE at h;rw[hop]at h;cases h
 |_=>unfold eE at h;rw[hop]at h;cases h
end
end Go.Ax
/- Panics. -/
namespace Go.Ax
open aB
open Go.RowKit Go.Ab
def tU(P:Program)(G:List (Nat×tV)):Prop:=∀f g,lk f G=some g->DL P f=true/\aHE P f g
theorem tU.nil{P:Program}:tU P []:=λf g h=>by cases h
theorem tU.cons{P:Program}{f:Nat}{g:tV}{G:List (Nat×tV)}(hn:DL P f=true)(h:aHE P f g)(k:tU P G):tU P ((f,g)::G):=λf' g' h'=>by
 unfold lk at h';split at h'
 .rename_i hb
  have hb:=bF hb;subst hb;cases h';exact⟨hn,h⟩
 .exact k f' g' h'
section
variable{c:Cx}{σ:Vw}{κ:Nat->Bool}{fr:Nat}{o:Oper}{k:X->Wx->O}{kp:Value->Wx->O}{r:aM}
theorem a00{g:Option Bool}{b:Bool}{k:O}{r:aM}(hg:g=none)(h:b=true)(hk:k=some r):kI g b k=some r:=by
 subst hg h;exact hk
theorem aEc(hG:tU c.P c.Gp)(hσ:σ.Ok κ)(hgn:σ.g=none){fo:Operand}{args:Array Operand}{tys:Array TypeId}{f:FuncId}{caps asL ys:List X}{g:tV}{fn:Func}{code:Code}{els:O}(ho:o.op = .call { callee:=.value fo,args:=args,argTypes:=tys })(hfo:σ.ev fo=some (.fn f caps))(hl:asL.length=args.toList.length)
    (hev:∀(i:Nat)(x:X),asL[i]?=some x->∃p,args.toList[i]?=some p/\σ.ev p=some x) (hg:lk f c.Gp=some g) (hfn:c.P.funcs[f]?=some fn) (hb:fn.body=some code) (hD:dL σ.den.H ((asL++caps).map X.D) (ys.map X.D)) (h:OB σ fr g ys els k kp=some r):els=some r\/dU c σ fr o k r\/∃v W,kp v W=some r/\(σ.On->rI c.P o σ.den fr v (WA W)):=by
 have h0:=h;unfold OB at h;obtain⟨rn,hrn⟩:∃rn,GR 50 (reach σ.H 40 (jU ys []) [])=rn:=⟨_,rfl⟩
 simp only[hrn]at h;split at h
 .exact .inl h
 rename_i hrb;have F:=aE5 hrb;split at h
 .exact .inl h
 rename_i zs hzs;split at h
 .exact .inl h
 rename_i H' hH';split at h
 case h_2=>exact .inl h
 rename_i pre bb rn0 pv H2 hres;split at h
 case h_2=>cases h
 rename_i hnd2;rw[bM]at hnd2;obtain⟨hnd1,hnd⟩:=hnd2;obtain⟨hpre,h⟩:=fH h;obtain⟨hname,hE⟩:=hG f g hg;have hcase:(bb=some true/\(ob (fG (jJ fr rn) rn0.1) λx=>ob (mU (jJ fr rn) rn0.2) λW=>k x (W++gone rn0.2 rn))=some r)\/(bb≠some true/\(ob (mU (jJ fr rn) H2) λW=>kp pv (W++gone H2 rn))=some r):=by
  unfold brO at h;split at h
  .rename_i b0
   rcases tK h with⟨hb1,h⟩|⟨hb1,h⟩
   .exact .inl ⟨by rw[hb1],h⟩
   .exact .inr ⟨by rw[hb1];simp,h⟩
  .exact .inr ⟨by simp,h⟩
 rcases hcase with⟨hb1,h⟩|⟨hb1,h⟩
 ·-- it comes back
  have hG':oF c.P [(f,λxs H=>match g xs H with|some (pre,b,r,_)=>some (pre&&(b == some true),r)|none=>none)]:=oF.cons hname (λxs H pre' r' he hp=>by
   split at he
   .rename_i p b r0 rp hq
    have he:=fI he;have e1:=aY BT he;have e2:=aY BS he;simp only at e1 e2;rw[hp,bM]at e1;rw[<-e2];exact(hE xs H _ _ _ _ hq e1.1).1 (eq_of_beq e1.2)
   .cases he) oF.nil
  refine .inr ?_;rcases U6 (c:=⟨c.P,c.ex,_,[]⟩) (k:=k) (els:=none) hG' hσ ho hfo hl hev (by unfold lk;rw[aGo]) hfn hb hD (by
   unfold Gn;simp only[hrn];rw[hrb];simp only[hzs,hH',hres,hnd1];obtain⟨x,hx,h6⟩:=bD h;obtain⟨W,hW,h7⟩:=bD h6;rw[hx];show ob (mU (jJ fr rn) rn0.2) _=some r;rw[hW];exact a00 (by rw[hgn];rfl) (by rw[hpre,hb1];rfl) h7)with h8|h8
  .cases h8
  .exact .inl h8
 obtain ⟨W,hW,h8⟩:=bD h;refine .inr (.inr ⟨pv,_,h8,fun hon=>?_⟩);have hname' : fn.name ≠ "runtime.NumGoroutine" := by
  unfold DL at hname;rw[hfn]at hname;simpa using hname
 have hDoes:=(hE zs H' _ _ _ _ hres hpre).2 hb1 pv rfl;have hf1:∀k k',old rn k=some k'->decide (k'<100)=true/\k=bL rn k':=λk k' hk=>by
  obtain⟨_,b,_,d⟩:=F.iF _ _ (DJ hk);exact⟨aO b,(DB d).symm⟩
 have hf2:∀k k',jJ fr rn k=some k'->gM fr (rn.map nW) k'=true/\k=back fr (rn.map nW) k':=λk k' hk=>by
  unfold jJ at hk;split at hk
  .rename_i hle
   have hle:=fQ hle;split at hk
   .rename_i hlt
    have hlt:k<108:=fQ hlt;cases hk;refine⟨?_,?_⟩
    .unfold gM
     rw[kX,bM];exact .inl ⟨aO (by omega),aO (by omega)⟩
    .unfold back
     rw[aJ ⟨by omega,by omega⟩];omega
   .cases hk
  .have hm:=mN hk
   obtain⟨_,_,c3,_⟩:=F.iF _ _ hm;have hlook:=NH F hm;refine⟨?_,?_⟩
   .unfold gM
    rw[kX,hlook];exact .inr rfl
   .unfold back
    rw[aH c3];unfold bL;rw[hlook]
 have hkeys:(HA H').map (·.1)=rn.map (·.1):=by
  rw[<-T4 hH'];unfold HA;rw[mZ];rfl
 have hkey:∀{p:Nat×aQ},p∈HA H'->∃q,(p.1,q)∈rn:=λ{p} hp=>by
  have:p.1∈rn.map (·.1):=hkeys ▸ dM.2 ⟨p,hp,rfl⟩;obtain⟨⟨a,b⟩,hm,e⟩:=dM.1 this;simp only at e;subst e;exact⟨b,hm⟩
 have hkey':∀{new q:Nat},(new,q)∈rn->∃p∈HA H',p.1=new:=λ{new q} hm=>by
  have:new∈(HA H').map (·.1):=hkeys ▸ dM.2 ⟨_,hm,rfl⟩;obtain⟨p,hp,e⟩:=dM.1 this;exact⟨p,hp,e⟩
 have hrnm:∀{new q:Nat},(new,q)∈rn->bL rn new=q:=λhm=>DB (F.iF _ _ hm).2.2.2
 refine aYE (ds:=zs.map X.D) (H:=HA H') (H'':=HA H2) rn (rn.map nW) ?_ hDoes (VU hf1 (λp hp=>hrnm hp) hH') ?_ ?_ ?_
 .intro E σ₁ ν G w a hT hHH I
  have hfv:=I.ev (St.c7 hT (bC hσ hon hfo));obtain⟨v,hv⟩:∃v,a.eval fo=v:=⟨_,rfl⟩
  rw[hv]at hfv;unfold X.D at hfv;cases hfv with
  | @fn _ vs _ hvl hvd=>
    have hL:=(wJ hf1 ys zs hzs (H:=σ.den.H)).get;rw[fC,fC]at hL;have hlen:args.toList.length+caps.length=zs.length:=by
     have e1:=hD.len;have e2:=hL.1;simp only[cW,cP]at e1 e2;omega
    have hvl':vs.size=caps.length:=by rw[hvl,fC,cW]
    refine⟨args.toList.map a.eval++vs.toList,?_,?_,λt d' ht=>?_⟩
    .unfold execOp
     rw[ho];have:(args.toList.map a.eval++vs.toList).toArray=args.map a.eval++vs:=by
      apply tX;simp
     rw[this];simp only[resolve,hv,Deferred.ofValue,invoke,Sem.run_bind,Sem.run_pure,Result.andThen_ok,a2L];exact aEZ hfn hname' (by rw[hb];exact λe=>by cases e) _ w
    .simp only[cP,cW,nE]at hlen ⊢
     omega
    .have htl:t<zs.length:=by have:=(bU.1 ht).1;simpa using this
     obtain⟨dy,hdy⟩:∃dy,(ys.map X.D)[t]?=some dy:=⟨_,bJ (by rw[hL.1,cW];exact htl)⟩
     obtain⟨d0,hd0,hwk⟩:=hD.get t dy hdy;have hle:=hL.2 t dy d' hdy ht;rw[cY]at hd0;obtain⟨x0,hx0,rfl⟩:=cR.1 hd0;have hval:∃u,(args.toList.map a.eval++vs.toList)[t]?=some u/\DR ν σ₁.nm w G u x0.D:=by
      by_cases hlt:t<args.toList.length
      .rw[dJ (by omega)]at hx0
       obtain⟨p,hp,hpv⟩:=hev t x0 hx0;refine⟨a.eval p,?_,I.ev (St.c7 hT (bC hσ hon hpv))⟩;rw[dJ (by rw[cW];exact hlt),cY,hp];rfl
      .rw[eS (by omega),hl]at hx0
       have hi:t-args.toList.length<vs.size:=by rw[hvl'];exact(bU.1 hx0).1
       refine⟨vs[t-args.toList.length],?_,hvd _ _ _ (j4 hi) (by rw[fC,cY,hx0];rfl)⟩;rw[eS (by rw[cW];omega),cW,aHJ,j4 hi]
     obtain⟨u,hu,hdr⟩:=hval;exact⟨u,dy,hu,hwk E σ₁ ν G w a.tmps hHH I u hdr,hle⟩
 .have hlk:∀p∈H2,Ab.look p.1 (HA H2)=some p.2.A:=λp hp=>by
   rw[wN,Tr hnd p hp];rfl
  have:=VT hf2 (OF (H2:=HA H2) (nm':=gM fr (rn.map nW)) (ρ:=back fr (rn.map nW)) (H':=H2) rn) hlk hW;unfold WA at this ⊢;rw[fO];exact this
 .unfold Dj
  rw[bM];refine⟨eG.2 λp hp=>?_,eG.2 λp hp=>?_⟩
  .obtain⟨q,hm⟩:=hkey hp
   rw[hrnm hm];have hq:∃x,(q,x)∈W++gone H2 rn:=by
    cases hlk:lk p.1 H2 with
    |none=>exact⟨none,a1g _ (Nf hm hlk)⟩
    |some o=>
      obtain⟨_,b,_,d⟩:=F.iF _ _ hm;have hbk:jJ fr rn p.1=some q:=by
       unfold jJ;rw[show j3 100 p.1=false by
        cases hble:j3 100 p.1 with
        |false=>rfl
        |true=>have:=fQ hble;omega]
       exact d
      obtain⟨x,hx⟩:=VI hbk hW hlk;exact⟨x,a1h _ hx⟩
   obtain⟨x,hx⟩:=hq;obtain⟨y,hy⟩:=DM (l:=WA (W++gone H2 rn)) (k:=q) (dM.2 ⟨(q,x.map XO.A),dM.2 ⟨_,hx,rfl⟩,rfl⟩);rw[hy];rfl
  .obtain⟨⟨q,x⟩,hm,rfl⟩:=dM.1 hp
   rw[kX];have hin:(∃new,(new,q)∈rn)->(HA H').any (λz=>bL rn z.1 == q)=true:=λ⟨new,hn⟩=>by
    obtain⟨p,hp,e⟩:=hkey' hn;exact nC.2 ⟨p,hp,by rw[e,hrnm hn];exact BN _⟩
   rcases jF.1 hm with hm|hm
   .obtain⟨k0,hk0⟩:=VJ hW hm
    unfold jJ at hk0;split at hk0
    .rename_i hle
     have hle:=fQ hle;split at hk0
     .rename_i hlt
      have hlt:k0<108:=fQ hlt;cases hk0;left;rw[bM];exact⟨aO (aGn ..),aO (by simp only;omega)⟩
     .cases hk0
    .exact .inr (hin ⟨k0,mN hk0⟩)
   .exact .inr (hin (Ng hm))
 .unfold rG
  simp only[bM];refine⟨⟨⟨eG.2 λp hp=>?_,aO ?_⟩,eG.2 λp hp=>?_⟩,eG.2 λp hp=>?_⟩
  .obtain⟨q,hm⟩:=hkey hp
   obtain⟨a,b,_,_⟩:=F.iF _ _ hm;rw[bM];exact⟨aO a,aO b⟩
  .have:(HA H').map (λp=>bL rn p.1)=rn.map (·.2):=by
    have e:(HA H').map (λp=>bL rn p.1)=((HA H').map (·.1)).map (bL rn):=by rw[mZ];rfl
    rw[e,hkeys,mZ];exact HC λp hp=>hrnm hp
   rw[this];exact F.nd
  .obtain⟨q,hm⟩:=hkey hp
   rw[hrnm hm,NH F hm];exact BN _
  .obtain⟨⟨new,q⟩,hm,rfl⟩:=dM.1 hp
   obtain⟨p,hp',e⟩:=hkey' hm;refine nC.2 ⟨p,hp',?_⟩;rw[bM,e,hrnm hm];exact⟨BN _,BN _⟩
theorem aXC(hG:tU c.P c.Gp)(hσ:σ.Ok κ){fo:Operand}{args:Array Operand}{tys:Array TypeId}{f:FuncId}{caps:List X}{g:tV}(ho:o.op = .call { callee:=.value fo,args:=args,argTypes:=tys })(hfo:σ.ev fo=some (.fn f caps))(hg:lk f c.Gp=some g)(hgn:σ.g=none)(h:σ.tG args.toList (λxs=>VF c σ fr f g (xs++caps) k kp)=some r):dU c σ fr o k r\/∃v W,kp v W=some r/\(σ.On->rI c.P o σ.den fr v (WA W)):=by
 obtain⟨asL,h1,hl,hev⟩:=No h;clear h;unfold VF at h1;obtain⟨fn,hfn,h3⟩:=bD h1;clear h1;split at h3
 .cases h3
 rename_i code hb;rcases aEc hG hσ hgn ho hfo hl hev hg hfn hb (OA c σ _ _) h3 with h|h
 .rcases aEc hG hσ hgn ho hfo hl hev hg hfn hb dL.refl h with h|h
  .cases h
  .exact h
 .exact h
theorem aXD(hG:tU c.P c.Gp):OJ c:=λσ κ fr o k kp els r hσ hgn h=>by
 unfold NP at h;split at h
 .rename_i x ho
  obtain⟨v,hv,h⟩:=bD h;split at h
  case h_2=>cases h
  rename_i t w;refine .inr (.inr ⟨_,_,h,λhon=>?_⟩);intro E σ₁ a wd hT hH h100 hf hR;obtain⟨ν,G,I⟩:=id hR;have hd:=I.ev (St.c7 hT (bC hσ hon hv));have he:a.eval x = .iface t w:=cC hd;unfold Oper.wp execOp;rw[ho];have:(Instr.panic (a.eval x)).run c.P wd = .halt (.panic (.iface t w)) wd:=by rw[he];rfl
  simp only[this,Sem.run_bind,Result.andThen];exact⟨rfl,rfl,ν,G,I.put (dst:=none) (v:=undef) (d:=.any) .any (λ_ h=>by cases h) fr a rfl⟩
 .rename_i f args tys ho
  split at h
  .rename_i g caps hf
   split at h
   .rename_i gp hg
    exact .inr (aXC hG hσ ho hf hg hgn h)
   .exact .inl h
  .exact .inl h
 .exact .inl h
end
end Go.Ax
/- What a printed text needs. -/
namespace Go.Ax
open aB
open Go.RowKit Go.Ab
theorem cH{c:Cx}(hm:c.P.follows .mixedOrders=true)(hG:oF c.P c.G)(hGp:tU c.P c.Gp):aK c:=⟨hm,aWS hG,aXD hGp⟩
def Dw(c:Cx)(M:Nat)(h:Hint)(code:Code):Prop:=match h with
 |.sub _ _ _ _ I1 I2 I3 L=>cF c M code I1 I2 I3 L
 |.d=>True
 |.fT ..=>True
 |.seq x y=>match code with
   |.seq a b=>Dw c M x a/\Dw c M y b
   |_=>False
 |.cond x y=>match code with
   |.cond _ a b=>Dw c M x a/\Dw c M y b
   |_=>False
 |.block x=>match code with
   |.block _ a=>Dw c M x a
   |_=>False
theorem bS{c:Cx}{M:Nat}:∀(h:Hint)(code:Code),Dw c M h code->bH c M h code
 |.sub ..,code,h=>by
   unfold bH;cases code <;> exact h
 |.d,code,_=>cX code
 |.fT a b d,code,_=>by
   cases code with
   |seq a b=>exact⟨cX a,cX b⟩
   |cond x a b=>exact⟨cX a,cX b⟩
   |block i a=>exact cX a
   |_=>exact trivial
 |.seq x y,code,h=>by
   cases code with
   |seq a b=>exact⟨bS x a h.1,bS y b h.2⟩
   |_=>exact h.elim
 |.cond x y,code,h=>by
   cases code with
   |cond z a b=>exact⟨bS x a h.1,bS y b h.2⟩
   |_=>exact h.elim
 |.block x,code,h=>by
   cases code with
   |block i a=>exact bS x a h
   |_=>exact h.elim
def cE:List Nat->Code->Code
 |[],c=>c
 |0::l,.seq a _=>cE l a
 |1::l,.seq _ b=>cE l b
 |0::l,.cond _ a _=>cE l a
 |1::l,.cond _ _ b=>cE l b
 |0::l,.block _ a=>cE l a
 |0::l,.loop a=>cE l a
 |_,c=>c
theorem dO.wk{P:Program}{f:FuncId}{ds ds':List D}{H:List (Nat×aQ)}{r:D}{H':List (Nat×aQ)}(h:dO P f ds' H r H')(hw:dL (λk=>Ab.look k H) ds ds'):dO P f ds H r H':=λE w vs h1 h2 h3 ⟨ν,G,I⟩=>by
 refine h E w vs h1 h2 (h3.trans hw.len) ⟨ν,G,{ I with T:=λt d' ht=>?_ }⟩;obtain⟨d,hd,hwk⟩:=hw.get t d' ht;obtain⟨v,hv,hr⟩:=I.T t d hd;exact⟨v,hv,hwk E _ ν G w vs (λ_ _ h=>h) I v hr⟩
theorem dL.two{H:Nat->Option aQ}{a b a' b':D}(h:bV H a a')(k:bV H b b'):dL H [a,b] [a',b']:=.cons h (.cons k .nil)
theorem aX.e0{P:Program}{f:FuncId}{g:Bool×aM}(h:g.1=true->dO P f [] [] g.2.1.D (HA g.2.2)):aX P f (E0 g):=λxs H pre r he hp=>by
 unfold E0 at he;split at he
 .cases he;exact h hp
 .cases he
theorem aX.e1{P:Program}{f:FuncId}{a:Ty}{g:a.V->Bool×aM}(h:∀x,(g x).1=true->dO P f [(iE a x).D] [] (g x).2.1.D (HA (g x).2.2)):aX P f (E1 a g):=λxs H pre r he hp=>by
 unfold E1 at he;split at he
 .split at he
  .rename_i y hy
   have he:=fI he;have h1:=aY BT he;have h2:=aY BS he;simp only at h1 h2;rw[<-h2];exact dO.wk (h y (h1.trans hp)) (.cons (kO hy) .nil)
  .cases he
 .cases he
theorem aX.e2{P:Program}{f:FuncId}{a b:Ty}{g:a.V->b.V->Bool×aM}(h:∀x y,(g x y).1=true->dO P f [(iE a x).D,(iE b y).D] [] (g x y).2.1.D (HA (g x y).2.2)):aX P f (E2 a b g):=λxs H pre r he hp=>by
 unfold E2 at he;split at he
 .split at he
  .rename_i y hy
   split at he
   .rename_i z hz
    have he:=fI he;have h1:=aY BT he;have h2:=aY BS he;simp only at h1 h2;rw[<-h2];exact dO.wk (h y z (h1.trans hp)) (.cons (kO hy) (.cons (kO hz) .nil))
   .cases he
  .cases he
 .cases he
theorem aX.e3{P:Program}{f:FuncId}{a b d:Ty}{g:a.V->b.V->d.V->Bool×aM}(h:∀x y z,(g x y z).1=true->dO P f [(iE a x).D,(iE b y).D,(iE d z).D] [] (g x y z).2.1.D (HA (g x y z).2.2)):aX P f (E3 a b d g):=λxs H pre r he hp=>by
 unfold E3 at he;split at he
 .split at he
  .rename_i y hy
   split at he
   .rename_i z hz
    split at he
    .rename_i u hu
     have he:=fI he;have h1:=aY BT he;have h2:=aY BS he;simp only at h1 h2;rw[<-h2];exact dO.wk (h y z u (h1.trans hp)) (.cons (kO hy) (.cons (kO hz) (.cons (kO hu) .nil)))
    .cases he
   .cases he
  .cases he
 .cases he
theorem aX.e4{P:Program}{f:FuncId}{a b d e:Ty}{g:a.V->b.V->d.V->e.V->Bool×aM}(h:∀x y z u,(g x y z u).1=true->dO P f [(iE a x).D,(iE b y).D,(iE d z).D,(iE e u).D] [] (g x y z u).2.1.D (HA (g x y z u).2.2)):aX P f (E4 a b d e g):=λxs H pre r he hp=>by
 unfold E4 at he;split at he
 .split at he
  .rename_i y hy
   split at he
   .rename_i z hz
    split at he
    .rename_i u hu
     split at he
     .rename_i v hv
      have he:=fI he;have h1:=aY BT he;have h2:=aY BS he;simp only at h1 h2;rw[<-h2];exact dO.wk (h y z u v (h1.trans hp)) (.cons (kO hy) (.cons (kO hz) (.cons (kO hu) (.cons (kO hv) .nil))))
     .cases he
    .cases he
   .cases he
  .cases he
 .cases he
def BI(a b:Nat):Bool:=!(bB a b)
theorem tF{a b:Nat}(h:BI a b=true):a≠b:=λe=>by
 subst e;simp[BI]at h
theorem bG{τ:Ty}{x:X}{y:τ.V}(h:ue τ x=some y):x = .e τ y:=by
 unfold ue at h;split at h
 .rename_i τ' z
  generalize eA τ' τ=p at h;cases p with
  |none=>cases h
  |some q=>obtain⟨q⟩:=q;subst q;cases h;rfl
 .cases h
theorem aVw{e:TypeId}{τ:Ty}{st:Bool}{x:XO}{l:List τ.V}(h:ur e τ st x=some l):x = .row e τ l st:=by
 unfold ur at h;split at h
 .rename_i e' τ' z st'
  split at h
  .rename_i hb
   rw[bM]at hb;have h1:=bF hb.1;have h2:=eq_of_beq hb.2;subst h1 h2;generalize eA τ' τ=p at h;cases p with
   |none=>cases h
   |some q=>obtain⟨q⟩:=q;subst q;cases h;rfl
  .cases h
 .cases h
theorem nU{e e1:TypeId}{τ:Ty}{x:XO}{l:List (List τ.V)}(h:uq e e1 τ x=some l):x = .nest e e1 τ l:=by
 unfold uq at h;split at h
 .rename_i e' e1' τ' z
  split at h
  .rename_i hb
   rw[bM]at hb;have h1:=bF hb.1;have h2:=bF hb.2;subst h1 h2;generalize eA τ' τ=p at h;cases p with
   |none=>cases h
   |some q=>obtain⟨q⟩:=q;subst q;cases h;rfl
  .cases h
 .cases h
theorem aX.f1{P:Program}{f:FuncId}{a:Ty}{q:FuncId}{g:a.V->Bool×aM}(h:∀x,(g x).1=true->dO P f [(iE a x).D,(X.fn q []).D] [] (g x).2.1.D (HA (g x).2.2)):aX P f (OV a q g):=λxs H pre r he hp=>by
 unfold OV at he;split at he
 .split at he
  .rename_i hb
   have hb:=bF hb;subst hb;split at he
   .rename_i y hy
    have he:=fI he;have h1:=aY BT he;have h2:=aY BS he;simp only at h1 h2;rw[<-h2];exact dO.wk (h y (h1.trans hp)) (.cons (kO hy) (.cons bV.refl .nil))
   .cases he
  .cases he
 .cases he
theorem aX.f2{P:Program}{f:FuncId}{a b:Ty}{q:FuncId}{g:a.V->b.V->Bool×aM}(h:∀x y,(g x y).1=true->dO P f [(iE a x).D,(iE b y).D,(X.fn q []).D] [] (g x y).2.1.D (HA (g x y).2.2)):aX P f (Vb a b q g):=λxs H pre r he hp=>by
 unfold Vb at he;split at he
 .split at he
  .rename_i hb
   have hb:=bF hb;subst hb;split at he
   .rename_i y hy
    split at he
    .rename_i z hz
     have he:=fI he;have h1:=aY BT he;have h2:=aY BS he;simp only at h1 h2;rw[<-h2];exact dO.wk (h y z (h1.trans hp)) (.cons (kO hy) (.cons (kO hz) (.cons bV.refl .nil)))
    .cases he
   .cases he
  .cases he
 .cases he
theorem D7{P:Program}{f:FuncId}{δ:Type}{cM:List X->XH->Option δ}{p:δ->Bool}{R:δ->aM}{az:δ->List X}{HH:δ->XH}(hio:∀{xs H d},cM xs H=some d->xs=az d/\H=HH d)
    (h:∀d,p d=true->dO P f ((az d).map X.D) (HA (HH d)) (R d).1.D (HA (R d).2)):aX P f (xB cM p R):=λxs H pre r he hp=>by
 unfold xB at he;split at he
 .rename_i d hd
  have he:=fI he;have h1:=aY BT he;have h2:=aY BS he;simp only at h1 h2;obtain⟨e1,e2⟩:=hio hd;rw[e1,e2,<-h2];exact h d (h1.trans hp)
 .cases he
theorem aX.or{P:Program}{f:FuncId}{g g':bR}(h:aX P f g)(k:aX P f g'):aX P f (Eor g g'):=λxs H pre r he hp=>by
 unfold Eor at he;split at he
 .rename_i r' hr
  cases he;exact h xs H pre r hr hp
 .exact k xs H pre r he hp
end Go.Ax
/- Contracts of library functions. -/
namespace Go.Ax
open aB
open Go.RowKit Go.Ab
theorem dO.UO{P:Program}{f:FuncId}{ds:List D}{d:D} (h:∀(w:World),Fp w->∀(G:bT)(ν:Nat->Value)(nm:Nat->Bool)(vs:Array Value),vs.size=ds.length->(∀(i:Nat)(d':D),ds[i]?=some d'->∃v,vs[i]?=some v/\DR ν nm w G v d')->
    Calls P f vs w λe w'=>∃v,e = .returned v/\cG w w'/\∃G',(∀b,b<w.heap.size->G' b=G b)/\∀ν nm,DR ν nm w' G' v d):dO P f ds [] d []:=by
 intro E w vs hE0 hm hsz ⟨ν,G,I⟩;refine(h w (hE0 ▸ E.At E.w0 (cQ _) λ_ _ _=>rfl) G ν _ vs hsz (λi d' hd=>I.T i d' hd)).mono ?_;rintro e w' ⟨v,rfl,hA,G',hG,hd⟩;have J:=I.fN hA hG;exact⟨v,rfl,ν,G',⟨J.kept.os,J.kept.tape,J.kept.output,J.kept.size,J.kept.block⟩,J.dY,J.fA,J.g0,rfl,λt d' ht=>by
  cases t with
  |zero=>cases ht;exact⟨v,rfl,hd _ _⟩
  |succ t=>exact absurd (show(none:Option D)=some _ from ht) (by simp),λk o hk=>absurd (show(none:Option aQ)=some _ from hk) (by simp),λk o k' o' hk=>absurd (show(none:Option aQ)=some _ from hk) (by simp)⟩
abbrev cI(P:Program)(f:FuncId)(xs:List X)(H:XH)(R:aM):Prop:=dO P f (xs.map X.D) (HA H) R.1.D (HA R.2)
theorem cS{α:Type}{z:Option α}{P:Program}{f:FuncId}{ds:List D}{H:List (Nat×aQ)}{R:α->aM}{R':aM}{v:α}(h:z.isSome=true)(fin:∀{d},z=some d->dO P f ds H (R d).1.D (HA (R d).2))(re:R'=R (z.getD v)):dO P f ds H R'.1.D (HA R'.2):=by
 obtain⟨d,hd⟩:=Option.isSome_iff_exists.1 h;rw[re,hd];exact fin hd
theorem cJ{c:Cx}(hc:aK c){f:FuncId}{fn:Func}{code:Code}(hf:c.P.funcs[f]?=some fn)(hb:fn.body=some code){h:Hint}(hh:bH c fn.ntmps h code){xs:List X}{H:XH}(hm:j3 xs.length fn.ntmps=true){ow:Bool}{α:Type}{w:O}{un:aM->Option α}{d:α}{R:aM}(uo:∀{r},un r=some d->r=R)
    (he:∀{r},w=some r->exec c fn.ntmps h code ⟨cA 0 xs,H,100⟩ (cD c fn ow)=some r) (hd:w.bind un=some d) {y:D} (cv:tW c.P f (xs.map X.D) (HA H) R=dO c.P f (xs.map X.D) (HA H) y (HA R.2):=by rfl):dO c.P f (xs.map X.D) (HA H) y (HA R.2):=by
 obtain⟨r,hr,hu⟩:=xN.1 hd;have:=aFm (r:=r) hc hf hb hh (fQ hm) (he hr);rw[uo hu]at this;exact cv.mp this
theorem eC{Y:Type}(v:Exit->Sg->Y){X:Y->Exit×Sg}(e:Exit)(h:∀y,v (X y).1 (X y).2=y)(x:∀y,gD (X y).1=gD e)(n:(BI (gD e) 7&&BI (gD e) 9)=true):xM v (λ_ _=>()) (λ_ _=>()) X (aN 1) (aN 2) (gD e) (gD (.goto 1)) (gD (.goto 2)):=
 ⟨h,λ_=>rfl,λ_=>rfl,x,λ_=>rfl,λ_=>rfl,tF (EA.1 n).1,tF (EA.1 n).2,tF rfl⟩
theorem jA{Y Y':Type}(v:Exit->Sg->Y)(v':Exit->Sg->Y'){X:Y->Exit×Sg}{X':Y'->Exit×Sg}(e e':Exit)(h:∀y,v (X y).1 (X y).2=y)(h':∀y,v' (X' y).1 (X' y).2=y)(x:∀y,gD (X y).1=gD e)(x':∀y,gD (X' y).1=gD e')(n:(BI (gD e) (gD e')&&(BI (gD e) 9&&BI (gD e') 9))=true):xM v v' (λ_ _=>()) X X' (aN 2) (gD e) (gD e') (gD (.goto 2)):=
 ⟨h,h',λ_=>rfl,x,x',λ_=>rfl,tF (EA.1 n).1,tF (EA.1 (EA.1 n).2).1,tF (EA.1 (EA.1 n).2).2⟩
end Go.Ax
/- What came in as an argument and reads as data is data of the run. -/
namespace Go.Ax
open Go.RowKit Go.Ab Go.WideShapes
def Ve(w:World)(G:bT)(v:Value)(d:D):Prop:=DR (λ_=>.nilFunc) (λ_=>false) w G v d
def l3(w:World)(b:Nat):Nat:=match w.heap[b]? with|some (.cells c _ _)=>c.size|_=>0
theorem a0d{w:World}{b i:Nat}{u:Value}(hc:w.cell? ⟨b,i,none⟩=some u):Cell w (l3 w) b i u:=by
 refine⟨hc,?_⟩;unfold World.cell? at hc;unfold l3;split at hc
 .rename_i cs _ _ hh
  rw[hh];simp only[Option.isSome_none,B7,lX]at hc ⊢;exact(Array.getElem?_eq_some_iff.1 hc).1
 .cases hc
theorem aWU{w:World}{a:Addr}{u:Value}(h:w.cell? a=some u):a=⟨a.block,a.off,none⟩:=by
 obtain⟨b,o,s⟩:=a;cases s with
 |none=>rfl
 |some s=>
   unfold World.cell? at h;split at h <;> simp at h
def Gq:Ty->Nat
 |.i .i64=>8
 |.i .u64=>8
 |.i _=>1
 |.u8=>1
 |.bo=>1
 |.tx=>16
 |.ex=>1
 |.un=>0
 |.sl _=>24
 |.pr a b=>Gq a+Gq b
def BH(P:Program)(q:Ty->TypeId->Bool):Ty->Nat->List Field->Bool
 |τ,o,[f]=>q τ f.type&&bB f.offset o&&bB (P.cellsOf f.type) τ.size
 |.pr a b,o,f::g::fs=>q a f.type&&bB f.offset o&&bB (P.cellsOf f.type) a.size&&BH P q b (o+a.size) (g::fs)
 |_,_,_=>false
def BQ(q:Ty->TypeId->Bool)(e:TypeId):Ty->Nat->Bool
 |τ,1=>q τ e
 |.pr a b,n+2=>q a e&&BQ q e b (n+1)
 |_,_=>false
def As(P:Program):Nat->Ty->TypeId->Bool
 |0,_,_=>false
 |n+1,τ,t=>match τ,P.underlying t with
   |.i k,some (.int k')=>decide (k'=k)
   |.u8,some (.int .u8)=>true
   |.bo,some .bool=>true
   |.tx,some .string=>true
   |.sl a,some (.slice e)=>As P n a e&&bB (P.cellsOf e) a.size&&(j3 (Gq a) (P.bytesOf e)&&Nat.blt 0 a.size)
   |.pr a b,some (.struct fs)=>bB (P.cellsOf t) (a.size+b.size)&&BH P (As P n) (.pr a b) 0 fs.toList
   |.pr a b,some (.array k e)=>bB (P.cellsOf t) (a.size+b.size)&&BQ (λτ e=>As P n τ e&&bB (P.cellsOf e) τ.size) e (.pr a b) k
   |_,_=>false
def pI:(τ:Ty)->τ.V->Prop
 |.i k,x=>(Lit.int k x).wf=true
 |.sl e,l=>∀y,List.Mem y (show List e.V from l)->pI e y
 |.pr a b,x=>pI a x.1/\pI b x.2
 |_,_=>True
def tQ:(τ:Ty)->τ.V->Prop
 |.tx,s=>dN (α:=UInt8) s<=reachBytes
 |.sl e,l=>dN (α:=e.V) l*Gq e<=reachBytes/\∀y,List.Mem y (show List e.V from l)->tQ e y
 |.pr a b,x=>tQ a x.1/\tQ b x.2
 |_,_=>True
def jE(w:World)(cs:List Value)(ts:List Tree):Prop:=cs.length=ts.length/\∀(i:Nat)(u:Value)(t:Tree),cs[i]?=some u->ts[i]?=some t->TR w (l3 w) u t
theorem jE.one{w:World}{u:Value}{t:Tree}(h:TR w (l3 w) u t):jE w [u] [t]:=⟨rfl,λi u' t' hu ht=>by
 cases i with
 |zero=>cases hu;cases ht;exact h
 |succ i=>cases hu⟩
theorem jE.app{w:World}{a b:List Value}{s t:List Tree}(h:jE w a s)(k:jE w b t):jE w (a++b) (s++t):=⟨by rw[cP,cP,h.1,k.1],λi u x hu hx=>by
 by_cases hi:i<a.length
 .rw[dJ hi]at hu
  rw[dJ (by rw[<-h.1];exact hi)]at hx;exact h.2 i u x hu hx
 .rw[eS (by omega)]at hu
  rw[eS (by have:=h.1;omega)]at hx;rw[h.1]at hu;exact k.2 _ u x hu hx⟩
theorem UM{α:Type}{Q:Nat->α->Prop}:∀n:Nat,(∀i,i<n->∃v,Q i v)->∃l:List α,l.length=n/\∀(i:Nat)(v:α),l[i]?=some v->Q i v
 |0,_=>⟨[],rfl,λi v h=>by cases h⟩
 |n+1,h=>by
   obtain⟨l,hl,hQ⟩:=UM n λi hi=>h i (by omega)
   obtain⟨v,hv⟩:=h n (by omega);refine⟨l++[v],by simp[hl],λi u hu=>?_⟩;by_cases hi:i<n
   .rw[dJ (by omega)]at hu
    exact hQ i u hu
   .have hlt:=(bU.1 hu).1
    have:i=n:=by simp[hl]at hlt;omega
    subst this;rw[eS (by omega),hl,Nat.sub_self]at hu;cases hu;exact hv
theorem flat_get{α:Type}{f:α->List Tree}{s:Nat}(h:∀x,(f x).length=s):∀(l:List α)(q r:Nat)(x:α),l[q]?=some x->r<s->(l.flatMap f)[q*s+r]?=(f x)[r]?
 |[],q,r,x,hx,_=>by cases hx
 |y::l,0,r,x,hx,hr=>by
   cases hx;rw[gO,pJ,eD,dJ (by rw[h];exact hr)]
 |y::l,q+1,r,x,hx,hr=>by
   rw[gO,eS (by rw[h,iL];omega),h,show(q+1)*s+r-s=q*s+r by rw[iL];omega];exact flat_get h l q r x hx hr
theorem Vm{H:Type}{P:Program}{e:TypeId}:∀{l:List (DataW H)}{d:DataW H}{m:Nat},d∈l->m∈d.weights P e->m∈DataW.weightsAll P e l
 |[],d,m,h,_=>by cases h
 |x::l,d,m,h,hm=>by
   simp only[DataW.weightsAll,jF];rcases dT.1 h with rfl|h
   .exact .inl hm
   .exact .inr (Vm h hm)
section
variable{H:Type}{enc:TypeId×Value->H}{P:Program}{w:World}{base:Nat}{spare:Nat->Bool}{held:Bool}
def V0(enc:TypeId×Value->H)(P:Program)(w:World)(base:Nat)(spare:Nat->Bool)(held:Bool)(τ:Ty)(t:TypeId):Prop:=
 ∀(fuel:Nat)(cs:List Value)(x:DataW H×List MemPlace),DataW.trod enc P w base spare held fuel t cs=some x->
  ∃v:τ.V,pI τ v/\jE w cs (aR τ v)/\((∀m∈x.1.weights P t,m<=reachBytes)->tQ τ v)
theorem aEe{q:Ty->TypeId->Bool}(hq:∀τ t,q τ t=true->V0 enc P w base spare held τ t)(n:Nat):∀(fs:List Field)(τ:Ty)(o:Nat)(cs:List Value)(xs:List (DataW H×List MemPlace)),BH P q τ o fs=true->cs.length=o+τ.size->xs.length=fs.length->
    (∀(i:Nat)(f:Field),fs[i]?=some f->DataW.trod enc P w base spare held n f.type ((cs.drop f.offset).take (P.cellsOf f.type))=xs[i]?)->
    ∃v:τ.V,pI τ v/\jE w (cs.drop o) (aR τ v)/\((∀m∈DataW.weightsEach P (fs.map (·.type)) (xs.map (·.1)),m<=reachBytes)->tQ τ v)
 |[],τ,o,cs,xs,h,_,_,_=>by cases τ <;> simp[BH]at h
 |[f],τ,o,cs,xs,h,hl,hx,ht=>by
   have h':(q τ f.type&&bB f.offset o&&bB (P.cellsOf f.type) τ.size)=true:=by cases τ <;> simpa[BH]using h
   simp only[bM]at h';obtain⟨⟨h1,h2⟩,h3⟩:=h';have h2:=bF h2;have h3:=bF h3
   match xs,hx with
   |[x],_=>
     have g:=ht 0 f rfl;rw[h2,h3,oB (by rw[pN];omega)]at g;obtain⟨v,v1,v2,v3⟩:=hq τ f.type h1 n _ x g;refine⟨v,v1,v2,λhm=>v3 λm hm'=>hm m ?_⟩;simp[DataW.weightsEach,hm']
 |f::g::fs,τ,o,cs,xs,h,hl,hx,ht=>by
   cases τ with
   |pr a b=>
     simp only[BH,bM]at h;obtain⟨⟨⟨h1,h2⟩,h3⟩,h4⟩:=h;have h2:=bF h2;have h3:=bF h3
     match xs,hx with
     |x::xs,hx=>
       have e:=ht 0 f rfl;rw[h2,h3]at e;obtain⟨v,v1,v2,v3⟩:=hq a f.type h1 n _ x e;have hsz:(Ty.pr a b).size=a.size+b.size:=rfl;obtain⟨u,u1,u2,u3⟩:=aEe hq n (g::fs) b (o+a.size) cs xs h4 (by omega) (by simpa using hx) λi f' hf=>ht (i+1) f' hf
       refine⟨(v,u),⟨v1,u1⟩,?_,λhm=>⟨v3 λm hm'=>hm m ?_,u3 λm hm'=>hm m ?_⟩⟩
       .have hd:cs.drop o=(cs.drop o).take a.size++cs.drop (o+a.size):=by
         rw[<-a1q,aGs]
        rw[hd];exact v2.app u2
       .simp only[eX,DataW.weightsEach,jF]
        exact .inl hm'
       .simp only[eX,DataW.weightsEach,jF]at hm' ⊢
        exact .inr hm'
   |_=>simp[BH]at h
theorem trod_array{t e:TypeId}{n fuel:Nat}{cs:List Value}{x:DataW H×List MemPlace}(ht:P.underlying t=some (.array n e))(h:DataW.trod enc P w base spare held fuel t cs=some x):
    ∃xs:List (DataW H×List MemPlace),x.1 = .agg (xs.map (·.1))/\cs.length=P.cellsOf t/\xs.length=n/\∃m,∀i,i<n->DataW.trod enc P w base spare held m e ((cs.drop (i*P.cellsOf e)).take (P.cellsOf e))=xs[i]?:=by
 cases fuel with
 |zero=>cases h
 |succ m=>
   unfold DataW.trod at h;rw[ht]at h;split at h <;> simp_all;obtain⟨hl,xs,hp,hd⟩:=h;refine⟨xs,by rw[<-hd],by simpa using Lib.mapM_length hp,m,λi hi=>?_⟩;obtain⟨u,hu,hfu⟩:=Lib.mapM_at hp i i (by rw[Dr hi]);rw[hu];exact hfu
theorem aEf{q:Ty->TypeId->Bool}(hq:∀τ t,q τ t=true->V0 enc P w base spare held τ t/\P.cellsOf t=τ.size)(m:Nat)(e:TypeId):∀(n:Nat)(τ:Ty)(cs:List Value)(xs:List (DataW H×List MemPlace)),BQ q e τ n=true->cs.length=τ.size->xs.length=n->
    (∀i,i<n->DataW.trod enc P w base spare held m e ((cs.drop (i*P.cellsOf e)).take (P.cellsOf e))=xs[i]?)->
    ∃v:τ.V,pI τ v/\jE w cs (aR τ v)/\((∀m∈DataW.weightsAll P e (xs.map (·.1)),m<=reachBytes)->tQ τ v)
 |0,τ,cs,xs,h,_,_,_=>by cases τ <;> simp[BQ]at h
 |1,τ,cs,xs,h,hl,hx,ht=>by
   have h':q τ e=true:=by cases τ <;> simpa[BQ]using h
   obtain⟨h1,h2⟩:=hq τ e h'
   match xs,hx with
   |[x],_=>
     have g:=ht 0 (by omega);rw[pJ,kJ,oB (by omega)]at g;obtain⟨v,v1,v2,v3⟩:=h1 m _ x g;exact⟨v,v1,v2,λhm=>v3 λk hk=>hm k (by simp[DataW.weightsAll,hk])⟩
 |n+2,τ,cs,xs,h,hl,hx,ht=>by
   cases τ with
   |pr a b=>
     simp only[BQ,bM]at h;obtain⟨h1,h2⟩:=h;obtain⟨h3,h4⟩:=hq a e h1
     match xs,hx with
     |x::xs,hx=>
       have g:=ht 0 (by omega);rw[pJ,kJ,h4]at g;obtain⟨v,v1,v2,v3⟩:=h3 m _ x g;have hsz:(Ty.pr a b).size=a.size+b.size:=rfl;obtain⟨u,u1,u2,u3⟩:=aEf hq m e (n+1) b (cs.drop a.size) xs h2 (by rw[pN];omega) (by simpa using hx) λi hi=>by
        have:=ht (i+1) (by omega);rw[a1q,h4];rw[h4,iL,Nat.one_mul,Nat.add_comm]at this;exact this
       refine⟨(v,u),⟨v1,u1⟩,?_,λhm=>⟨v3 λk hk=>hm k ?_,u3 λk hk=>hm k ?_⟩⟩
       .have:=v2.app u2
        rw[aGs]at this;exact this
       .simp only[eX,DataW.weightsAll,jF]
        exact .inl hk
       .simp only[eX,DataW.weightsAll,jF]
        exact .inr hk
   |_=>simp[BQ]at h
theorem opens(n:Nat):∀(τ:Ty)(t:TypeId),As P n τ t=true->V0 enc P w base spare held τ t:=by
 induction n with
 |zero=>intro τ t h;cases h
 |succ n ih=>
   intro τ t h fuel cs x hx;unfold As at h;split at h
   .rename_i k k' hu
    have:=cT h;subst this;obtain⟨z,rfl,rfl,hw⟩:=DataW.trod_int hu hx;exact⟨z,hw,.one (.v _ rfl),λ_=>trivial⟩
   .rename_i hu
    obtain⟨z,rfl,rfl,hw⟩:=DataW.trod_int hu hx;have hb:0<=z/\z<256:=by
     simp[Lit.wf]at hw;have h1:IntKind.u8.min=0:=rfl;have h2:IntKind.u8.max=255:=rfl;omega
    refine⟨dV z.toNat,trivial,?_,λ_=>trivial⟩;have e:aR .u8 (dV z.toNat)=[.v (.int .u8 z)]:=by
     show[Tree.v (.int .u8 ((dV z.toNat).toNat:Int))]=_;rw[UInt8.toNat_ofNat',show((z.toNat%2^8:Nat):Int)=z by omega]
    rw[e];exact .one (.v _ rfl)
   .rename_i hu
    obtain⟨z,rfl,rfl⟩:=DataW.trod_bool hu hx;exact⟨z,trivial,.one (.v _ rfl),λ_=>trivial⟩
   .rename_i hu
    obtain⟨z,rfl,rfl,hs⟩:=DataW.trod_string hu hx;refine⟨z.data.toList,trivial,.one (.v _ rfl),λhm=>?_⟩;exact hm _ (by simp[DataW.weights])
   .rename_i a e hu
    simp only[bM]at h;obtain⟨⟨h1,h2⟩,h3,h4⟩:=h;have h2:=bF h2;have h3:=fQ h3;rcases DataW.trod_slice hu hx with⟨rfl,rfl⟩|⟨ad,len,cap,elems,rest,m,_,rfl,rfl,hb,hlc,hcap,hel,hE,_,_⟩
    .exact⟨[],(λy hy=>by cases hy),.one (.nil λ_=>rfl),λ_=>⟨by simp,λy hy=>by cases hy⟩⟩
    .have hs:0<a.size:=fQ h4
     rw[h2]at hE;have hk:∀i,i<len->∃v:a.V,pI a v/\(∃ci,w.cells? base (ad.add (i*a.size)) a.size=some ci/\jE w ci (aR a v))/\((∀y∈elems.map (·.1),∀m∈y.weights P e,m<=reachBytes)->tQ a v):=by
      intro i hi;have g:=hE i hi;rw[bJ (by omega)]at g;obtain⟨ci,hci,hti⟩:=xN.1 g;obtain⟨v,v1,v2,v3⟩:=ih a e h1 m ci _ hti;exact⟨v,v1,⟨ci,hci,v2⟩,λhm=>v3 λm' hm'=>hm _ (dM.2 ⟨_,List.getElem_mem _,rfl⟩) m' hm'⟩
     obtain⟨l,hl,hQ⟩:=UM (Q:=λi v=>pI a v/\(∃ci,w.cells? base (ad.add (i*a.size)) a.size=some ci/\jE w ci (aR a v))/\((∀y∈elems.map (·.1),∀m∈y.weights P e,m<=reachBytes)->tQ a v)) len hk;have hmem:∀y∈l,∃i,l[i]?=some y:=λy hy=>iA.1 hy
     refine⟨l,λy hy=>?_,?_,λhm=>⟨?_,λy hy=>?_⟩⟩
     .obtain⟨i,hi⟩:=hmem y hy
      exact(hQ i y hi).1
     .show jE w _ [.sl (dN l) (b8 (aR a) l)]
      rw[hl];by_cases h0:len=0
      .subst h0
       have:l=[]:=List.length_eq_zero_iff.1 hl;subst this;exact .one (.nil λhh=>by cases hh)
      ·-- each cell
       have cellAt:∀i y,l[i]?=some y->∀r,r<a.size->∃u t,w.cell? ⟨ad.block,ad.off+(i*a.size+r),none⟩=some u/\(aR a y)[r]?=some t/\TR w (l3 w) u t/\ad.spot=none:=by
        intro i y hy r hr;have spot0:∀{j:Nat}{y':a.V},l[j]?=some y'->∃ci,w.cells? base (ad.add (j*a.size)) a.size=some ci/\jE w ci (aR a y'):=λhy'=>(hQ _ _ hy').2.1
        obtain⟨y0,hy0⟩:∃y0,l[0]?=some y0:=⟨_,bJ (by omega)⟩
        obtain⟨c0,hc0,_⟩:=spot0 hy0;have hsp:ad.spot=none:=by
         unfold World.cells? at hc0;split at hc0
         .obtain⟨u,_,hu⟩:=Lib.mapM_at hc0 0 0 (by rw[Dr hs])
          have:=aWU hu;simp[Addr.add]at this;have h5:=aY Addr.spot this;exact h5
         .cases hc0
        obtain⟨ci,hci,hrel⟩:=spot0 hy;unfold World.cells? at hci;split at hci
        .obtain⟨u,hu,hcu⟩:=Lib.mapM_at hci r r (by rw[Dr hr])
         have hlen:=hrel.1;rw[dB]at hlen;obtain⟨t,ht⟩:∃t,(aR a y)[r]?=some t:=⟨_,bJ (by rw[dB];exact hr)⟩
         refine⟨u,t,?_,ht,hrel.2 r u t hu ht,hsp⟩;have:(ad.add (i*a.size)).add r=⟨ad.block,ad.off+(i*a.size+r),none⟩:=by
          obtain⟨b,o,s⟩:=ad;simp only at hsp;subst hsp;unfold Addr.add;by_cases e1:i*a.size=0 <;> by_cases e2:r=0 <;> simp[e1,e2,Nat.add_assoc]
         rw[<-this];exact hcu
        .cases hci
       obtain⟨y0,hy0⟩:∃y0,l[0]?=some y0:=⟨_,bJ (by omega)⟩
       obtain⟨_,_,_,_,_,hsp⟩:=cellAt 0 y0 hy0 0 hs;have hflat:(b8 (aR a) l).length=len*a.size:=by rw[o7,hl]
       have all:∀j,j<len*a.size->∃u t,w.cell? ⟨ad.block,ad.off+j,none⟩=some u/\(b8 (aR a) l)[j]?=some t/\TR w (l3 w) u t:=by
        intro j hj;have hq:j / a.size<len:=Nat.div_lt_of_lt_mul (by rw[Nat.mul_comm];exact hj);have hr:=Nat.mod_lt j hs;have hj':j / a.size*a.size+j%a.size=j:=by rw[Nat.mul_comm];exact Nat.div_add_mod j a.size
        obtain⟨y,hy⟩:∃y,l[j / a.size]?=some y:=⟨_,bJ (by omega)⟩
        obtain⟨u,t,h4,h5,h6,_⟩:=cellAt _ y hy _ hr;rw[hj']at h4;refine⟨u,t,h4,?_,h6⟩;rw[<-h5,<-flat_get (λx=>dB a x) l _ _ y hy hr,hj']
       obtain⟨us,hus,hU⟩:=UM (Q:=λj u=>w.cell? ⟨ad.block,ad.off+j,none⟩=some u/\∃t,(b8 (aR a) l)[j]?=some t/\TR w (l3 w) u t) (len*a.size) λj hj=>by
        obtain⟨u,t,h4,h5,h6⟩:=all j hj;exact⟨u,h4,t,h5,h6⟩
       have had:ad=⟨ad.block,ad.off,none⟩:=by
        obtain⟨b,o,s⟩:=ad;simp only at hsp;subst hsp;rfl
       rw[had];refine .one (.sl ad.block ad.off len cap us _ (by rw[hus,hflat]) (λi u hi=>a0d (hU i u hi).1) hlc λi u t hu ht=>?_);obtain⟨_,t',h5,h6⟩:=hU i u hu;rw[ht]at h5;cases h5;exact h6
     .have:=hm ((elems.map (·.1)).length+(rest.map (·.1)).length |> (· * P.bytesOf e)) (by simp[DataW.weights,hu])
      simp only[cW]at this;have h4:len*Gq a<=(elems.length+rest.length)*P.bytesOf e:=Nat.mul_le_mul (by omega) h3;show dN l*_<=_;rw[hl];omega
     .obtain⟨i,hi⟩:=hmem y hy
      refine(hQ i y hi).2.2 λd hd m hm'=>hm m ?_
      have:m∈DataW.weightsAll P e (elems.map (·.1)):=Vm hd hm';simp only[DataW.weights,hu,dT,jF];exact .inr (.inl this)
   .rename_i a b fs hu
    simp only[bM]at h;obtain⟨h1,h2⟩:=h;have h1:=bF h1;obtain⟨xs,m,rfl,rfl,hl,hxl,hf⟩:=DataW.trod_struct hu hx;obtain⟨v,v1,v2,v3⟩:=aEe ih m fs.toList (.pr a b) 0 cs xs h2 (by rw[hl,h1];simp[Ty.size]) (by rw[hxl];simp) λi f hi=>hf i f (by simpa using hi)
    refine⟨v,v1,by simpa using v2,λhm=>v3 λm' hm'=>hm m' ?_⟩;simp only[DataW.weights,hu];exact hm'
   .rename_i a b k e hu
    simp only[bM]at h;obtain⟨h1,h2⟩:=h;have h1:=bF h1;obtain⟨xs,hx1,hl,hxl,m,hf⟩:=trod_array hu hx;obtain⟨v,v1,v2,v3⟩:=aEf (λτ t h=>by
     simp only[bM]at h;exact⟨ih τ t h.1,bF h.2⟩) m e k (.pr a b) cs xs h2 (by rw[hl,h1];rfl) hxl hf
    refine⟨v,v1,v2,λhm=>v3 λm' hm'=>hm m' ?_⟩;rw[hx1];simp only[DataW.weights,hu];exact hm'
   .cases h
def VN(τ:Ty)(x:τ.V):D:=match τ.one with|true=>.t (n9 τ x)|false=>.agg ((aR τ x).map .t)
theorem jE.cell{τ:Ty}{v:τ.V}{u:Value}(h1:τ.one=true)(h:jE w [u] (aR τ v)):Ve w (l3 w) u (VN τ v):=by
 unfold VN;rw[h1];rw[Gc h1]at h;exact .t (h.2 0 _ _ rfl rfl)
theorem aYN{n:Nat}{e t:TypeId}{r:Reach}{b0:Nat}{v:Value}(ht:P.underlying t=some (.array n e))(h:Value.okWide P w r b0 t v):∃cs,v = .agg cs/\cs.size=P.cellsOf t:=by
 simp only[Value.okWide,ht]at h;obtain⟨cs,h1,h2,_⟩:=h;exact⟨cs,h1,h2⟩
theorem Gv{n:Nat}{τ:Ty}{t:TypeId}(hτ:As P n τ t=true){r:Reach}{b0:Nat}{v:Value}{d:DataW H}{ps:List MemPlace}(hval:Value.okWide P w r b0 t v)(hd:DataW.Trod enc P w base spare held t v d ps):
    ∃x:τ.V,pI τ x/\Ve w (l3 w) v (VN τ x)/\((∀m∈d.weights P t,m<=reachBytes)->tQ τ x):=by
 obtain⟨fuel,hf⟩:=hd;obtain⟨x,x1,x2,x3⟩:=opens n τ t hτ fuel _ _ hf;refine⟨x,x1,?_,x3⟩;cases n with
 |zero=>cases hτ
 |succ n=>
   unfold As at hτ;split at hτ
   .rename_i hu
    obtain⟨z,rfl⟩:=okWide_int hu hval;exact jE.cell rfl x2
   .rename_i hu
    obtain⟨z,rfl⟩:=okWide_int hu hval;exact jE.cell rfl x2
   .rename_i hu
    obtain⟨z,rfl⟩:=okWide_bool hu hval;exact jE.cell rfl x2
   .rename_i hu
    obtain⟨z,rfl⟩:=okWide_string hu hval;exact jE.cell rfl x2
   .rename_i hu
    obtain⟨a,l,c,rfl⟩:=okWide_slice hu hval;exact jE.cell rfl x2
   .rename_i a b fs hu
    obtain⟨cs,rfl,hcs⟩:=okWide_struct hu hval;have hc:(Value.agg cs).cells.toList=cs.toList:=rfl;rw[hc]at x2;refine .agg (by have:=x2.1;simpa using this) (λi u d' hu' hd'=>?_) λu hu'=>?_
    .rw[cY]at hd'
     obtain⟨tr,ht,rfl⟩:=cR.1 hd';exact .t (x2.2 i u tr (by simpa using hu') ht)
    .obtain⟨i,hi⟩:=iA.1 hu'
     obtain⟨tr,ht⟩:∃tr,(aR (.pr a b) x)[i]?=some tr:=⟨_,bJ (by rw[<-x2.1];exact(bU.1 hi).1)⟩
     exact(x2.2 i u tr hi ht).one
   .rename_i a b k e hu
    obtain⟨cs,rfl,hcs⟩:=aYN hu hval;have hc:(Value.agg cs).cells.toList=cs.toList:=rfl;rw[hc]at x2;refine .agg (by have:=x2.1;simpa using this) (λi u d' hu' hd'=>?_) λu hu'=>?_
    .rw[cY]at hd'
     obtain⟨tr,ht,rfl⟩:=cR.1 hd';exact .t (x2.2 i u tr (by simpa using hu') ht)
    .obtain⟨i,hi⟩:=iA.1 hu'
     obtain⟨tr,ht⟩:∃tr,(aR (.pr a b) x)[i]?=some tr:=⟨_,bJ (by rw[<-x2.1];exact(bU.1 hi).1)⟩
     exact(x2.2 i u tr hi ht).one
   .cases hτ
end
end Go.Ax
