/- The abstract machine, run: every operation. Conditions are in the theorems. -/
import Derived.Test.YtihfefggdgiodaaGreatDoorE6
import Derived.Laws.CopyRow
import Derived.ChangeKeysEq
import Derived.Lib.AppendStr
import Derived.Lib.OthersKept
import Derived.Lib.UnsafeStr
import Derived.OpenShut
import Derived.SizedLaws
import Derived.Lib.LaidTab
open Array renaming empty_append->aXd,ext'->tY,getElem?_eq_getElem->iM,getElem?_modify->aXc,getElem?_setIfInBounds_ne->nL,getElem?_toList->aED,length_toList->nK,size_append->aXb,toList_append->aXa
open Bool renaming and_eq_true->bA,and_eq_true_iff->Cp,and_true->aX7,false_eq_true->Aj,not_eq_true'->GB,or_eq_true->lN
open Go.IntKind renaming i64->aS
open Iff renaming rfl->kZ
open Int renaming natCast_mul->aX2,toNat->MI,toNat_of_nonneg->aXZ
open List renaming all_eq_true->cT,any_eq_true->jN,append_assoc->fT,append_nil->kN,drop_drop->aXU,drop_zero->fV,eq_nil_of_length_eq_zero->Fy,ext_getElem?->Ae,flatMap->bZ,flatMap_append->Ad,flatMap_cons->fS,flatten_cons->fR,getElem?_append_left->cZ,getElem?_append_right->eE,getElem?_drop->oL,getElem?_eq_getElem->bM,getElem?_eq_none->rI,getElem?_eq_some_iff->bP,getElem?_map->cD,getElem?_range->MG,getElem?_take->eY,length->dX,length_append->bF,length_drop->jM,length_map->cQ,length_nil->iJ,length_replicate->Fw,length_take->fL,map_append->l7,map_congr_left->aXP,map_cons->gL,map_map->nG,map_nil->Cm,mem_append->nF,mem_append_left->aXM,mem_append_right->aXL,mem_cons->eD,mem_cons_of_mem->gF,mem_cons_self->jF,mem_iff_getElem?->gK,mem_map->eK,nil_append->fK,replicate->dA,replicate_succ->pU,size_toArray->aDs,take_append_drop->aDq,take_left->aDo,take_of_length_le->iS,take_take->aXD,take_zero->Fu
open Nat renaming add_mul->iH,add_zero->hZ,beq->aX,beq_refl->aDn,ble->j3,eq_of_beq_eq_true->bH,le_add_right->Te,le_of_ble_eq_true->eJ,le_refl->bX,le_trans->iR,lt_of_lt_of_le->kL,min_eq_left->ME,mul_eq_zero->aXB,mul_le_mul_right->kK,mul_one->jL,zero_add->cY,zero_le->dC,zero_mul->pT
open Ne renaming symm->dW
open Option renaming bind_eq_some_iff->jK,map_eq_some_iff->b9,map_none->oK,map_some->jE
open Option.some renaming inj->eX
open Prod renaming fst->A8,snd->A7
open UInt8 renaming ofNat->gP,toNat->gZ,toNat_inj->Cl
/- Operations: calls; every operation. -/
namespace Go.Ax
open aA
open Go.RowKit Go.Ab
theorem aQx{f:Nat->Option Nat}{x y:X}(h:fG f x=some y):y.pl=true:=by
 cases x <;> simp only[fG]at h <;> first|(split at h <;> cases h <;> rfl)|(cases h <;> rfl)|cases h
theorem Qy{f:Nat->Option Nat}{H:Nat->Option XO}:∀{al:List (Nat×Nat)}{H':XH},nY f H al=some H'->H'.map (·.1)=al.map (·.1)
 |[],H',h=>by cases h;rfl
 |(new,q)::l,H',h=>by
   unfold nY at h;split at h
   .split at h
    .split at h
     .rename_i r hr
      cases h;rw[gL,gL,Qy hr]
     .cases h
    .cases h
   .cases h
theorem T4{σ:Vw}{nm':Nat->Bool}{ρ:Nat->Nat}{f:Nat->Option Nat}(hf:∀k k',f k=some k'->nm' k'=true/\k=ρ k'):∀{al:List (Nat×Nat)}{H':XH},(∀p∈al,ρ p.1=p.2)->nY f σ.H al=some H'->rN false σ.den nm' ρ (HA H')
 |[],H',_,h=>by cases h;exact .nil
 |(new,q)::l,H',hp,h=>by
   unfold nY at h;split at h
   .rename_i o ho
    split at h
    .rename_i o' ho'
     split at h
     .rename_i r hr
      cases h;have e:=hp (new,q) (jF ..);simp only at e;exact .cons (by rw[e];exact dG ho) (En hf ho') (T4 hf (λp hm=>hp p (gF _ hm)) hr)
     .cases h
    .cases h
   .cases h
theorem T0{H2:List (Nat×aM)}{nm':Nat->Bool}{ρ:Nat->Nat}{f:Nat->Option Nat}(hf:∀k k',f k=some k'->nm' k'=true/\k=ρ k'){R:Wr}(hR:mA H2 nm' ρ R):∀{l:XH}{W:Wx},(∀p∈l,Ab.look p.1 H2=some p.2.A)->mZ f l=some W->mA H2 nm' ρ (WA W++R)
 |[],W,_,h=>by cases h;exact hR
 |(k,o)::l,W,hp,h=>by
   unfold mZ at h;split at h
   .rename_i k' hk
    split at h
    .rename_i o' ho'
     split at h
     .rename_i r hr
      cases h;have e:=hp (k,o) (jF ..);simp only at e;have:=T0 hf hR (λp hm=>hp p (gF _ hm)) hr;exact .cons (by rw[<-(hf k k' hk).2];exact e) (En hf ho') this
     .cases h
    .cases h
   .cases h
theorem Lx{H2:List (Nat×aM)}{nm':Nat->Bool}{ρ:Nat->Nat}{H':XH}:∀(rn:List (Nat×Nat)),mA H2 nm' ρ (WA (gone H' rn))
 |[]=>.nil
 |(new,q)::l=>by
   unfold gone;split
   .exact Lx l
   .exact .gone (Lx l)
theorem L4{H':XH}{new q:Nat}:∀{rn:List (Nat×Nat)},(new,q)∈rn->lk new H'=none->(q,none)∈gone H' rn
 |(n,q')::l,h,hn=>by
   unfold gone;rcases eD.1 h with e|h
   .cases e
    rw[hn];exact jF ..
   .split
    .exact L4 h hn
    .exact gF _ (L4 h hn)
theorem L5{H':XH}{q:Nat}{x:Option XO}:∀{rn:List (Nat×Nat)},(q,x)∈gone H' rn->∃new,(new,q)∈rn
 |(n,q')::l,h=>by
   unfold gone at h;split at h
   .obtain⟨new,hm⟩:=L5 h
    exact⟨new,gF _ hm⟩
   .rcases eD.1 h with e|h
    .cases e;exact⟨n,jF ..⟩
    .obtain⟨new,hm⟩:=L5 h
     exact⟨new,gF _ hm⟩
theorem TK{f:Nat->Option Nat}{k':Nat}{x:Option XO}:∀{l:XH}{W:Wx},mZ f l=some W->(k',x)∈W->∃k,f k=some k'
 |[],W,h,hm=>by cases h;cases hm
 |(k,o)::l,W,h,hm=>by
   unfold mZ at h;split at h
   .rename_i k2 hk
    split at h
    .split at h
     .rename_i r hr
      cases h;rcases eD.1 hm with e|hm
      .cases e;exact⟨k,hk⟩
      .exact TK hr hm
     .cases h
    .cases h
   .cases h
theorem TJ{f:Nat->Option Nat}{k k':Nat}(hk:f k=some k'):∀{l:XH}{W:Wx}{o:XO},mZ f l=some W->lk k l=some o->∃x,(k',x)∈W
 |[],W,o,h,hm=>by cases hm
 |(k1,o1)::l,W,o,h,hm=>by
   unfold mZ at h;split at h
   .rename_i k2 hk2
    split at h
    .split at h
     .rename_i r hr
      cases h;unfold lk at hm;split at hm
      .rename_i he
       have:=bH he;subst this;rw[hk]at hk2;cases hk2;exact⟨_,jF ..⟩
      .obtain⟨x,hx⟩:=TJ hk hr hm
       exact⟨x,gF _ hx⟩
     .cases h
    .cases h
   .cases h
structure RbF(fr:Nat)(rn:List (Nat×Nat)):Prop where
 gV:∀new q,(new,q)∈rn->50<=new/\new<100/\¬ (fr<=q/\q<fr+8)/\lk new rn=some q
 nd:(rn.map (·.2)).Nodup
theorem aBR{fr:Nat}{rn:List (Nat×Nat)}(h:Kq fr rn=true):RbF fr rn:=by
 unfold Kq at h;rw[bA]at h;refine⟨λnew q hm=>?_,LK h.2⟩;have:=cT.1 h.1 _ hm;simp only[bA,lN]at this;obtain⟨⟨⟨a,b⟩,c⟩,d⟩:=this;have a:=eJ a;have b:new<100:=eJ b;refine⟨a,b,λ⟨c1,c2⟩=>?_,?_⟩
 .rcases c with c|c
  .have c:q<fr:=eJ c
   omega
  .have c:=eJ c
   omega
 .split at d
  .rename_i z hz;rw[hz,bH d]
  .cases d
def nV(p:Nat×Nat):Nat×Nat:=(p.2,p.1)
theorem Kp{fr:Nat}{rn:List (Nat×Nat)}(F:RbF fr rn){new q:Nat}(h:(new,q)∈rn):Ab.look q (rn.map nV)=some new:=by
 obtain⟨x,hx⟩:=CZ (l:=rn.map nV) (k:=q) (eK.2 ⟨(q,new),eK.2 ⟨_,h,rfl⟩,rfl⟩);obtain⟨p,hp,he⟩:=eK.1 (jW hx);cases he;rw[hx,LI F.nd h hp]
theorem Lf{σ:Vw}{r:aH}:∀{l:List Operand}{k:List X->O},σ.tM l k=some r->∃xs,k xs=some r/\xs.length=l.length/\∀(i:Nat)(x:X),xs[i]?=some x->∃p,l[i]?=some p/\σ.ev p=some x
 |[],k,h=>⟨[],h,rfl,λi p h=>by simp at h⟩
 |x::l,k,h=>by
   unfold Vw.tM at h;obtain⟨y,hy,h⟩:=bG h;obtain⟨xs,h1,h2,h3⟩:=Lf h;refine⟨y::xs,h1,by simp[h2],λi p hp=>?_⟩;cases i with
   |zero=>simp at hp;subst hp;exact⟨x,rfl,hy⟩
   |succ i=>exact h3 i p (by simpa using hp)
theorem A9.ok{P:Program}{o:Oper}{σ:St}{fr:Nat}{d:D}{W:Wr}(h:A9 P o σ fr (λ_:Unit=>True) (λ_=>d) (λ_=>W)):aU P o σ fr d W:=λE σ₁ a w h1 h2 h3 h4 h5 h6 Q=>Oper.wp_mono (λ_ _ ⟨q1,_,_,q2⟩=>⟨q1,q2⟩) (h E σ₁ a w h1 h2 h3 h4 h5 h6 Q)
theorem R5:∀{l:XH},nodupB (l.map (·.1))=true->∀p∈l,lk p.1 l=some p.2
 |[],_,p,hp=>by cases hp
 |(k,o)::l,h,p,hp=>by
   rcases eD.1 hp with e|hm
   .subst e
    unfold lk;rw[show aX k k=true from aDn k]
   .have hnd:=LK h
    rw[gL,List.nodup_cons]at hnd;have hne:k≠p.1:=λe=>hnd.1 (eK.2 ⟨p,hm,e.symm⟩)
    unfold lk;rw[mQ hne];unfold nodupB at h;simp only[gL]at h;split at h
    .cases h
    .exact R5 h p hm
section
variable{c:Cx}{σ:Vw}{κ:Nat->Bool}{fr:Nat}{o:Oper}{k:X->Wx->O}{r:aH}
theorem SQ(hG:oM c.P c.G)(hσ:σ.Ok κ){fo:Operand}{args:Array Operand}{tys:Array TypeId}{f:FuncId}{caps asL ys:List X}{g:bO}{fn:Func}{code:Code}{els:O}(ho:o.op = .call { callee:=.value fo,args:=args,argTypes:=tys })(hfo:σ.ev fo=some (.fn f caps))(hl:asL.length=args.toList.length)
    (hev:∀(i:Nat)(x:X),asL[i]?=some x->∃p,args.toList[i]?=some p/\σ.ev p=some x) (hg:lk f c.G=some g) (hfn:c.P.funcs[f]?=some fn) (hb:fn.body=some code) (hD:dM σ.den.H ((asL++caps).map X.D) (ys.map X.D)) (h:Ff σ fr g ys els k=some r):els=some r\/dL c σ fr o k r:=by
 unfold Ff at h;obtain⟨rn,hrn⟩:∃rn,FH 50 (reach σ.H 40 (jV ys []) [])=rn:=⟨_,rfl⟩
 simp only[hrn]at h;split at h
 .exact .inl h
 rename_i hrb;have F:=aBR hrb;split at h
 .exact .inl h
 rename_i zs hzs;split at h
 .exact .inl h
 rename_i H' hH';split at h
 case h_2=>exact .inl h
 rename_i pre res hres;split at h
 case h_2=>cases h
 rename_i hnd;obtain ⟨x,hx,h6⟩:=bG h;clear h;obtain ⟨W,hW,h7⟩:=bG h6;clear h6;obtain ⟨h8,hpre⟩:=mW h7;clear h7;refine .inr ⟨x,_,h8,aQx hx,fun hon=>?_⟩;obtain ⟨hname,hE⟩:=hG f g hg;have hname' : fn.name ≠ "runtime.NumGoroutine" := by
  unfold CX at hname;rw[hfn]at hname;simpa using hname
 have hDoes:=hE zs H' pre res hres (hpre hon.g);have hf1:∀k k',old rn k=some k'->decide (k'<100)=true/\k=bC rn k':=λk k' hk=>by
  obtain⟨_,b,_,d⟩:=F.gV _ _ (CR hk);exact⟨aL b,(CL d).symm⟩
 have hf2:∀k k',jJ fr rn k=some k'->fU fr (rn.map nV) k'=true/\k=back fr (rn.map nV) k':=λk k' hk=>by
  unfold jJ at hk;split at hk
  .rename_i hle
   have hle:=eJ hle;split at hk
   .rename_i hlt
    have hlt:k<108:=eJ hlt;cases hk;refine⟨?_,?_⟩
    .unfold fU
     rw[lN,bA];exact .inl ⟨aL (by omega),aL (by omega)⟩
    .unfold back
     rw[aE ⟨by omega,by omega⟩];omega
   .cases hk
  .have hm:=mR hk
   obtain⟨_,_,c3,_⟩:=F.gV _ _ hm;have hlook:=Kp F hm;refine⟨?_,?_⟩
   .unfold fU
    rw[lN,hlook];exact .inr rfl
   .unfold back
    rw[aC c3];unfold bC;rw[hlook]
 have hkeys:(HA H').map (·.1)=rn.map (·.1):=by
  rw[<-Qy hH'];unfold HA;rw[nG];rfl
 have hkey:∀{p:Nat×aM},p∈HA H'->∃q,(p.1,q)∈rn:=λ{p} hp=>by
  have:p.1∈rn.map (·.1):=hkeys ▸ eK.2 ⟨p,hp,rfl⟩;obtain⟨⟨a,b⟩,hm,e⟩:=eK.1 this;simp only at e;subst e;exact⟨b,hm⟩
 have hkey':∀{new q:Nat},(new,q)∈rn->∃p∈HA H',p.1=new:=λ{new q} hm=>by
  have:new∈(HA H').map (·.1):=hkeys ▸ eK.2 ⟨_,hm,rfl⟩;obtain⟨p,hp,e⟩:=eK.1 this;exact⟨p,hp,e⟩
 have hrnm:∀{new q:Nat},(new,q)∈rn->bC rn new=q:=λhm=>CL (F.gV _ _ hm).2.2.2
 refine A9.ok (aBf (ds:=zs.map X.D) (H:=HA H') (r':=λ_=>res.1.D) (H'':=λ_=>HA res.2) rn (rn.map nV) ?_ hDoes.n (T4 hf1 (λp hp=>hrnm hp) hH') (λ_ _=>Em hf2 _ _ hx) (λ_ _=>?_) (λ_ _=>?_) ?_)
 .intro E σ₁ ν G w a hT hHH I
  have hfv:=I.ev (St.cP hT (aY hσ hon hfo));obtain⟨v,hv⟩:∃v,a.eval fo=v:=⟨_,rfl⟩
  rw[hv]at hfv;unfold X.D at hfv;cases hfv with
  | @fn _ vs _ hvl hvd=>
    have hL:=(u6 hf1 ys zs hzs (H:=σ.den.H)).get;rw[fA,fA]at hL;have hlen:args.toList.length+caps.length=zs.length:=by
     have e1:=hD.len;have e2:=hL.1;simp only[cQ,bF]at e1 e2;omega
    have hvl':vs.size=caps.length:=by rw[hvl,fA,cQ]
    refine⟨args.toList.map a.eval++vs.toList,?_,?_,λt d' ht=>?_⟩
    .unfold execOp
     rw[ho];have:(args.toList.map a.eval++vs.toList).toArray=args.map a.eval++vs:=by
      apply tY;simp
     rw[this];simp only[resolve,hv,Deferred.ofValue,invoke,Sem.run_bind,Sem.run_pure,Result.andThen_ok,aXd];exact o9 hfn hname' (by rw[hb];exact λe=>by cases e) _ w
    .simp only[bF,cQ,nK]at hlen ⊢
     omega
    .have htl:t<zs.length:=by have:=(bP.1 ht).1;simpa using this
     obtain⟨dy,hdy⟩:∃dy,(ys.map X.D)[t]?=some dy:=⟨_,bM (by rw[hL.1,cQ];exact htl)⟩
     obtain⟨d0,hd0,hwk⟩:=hD.get t dy hdy;have hle:=hL.2 t dy d' hdy ht;rw[cD]at hd0;obtain⟨x0,hx0,rfl⟩:=b9.1 hd0;have hval:∃u,(args.toList.map a.eval++vs.toList)[t]?=some u/\DR ν σ₁.nm w G u x0.D:=by
      by_cases hlt:t<args.toList.length
      .rw[cZ (by omega)]at hx0
       obtain⟨p,hp,hpv⟩:=hev t x0 hx0;refine⟨a.eval p,?_,I.ev (St.cP hT (aY hσ hon hpv))⟩;rw[cZ (by rw[cQ];exact hlt),cD,hp];rfl
      .rw[eE (by omega),hl]at hx0
       have hi:t-args.toList.length<vs.size:=by rw[hvl'];exact(bP.1 hx0).1
       refine⟨vs[t-args.toList.length],?_,hvd _ _ _ (iM hi) (by rw[fA,cD,hx0];rfl)⟩;rw[eE (by rw[cQ];omega),cQ,aED,iM hi]
     obtain⟨u,hu,hdr⟩:=hval;exact⟨u,dy,hu,hwk E σ₁ ν G w a.tmps hHH I u hdr,hle⟩
 .have hlk:∀p∈res.2,Ab.look p.1 (HA res.2)=some p.2.A:=λp hp=>by
   rw[vE,R5 hnd p hp];rfl
  have:=T0 hf2 (Lx (H2:=HA res.2) (nm':=fU fr (rn.map nV)) (ρ:=back fr (rn.map nV)) (H':=res.2) rn) hlk hW;unfold WA at this ⊢;rw[l7];exact this
 .unfold AW
  rw[bA];refine⟨cT.2 λp hp=>?_,cT.2 λp hp=>?_⟩
  .obtain⟨q,hm⟩:=hkey hp
   rw[hrnm hm];have hq:∃x,(q,x)∈W++gone res.2 rn:=by
    cases hlk:lk p.1 res.2 with
    |none=>exact⟨none,aXL _ (L4 hm hlk)⟩
    |some o=>
      obtain⟨_,b,_,d⟩:=F.gV _ _ hm;have hbk:jJ fr rn p.1=some q:=by
       unfold jJ;rw[show j3 100 p.1=false by
        cases hble:j3 100 p.1 with
        |false=>rfl
        |true=>have:=eJ hble;omega]
       exact d
      obtain⟨x,hx⟩:=TJ hbk hW hlk;exact⟨x,aXM _ hx⟩
   obtain⟨x,hx⟩:=hq;obtain⟨y,hy⟩:=CZ (l:=WA (W++gone res.2 rn)) (k:=q) (eK.2 ⟨(q,x.map XO.A),eK.2 ⟨_,hx,rfl⟩,rfl⟩);rw[hy];rfl
  .obtain⟨⟨q,x⟩,hm,rfl⟩:=eK.1 hp
   rw[lN];have hin:(∃new,(new,q)∈rn)->(HA H').any (λz=>bC rn z.1 == q)=true:=λ⟨new,hn⟩=>by
    obtain⟨p,hp,e⟩:=hkey' hn;exact jN.2 ⟨p,hp,by rw[e,hrnm hn];exact AY _⟩
   rcases nF.1 hm with hm|hm
   .obtain⟨k0,hk0⟩:=TK hW hm
    unfold jJ at hk0;split at hk0
    .rename_i hle
     have hle:=eJ hle;split at hk0
     .rename_i hlt
      have hlt:k0<108:=eJ hlt;cases hk0;left;rw[bA];exact⟨aL (Te ..),aL (by simp only;omega)⟩
     .cases hk0
    .exact .inr (hin ⟨k0,mR hk0⟩)
   .exact .inr (hin (L5 hm))
 .unfold qZ
  simp only[bA];refine⟨⟨⟨cT.2 λp hp=>?_,aL ?_⟩,cT.2 λp hp=>?_⟩,cT.2 λp hp=>?_⟩
  .obtain⟨q,hm⟩:=hkey hp
   obtain⟨a,b,_,_⟩:=F.gV _ _ hm;rw[bA];exact⟨aL a,aL b⟩
  .have:(HA H').map (λp=>bC rn p.1)=rn.map (·.2):=by
    have e:(HA H').map (λp=>bC rn p.1)=((HA H').map (·.1)).map (bC rn):=by rw[nG];rfl
    rw[e,hkeys,nG];exact aXP λp hp=>hrnm hp
   rw[this];exact F.nd
  .obtain⟨q,hm⟩:=hkey hp
   rw[hrnm hm,Kp F hm];exact AY _
  .obtain⟨⟨new,q⟩,hm,rfl⟩:=eK.1 hp
   obtain⟨p,hp',e⟩:=hkey' hm;refine jN.2 ⟨p,hp',?_⟩;rw[bA,e,hrnm hm];exact⟨AY _,AY _⟩
theorem aUx(hG:oM c.P c.G)(hσ:σ.Ok κ){fo:Operand}{args:Array Operand}{tys:Array TypeId}{f:FuncId}{caps:List X}(ho:o.op = .call { callee:=.value fo,args:=args,argTypes:=tys })(hfo:σ.ev fo=some (.fn f caps))(h:σ.tM args.toList (λxs=>TD c σ fr f (xs++caps) k)=some r):dL c σ fr o k r:=by
 obtain⟨asL,h1,hl,hev⟩:=Lf h;clear h;unfold TD at h1;obtain⟨g,hg,h2⟩:=bG h1;clear h1;obtain⟨fn,hfn,h3⟩:=bG h2;clear h2;split at h3
 .cases h3
 rename_i code hb;rcases SQ hG hσ ho hfo hl hev hg hfn hb (Ls c σ _ _) h3 with h|h
 .rcases SQ hG hσ ho hfo hl hev hg hfn hb dM.refl h with h|h
  .cases h
  .exact h
 .exact h
end
end Go.Ax
/- Parts of rows of the walk's own, and copy. -/
namespace Go.Ax
open aA
open Go.RowKit Go.Ab
theorem aBB{E:Env}{σ₁:St}{ν:Nat->Value}{G:bQ}{w w':World}{a:Act}(I:Inv E σ₁ ν G w a.tmps){k fr g:Nat}{ob ob':aM}(hk:σ₁.H k=some ob)(hg:aQ (ν k)=some g)(hG0:G g=0)(hf1:∀w v g,bK w v ob g ↔ aQ v=some g)(hf2:∀w v g,bK w v ob' g ↔ aQ v=some g)
    (s1:w'.os=w.os) (s2:w'.tape=w.tape) (s3:w'.output=w.output) (s4:w'.heap.size=w.heap.size) (s5:∀b,b≠g->w'.heap[b]?=w.heap[b]?) (hcell:∀b i u,Cell w G b i u->Cell w' G b i u)
    (hnew:eR E ν σ₁.nm w' G k ob') {dst:Option Tmp} {v:Value} {d:D} (hd:∀t,dst=some t->t<E.m) (hv:DR ν σ₁.nm w' G v d):Inv E (σ₁.aN dst d [(k,some ob')] fr) ν G w' (a.put dst v).tmps:=by
 have hob:=(I.H k ob hk).2;have hmay:E.may g:=hob.Rl hg;have hnm:∀j,σ₁.nm j=true->(σ₁.aN dst d [(k,some ob')] fr).nm j=true/\ν j=ν j:=λj hj=>⟨by simp[St.aN,hj],rfl⟩
 refine⟨⟨s1.trans I.kept.os,s2.trans I.kept.tape,s3.trans I.kept.output,by rw[s4];exact I.kept.size,λb hb hX=>?_⟩,λb i u h=>hcell b i u (I.cS b i u h),I.eL,I.g0,?_,λt' d' h=>?_,λj oj h=>?_,λj1 o1 j2 o2 h1 h2 hne=>?_⟩
 .refine(s5 b (λe=>?_)).trans (I.kept.block b hb hX)
  subst e;rcases hmay with h|h
  .omega
  .exact hX h
 .cases dst <;> simp[Act.put,I.sz]
 .simp only[St.aN]at h
  split at h
  .rename_i he'
   cases h;have:=hd t' he';exact⟨v,by simp[he',Act.put,I.sz,this],hv.mono hnm (λ_ _ _ h=>h)⟩
  .rename_i he'
   obtain⟨u,hu,hdu⟩:=I.T t' d' h;refine⟨u,?_,hdu.mono hnm hcell⟩;cases dst with
   |none=>simpa[Act.put]using hu
   |some t''=>
     have hne:t''≠t':=λe=>he' (by rw[e])
     simp only[Act.put];rw[nL hne];exact hu
 .by_cases hj:j=k
  .subst hj
   simp[St.aN,Ab.look]at h;subst h;have h1:=(I.H j ob hk).1;exact⟨(hnm j h1).1,eR.mono h1 hnm (λ_ _ _ h=>h) (λ_ _=>⟨rfl,rfl⟩) hnew⟩
  .have h':σ₁.H j=some oj:=by simpa[St.aN,Ab.look,dW hj]using h
   obtain⟨h1,h2⟩:=I.H j oj h';refine⟨(hnm j h1).1,h2.mono h1 hnm hcell (λg' hg'=>⟨s5 g' (λe=>?_),rfl⟩)⟩;subst e;exact I.cF j oj k ob h' hk hj g' hg' (dT hg)
 .have back:∀j oj,(σ₁.aN dst d [(k,some ob')] fr).H j=some oj->∃oj',σ₁.H j=some oj'/\∀g',bK w' (ν j) oj g'->bK w (ν j) oj' g':=λj oj h=>by
   by_cases hj:j=k
   .subst hj
    simp[St.aN,Ab.look]at h;subst h;exact⟨ob,hk,λg' hg'=>(hf1 _ _ _).2 ((hf2 _ _ _).1 hg')⟩
   .have h':σ₁.H j=some oj:=by simpa[St.aN,Ab.look,dW hj]using h
    refine⟨oj,h',λg' hg'=>(qY λb hb=>s5 b λe=>?_).1 hg'⟩;subst e;exact I.cF j oj k ob h' hk hj b (dT hb) (dT hg)
  obtain⟨o1',h1',f1⟩:=back j1 o1 h1;obtain⟨o2',h2',f2⟩:=back j2 o2 h2;exact λg' hg1 hg2=>I.cF j1 o1' j2 o2' h1' h2' hne g' (f1 g' hg1) (f2 g' hg2)
section
variable{P:Program}{o:Oper}{s:St}{fr:Nat}
theorem aR9{t e e0:TypeId}{x:Operand}{lo hi:Option Operand}{sz n q:Nat}{ts:List Tree}{st:Bool}{a b:Option Int}(hs0:0<sz)(hu:P.underlying t=some (.slice e))(hs:fN P e=some sz)(ho:o.op = .slice t x lo hi none)(hx:s.ev x=some (.own q))(hq:s.H q=some (.row e0 sz n ts st))
    (hlo:l9 s lo a) (hhi:l9 s hi b) (hok:dJ n a b=true):aU P o s fr (.vw q (dR a*sz) (eM n b-dR a)) []:=
 c7 λE σ₁ ν G w ac hH I hev=>by
  have hd:=hev x _ hx;obtain⟨kl,e1⟩:=hlo.run (ρ:=ac.eval) (λx d h=>bY (hev x _ h));obtain⟨kh,e2⟩:=hhi.run (ρ:=ac.eval) (λx d h=>bY (hev x _ h));obtain⟨g1,g2,g3,g4⟩:=Ka hok;obtain⟨inf,hinf,hsz⟩:=b9.1 hs;obtain⟨hv,hk⟩:=qR hd;obtain⟨xs,r1,_⟩:=(I.H q _ (hH q _ hq)).2;rcases r1.2 with⟨hz,h0⟩|⟨g,cap,cur,hz,_,_,hcap,_⟩
  .subst h0
   have hb:=vT (P:=P) (w:=w) (isS:=true) (n:=0) (cap:=0) (lo:=a) (hi:=b) (kl:=kl) (kh:=kh) g1 (by omega) g3 g4;have z1:eM 0 b=0:=by omega
   have z2:dR a=0:=by omega
   rw[z1,z2]at hb;refine⟨.slice none 0 0,?_,?_⟩
   .unfold execOp
    rw[ho];simp only[hv,hz,e1,e2,oK];simp[Instr.sliceAt,Instr.slice,run_underlying hu,hb,sizeOf,typeInfo,hinf]
   .rw[z1,z2]
    exact .zR hk rfl hz
  .have hb:=vT (P:=P) (w:=w) (isS:=true) (n:=n) (cap:=cap) (lo:=a) (hi:=b) (kl:=kl) (kh:=kh) g1 (by omega) g3 g4
   refine⟨.slice (if cap=dR a then some ⟨g,0,none⟩else some ((⟨g,0,none⟩:Addr).add (dR a*sz))) (eM n b-dR a) (cap-dR a),?_,?_⟩
   .unfold execOp
    rw[ho];simp only[hv,hz,e1,e2,oK];simp[Instr.sliceAt,Instr.slice,run_underlying hu,hb,sizeOf,typeInfo,hinf,hsz]
   .by_cases hc:cap=dR a
    .rw[aE hc]
     exact .vw hk (by rw[hz];rfl) (λh=>by omega) (by omega) (λh=>⟨n,by
      have h0:dR a=0:=(aXB.1 h).resolve_right (by omega);rw[hz,h0,Nat.sub_zero]⟩)
    .rw[aC hc,Addr.add_mid,cY]
     exact .vw hk (by rw[hz];rfl) (λ_=>rfl) (by omega) (λh=>⟨n,by
      have h0:dR a=0:=(aXB.1 h).resolve_right (by omega);rw[hz,h0,Nat.sub_zero,pT]⟩)
inductive rL (s:St) (x:Operand) (sz:Nat):Nat->List Tree->Prop
 |src {n:Nat} {ts:List Tree} (h:Src s x n ts) (hl:ts.length=n*sz):rL s x sz n ts
 |vw {k off n N:Nat} {ts:List Tree} {e:TypeId} {st:Bool} (h:s.ev x=some (.vw k off n)) (hk:s.H k=some (.row e sz N ts st)) (hb:off+n*sz<=ts.length):rL s x sz n ((ts.drop off).take (n*sz))
theorem rL.rd{s σ₁:St}{x:Operand}{sz n:Nat}{ts:List Tree}(h:rL s x sz n ts){E:Env}{ν:Nat->Value}{G:bQ}{w:World}{a:Act}(hT:∀t d,s.T t=some d->σ₁.T t=some d)(hH:∀k o,s.H k=some o->σ₁.H k=some o)(I:Inv E σ₁ ν G w a.tmps):
    ∃ax c us,a.eval x = .slice ax n c/\us.length=n*sz/\ts.length=n*sz/\Rd w ax us/\(ax=none->c=0/\n=0)/\∀(i:Nat)(u:Value)(t:Tree),us[i]?=some u->ts[i]?=some t->TR w G u t:=by
 cases h with
 |src h hl=>
   obtain⟨ax,c,us,h1,h2,h3,h4,h5⟩:=h.rd hT hH I;exact⟨ax,c,us,h1,h2.trans hl,hl,h3,h4,h5⟩
 | @vw k off _ N ts e st h hk hb=>
   have hv:=I.ev (St.cP hT h);obtain⟨v,he⟩:∃v,a.eval x=v:=⟨_,rfl⟩
   rw[he]at hv ⊢;have hlen:((ts.drop off).take (n*sz)).length=n*sz:=by rw[fL,jM];omega
   cases hv with
   |zR hkn hc _=>exact⟨none,_,[],rfl,by simp,hlen,Rd.nil,λ_=>⟨hc,rfl⟩,λi u t h=>by simp at h⟩
   | @vw _ _ _ o c g hkn hg ho hn _=>
     obtain⟨xs,r1,r2,r3,r4⟩:=(I.H _ _ (hH _ _ hk)).2;by_cases hn0:n=0
     .subst hn0
      exact⟨some ⟨g,o,none⟩,c,[],rfl,by simp,hlen,λj u hj=>by simp at hj,(λe=>by cases e),λi u t h=>by simp at h⟩
     .have ho':=ho (by omega)
      subst ho';refine⟨some ⟨g,o,none⟩,c,(xs.drop o).take (n*sz),rfl,by rw[fL,jM];omega,hlen,λj u hj=>⟨_,rfl,?_⟩,(λe=>by cases e),λi u t hu ht=>?_⟩
      .rw[eY]at hj
       split at hj
       .rw[oL]at hj
        have:=r1.cells (g:=g) (by rw[<-iB r1];exact hg) _ u hj;rw[Addr.add_mid]at this ⊢;rw[cY]at this;exact this
       .cases hj
      .rw[eY]at hu ht
       split at hu
       .rename_i hi
        rw[aE hi]at ht;rw[oL]at hu ht;exact r3 _ u t hu ht
       .cases hu
theorem aRP{w:World}{e s N cap n g:Nat}{xs:List Value}(h:w.ownsRow 0 e s (.slice (some ⟨g,0,none⟩) N cap) N xs)(hn:n<=N):w.ownsRow 0 e s (.slice (some ⟨g,0,none⟩) n cap) n (xs.take (n*s)):=by
 rcases h.2 with⟨h1,_⟩|⟨g',cap',cur,h1,h2,h3,h4,h5,h6,h7⟩
 .cases h1
 .cases h1
  refine⟨by rw[fL,h.1];exact ME (kK _ hn),.inr ⟨g,cap,cur,rfl,h2,h3,iR hn h4,h5,h6,?_⟩⟩;rw[<-h7,aXD,ME (kK _ hn)]
theorem aS3{t e:TypeId}{z:Value}{size bytes:Nat}{x y:Operand}{k n N m:Nat}{ts ys:List Tree}(hT:kA P t e z size bytes)(ho:o.op = .call { callee:=.builtin .append,args:=#[x,y],argTypes:=#[t,t] })
    (hs:s.ev x=some (.vw k 0 n)) (hk:s.H k=some (.row e size N ts false)) (hn:n<=N) (hx:rL s y size m ys) (hb:(n+m)*bytes<=140737488355328/\n+m<=maxLen):aU P o s fr (.own fr) [(fr,some (.row e size (n+m) (ts.take (n*size)++ys) false)),(k,none)]:=by
 intro E σ₁ a w hTT hHH h100 hf hd ⟨ν,G,I⟩ Q;obtain⟨ax,c,us,hxv,hul,hyl,hrd,hnone,htr⟩:=hx.rd hTT hHH I;have hone:∀u∈us,u.oneCell'=true:=λu hu=>by
  obtain⟨i,hi⟩:=gK.1 hu;have hlt:i<ys.length:=by rw[hyl,<-hul];exact(bP.1 hi).1
  exact(htr i u _ hi (bM hlt)).one
 have hrow:∃v xs,a.eval x=v/\w.ownsRow 0 e size v n xs/\xs.length=(ts.take (n*size)).length/\(∀(i:Nat)(u:Value)(t:Tree),xs[i]?=some u->(ts.take (n*size))[i]?=some t->TR w G u t)/\aQ (ν k)=v.ownBlock /\
     (∀g,v.ownBlock=some g->E.may g/\G g=0):=by
  have hv:=I.ev (St.cP hTT hs);obtain⟨v,he⟩:∃v,a.eval x=v:=⟨_,rfl⟩
  rw[he]at hv;obtain⟨xs,r1,r2,r3,r4⟩:=(I.H _ _ (hHH _ _ hk)).2;have tk:∀(i:Nat)(u:Value)(t:Tree),(xs.take (n*size))[i]?=some u->(ts.take (n*size))[i]?=some t->TR w G u t:=λi u t hu ht=>by
   rw[eY]at hu ht;split at hu
   .rename_i hi
    rw[aE hi]at ht;exact r3 i u t hu ht
   .cases hu
  cases hv with
  |zR hkn hc hz=>
    subst hc;exact⟨_,[],he,World.ownsRow_nil w 0 e size,by simp,(λi u t h=>by simp at h),by rw[hz];rfl,λg hg=>by cases hg⟩
  | @vw _ _ _ o1 c1 g hkn hg h1 h2 hp=>
    obtain⟨N',hz⟩:=hp rfl;rw[hz]at r1;rcases r1.2 with⟨h3,_⟩|⟨g',cap,cur,h3,hr⟩
    .cases h3
    .cases h3
     have own1:w.ownsRow 0 e size (.slice (some ⟨g,0,none⟩) N c1) N xs:=⟨r1.1,.inr ⟨g,c1,cur,rfl,hr⟩⟩;exact⟨_,xs.take (n*size),he,aRP own1 hn,by rw[fL,fL,r2],tk,by rw[hz];rfl,λg' hg'=>by
      cases hg';exact r4 g hg⟩
 obtain⟨v,xs,hsv,hown,hxl,hxt,hkb,hmay⟩:=hrow;obtain⟨v',w',hr,r2,q1,q2,q3,q4,q5,q6,q7⟩:=Ej (ty:=o.type) hT hown (m:=m) (c:=c) hul hrd (λe=>(hnone e).1) hone hb.2 hb.1;unfold Oper.wp;have he:(execOp a.eval o).run P w = .ok (.value v') w':=by
  unfold execOp;rw[ho];simp[resolve,invoke,builtin,hsv,hxv,hr]
 rw[he,Oper.upon_value];have hcell:∀b i u,Cell w G b i u->Cell w' (λb=>if v'.ownBlock=some b then 0 else G b) b i u:=λb i u h=>by
  by_cases hb':v.ownBlock=some b
  .have hG:=(hmay b hb').2
   have h2:=h.2;rw[hG]at h2;omega
  .refine⟨(World.cell?_of_block (a:=⟨b,i,none⟩) (q5 b h.lt hb')).trans h.1,?_⟩
   have:v'.ownBlock≠some b:=λe=>by
    rcases q7 b e with h'|h'
    .have:=h.lt;omega
    .exact hb' h'
   simp only[aC this];exact h.2
 have hblkv:∀g,aQ v'=some g->v'.ownBlock=some g:=λg hg=>by rw[<-iB r2];exact hg
 have hwr:gE (some k) fr (.row e size (n+m) (ts.take (n*size)++ys) false)=[(fr,some (.row e size (n+m) (ts.take (n*size)++ys) false)),(k,none)]:=rfl;rw[<-hwr];refine⟨put_defers ..,bU ν fr v',_,I.new h100 hf hd (some k) (o:=.row e size (n+m) (ts.take (n*size)++ys) false) (λj'=>?_) q1 q2 q3 q4 (λb hb hnk=>?_) hcell (λj hj=>by cases hj;exact⟨_,hHH _ _ hk⟩) (x:=v') (λg hg=>?_) ?_ ?_⟩
 .by_cases h:j'=fr
  .subst h;simp[gE,Ab.look]
  .by_cases h':j'=k
   .subst h';simp[gE,Ab.look,h,dW h]
   .simp[gE,Ab.look,h,dW h,h',dW h']
 .have hne:v.ownBlock≠some b:=λe=>hnk k rfl (by rw[hkb];exact e)
  refine⟨q5 b hb hne,aC (λe=>?_)⟩;rcases q7 b e with h|h
  .omega
  .exact hne h
 .rcases q7 g (hblkv g hg)with h|h
  .exact .inl h
  .exact .inr ⟨k,rfl,by rw[hkb];exact h⟩
 .refine⟨xs++us,by rw[bT];exact r2,by rw[bF,bF,hxl,hul,hyl],λi u t hu ht=>?_,λg hg=>?_⟩
  .by_cases hi:i<xs.length
   .rw[cZ hi]at hu
    rw[cZ (by omega)]at ht;exact(hxt i u t hu ht).mono hcell
   .rw[eE (by omega)]at hu
    rw[eE (by omega)]at ht;exact(htr _ u t hu (by rw[hxl];exact ht)).mono hcell
  .rw[bT]at hg
   have hg':=hblkv g hg;refine⟨?_,aE hg'⟩;rcases q7 g hg' with h|h
   .exact .inl (iR I.kept.size h)
   .exact(hmay g h).1
 .have:DR (bU ν fr v') (σ₁.aN o.dst .any (gE (some k) fr (.row e size (n+m) (ts.take (n*size)++ys) false)) fr).nm w' (λb=>if v'.ownBlock=some b then 0 else G b) (bU ν fr v' fr) (.own fr):=.own (jH ..) (by rw[bT];exact kV r2)
  rw[bT]at this;exact this
theorem aSW{t t' e e0:TypeId}{x y:Operand}{q off n m N:Nat}{ts us:List Tree}(hu:P.underlying t=some (.slice e))(hs:fN P e=some 1)(ho:o.op = .call { callee:=.builtin .copy,args:=#[x,y],argTypes:=#[t,t'] })
    (hx:(s.ev x=some (.own q)/\off=0/\n=N)\/s.ev x=some (.vw q off n)) (hq:s.H q=some (.row e0 1 N ts false)) (hy:rL s y 1 m us) (hb:off+n<=ts.length):
    aU P o s fr (I (min m n:Nat)) [(q,some (.row e0 1 N (ts.take off++us.take n++ts.drop (off+min m n)) false))]:=by
 intro E σ₁ a w hT hH h100 hf hd ⟨ν,G,I⟩ Q;obtain⟨ax,c,cs,hyv,hcl,hul,hrd,hnone,htr⟩:=hy.rd hT hH I;rw[jL]at hcl hul;have hob:=(I.H q _ (hH q _ hq)).2;obtain⟨xs,r1,r2,r3,r4⟩:=id hob;have hone:∀v∈cs,v.oneCell'=true:=λv hv=>by
  obtain⟨i,hi⟩:=gK.1 hv;have hlt:i<us.length:=by rw[hul,<-hcl];exact(bP.1 hi).1
  exact(htr i v _ hi (bM hlt)).one
 -- the destination
 have hdst:∃base cap,a.eval x = .slice base n cap/\((base=none/\n=0)\/∃g o',base=some ⟨g,o',none⟩/\aQ (ν q)=some g/\(0<n->o'=off)):=by
  rcases hx with⟨hx,h0,hn⟩|hx
  .obtain⟨hv,_⟩:=qR (I.ev (St.cP hT hx))
   subst h0 hn;rcases r1.2 with⟨hz,h0⟩|⟨g,cap,cur,hz,_⟩
   .exact⟨none,0,by rw[hv,hz,h0],.inl ⟨rfl,h0⟩⟩
   .exact⟨_,cap,by rw[hv,hz],.inr ⟨g,0,rfl,by rw[hz];rfl,λ_=>rfl⟩⟩
  .have hv:=I.ev (St.cP hT hx)
   obtain⟨v,he⟩:∃v,a.eval x=v:=⟨_,rfl⟩
   rw[he]at hv ⊢;cases hv with
   |vw hk hg ho hn _=>exact⟨_,_,rfl,.inr ⟨_,_,rfl,hg,ho⟩⟩
   |zR hk hc _=>exact⟨none,_,rfl,.inl ⟨rfl,rfl⟩⟩
 obtain⟨base,cap,hxv,hbase⟩:=hdst;obtain⟨inf,hinf,hsz⟩:=b9.1 hs;have hmin:(cs.take n).length=min m n:=by rw[fL,hcl,Nat.min_comm]
 have key:∃w',(Builtin.copy_ #[t,t'] o.type #[.slice base n cap,.slice ax m c]).run P w = .ok (.int .i64 (min m n:Nat)) w' /\
     ((w'=w/\min m n=0)\/∃g cur et,aQ (ν q)=some g/\w.heap[g]?=some (.cells cur et (0,0))/\off+min m n<=cur.size/\(∀i,i<N->cur.toList[i]?=xs[i]?)/\w'=w.setRow g (cur.toList.take off++cs.take n++cur.toList.drop (off+min m n)).toArray):=by
  by_cases h0:min m n=0
  .refine⟨w,?_,.inl ⟨rfl,h0⟩⟩
   have hN:Nat.min m n=0:=h0;cases base with
   |none=>
     cases ax with
     |none=>simp[Builtin.copy_,run_underlying hu,Builtin.lenOf,Builtin.firstCells,sizeOf,typeInfo,hinf,hN,goInt]
     |some ad=>
       have hl0:=run_loadCells_list (P:=P) w ad [] (by simp);simp only[iJ]at hl0;simp[Builtin.copy_,run_underlying hu,Builtin.lenOf,Builtin.firstCells,sizeOf,typeInfo,hinf,hN,goInt,hl0]
   |some ab=>
     cases ax with
     |none=>simp[Builtin.copy_,run_underlying hu,Builtin.lenOf,Builtin.firstCells,sizeOf,typeInfo,hinf,hN,goInt,storeCells]
     |some ad=>
       have hl0:=run_loadCells_list (P:=P) w ad [] (by simp);simp only[iJ]at hl0;simp[Builtin.copy_,run_underlying hu,Builtin.lenOf,Builtin.firstCells,sizeOf,typeInfo,hinf,hN,goInt,storeCells,hl0]
  .rcases hbase with⟨_,hn⟩|⟨g,o',rfl,hg,ho'⟩
   .omega
   .have ho'':=ho' (by omega)
    subst ho'';have hax:∃ad,ax=some ad:=by
     cases ax with
     |none=>have:=(hnone rfl).2;omega
     |some ad=>exact⟨ad,rfl⟩
    obtain⟨ad,rfl⟩:=hax;rcases r1.2 with⟨hz,_⟩|⟨g',cap',cur,hz,_,z2,z3,z4,z5,z6⟩
    .rw[hz]at hg;cases hg
    .rw[hz]at hg
     cases hg;have hxl:xs.length=N:=by rw[r1.1,jL]
     have hfit:o'+(cs.take n).length<=cur.size:=by rw[hmin,z5];omega
     refine⟨_,?_,.inr ⟨_,cur,_,by rw[hz];rfl,z2,by rw[<-hmin];exact hfit,λi hi=>?_,rfl⟩⟩
     .have:=run_copy_row (P:=P) w t t' o.type e _ o' n cap ad m c cur _ (cs.take n) hu (by rw[hinf];simp[hsz]) z2 (by rw[hmin]) (λj v hj=>by
       rw[eY]at hj;split at hj
       .obtain⟨ad',he',hc'⟩:=hrd j v hj
        cases he';exact hc'
       .cases hj) hfit (λv hv=>hone v (List.mem_of_mem_take hv))
      rw[hmin]at this;exact this
     .rw[<-z6,eY,aE (by omega)]
 obtain⟨w',hr,hw'⟩:=key;unfold Oper.wp;have he:(execOp a.eval o).run P w = .ok (.value (.int .i64 (min m n:Nat))) w':=by
  unfold execOp;rw[ho];simp[resolve,invoke,builtin,hxv,hyv,hr]
 rw[he,Oper.upon_value];have hxl:xs.length=N:=by rw[r1.1,jL]
 rcases hw' with⟨rfl,h0⟩|⟨g,cur,et,hg,hcur,hfit,hsame,rfl⟩
 .have hts:ts.take off++us.take n++ts.drop (off+min m n)=ts:=by
   have:us.take n=[]:=by
    apply Fy;rw[fL,hul,Nat.min_comm];exact h0
   rw[this,h0,kN,hZ,aDq]
  rw[hts];refine⟨put_defers ..,ν,G,?_⟩;have:=I.put (dst:=o.dst) (v:=.int .i64 (min m n:Nat)) (d:=Go.Ab.I (min m n:Nat)) (.t (.v _ rfl)) hd fr a rfl;refine⟨this.kept,this.cS,this.eL,this.g0,this.sz,this.T,λk ok hk=>?_,λk ok k' ok' h1 h2=>?_⟩
  .by_cases hkq:q=k
   .subst hkq
    simp[St.aN,Ab.look]at hk;subst hk;exact this.H q _ (by simp[St.aN,Ab.look];exact hH q _ hq)
   .exact this.H k ok (by simpa[St.aN,Ab.look,hkq]using hk)
  .have conv:∀k ok,(σ₁.aN o.dst (Go.Ab.I (min m n:Nat)) [(q,some (.row e0 1 N ts false))] fr).H k=some ok->(σ₁.aN o.dst (Go.Ab.I (min m n:Nat)) [] fr).H k=some ok:=λk ok h=>by
    by_cases hkq:q=k
    .subst hkq
     simp[St.aN,Ab.look]at h;subst h;simp[St.aN,Ab.look];exact hH q _ hq
    .simpa[St.aN,Ab.look,hkq]using h
   exact this.cF k ok k' ok' (conv k ok h1) (conv k' ok' h2)
 .have hG0:G g=0:=by simpa using(r4 g hg).2
  have hsz':cur.size=cur.toList.length:=by simp
  have s5:∀b,b≠g->(w.setRow g (cur.toList.take off++cs.take n++cur.toList.drop (off+min m n)).toArray).heap[b]?=w.heap[b]?:=λb hb=>setRow_other w g b _ hb
  have hcell:∀b i u,Cell w G b i u->Cell (w.setRow g (cur.toList.take off++cs.take n++cur.toList.drop (off+min m n)).toArray) G b i u:=λb i u h=>by
   have hne:b≠g:=λe=>by have:=h.2;rw[e,hG0]at this;omega
   exact⟨(World.cell?_of_block (a:=⟨b,i,none⟩) (s5 b hne)).trans h.1,h.2⟩
  have hcslen:(cur.toList.take off++cs.take n++cur.toList.drop (off+min m n)).length=cur.size:=by
   simp only[bF,fL,jM,hcl,hsz'];rw[hsz']at hfit;omega
  have hnewrow:(w.setRow g (cur.toList.take off++cs.take n++cur.toList.drop (off+min m n)).toArray).ownsRow 0 e0 1 (ν q) N (xs.take off++cs.take n++xs.drop (off+min m n)):=by
   have hxs':xs=cur.toList.take N:=by
    apply Ae;intro i;rw[eY];by_cases hi:i<N
    .rw[aE hi,hsame i hi]
    .rw[aC hi,rI (by omega)]
   have hoN:off+min m n<=N:=by rw[<-r2,hxl]at hb;omega
   refine⟨by simp only[bF,fL,jM,hxl,hcl];omega,?_⟩;rcases r1.2 with⟨hz,_⟩|⟨g',cap',cur',hz,z1,z2,z3,z4,z5,z6⟩
   .rw[hz]at hg;cases hg
   .rw[hz]at hg
    cases hg;rw[hcur]at z2;cases z2;refine .inr ⟨_,cap',_,hz,z1,setRow_heap w _ cur _ _ (0,0) hcur,z3,z4,by rw[aDs,hcslen];exact z5,?_⟩;rw[jL];apply Ae;intro i;rw[eY];have hl1:(cur.toList.take off).length=off:=by rw[fL];rw[hsz']at hfit;omega
    have hl2:(xs.take off).length=off:=by rw[fL,hxl];omega
    by_cases hi:i<N
    .rw[aE hi]
     by_cases h1:i<off
     .rw[fT,fT,cZ (by omega),cZ (by omega),eY,eY,aE h1,aE h1,hsame i hi]
     .have h4:(cur.toList.take off).length<=i:=by omega
      have h5:(xs.take off).length<=i:=by omega
      rw[fT,fT,eE h4,eE h5,hl1,hl2];by_cases h2:i-off<min m n
      .rw[cZ (by rw[hmin];exact h2),cZ (by rw[hmin];exact h2)]
      .have h3:(cs.take n).length<=i-off:=by rw[hmin];omega
       rw[eE h3,eE h3,hmin,oL,oL,show off+min m n+(i-off-min m n)=i by omega,hsame i hi]
    .rw[aC hi,rI]
     simp only[bF,fL,jM,hxl,hcl];omega
  refine⟨put_defers ..,ν,G,aBB (w':=w.setRow g (cur.toList.take off++cs.take n++cur.toList.drop (off+min m n)).toArray) (ob':=.row e0 1 N (ts.take off++us.take n++ts.drop (off+min m n)) false) I (hH q _ hq) hg hG0 (λ_ _ _=>kZ) (λ_ _ _=>kZ) rfl rfl rfl (setRow_size w g (cur.toList.take off++cs.take n++cur.toList.drop (off+min m n)).toArray) s5 hcell ⟨_,hnewrow,?_,λi u tr hu' htr'=>?_,r4⟩ hd (.t (.v _ rfl))⟩
  .simp only[bF,fL,jM,hcl,hul,r2]
  .have hl1:(xs.take off).length=(ts.take off).length:=by simp[r2]
   have hl2:(cs.take n).length=(us.take n).length:=by simp[hcl,hul]
   rw[fT]at hu' htr';by_cases h1:i<(xs.take off).length
   .rw[cZ h1]at hu'
    rw[cZ (by omega)]at htr';rw[eY]at hu' htr';split at hu'
    .rename_i hi
     rw[aE hi]at htr';exact(r3 i u tr hu' htr').mono hcell
    .cases hu'
   .rw[eE (by omega)]at hu'
    rw[eE (by omega),<-hl1]at htr';by_cases h2:i-(xs.take off).length<(cs.take n).length
    .rw[cZ h2]at hu'
     rw[cZ (by omega)]at htr';rw[eY]at hu' htr';split at hu'
     .rename_i hi
      rw[aE hi]at htr';exact(htr _ u tr hu' htr').mono hcell
     .cases hu'
    .rw[eE (by omega)]at hu'
     rw[eE (by omega),<-hl2]at htr';rw[oL]at hu' htr';exact(r3 _ u tr hu' htr').mono hcell
end
end Go.Ax
/- Arrays in variables at places that are not known; rows cut at their ends; nil slices. -/
namespace Go.Ax
open aA
open Go.RowKit Go.Ab
theorem Rw{τ:Ty}:∀{xs:List X}{l:List τ.V},FO τ xs=some l->xs=l.map (X.e τ)
 |[],l,h=>by cases h;rfl
 |x::r,l,h=>by
   cases x with
   |e τ' y=>
     unfold FO at h;generalize eS τ' τ=p at h;cases p with
     |none=>cases h
     |some q=>
       obtain⟨q⟩:=q;subst q;simp only at h;split at h
       .rename_i l' hl
        cases h;rw[Rw hl];rfl
       .cases h
   |_=>cases h
theorem aAt(τ:Ty)(off:Nat)(z:τ.V):∀(l:List τ.V)(i:Nat),uY τ (off+i) z i l=(l.set off z).map (X.e τ)
 |[],i=>by simp[uY]
 |y::l,i=>by
   unfold uY;cases off with
   |zero=>
     have h0:aX (0+i) i=true:=by rw[cY];exact aDn i
     rw[h0];have:∀(l:List τ.V)(j:Nat),0+i<j->uY τ (0+i) z j l=l.map (X.e τ):=by
      intro l
      induction l with
      |nil=>intro j _;rfl
      |cons y l ih=>
        intro j hj;unfold uY;have hb:aX (0+i) j=false:=by
         cases hb:aX (0+i) j with
         |false=>rfl
         |true=>have:=bH hb;omega
        rw[hb,ih (j+1) (by omega)];rfl
     rw[this l (i+1) (by omega)];rfl
   |succ off=>
     have hb:aX (off+1+i) i=false:=by
      cases hb:aX (off+1+i) i with
      |false=>rfl
      |true=>have:=bH hb;omega
     have ih:=aAt τ off z l (i+1);rw[show off+(i+1)=off+1+i by omega]at ih;rw[hb,ih];rfl
section
variable{c:Cx}{σ:Vw}{κ:Nat->Bool}{fr:Nat}{o:Oper}{r:aH}
theorem aUT{t:TypeId}{a x:X}{k:X->O}(h:SL c σ t a x k=some r):∃y,k y=some r/\y.pl=true/\(σ.On->∀{xa xn:Operand},o.op = .indexAddr t xa xn->σ.den.ev xa=some a.D->σ.den.ev xn=some x.D->aU c.P o σ.den fr y.D []):=by
 unfold SL at h;replace h:=Fk h;obtain⟨ik,n,hx,h⟩:=h;split at h
 .rename_i q off
  split at h
  .rename_i m s hs
   obtain⟨h1,h2⟩:=mW h;refine⟨_,h1,rfl,λhon xa xn ho ha hn=>?_⟩;obtain⟨g1,g2⟩:=cH (h2 hon.g);rw[hx]at hn;exact aBb (P:=c.P) (fr:=fr) ho hs ha hn g1 g2
  .cases h
 .cases h
theorem aTj{t:TypeId}{a:X}{k:X->O}(h:Rr c σ t a k=some r):∃y,k y=some r/\y.pl=true/\(σ.On->∀{x:Operand},o.op = .load t x->σ.den.ev x=some a.D->aU c.P o σ.den fr y.D []):=by
 unfold Rr at h;split at h
 .rename_i q off hrw
  split at h
  .rename_i e τ y xs hq
   split at h
   .rename_i h1
    obtain⟨l,hl,h⟩:=bG h;obtain⟨z,h3,h4⟩:=C4 h;refine⟨_,h3,rfl,λhon x ho hx=>?_⟩;obtain⟨_,g2⟩:=h4 hon.g;rw[Int.toNat_natCast]at g2;refine vG hrw ho hx (dG hq) ?_;have e1:=Rw hl;show((X.e τ y::xs).map X.D)[off]?=_;rw[e1,nG,cD,g2];rfl
   .cases h
  .cases h
 .cases h
theorem aQX{t:TypeId}{a y:X}{k:X->Wx->O}(h:Qb c σ t a y k=some r):∃W,k (.aT []) W=some r/\∀{x z:Operand},o.op = .store t x z->σ.den.ev x=some a.D->σ.den.ev z=some y.D->y.val=true->aU c.P o σ.den fr (.aT []) (WA W):=by
 unfold Qb at h;split at h
 .rename_i q off τ z hm
  split at h
  .rename_i h1
   split at h
   .rename_i e xs hq
    obtain⟨l,hl,h⟩:=bG h;obtain⟨hlt,h⟩:=fF h;have hlt:=cH hlt;refine⟨_,h,λho hx hz hv=>?_⟩;have e1:=Rw hl;have e2:=aAt τ off z l 0;rw[hZ]at e2;have hc:=Lq hv;have hcl:(X.e τ z).cells=[X.e τ z]:=rfl;refine LB (d:=(X.e τ z).D) (ob':=(XO.box e (uY τ off z 0 l)).A) ho ?_ hx (.ev hz) (ET hv) (dG hq) ?_ ?_
    .rw[hc,hcl];exact hm
    .show(if off+(X.e τ z).D.cells.length<=(xs.map X.D).length then _ else none)=_
     rw[hc,hcl,e1,aE (by simp;omega),e2];simp only[XO.A]
     congr 2
     show cO ((l.map (X.e τ)).map X.D) off [(X.e τ z).D]=((l.set off z).map (X.e τ)).map X.D;rw[nG,nG,List.map_set,List.set_eq_take_append_cons_drop,aE (by simpa using hlt)];simp[cO]
    .rw[hc,hcl];exact Nat.one_pos
   .cases h
  .cases h
 .cases h
end
section
variable{P:Program}{o:Oper}{s:St}{fr:Nat}
theorem aSV{t e e0:TypeId}{x:Operand}{hi:Option Operand}{sz N q:Nat}{ts:List Tree}{n:Int}(hu:P.underlying t=some (.slice e))(hs:fN P e=some sz)(ho:o.op = .slice t x none hi none)(hx:s.ev x=some (.own q))(hq:s.H q=some (.row e0 sz N ts false))
    (hhi:l9 s hi (some n)) (h0:0<=n) (hn:n<=N):aU P o s fr (.own fr) [(fr,some (.row e0 sz n.toNat (ts.take (n.toNat*sz)) false)),(q,none)]:=by
 intro E σ₁ a w hT hH h100 hf hd ⟨ν,G,I⟩ Q;obtain⟨hv,hk⟩:=qR (I.ev (St.cP hT hx));obtain⟨kh,e2⟩:=hhi.run (ρ:=a.eval) (λx d h=>bY (I.ev (St.cP hT h)));obtain⟨inf,hinf,hsz⟩:=b9.1 hs;have hqq:=hH q _ hq;have hob:=(I.H q _ hqq).2;obtain⟨xs,r1,r2,r3,r4⟩:=id hob;have key:∃v',(execOp a.eval o).run P w = .ok (.value v') w/\w.ownsRow 0 e0 sz v' n.toNat (xs.take (n.toNat*sz))/\(∀g,aQ v'=some g->aQ (ν q)=some g):=by
  have hxl:=r1.1;rcases r1.2 with⟨hz,h00⟩|⟨g,cap,cur,hz,q1,q2,q3,q4,q5,q6⟩
  .subst h00
   have hb:=vT (P:=P) (w:=w) (isS:=true) (n:=0) (cap:=0) (lo:=none) (hi:=some n) (kl:=.i64) (kh:=kh) (by simp[dR,eM]) (by simp[eM];omega) (λ_ h=>by cases h) (λb h=>by cases h;exact h0);have z1:n.toNat=0:=by omega
   simp only[eM,dR,z1]at hb;refine⟨.slice none 0 0,?_,?_,λg hg=>by cases hg⟩
   .unfold execOp
    rw[ho];simp only[hv,hz,e2,oK,jE]at hb ⊢;simp[Instr.sliceAt,Instr.slice,run_underlying hu,hb,sizeOf,typeInfo,hinf]
   .rw[z1]
    have:xs.take (0*sz)=[]:=by simp
    rw[this];exact World.ownsRow_nil w 0 e0 sz
  .have hb:=vT (P:=P) (w:=w) (isS:=true) (n:=N) (cap:=cap) (lo:=none) (hi:=some n) (kl:=.i64) (kh:=kh) (by simp[dR,eM]) (by simp only[eM];omega) (λ_ h=>by cases h) (λb h=>by cases h;exact h0)
   simp only[eM,dR]at hb;refine⟨.slice (some ⟨g,0,none⟩) n.toNat cap,?_,⟨?_,.inr ⟨g,cap,cur,rfl,q1,q2,by omega,q4,q5,?_⟩⟩,λg' hg=>by rw[hz];exact hg⟩
   .unfold execOp
    rw[ho];simp only[hv,hz,e2,oK,jE]at hb ⊢;have hadd0:(⟨g,0,none⟩:Addr).add 0=⟨g,0,none⟩:=by rw[Addr.add_mid]
    simp[Instr.sliceAt,Instr.slice,run_underlying hu,hb,sizeOf,typeInfo,hinf,hsz,hadd0]
   .rw[fL,hxl]
    exact ME (kK _ (by omega))
   .rw[<-q6,aXD,ME (kK _ (by omega))]
 obtain⟨v',he,r2',hblk⟩:=key;unfold Oper.wp;rw[he,Oper.upon_value];have hG0:∀g,aQ (ν q)=some g->E.may g/\G g=0:=λg hg=>by simpa using r4 g hg
 refine⟨put_defers ..,bU ν fr v',_,I.new (G':=G) h100 hf hd (some q) (o:=.row e0 sz n.toNat (ts.take (n.toNat*sz)) false) (λk=>?_) rfl rfl rfl (bX _) (λb hb hnk=>⟨rfl,rfl⟩) (λ_ _ _ h=>h) (λk hk=>by cases hk;exact⟨_,hqq⟩) (x:=v') (λg hg=>.inr ⟨q,rfl,hblk g hg⟩) ?_ ?_⟩
 .by_cases h:k=fr
  .subst h;simp[Ab.look]
  .by_cases h':k=q
   .subst h';simp[Ab.look,h,dW h]
   .simp[Ab.look,h,dW h,h',dW h']
 .refine⟨xs.take (n.toNat*sz),by rw[bT];exact r2',by simp[r2],λi u t hu ht=>?_,λg hg=>?_⟩
  .rw[eY]at hu ht
   split at hu
   .rename_i hi
    rw[aE hi]at ht;exact r3 i u t hu ht
   .cases hu
  .rw[bT]at hg
   simpa using hG0 g (hblk g hg)
 .have:DR (bU ν fr v') (σ₁.aN o.dst .any [(fr,some (.row e0 sz n.toNat (ts.take (n.toNat*sz)) false)),(q,none)] fr).nm w G (bU ν fr v' fr) (.own fr):=.own (jH ..) (by rw[bT];exact kV r2')
  rw[bT]at this;exact this
theorem aRi{t e:TypeId}{x:Operand}{lo hi:Option Operand}{a b:Option Int}{sz:Nat}(hu:P.underlying t=some (.slice e))(hs:fN P e=some sz)(ho:o.op = .slice t x lo hi none)(hx:s.ev x=some (.t (.v (.slice none 0 0))))(hlo:l9 s lo a)(hhi:l9 s hi b)(hz:(Al a&&Al b)=true):aU P o s fr (.t (.v (.slice none 0 0))) []:=
 c7 λE σ₁ ν G w ac hH I hev=>by
  have hd:=bY (hev x _ hx);obtain⟨kl,e1⟩:=hlo.run (ρ:=ac.eval) (λx d h=>bY (hev x _ h));obtain⟨kh,e2⟩:=hhi.run (ρ:=ac.eval) (λx d h=>bY (hev x _ h));obtain⟨inf,hinf,hsz⟩:=b9.1 hs;rw[bA]at hz;have za:dR a=0/\∀x,a=some x->0<=x:=by
   cases a with
   |none=>exact⟨rfl,λx h=>by cases h⟩
   |some x=>have:=cH hz.1;subst this;exact⟨rfl,λx h=>by cases h;exact Int.le_refl _⟩
  have zb:eM 0 b=0/\∀x,b=some x->0<=x:=by
   cases b with
   |none=>exact⟨rfl,λx h=>by cases h⟩
   |some x=>have:=cH hz.2;subst this;exact⟨rfl,λx h=>by cases h;exact Int.le_refl _⟩
  have hb:=vT (P:=P) (w:=w) (isS:=true) (n:=0) (cap:=0) (lo:=a) (hi:=b) (kl:=kl) (kh:=kh) (by omega) (by omega) za.2 zb.2;rw[za.1,zb.1]at hb;refine⟨.slice none 0 0,?_,.t (.v _ rfl)⟩;unfold execOp;rw[ho];simp only[hd,e1,e2,oK];simp[Instr.sliceAt,Instr.slice,run_underlying hu,hb,sizeOf,typeInfo,hinf]
theorem aSX{t e:TypeId}{x:Operand}(hu:P.underlying t=some (.slice e))(ho:o.op = .call { callee:=.builtin .cap,args:=#[x],argTypes:=#[t] })(hx:s.ev x=some (.t (.v (.slice none 0 0)))):aU P o s fr (I 0) []:=
 c7 λE σ₁ ν G w ac hH I hev=>by
  have hd:=bY (hev x _ hx);refine⟨.int .i64 0,?_,.t (.v _ rfl)⟩;unfold execOp;rw[ho];simp[resolve,invoke,builtin,hd,Builtin.cap_,run_underlying hu,goInt]
end
section
variable{c:Cx}{σ:Vw}{κ:Nat->Bool}{fr:Nat}{o:Oper}{k:X->Wx->O}{r:aH}
theorem aUt(hσ:σ.Ok κ){t:TypeId}{x:Operand}{hi:Option Operand}{q:Nat}(ho:o.op = .slice t x none hi none)(hx:σ.ev x=some (.own q))(h:σ.kE hi (λhi=>So c σ fr t q hi k)=some r):dL c σ fr o k r:=by
 obtain⟨b,h,hb⟩:=vA hσ h;unfold So at h;split at h
 .rename_i e e' τ l n hu hq
  split at h
  .rename_i m hm
   split at h
   .rename_i hs
    have hs:=bH hs;subst hs;obtain⟨hd,h⟩:=fF h;obtain⟨h0,hn⟩:=cH hd;refine⟨_,_,h,rfl,λhon=>?_⟩;have:=aSV (P:=c.P) (fr:=fr) hu hm ho (aY hσ hon hx) (dG hq) (hb hon) h0 hn;unfold WA;simp only[gL,Cm,jE,oK,XO.A,fL];rw[pI (λx=>cW τ x)]at this;rw[show min n.toNat l.length=n.toNat by omega];exact this
   .cases h
  .cases h
 .cases h
theorem aUd(hσ:σ.Ok κ){t:TypeId}{x:Operand}{lo hi:Option Operand}(ho:o.op = .slice t x lo hi none)(hx:σ.ev x=some .dE) (h:σ.kE lo (λlo=>σ.kE hi λhi=>match c.P.underlying t with
        |some (.slice e)=>match fN c.P e with
          |some _=>kI (σ.g.map (·.2)) (Al lo&&Al hi) (k .dE [])
          |none=>none
        |_=>none)=some r):dL c σ fr o k r:=by
  obtain⟨a,h,ha⟩:=vA hσ h;obtain⟨b,h,hb⟩:=vA hσ h;split at h
  .rename_i e hu
   split at h
   .rename_i m hm
    obtain⟨h,hz⟩:=mW h;exact⟨_,_,h,rfl,λhon=>aRi (P:=c.P) (fr:=fr) hu hm ho (aY hσ hon hx) (ha hon) (hb hon) (hz hon.g)⟩
   .cases h
  .cases h
end
theorem aBA{P:Program}{t t' ty e:TypeId}{z:Value}{s bytes:Nat}(hT:kA P t e z s bytes)(ht':P.underlying t'=some (.int .i64)){n:Nat}(hm:n<=maxLen)(hb:n*bytes<=140737488355328)(w:World):
    ∃v' w',(Builtin.append_ #[t,t'] ty #[.slice none 0 0,.int .i64 n]).run P w = .ok v' w'/\w'.ownsRow 0 e s v' n (dA n z.cells.toList).flatten/\bB w w'/\∀g,aQ v'=some g->w.heap.size<=g:=by
 obtain⟨i,hi,hz,h2,h3⟩:=info_parts hT.i;have hmx:n<=9223372036854775807:=by simp only[maxLen]at hm;omega
 have hw:aS.wrap (n:Int)=n:=IntWalk.i64_in _ ⟨by omega,by omega⟩;have hneg:¬ ((n:Int)<0):=by omega
 have hby:¬ (281474976710656<(n:Int)*(i.bytes:Int)):=by
  rw[h3];have:((n*bytes:Nat):Int)<=281474976710656:=by omega
  rw[aX2]at this;omega
 by_cases hn:n=0
 .subst hn
  refine⟨.slice none 0 0,w,?_,by simpa using World.ownsRow_nil w 0 e s,bB.refl w,λg hg=>by cases hg⟩;simp[Builtin.append_,run_underlying hT.u,run_underlying ht',sizeOf,typeInfo,hi,Go.asInt,asIntOf,(show aS.wrap 0=0 by decide)]
 .have hs0:=hT.s
  have h63:¬ (9223372036854775807<(n:Int)):=by omega
  have h48:¬ (281474976710656<Builtin.nextslicecap n 0*i.bytes):=by rw[nextslicecap_zero (by omega),h3];omega
  have hnz:¬ (n*i.size=0):=by rw[h2];exact Nat.ne_of_gt (Nat.mul_pos (by omega) hs0)
  have hnz':¬ (n=0\/i.size=0):=by rw[h2];omega
  have hge:=grownCap_ge w n 0 e;have hcm:grownCap w n 0 e<=maxLen:=grownCap_le_maxLen w n 0 e hm;have hzc:(Builtin.zeroCells z.cells n).toList=(dA n z.cells.toList).flatten:=by
   have:=Rm hT.z hT.s n;rw[<-hT.z]at this;exact this
  have hzl:(Builtin.zeroCells z.cells n).size=n*s:=by rw[size_zeroCells,hT.z]
  refine⟨.slice (some ⟨w.heap.size,0,none⟩) n (grownCap w n 0 e),w.drew.alloc (.cells (Builtin.zeroCells z.cells n++Builtin.zeroCells z.cells (grownCap w n 0 e-n)) e),?_,⟨?_,.inr ⟨w.heap.size,_,_,rfl,dC _,heap_alloc_new w.drew _,hge,hcm,?_,?_⟩⟩,⟨rfl,rfl,rfl,by simp,λb hb=>heap_alloc_old w.drew _ hb⟩,λg hg=>by cases hg;exact bX _⟩
  .simp[Builtin.append_,run_underlying hT.u,run_underlying ht',sizeOf,typeInfo,zeroValue,hi,hz,Go.asInt,asIntOf,hw,hneg,hby,hn,h63,h48,Question.forced,run_firstCells_none,newRow,grownCap]
   exact λh=>absurd h hnz
  .rw[<-hzc,nK,hzl]
  .rw[aXb,hzl,size_zeroCells,hT.z,<-iH]
   congr 1
   omega
  .rw[aXa,<-hzc,<-hzl,<-nK]
   exact aDo
theorem aS1{P:Program}{o:Oper}{σ:St}{fr:Nat}{t t' e:TypeId}{z:Value}{s bytes:Nat}(st:Bool){x y:Operand}{n:Nat}{zt:List Tree}(hT:kA P t e z s bytes)(hz:iG z.cells.toList zt)(ht':P.underlying t'=some (.int .i64))(ho:o.op = .call { callee:=.builtin .append,args:=#[x,y],argTypes:=#[t,t'] })
    (hx:σ.ev x=some (.t (.v (.slice none 0 0)))) (hy:σ.ev y=some (I n)) (hb:n*bytes<=140737488355328/\n<=maxLen):aU P o σ fr (.own fr) [(fr,some (.row e s n (dA n zt).flatten st))]:=by
 intro E σ₁ a w hTT hHH h100 hf hd ⟨ν,G,I⟩ Q;have hxv:=bY (I.ev (St.cP hTT hx));have hyv:=bY (I.ev (St.cP hTT hy));obtain⟨v',w',hr,r1,hA,hbk⟩:=aBA (ty:=o.type) hT ht' hb.2 hb.1 w;have he:(execOp a.eval o).run P w = .ok (.value v') w':=by
  unfold execOp;rw[ho];simp[resolve,invoke,builtin,hxv,hyv,hr]
 unfold Oper.wp;rw[he,Oper.upon_value]
 let G':bQ:=λb=>if aQ v'=some b then(if st then n*s else 0)else G b
 have hG:∀b,b<w.heap.size->G' b=G b:=λb hb'=>aC (λe=>by have:=hbk b e;omega)
 have hzr:=(hz.El n).rel w' G';refine⟨put_defers ..,_,_,I.fresh (G':=G') h100 hf hd hA hG (x:=v') (λg hg=>hbk g hg) ?_ ?_⟩
 .refine⟨_,by rw[bT];exact r1,hzr.1,hzr.2,λg hg=>?_⟩
  rw[bT]at hg;exact⟨.inl (iR I.kept.size (hbk g hg)),aE hg⟩
 .have:DR (bU ν fr v') (σ₁.aN o.dst .any [(fr,some (.row e s n (dA n zt).flatten st))] fr).nm w' G' (bU ν fr v' fr) (.own fr):=.own (jH ..) (by rw[bT];exact kV r1)
  rw[bT]at this;exact this
theorem aQi{P:Program}{t t' ty e:TypeId}{z:Value}{s bytes:Nat}(hT:kA P t e z s bytes)(ht':P.underlying t'=some (.int .i64)){w:World}{v:Value}{n:Nat}{xs:List Value}(hown:w.ownsRow 0 e s v n xs){m:Nat}
    (h1:∀u∈(dA m z.cells.toList).flatten,u.oneCell'=true) (h63:n+m<=maxLen) (hbytes:(n+m)*bytes<=140737488355328):
    ∃v' w',(Builtin.append_ #[t,t'] ty #[v,.int .i64 m]).run P w = .ok v' w'/\w'.ownsRow 0 e s v' (n+m) (xs++(dA m z.cells.toList).flatten)/\w'.os=w.os/\w'.tape=w.tape/\w'.output=w.output/\w.heap.size<=w'.heap.size /\
     (∀b,b<w.heap.size->v.ownBlock≠some b->w'.heap[b]?=w.heap[b]?)/\(∀g i,v.ownBlock=some g->i<n*s->w'.cell? ⟨g,i,none⟩=w.cell? ⟨g,i,none⟩)/\∀g,v'.ownBlock=some g->w.heap.size<=g\/v.ownBlock=some g:=by
 obtain⟨i,hi,hz,h2,h3⟩:=info_parts hT.i;have hs0:=hT.s;have hmx:m<=9223372036854775807:=by simp only[maxLen]at h63;omega
 have hw:aS.wrap (m:Int)=m:=IntWalk.i64_in _ ⟨by omega,by omega⟩;have hneg:¬ ((m:Int)<0):=by omega
 have hmb:m*bytes<=(n+m)*bytes:=kK _ (Nat.le_add_left _ _);have hby:¬ (281474976710656<(m:Int)*(i.bytes:Int)):=by
  rw[h3];have:((m*bytes:Nat):Int)<=281474976710656:=by omega
  rw[aX2]at this;omega
 have hzc:(Builtin.zeroCells z.cells m).toList=(dA m z.cells.toList).flatten:=by
  have:=Rm hT.z hT.s m;rw[<-hT.z]at this;exact this
 have hzl:(Builtin.zeroCells z.cells m).size=m*s:=by rw[size_zeroCells,hT.z]
 generalize hnews:(dA m z.cells.toList).flatten=news at *
 have hnl:news.length=m*s:=by rw[<-hzc,nK,hzl]
 have hza:Builtin.zeroCells z.cells m=news.toArray:=by rw[<-hzc]
 have hlen:(xs++news).length=(n+m)*s:=by rw[bF,hown.1,hnl,iH]
 rcases hown.2 with⟨rfl,rfl⟩|⟨g,cap,cur,rfl,_,hg,hnc,hcm,hcs,htake⟩
 .have hx:xs=[]:=Fy (by simpa using hown.1)
  subst hx;obtain⟨v',w',hr,r1,hA,hbk⟩:=aBA (ty:=ty) hT ht' (n:=m) (by omega) (by omega) w;refine⟨v',w',hr,?_,hA.os,hA.tape,hA.output,hA.size,λb hb _=>hA.block b hb,(λg i hg _=>by cases hg),λg hg=>.inl (hbk g (by rw[iB r1];exact hg))⟩;rw[cY,fK,<-hnews];exact r1
 .by_cases hm:m=0
  .subst hm
   have:news=[]:=Fy (by simpa using hnl);subst this;refine⟨_,w,?_,by simpa using hown,rfl,rfl,rfl,bX _,λ_ _ _=>rfl,λ_ _ _ _=>rfl,λg hg=>.inr hg⟩;simp[Builtin.append_,run_underlying hT.u,run_underlying ht',sizeOf,typeInfo,hi,Go.asInt,asIntOf,(show aS.wrap 0=0 by decide),hnc,storeCells]
  .have hnz:¬ (m*i.size=0):=by rw[h2];exact Nat.ne_of_gt (Nat.mul_pos (by omega) hs0)
   by_cases hroom:n+m<=cap
   .have hfit:n*i.size+news.length<=cur.size:=by rw[hnl,hcs,h2,<-iH];exact kK _ hroom
    have hst:=run_storeCells_at P g (n*i.size) e news 0 cur w hg (by simpa using hfit) h1;simp only[hZ]at hst;have hr:(Builtin.append_ #[t,t'] ty #[.slice (some ⟨g,0,none⟩) n cap,.int .i64 m]).run P w = .ok (.slice (some ⟨g,0,none⟩) (n+m) cap) (w.setRow g (cur.toList.take (n*i.size)++news++cur.toList.drop (n*i.size+news.length)).toArray):=by
     simp[Builtin.append_,run_underlying hT.u,run_underlying ht',sizeOf,typeInfo,zeroValue,hi,hz,Go.asInt,asIntOf,hw,hneg,hby,hroom,hza,Addr.add_lit,hst];exact λh=>absurd h hnz
    have r2:(w.setRow g (cur.toList.take (n*i.size)++news++cur.toList.drop (n*i.size+news.length)).toArray).ownsRow 0 e s (.slice (some ⟨g,0,none⟩) (n+m) cap) (n+m) (xs++news):=by
     refine⟨hlen,.inr ⟨g,cap,_,rfl,dC _,setRow_heap w g cur _ e _ hg,hroom,hcm,?_,?_⟩⟩
     .simp only[aDs,bF,fL,jM,nK]
      rw[hnl,hcs,h2];have:(n+m)*s<=cap*s:=kK _ hroom;rw[iH]at this;omega
     .rw[h2,htake,<-hlen]
      exact aDo
    refine⟨_,_,hr,r2,rfl,rfl,rfl,by simp,λb _ hb=>setRow_other w g b _ (λe=>hb (by simp[Value.ownBlock,e])),λg' j hg' hj=>?_,λg' hg'=>.inr hg'⟩;have e1:g'=g:=by simpa[Value.ownBlock]using hg'.symm
    subst e1;have hx:xs[j]?=some (xs[j]'(by rw[hown.1];exact hj)):=bM _;have c1:=hown.cells (g:=g') rfl j _ hx;have c2:=r2.cells (g:=g') rfl j _ (by rw[cZ (by rw[hown.1];exact hj)];exact hx);rw[Addr.add_mid,cY]at c1 c2;rw[c1,c2]
   .have holds:∀j u,xs[j]?=some u->w.cell? ((⟨g,0,none⟩:Addr).add j)=some u:=hown.cells (g:=g) rfl
    have hfo:=run_firstCells_some (P:=P) w.drew i.size n ⟨g,0,none⟩ n cap xs (by rw[h2];exact hown.1) (by simpa using holds);have h48':¬ (281474976710656<Builtin.nextslicecap (n+m) cap*i.bytes):=by
     have:=growslice_fits (need:=n+m) (old:=cap) (bytes:=bytes) (by omega) hbytes;rw[h3];omega
    have h63':¬ (9223372036854775807<((n:Int)+(m:Int))):=by simp only[maxLen]at h63;omega
    have hr:(Builtin.append_ #[t,t'] ty #[.slice (some ⟨g,0,none⟩) n cap,.int .i64 m]).run P w =
        .ok (.slice (some ⟨w.heap.size,0,none⟩) (n+m) (grownCap w (n+m) cap e)) (w.drew.alloc (.cells ((xs++news).toArray++Builtin.zeroCells z.cells (grownCap w (n+m) cap e-(n+m))) e)):=by
     simp[Builtin.append_,run_underlying hT.u,run_underlying ht',sizeOf,typeInfo,zeroValue,hi,hz,Go.asInt,asIntOf,hw,hneg,hby,hroom,h63',h48',Question.forced,hza,hfo,newRow,grownCap];rw[aC hnz]
     congr 3
     apply tY;simp
    have hge:=grownCap_ge w (n+m) cap e;have hcm':grownCap w (n+m) cap e<=maxLen:=grownCap_le_maxLen w (n+m) cap e h63;refine⟨_,_,hr,⟨hlen,.inr ⟨w.heap.size,_,_,rfl,dC _,heap_alloc_new w.drew _,hge,hcm',?_,?_⟩⟩,rfl,rfl,rfl,by simp,λb hb _=>heap_alloc_old w.drew _ hb,λg' j hg' hj=>?_,λg' hg'=>?_⟩
    .simp only[aXb,aDs,size_zeroCells,hT.z,hlen,<-iH]
     congr 1
     omega
    .simp only[aXa]
     rw[<-hlen];exact aDo
    .have e1:g'=g:=by simpa[Value.ownBlock]using hg'.symm
     subst e1;exact World.cell?_of_block (a:=⟨g',j,none⟩) (heap_alloc_old w.drew _ (hown.lt g' rfl).2)
    .simp only[Value.ownBlock,Option.some.injEq]at hg'
     exact .inl (by omega)
theorem aQj{P:Program}{t u ty e:TypeId}{i:TypeInfo}(ht:P.underlying t=some (.slice e))(hu:P.underlying u=some .string)(hi:P.info? e=some i)(hz:i.zero=some (.int .u8 0))(hsize:i.size=1)(hby:i.bytes=1)
    {w:World} {v:Value} {n:Nat} {xs:List Value} (hown:w.ownsRow 0 e 1 v n xs) (s:ByteArray) (h63:n+s.size<=maxLen) (hbytes:n+s.size<=140737488355328):
    ∃v' w',(Builtin.append_ #[t,u] ty #[v,.string s]).run P w = .ok v' w'/\w'.ownsRow 0 e 1 v' (n+s.size) (xs++Lib.strCells s)/\w'.os=w.os/\w'.tape=w.tape/\w'.output=w.output/\w.heap.size<=w'.heap.size /\
     (∀b,b<w.heap.size->v.ownBlock≠some b->w'.heap[b]?=w.heap[b]?)/\(∀g i,v.ownBlock=some g->i<n*1->w'.cell? ⟨g,i,none⟩=w.cell? ⟨g,i,none⟩)/\∀g,v'.ownBlock=some g->w.heap.size<=g\/v.ownBlock=some g:=by
 obtain⟨v',w',hr,r2,r3,r4⟩:=Lib.run_append_own_string (P:=P) w 0 t u ty e i ht hu hi hz hsize hby v n xs hown s h63 hbytes (dC _);have hxl:xs.length=n:=by simpa using hown.1
 have key:(v'.ownBlock=v.ownBlock/\(s.size=0\/v'.ownBlock≠none))\/(v'.ownBlock=some w.heap.size/\∀b,b<w.heap.size->w'.heap[b]?=w.heap[b]?):=by
  rcases hown.2 with⟨rfl,rfl⟩|⟨g,cap,cur,rfl,_,hg,hnc,hcm,hcs,htake⟩
  .by_cases hm:s.size=0
   .left
    rw[r4.2 ⟨rfl,hm⟩];exact⟨rfl,.inl hm⟩
   .right
    have hr':=run_append_nil_string (P:=P) w t u ty e i (.int .u8 0) ht hu hi hz s (by omega) (by simp only[maxLen]at h63;omega) (by rw[hby];omega);rw[hr']at hr;cases hr;exact⟨rfl,λb hb=>heap_alloc_old _ _ hb⟩
  .by_cases hroom:n+s.size<=cap
   .left
    have hcs':cur.size=cap:=by simpa using hcs
    have hr':=Lib.run_append_room_string (P:=P) w t u ty e i ht hu hi hsize g n cap cur hg s hroom (by omega);rw[hr']at hr;cases hr;exact⟨rfl,.inr (by simp[Value.ownBlock])⟩
   .right
    have holds:∀j u,xs[j]?=some u->w.cell? ((⟨g,0,none⟩:Addr).add j)=some u:=hown.cells (g:=g) rfl
    have hr':=Lib.run_append_grow_string (P:=P) w t u ty e i (.int .u8 0) ht hu hi hz ⟨g,0,none⟩ n cap xs (by rw[hsize];simpa using hxl) holds s (by omega) (by simp only[maxLen]at h63;omega) (by rw[hby];exact growslice_fits (by omega) (by omega));rw[hr']at hr;cases hr;exact⟨rfl,λb hb=>heap_alloc_old _ _ hb⟩
 refine⟨v',w',hr,r2,r3.os,r3.tape,r3.output,r3.size,λb hb hne=>r3.block b hb (λe=>hne e.symm),λg j hg hj=>?_,λg hg=>?_⟩
 .have hgl:g<w.heap.size:=(hown.lt g hg).2
  rcases key with⟨k1,_⟩|⟨_,k2⟩
  .have hx:xs[j]?=some (xs[j]'(by rw[hown.1];exact hj)):=bM _
   have c1:=hown.cells hg j _ hx;have c2:=r2.cells (g:=g) (by rw[k1];exact hg) j _ (by rw[cZ (by rw[hown.1];exact hj)];exact hx);rw[Addr.add_mid,cY]at c1 c2;rw[c1,c2]
  .exact World.cell?_of_block (a:=⟨g,j,none⟩) (k2 g hgl)
 .rcases key with⟨k1,_⟩|⟨k1,_⟩
  .exact .inr (by rw[<-k1];exact hg)
  .rw[k1]at hg;cases hg;exact .inl (bX _)
theorem aDW{P:Program}{e:TypeId}(h:Lu P e=true):∃i,P.info? e=some i/\i.zero=some (.int .u8 0)/\i.size=1/\i.bytes=1:=by
 unfold Lu at h;split at h
 .rename_i i hi
  split at h
  .rename_i hz
   rw[bA]at h;exact⟨i,hi,hz,bH h.1,bH h.2⟩
  .cases h
 .cases h
theorem aS0{P:Program}{o:Oper}{σ:St}{fr:Nat}{t t' e:TypeId}{z:Value}{size bytes:Nat}(st:Bool){s x:Operand}{k n m:Nat}{ts zt:List Tree}(hT:kA P t e z size bytes)(hz:iG z.cells.toList zt)(ht':P.underlying t'=some (.int .i64))(ho:o.op = .call { callee:=.builtin .append,args:=#[s,x],argTypes:=#[t,t'] })
    (hs:σ.ev s=some (.own k)) (hk:σ.H k=some (.row e size n ts st)) (hx:σ.ev x=some (I m)) (hb:(n+m)*bytes<=140737488355328/\n+m<=maxLen):aU P o σ fr (.own fr) (gE (some k) fr (.row e size (n+m) (ts++(dA m zt).flatten) st)):=by
 intro E σ₁ a w hTT hHH h100 hf hd ⟨ν,G,I⟩ Q;have hxv:=bY (I.ev (St.cP hTT hx));have hzr:=(hz.El m).rel w G;have hone:∀u∈(dA m z.cells.toList).flatten,u.oneCell'=true:=λu hu=>by
  obtain⟨i,hi⟩:=gK.1 hu;have hlt:i<((dA m zt).flatten).length:=by rw[<-hzr.1];exact(bP.1 hi).1
  exact(hzr.2 i u _ hi (bM hlt)).one
 have hrow:∃v xs,a.eval s=v/\w.ownsRow 0 e size v n xs/\xs.length=ts.length/\(∀(i:Nat)(u:Value)(t:Tree),xs[i]?=some u->ts[i]?=some t->TR w G u t)/\(∀k',some k'=some k->ν k'=v/\∃ob,σ₁.H k'=some ob)/\(some k=none->v.ownBlock=none) /\
     (∀g,v.ownBlock=some g->E.may g/\G g=if st then n*size else 0):=by
  have hv:=I.ev (St.cP hTT hs);obtain⟨v,he⟩:∃v,a.eval s=v:=⟨_,rfl⟩
  rw[he]at hv;cases hv with
  |own _ _=>
    obtain⟨xs,r1,r2,r3,r4⟩:=(I.H _ _ (hHH _ _ hk)).2;exact⟨_,xs,he,r1,r2,r3,(λk' hk'=>by cases hk';exact⟨rfl,_,hHH _ _ hk⟩),(λe=>by cases e),λg hg=>r4 g (TG hg)⟩
 obtain⟨v,xs,hsv,hown,hxl,hxt,hk0,hk0n,hmay⟩:=hrow;obtain⟨v',w',hr,r2,q1,q2,q3,q4,q5,q6,q7⟩:=aQi (ty:=o.type) hT ht' hown (m:=m) hone hb.2 hb.1;generalize hus:(dA m z.cells.toList).flatten=us at *
 generalize hys:(dA m zt).flatten=ys at *
 have hul:=hzr.1;have htr:=hzr.2;have hk0o:∃k0,k0=some k:=⟨_,rfl⟩
 obtain⟨k0,hk0e⟩:=hk0o;rw[<-hk0e]at hk0 hk0n ⊢;unfold Oper.wp;have he:(execOp a.eval o).run P w = .ok (.value v') w':=by
  unfold execOp;rw[ho];simp[resolve,invoke,builtin,hsv,hxv,hr]
 rw[he,Oper.upon_value];have hcell:∀b i u,Cell w G b i u->Cell w' (λb=>if v'.ownBlock=some b then(if st then(n+m)*size else 0)else G b) b i u:=λb i u h=>by
  by_cases hb':v.ownBlock=some b
  .have hG:=(hmay b hb').2
   have h2:=h.2;rw[hG]at h2;cases st with
   |false=>simp at h2
   |true=>
     simp only[fH]at h2 hG;refine⟨(q6 b i hb' h2).trans h.1,?_⟩;show i<if v'.ownBlock=some b then(if true=true then(n+m)*size else 0)else G b
     split
     .simp only[fH]
      exact kL h2 (kK _ (Te _ _))
     .rw[hG];exact h2
  .refine⟨(World.cell?_of_block (a:=⟨b,i,none⟩) (q5 b h.lt hb')).trans h.1,?_⟩
   have:v'.ownBlock≠some b:=λe=>by
    rcases q7 b e with h'|h'
    .have:=h.lt;omega
    .exact hb' h'
   simp only[aC this];exact h.2
 have hblkv:∀g,aQ v'=some g->v'.ownBlock=some g:=λg hg=>by rw[<-iB r2];exact hg
 refine⟨put_defers ..,bU ν fr v',_,I.new h100 hf hd k0 (o:=.row e size (n+m) (ts++ys) st) (λk=>?_) q1 q2 q3 q4 (λb hb hnk=>?_) hcell (λk hk=>(hk0 k hk).2) (x:=v') (λg hg=>?_) ?_ ?_⟩
 .cases k0 with
  |none=>
    by_cases h:k=fr
    .subst h;simp[gE,Ab.look]
    .simp[gE,Ab.look,h,dW h]
  |some j=>
    by_cases h:k=fr
    .subst h;simp[gE,Ab.look]
    .by_cases h':k=j
     .subst h';simp[gE,Ab.look,h,dW h]
     .simp[gE,Ab.look,h,dW h,h',dW h']
 .have hne:v.ownBlock≠some b:=λe=>by
   cases k0 with
   |none=>rw[hk0n rfl]at e;cases e
   |some j=>exact hnk j rfl (by rw[(hk0 j rfl).1,iB hown];exact e)
  refine⟨q5 b hb hne,aC (λe=>?_)⟩;rcases q7 b e with h|h
  .omega
  .exact hne h
 .rcases q7 g (hblkv g hg)with h|h
  .exact .inl h
  .cases k0 with
   |none=>rw[hk0n rfl]at h;cases h
   |some j=>exact .inr ⟨j,rfl,by rw[(hk0 j rfl).1,iB hown];exact h⟩
 .refine⟨xs++us,by rw[bT];exact r2,by simp[hxl,hul],λi u t hu ht=>?_,λg hg=>?_⟩
  .by_cases hi:i<xs.length
   .rw[cZ hi]at hu
    rw[cZ (by omega)]at ht;exact(hxt i u t hu ht).mono hcell
   .rw[eE (by omega)]at hu
    rw[eE (by omega)]at ht;exact(htr _ u t hu (by rw[hxl];exact ht)).mono hcell
  .rw[bT]at hg
   have hg':=hblkv g hg;refine⟨?_,aE hg'⟩;rcases q7 g hg' with h|h
   .exact .inl (iR I.kept.size h)
   .exact(hmay g h).1
 .have:DR (bU ν fr v') (σ₁.aN o.dst .any (gE k0 fr (.row e size (n+m) (ts++ys) st)) fr).nm w' (λb=>if v'.ownBlock=some b then(if st then(n+m)*size else 0)else G b) (bU ν fr v' fr) (.own fr):=.own (jH ..) (by rw[bT];exact kV r2)
  rw[bT]at this;exact this
theorem aS2{P:Program}{o:Oper}{σ:St}{fr:Nat}{t t' e:TypeId}{z:Value}{bytes:Nat}(st:Bool){s x:Operand}{k n:Nat}{ts:List Tree}{tx:List UInt8}(hT:kA P t e z 1 bytes)(hB:Lu P e=true)(ht':P.underlying t'=some .string)(ho:o.op = .call { callee:=.builtin .append,args:=#[s,x],argTypes:=#[t,t'] })
    (hs:σ.ev s=some (.own k)) (hk:σ.H k=some (.row e 1 n ts st)) (hx:σ.ev x=some (.t (.v (.string ⟨⟨tx⟩⟩)))) (hb:n+tx.length<=140737488355327):aU P o σ fr (.own fr) (gE (some k) fr (.row e 1 (n+tx.length) (ts++tx.map λb=>Tree.v (.int .u8 b.toNat)) st)):=by
 intro E σ₁ a w hTT hHH h100 hf hd ⟨ν,G,I⟩ Q;have hxv:=bY (I.ev (St.cP hTT hx));obtain⟨i,hi,hiz,his,hib⟩:=aDW hB;have hst:P.underlying t=some (.slice e):=hT.u;have hrow:∃v xs,a.eval s=v/\w.ownsRow 0 e 1 v n xs/\xs.length=ts.length/\(∀(i:Nat)(u:Value)(t:Tree),xs[i]?=some u->ts[i]?=some t->TR w G u t)/\(∀k',some k'=some k->ν k'=v/\∃ob,σ₁.H k'=some ob)/\(some k=none->v.ownBlock=none) /\
     (∀g,v.ownBlock=some g->E.may g/\G g=if st then n*1 else 0):=by
  have hv:=I.ev (St.cP hTT hs);obtain⟨v,he⟩:∃v,a.eval s=v:=⟨_,rfl⟩
  rw[he]at hv;cases hv with
  |own _ _=>
    obtain⟨xs,r1,r2,r3,r4⟩:=(I.H _ _ (hHH _ _ hk)).2;exact⟨_,xs,he,r1,r2,r3,(λk' hk'=>by cases hk';exact⟨rfl,_,hHH _ _ hk⟩),(λe=>by cases e),λg hg=>r4 g (TG hg)⟩
 obtain⟨v,xs,hsv,hown,hxl,hxt,hk0,hk0n,hmay⟩:=hrow;obtain⟨v',w',hr,r2,q1,q2,q3,q4,q5,q6,q7⟩:=aQj (ty:=o.type) hst ht' hi hiz his hib hown ⟨⟨tx⟩⟩ (by show n+tx.length<=maxLen;simp only[maxLen];omega) (by show n+tx.length<=_;omega);have hsz:(⟨⟨tx⟩⟩:ByteArray).size=tx.length:=rfl;rw[hsz]at r2;obtain⟨m,hm⟩:∃m,tx.length=m:=⟨_,rfl⟩
 have hul:(Lib.strCells ⟨⟨tx⟩⟩).length=(tx.map λb=>Tree.v (.int .u8 b.toNat)).length:=by simp[Lib.strCells]
 have htr:∀(i:Nat)(u:Value)(t:Tree),(Lib.strCells ⟨⟨tx⟩⟩)[i]?=some u->(tx.map λb=>Tree.v (.int .u8 b.toNat))[i]?=some t->TR w G u t:=λi u t hu ht=>by
  simp only[Lib.strCells,cD]at hu ht;cases hb':tx[i]? with
  |none=>rw[hb']at ht;cases ht
  |some b=>rw[hb']at hu ht;cases hu;cases ht;exact .v _ rfl
 rw[hm]at r2 ⊢;generalize hus:Lib.strCells ⟨⟨tx⟩⟩=us at *
 generalize hys:(tx.map λb=>Tree.v (.int .u8 b.toNat))=ys at *
 have hk0o:∃k0,k0=some k:=⟨_,rfl⟩
 obtain⟨k0,hk0e⟩:=hk0o;rw[<-hk0e]at hk0 hk0n ⊢;unfold Oper.wp;have he:(execOp a.eval o).run P w = .ok (.value v') w':=by
  unfold execOp;rw[ho];simp[resolve,invoke,builtin,hsv,hxv,hr]
 rw[he,Oper.upon_value];have hcell:∀b i u,Cell w G b i u->Cell w' (λb=>if v'.ownBlock=some b then(if st then(n+m)*1 else 0)else G b) b i u:=λb i u h=>by
  by_cases hb':v.ownBlock=some b
  .have hG:=(hmay b hb').2
   have h2:=h.2;rw[hG]at h2;cases st with
   |false=>simp at h2
   |true=>
     simp only[fH]at h2 hG;refine⟨(q6 b i hb' h2).trans h.1,?_⟩;show i<if v'.ownBlock=some b then(if true=true then(n+m)*1 else 0)else G b
     split
     .simp only[fH]
      exact kL h2 (kK _ (Te _ _))
     .rw[hG];exact h2
  .refine⟨(World.cell?_of_block (a:=⟨b,i,none⟩) (q5 b h.lt hb')).trans h.1,?_⟩
   have:v'.ownBlock≠some b:=λe=>by
    rcases q7 b e with h'|h'
    .have:=h.lt;omega
    .exact hb' h'
   simp only[aC this];exact h.2
 have hblkv:∀g,aQ v'=some g->v'.ownBlock=some g:=λg hg=>by rw[<-iB r2];exact hg
 refine⟨put_defers ..,bU ν fr v',_,I.new h100 hf hd k0 (o:=.row e 1 (n+m) (ts++ys) st) (λk=>?_) q1 q2 q3 q4 (λb hb hnk=>?_) hcell (λk hk=>(hk0 k hk).2) (x:=v') (λg hg=>?_) ?_ ?_⟩
 .cases k0 with
  |none=>
    by_cases h:k=fr
    .subst h;simp[gE,Ab.look]
    .simp[gE,Ab.look,h,dW h]
  |some j=>
    by_cases h:k=fr
    .subst h;simp[gE,Ab.look]
    .by_cases h':k=j
     .subst h';simp[gE,Ab.look,h,dW h]
     .simp[gE,Ab.look,h,dW h,h',dW h']
 .have hne:v.ownBlock≠some b:=λe=>by
   cases k0 with
   |none=>rw[hk0n rfl]at e;cases e
   |some j=>exact hnk j rfl (by rw[(hk0 j rfl).1,iB hown];exact e)
  refine⟨q5 b hb hne,aC (λe=>?_)⟩;rcases q7 b e with h|h
  .omega
  .exact hne h
 .rcases q7 g (hblkv g hg)with h|h
  .exact .inl h
  .cases k0 with
   |none=>rw[hk0n rfl]at h;cases h
   |some j=>exact .inr ⟨j,rfl,by rw[(hk0 j rfl).1,iB hown];exact h⟩
 .refine⟨xs++us,by rw[bT];exact r2,by simp[hxl,hul],λi u t hu ht=>?_,λg hg=>?_⟩
  .by_cases hi:i<xs.length
   .rw[cZ hi]at hu
    rw[cZ (by omega)]at ht;exact(hxt i u t hu ht).mono hcell
   .rw[eE (by omega)]at hu
    rw[eE (by omega)]at ht;exact(htr _ u t hu (by rw[hxl];exact ht)).mono hcell
  .rw[bT]at hg
   have hg':=hblkv g hg;refine⟨?_,aE hg'⟩;rcases q7 g hg' with h|h
   .exact .inl (iR I.kept.size h)
   .exact(hmay g h).1
 .have:DR (bU ν fr v') (σ₁.aN o.dst .any (gE k0 fr (.row e 1 (n+m) (ts++ys) st)) fr).nm w' (λb=>if v'.ownBlock=some b then(if st then(n+m)*1 else 0)else G b) (bU ν fr v' fr) (.own fr):=.own (jH ..) (by rw[bT];exact kV r2)
  rw[bT]at this;exact this
section
variable{c:Cx}{σ:Vw}{κ:Nat->Bool}{fr:Nat}{o:Oper}{k:X->Wx->O}{r:aH}
theorem Q2:∀l:List UInt8,bZ (aI .u8) l=l.map λb=>Tree.v (.int .u8 b.toNat)
 |[]=>rfl
 |b::l=>aO (λts=>Tree.v (.int .u8 b.toNat)::ts) (Q2 l)
theorem aU2(e:TypeId)(l s:List UInt8)(st:Bool):(XO.row e .u8 (l++s) st).A = .row e 1 (dX l+dX s) (bZ (aI .u8) l++s.map λb=>Tree.v (.int .u8 b.toNat)) st:=by
 have e1:(XO.row e .u8 (l++s) st).A = .row e 1 (dX (l++s)) (bZ (aI .u8) (l++s:List UInt8)) st:=rfl;rw[e1,Q2 (l++s),Q2 l,bF,l7]
theorem aVD(hσ:σ.Ok κ){t t':TypeId}{x y:Operand}{st:Bool}(ho:o.op = .call { callee:=.builtin .append,args:=#[x,y],argTypes:=#[t,t'] })(h:TU c σ fr st t t' x y k=some r):dL c σ fr o k r:=by
 unfold TU at h;obtain⟨⟨e,τ,b⟩,hE,h⟩:=bG h;simp only at h;obtain⟨v,hv,h2⟩:=bG h;clear h;obtain⟨w,hw,h⟩:=bG h2;clear h2;split at h
 .rename_i n ht
  unfold FM at h;obtain⟨h0,h⟩:=fF h;obtain⟨hb,h⟩:=fF h;refine⟨_,_,h,rfl,λhon=>?_⟩;obtain⟨z,hA,hz⟩:=oJ hE;have h0:(0:Int)<=(n:Int):=cH (p:=(0:Int)<=(show Int from n)) h0;unfold b8 at hb;have hb:=cH hb;have hn:((MI n:Nat):Int)=n:=aXZ h0;have hy1:σ.den.ev y=some (I (MI n:Nat)):=by
   rw[hn];exact aY hσ hon hw
  have:=aS1 (P:=c.P) (fr:=fr) st hA hz ht ho (aY hσ hon hv) hy1 ⟨hb.1,by simp only[maxLen];have:=hb.2;omega⟩;have hfl:∀m:Nat,(dA m τ.zero).flatMap (aI τ)=(dA m (aI τ τ.zero)).flatten:=λm=>by
   induction m with
   |zero=>rfl
   |succ m ih=>rw[pU,pU,fS,fR,ih]
  unfold WA;simp only[gL,Cm,jE,XO.A,Fw,hfl];exact this
 .rename_i q n ht
  split at h
  .rename_i e' τ' l st' hq
   generalize eS τ' τ=p at h;cases p with
   |none=>cases h
   |some g=>
     obtain⟨g⟩:=g;subst g;simp only at h;split at h
     .rename_i hb
      have hb:=bH hb;subst hb;have h:SO τ' e' fr b q st' l n k=some r:=h;unfold SO at h;obtain⟨h0,h⟩:=fF h;obtain⟨hb,h⟩:=fF h;refine⟨_,_,h,rfl,λhon=>?_⟩;obtain⟨z,hA,hz⟩:=oJ hE;have h0:(0:Int)<=(n:Int):=cH (p:=(0:Int)<=(show Int from n)) h0;unfold b8 at hb;have hb:=cH hb;have hn:((MI n:Nat):Int)=n:=aXZ h0;have hy1:σ.den.ev y=some (I (MI n:Nat)):=by
       rw[hn];exact aY hσ hon hw
      have:=aS0 (P:=c.P) (fr:=fr) st' hA hz ht ho (k:=q) (n:=dX l) (m:=MI n) (ts:=bZ (aI τ') l) (aY hσ hon hv) (by rw[dG hq];rfl) hy1 ⟨hb.1,by simp only[maxLen];have:=hb.2;omega⟩;have hfl:∀m:Nat,(dA m τ'.zero).flatMap (aI τ')=(dA m (aI τ' τ'.zero)).flatten:=λm=>by
       induction m with
       |zero=>rfl
       |succ m ih=>rw[pU,pU,fS,fR,ih]
      unfold WA;simp only[gL,Cm,jE,oK,XO.A];rw[bF,Fw,Ad,hfl];exact this
     .cases h
  .cases h
 .rename_i q s ht
  split at h
  .rename_i e' l st' hq
   split at h
   .rename_i hb
    rw[bA]at hb;have hbe:=bH hb.1;subst hbe;have h:SP e' fr q st' l s k=some r:=h;unfold SP at h;obtain⟨hl,h⟩:=fF h;refine⟨_,_,h,rfl,λhon=>?_⟩;obtain⟨z,hA,hz⟩:=oJ hE;unfold b8 at hl;have hl:=(cH hl).2;have hA1:kA c.P t e' z 1 b:=by
     obtain⟨i,hi,_,his,_⟩:=aDW hb.2;have hs:τ.size=1:=by
      have:=hA.i;rw[hi]at this;have h2:=aO (λp=>p.2.1) (eX this);simp only at h2;omega
     rw[<-hs];exact hA
    have:=aS2 (P:=c.P) (fr:=fr) st' hA1 hb.2 ht ho (k:=q) (n:=dX l) (ts:=bZ (aI .u8) l) (tx:=s) (aY hσ hon hv) (by rw[dG hq];rfl) (aY hσ hon hw) hl;unfold WA;simp only[gL,Cm,jE,oK];rw[aU2 e' l s st'];exact this
   .cases h
  .cases h
 .cases h
end
section
variable{c:Cx}{σ:Vw}{κ:Nat->Bool}{fr:Nat}{o:Oper}{k:X->Wx->O}{r:aH}
theorem Qv{P:Program}{t:TypeId}{ms:_}(hu:P.underlying t=some (.interface ms))(w:World):(Op.equal t .nilIface .nilIface).run P w = .ok true w:=by
 obtain⟨d,hd⟩:∃d,Op.maxDepth=d+1:=⟨9999,rfl⟩
 unfold Op.equal;rw[hd];simp[Op.equalIn,run_underlying hu]
theorem aQg{P:Program}{t te:TypeId}{pe:Value}{ms:_}(hu:P.underlying t=some (.interface ms))(w:World):(Op.equal t (.iface te pe) .nilIface).run P w = .ok false w:=by
 obtain⟨d,hd⟩:∃d,Op.maxDepth=d+1:=⟨9999,rfl⟩
 unfold Op.equal;rw[hd];simp[Op.equalIn,run_underlying hu]
theorem aB4{P:Program}{s:St}{fr:Nat}{o:Oper}{op:BinOp}{xt yt:TypeId}{x:Operand}{cv:Value}{q j:Nat}{ms:_}{b:Bool}(hu:P.underlying xt=some (.interface ms))(ho:o.op = .binOp op xt x (.const cv) yt)(hx:s.ev x=some (.via q (qH (j+2))))(hy:s.ev (.const cv)=some (.t (.v .nilIface)))(hop:(op = .eql/\b=decide (j=1))\/(op = .neq/\b=decide (j≠1))):aU P o s fr (.t (.v (.bool b))) []:=
 c7 λ_ _ _ _ w a _ _ hev=>by
  have h2:=bY (hev (.const cv) _ hy);refine⟨.bool b,?_,.t (.v _ rfl)⟩;have hv:(j=1/\a.eval x = .nilIface)\/(j≠1/\∃te pe,a.eval x = .iface te pe):=by
   have:=hev x _ hx;generalize a.eval x=v at this ⊢;cases this with|via hk h h1=>exact h
  have:=Qv hu w;have g:∀(te:TypeId)(pe:Value),eqGuard op xt x (.const cv) (.iface te pe) .nilIface=pure ():=λte pe=>by cases op <;> rfl
  unfold execOp;rw[ho];simp only[h2];rcases hv with⟨hj,hv⟩|⟨hj,te,pe,hv⟩
  .rw[hv,eqGuard_nil_constR]
   rcases hop with⟨rfl,rfl⟩|⟨rfl,rfl⟩ <;> simp[binOp,this,hj]
  .rw[hv,g]
   have:=aQg (te:=te) (pe:=pe) hu w;rcases hop with⟨rfl,rfl⟩|⟨rfl,rfl⟩ <;> simp[binOp,this,hj]
theorem aUe(hσ:σ.Ok κ){op:BinOp}{xt yt:TypeId}{x y:Operand}{v w:X}{b:Bool}(ho:o.op = .binOp op xt x y yt)(hx:σ.ev x=some v)(hy:σ.ev y=some w)(hn:R7 c.P xt op v w y=some b)(h:k (.e .bo b) []=some r):dL c σ fr o k r:=by
 unfold R7 at hn;split at hn
 .split at hn
  .rename_i cv ms hu
   split at hn
   .cases hn
    refine⟨_,_,h,rfl,λhon=>iY (vr:=.bool true) ho (aY hσ hon hx) (aY hσ hon hy) (λw=>?_) rfl⟩;rw[eqGuard_nil_constR];have:=Qv hu w;simp[binOp,this]
   .cases hn
    refine⟨_,_,h,rfl,λhon=>iY (vr:=.bool false) ho (aY hσ hon hx) (aY hσ hon hy) (λw=>?_) rfl⟩;rw[eqGuard_nil_constR];have:=Qv hu w;simp[binOp,this]
   .cases hn
  .cases hn
 .split at hn
  .rename_i cv ms hu
   split at hn
   .cases hn
    exact⟨_,_,h,rfl,λhon=>aB4 hu ho (aY hσ hon hx) (aY hσ hon hy) (.inl ⟨rfl,rfl⟩)⟩
   .cases hn
    exact⟨_,_,h,rfl,λhon=>aB4 hu ho (aY hσ hon hx) (aY hσ hon hy) (.inr ⟨rfl,rfl⟩)⟩
   .cases hn
  .cases hn
 .cases hn
end
def Ck(P:Program)(t:TypeId)(vs:List Value)(v:Value):Prop:=∃dsc,P.underlying t=some dsc/\if dsc.isRow=true then v = .agg vs.toArray else vs=[v]
theorem aAx{P:Program}{t:TypeId}{s off:Nat}{vs:List Value}{dsc:TypeDesc}(hu:P.underlying t=some dsc)(hs:fN P t=some s)(h1:dsc.isRow=false->s=1)(hl:((vs.drop off).take s).length=s)(w:World):∃v,(part t vs.toArray off).run P w = .ok v w/\Ck P t ((vs.drop off).take s) v:=by
 obtain⟨inf,hinf,hsz⟩:=b9.1 hs;cases hr:dsc.isRow with
 |true=>
   refine⟨.agg ((vs.drop off).take s).toArray,?_,dsc,hu,by rw[aE hr]⟩;have hagg:(isAgg t).run P w = .ok true w:=by
    unfold isAgg;rw[Sem.run_bind,run_underlying hu w];cases dsc <;> simp_all [TypeDesc.isRow]
   simp[part,hagg,sizeOf,typeInfo,hinf,hsz]
 |false=>
   have h1:=h1 hr;subst h1;have hlt:off<vs.length:=by rw[fL,jM]at hl;omega
   have hagg:(isAgg t).run P w = .ok false w:=by
    unfold isAgg;rw[Sem.run_bind,run_underlying hu w];cases dsc <;> simp_all [TypeDesc.isRow]
   refine⟨vs[off],?_,dsc,hu,?_⟩
   .simp[part,hagg,hlt]
   .rw[hr]
    simp only[Aj,if_false];rw[List.drop_eq_getElem_cons hlt,List.take_succ_cons,Fu]
def pY(xs:List X)(vs:List Value):Prop:=xs.length=vs.length/\∀(i:Nat)(x:X)(v:Value)(b:Value),xs[i]?=some x->vs[i]?=some v->x.D = .t (.v b)->v=b
theorem pY.chunk{xs:List X}{vs:List Value}(h:pY xs vs)(off s:Nat):pY ((xs.drop off).take s) ((vs.drop off).take s):=by
 refine⟨by simp[h.1],λi x v b hx hv hb=>?_⟩;rw[eY]at hx hv;split at hx
 .rename_i hi
  rw[aE hi]at hv;rw[oL]at hx hv;exact h.2 _ x v b hx hv hb
 .cases hx
theorem aV5{P:Program}{n:Nat}{t:TypeId}{xs ys:List X}{r:Bool}(h:mT P n t xs ys=some r):∃dsc,P.underlying t=some dsc/\(dsc.isRow=false->xs.length=1):=by
 cases n with
 |zero=>cases h
 |succ n=>
   unfold mT at h;split at h
   .rename_i hu;refine⟨_,hu,λ_=>?_⟩;split at h <;> first|rfl|cases h
   .rename_i hu;refine⟨_,hu,λ_=>?_⟩;split at h <;> first|rfl|cases h
   .rename_i hu;refine⟨_,hu,λ_=>?_⟩;split at h <;> first|rfl|cases h
   .rename_i hu;exact⟨_,hu,λh=>by cases h⟩
   .rename_i hu;exact⟨_,hu,λh=>by cases h⟩
   .cases h
theorem aDO{P:Program}{n s off:Nat}{t:TypeId}{xs ys:List X}{r:Bool}(hs:fN P t=some s)(h:Cf s off xs ys (mT P n t)=some r){vs us:List Value}(hv:pY xs vs)(hu:pY ys us)
    (ih:∀{xs ys:List X}{r:Bool}{vs us:List Value}{v u:Value},mT P n t xs ys=some r->pY xs vs->pY ys us->Ck P t vs v->Ck P t us u->∀d w,(Op.equalIn (d+n) t v u).run P w = .ok r w) (d:Nat) (w:World):
    ∃v u,(part t vs.toArray off).run P w = .ok v w/\(part t us.toArray off).run P w = .ok u w/\(Op.equalIn (d+n) t v u).run P w = .ok r w:=by
 unfold Cf at h;split at h
 .rename_i hb
  rw[bA]at hb;have hb1:=bH hb.1;have hb2:=bH hb.2;rw[E7,F5]at hb1 hb2;simp only[E7,F5]at h;obtain⟨dsc,hd,h1⟩:=aV5 h;have c1:=hv.chunk off s;have c2:=hu.chunk off s;have hs1:dsc.isRow=false->s=1:=λhr=>by rw[<-hb1];exact h1 hr
  obtain⟨v,e1,v1⟩:=aAx (vs:=vs) hd hs hs1 (by rw[<-c1.1];exact hb1) w;obtain⟨u,e2,u1⟩:=aAx (vs:=us) hd hs hs1 (by rw[<-c2.1];exact hb2) w;exact⟨v,u,e1,e2,ih h c1 c2 v1 u1 d w⟩
 .cases h
theorem aW5(a b:List UInt8):(a == b)=decide (a=b):=by by_cases h:a=b <;> simp[h]
theorem S9{P:Program}:∀(n:Nat)(t:TypeId){xs ys:List X}{r:Bool}{vs us:List Value}{v u:Value},mT P n t xs ys=some r->pY xs vs->pY ys us->Ck P t vs v->Ck P t us u->∀d w,(Op.equalIn (d+n) t v u).run P w = .ok r w
 |0,t,xs,ys,r,vs,us,v,u,h,_,_,_,_=>by cases h
 |n+1,t,xs,ys,r,vs,us,v,u,h,hv,hu,⟨d1,e1,f1⟩,⟨d2,e2,f2⟩=>λd w=>by
   have e12:d1=d2:=eX (e1.symm.trans e2);subst e12;have one:∀{x:X}{vs:List Value}{v b:Value},pY [x] vs->vs=[v]->x.D = .t (.v b)->v=b:=λhc hv hd=>by
    subst hv;exact hc.2 0 _ _ _ rfl rfl hd
   unfold mT at h;rw[show d+(n+1)=(d+n)+1 from rfl];split at h
   .rename_i ki hui
    obtain rfl:=eX (e1.symm.trans hui);simp only[TypeDesc.isRow,Aj,if_false]at f1 f2;split at h
    .rename_i k a k' b
     split at h
     .rename_i hk
      have hk:=cH hk;subst hk;cases h;rw[one hv f1 rfl,one hu f2 rfl,run_equalIn_int w (d+n) t k ki a b hui];rfl
     .cases h
    .rename_i a b
     cases h;rw[one (b:=.int .u8 (gZ a:Int)) hv f1 rfl,one (b:=.int .u8 (gZ b:Int)) hu f2 rfl,run_equalIn_int w (d+n) t .u8 ki _ _ hui]
     congr 1
     have:((gZ a:Int) == (gZ b:Int))=decide ((gZ a:Int)=(gZ b:Int)):=rfl;rw[this];unfold F6;rw[decide_eq_decide];exact⟨λh=>Cl.1 (by exact_mod_cast h),λh=>by rw[h]⟩
    .cases h
   .rename_i hui
    obtain rfl:=eX (e1.symm.trans hui);simp only[TypeDesc.isRow,Aj,if_false]at f1 f2;split at h
    .rename_i a b
     cases h;rw[one hv f1 rfl,one hu f2 rfl,run_equalIn_bool' w (d+n) t a b hui];rfl
    .cases h
   .rename_i hui
    obtain rfl:=eX (e1.symm.trans hui);simp only[TypeDesc.isRow,Aj,if_false]at f1 f2;split at h
    .rename_i a b
     cases h;rw[one (b:=.string ⟨⟨a⟩⟩) hv f1 rfl,one (b:=.string ⟨⟨b⟩⟩) hu f2 rfl,run_equalIn_string w (d+n) t _ _ hui]
     congr 1
     rw[ByteArray.toList_eq,ByteArray.toList_eq];exact aW5 a b
    .cases h
   .rename_i m e hui
    obtain rfl:=eX (e1.symm.trans hui);simp only[TypeDesc.isRow,fH]at f1 f2;subst f1 f2;split at h
    .rename_i s hs
     obtain⟨inf,hinf,hsz⟩:=b9.1 hs;rw[run_equalIn_array w (d+n) _ _ hui hinf];have hcell:P.cellsOf e=s:=by simp[Program.cellsOf,hinf,hsz]
     rw[hcell]
     revert h
     generalize List.range m=is;intro h
     induction is generalizing r with
     |nil=>cases h;simp[Op.eqItems]
     |cons i is ih=>
       have step:∀{r1:Bool},Cf s (i*s) xs ys (mT P n e)=some r1->∀{r2:Bool},(Op.eqItems (d+n) e s vs.toArray us.toArray is).run P w = .ok r2 w->(Op.eqItems (d+n) e s vs.toArray us.toArray (i::is)).run P w = .ok (r1&&r2) w:=λ{r1} h1 {r2} h2=>by
        obtain⟨v,u,p1,p2,p3⟩:=aDO hs h1 hv hu (λh1 h2 h3 h4 h5=>S9 n e h1 h2 h3 h4 h5) d w;simp only[Op.eqItems,Sem.run_bind,p1,p2,p3,Result.andThen_ok];cases r1
        .simp
        .simpa using h2
       cases is with
       |nil=>
         have:=step h (r2:=true) (by simp[Op.eqItems])
         rwa [aX7]at this
       |cons i' is'=>
         unfold Fm at h;split at h
         .rename_i a ha
          split at h
          .rename_i b hb
           cases h;exact step ha (ih b hb)
          .cases h
         .cases h
    .cases h
   .rename_i fs hui
    obtain rfl:=eX (e1.symm.trans hui);simp only[TypeDesc.isRow,fH]at f1 f2;subst f1 f2;split at h
    .cases h
    .rename_i hst
     have hfs:P.fieldsOf t=fs:=by simp[Program.fieldsOf,hui]
     rw[run_equalIn_struct w (d+n) t _ _ (by rw[hfs];exact hui) hst,hfs]
     revert h
     generalize fs.toList=l;intro h
     induction l generalizing r with
     |nil=>cases h;simp[Op.eqFields]
     |cons f l ih=>
       have step : ∀ {r1 : Bool}, (match fN P f.type with | some s => (match f.name == "_" with | true => none | false => Cf s f.offset xs ys (mT P n f.type)) | none => none) = some r1 → ∀ {r2 : Bool}, (Op.eqFields (d + n) vs.toArray us.toArray l).run P w = .ok r2 w → (Op.eqFields (d + n) vs.toArray us.toArray (f :: l)).run P w = .ok (r1 && r2) w := fun {r1} h1 {r2} h2 => by
        split at h1
        .rename_i s hs
         split at h1
         .cases h1
         .rename_i hnm
          have hne : f.name ≠ "_" := by simpa using hnm
          obtain⟨v,u,p1,p2,p3⟩:=aDO hs h1 hv hu (λh1 h2 h3 h4 h5=>S9 n f.type h1 h2 h3 h4 h5) d w;simp only[Op.eqFields,hne,ne_eq,not_false_eq_true,fH,Sem.run_bind,p1,p2,p3,Result.andThen_ok];cases r1
          .simp
          .simpa using h2
        .cases h1
       cases l with
       |nil=>
         have:=step h (r2:=true) (by simp[Op.eqFields])
         rwa [aX7]at this
       |cons f' l'=>
         unfold Fm at h;split at h
         .rename_i a ha
          split at h
          .rename_i b hb
           cases h;exact step ha (ih b hb)
          .cases h
         .cases h
   .cases h
section
variable{c:Cx}{σ:Vw}{κ:Nat->Bool}{fr:Nat}{o:Oper}{k:X->Wx->O}{r:aH}
theorem aDc{ν:Nat->Value}{nm:Nat->Bool}{w:World}{G:bQ}{v:Value}{xs:List X}(h:DR ν nm w G v (X.agg xs).D):∃vs:Array Value,v = .agg vs/\pY xs vs.toList:=by
 unfold X.D at h;rw[fA]at h;cases h with
 | @agg vs _ hl hr h1=>
   refine⟨vs,rfl,by simpa using hl.symm,λi x v b hx hv hb=>?_⟩;have:=hr i v x.D (by simpa using hv) (by rw[cD,hx];rfl);rw[hb]at this;exact bY this
theorem aUs(hσ:σ.Ok κ){op:BinOp}{xt yt:TypeId}{x y:Operand}{v w:X}{b:Bool}(ho:o.op = .binOp op xt x y yt)(hx:σ.ev x=some v)(hy:σ.ev y=some w)(hn:Sa c.P op xt v w=some b)(h:k (.e .bo b) []=some r):dL c σ fr o k r:=by
 refine⟨_,_,h,rfl,λhon=>?_⟩;unfold Sa at hn;split at hn
 case h_2=>cases hn
 split at hn
 case h_2=>cases hn
 rename_i xs _ ys;split at hn
 case h_2=>cases hn
 rename_i hrow hg;refine c7 λE σ₁ ν G w a hH I hev=>⟨.bool b,?_,.t (.v _ rfl)⟩
 obtain⟨vs,hvs,c1⟩:=aDc (hev x _ (aY hσ hon hx));obtain⟨us,hus,c2⟩:=aDc (hev y _ (aY hσ hon hy));obtain⟨dsc,g1,g2⟩:=kT hrow;have hV:∀zs:Array Value,Ck c.P xt zs.toList (.agg zs):=λzs=>⟨dsc,g1,by rw[aE g2]⟩
 have hrun:∀r0,mT c.P 12 xt xs ys=some r0->(Op.equalIn 10000 xt (.agg vs) (.agg us)).run c.P w = .ok r0 w:=λr0 h0=>S9 12 xt h0 c1 c2 (hV vs) (hV us) 9988 w
 have hgd:=run_eqGuard_agg (P:=c.P) w op xt x y vs us hg;unfold execOp;rw[ho];simp only[hvs,hus,Sem.run_bind,hgd,Result.andThen_ok];split at hn
 .rw[run_eql_struct,hrun b hn]
  rfl
 .split at hn
  .rename_i b0 h0
   cases hn;rw[run_neq_struct,hrun b0 h0];rfl
  .cases hn
 .cases hn
end
end Go.Ax
/- A string's iterator; a builder's bytes as a string. -/
namespace Go.Ax
open aA
open Go.RowKit Go.Ab
section
variable{P:Program}{o:Oper}{σ:St}{fr:Nat}
theorem aRf{t:TypeId}{x:Operand}{s:ByteArray}(hu:P.underlying t=some .string)(ho:o.op = .range t x)(hx:σ.ev x=some (.t (.v (.string s)))):aU P o σ fr (.own fr) [(fr,some (.it s 0))]:=by
 intro E σ₁ a w hT hH h100 hf hd ⟨ν,G,I⟩ Q;have hvx:=bY (I.ev (St.cP hT hx));unfold Oper.wp;have hr:(execOp a.eval o).run P w = .ok (.value (.pointer (some ⟨w.heap.size,0,none⟩))) (w.alloc (.stringIter s 0)):=by
  unfold execOp;rw[ho];simp[hvx,run_range_string w t s hu,World.iter]
 rw[hr,Oper.upon_value];have hA:bB w (w.alloc (.stringIter s 0)):=(bB.refl w).alloc _;refine⟨put_defers ..,_,_,I.fresh (G':=λb=>if b=w.heap.size then 0 else G b) h100 hf hd hA (λb hb=>aC (by omega)) (x:=.pointer (some ⟨w.heap.size,0,none⟩)) (λg hg=>by cases hg;exact bX _) ?_ ?_⟩
 .exact⟨w.heap.size,bT,.inl I.kept.size,heap_alloc_new w _,aE rfl⟩
 .have:DR (bU ν fr (.pointer (some ⟨w.heap.size,0,none⟩))) (σ₁.aN o.dst .any [(fr,some (.it s 0))] fr).nm (w.alloc (.stringIter s 0)) (λb=>if b=w.heap.size then 0 else G b) (bU ν fr (.pointer (some ⟨w.heap.size,0,none⟩)) fr) (.own fr):=.own (jH ..) (by rw[bT];rfl)
  rw[bT]at this;exact this
theorem aRk{x:Operand}{s:ByteArray}{pos q:Nat}(ho:o.op = .next x true)(hx:σ.ev x=some (.own q))(hq:σ.H q=some (.it s pos))(h:¬ pos<s.size):aU P o σ fr (.aT [.t (.v (.bool false))]) []:=
 c7 λE σ₁ ν G w ac hH I hev=>by
  obtain⟨hv,hk⟩:=qR (hev x _ hx);obtain⟨g,h1,h2,h3,h4⟩:=(I.H q _ (hH q _ hq)).2;refine⟨.tuple #[.bool false],?_,.aT rfl λi u d hu hd=>?_⟩
  .unfold execOp
   rw[ho];simp[hv,h1,Lib.run_next_end_at w g s pos o.type h3 h]
  .match i,hu,hd with
   |0,hu,hd=>cases hu;cases hd;exact .t (.v _ rfl)
   |i+1,hu,hd=>simp at hd
theorem aRj{x:Operand}{s:ByteArray}{pos q:Nat}(ho:o.op = .next x true)(hx:σ.ev x=some (.own q))(hq:σ.H q=some (.it s pos))(h:pos<s.size)(ha:(s[pos]'h).toNat<128):
    aU P o σ fr (.aT [.t (.v (.bool true)),.t (.v (.int .i64 pos)),.t (.v (.int .i32 (s[pos]'h).toNat))]) [(q,some (.it s (pos+1)))]:=by
 intro E σ₁ a w hT hH h100 hf hd ⟨ν,G,I⟩ Q;obtain⟨hv,hk⟩:=qR (I.ev (St.cP hT hx));obtain⟨g,h1,h2,h3,h4⟩:=(I.H q _ (hH q _ hq)).2;unfold Oper.wp;have hr:(execOp a.eval o).run P w = .ok (.value (.tuple #[.bool true,.int .i64 pos,.int .i32 (s[pos]'h).toNat])) (w.iterAt g s (pos+1)):=by
  unfold execOp;rw[ho];simp[hv,h1,Lib.run_next_ascii_at w g s pos o.type h3 h ha]
 rw[hr,Oper.upon_value];have s5:∀b,b≠g->(w.iterAt g s (pos+1)).heap[b]?=w.heap[b]?:=λb hb=>by
  simp only[World.iterAt];rw[nL (dW hb)]
 have hcell:∀b i u,Cell w G b i u->Cell (w.iterAt g s (pos+1)) G b i u:=λb i u h=>by
  have hne:b≠g:=λe=>by have:=h.2;rw[e,h4]at this;omega
  exact⟨(World.cell?_of_block (a:=⟨b,i,none⟩) (s5 b hne)).trans h.1,h.2⟩
 refine⟨put_defers ..,ν,G,aBB (w':=w.iterAt g s (pos+1)) (ob':=.it s (pos+1)) I (hH q _ hq) (by rw[h1];rfl) h4 (λ_ _ _=>kZ) (λ_ _ _=>kZ) rfl rfl rfl (by simp[World.iterAt]) s5 hcell ⟨g,h1,h2,Lib.iterAt_heap w g s pos _ h3,h4⟩ hd (.aT rfl λi u d hu hd'=>?_)⟩
 match i,hu,hd' with
 |0,hu,hd'=>cases hu;cases hd';exact .t (.v _ rfl)
 |1,hu,hd'=>cases hu;cases hd';exact .t (.v _ rfl)
 |2,hu,hd'=>cases hu;cases hd';exact .t (.v _ rfl)
 |i+3,hu,hd'=>simp at hd'
theorem aQo{E:Env}{σ₁:St}{ν:Nat->Value}{G:bQ}{w w':World}{a:Act}(I:Inv E σ₁ ν G w a.tmps){k g:Nat}{ob:aM}(hk:σ₁.H k=some ob)(hg:aQ (ν k)=some g)
    (s1:w'.os=w.os) (s2:w'.tape=w.tape) (s3:w'.output=w.output) (s4:w'.heap.size=w.heap.size) (s5:∀b,b≠g->w'.heap[b]?=w.heap[b]?) (hcell:∀b i u,Cell w G b i u->Cell w' G b i u)
    {dst:Option Tmp} {v:Value} {d:D} (hd:∀t,dst=some t->t<E.m) (hv:DR ν σ₁.nm w' G v d):Inv E (σ₁.aN dst d [(k,none)] fr) ν G w' (a.put dst v).tmps:=by
 have hmay:E.may g:=(I.H k ob hk).2.Rl hg;have hnm:∀j,σ₁.nm j=true->(σ₁.aN dst d [(k,none)] fr).nm j=true/\ν j=ν j:=λj hj=>⟨by simp[St.aN,hj],rfl⟩
 have back:∀j oj,(σ₁.aN dst d [(k,none)] fr).H j=some oj->j≠k/\σ₁.H j=some oj:=λj oj h=>by
  by_cases hj:j=k
  .subst hj;simp[St.aN,Ab.look]at h
  .exact⟨hj,by simpa[St.aN,Ab.look,dW hj]using h⟩
 refine⟨⟨s1.trans I.kept.os,s2.trans I.kept.tape,s3.trans I.kept.output,by rw[s4];exact I.kept.size,λb hb hX=>?_⟩,λb i u h=>hcell b i u (I.cS b i u h),I.eL,I.g0,?_,λt' d' h=>?_,λj oj h=>?_,λj1 o1 j2 o2 h1 h2 hne=>?_⟩
 .refine(s5 b (λe=>?_)).trans (I.kept.block b hb hX)
  subst e;rcases hmay with h|h
  .omega
  .exact hX h
 .cases dst <;> simp[Act.put,I.sz]
 .simp only[St.aN]at h
  split at h
  .rename_i he'
   cases h;have:=hd t' he';exact⟨v,by simp[he',Act.put,I.sz,this],hv.mono hnm (λ_ _ _ h=>h)⟩
  .rename_i he'
   obtain⟨u,hu,hdu⟩:=I.T t' d' h;refine⟨u,?_,hdu.mono hnm hcell⟩;cases dst with
   |none=>simpa[Act.put]using hu
   |some t''=>
     have hne:t''≠t':=λe=>he' (by rw[e])
     simp only[Act.put];rw[nL hne];exact hu
 .obtain⟨hj,h'⟩:=back j oj h
  obtain⟨h1,h2⟩:=I.H j oj h';refine⟨(hnm j h1).1,h2.mono h1 hnm hcell (λg' hg'=>⟨s5 g' (λe=>?_),rfl⟩)⟩;subst e;exact I.cF j oj k ob h' hk hj g' hg' (dT hg)
 .obtain⟨n1,e1⟩:=back j1 o1 h1
  obtain⟨n2,e2⟩:=back j2 o2 h2;have f:∀j oj,j≠k->σ₁.H j=some oj->∀g',bK w' (ν j) oj g'->bK w (ν j) oj g':=λj oj hj h g' hg'=>(qY λb hb=>s5 b λe=>by
   subst e;exact I.cF j oj k ob h hk hj b (dT hb) (dT hg)).1 hg'
  exact λg' hg1 hg2=>I.cF j1 o1 j2 o2 e1 e2 hne g' (f j1 o1 n1 e1 g' hg1) (f j2 o2 n2 e2 g' hg2)
theorem aVN(w:World)(g n:Nat):(w.freeze ⟨g,0,none⟩ n).os=w.os/\(w.freeze ⟨g,0,none⟩ n).tape=w.tape/\(w.freeze ⟨g,0,none⟩ n).output=w.output/\(w.freeze ⟨g,0,none⟩ n).heap.size=w.heap.size/\(∀b,b≠g->(w.freeze ⟨g,0,none⟩ n).heap[b]?=w.heap[b]?) /\
    ∀b i,(w.freeze ⟨g,0,none⟩ n).cell? ⟨b,i,none⟩=w.cell? ⟨b,i,none⟩:=by
 unfold World.freeze;split
 .exact⟨rfl,rfl,rfl,rfl,λ_ _=>rfl,λ_ _=>rfl⟩
 .refine⟨rfl,rfl,rfl,by simp,λb hb=>by simp[aXc,dW hb],λb i=>?_⟩
  simp only[World.cell?,aXc];by_cases h:g=b
  .subst h
   rw[aE rfl];cases w.heap[g]? with
   |none=>rfl
   |some o=>
     cases o with
     |cells c e fz=>obtain⟨lo,hi⟩:=fz;rfl
     |_=>rfl
  .rw[aC h]
theorem aOs{ν:Nat->Value}{nm:Nat->Bool}{w:World}{G:bQ}{v:Value}{k:Nat}{r:Value->Value->Prop}(h:DR ν nm w G v (.via k r)):r (ν k) v:=by
 cases h with|via hk h h1=>exact h
theorem aQN{w:World}{G:bQ}{u x:Value}(h:TR w G u (.v x)):u=x:=by
 cases h with|v _ _=>rfl
theorem aRc{t e' e:TypeId}{x:Operand}{q s n:Nat}{ts:List Tree}{st:Bool}(hu:P.underlying o.type=some (.pointer e'))(ho:o.op = .call { callee:=.builtin .unsafeSliceData,args:=#[x],argTypes:=#[t] })
    (hx:σ.ev x=some (.own q)) (hq:σ.H q=some (.row e s n ts st)):aU P o σ fr (.via q (qH 1)) []:=by
 intro E σ₁ a w hT hH h100 hf hd ⟨ν,G,I⟩ Q;obtain⟨hv,hk⟩:=qR (I.ev (St.cP hT hx));obtain⟨xs,r1,_⟩:=(I.H q _ (hH q _ hq)).2;have fin:∀(p:Option Addr)(w':World),bB w w'->(Builtin.unsafeSliceData_ #[t] o.type #[ν q]).run P w = .ok (.pointer p) w'->qH 1 (ν q) (.pointer p)->o.wp P a w (λa' w'=>a'.defers=a.defers/\R E (σ₁.aN o.dst (.via q (qH 1)) [] fr) a'.tmps w') Q:=λp w' hA hr hR=>by
  unfold Oper.wp;have he:(execOp a.eval o).run P w = .ok (.value (.pointer p)) w':=by
   unfold execOp;rw[ho];simp[resolve,invoke,builtin,hv,hr]
  rw[he,Oper.upon_value];exact⟨put_defers ..,ν,G,(I.dI hA λ_ _=>rfl).put (.via hk hR rfl) hd fr a rfl⟩
 rcases r1.2 with⟨hz,h0⟩|⟨g,cap,cur,hz,_,r2,r3,r4,r5,_⟩
 .exact fin none w (bB.refl w) (by rw[hz];exact Lib.run_unsafeSliceData_nil ..) ⟨_,rfl,λa' n' c' he hn'=>by rw[hz]at he;cases he;omega⟩
 .by_cases hc:cap=0
  .subst hc
   refine fin _ _ ((bB.refl w).alloc _) (by rw[hz,Nat.le_zero.1 r3];exact Lib.run_unsafeSliceData_zero w _ _ e' hu ⟨g,0,none⟩ 0 (e,cur.size) (by simp[World.shape?,r2])) ⟨_,rfl,λa' n' c' he hn'=>?_⟩;rw[hz]at he;cases he;omega
  .exact fin (some ⟨g,0,none⟩) w (bB.refl w) (by rw[hz];exact Lib.run_unsafeSliceData_row _ _ _ _ _ _ hc) ⟨_,rfl,λa' n' c' he hn'=>by rw[hz]at he;cases he;rfl⟩
theorem aRb{t:TypeId}{x:Operand}(ho:o.op = .call { callee:=.builtin .unsafeSliceData,args:=#[x],argTypes:=#[t] })(hx:σ.ev x=some (.t (.v (.slice none 0 0)))):aU P o σ fr (.t (.v (.pointer none))) []:=
 c7 λE σ₁ ν G w a hH I hev=>by
  have hv:=bY (hev x _ hx);refine⟨_,?_,.t (.v _ rfl)⟩;unfold execOp;rw[ho];simp[resolve,invoke,builtin,hv,Lib.run_unsafeSliceData_nil]
theorem aR6{pt it e:TypeId}{x y:Operand}{q:Nat}{l:List UInt8}{st:Bool}(hp:P.underlying pt=some (.pointer e))(hc:P.cellsOf e=1)(ho:o.op = .call { callee:=.builtin .unsafeString,args:=#[x,y],argTypes:=#[pt,it] })
    (hx:σ.ev x=some (.via q (qH 1))) (hy:σ.ev y=some (.t (.v (.int .i64 l.length)))) (hq:σ.H q=some (.row e 1 l.length (l.map λb=>.v (.int .u8 b.toNat)) st)):aU P o σ fr (.t (.v (.string ⟨l.toArray⟩))) [(q,none)]:=by
 intro E σ₁ a w hT hH h100 hf hd ⟨ν,G,I⟩ Q;have hvy:=bY (I.ev (St.cP hT hy));have hvx:=I.ev (St.cP hT hx);have hqn:=hH q _ hq;obtain⟨xs,r1,r2,r3,r4⟩:=(I.H q _ hqn).2;obtain⟨p,hpv,hpr⟩:∃p,a.eval x = .pointer p/\∀a' n' c',ν q = .slice a' n' c'->0<n'->p=a':=by
  exact aOs hvx
 have hr0:xs.length=l.length:=by rw[r2,cQ]
 have fin:∀w',(Builtin.unsafeString_ #[pt,it] o.type #[.pointer p,.int .i64 l.length]).run P w = .ok (.string ⟨l.toArray⟩) w'->(∀v',ν q=v'->(∃(g:Nat),aQ v'=some g/\w'=w.freeze ⟨g,0,none⟩ l.length)\/w'=w)->o.wp P a w (λa' w'=>a'.defers=a.defers/\R E (σ₁.aN o.dst (.t (.v (.string ⟨l.toArray⟩))) [(q,none)] fr) a'.tmps w') Q:=λw' hr hw'=>by
  unfold Oper.wp;have he:(execOp a.eval o).run P w = .ok (.value (.string ⟨l.toArray⟩)) w':=by
   unfold execOp;rw[ho];simp[resolve,invoke,builtin,hpv,hvy,hr]
  rw[he,Oper.upon_value];rcases hw' _ rfl with⟨g,hg,rfl⟩|rfl
  .obtain⟨s1,s2,s3,s4,s5,s6⟩:=aVN w g l.length
   exact⟨put_defers ..,ν,G,aQo I hqn hg s1 s2 s3 s4 s5 (λb i u h=>⟨(s6 b i).trans h.1,h.2⟩) hd (.t (.v _ rfl))⟩
  .have:=I.put (dst:=o.dst) (v:=.string ⟨l.toArray⟩) (d:=.t (.v (.string ⟨l.toArray⟩))) (.t (.v _ rfl)) hd fr a rfl
   have back:∀j oj,(σ₁.aN o.dst (.t (.v (.string ⟨l.toArray⟩))) [(q,none)] fr).H j=some oj->(σ₁.aN o.dst (.t (.v (.string ⟨l.toArray⟩))) [] fr).H j=some oj:=λj oj h=>by
    by_cases hj:j=q
    .subst hj;simp[St.aN,Ab.look]at h
    .simpa[St.aN,Ab.look,dW hj]using h
   exact⟨put_defers ..,ν,G,this.kept,this.cS,this.eL,this.g0,this.sz,this.T,λj oj h=>this.H j oj (back j oj h),λj1 o1 j2 o2 h1 h2=>this.cF j1 o1 j2 o2 (back j1 o1 h1) (back j2 o2 h2)⟩
 rcases Nat.eq_zero_or_pos l.length with h0|h0
 .have:l=[]:=Fy h0
  subst this;refine fin w ?_ (λ_ _=>.inr rfl);exact Lib.run_unsafeString_none w pt it o.type p
 .rcases r1.2 with⟨hz,hn⟩|⟨g,cap,cur,hz,_,q2,q3,q4,q5,q6⟩
  .omega
  .have hpe:=hpr _ _ _ hz h0
   subst hpe;refine fin _ (Lib.run_unsafeString_row w pt it o.type e hp hc g cur.size (by simp[World.shape?,q2]) l (λe=>by subst e;simp at h0) (by omega) (by simp only[maxLen]at q4;omega) λj b hb=>?_) (λv' hv'=>.inl ⟨g,by rw[<-hv',hz];rfl,rfl⟩);have hj:j<l.length:=(bP.1 hb).1;have hxj:xs[j]?=some xs[j]:=bM (by omega);have ht:=r3 j _ _ hxj (by rw[cD,hb];rfl);have hcell:=kS r1 (by rw[hz];rfl) (i:=j) (by omega);rw[Addr.add_mid,cY,hcell,hxj];rw[aQN ht]
theorem aR5{pt it:TypeId}{x y:Operand}(ho:o.op = .call { callee:=.builtin .unsafeString,args:=#[x,y],argTypes:=#[pt,it] })(hx:σ.ev x=some (.t (.v (.pointer none))))(hy:σ.ev y=some (.t (.v (.int .i64 0)))):aU P o σ fr (.t (.v (.string ⟨#[]⟩))) []:=
 c7 λE σ₁ ν G w a hH I hev=>by
  have hv:=bY (hev x _ hx);have hvy:=bY (hev y _ hy);refine⟨_,?_,.t (.v _ rfl)⟩;unfold execOp;rw[ho];have hr:=Lib.run_unsafeString_none (P:=P) w pt it o.type none;simp[resolve,invoke,builtin,hv,hvy,hr];rfl
end
section
variable{c:Cx}{σ:Vw}{κ:Nat->Bool}{fr:Nat}{o:Oper}{k:X->Wx->O}{r:aH}
theorem aUb(hσ:σ.Ok κ){t:TypeId}{x:Operand}{s:List UInt8}(ho:o.op = .range t x)(hu:c.P.underlying t=some .string)(hx:σ.ev x=some (.e .tx s))(h:k (.own fr) [(fr,some (.it s 0))]=some r):dL c σ fr o k r:=
 ⟨_,_,h,rfl,λhon=>aRf hu ho (aY hσ hon hx)⟩
theorem aUg(hσ:σ.Ok κ){x:Operand}{q:Nat}{s:List UInt8}{pos:Int}(ho:o.op = .next x true)(hx:σ.ev x=some (.own q))(hq:σ.H q=some (.it s pos))(h:Ra s pos q k=some r):dL c σ fr o k r:=by
 unfold Ra at h;rcases tO h with⟨_,h⟩|⟨hb,h⟩
 .obtain⟨b,h0,hb,h⟩:=FT h
  obtain⟨ha,h⟩:=fF h;have ha:=cH ha;have hlt:pos.toNat<(⟨s.toArray⟩:ByteArray).size:=by
   have:=(bP.1 hb).1;exact this
  have hbv:(⟨s.toArray⟩:ByteArray)[pos.toNat]'hlt=b:=by
   have:=(bP.1 hb).2;exact this
  refine⟨_,_,h,rfl,λhon=>?_⟩;have:=aRj (P:=c.P) (fr:=fr) ho (aY hσ hon hx) (dG hq) hlt (by rw[hbv];exact ha);rw[hbv]at this;have e1:(pos.toNat:Int)=pos:=by omega
  have e2:(pos+1).toNat=pos.toNat+1:=by omega
  rw[e1]at this;unfold WA;simp only[gL,Cm,jE,XO.A,e2];exact this
 .have hb:=of_decide_eq_false hb
  exact⟨_,_,h,rfl,λhon=>aRk (P:=c.P) (fr:=fr) ho (aY hσ hon hx) (dG hq) (λhc=>hb (by have:pos.toNat<s.length:=hc;omega))⟩
theorem aA1:∀l:List UInt8,bZ (aI .u8) l=List.map (λb:UInt8=>Tree.v (.int .u8 b.toNat)) l
 |[]=>rfl
 |b::l=>aO (λts=>Tree.v (.int .u8 b.toNat)::ts) (aA1 l)
theorem aDB{a b:Int}(h:vP a b=true):a=b:=cH h
theorem aUa(hσ:σ.Ok κ){t:TypeId}{x:Operand}{v:X}(ho:o.op = .call { callee:=.builtin .unsafeSliceData,args:=#[x],argTypes:=#[t] })(hx:σ.ev x=some v)(h:Qu c σ o.type v k=some r):dL c σ fr o k r:=by
 unfold Qu at h;split at h
 .rename_i e' hu
  split at h
  .rename_i q
   split at h
   .rename_i e τ l st hq
    exact⟨_,_,h,rfl,λhon=>aRc (P:=c.P) (fr:=fr) hu ho (aY hσ hon hx) (dG hq)⟩
   .cases h
  .exact⟨_,_,h,rfl,λhon=>aRb (P:=c.P) (fr:=fr) ho (aY hσ hon hx)⟩
  .cases h
 .cases h
theorem aU6(hσ:σ.Ok κ){pt it:TypeId}{x y:Operand}{v w:X}(ho:o.op = .call { callee:=.builtin .unsafeString,args:=#[x,y],argTypes:=#[pt,it] })(hx:σ.ev x=some v)(hy:σ.ev y=some w)(h:QZ c σ pt v w k=some r):dL c σ fr o k r:=by
 unfold QZ at h;split at h
 .rename_i e hu
  split at h
  .rename_i q n
   split at h
   .rename_i e0 l st hq
    split at h
    .rename_i hc
     rw[bA]at hc;obtain⟨hn,h2⟩:=fF h;clear h;have hn:n=(dX (α:=UInt8) l:Int):=aDB hn;subst hn;have he:e0=e:=bH hc.1;subst he;refine⟨_,_,h2,rfl,λhon=>?_⟩;have:σ.den.H q=some (.row e0 1 (dX (α:=UInt8) l) (bZ (aI .u8) l) st):=dG hq;have this:=this.trans (aO (λts=>some (aM.row e0 1 (dX (α:=UInt8) l) ts st)) (aA1 l));exact aR6 (P:=c.P) (fr:=fr) hu (bH hc.2) ho (aY hσ hon hx) (aY hσ hon hy) this
    .cases h
   .cases h
  .rename_i n
   obtain⟨hn,h⟩:=fF h;have hn:n=(0:Int):=aDB hn;subst hn;exact⟨_,_,h,rfl,λhon=>aR5 (P:=c.P) (fr:=fr) ho (aY hσ hon hx) (aY hσ hon hy)⟩
  .cases h
 .cases h
end
end Go.Ax
/- Every operation. -/
namespace Go.Ax
open aA
open Go.RowKit Go.Ab
theorem Ev{x:X}{k:X->Wx->O}{r:aH}(h:u7 x k=some r):x.pl=true/\k x []=some r:=by
 unfold u7 at h;split at h
 .rename_i hp;exact⟨hp,h⟩
 .cases h
theorem tQ{α:Type}{a:Array α}{x:α}(h:a.toList=[x]):a = #[x]:=tY h
theorem vU{α:Type}{a:Array α}{x y:α}(h:a.toList=[x,y]):a = #[x,y]:=tY h
theorem aWk{α:Type}{a:Array α}{x y z:α}(h:a.toList=[x,y,z]):a = #[x,y,z]:=tY h
theorem aWl{α:Type}{a:Array α}(h:a.toList=[]):a = #[]:=tY h
section
variable{c:Cx}{σ:Vw}{κ:Nat->Bool}{fr:Nat}{o:Oper}{k:X->Wx->O}{r:aH}
theorem aUf(hσ:σ.Ok κ){x:Operand}(ho:o.op = .nilCheck x) (h:(ob (σ.ev x) λv=>match v with
    |.ref ..=>k v []
    |.rr ..=>k v []
    |.pt ..=>k v []
    |.fn ..=>k v []
    |_=>none)=some r):dL c σ fr o k r:=by
  obtain⟨v,hv,h⟩:=bG h;have hp:=vN hv;cases v with
  |ref q off=>exact⟨_,_,h,rfl,λhon=>LC ho (aY hσ hon hv) (.inl ⟨_,_,rfl⟩)⟩
  |rr q i j s=>exact⟨_,_,h,rfl,λhon=>LC ho (aY hσ hon hv) (.inl ⟨_,_,rfl⟩)⟩
  |pt τ y j=>exact⟨_,_,h,rfl,λhon=>LC ho (aY hσ hon hv) (.inr (.inl ⟨_,_,rfl⟩))⟩
  |fn f xs=>exact⟨_,_,h,rfl,λhon=>LC ho (aY hσ hon hv) (.inr (.inr ⟨_,_,rfl⟩))⟩
  |_=>cases h
theorem aUq(hσ:σ.Ok κ){f:FuncId}{first caps:Array Operand}(ho:o.op = .makeFunc (.func f) first caps)(hf:first.toList=[])(h:σ.tM caps.toList (λxs=>k (.fn f xs) [])=some r):dL c σ fr o k r:=by
 obtain⟨xs,h,hl,hev⟩:=Lf h;rw[aWl hf]at ho;refine⟨_,_,h,rfl,λhon=>?_⟩;unfold X.D;rw[fA];refine aRw ho (by rw[cQ,hl,nK]) (λi x d hx hd=>?_);rw[cD]at hd;obtain⟨y,hy,rfl⟩:=b9.1 hd;obtain⟨p,hp,hpv⟩:=hev i y hy;rw[aED,hx]at hp;cases hp;exact aY hσ hon hpv
theorem aUv(hσ:σ.Ok κ){s d:TypeId}{x:Operand}(ho:o.op = .convert s d x) (h:(ob (σ.ev x) λv=>match c.P.underlying s,c.P.underlying d,v with
    |some (.slice e),some .string,v=>match c.P.underlying e with
      |some (.int .u8)=>ob (σ.src .u8 v) λl=>k (.e .tx l) []
      |_=>none
    |some .string,some (.slice e),.e .tx l=>match c.P.underlying e with
      |some (.int .u8)=>k (.e (.sl .u8) l) []
      |_=>none
    |_,_,v=>Lo c.P s d v λr=>k r [])=some r):dL c σ fr o k r:=by
  obtain⟨v,hv,h⟩:=bG h;split at h
  .rename_i hs hd
   split at h
   .rename_i he
    obtain⟨l,hl,h⟩:=bG h;exact aUy hσ hs he hd ho hv hl h
   .cases h
  .rename_i hs hd
   split at h
   .rename_i he
    exact aU7 hσ hs hd he ho hv h
   .cases h
  .exact aUw hσ ho hv h
theorem aUr(hσ:σ.Ok κ){x:Operand}{n:Nat}(ho:o.op = .extract x n) (h:(ob (σ.ev x) λv=>match v with
    |.aT xs=>ob xs[n]? λr=>u7 r k
    |_=>none)=some r):dL c σ fr o k r:=by
  obtain⟨v,hv,h⟩:=bG h;split at h
  .rename_i xs
   obtain⟨y,hy,h⟩:=bG h;obtain⟨hp,h⟩:=Ev h;refine⟨_,_,h,hp,λhon=>?_⟩;have hD:=aY hσ hon hv;unfold X.D at hD;rw[fA]at hD;exact aST ho hD (by rw[cD,hy];rfl)
  .cases h
theorem aUm(hσ:σ.Ok κ){t e e':TypeId}{n b q:Nat}{τ τ':Ty}{l:List τ'.V}{ps:Array (Nat×Operand)}(ho:o.op = .buildSlice t n ps)(hE:lK c t=some (e,τ,b))(hp:FL σ n ps.toList=some (q,e',⟨τ',l⟩))(hτ:τ = .sl τ')
    (h:k (.own fr) [(fr,some (.nest e e' τ' [l])),(q,none)]=some r):dL c σ fr o k r:=by
 subst hτ;obtain⟨z,hA,hz⟩:=oJ hE;unfold FL at hp;split at hp
 case h_2=>cases hp
 rename_i x hps;split at hp
 case h_2=>cases hp
 rename_i hn;have hn:=bH hn;subst hn;split at hp
 case h_2=>cases hp
 rename_i q' hx;split at hp
 case h_2=>cases hp
 rename_i e1 τ1 l1 hq;cases hp;rw[tQ hps]at ho;refine⟨_,_,h,rfl,λhon=>?_⟩;have h1:∀u∈z.cells.toList,u.oneCell'=true:=by
  clear ho hps h hA;generalize z.cells.toList=l at hz;generalize aI (.sl τ') (Ty.zero (.sl τ'))=m at hz
  induction hz with
  |nil=>intro u hu;cases hu
  |v h r ih=>
    intro u hu;rcases eD.1 hu with rfl|hu
    .exact h
    .exact ih u hu
  |sl r ih=>
    intro u hu;rcases eD.1 hu with rfl|hu
    .rfl
    .exact ih u hu
 have hs1:z.cells.toList.length=1:=by rw[nK];exact hA.z
 obtain⟨zv,hzv⟩:∃zv,z.cells.toList=[zv]:=by
  match z.cells.toList,hs1 with
  |[zv],_=>exact⟨zv,rfl⟩
 have hL:=kM.of hA h1 1 (by show 1*1<=2^24;decide);rw[hzv]at hL;exact aSC (P:=c.P) (fr:=fr) hL ho (aY hσ hon hx) (dG hq)
theorem aUk(hσ:σ.Ok κ){t e e':TypeId}{n b q:Nat}{τ τ':Ty}{l:List τ'.V}{ps:Array (Nat×Operand)}(ho:o.op = .buildSlice t n ps)(hE:lK c t=some (e,τ,b))(hp:FL σ n ps.toList=some (q,e',⟨τ',l⟩))(hτ:τ = .sl τ')
    (h:k (.own fr) [(fr,some (.bI e e' τ' .un [(l,())] none)),(q,none)]=some r):dL c σ fr o k r:=by
 subst hτ;obtain⟨z,hA,hz⟩:=oJ hE;unfold FL at hp;split at hp
 case h_2=>cases hp
 rename_i x hps;split at hp
 case h_2=>cases hp
 rename_i hn;have hn:=bH hn;subst hn;split at hp
 case h_2=>cases hp
 rename_i q' hx;split at hp
 case h_2=>cases hp
 rename_i e1 τ1 l1 hq;cases hp;rw[tQ hps]at ho;refine⟨_,_,h,rfl,λhon=>?_⟩;have h1:∀u∈z.cells.toList,u.oneCell'=true:=by
  clear ho hps h hA;generalize z.cells.toList=l at hz;generalize aI (.sl τ') (Ty.zero (.sl τ'))=m at hz
  induction hz with
  |nil=>intro u hu;cases hu
  |v h r ih=>
    intro u hu;rcases eD.1 hu with rfl|hu
    .exact h
    .exact ih u hu
  |sl r ih=>
    intro u hu;rcases eD.1 hu with rfl|hu
    .rfl
    .exact ih u hu
 have hs1:z.cells.toList.length=1:=by rw[nK];exact hA.z
 obtain⟨zv,hzv⟩:∃zv,z.cells.toList=[zv]:=by
  match z.cells.toList,hs1 with
  |[zv],_=>exact⟨zv,rfl⟩
 have hL:=kM.of hA h1 1 (by show 1*1<=2^24;decide);rw[hzv]at hL;have hp1:nC σ.den (#[(0,x)]:Array (Nat×Operand)).toList [(0,X.D (.own q))]:=.cons (aY hσ hon hx) bR.refl .nil;have:=aB9 (P:=c.P) (fr:=fr) (i0:=0) (out:=[X.D (.own q)]) hL ho hp1 rfl rfl (λi d hi hd=>by
  obtain⟨i',rfl⟩:∃i',i=i'+1:=⟨i-1,by omega⟩
  simp at hd) (dG hq)
 exact this
theorem aT3{τ κ ρ:Ty}(h:R4 τ=some (κ,ρ)):τ.size=1+ρ.size:=by
 unfold R4 at h;split at h
 .cases h;rfl
 .cases h;rfl
 .cases h
theorem aWr{l:List Value}{m:List Tree}(hz:iG l m):∀u∈l,u.oneCell'=true:=by
 induction hz with
 |nil=>intro u hu;cases hu
 |v h r ih=>
   intro u hu;rcases eD.1 hu with rfl|hu
   .exact h
   .exact ih u hu
 |sl r ih=>
   intro u hu;rcases eD.1 hu with rfl|hu
   .rfl
   .exact ih u hu
theorem aUl(hσ:σ.Ok κ){t e e':TypeId}{n b q:Nat}{τ κ':Ty}{l:List κ'.V}{ys:List X}{ps:Array (Nat×Operand)}(ho:o.op = .buildSlice t n ps)(hE:lK c t=some (e,τ,b))(hp:R3 σ n ps.toList=some (q,e',⟨κ',l⟩,ys))
    (h:Ru σ fr e e' q κ' l ys k τ=some r):dL c σ fr o k r:=by
 unfold Ru at h;split at h
 case h_2=>cases h
 rename_i κ1 ρ;split at h
 case h_2=>cases h
 rename_i hκ _;have hκ':=hκ.down;subst hκ';split at h
 case h_2=>cases h
 rename_i hle;have hle:=eJ hle;split at h
 case h_2=>cases h
 rename_i rr hj;obtain⟨z,hA,hz⟩:=oJ hE;change kA c.P t e z (1+ρ.size) b at hA;unfold R3 at hp;split at hp
 case h_2=>cases hp
 rename_i x hps;split at hp
 case h_2=>cases hp
 rename_i hn;have hn:=bH hn;subst hn;split at hp
 case h_2=>cases hp
 rename_i q' ys' hx;split at hp
 case h_2=>cases hp
 rename_i e1 τ1 l1 hq;cases hp;rw[tQ hps]at ho;refine⟨_,_,h,rfl,λhon=>?_⟩;have h1:=aWr hz;have hs1:z.cells.toList.length=1+ρ.size:=by rw[nK];exact hA.z
 have hL:=kM.of hA h1 1 (by omega);have hzs:(dA 1 z.cells.toList).flatten=z.cells.toList:=by simp
 rw[hzs]at hL;have hev:=aY hσ hon hx;unfold X.D Ds at hev;have hw:dM σ.den.H (Ds ys) ((aI ρ rr).map .t):=by
  rw[fA];have h2:dM σ.den.H (ys.map X.D) ((ys.map σ.iE).map X.D):=by
   rw[nG];exact dM.of_map (f:=X.D) (g:=X.D ∘ σ.iE) λx _=>vL σ x
  exact h2.trans (pG hj)
 have hpw:nC σ.den (#[(0,x)]:Array (Nat×Operand)).toList [(0,.agg (X.D (.own q)::(aI ρ rr).map .t))]:=.cons hev (bR.agg (.cons bR.refl hw)) .nil;have hol:(X.D (.own q)::(aI ρ rr).map D.t).length=1+ρ.size:=by rw[List.length_cons,cQ,cW,Nat.add_comm]
 have hf:gY ((List.range 1).map λi=>(i*(1+ρ.size),1+ρ.size)) (z.cells.toList.map λu=>.t (.v u)) [(0,.agg (X.D (.own q)::(aI ρ rr).map .t))]=some (X.D (.own q)::(aI ρ rr).map .t):=by
  show gY [(0*(1+ρ.size),1+ρ.size)] _ _=_;unfold gY;show(if(D.agg _).val&&((D.agg (X.D (.own q)::(aI ρ rr).map .t)).cells.length == 1+ρ.size)&&decide (0*(1+ρ.size)+(D.agg (X.D (.own q)::(aI ρ rr).map .t)).cells.length<=(z.cells.toList.map λu=>D.t (.v u)).length)then _ else _)=_;have hc:(D.agg (X.D (.own q)::(aI ρ rr).map .t)).cells=X.D (.own q)::(aI ρ rr).map .t:=rfl;rw[hc,hol,cQ,hs1,aE (by simp[D.val])];unfold gY
  congr 1
  rw[pT];show(z.cells.toList.map λu=>D.t (.v u)).take 0++_++(z.cells.toList.map λu=>D.t (.v u)).drop (0+_)=_;rw[Fu,fK,List.drop_eq_nil_of_le (by rw[hol,cQ,hs1];omega),kN]
 have:=aB9 (P:=c.P) (fr:=fr) (i0:=0) hL ho hpw hf rfl (λi d hi hd=>by
  obtain⟨i',rfl⟩:∃i',i=i'+1:=⟨i-1,by omega⟩
  rw[List.getElem?_cons_succ,cD]at hd;obtain⟨t,_,rfl⟩:=b9.1 hd;exact⟨t,rfl⟩) (dG hq)
 have hcell:(((X.D (.own q)::(aI ρ rr).map .t).map NC.dH).set 0 (.cE (dX l) (bZ (aI κ') l)))=jA (1+ρ.size) (bZ eQ [(l,rr)]) none:=by
  show NC.cE _ _::((aI ρ rr).map D.t).map NC.dH=(eQ (l,rr)++[]);rw[kN,nG];rfl
 rw[hcell]at this;exact this
theorem aBs{w:X}{q:Nat}{e1 e1':TypeId}{κ' ρ:Ty}{l:List (List κ'.V×ρ.V)}(h:FI σ w=some (q,e1,e1',⟨κ',ρ,l⟩)):w = .own q/\σ.H q=some (.bI e1 e1' κ' ρ l none):=by
 unfold FI at h;split at h
 .split at h
  .rename_i q' e e' κ'' ρ' l' hq
   cases h;exact⟨rfl,hq⟩
  .cases h
 .cases h
theorem aVF(hσ:σ.Ok κ){t e e1 e1':TypeId}{x y:Operand}{v w:X}{bt q:Nat}{τ0 κ' ρ:Ty}{l':List (List κ'.V×ρ.V)}(ho:o.op = .call { callee:=.builtin .append,args:=#[x,y],argTypes:=#[t,t] })(hE:lK c t=some (e,τ0,bt))
    (hx:σ.ev x=some v) (hy:σ.ev y=some w) (hw:FI σ w=some (q,e1,e1',⟨κ',ρ,l'⟩)) (h:TY σ e fr bt v q e1 e1' κ' ρ l' k τ0=some r):dL c σ fr o k r:=by
 unfold TY at h;split at h
 case h_2=>cases h
 rename_i κ1 ρ1 hns;have hsz:=aT3 hns;split at h
 case h_2=>cases h
 rename_i hκ _;have hκ':=hκ.down;subst hκ';split at h
 case h_2=>cases h
 rename_i hρ _;have hρ':=hρ.down;subst hρ';split at h
 case h_2=>cases h
 rename_i he;have he:=bH he;subst he;obtain⟨z,hA,_⟩:=oJ hE;rw[hsz]at hA;obtain⟨rfl,hq⟩:=aBs hw;split at h
 .obtain⟨hb,h⟩:=fF h
  refine⟨_,_,h,rfl,λhon=>?_⟩;unfold b8 at hb;have hb:=cH hb;have:=aBh (P:=c.P) (fr:=fr) (ls:=[]) hA ho (.nil (aY hσ hon hx)) (aY hσ hon hy) (dG hq) (by simp) (λi d h=>by simp at h) (Sx l') ⟨by rw[cY];exact hb.1,by simp only[maxLen];omega⟩;rw[cY]at this;exact this
 .split at h
  case h_2=>cases h
  rename_i q0 e0 e0' κ0 ρ0 l hv;obtain⟨rfl,hq0⟩:=aBs hv;split at h
  case h_2=>cases h
  rename_i hκ0 _;split at h
  case h_2=>cases h
  rename_i hρ0 _;have h0:=hκ0;have h0':=hρ0;subst h0 h0';split at h
  case h_2=>cases h
  rename_i hc;simp only[bA,GB]at hc;obtain⟨⟨c1,c2⟩,c3⟩:=hc;have c1:=bH c1;have c2:=bH c2;have c3:=mY c3;subst c1 c2;obtain⟨hb,h⟩:=fF h;refine⟨_,_,h,rfl,λhon=>?_⟩;unfold b8 at hb;have hb:=cH hb;have:=aBh (P:=c.P) (fr:=fr) hA ho (.own (aY hσ hon hx) (dG hq0)) (aY hσ hon hy) (dG hq) (λe=>c3 (eX e)) (Sx l) (Sx l') ⟨hb.1,by simp only[maxLen];omega⟩;have e1:jA (1+ρ0.size) (bZ eQ l) none++jA (1+ρ0.size) (bZ eQ l') none=jA (1+ρ0.size) (bZ eQ (l++l')) none:=by
   show bZ eQ l++bZ eQ l'=bZ eQ (l++l');rw[Ad]
  rw[e1,<-bF]at this;exact this
theorem aBw{w:X}{q:Nat}{e1 e1':TypeId}{τ:Ty}{l:List (List τ.V)}(h:FK σ w=some (q,e1,e1',⟨τ,l⟩)):w = .own q/\σ.H q=some (.nest e1 e1' τ l):=by
 unfold FK at h;split at h
 .split at h
  .rename_i q' e e' τ' l' hq
   cases h;exact⟨rfl,hq⟩
  .cases h
 .cases h
theorem aVG(hσ:σ.Ok κ){t e e1 e1':TypeId}{x y:Operand}{v w:X}{bt q:Nat}{τ0 τ:Ty}{l':List (List τ.V)}(ho:o.op = .call { callee:=.builtin .append,args:=#[x,y],argTypes:=#[t,t] })(hE:lK c t=some (e,τ0,bt))(hτ:τ0 = .sl τ)
    (hx:σ.ev x=some v) (hy:σ.ev y=some w) (hw:FK σ w=some (q,e1,e1',⟨τ,l'⟩)) (h:TZ σ e fr bt v q e1 e1' τ l' k=some r):dL c σ fr o k r:=by
 subst hτ;obtain⟨z,hA,_⟩:=oJ hE;obtain⟨rfl,hq⟩:=aBw hw;unfold TZ at h;split at h
 case h_2=>cases h
 rename_i he;have he:=bH he;subst he;split at h
 .obtain⟨hb,h⟩:=fF h
  refine⟨_,_,h,rfl,λhon=>?_⟩;unfold b8 at hb;have hb:=cH hb;have:=aBi (P:=c.P) (fr:=fr) hA ho (.nil (aY hσ hon hx)) (aY hσ hon hy) (dG hq) (by simp) (by rw[cQ,iJ];exact⟨by rw[cY];exact hb.1,by simp only[maxLen];omega⟩);exact this
 .split at h
  case h_2=>cases h
  rename_i q0 e0 e0' τ0 l hv;obtain⟨rfl,hq0⟩:=aBw hv;split at h
  case h_2=>cases h
  rename_i hτ _;have hτ':=hτ;subst hτ';split at h
  case h_2=>cases h
  rename_i hc;simp only[bA,GB]at hc;obtain⟨⟨c1,c2⟩,c3⟩:=hc;have c1:=bH c1;have c2:=bH c2;have c3:=mY c3;subst c1 c2;obtain⟨hb,h⟩:=fF h;refine⟨_,_,h,rfl,λhon=>?_⟩;unfold b8 at hb;have hb:=cH hb;have:=aBi (P:=c.P) (fr:=fr) hA ho (.own (aY hσ hon hx) (dG hq0)) (aY hσ hon hy) (dG hq) (λe=>c3 (eX e)) (by rw[cQ,cQ];exact⟨hb.1,by simp only[maxLen];omega⟩);unfold WA;simp only[gL,Cm,jE,oK,XO.A];rw[<-l7]at this;exact this
theorem LY{d:TypeDesc}{τ:Ty}(h:C2 d τ=true)(x:τ.V):oF τ x = .v (kv τ x)/\MapKept.IsKey d (kv τ x)/\τ.one=true:=by
 unfold C2 at h;split at h
 .exact⟨rfl,(cH h).symm,rfl⟩
 .exact⟨rfl,rfl,rfl⟩
 .exact⟨rfl,trivial,rfl⟩
 .exact⟨rfl,trivial,rfl⟩
 .cases h
theorem aWA{a b:Int}(h:vP a b=true):a=b:=cH h
theorem aVz{a b:Int}(h:a=b):vP a b=true:=aL h
theorem aWC{a b:Bool}(h:F7 a b=true):a=b:=cH h
theorem aWB{a b:Bool}(h:a=b):F7 a b=true:=aL h
theorem LX{d:TypeDesc}{τ:Ty}(h:C2 d τ=true)(x y:τ.V):C3 τ x y=true ↔ kv τ x=kv τ y:=by
 unfold C2 at h;split at h
 .show vP x y=true ↔ _
  exact⟨λe=>aO (Value.int _) (aWA e),λe=>aVz (Value.int.inj e).2⟩
 .show F6 x y=true ↔ _
  unfold F6;simp only[eC,kv,Value.int.injEq,true_and];constructor
  .intro e;rw[e]
  .intro e;exact Cl.1 (by omega)
 .show Lm x y=true ↔ _
  unfold Lm;simp only[eC,kv,Value.string.injEq];constructor
  .intro e;rw[e]
  .intro e
   have:=aO (λb:ByteArray=>b.data.toList) e;exact this
 .show F7 x y=true ↔ _
  exact⟨λe=>aO Value.bool (aWC e),λe=>aWB (Value.bool.inj e)⟩
 .cases h
theorem aCW{τ:Ty}{x:X}{kf:τ.V->O}(h:LW τ x kf=some r):∃y,kf y=some r/\(τ.one=true->x.D = .t (oF τ y)):=by
 unfold LW at h;split at h
 .rename_i τ' y
  split at h
  .rename_i he _
   have he':=he;subst he';exact⟨y,h,λh1=>pK h1 y⟩
  .cases h
 .cases h
theorem aCF{τ:Ty}{x:τ.V}{kf:X->O}{k0:O}:∀{l:List (τ.V×X)},Rp τ x kf k0 l=some r->
    (∃j y v,l[j]?=some (y,v)/\C3 τ y x=true/\(∀(m:Nat)(p:τ.V×X),m<j->l[m]?=some p->C3 τ p.1 x=false)/\kf v=some r)\/((∀p∈l,C3 τ p.1 x=false)/\k0=some r)
 |[],h=>.inr ⟨λp hp=>(by cases hp),h⟩
 |(y,v)::l,h=>by
   rcases tO h with⟨hb,h⟩|⟨hb,h⟩
   .exact .inl ⟨0,y,v,rfl,hb,λm p hm=>by omega,h⟩
   .rcases aCF h with⟨j,y',v',h1,h2,h3,h4⟩|⟨h1,h2⟩
    .refine .inl ⟨j+1,y',v',by simpa using h1,h2,λm p hm hp=>?_,h4⟩
     cases m with
     |zero=>simp at hp;subst hp;exact hb
     |succ m=>exact h3 m p (by omega) (by simpa using hp)
    .refine .inr ⟨λp hp=>?_,h2⟩
     rcases eD.1 hp with rfl|hp
     .exact hb
     .exact h1 p hp
theorem aBk{cm b:Bool}{x:X}:(RS cm x b).D=LF cm x.D b:=by
 cases cm with
 |false=>rfl
 |true=>
   show(X.aT [x,.e .bo b]).D=_;simp only[X.D,Ds];rfl
theorem aUh{t:TypeId}(ho:o.op = .makeMap t none){τ:Ty}(h:k (.own fr) [(fr,some (.mp τ []))]=some r):dL c σ fr o k r:=
 ⟨_,_,h,rfl,λ_=>aRp ho⟩
theorem aUp(hσ:σ.Ok κ){t kt et:TypeId}{m x y:Operand}{a b v:X}(ho:o.op = .insert t m x y)(hu:c.P.underlying t=some (.map kt et))(hm:σ.ev m=some a)(hx:σ.ev x=some b)(hy:σ.ev y=some v)(h:Rj c σ kt a b v k=some r):dL c σ fr o k r:=by
 unfold Rj at h;split at h
 case h_2=>cases h
 rename_i d q hd;split at h
 case h_2=>cases h
 rename_i τ l hq;split at h
 case h_2=>cases h
 rename_i hc;rw[bA]at hc;obtain⟨hc,hv⟩:=hc;obtain⟨z,h,hz⟩:=aCW h;obtain⟨hn,h⟩:=fF h;refine⟨_,_,h,rfl,λhon=>?_⟩;obtain⟨k1,k2,k3⟩:=LY hc z;have hx':=aY hσ hon hx;rw[hz k3,k1]at hx';have hks:∀p∈(l.map λp=>(kv τ p.1,p.2.D)),MapKept.IsKey d p.1:=λp hp=>by
  obtain⟨p',_,rfl⟩:=eK.1 hp;exact(LY hc p'.1).2.1
 have:=aRo (P:=c.P) (fr:=fr) hu hd ho (aY hσ hon hm) (dG hq) hx' k2 hks (λp hp e=>by
  obtain⟨p',hp',rfl⟩:=eK.1 hp;have h1:=cT.1 hn p' hp';rw[(LX hc p'.1 z).2 e]at h1;cases h1) (aY hσ hon hy)
 unfold X.D WA;simp only[gL,Cm,jE,XO.A,l7];exact this
theorem aUj(hσ:σ.Ok κ){t kt et:TypeId}{m x:Operand}{cm:Bool}{a b z:X}(ho:o.op = .lookup t m x cm)(hu:c.P.underlying t=some (.map kt et))(hm:σ.ev m=some a)(hx:σ.ev x=some b)(hz:rO c.P et=some z)(h:Rk c σ kt a b z cm (λr=>u7 r k)=some r):dL c σ fr o k r:=by
 unfold Rk at h;split at h
 case h_2=>cases h
 rename_i d q hd;split at h
 case h_2=>cases h
 rename_i τ l hq;split at h
 case h_2=>cases h
 rename_i hc;obtain⟨y,h,hy⟩:=aCW h;obtain⟨k1,k2,k3⟩:=LY hc y;have hks:∀p∈(l.map λp=>(kv τ p.1,p.2.D)),MapKept.IsKey d p.1:=λp hp=>by
  obtain⟨p',_,rfl⟩:=eK.1 hp;exact(LY hc p'.1).2.1
 rcases aCF h with⟨j,y',v,h1,h2,h3,h4⟩|⟨h1,h2⟩
 .obtain⟨hp,h⟩:=Ev h4
  refine⟨_,_,h,hp,λhon=>?_⟩;have hx':=aY hσ hon hx;rw[hy k3,k1]at hx';rw[aBk];refine aRt (P:=c.P) (fr:=fr) hu hd ho (aY hσ hon hm) (dG hq) hx' k2 hks (j:=j) (by rw[cD,h1];show some (kv τ y',v.D)=_;rw[(LX hc y' y).1 h2]) (λm p hm hp e=>?_);rw[cD]at hp;obtain⟨p',hp',rfl⟩:=b9.1 hp;have:=h3 m p' hm hp';rw[(LX hc p'.1 y).2 e]at this;cases this
 .obtain⟨hp,h⟩:=Ev h2
  refine⟨_,_,h,hp,λhon=>?_⟩;have hx':=aY hσ hon hx;rw[hy k3,k1]at hx';rw[aBk];unfold rO at hz;split at hz
  case h_2=>cases hz
  rename_i w hw;have hD:z.D=pC w/\vQ w=true:=⟨(FC hz).2.1,(FC hz).1⟩;rw[hD.1];refine aRs (P:=c.P) (fr:=fr) hu hd ho (aY hσ hon hm) (dG hq) hx' k2 hks (λp hp e=>?_) hw hD.2;obtain⟨p',hp',rfl⟩:=eK.1 hp;have:=h1 p' hp';rw[(LX hc p'.1 y).2 e]at this;cases this
theorem aU9(hσ:σ.Ok κ){t:TypeId}{x:Operand}{τ:Ty}{y:τ.V}{j:Nat}(ho:o.op = .slice t x none none none)(hx:σ.ev x=some (.pt τ y j))(h:Qq c t (.pt τ y j) (λr=>k r [])=some r):dL c σ fr o k r:=by
 unfold Qq at h;split at h
 case h_2=>cases h
 rename_i n e hu;obtain rfl|⟨j',rfl⟩:j=0\/∃j',j=j'+1:=by cases j;exact .inl rfl;exact .inr ⟨_,rfl⟩
 case inr=>cases h
 simp only at h;split at h
 case h_2=>cases h
 rename_i τ' _;split at h
 case h_2=>cases h
 rename_i m hm;split at h
 case h_2=>cases h
 split at h
 case h_2=>cases h
 rename_i l hl;split at h
 case h_2=>cases h
 rename_i hn;have hn:=bH hn;refine⟨_,_,h,rfl,λhon=>?_⟩;have:=aRa (P:=c.P) (fr:=fr) hu hm ho (aY hσ hon hx);rw[Qj _ _ _ _ hl,<-hn]at this;exact this
theorem aTk(a:Option Int):Rt a=dR a:=by cases a <;> rfl
theorem aUW(n:Nat)(b:Option Int):qX n b=eM n b:=by cases b <;> rfl
theorem aU8(hσ:σ.Ok κ){t e0:TypeId}{x:Operand}{lo hi:Option Operand}{q:Nat}{τ:Ty}{l:List τ.V}(ho:o.op = .slice t x lo hi none)(hx:σ.ev x=some (.own q))(hq:σ.H q=some (.row e0 τ l false))(h:σ.kE lo (λlo=>σ.kE hi λhi=>Qp c σ t q τ l lo hi k)=some r):dL c σ fr o k r:=by
 obtain⟨a,h,ha⟩:=vA hσ h;obtain⟨b,h,hb⟩:=vA hσ h;unfold Qp at h;split at h
 case h_2=>cases h
 rename_i e hu;split at h
 case h_2=>cases h
 rename_i m hm;split at h
 case h_2=>cases h
 rename_i hs;rw[bA]at hs;have hs0:=eJ hs.2;have hs:=bH hs.1;subst hs;obtain⟨h,hok⟩:=mW h;refine⟨_,_,h,rfl,λhon=>?_⟩;have:=aR9 (P:=c.P) (fr:=fr) hs0 hu hm ho (aY hσ hon hx) (dG hq) (ha hon) (hb hon) (hok hon.g);rw[<-aTk,<-aUW]at this;exact this
theorem Sq(hσ:σ.Ok κ){τ:Ty}{w:X}{y:Operand}{kf:List τ.V->O}(hy:σ.ev y=some w)(h:F8 σ τ w kf=some r):∃src,kf src=some r/\(σ.On->τ.size=1->rL σ.den y 1 src.length (src.flatMap (aI τ))):=by
 unfold F8 at h;split at h
 .rename_i q i n s
  split at h
  case h_2=>cases h
  rename_i e τ' l st hq;split at h
  case h_2=>cases h
  rename_i hτ _;have hτ':=hτ;subst hτ';split at h
  case h_2=>cases h
  rename_i hs;have hs:=bH hs;subst hs;obtain⟨hb,h⟩:=fF h;have hb:=cH hb;refine⟨_,h,λhon h1=>?_⟩;have hq':σ.den.H q=some (.row e 1 l.length (l.flatMap (aI τ')) st):=by
   have h0:σ.den.H q=some (.row e τ'.size l.length (l.flatMap (aI τ')) st):=dG hq;rw[h1]at h0;exact h0
  have hv:=aY hσ hon hy;unfold X.D at hv;rw[h1]at hv;have hl:=mU l;rw[h1]at hl;have:=rL.vw (sz:=1) hv hq' (by rw[hl];omega);have e1:((bZ (aI τ') l).drop (i*1)).take (n*1)=bZ (aI τ') ((l.drop i).take n):=by
   have e2:=Lb (f:=aI τ') (s:=1) (λx=>by rw[cW τ' x,h1]) l i;have e3:=pI (f:=aI τ') (s:=1) (λx=>by rw[cW τ' x,h1]) (l.drop i) n;rw[e2,e3]
  rw[e1]at this;have e4:((l.drop i).take n).length=n:=by rw[fL,jM];omega
  show rL σ.den y 1 ((l.drop i).take n).length (bZ (aI τ') ((l.drop i).take n));rw[e4];exact this
 .obtain⟨l,hl,h⟩:=bG h
  refine⟨l,h,λhon h1=>.src (K8 (aY hσ hon hy) hl) ?_⟩;have:=mU l;rw[h1]at this;exact this
theorem aC8(_hσ:σ.Ok κ){t t' e0:TypeId}{x y:Operand}{q i n:Nat}{τ:Ty}{l src:List τ.V}(ho:o.op = .call { callee:=.builtin .copy,args:=#[x,y],argTypes:=#[t,t'] })(hx:σ.On->(σ.den.ev x=some (.own q)/\i=0/\n=l.length)\/σ.den.ev x=some (.vw q i n))(hq:σ.H q=some (.row e0 τ l false))
    (hy:σ.On->τ.size=1->rL σ.den y 1 src.length (src.flatMap (aI τ))) (h:Ln c t q i n e0 τ l src k=some r):dL c σ fr o k r:=by
 unfold Ln at h;split at h
 case h_2=>cases h
 rename_i hm;obtain⟨e,he,hs⟩:=jK.1 hm;split at h
 case h_2=>cases h
 rename_i h1;have h1:=bH h1;obtain⟨hb,h⟩:=fF h;have hb:=cH hb;refine⟨_,_,h,rfl,λhon=>?_⟩;have hu:c.P.underlying t=some (.slice e):=by
  unfold Lj at he;split at he
  .rename_i e' hu;cases he;exact hu
  .cases he
 have hq':σ.den.H q=some (.row e0 1 l.length (l.flatMap (aI τ)) false):=by
  have h0:σ.den.H q=some (.row e0 τ.size l.length (l.flatMap (aI τ)) false):=dG hq;rw[h1]at h0;exact h0
 have hl:=mU l;rw[h1,jL]at hl;have hf:∀x:τ.V,(aI τ x).length=1:=λx=>by rw[cW τ x,h1]
 have:=aSW (P:=c.P) (fr:=fr) hu hs ho (hx hon) hq' (hy hon h1) (by rw[hl];exact hb);have e1:=pI (f:=aI τ) (s:=1) hf l i;have e2:=pI (f:=aI τ) (s:=1) hf src n;have e3:=Lb (f:=aI τ) (s:=1) hf l (i+min src.length n);rw[jL]at e1 e2 e3;rw[e1,e2,e3,<-Ad,<-Ad]at this;have e4:(l.take i++src.take n++l.drop (i+min src.length n)).length=l.length:=by
  simp only[bF,fL,jM];omega
 have hA:(XO.row e0 τ (l.take i++src.take n++l.drop (i+min src.length n)) false).A = .row e0 1 l.length (bZ (aI τ) (l.take i++src.take n++l.drop (i+min src.length n))) false:=by
  show aM.row e0 τ.size (l.take i++src.take n++l.drop (i+min src.length n)).length _ false=_;rw[e4,h1]
 show aU c.P o σ.den fr _ [(q,some (XO.row e0 τ (l.take i++src.take n++l.drop (i+min src.length n)) false).A)];rw[hA];exact this
theorem aUu(hσ:σ.Ok κ){t t':TypeId}{x y:Operand}{v w:X}(ho:o.op = .call { callee:=.builtin .copy,args:=#[x,y],argTypes:=#[t,t'] })(hx:σ.ev x=some v)(hy:σ.ev y=some w)(h:Sp c σ t v w k=some r):dL c σ fr o k r:=by
 unfold Sp at h;split at h
 .rename_i q
  split at h
  case h_2=>cases h
  rename_i e τ l hq;obtain⟨src,h,hs⟩:=Sq hσ hy h;exact aC8 hσ ho (λhon=>.inl ⟨aY hσ hon hx,rfl,rfl⟩) hq hs h
 .rename_i q i n s
  split at h
  case h_2=>cases h
  rename_i e τ l hq;split at h
  case h_2=>cases h
  rename_i hb;have hb:=bH hb;subst hb;obtain⟨src,h,hs⟩:=Sq hσ hy h;refine aC8 hσ ho (λhon=>.inr ?_) hq hs h;have:=aY hσ hon hx;unfold X.D at this;rw[jL]at this;exact this
 .cases h
theorem aVE(hσ:σ.Ok κ){t e:TypeId}{x y:Operand}{v w:X}{bt:Nat}{τ:Ty}{p:Nat×Nat×Nat}(ho:o.op = .call { callee:=.builtin .append,args:=#[x,y],argTypes:=#[t,t] })(hE:lK c t=some (e,τ,bt))
    (hx:σ.ev x=some v) (hp:RD v=some p) (hy:σ.ev y=some w) (h:TW σ e τ bt fr p w k=some r):dL c σ fr o k r:=by
 unfold RD at hp;split at hp
 case h_2=>cases hp
 rename_i q i n s;split at hp
 case h_2=>cases hp
 rename_i hi;have hi:=bH hi;subst hi;cases hp;unfold TW at h;simp only at h;split at h
 case h_2=>cases h
 rename_i e' τ' l hq;split at h
 case h_2=>cases h
 rename_i hτ _;have hτ':=hτ;subst hτ';split at h
 case h_2=>cases h
 rename_i hc;simp only[bA]at hc;have he:=bH hc.1;have hs:=bH hc.2.1;have h1:=bH hc.2.2;subst he hs;obtain⟨hn,h⟩:=fF h;have hn:=cH hn;obtain⟨src,h,hsrc⟩:=Sq hσ hy h;obtain⟨hb,h⟩:=fF h;obtain⟨z,hA,_⟩:=oJ hE;refine⟨_,_,h,rfl,λhon=>?_⟩;unfold b8 at hb;have hb:=cH hb;rw[h1]at hA;have hv:=aY hσ hon hx;have hq':=dG hq;have hq':σ.den.H q=some (.row e' 1 l.length (l.flatMap (aI τ')) false):=by
  have h0:σ.den.H q=some (.row e' τ'.size l.length (l.flatMap (aI τ')) false):=hq';rw[h1]at h0;exact h0
 have:=aS3 (P:=c.P) (fr:=fr) hA ho hv hq' hn (hsrc hon h1) ⟨hb.1,by simp only[maxLen];omega⟩;have e3:=pI (f:=aI τ') (s:=1) (λx=>by rw[cW τ' x,h1]) l n;rw[e3,<-Ad]at this;have e4:((l.take n)++src).length=n+src.length:=by rw[bF,fL,ME hn]
 rw[<-e4,<-h1]at this;exact this
theorem aQk{P:Program}{t t' ty:TypeId}{vs:Array Value}{w:World}(h:TF P t t'=true):(Builtin.append_ #[t,t'] ty vs).run P w=(Builtin.append_ #[t,t] ty vs).run P w:=by
 unfold TF at h;split at h
 .rename_i e e' h1 h2
  unfold Builtin.append_;cases vs[0]? with
  |none=>rfl
  |some s=>cases vs[1]? with
    |none=>rfl
    |some x=>cases s <;> simp[Sem.run_bind,run_underlying h1,run_underlying h2]
 .cases h
theorem aRd{P:Program}{o o':Oper}{s:St}{fr:Nat}{d:D}{W:Wr}(hd:o'.dst=o.dst)(hr:∀ρ w,(execOp ρ o).run P w=(execOp ρ o').run P w)(h:aU P o' s fr d W):aU P o s fr d W:=by
 intro E s₁ a w h1 h2 h3 h4 h5 h6 Q;have:=h E s₁ a w h1 h2 h3 h4 (λt ht=>h5 t (hd ▸ ht)) h6 Q;rw[hd]at this;unfold Oper.wp at this ⊢;rw[hr];unfold Oper.upon at this ⊢;rw[hd]at this;exact this
theorem aC9(hσ:σ.Ok κ){st:Bool}{t:TypeId}{x y:Operand}(ho:o.op = .call { callee:=.builtin .append,args:=#[x,y],argTypes:=#[t,t] })(h:TX c σ fr st t x y k=some r):dL c σ fr o k r:=by
 unfold TX at h;obtain⟨⟨e,τ,bt⟩,hE,h⟩:=bG h;simp only at h;obtain⟨v,hv,h1⟩:=bG h;clear h;obtain⟨w,hw,h2⟩:=bG h1;clear h1;split at h2
 .rename_i p hp
  exact aVE hσ ho hE hv hp hw h2
 rename_i hnp;clear hnp;split at h2
 .rename_i q e1 e1' τ1 l' hnw
  split at h2
  .rename_i hτ _
   split at h2
   .exact aVG hσ ho hE hτ.down hv hw hnw h2
   .cases h2
  .cases h2
 split at h2
 .rename_i q e1 e1' κ' ρ l' hnw
  exact aVF hσ ho hE hv hw hnw h2
 obtain⟨l',hl',h⟩:=bG h2;clear h2;refine aVC hσ ho hE hv hw hl' (st:=st) ?_;split at h
 .rename_i q
  split at h
  .rename_i e' τ' l st' hq
   generalize eS τ' τ=p at h;cases p with
   |none=>cases h
   |some g=>
     obtain⟨g⟩:=g;subst g;simp only at h;split at h
     .rename_i hb
      have hb:=bH hb;subst hb;exact .inl ⟨q,st',l,rfl,hq,h⟩
     .cases h
  .cases h
 .exact .inr ⟨rfl,h⟩
 .cases h
theorem aUz(hσ:σ.Ok κ){st:Bool}{b:Builtin}{args:Array Operand}{tys:Array TypeId}(ho:o.op = .call { callee:=.builtin b,args:=args,argTypes:=tys })(h:eI c σ fr st { o with op:=.call { callee:=.builtin b,args:=args,argTypes:=tys } } k=some r):dL c σ fr o k r:=by
 unfold eI at h;simp only at h;split at h
 .rename_i x t ha ht
  cases tQ ha;cases tQ ht;obtain⟨v,hv,h⟩:=bG h;exact aUo hσ ho hv h
 .rename_i x y t t' ha ht
  cases vU ha;cases vU ht;split at h
  .exact aVD hσ ho h
  rename_i he;rcases Bool.or_eq_true_iff.1 he with he|he
  .have he:=bH he
   subst he;exact aC9 (st:=st) hσ ho h
  .obtain⟨x1,W1,g1,g2,g3⟩:=aC9 (st:=st) (o:={ o with op:=.call { callee:=.builtin .append,args:=#[x,y],argTypes:=#[t,t] } }) hσ rfl h
   refine⟨x1,W1,g1,g2,λhon=>aRd (o':={ o with op:=.call { callee:=.builtin .append,args:=#[x,y],argTypes:=#[t,t] } }) rfl (λρ w=>?_) (g3 hon)⟩;unfold execOp;rw[ho];simp[resolve,invoke,builtin,aQk he]
 .rename_i x t ha ht
  cases tQ ha;cases tQ ht;obtain⟨v,hv,h⟩:=bG h;exact aUa hσ ho hv h
 .rename_i x y t t' ha ht
  cases vU ha;cases vU ht;obtain⟨v,hv,h⟩:=bG h;obtain⟨w,hw,h⟩:=bG h;exact aU6 hσ ho hv hw h
 .rename_i x t ha ht
  cases tQ ha;cases tQ ht;obtain⟨v,hv,h⟩:=bG h;split at h
  .rename_i e hu
   exact⟨_,_,h,rfl,λhon=>aSX (P:=c.P) (fr:=fr) hu ho (aY hσ hon hv)⟩
  .cases h
 .rename_i x y t t' ha ht
  cases vU ha;cases vU ht;obtain⟨v,hv,h⟩:=bG h;obtain⟨w,hw,h⟩:=bG h;exact aUu hσ ho hv hw h
 .rename_i x y ha
  cases vU ha;obtain⟨v,hv,h⟩:=bG h;obtain⟨w,hw,h⟩:=bG h;split at h
  .unfold LO at h
   exact⟨_,_,h,rfl,λhon=>aRu ho (aY hσ hon hv) (aY hσ hon hw)⟩
  .cases h
 .rename_i x y z ha
  cases aWk ha;obtain⟨v,hv,h1⟩:=bG h;clear h;obtain⟨w,hw,h2⟩:=bG h1;clear h1;obtain⟨u,hu,h3⟩:=bG h2;clear h2;split at h3
  .unfold LO at h3
   exact⟨_,_,h3,rfl,λhon=>aRv ho (aY hσ hon hv) (aY hσ hon hw) (aY hσ hon hu)⟩
  .cases h3
 .rename_i x y ha
  cases vU ha;obtain⟨v,hv,h⟩:=bG h;obtain⟨w,hw,h⟩:=bG h;split at h
  .unfold aCB at h
   exact⟨_,_,h,rfl,λhon=>aRr ho (aY hσ hon hv) (aY hσ hon hw)⟩
  .cases h
 .cases h
theorem aQ1(hG:oM c.P c.G):Ly c:=by
 intro σ κ fr st o k r hσ h;obtain⟨op,hop⟩:∃op,o.op=op:=⟨_,rfl⟩
 cases op with
 |move x=>
   unfold eI at h;rw[hop]at h;obtain⟨v,hv,h⟩:=bG h;exact⟨_,_,h,vN hv,λhon=>iC hop (aY hσ hon hv)⟩
 |assign x=>
   unfold eI at h;rw[hop]at h;obtain⟨v,hv,h⟩:=bG h;exact⟨_,_,h,vN hv,λhon=>qP hop (aY hσ hon hv)⟩
 |pick b x y=>
   unfold eI at h;rw[hop]at h;exact aUc hσ hop h
 |alloc e=>
   unfold eI at h;rw[hop]at h;obtain⟨z,hz,h⟩:=bG h;exact aVH hop hz h
 |box e x=>
   unfold eI at h;rw[hop]at h;obtain⟨v,hv,h⟩:=bG h;split at h
   .rename_i hval
    exact aVB hσ hop hv hval h
   .cases h
 |build t ps=>
   unfold eI at h;rw[hop]at h;obtain⟨z,hz,h⟩:=bG h;obtain⟨pl,hp,h⟩:=bG h;exact aVA hσ hop hz hp h
 |buildSlice t n ps=>
   unfold eI at h;rw[hop]at h;obtain⟨⟨e,τ,b⟩,hE,h⟩:=bG h;simp only at h;split at h
   .rename_i q e' τ' l hnp
    split at h
    .rename_i hτ _
     split at h
     .split at h
      .exact aUk hσ hop hE hnp hτ.down h
      .exact aUm hσ hop hE hnp hτ.down h
     .cases h
    .cases h
   split at h
   .rename_i q e' κ' l ys hnp
    exact aUl hσ hop hE hnp h
   split at h
   .rename_i hle
    exact aUn hσ hop hE (eJ hle) h
   .cases h
 |makeMap t m=>
   unfold eI at h;rw[hop]at h;cases m with
   |none=>
     simp only at h;split at h
     .split at h
      .exact aUh hop h
      .cases h
     .cases h
   |some _=>cases h
 |insert t m x y=>
   unfold eI at h;rw[hop]at h;simp only at h;split at h
   .rename_i kt et hu
    obtain⟨a,ha,h⟩:=bG h;obtain⟨b,hb,h⟩:=bG h;obtain⟨v,hv,h⟩:=bG h;exact aUp hσ hop hu ha hb hv h
   .cases h
 |range t x=>
   unfold eI at h;rw[hop]at h;simp only at h;split at h
   .rename_i hu
    obtain⟨v,hv,h⟩:=bG h;split at h
    .exact aUb hσ hop hu hv h
    .cases h
   .cases h
 |next i b=>
   unfold eI at h;rw[hop]at h;cases b with
   |true=>
     simp only at h;obtain⟨v,hv,h⟩:=bG h;split at h
     .split at h
      .rename_i hq
       exact aUg hσ hop hv hq h
      .cases h
     .cases h
   |false=>cases h
 |lookup t m x cm=>
   unfold eI at h;rw[hop]at h;simp only at h;split at h
   .rename_i kt et hu
    obtain⟨a,ha,h⟩:=bG h;obtain⟨b,hb,h⟩:=bG h;obtain⟨z,hz,h⟩:=bG h;exact aUj hσ hop hu ha hb hz h
   .cases h
 |load t a=>
   unfold eI at h;rw[hop]at h;obtain⟨v,hv,h⟩:=bG h;cases st with
   |true=>
     obtain⟨y,h,_,hok⟩:=aTi (fr:=fr) (o:=o) h;obtain⟨hp,h⟩:=Ev h;exact⟨_,_,h,hp,λhon=>hok hop (aY hσ hon hv)⟩
   |false=>
     obtain⟨y,h,hp,hok⟩:=aTj (fr:=fr) (o:=o) h;exact⟨_,_,h,hp,λhon=>hok hon hop (aY hσ hon hv)⟩
 |store t a y=>
   unfold eI at h;rw[hop]at h;obtain⟨v,hv,h⟩:=bG h;obtain⟨w,hw,h⟩:=bG h;split at h
   .rename_i hval
    cases st with
    |true=>
      obtain⟨W,h,hok⟩:=aQW (fr:=fr) (o:=o) h;refine⟨_,_,h,rfl,λhon=>?_⟩;unfold X.D;exact hok hop (aY hσ hon hv) (aY hσ hon hw) hval
    |false=>
      obtain⟨W,h,hok⟩:=aQX (fr:=fr) (o:=o) h;refine⟨_,_,h,rfl,λhon=>?_⟩;unfold X.D;exact hok hop (aY hσ hon hv) (aY hσ hon hw) hval
   .cases h
 |nilCheck x=>
   unfold eI at h;rw[hop]at h;exact aUf hσ hop h
 |binOp op xt x y yt=>
   unfold eI at h;rw[hop]at h;obtain⟨v,hv,h⟩:=bG h;obtain⟨w,hw,h⟩:=bG h;split at h
   .rename_i b hn
    exact aUe hσ hop hv hw hn h
   split at h
   .rename_i b hn
    exact aUs hσ hop hv hw hn h
   .obtain⟨z,h,hp,hok⟩:=aW4 (fr:=fr) (o:=o) (σ:=σ.den) h
    exact⟨_,_,h,hp,λhon=>hok hon.g hop (aY hσ hon hv) (aY hσ hon hw)⟩
 |unOp op t x=>
   unfold eI at h;rw[hop]at h;simp only at h;obtain⟨v,hv,h'⟩:=bG h;clear h;split at h'
   .unfold aBt at h'
    exact⟨_,_,h',rfl,λhon=>aRh hop (aY hσ hon hv)⟩
   .unfold aBx at h'
    exact⟨_,_,h',rfl,λhon=>aRl hop (aY hσ hon hv)⟩
   .cases h'
 |convert s d x=>
   unfold eI at h;rw[hop]at h;exact aUv hσ hop h
 |makeInterface t x=>
   unfold eI at h;rw[hop]at h;obtain⟨v,hv,h⟩:=bG h;split at h
   .rename_i ik n hu
    exact⟨_,_,h,rfl,λhon=>aRq hop hu (aY hσ hon hv)⟩
   .cases h
 |makeFunc g first caps=>
   unfold eI at h;rw[hop]at h;cases g with
   |func f=>
     simp only at h;split at h
     .rename_i hf
      exact aUq hσ hop hf h
     .cases h
   |_=>cases h
 |makeSlice t n m=>
   unfold eI at h;rw[hop]at h;simp only at h;split at h
   .rename_i he
    obtain⟨v,hv,h⟩:=bG h;split at h
    .obtain⟨⟨e,τ,b⟩,hE,h⟩:=bG h
     exact aUi hσ hop he hv hE h
    .cases h
   .cases h
 |slice t x lo hi mx=>
   unfold eI at h;rw[hop]at h;cases mx with
   |none=>
     obtain⟨v,hv,h⟩:=bG h;split at h
     .exact aUd hσ hop hv h
     .exact aU9 hσ hop hv h
     .split at h
      .rename_i hq
       cases st with
       |true=>exact aU8 hσ hop hv hq h
       |false=>
         cases lo with
         |none=>exact aUt hσ hop hv h
         |some x=>
           obtain⟨w,_,h⟩:=bG h;obtain⟨_,n,_,h⟩:=Fk h;obtain⟨_,h,_⟩:=vA hσ h;cases h
      .exact aC7 hσ hop hv h
     .exact aC7 hσ hop hv h
   |some _=>cases h
 |fieldAddr s x f=>
   unfold eI at h;rw[hop]at h;obtain⟨v,hv,h⟩:=bG h;obtain⟨y,h,hp,hok⟩:=aVY (fr:=fr) (o:=o) (σ:=σ) h;exact⟨_,_,h,hp,λhon=>hok hop (aY hσ hon hv)⟩
 |field s x f=>
   unfold eI at h;rw[hop]at h;obtain⟨v,hv,h⟩:=bG h;obtain⟨y,h,hok⟩:=aVX (fr:=fr) (o:=o) (σ:=σ) h;obtain⟨hp,h⟩:=Ev h;exact⟨_,_,h,hp,λhon=>hok hop (aY hσ hon hv)⟩
 |indexAddr t x n=>
   unfold eI at h;rw[hop]at h;obtain⟨v,hv,h⟩:=bG h;obtain⟨w,hw,h⟩:=bG h;cases st with
   |true=>
     obtain⟨y,h,hp,hok⟩:=aUU (fr:=fr) (o:=o) h;exact⟨_,_,h,hp,λhon=>hok hon hop (aY hσ hon hv) (aY hσ hon hw)⟩
   |false=>
     obtain⟨y,h,hp,hok⟩:=aUT (fr:=fr) (o:=o) h;exact⟨_,_,h,hp,λhon=>hok hon hop (aY hσ hon hv) (aY hσ hon hw)⟩
 |index t x n=>
   unfold eI at h;rw[hop]at h;obtain⟨v,hv,h⟩:=bG h;obtain⟨w,hw,h⟩:=bG h;obtain⟨y,h,hp,hok⟩:=aUS (fr:=fr) (o:=o) h;exact⟨_,_,h,hp,λhon=>hok hon hop (aY hσ hon hv) (aY hσ hon hw)⟩
 |extract x n=>
   unfold eI at h;rw[hop]at h;exact aUr hσ hop h
 |call cl=>
   obtain⟨cal,args,tys⟩:=cl;cases cal with
   |builtin b=>
     refine aUz hσ (st:=st) hop ?_;unfold eI at h ⊢;rw[hop]at h;exact h
   |value f=>
     unfold eI at h;rw[hop]at h;obtain⟨v,hv,h⟩:=bG h;split at h
     .exact aUx hG hσ hop hv h
     .cases h
   |_=>unfold eI at h;rw[hop]at h;cases h
 |_=>unfold eI at h;rw[hop]at h;cases h
end
end Go.Ax
/- Panics. -/
namespace Go.Ax
open aA
open Go.RowKit Go.Ab
def tV(P:Program)(G:List (Nat×tW)):Prop:=∀f g,lk f G=some g->CX P f=true/\aDy P f g
theorem tV.nil{P:Program}:tV P []:=λf g h=>by cases h
theorem tV.cons{P:Program}{f:Nat}{g:tW}{G:List (Nat×tW)}(hn:CX P f=true)(h:aDy P f g)(k:tV P G):tV P ((f,g)::G):=λf' g' h'=>by
 unfold lk at h';split at h'
 .rename_i hb
  have hb:=bH hb;subst hb;cases h';exact⟨hn,h⟩
 .exact k f' g' h'
section
variable{c:Cx}{σ:Vw}{κ:Nat->Bool}{fr:Nat}{o:Oper}{k:X->Wx->O}{kp:Value->Wx->O}{r:aH}
theorem aWO{g:Option Bool}{b:Bool}{k:O}{r:aH}(hg:g=none)(h:b=true)(hk:k=some r):kI g b k=some r:=by
 subst hg h;exact hk
theorem aBV(hG:tV c.P c.Gp)(hσ:σ.Ok κ)(hgn:σ.g=none){fo:Operand}{args:Array Operand}{tys:Array TypeId}{f:FuncId}{caps asL ys:List X}{g:tW}{fn:Func}{code:Code}{els:O}(ho:o.op = .call { callee:=.value fo,args:=args,argTypes:=tys })(hfo:σ.ev fo=some (.fn f caps))(hl:asL.length=args.toList.length)
    (hev:∀(i:Nat)(x:X),asL[i]?=some x->∃p,args.toList[i]?=some p/\σ.ev p=some x) (hg:lk f c.Gp=some g) (hfn:c.P.funcs[f]?=some fn) (hb:fn.body=some code) (hD:dM σ.den.H ((asL++caps).map X.D) (ys.map X.D)) (h:Lt σ fr g ys els k kp=some r):els=some r\/dL c σ fr o k r\/∃v W,kp v W=some r/\(σ.On->rG c.P o σ.den fr v (WA W)):=by
 have h0:=h;unfold Lt at h;obtain⟨rn,hrn⟩:∃rn,FH 50 (reach σ.H 40 (jV ys []) [])=rn:=⟨_,rfl⟩
 simp only[hrn]at h;split at h
 .exact .inl h
 rename_i hrb;have F:=aBR hrb;split at h
 .exact .inl h
 rename_i zs hzs;split at h
 .exact .inl h
 rename_i H' hH';split at h
 case h_2=>exact .inl h
 rename_i pre bb rn0 pv H2 hres;split at h
 case h_2=>cases h
 rename_i hnd2;rw[bA]at hnd2;obtain⟨hnd1,hnd⟩:=hnd2;obtain⟨hpre,h⟩:=fF h;obtain⟨hname,hE⟩:=hG f g hg;have hcase:(bb=some true/\(ob (fG (jJ fr rn) rn0.1) λx=>ob (mZ (jJ fr rn) rn0.2) λW=>k x (W++gone rn0.2 rn))=some r)\/(bb≠some true/\(ob (mZ (jJ fr rn) H2) λW=>kp pv (W++gone H2 rn))=some r):=by
  unfold brO at h;split at h
  .rename_i b0
   rcases tO h with⟨hb1,h⟩|⟨hb1,h⟩
   .exact .inl ⟨by rw[hb1],h⟩
   .exact .inr ⟨by rw[hb1];simp,h⟩
  .exact .inr ⟨by simp,h⟩
 rcases hcase with⟨hb1,h⟩|⟨hb1,h⟩
 ·-- it comes back
  have hG':oM c.P [(f,λxs H=>match g xs H with|some (pre,b,r,_)=>some (pre&&(b == some true),r)|none=>none)]:=oM.cons hname (λxs H pre' r' he hp=>by
   split at he
   .rename_i p b r0 rp hq
    have he:=eX he;have e1:=aO A8 he;have e2:=aO A7 he;simp only at e1 e2;rw[hp,bA]at e1;rw[<-e2];exact(hE xs H _ _ _ _ hq e1.1).1 (eq_of_beq e1.2)
   .cases he) oM.nil
  refine .inr ?_;rcases SQ (c:=⟨c.P,c.ex,_,[]⟩) (k:=k) (els:=none) hG' hσ ho hfo hl hev (by unfold lk;rw[aDn]) hfn hb hD (by
   unfold Ff;simp only[hrn];rw[hrb];simp only[hzs,hH',hres,hnd1];obtain⟨x,hx,h6⟩:=bG h;obtain⟨W,hW,h7⟩:=bG h6;rw[hx];show ob (mZ (jJ fr rn) rn0.2) _=some r;rw[hW];exact aWO (by rw[hgn];rfl) (by rw[hpre,hb1];rfl) h7)with h8|h8
  .cases h8
  .exact .inl h8
 obtain ⟨W,hW,h8⟩:=bG h;refine .inr (.inr ⟨pv,_,h8,fun hon=>?_⟩);have hname' : fn.name ≠ "runtime.NumGoroutine" := by
  unfold CX at hname;rw[hfn]at hname;simpa using hname
 have hDoes:=(hE zs H' _ _ _ _ hres hpre).2 hb1 pv rfl;have hf1:∀k k',old rn k=some k'->decide (k'<100)=true/\k=bC rn k':=λk k' hk=>by
  obtain⟨_,b,_,d⟩:=F.gV _ _ (CR hk);exact⟨aL b,(CL d).symm⟩
 have hf2:∀k k',jJ fr rn k=some k'->fU fr (rn.map nV) k'=true/\k=back fr (rn.map nV) k':=λk k' hk=>by
  unfold jJ at hk;split at hk
  .rename_i hle
   have hle:=eJ hle;split at hk
   .rename_i hlt
    have hlt:k<108:=eJ hlt;cases hk;refine⟨?_,?_⟩
    .unfold fU
     rw[lN,bA];exact .inl ⟨aL (by omega),aL (by omega)⟩
    .unfold back
     rw[aE ⟨by omega,by omega⟩];omega
   .cases hk
  .have hm:=mR hk
   obtain⟨_,_,c3,_⟩:=F.gV _ _ hm;have hlook:=Kp F hm;refine⟨?_,?_⟩
   .unfold fU
    rw[lN,hlook];exact .inr rfl
   .unfold back
    rw[aC c3];unfold bC;rw[hlook]
 have hkeys:(HA H').map (·.1)=rn.map (·.1):=by
  rw[<-Qy hH'];unfold HA;rw[nG];rfl
 have hkey:∀{p:Nat×aM},p∈HA H'->∃q,(p.1,q)∈rn:=λ{p} hp=>by
  have:p.1∈rn.map (·.1):=hkeys ▸ eK.2 ⟨p,hp,rfl⟩;obtain⟨⟨a,b⟩,hm,e⟩:=eK.1 this;simp only at e;subst e;exact⟨b,hm⟩
 have hkey':∀{new q:Nat},(new,q)∈rn->∃p∈HA H',p.1=new:=λ{new q} hm=>by
  have:new∈(HA H').map (·.1):=hkeys ▸ eK.2 ⟨_,hm,rfl⟩;obtain⟨p,hp,e⟩:=eK.1 this;exact⟨p,hp,e⟩
 have hrnm:∀{new q:Nat},(new,q)∈rn->bC rn new=q:=λhm=>CL (F.gV _ _ hm).2.2.2
 refine aSY (ds:=zs.map X.D) (H:=HA H') (H'':=HA H2) rn (rn.map nV) ?_ hDoes (T4 hf1 (λp hp=>hrnm hp) hH') ?_ ?_ ?_
 .intro E σ₁ ν G w a hT hHH I
  have hfv:=I.ev (St.cP hT (aY hσ hon hfo));obtain⟨v,hv⟩:∃v,a.eval fo=v:=⟨_,rfl⟩
  rw[hv]at hfv;unfold X.D at hfv;cases hfv with
  | @fn _ vs _ hvl hvd=>
    have hL:=(u6 hf1 ys zs hzs (H:=σ.den.H)).get;rw[fA,fA]at hL;have hlen:args.toList.length+caps.length=zs.length:=by
     have e1:=hD.len;have e2:=hL.1;simp only[cQ,bF]at e1 e2;omega
    have hvl':vs.size=caps.length:=by rw[hvl,fA,cQ]
    refine⟨args.toList.map a.eval++vs.toList,?_,?_,λt d' ht=>?_⟩
    .unfold execOp
     rw[ho];have:(args.toList.map a.eval++vs.toList).toArray=args.map a.eval++vs:=by
      apply tY;simp
     rw[this];simp only[resolve,hv,Deferred.ofValue,invoke,Sem.run_bind,Sem.run_pure,Result.andThen_ok,aXd];exact o9 hfn hname' (by rw[hb];exact λe=>by cases e) _ w
    .simp only[bF,cQ,nK]at hlen ⊢
     omega
    .have htl:t<zs.length:=by have:=(bP.1 ht).1;simpa using this
     obtain⟨dy,hdy⟩:∃dy,(ys.map X.D)[t]?=some dy:=⟨_,bM (by rw[hL.1,cQ];exact htl)⟩
     obtain⟨d0,hd0,hwk⟩:=hD.get t dy hdy;have hle:=hL.2 t dy d' hdy ht;rw[cD]at hd0;obtain⟨x0,hx0,rfl⟩:=b9.1 hd0;have hval:∃u,(args.toList.map a.eval++vs.toList)[t]?=some u/\DR ν σ₁.nm w G u x0.D:=by
      by_cases hlt:t<args.toList.length
      .rw[cZ (by omega)]at hx0
       obtain⟨p,hp,hpv⟩:=hev t x0 hx0;refine⟨a.eval p,?_,I.ev (St.cP hT (aY hσ hon hpv))⟩;rw[cZ (by rw[cQ];exact hlt),cD,hp];rfl
      .rw[eE (by omega),hl]at hx0
       have hi:t-args.toList.length<vs.size:=by rw[hvl'];exact(bP.1 hx0).1
       refine⟨vs[t-args.toList.length],?_,hvd _ _ _ (iM hi) (by rw[fA,cD,hx0];rfl)⟩;rw[eE (by rw[cQ];omega),cQ,aED,iM hi]
     obtain⟨u,hu,hdr⟩:=hval;exact⟨u,dy,hu,hwk E σ₁ ν G w a.tmps hHH I u hdr,hle⟩
 .have hlk:∀p∈H2,Ab.look p.1 (HA H2)=some p.2.A:=λp hp=>by
   rw[vE,R5 hnd p hp];rfl
  have:=T0 hf2 (Lx (H2:=HA H2) (nm':=fU fr (rn.map nV)) (ρ:=back fr (rn.map nV)) (H':=H2) rn) hlk hW;unfold WA at this ⊢;rw[l7];exact this
 .unfold AW
  rw[bA];refine⟨cT.2 λp hp=>?_,cT.2 λp hp=>?_⟩
  .obtain⟨q,hm⟩:=hkey hp
   rw[hrnm hm];have hq:∃x,(q,x)∈W++gone H2 rn:=by
    cases hlk:lk p.1 H2 with
    |none=>exact⟨none,aXL _ (L4 hm hlk)⟩
    |some o=>
      obtain⟨_,b,_,d⟩:=F.gV _ _ hm;have hbk:jJ fr rn p.1=some q:=by
       unfold jJ;rw[show j3 100 p.1=false by
        cases hble:j3 100 p.1 with
        |false=>rfl
        |true=>have:=eJ hble;omega]
       exact d
      obtain⟨x,hx⟩:=TJ hbk hW hlk;exact⟨x,aXM _ hx⟩
   obtain⟨x,hx⟩:=hq;obtain⟨y,hy⟩:=CZ (l:=WA (W++gone H2 rn)) (k:=q) (eK.2 ⟨(q,x.map XO.A),eK.2 ⟨_,hx,rfl⟩,rfl⟩);rw[hy];rfl
  .obtain⟨⟨q,x⟩,hm,rfl⟩:=eK.1 hp
   rw[lN];have hin:(∃new,(new,q)∈rn)->(HA H').any (λz=>bC rn z.1 == q)=true:=λ⟨new,hn⟩=>by
    obtain⟨p,hp,e⟩:=hkey' hn;exact jN.2 ⟨p,hp,by rw[e,hrnm hn];exact AY _⟩
   rcases nF.1 hm with hm|hm
   .obtain⟨k0,hk0⟩:=TK hW hm
    unfold jJ at hk0;split at hk0
    .rename_i hle
     have hle:=eJ hle;split at hk0
     .rename_i hlt
      have hlt:k0<108:=eJ hlt;cases hk0;left;rw[bA];exact⟨aL (Te ..),aL (by simp only;omega)⟩
     .cases hk0
    .exact .inr (hin ⟨k0,mR hk0⟩)
   .exact .inr (hin (L5 hm))
 .unfold qZ
  simp only[bA];refine⟨⟨⟨cT.2 λp hp=>?_,aL ?_⟩,cT.2 λp hp=>?_⟩,cT.2 λp hp=>?_⟩
  .obtain⟨q,hm⟩:=hkey hp
   obtain⟨a,b,_,_⟩:=F.gV _ _ hm;rw[bA];exact⟨aL a,aL b⟩
  .have:(HA H').map (λp=>bC rn p.1)=rn.map (·.2):=by
    have e:(HA H').map (λp=>bC rn p.1)=((HA H').map (·.1)).map (bC rn):=by rw[nG];rfl
    rw[e,hkeys,nG];exact aXP λp hp=>hrnm hp
   rw[this];exact F.nd
  .obtain⟨q,hm⟩:=hkey hp
   rw[hrnm hm,Kp F hm];exact AY _
  .obtain⟨⟨new,q⟩,hm,rfl⟩:=eK.1 hp
   obtain⟨p,hp',e⟩:=hkey' hm;refine jN.2 ⟨p,hp',?_⟩;rw[bA,e,hrnm hm];exact⟨AY _,AY _⟩
theorem aRM(hG:tV c.P c.Gp)(hσ:σ.Ok κ){fo:Operand}{args:Array Operand}{tys:Array TypeId}{f:FuncId}{caps:List X}{g:tW}(ho:o.op = .call { callee:=.value fo,args:=args,argTypes:=tys })(hfo:σ.ev fo=some (.fn f caps))(hg:lk f c.Gp=some g)(hgn:σ.g=none)(h:σ.tM args.toList (λxs=>TE c σ fr f g (xs++caps) k kp)=some r):dL c σ fr o k r\/∃v W,kp v W=some r/\(σ.On->rG c.P o σ.den fr v (WA W)):=by
 obtain⟨asL,h1,hl,hev⟩:=Lf h;clear h;unfold TE at h1;obtain⟨fn,hfn,h3⟩:=bG h1;clear h1;split at h3
 .cases h3
 rename_i code hb;rcases aBV hG hσ hgn ho hfo hl hev hg hfn hb (Ls c σ _ _) h3 with h|h
 .rcases aBV hG hσ hgn ho hfo hl hev hg hfn hb dM.refl h with h|h
  .cases h
  .exact h
 .exact h
theorem aRN(hG:tV c.P c.Gp):MA c:=λσ κ fr o k kp els r hσ hgn h=>by
 unfold Ku at h;split at h
 .rename_i x ho
  obtain⟨v,hv,h⟩:=bG h;split at h
  case h_2=>cases h
  rename_i t w;refine .inr (.inr ⟨_,_,h,λhon=>?_⟩);intro E σ₁ a wd hT hH h100 hf hR;obtain⟨ν,G,I⟩:=id hR;have hd:=I.ev (St.cP hT (aY hσ hon hv));have he:a.eval x = .iface t w:=bY hd;unfold Oper.wp execOp;rw[ho];have:(Instr.panic (a.eval x)).run c.P wd = .halt (.panic (.iface t w)) wd:=by rw[he];rfl
  simp only[this,Sem.run_bind,Result.andThen];exact⟨rfl,rfl,ν,G,I.put (dst:=none) (v:=undef) (d:=.any) .any (λ_ h=>by cases h) fr a rfl⟩
 .rename_i f args tys ho
  split at h
  .rename_i g caps hf
   split at h
   .rename_i gp hg
    exact .inr (aRM hG hσ ho hf hg hgn h)
   .exact .inl h
  .exact .inl h
 .exact .inl h
end
end Go.Ax
/- What a printed text needs. -/
namespace Go.Ax
open aA
open Go.RowKit Go.Ab
theorem cM{c:Cx}(hm:c.P.follows .mixedOrders=true)(hG:oM c.P c.G)(hGp:tV c.P c.Gp):aJ c:=⟨hm,aQ1 hG,aRN hGp⟩
def Ag(c:Cx)(M:Nat)(h:Hint)(code:Code):Prop:=match h with
 |.sub _ _ _ _ I1 I2 I3 L=>dB c M code I1 I2 I3 L
 |.d=>True
 |.jS ..=>True
 |.seq x y=>match code with
   |.seq a b=>Ag c M x a/\Ag c M y b
   |_=>False
 |.cond x y=>match code with
   |.cond _ a b=>Ag c M x a/\Ag c M y b
   |_=>False
 |.block x=>match code with
   |.block _ a=>Ag c M x a
   |.scope a=>Ag c M x a
   |_=>False
theorem bW{c:Cx}{M:Nat}:∀(h:Hint)(code:Code),Ag c M h code->bN c M h code
 |.sub ..,code,h=>by
   unfold bN;cases code <;> exact h
 |.d,code,_=>dS code
 |.jS a b d,code,_=>by
   cases code with
   |seq a b=>exact⟨dS a,dS b⟩
   |cond x a b=>exact⟨dS a,dS b⟩
   |block i a=>exact dS a
   |scope a=>exact dS a
   |_=>exact trivial
 |.seq x y,code,h=>by
   cases code with
   |seq a b=>exact⟨bW x a h.1,bW y b h.2⟩
   |_=>exact h.elim
 |.cond x y,code,h=>by
   cases code with
   |cond z a b=>exact⟨bW x a h.1,bW y b h.2⟩
   |_=>exact h.elim
 |.block x,code,h=>by
   cases code with
   |block i a=>exact bW x a h
   |scope a=>exact bW x a h
   |_=>exact h.elim
def cX:List Nat->Code->Code
 |[],c=>c
 |0::l,.seq a _=>cX l a
 |1::l,.seq _ b=>cX l b
 |0::l,.cond _ a _=>cX l a
 |1::l,.cond _ _ b=>cX l b
 |0::l,.block _ a=>cX l a
 |0::l,.loop a=>cX l a
 |0::l,.scope a=>cX l a
 |_,c=>c
theorem cN.wk{P:Program}{f:FuncId}{ds ds':List D}{H:List (Nat×aM)}{r:D}{H':List (Nat×aM)}(h:cN P f ds' H r H')(hw:dM (λk=>Ab.look k H) ds ds'):cN P f ds H r H':=λE w vs h1 h2 h3 ⟨ν,G,I⟩=>by
 refine h E w vs h1 h2 (h3.trans hw.len) ⟨ν,G,{ I with T:=λt d' ht=>?_ }⟩;obtain⟨d,hd,hwk⟩:=hw.get t d' ht;obtain⟨v,hv,hr⟩:=I.T t d hd;exact⟨v,hv,hwk E _ ν G w vs (λ_ _ h=>h) I v hr⟩
theorem dM.two{H:Nat->Option aM}{a b a' b':D}(h:bR H a a')(k:bR H b b'):dM H [a,b] [a',b']:=.cons h (.cons k .nil)
theorem aV.e0{P:Program}{f:FuncId}{g:Bool×aH}(h:g.1=true->cN P f [] [] g.2.1.D (HA g.2.2)):aV P f (E0 g):=λxs H pre r he hp=>by
 unfold E0 at he;split at he
 .cases he;exact h hp
 .cases he
theorem aV.e1{P:Program}{f:FuncId}{a:Ty}{g:a.V->Bool×aH}(h:∀x,(g x).1=true->cN P f [(gT a x).D] [] (g x).2.1.D (HA (g x).2.2)):aV P f (E1 a g):=λxs H pre r he hp=>by
 unfold E1 at he;split at he
 .split at he
  .rename_i y hy
   have he:=eX he;have h1:=aO A8 he;have h2:=aO A7 he;simp only at h1 h2;rw[<-h2];exact cN.wk (h y (h1.trans hp)) (.cons (kQ hy) .nil)
  .cases he
 .cases he
theorem aV.e2{P:Program}{f:FuncId}{a b:Ty}{g:a.V->b.V->Bool×aH}(h:∀x y,(g x y).1=true->cN P f [(gT a x).D,(gT b y).D] [] (g x y).2.1.D (HA (g x y).2.2)):aV P f (E2 a b g):=λxs H pre r he hp=>by
 unfold E2 at he;split at he
 .split at he
  .rename_i y hy
   split at he
   .rename_i z hz
    have he:=eX he;have h1:=aO A8 he;have h2:=aO A7 he;simp only at h1 h2;rw[<-h2];exact cN.wk (h y z (h1.trans hp)) (.cons (kQ hy) (.cons (kQ hz) .nil))
   .cases he
  .cases he
 .cases he
theorem aV.e3{P:Program}{f:FuncId}{a b d:Ty}{g:a.V->b.V->d.V->Bool×aH}(h:∀x y z,(g x y z).1=true->cN P f [(gT a x).D,(gT b y).D,(gT d z).D] [] (g x y z).2.1.D (HA (g x y z).2.2)):aV P f (E3 a b d g):=λxs H pre r he hp=>by
 unfold E3 at he;split at he
 .split at he
  .rename_i y hy
   split at he
   .rename_i z hz
    split at he
    .rename_i u hu
     have he:=eX he;have h1:=aO A8 he;have h2:=aO A7 he;simp only at h1 h2;rw[<-h2];exact cN.wk (h y z u (h1.trans hp)) (.cons (kQ hy) (.cons (kQ hz) (.cons (kQ hu) .nil)))
    .cases he
   .cases he
  .cases he
 .cases he
theorem aV.e4{P:Program}{f:FuncId}{a b d e:Ty}{g:a.V->b.V->d.V->e.V->Bool×aH}(h:∀x y z u,(g x y z u).1=true->cN P f [(gT a x).D,(gT b y).D,(gT d z).D,(gT e u).D] [] (g x y z u).2.1.D (HA (g x y z u).2.2)):aV P f (E4 a b d e g):=λxs H pre r he hp=>by
 unfold E4 at he;split at he
 .split at he
  .rename_i y hy
   split at he
   .rename_i z hz
    split at he
    .rename_i u hu
     split at he
     .rename_i v hv
      have he:=eX he;have h1:=aO A8 he;have h2:=aO A7 he;simp only at h1 h2;rw[<-h2];exact cN.wk (h y z u v (h1.trans hp)) (.cons (kQ hy) (.cons (kQ hz) (.cons (kQ hu) (.cons (kQ hv) .nil))))
     .cases he
    .cases he
   .cases he
  .cases he
 .cases he
def AS(a b:Nat):Bool:=!(aX a b)
theorem jY{a b:Nat}(h:AS a b=true):a≠b:=λe=>by
 subst e;simp[AS]at h
theorem b7{τ:Ty}{x:X}{y:τ.V}(h:ue τ x=some y):x = .e τ y:=by
 unfold ue at h;split at h
 .rename_i τ' z
  generalize eS τ' τ=p at h;cases p with
  |none=>cases h
  |some q=>obtain⟨q⟩:=q;subst q;cases h;rfl
 .cases h
theorem lD{e:TypeId}{τ:Ty}{st:Bool}{x:XO}{l:List τ.V}(h:ur e τ st x=some l):x = .row e τ l st:=by
 unfold ur at h;split at h
 .rename_i e' τ' z st'
  split at h
  .rename_i hb
   rw[bA]at hb;have h1:=bH hb.1;have h2:=eq_of_beq hb.2;subst h1 h2;generalize eS τ' τ=p at h;cases p with
   |none=>cases h
   |some q=>obtain⟨q⟩:=q;subst q;cases h;rfl
  .cases h
 .cases h
theorem aV.f1{P:Program}{f:FuncId}{a:Ty}{q:FuncId}{g:a.V->Bool×aH}(h:∀x,(g x).1=true->cN P f [(gT a x).D,(X.fn q []).D] [] (g x).2.1.D (HA (g x).2.2)):aV P f (v8 a q g):=λxs H pre r he hp=>by
 unfold v8 at he;split at he
 .split at he
  .rename_i hb
   have hb:=bH hb;subst hb;split at he
   .rename_i y hy
    have he:=eX he;have h1:=aO A8 he;have h2:=aO A7 he;simp only at h1 h2;rw[<-h2];exact cN.wk (h y (h1.trans hp)) (.cons (kQ hy) (.cons bR.refl .nil))
   .cases he
  .cases he
 .cases he
theorem aV.f2{P:Program}{f:FuncId}{a b:Ty}{q:FuncId}{g:a.V->b.V->Bool×aH}(h:∀x y,(g x y).1=true->cN P f [(gT a x).D,(gT b y).D,(X.fn q []).D] [] (g x y).2.1.D (HA (g x y).2.2)):aV P f (Tm a b q g):=λxs H pre r he hp=>by
 unfold Tm at he;split at he
 .split at he
  .rename_i hb
   have hb:=bH hb;subst hb;split at he
   .rename_i y hy
    split at he
    .rename_i z hz
     have he:=eX he;have h1:=aO A8 he;have h2:=aO A7 he;simp only at h1 h2;rw[<-h2];exact cN.wk (h y z (h1.trans hp)) (.cons (kQ hy) (.cons (kQ hz) (.cons bR.refl .nil)))
    .cases he
   .cases he
  .cases he
 .cases he
theorem Cb{P:Program}{f:FuncId}{δ:Type}{cE:List X->XH->Option δ}{p:δ->Bool}{R:δ->aH}{az:δ->List X}{HH:δ->XH}(hio:∀{xs H d},cE xs H=some d->xs=az d/\H=HH d)
    (h:∀d,p d=true->cN P f ((az d).map X.D) (HA (HH d)) (R d).1.D (HA (R d).2)):aV P f (vO cE p R):=λxs H pre r he hp=>by
 unfold vO at he;split at he
 .rename_i d hd
  have he:=eX he;have h1:=aO A8 he;have h2:=aO A7 he;simp only at h1 h2;obtain⟨e1,e2⟩:=hio hd;rw[e1,e2,<-h2];exact h d (h1.trans hp)
 .cases he
theorem aV.or{P:Program}{f:FuncId}{g g':bO}(h:aV P f g)(k:aV P f g'):aV P f (Tl g g'):=λxs H pre r he hp=>by
 unfold Tl at he;split at he
 .rename_i r' hr
  cases he;exact h xs H pre r hr hp
 .exact k xs H pre r he hp
end Go.Ax
/- Contracts of library functions. -/
namespace Go.Ax
open aA
open Go.RowKit Go.Ab
theorem cN.lib{P:Program}{f:FuncId}{ds:List D}{d:D} (h:∀(w:World),CC w->∀(G:bQ)(ν:Nat->Value)(nm:Nat->Bool)(vs:Array Value),vs.size=ds.length->(∀(i:Nat)(d':D),ds[i]?=some d'->∃v,vs[i]?=some v/\DR ν nm w G v d')->
    Calls P f vs w λe w'=>∃v,e = .returned v/\bB w w'/\∃G',(∀b,b<w.heap.size->G' b=G b)/\∀ν nm,DR ν nm w' G' v d):cN P f ds [] d []:=by
 intro E w vs hE0 hm hsz ⟨ν,G,I⟩;refine(h w (hE0 ▸ E.tC E.w0 (bX _) λ_ _ _=>rfl) G ν _ vs hsz (λi d' hd=>I.T i d' hd)).mono ?_;rintro e w' ⟨v,rfl,hA,G',hG,hd⟩;have J:=I.dI hA hG;exact⟨v,rfl,ν,G',⟨J.kept.os,J.kept.tape,J.kept.output,J.kept.size,J.kept.block⟩,J.cS,J.eL,J.g0,rfl,λt d' ht=>by
  cases t with
  |zero=>cases ht;exact⟨v,rfl,hd _ _⟩
  |succ t=>exact absurd (show(none:Option D)=some _ from ht) (by simp),λk o hk=>absurd (show(none:Option aM)=some _ from hk) (by simp),λk o k' o' hk=>absurd (show(none:Option aM)=some _ from hk) (by simp)⟩
abbrev cR(P:Program)(f:FuncId)(xs:List X)(H:XH)(R:aH):Prop:=cN P f (xs.map X.D) (HA H) R.1.D (HA R.2)
theorem dO{α:Type}{z:Option α}{P:Program}{f:FuncId}{ds:List D}{H:List (Nat×aM)}{R:α->aH}{R':aH}{v:α}(h:z.isSome=true)(fin:∀{d},z=some d->cN P f ds H (R d).1.D (HA (R d).2))(re:R'=R (z.getD v)):cN P f ds H R'.1.D (HA R'.2):=by
 obtain⟨d,hd⟩:=Option.isSome_iff_exists.1 h;rw[re,hd];exact fin hd
theorem c8{c:Cx}(hc:aJ c){f:FuncId}{fn:Func}{code:Code}(hf:c.P.funcs[f]?=some fn)(hb:fn.body=some code){h:Hint}(hh:bN c fn.ntmps h code){xs:List X}{H:XH}(hm:j3 xs.length fn.ntmps=true){ow:Bool}{α:Type}{w:O}{un:aH->Option α}{d:α}{R:aH}(uo:∀{r},un r=some d->r=R)
    (he:∀{r},w=some r->exec c fn.ntmps h code ⟨cC 0 xs,H,100⟩ (cJ c fn ow)=some r) (hd:w.bind un=some d) {y:D} (cv:jO c.P f (xs.map X.D) (HA H) R=cN c.P f (xs.map X.D) (HA H) y (HA R.2):=by rfl):cN c.P f (xs.map X.D) (HA H) y (HA R.2):=by
 obtain⟨r,hr,hu⟩:=jK.1 hd;have:=oC (r:=r) hc hf hb hh (eJ hm) (he hr);rw[uo hu]at this;exact cv.mp this
theorem iZ{Y:Type}(v:Exit->Sg->Y){X:Y->Exit×Sg}(e:Exit)(h:∀y,v (X y).1 (X y).2=y)(x:∀y,eU (X y).1=eU e)(n:(AS (eU e) 7&&AS (eU e) 9)=true):pQ v (λ_ _=>()) (λ_ _=>()) X (aR 1) (aR 2) (eU e) (eU (.goto 1)) (eU (.goto 2)):=
 ⟨h,λ_=>rfl,λ_=>rfl,x,λ_=>rfl,λ_=>rfl,jY (Cp.1 n).1,jY (Cp.1 n).2,jY rfl⟩
theorem jI{Y Y':Type}(v:Exit->Sg->Y)(v':Exit->Sg->Y'){X:Y->Exit×Sg}{X':Y'->Exit×Sg}(e e':Exit)(h:∀y,v (X y).1 (X y).2=y)(h':∀y,v' (X' y).1 (X' y).2=y)(x:∀y,eU (X y).1=eU e)(x':∀y,eU (X' y).1=eU e')(n:(AS (eU e) (eU e')&&(AS (eU e) 9&&AS (eU e') 9))=true):pQ v v' (λ_ _=>()) X X' (aR 2) (eU e) (eU e') (eU (.goto 2)):=
 ⟨h,h',λ_=>rfl,x,x',λ_=>rfl,jY (Cp.1 n).1,jY (Cp.1 (Cp.1 n).2).1,jY (Cp.1 (Cp.1 n).2).2⟩
end Go.Ax
/- What came in as an argument and reads as data is data of the run. -/
namespace Go.Ax
open Go.RowKit Go.Ab Go.WideShapes
def Tp(w:World)(G:bQ)(v:Value)(d:D):Prop:=DR (λ_=>.nilFunc) (λ_=>false) w G v d
def jC(w:World)(b:Nat):Nat:=match w.heap[b]? with|some (.cells c _ _)=>c.size|_=>0
theorem Sz{w:World}{b i:Nat}{u:Value}(hc:w.cell? ⟨b,i,none⟩=some u):Cell w (jC w) b i u:=by
 refine⟨hc,?_⟩;unfold World.cell? at hc;unfold jC;split at hc
 .rename_i cs _ _ hh
  rw[hh];simp only[Option.isSome_none,Aj,if_false]at hc ⊢;exact(Array.getElem?_eq_some_iff.1 hc).1
 .cases hc
theorem aQ3{w:World}{a:Addr}{u:Value}(h:w.cell? a=some u):a=⟨a.block,a.off,none⟩:=by
 obtain⟨b,o,s⟩:=a;cases s with
 |none=>rfl
 |some s=>
   unfold World.cell? at h;split at h <;> simp at h
def Fg:Ty->Nat
 |.i .i64=>8
 |.i .u64=>8
 |.i _=>1
 |.u8=>1
 |.bo=>1
 |.tx=>16
 |.ex=>1
 |.un=>0
 |.sl _=>24
 |.pr a b=>Fg a+Fg b
def AR(P:Program)(q:Ty->TypeId->Bool):Ty->Nat->List Field->Bool
 |τ,o,[f]=>q τ f.type&&aX f.offset o&&aX (P.cellsOf f.type) τ.size
 |.pr a b,o,f::g::fs=>q a f.type&&aX f.offset o&&aX (P.cellsOf f.type) a.size&&AR P q b (o+a.size) (g::fs)
 |_,_,_=>false
def A5(q:Ty->TypeId->Bool)(e:TypeId):Ty->Nat->Bool
 |τ,1=>q τ e
 |.pr a b,n+2=>q a e&&A5 q e b (n+1)
 |_,_=>false
def AA(P:Program):Nat->Ty->TypeId->Bool
 |0,_,_=>false
 |n+1,τ,t=>match τ,P.underlying t with
   |.i k,some (.int k')=>decide (k'=k)
   |.u8,some (.int .u8)=>true
   |.bo,some .bool=>true
   |.tx,some .string=>true
   |.sl a,some (.slice e)=>AA P n a e&&aX (P.cellsOf e) a.size&&(j3 (Fg a) (P.bytesOf e)&&Nat.blt 0 a.size)
   |.pr a b,some (.struct fs)=>aX (P.cellsOf t) (a.size+b.size)&&AR P (AA P n) (.pr a b) 0 fs.toList
   |.pr a b,some (.array k e)=>aX (P.cellsOf t) (a.size+b.size)&&A5 (λτ e=>AA P n τ e&&aX (P.cellsOf e) τ.size) e (.pr a b) k
   |_,_=>false
def pS:(τ:Ty)->τ.V->Prop
 |.i k,x=>(Lit.int k x).wf=true
 |.sl e,l=>∀y,List.Mem y (show List e.V from l)->pS e y
 |.pr a b,x=>pS a x.1/\pS b x.2
 |_,_=>True
def tS:(τ:Ty)->τ.V->Prop
 |.tx,s=>dX (α:=UInt8) s<=reachBytes
 |.sl e,l=>dX (α:=e.V) l*Fg e<=reachBytes/\∀y,List.Mem y (show List e.V from l)->tS e y
 |.pr a b,x=>tS a x.1/\tS b x.2
 |_,_=>True
def jD(w:World)(cs:List Value)(ts:List Tree):Prop:=cs.length=ts.length/\∀(i:Nat)(u:Value)(t:Tree),cs[i]?=some u->ts[i]?=some t->TR w (jC w) u t
theorem jD.one{w:World}{u:Value}{t:Tree}(h:TR w (jC w) u t):jD w [u] [t]:=⟨rfl,λi u' t' hu ht=>by
 cases i with
 |zero=>cases hu;cases ht;exact h
 |succ i=>cases hu⟩
theorem jD.app{w:World}{a b:List Value}{s t:List Tree}(h:jD w a s)(k:jD w b t):jD w (a++b) (s++t):=⟨by rw[bF,bF,h.1,k.1],λi u x hu hx=>by
 by_cases hi:i<a.length
 .rw[cZ hi]at hu
  rw[cZ (by rw[<-h.1];exact hi)]at hx;exact h.2 i u x hu hx
 .rw[eE (by omega)]at hu
  rw[eE (by have:=h.1;omega)]at hx;rw[h.1]at hu;exact k.2 _ u x hu hx⟩
theorem Rv{α:Type}{Q:Nat->α->Prop}:∀n:Nat,(∀i,i<n->∃v,Q i v)->∃l:List α,l.length=n/\∀(i:Nat)(v:α),l[i]?=some v->Q i v
 |0,_=>⟨[],rfl,λi v h=>by cases h⟩
 |n+1,h=>by
   obtain⟨l,hl,hQ⟩:=Rv n λi hi=>h i (by omega)
   obtain⟨v,hv⟩:=h n (by omega);refine⟨l++[v],by simp[hl],λi u hu=>?_⟩;by_cases hi:i<n
   .rw[cZ (by omega)]at hu
    exact hQ i u hu
   .have hlt:=(bP.1 hu).1
    have:i=n:=by simp[hl]at hlt;omega
    subst this;rw[eE (by omega),hl,Nat.sub_self]at hu;cases hu;exact hv
theorem flat_get{α:Type}{f:α->List Tree}{s:Nat}(h:∀x,(f x).length=s):∀(l:List α)(q r:Nat)(x:α),l[q]?=some x->r<s->(l.flatMap f)[q*s+r]?=(f x)[r]?
 |[],q,r,x,hx,_=>by cases hx
 |y::l,0,r,x,hx,hr=>by
   cases hx;rw[fS,pT,cY,cZ (by rw[h];exact hr)]
 |y::l,q+1,r,x,hx,hr=>by
   rw[fS,eE (by rw[h,iH];omega),h,show(q+1)*s+r-s=q*s+r by rw[iH];omega];exact flat_get h l q r x hx hr
theorem UB{H:Type}{P:Program}{e:TypeId}:∀{l:List (DataW H)}{d:DataW H}{m:Nat},d∈l->m∈d.weights P e->m∈DataW.weightsAll P e l
 |[],d,m,h,_=>by cases h
 |x::l,d,m,h,hm=>by
   simp only[DataW.weightsAll,nF];rcases eD.1 h with rfl|h
   .exact .inl hm
   .exact .inr (UB h hm)
section
variable{H:Type}{enc:TypeId×Value->H}{P:Program}{w:World}{base:Nat}{spare:Nat->Bool}{held:Bool}
def Tc(enc:TypeId×Value->H)(P:Program)(w:World)(base:Nat)(spare:Nat->Bool)(held:Bool)(τ:Ty)(t:TypeId):Prop:=
 ∀(fuel:Nat)(cs:List Value)(x:DataW H×List MemPlace),DataW.trod enc P w base spare held fuel t cs=some x->
  ∃v:τ.V,pS τ v/\jD w cs (aI τ v)/\((∀m∈x.1.weights P t,m<=reachBytes)->tS τ v)
theorem aB0{q:Ty->TypeId->Bool}(hq:∀τ t,q τ t=true->Tc enc P w base spare held τ t)(n:Nat):∀(fs:List Field)(τ:Ty)(o:Nat)(cs:List Value)(xs:List (DataW H×List MemPlace)),AR P q τ o fs=true->cs.length=o+τ.size->xs.length=fs.length->
    (∀(i:Nat)(f:Field),fs[i]?=some f->DataW.trod enc P w base spare held n f.type ((cs.drop f.offset).take (P.cellsOf f.type))=xs[i]?)->
    ∃v:τ.V,pS τ v/\jD w (cs.drop o) (aI τ v)/\((∀m∈DataW.weightsEach P (fs.map (·.type)) (xs.map (·.1)),m<=reachBytes)->tS τ v)
 |[],τ,o,cs,xs,h,_,_,_=>by cases τ <;> simp[AR]at h
 |[f],τ,o,cs,xs,h,hl,hx,ht=>by
   have h':(q τ f.type&&aX f.offset o&&aX (P.cellsOf f.type) τ.size)=true:=by cases τ <;> simpa[AR]using h
   simp only[bA]at h';obtain⟨⟨h1,h2⟩,h3⟩:=h';have h2:=bH h2;have h3:=bH h3
   match xs,hx with
   |[x],_=>
     have g:=ht 0 f rfl;rw[h2,h3,iS (by rw[jM];omega)]at g;obtain⟨v,v1,v2,v3⟩:=hq τ f.type h1 n _ x g;refine⟨v,v1,v2,λhm=>v3 λm hm'=>hm m ?_⟩;simp[DataW.weightsEach,hm']
 |f::g::fs,τ,o,cs,xs,h,hl,hx,ht=>by
   cases τ with
   |pr a b=>
     simp only[AR,bA]at h;obtain⟨⟨⟨h1,h2⟩,h3⟩,h4⟩:=h;have h2:=bH h2;have h3:=bH h3
     match xs,hx with
     |x::xs,hx=>
       have e:=ht 0 f rfl;rw[h2,h3]at e;obtain⟨v,v1,v2,v3⟩:=hq a f.type h1 n _ x e;have hsz:(Ty.pr a b).size=a.size+b.size:=rfl;obtain⟨u,u1,u2,u3⟩:=aB0 hq n (g::fs) b (o+a.size) cs xs h4 (by omega) (by simpa using hx) λi f' hf=>ht (i+1) f' hf
       refine⟨(v,u),⟨v1,u1⟩,?_,λhm=>⟨v3 λm hm'=>hm m ?_,u3 λm hm'=>hm m ?_⟩⟩
       .have hd:cs.drop o=(cs.drop o).take a.size++cs.drop (o+a.size):=by
         rw[<-aXU,aDq]
        rw[hd];exact v2.app u2
       .simp only[gL,DataW.weightsEach,nF]
        exact .inl hm'
       .simp only[gL,DataW.weightsEach,nF]at hm' ⊢
        exact .inr hm'
   |_=>simp[AR]at h
theorem trod_array{t e:TypeId}{n fuel:Nat}{cs:List Value}{x:DataW H×List MemPlace}(ht:P.underlying t=some (.array n e))(h:DataW.trod enc P w base spare held fuel t cs=some x):
    ∃xs:List (DataW H×List MemPlace),x.1 = .agg (xs.map (·.1))/\cs.length=P.cellsOf t/\xs.length=n/\∃m,∀i,i<n->DataW.trod enc P w base spare held m e ((cs.drop (i*P.cellsOf e)).take (P.cellsOf e))=xs[i]?:=by
 cases fuel with
 |zero=>cases h
 |succ m=>
   unfold DataW.trod at h;rw[ht]at h;split at h <;> simp_all;obtain⟨hl,xs,hp,hd⟩:=h;refine⟨xs,by rw[<-hd],by simpa using Lib.mapM_length hp,m,λi hi=>?_⟩;obtain⟨u,hu,hfu⟩:=Lib.mapM_at hp i i (by rw[MG hi]);rw[hu];exact hfu
theorem aB1{q:Ty->TypeId->Bool}(hq:∀τ t,q τ t=true->Tc enc P w base spare held τ t/\P.cellsOf t=τ.size)(m:Nat)(e:TypeId):∀(n:Nat)(τ:Ty)(cs:List Value)(xs:List (DataW H×List MemPlace)),A5 q e τ n=true->cs.length=τ.size->xs.length=n->
    (∀i,i<n->DataW.trod enc P w base spare held m e ((cs.drop (i*P.cellsOf e)).take (P.cellsOf e))=xs[i]?)->
    ∃v:τ.V,pS τ v/\jD w cs (aI τ v)/\((∀m∈DataW.weightsAll P e (xs.map (·.1)),m<=reachBytes)->tS τ v)
 |0,τ,cs,xs,h,_,_,_=>by cases τ <;> simp[A5]at h
 |1,τ,cs,xs,h,hl,hx,ht=>by
   have h':q τ e=true:=by cases τ <;> simpa[A5]using h
   obtain⟨h1,h2⟩:=hq τ e h'
   match xs,hx with
   |[x],_=>
     have g:=ht 0 (by omega);rw[pT,fV,iS (by omega)]at g;obtain⟨v,v1,v2,v3⟩:=h1 m _ x g;exact⟨v,v1,v2,λhm=>v3 λk hk=>hm k (by simp[DataW.weightsAll,hk])⟩
 |n+2,τ,cs,xs,h,hl,hx,ht=>by
   cases τ with
   |pr a b=>
     simp only[A5,bA]at h;obtain⟨h1,h2⟩:=h;obtain⟨h3,h4⟩:=hq a e h1
     match xs,hx with
     |x::xs,hx=>
       have g:=ht 0 (by omega);rw[pT,fV,h4]at g;obtain⟨v,v1,v2,v3⟩:=h3 m _ x g;have hsz:(Ty.pr a b).size=a.size+b.size:=rfl;obtain⟨u,u1,u2,u3⟩:=aB1 hq m e (n+1) b (cs.drop a.size) xs h2 (by rw[jM];omega) (by simpa using hx) λi hi=>by
        have:=ht (i+1) (by omega);rw[aXU,h4];rw[h4,iH,Nat.one_mul,Nat.add_comm]at this;exact this
       refine⟨(v,u),⟨v1,u1⟩,?_,λhm=>⟨v3 λk hk=>hm k ?_,u3 λk hk=>hm k ?_⟩⟩
       .have:=v2.app u2
        rw[aDq]at this;exact this
       .simp only[gL,DataW.weightsAll,nF]
        exact .inl hk
       .simp only[gL,DataW.weightsAll,nF]
        exact .inr hk
   |_=>simp[A5]at h
theorem opens(n:Nat):∀(τ:Ty)(t:TypeId),AA P n τ t=true->Tc enc P w base spare held τ t:=by
 induction n with
 |zero=>intro τ t h;cases h
 |succ n ih=>
   intro τ t h fuel cs x hx;unfold AA at h;split at h
   .rename_i k k' hu
    have:=cH h;subst this;obtain⟨z,rfl,rfl,hw⟩:=DataW.trod_int hu hx;exact⟨z,hw,.one (.v _ rfl),λ_=>trivial⟩
   .rename_i hu
    obtain⟨z,rfl,rfl,hw⟩:=DataW.trod_int hu hx;have hb:0<=z/\z<256:=by
     simp[Lit.wf]at hw;have h1:IntKind.u8.min=0:=rfl;have h2:IntKind.u8.max=255:=rfl;omega
    refine⟨gP z.toNat,trivial,?_,λ_=>trivial⟩;have e:aI .u8 (gP z.toNat)=[.v (.int .u8 z)]:=by
     show[Tree.v (.int .u8 ((gP z.toNat).toNat:Int))]=_;rw[UInt8.toNat_ofNat',show((z.toNat%2^8:Nat):Int)=z by omega]
    rw[e];exact .one (.v _ rfl)
   .rename_i hu
    obtain⟨z,rfl,rfl⟩:=DataW.trod_bool hu hx;exact⟨z,trivial,.one (.v _ rfl),λ_=>trivial⟩
   .rename_i hu
    obtain⟨z,rfl,rfl,hs⟩:=DataW.trod_string hu hx;refine⟨z.data.toList,trivial,.one (.v _ rfl),λhm=>?_⟩;exact hm _ (by simp[DataW.weights])
   .rename_i a e hu
    simp only[bA]at h;obtain⟨⟨h1,h2⟩,h3,h4⟩:=h;have h2:=bH h2;have h3:=eJ h3;rcases DataW.trod_slice hu hx with⟨rfl,rfl⟩|⟨ad,len,cap,elems,rest,m,_,rfl,rfl,hb,hlc,hcap,hel,hE,_,_⟩
    .exact⟨[],(λy hy=>by cases hy),.one (.nil λ_=>rfl),λ_=>⟨by simp,λy hy=>by cases hy⟩⟩
    .have hs:0<a.size:=eJ h4
     rw[h2]at hE;have hk:∀i,i<len->∃v:a.V,pS a v/\(∃ci,w.cells? base (ad.add (i*a.size)) a.size=some ci/\jD w ci (aI a v))/\((∀y∈elems.map (·.1),∀m∈y.weights P e,m<=reachBytes)->tS a v):=by
      intro i hi;have g:=hE i hi;rw[bM (by omega)]at g;obtain⟨ci,hci,hti⟩:=jK.1 g;obtain⟨v,v1,v2,v3⟩:=ih a e h1 m ci _ hti;exact⟨v,v1,⟨ci,hci,v2⟩,λhm=>v3 λm' hm'=>hm _ (eK.2 ⟨_,List.getElem_mem _,rfl⟩) m' hm'⟩
     obtain⟨l,hl,hQ⟩:=Rv (Q:=λi v=>pS a v/\(∃ci,w.cells? base (ad.add (i*a.size)) a.size=some ci/\jD w ci (aI a v))/\((∀y∈elems.map (·.1),∀m∈y.weights P e,m<=reachBytes)->tS a v)) len hk;have hmem:∀y∈l,∃i,l[i]?=some y:=λy hy=>gK.1 hy
     refine⟨l,λy hy=>?_,?_,λhm=>⟨?_,λy hy=>?_⟩⟩
     .obtain⟨i,hi⟩:=hmem y hy
      exact(hQ i y hi).1
     .show jD w _ [.sl (dX l) (bZ (aI a) l)]
      rw[hl];by_cases h0:len=0
      .subst h0
       have:l=[]:=List.length_eq_zero_iff.1 hl;subst this;exact .one (.nil λhh=>by cases hh)
      ·-- each cell
       have cellAt:∀i y,l[i]?=some y->∀r,r<a.size->∃u t,w.cell? ⟨ad.block,ad.off+(i*a.size+r),none⟩=some u/\(aI a y)[r]?=some t/\TR w (jC w) u t/\ad.spot=none:=by
        intro i y hy r hr;have spot0:∀{j:Nat}{y':a.V},l[j]?=some y'->∃ci,w.cells? base (ad.add (j*a.size)) a.size=some ci/\jD w ci (aI a y'):=λhy'=>(hQ _ _ hy').2.1
        obtain⟨y0,hy0⟩:∃y0,l[0]?=some y0:=⟨_,bM (by omega)⟩
        obtain⟨c0,hc0,_⟩:=spot0 hy0;have hsp:ad.spot=none:=by
         unfold World.cells? at hc0;split at hc0
         .obtain⟨u,_,hu⟩:=Lib.mapM_at hc0 0 0 (by rw[MG hs])
          have:=aQ3 hu;simp[Addr.add]at this;have h5:=aO Addr.spot this;exact h5
         .cases hc0
        obtain⟨ci,hci,hrel⟩:=spot0 hy;unfold World.cells? at hci;split at hci
        .obtain⟨u,hu,hcu⟩:=Lib.mapM_at hci r r (by rw[MG hr])
         have hlen:=hrel.1;rw[cW]at hlen;obtain⟨t,ht⟩:∃t,(aI a y)[r]?=some t:=⟨_,bM (by rw[cW];exact hr)⟩
         refine⟨u,t,?_,ht,hrel.2 r u t hu ht,hsp⟩;have:(ad.add (i*a.size)).add r=⟨ad.block,ad.off+(i*a.size+r),none⟩:=by
          obtain⟨b,o,s⟩:=ad;simp only at hsp;subst hsp;unfold Addr.add;by_cases e1:i*a.size=0 <;> by_cases e2:r=0 <;> simp[e1,e2,Nat.add_assoc]
         rw[<-this];exact hcu
        .cases hci
       obtain⟨y0,hy0⟩:∃y0,l[0]?=some y0:=⟨_,bM (by omega)⟩
       obtain⟨_,_,_,_,_,hsp⟩:=cellAt 0 y0 hy0 0 hs;have hflat:(bZ (aI a) l).length=len*a.size:=by rw[mU,hl]
       have all:∀j,j<len*a.size->∃u t,w.cell? ⟨ad.block,ad.off+j,none⟩=some u/\(bZ (aI a) l)[j]?=some t/\TR w (jC w) u t:=by
        intro j hj;have hq:j / a.size<len:=Nat.div_lt_of_lt_mul (by rw[Nat.mul_comm];exact hj);have hr:=Nat.mod_lt j hs;have hj':j / a.size*a.size+j%a.size=j:=by rw[Nat.mul_comm];exact Nat.div_add_mod j a.size
        obtain⟨y,hy⟩:∃y,l[j / a.size]?=some y:=⟨_,bM (by omega)⟩
        obtain⟨u,t,h4,h5,h6,_⟩:=cellAt _ y hy _ hr;rw[hj']at h4;refine⟨u,t,h4,?_,h6⟩;rw[<-h5,<-flat_get (λx=>cW a x) l _ _ y hy hr,hj']
       obtain⟨us,hus,hU⟩:=Rv (Q:=λj u=>w.cell? ⟨ad.block,ad.off+j,none⟩=some u/\∃t,(bZ (aI a) l)[j]?=some t/\TR w (jC w) u t) (len*a.size) λj hj=>by
        obtain⟨u,t,h4,h5,h6⟩:=all j hj;exact⟨u,h4,t,h5,h6⟩
       have had:ad=⟨ad.block,ad.off,none⟩:=by
        obtain⟨b,o,s⟩:=ad;simp only at hsp;subst hsp;rfl
       rw[had];refine .one (.sl ad.block ad.off len cap us _ (by rw[hus,hflat]) (λi u hi=>Sz (hU i u hi).1) hlc λi u t hu ht=>?_);obtain⟨_,t',h5,h6⟩:=hU i u hu;rw[ht]at h5;cases h5;exact h6
     .have:=hm ((elems.map (·.1)).length+(rest.map (·.1)).length |> (· * P.bytesOf e)) (by simp[DataW.weights,hu])
      simp only[cQ]at this;have h4:len*Fg a<=(elems.length+rest.length)*P.bytesOf e:=Nat.mul_le_mul (by omega) h3;show dX l*_<=_;rw[hl];omega
     .obtain⟨i,hi⟩:=hmem y hy
      refine(hQ i y hi).2.2 λd hd m hm'=>hm m ?_
      have:m∈DataW.weightsAll P e (elems.map (·.1)):=UB hd hm';simp only[DataW.weights,hu,eD,nF];exact .inr (.inl this)
   .rename_i a b fs hu
    simp only[bA]at h;obtain⟨h1,h2⟩:=h;have h1:=bH h1;obtain⟨xs,m,rfl,rfl,hl,hxl,hf⟩:=DataW.trod_struct hu hx;obtain⟨v,v1,v2,v3⟩:=aB0 ih m fs.toList (.pr a b) 0 cs xs h2 (by rw[hl,h1];simp[Ty.size]) (by rw[hxl];simp) λi f hi=>hf i f (by simpa using hi)
    refine⟨v,v1,by simpa using v2,λhm=>v3 λm' hm'=>hm m' ?_⟩;simp only[DataW.weights,hu];exact hm'
   .rename_i a b k e hu
    simp only[bA]at h;obtain⟨h1,h2⟩:=h;have h1:=bH h1;obtain⟨xs,hx1,hl,hxl,m,hf⟩:=trod_array hu hx;obtain⟨v,v1,v2,v3⟩:=aB1 (λτ t h=>by
     simp only[bA]at h;exact⟨ih τ t h.1,bH h.2⟩) m e k (.pr a b) cs xs h2 (by rw[hl,h1];rfl) hxl hf
    refine⟨v,v1,v2,λhm=>v3 λm' hm'=>hm m' ?_⟩;rw[hx1];simp only[DataW.weights,hu];exact hm'
   .cases h
def TQ(τ:Ty)(x:τ.V):D:=match τ.one with|true=>.t (oF τ x)|false=>.agg ((aI τ x).map .t)
theorem jD.cell{τ:Ty}{v:τ.V}{u:Value}(h1:τ.one=true)(h:jD w [u] (aI τ v)):Tp w (jC w) u (TQ τ v):=by
 unfold TQ;rw[h1];rw[F2 h1]at h;exact .t (h.2 0 _ _ rfl rfl)
theorem aS6{n:Nat}{e t:TypeId}{r:Reach}{b0:Nat}{v:Value}(ht:P.underlying t=some (.array n e))(h:Value.okWide P w r b0 t v):∃cs,v = .agg cs/\cs.size=P.cellsOf t:=by
 simp only[Value.okWide,ht]at h;obtain⟨cs,h1,h2,_⟩:=h;exact⟨cs,h1,h2⟩
theorem Ci{n:Nat}{τ:Ty}{t:TypeId}(hτ:AA P n τ t=true){r:Reach}{b0:Nat}{v:Value}{d:DataW H}{ps:List MemPlace}(hval:Value.okWide P w r b0 t v)(hd:DataW.Trod enc P w base spare held t v d ps):
    ∃x:τ.V,pS τ x/\Tp w (jC w) v (TQ τ x)/\((∀m∈d.weights P t,m<=reachBytes)->tS τ x):=by
 obtain⟨fuel,hf⟩:=hd;obtain⟨x,x1,x2,x3⟩:=opens n τ t hτ fuel _ _ hf;refine⟨x,x1,?_,x3⟩;cases n with
 |zero=>cases hτ
 |succ n=>
   unfold AA at hτ;split at hτ
   .rename_i hu
    obtain⟨z,rfl⟩:=okWide_int hu hval;exact jD.cell rfl x2
   .rename_i hu
    obtain⟨z,rfl⟩:=okWide_int hu hval;exact jD.cell rfl x2
   .rename_i hu
    obtain⟨z,rfl⟩:=okWide_bool hu hval;exact jD.cell rfl x2
   .rename_i hu
    obtain⟨z,rfl⟩:=okWide_string hu hval;exact jD.cell rfl x2
   .rename_i hu
    obtain⟨a,l,c,rfl⟩:=okWide_slice hu hval;exact jD.cell rfl x2
   .rename_i a b fs hu
    obtain⟨cs,rfl,hcs⟩:=okWide_struct hu hval;have hc:(Value.agg cs).cells.toList=cs.toList:=rfl;rw[hc]at x2;refine .agg (by have:=x2.1;simpa using this) (λi u d' hu' hd'=>?_) λu hu'=>?_
    .rw[cD]at hd'
     obtain⟨tr,ht,rfl⟩:=b9.1 hd';exact .t (x2.2 i u tr (by simpa using hu') ht)
    .obtain⟨i,hi⟩:=gK.1 hu'
     obtain⟨tr,ht⟩:∃tr,(aI (.pr a b) x)[i]?=some tr:=⟨_,bM (by rw[<-x2.1];exact(bP.1 hi).1)⟩
     exact(x2.2 i u tr hi ht).one
   .rename_i a b k e hu
    obtain⟨cs,rfl,hcs⟩:=aS6 hu hval;have hc:(Value.agg cs).cells.toList=cs.toList:=rfl;rw[hc]at x2;refine .agg (by have:=x2.1;simpa using this) (λi u d' hu' hd'=>?_) λu hu'=>?_
    .rw[cD]at hd'
     obtain⟨tr,ht,rfl⟩:=b9.1 hd';exact .t (x2.2 i u tr (by simpa using hu') ht)
    .obtain⟨i,hi⟩:=gK.1 hu'
     obtain⟨tr,ht⟩:∃tr,(aI (.pr a b) x)[i]?=some tr:=⟨_,bM (by rw[<-x2.1];exact(bP.1 hi).1)⟩
     exact(x2.2 i u tr hi ht).one
   .cases hτ
end
end Go.Ax
