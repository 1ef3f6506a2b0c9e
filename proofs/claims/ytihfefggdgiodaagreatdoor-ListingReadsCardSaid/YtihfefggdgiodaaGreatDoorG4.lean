/- Pages are read back; the reference reads the same. Conditions are in the theorems. -/
import Derived.Test.YtihfefggdgiodaaGreatDoorF7
import Derived.Test.YtihfefggdgiodaaGreatDoorG1
import Derived.Test.YtihfefggdgiodaaGreatDoorG2
open Bool renaming and_eq_true->bA,and_false->Tt,and_self->Ts,false_and->pZ,false_or->jG,not_eq_true'->GB,not_false->tX,not_or->Tr,not_true->oP,true_and->lM
open Go.IntKind renaming i64->aS
open Int renaming toNat_natCast->iT
open List renaming all_eq_true->cT,any_cons->rJ,any_eq_true->jN,append_assoc->fT,append_nil->kN,concat_eq_append->Fz,cons_append->Af,dropWhile_cons->Cn,drop_eq_nil_of_le->fD,drop_zero->fV,eq_nil_or_concat->Tj,flatMap_cons->fS,flatten_append->tT,flatten_cons->fR,getElem?_eq_getElem->bM,length_append->bF,length_cons->dK,length_drop->jM,length_nil->iJ,length_replicate->Fw,length_singleton->Ti,mem_append->nF,mem_cons->eD,mem_cons_of_mem->gF,mem_cons_self->jF,mem_of_mem_drop->aXK,mem_range->nE,mem_singleton->lL,nil_append->fK,range->fJ,replicate->dA
open Nat renaming le_refl->bX,zero_le->dC
open Option renaming bind->aDh
open UInt8 renaming le_iff_toNat_le->T6,lt_iff_toNat_lt->Fo
/- ListingLines, in plain words. -/
namespace Go.Proofs
open Go Go.Ax Go.Ax.aA
theorem aE2(N:Nat)(hN:20<=N){l:List Int}(hl:vY l):∃a,GL N l=true/\wB N l=a/\Tg a:=by
 obtain⟨a,ha,hm⟩:=aE1 N hN hl;exact⟨a,by unfold GL;rw[ha];rfl,by unfold wB;rw[ha];rfl,hm⟩
theorem aBC{w:Nat}(hw:4<=w):∀(n:Nat){l:List (List UInt8)},iL l->l.length<=n->∀r∈iA w l,r.length<=w
 |n,l,hl,hn,r,hr=>by
   rw[u0 hw hl]at hr;split at hr
   .rename_i hf
    rw[lL.1 hr];exact hf
   .rename_i hf
    have hne:l≠[]:=λe=>by subst e;simp at hf
    have h1:=tK hl hne (m:=w-1) (by omega);obtain⟨h2,_⟩:=tJ (w-1) l [] (by simp);rcases eD.1 hr with rfl|hr
    .rw[bF,Ti];omega
    .match n,hn with
     |n+1,hn=>exact aBC hw n (tL (m:=w-1) (row:=[]) hl (by simp)).1 (by omega) r hr
     |0,hn=>omega
end Go.Proofs
/- ListingRows, in plain words. -/
namespace Go.Proofs
open Go Go.Ax Go.Ax.aA
theorem aVk(l:List (List UInt8))(w:Int):(eW l w).1.length<=6592/\∀r∈(eW l w).1,r.length<=40:=by
 unfold eW;split
 .rename_i h
  obtain⟨h1,h2,_,h4,h5⟩:=C6 h;have:=Ey (w:=w.toNat) (by omega) l h2 l.length;rw[List.take_length]at this;refine⟨by show(l.flatMap (dZ w.toNat)).length<=_;omega,λr hr=>?_⟩;obtain⟨s,_,h⟩:=List.mem_flatMap.1 hr;have:=aBC (w:=w.toNat) (by omega) _ (qS s) (bX _) r h;omega
 .exact⟨by simp,λr hr=>by cases hr⟩
end Go.Proofs
/- Codes are read back. -/
namespace Go.Proofs
open Go Go.Ax Go.Ax.aA
theorem Sd(c:UInt8)(s:List UInt8):eV (c::s)=if eV s=0/\c=32 then 0 else eV s+1:=by
 unfold eV;rw[List.reverse_cons];have e:∀(l:List UInt8),(l++[c]).dropWhile (· == 32)=if l.dropWhile (· == 32)=[]then[c].dropWhile (· == 32)else l.dropWhile (· == 32)++[c]:=by
  intro l
  induction l with
  |nil=>rfl
  |cons x l ih=>
    rw[Af,Cn,Cn];by_cases hx:(x == 32)=true
    .rw[aE hx,aE hx,ih]
    .rw[aC hx,aC hx,aC (by simp),Af]
 rw[e];by_cases h:s.reverse.dropWhile (· == 32)=[]
 .rw[aE h,h]
  by_cases hc:c=32
  .subst hc;rfl
  .rw[aC (λh=>hc h.2),Cn,aC (by simpa using hc)];rfl
 .rw[aC h,aC (λh'=>h (List.eq_nil_of_length_eq_zero h'.1)),bF];rfl
theorem Sv(c:UInt8)(s:List UInt8):bV (c::s)=dV c (decide (eV (c::s)=0))::bV s:=by
 unfold bV;rw[dK,List.range_succ_eq_map,List.map_cons,List.map_map];refine congr (aO List.cons ?_) (List.map_congr_left λi _=>?_)
 .show dV c (decide (eV (c::s)<=0))=_
  rw[show decide (eV (c::s)<=0)=decide (eV (c::s)=0)from decide_eq_decide.2 (by omega)]
 .show dV ((c::s).getD (i+1) 0) (decide (eV (c::s)<=i+1))=_
  rw[show decide (eV (c::s)<=i+1)=decide (eV s<=i)from decide_eq_decide.2 (by rw[Sd];split <;> omega)];rfl
theorem aVy{c:UInt8}{b:Bool}(h:32<=c.toNat/\c.toNat<=126)(hb:b=true->c=32)(t:List UInt8):fQ (dV c b++t)=(fQ t).map (c :: ·):=by
 cases b with
 |true=>
   rw[hb rfl];exact Sl 2 t
 |false=>
   rcases aDK c h with⟨x,e,e1,e2⟩|⟨x,e,e1,e2⟩
   .rw[e]
    show fQ (x::t)=_;rw[aCz e1,e2];rfl
   .rw[e]
    show fQ (32::x::t)=_;rw[Sl,e1,aC e2]
theorem aAb{c:UInt8}{s:List UInt8}(h:dD (c::s)=true):(32<=c.toNat/\c.toNat<=126)/\dD s=true:=by
 unfold dD at h ⊢;rw[rJ,Tr,bA]at h;refine⟨?_,h.2⟩;have h1:=h.1;unfold oI at h1;rw[Tr,bA,GB,GB,Lk,Lk,Fo,Fo]at h1;have e1:(32:UInt8).toNat=32:=rfl;have e2:(126:UInt8).toNat=126:=rfl;omega
theorem aDA:∀{s:List UInt8},dD s=true->fQ (bV s).flatten=some s
 |[],_=>rfl
 |c::s,h=>by
   obtain⟨h1,h2⟩:=aAb h;rw[Sv,fR,aVy h1 (λe=>by
    have e:=cH e;rw[Sd]at e;split at e
    .rename_i h;exact h.2
    .omega),aDA h2]
   rfl
theorem Fc{s:List UInt8}(h:dD s=true):eP (bV s).flatten=(s,0):=by
 unfold eP;rw[aDA h];show(if _ then _ else _)=_
 first
 |rw[aE rfl]
 |simp
end Go.Proofs
/- Lines are read back from their rows. -/
namespace Go.Proofs
open Go Go.Ax Go.Ax.aA
theorem Q8{a b:List UInt8}:dD (a++b)=(dD a&&dD b):=by
 unfold dD;rw[List.any_append,Tr]
theorem E6(s:List UInt8):s=dA (s.length-(cL s).length) 32++cL s:=by
 induction s with
 |nil=>rfl
 |cons c s ih=>
   unfold cL;rw[Cn];by_cases h:(c == 32)=true
   .rw[aE h]
    have hl:=uX s;have e:c=32:=by simpa using h
    show c::s=dA ((c::s).length-(cL s).length) 32++cL s;rw[dK,show s.length+1-(cL s).length=s.length-(cL s).length+1 by omega,List.replicate_succ,Af,<-ih,e]
   .rw[aC h,Nat.sub_self];rfl
theorem aQw(n:Nat):Lib.repeatL [32] n=dA n 32:=by
 induction n with
 |zero=>rfl
 |succ n ih=>
   show[32]++Lib.repeatL [32] n=_;rw[ih];rfl
theorem aVw(c:UInt8)(h:48<=c.toNat/\c.toNat<=57):dV c false=[c-32]/\c-32≠0/\c≠32:=by
 have key:∀c:UInt8,(!(decide (48<=c.toNat)&&decide (c.toNat<=57))||(decide (dV c false=[c-32])&&decide (c-32≠0)&&decide (c≠32)))=true:=Bw (by kernel_rfl)
 have:=key c;rw[aL h.1,aL h.2,Ts,oP,jG]at this;simp only[bA,eC]at this;exact⟨this.1.1,this.1.2,this.2⟩
theorem aBr{n:Nat}(h:n<=80):Lib.atoiAll (Lib.itoa (n:Int)) = .ok (n:Int)/\∀c∈Lib.itoa (n:Int),48<=c.toNat/\c.toNat<=57:=by
 have key:((fJ 81).all λn=>decide (Lib.atoiAll (Lib.itoa (n:Int)) = .ok (n:Int))&&(Lib.itoa (n:Int)).all λc=>decide (48<=c.toNat)&&decide (c.toNat<=57))=true:=by kernel_rfl
 have:=cT.1 key n (nE.2 (by omega));rw[bA,eC]at this;refine⟨this.1,λc hc=>?_⟩;have:=cT.1 this.2 c hc;simpa using this
theorem Sh:∀{ds:List UInt8},(∀c∈ds,48<=c.toNat/\c.toNat<=57)->(∀x∈(bV ds).flatten,(x != 0)=true)/\dD ds=true
 |[],_=>⟨λx hx=>(by cases hx),rfl⟩
 |c::ds,h=>by
   obtain⟨i1,i2⟩:=Sh (ds:=ds) (λx hx=>h x (gF _ hx));have hc:=h c (jF ..);obtain⟨d1,d2,d3⟩:=aVw c hc;refine⟨λx hx=>?_,?_⟩
   .rw[Sv,Sd,aC (λh=>d3 h.2),aZ (by omega),d1,fR]at hx
    rcases nF.1 hx with hx|hx
    .rw[lL.1 hx]
     simpa using d2
    .exact i1 x hx
   .unfold dD at i2 ⊢
    rw[rJ,Tr,i2,Bool.and_true];unfold oI;rw[aZ (λh=>by have:=Fo.1 h;have e:(32:UInt8).toNat=32:=rfl;omega),aZ (λh=>by have:=Fo.1 h;have e:(126:UInt8).toNat=126:=rfl;omega)];rfl
theorem aEH{s:List UInt8}(ht:dD s=true)(hs:s.length<=80):iU (cB s).flatten=(s,true):=by
 have hle:=uX s;have tt:dD (cL s)=true:=by
  have e:=E6 s;rw[e,Q8,bA]at ht;exact ht.2
 obtain⟨n1,n2⟩:=aBr (n:=s.length-(cL s).length) (by omega);have es:=E6 s;generalize hn:s.length-(cL s).length=n at n1 n2 es;have hn80:n<=80:=by omega
 obtain⟨z1,z2⟩:=Sh n2;have y0:eA 0 (Lib.itoa (n:Int))=n:=by unfold eA;rw[n1]
 have y1:lS 0 (Lib.itoa (n:Int))=1:=by unfold lS;rw[n1]
 have hL:(cB s).flatten=(bV (Lib.itoa (n:Int))).flatten++(if cL s=[]then[]else 0::(bV (cL s)).flatten):=by
  unfold cB;rw[hn,tT];split <;> rfl
 have hd:iD (cB s).flatten=(bV (Lib.itoa (n:Int))).flatten:=by
  rw[hL];unfold iD;rw[List.takeWhile_append_of_pos z1];split
  .simp
  .rw[List.takeWhile_cons,aC (by decide),kN]
 have hb:tP (cB s).flatten=false:=by
  unfold tP;rw[hd,Fc z2,y0,y1,aZ (λh=>h rfl),aZ (λh=>h rfl),aZ (by omega),aZ (by omega)];rfl
 have hr:(cB s).flatten.contains 0=!decide (cL s=[]):=by
  rw[hL];have nz:(bV (Lib.itoa (n:Int))).flatten.contains 0=false:=by
   cases h:(bV (Lib.itoa (n:Int))).flatten.contains 0 with
   |false=>rfl
   |true=>
     have:=z1 0 (by simpa using h);cases this
  by_cases h:cL s=[]
  .rw[aE h,kN,nz,aL h];rfl
  .rw[aC h,aZ h]
   simp
 have hrest:cL s≠[]->l4 (cB s).flatten=(bV (cL s)).flatten:=λh=>by
  rw[hL,aC h];unfold l4;rw[List.dropWhile_append_of_pos z1,Cn,aC (by decide)];rfl
 have hc:F9 (cB s).flatten=cL s:=by
  unfold F9;rw[hr];by_cases h:cL s=[]
  .rw[aL h,aC (by simp),h]
  .rw[aZ h,aE (by rfl),hrest h,Fc tt]
 have hl:vF (cB s).flatten=s:=by
  unfold vF;rw[hd,Fc z2,y0,hc,iT,aQw,<-es]
 unfold iU;rw[hb,hr,hl,aC (by simp)];by_cases h:cL s=[]
 .rw[aL h,aC (by simp),aL rfl]
 .rw[hrest h,Fc tt,aZ h,aC (by simp),aL rfl]
end Go.Proofs
/- Pages are read back. -/
namespace Go.Proofs
open Go Go.Ax Go.Ax.aA
def Nd(l:List (List UInt8)):Prop:=∀c∈l,c.getLast?≠some 63
theorem Rb:∀{l:List (List UInt8)},Nd l->l.flatten.getLast?≠some 63
 |[],_=>by simp
 |c::l,h=>by
   rw[fR,List.getLast?_append];have h1:=Rb (l:=l) (λx hx=>h x (gF _ hx));have h2:=h c (jF ..);cases e:l.flatten.getLast? with
   |none=>simpa using h2
   |some x=>rw[e]at h1;simpa using h1
theorem aBz(c:UInt8)(h:32<=c.toNat/\c.toNat<=126)(b:Bool):(dV c b).getLast?≠some 63/\∀x∈dV c b,x<=63:=by
 cases b with
 |true=>
   refine⟨by show[(32:UInt8),2].getLast?≠_;decide,λx hx=>?_⟩;have hx:x∈[(32:UInt8),2]:=hx;simp only[eD,List.not_mem_nil,or_false]at hx;rcases hx with rfl|rfl <;> decide
 |false=>
   have key:∀c:UInt8,(!(decide (32<=c.toNat)&&decide (c.toNat<=126))||(decide ((dV c false).getLast?≠some 63)&&(dV c false).all λx=>decide (x<=63)))=true:=Bw (by kernel_rfl)
   have:=key c;rw[aL h.1,aL h.2,Ts,oP,jG,bA,eC]at this;exact⟨this.1,λx hx=>by have:=cT.1 this.2 x hx;simpa using this⟩
theorem Re:∀{s:List UInt8},dD s=true->Nd (bV s)/\∀c∈bV s,∀x∈c,x<=63
 |[],_=>⟨λc hc=>(by cases hc),λc hc=>(by cases hc)⟩
 |c::s,h=>by
   obtain⟨h1,h2⟩:=aAb h;obtain⟨i1,i2⟩:=Re h2;rw[Sv];refine⟨λx hx=>?_,λx hx=>?_⟩
   .rcases eD.1 hx with rfl|hx
    .exact(aBz c h1 _).1
    .exact i1 x hx
   .rcases eD.1 hx with rfl|hx
    .exact(aBz c h1 _).2
    .exact i2 x hx
theorem aBy{s:List UInt8}(ht:dD s=true)(hs:s.length<=80):Nd (cB s)/\∀c∈cB s,∀x∈c,x<=63:=by
 have tt:dD (cL s)=true:=by
  have e:=E6 s;rw[e,Q8,bA]at ht;exact ht.2
 obtain⟨_,n2⟩:=aBr (n:=s.length-(cL s).length) (by omega);obtain⟨a1,a2⟩:=Re (Sh n2).2;obtain⟨b1,b2⟩:=Re tt;refine⟨λc hc=>?_,λc hc=>?_⟩ <;> unfold cB at hc <;> rcases nF.1 hc with hc|hc
 .exact a1 c hc
 .split at hc
  .cases hc
  .rcases eD.1 hc with rfl|hc
   .decide
   .exact b1 c hc
 .exact a2 c hc
 .split at hc
  .cases hc
  .rcases eD.1 hc with rfl|hc
   .intro x hx
    rw[lL.1 hx];decide
   .exact b2 c hc
theorem aQn{w:Nat}(hw:4<=w){l:List (List UInt8)}(hl:iL l):iA w l≠[]:=by
 rw[u0 hw hl];split <;> simp
theorem aBN{w:Nat}(hw:4<=w):∀(n:Nat){l:List (List UInt8)}(p out:List (List UInt8))(now:List UInt8),iL l->l.length<=n->Nd l->(iU (now++l.flatten)).2=true->jT (iA w l++p) out now=jT p (out++[(iU (now++l.flatten)).1]) []
 |n,l,p,out,now,hl,hn,hd,hk=>by
   rw[u0 hw hl];by_cases ht:l.flatten.length<=w
   .rw[aE ht]
    have g:gN l.flatten=false:=aZ (Rb hd);have e:gU l.flatten=l.flatten:=by unfold gU;rw[g];rfl
    show jT (l.flatten::p) out now=_;rw[jT,g,e,hk,pZ,aC (by simp),aC (by simp)]
   .rw[aC ht]
    have hne:l≠[]:=λe=>by subst e;simp at ht
    obtain⟨f1,f2,k,_,f4,_⟩:=tJ (w-1) l [] (by simp);have fl:=tK hl hne (m:=w-1) (by omega);have fc:=(tL (m:=w-1) (row:=[]) hl (by simp)).1;have fd:Nd (dF (w-1) l []).2:=λc hc=>by
     rw[f4]at hc;exact hd c (aXK hc)
    rw[fK]at f2;have e2:now++l.flatten=(now++(dF (w-1) l []).1)++(dF (w-1) l []).2.flatten:=by rw[fT,f2]
    rw[e2]at hk ⊢;have g:gN ((dF (w-1) l []).1++[63])=true:=aL (by simp);have e:gU ((dF (w-1) l []).1++[63])=(dF (w-1) l []).1:=by unfold gU;rw[g,aE rfl];simp
    have ne:(iA w (dF (w-1) l []).2++p).isEmpty=false:=by
     cases h:iA w (dF (w-1) l []).2 with
     |nil=>exact absurd h (aQn hw fc)
     |cons _ _=>rfl
    cases n with
    |zero=>omega
    |succ n=>
      rw[Af,jT,g,e,ne,aE (by rfl)];exact aBN hw n p out _ fc (by omega) fd hk
theorem aBO{w:Nat}(hw:4<=w):∀(a out:List (List UInt8)),(∀s∈a,s.length<=80/\dD s=true)->jT (a.flatMap (dZ w)) out []=some (out++a)
 |[],out,_=>by rw[kN];rfl
 |s::a,out,h=>by
   obtain⟨h1,h2⟩:=h s (jF ..);have hw2:=aEH h2 h1;rw[fS];show jT (iA w (cB s)++_) out []=_;rw[aBN hw _ _ out [] (qS s) (bX _) (aBy h2 h1).1 (by rw[fK,hw2]),fK,hw2,aBO hw a _ (λx hx=>h x (gF _ hx)),fT];rfl
theorem aBM{a:List (List UInt8)}{w:Int}(hf:gO a w=0):eW a w=(a.flatMap (dZ w.toNat),0)/\kU (a.flatMap (dZ w.toNat))=(a,0):=by
 obtain⟨h1,h2,h3,h4,h5⟩:=C6 hf;have e:eW a w=(a.flatMap (dZ w.toNat),0):=by unfold eW;rw[aE hf]
 refine⟨e,?_⟩;unfold kU;rw[aBO (by omega) a [] (λs hs=>⟨h2 s hs,h3 s hs⟩),fK];have an:j0 a (a.flatMap (dZ w.toNat))=true:=by
  unfold j0;refine jN.2 ⟨w.toNat-4,nE.2 (by omega),aL ?_⟩;rw[show((4+(w.toNat-4):Nat):Int)=w by omega];exact e
 show(if _ then _ else _)=_;rw[aE an]
end Go.Proofs
/- ListingBack, in plain words. -/
namespace Go.Proofs
open Go Go.Ax Go.Ax.aA
theorem aBE{w:Nat}(hw:4<=w):∀(n:Nat){l:List (List UInt8)},iL l->l.length<=n->(iA w l).flatten.length<=l.flatten.length+l.length/\∀r∈iA w l,∀x∈r,x=63\/x∈l.flatten
 |n,l,hl,hn=>by
   rw[u0 hw hl];by_cases ht:l.flatten.length<=w
   .rw[aE ht]
    refine⟨by simp,λr hr x hx=>?_⟩;rw[lL.1 hr]at hx;exact .inr hx
   .rw[aC ht]
    have hne:l≠[]:=λe=>by subst e;simp at ht
    obtain⟨f1,f2,k,_,f4,_⟩:=tJ (w-1) l [] (by simp);have fl:=tK hl hne (m:=w-1) (by omega);have fc:=(tL (m:=w-1) (row:=[]) hl (by simp)).1;rw[fK]at f2;cases n with
    |zero=>omega
    |succ n=>
      obtain⟨i1,i2⟩:=aBE hw n fc (by omega);have f3:=aO List.length f2;rw[bF]at f3;refine⟨by rw[fR,bF,bF];simp only[dK,iJ];omega,λr hr x hx=>?_⟩;rcases eD.1 hr with rfl|hr
      .rcases nF.1 hx with hx|hx
       .exact .inr (by rw[<-f2];exact List.mem_append_left _ hx)
       .exact .inl (lL.1 hx)
      .rcases i2 r hr x hx with h|h
       .exact .inl h
       .exact .inr (by rw[<-f2];exact List.mem_append_right _ h)
theorem TA:∀{l:List (List UInt8)},iL l->l.flatten.length<=2*l.length
 |[],_=>by simp
 |c::l,h=>by
   have:=(h c (jF ..)).2;have:=TA (l:=l) (λx hx=>h x (gF _ hx));rw[fR,bF,dK];omega
theorem aVv{w:Nat}(hw:4<=w){s:List UInt8}(hs:s.length<=80):(dZ w s).flatten.length<=306:=by
 have h1:=(aBE hw _ (qS s) (bX _)).1;have h2:=TA (qS s);have h3:=FP (s:=s) (by omega);unfold dZ;omega
theorem aBW{w:Nat}(hw:4<=w):∀{a:List (List UInt8)},(∀s∈a,s.length<=80)->(a.flatMap (dZ w)).flatten.length<=306*a.length
 |[],_=>by simp
 |s::a,h=>by
   have h1:=aVv hw (h s (jF ..));have h2:=aBW hw (a:=a) (λx hx=>h x (gF _ hx));rw[fS,tT,bF,dK];omega
end Go.Proofs
/- The reference's Read, in plain words. -/
namespace Go.Proofs
open Go Go.Ax Go.Ax.aA
def eN:Nat->List UInt8->Nat->Nat×Nat
 |m+1,c::t,v=>if(decide (16<=c)&&decide (c<=25))=true then((eN m t (10*v+c.toNat-16)).1+1,(eN m t (10*v+c.toNat-16)).2)else(0,v)
 |_,_,v=>(0,v)
def gW(l:List UInt8):List UInt8:=dA (min (eN 3 l 0).2 81) 32
def lO(l:List UInt8):List UInt8×Bool:=
 if(eN 3 l 0).1<l.length then(if(eP (l.drop ((eN 3 l 0).1+1))).2≠0 then([],false)else(gW l++(eP (l.drop ((eN 3 l 0).1+1))).1,decide ((cB (gW l++(eP (l.drop ((eN 3 l 0).1+1))).1)).flatten=l)))
 else(gW l,decide ((cB (gW l)).flatten=l))
theorem aCx:∀(m:Nat)(l:List UInt8)(v:Nat),(eN m l v).1<=m/\(eN m l v).1<=l.length
 |0,l,v=>⟨bX _,dC _⟩
 |m+1,[],v=>⟨dC _,dC _⟩
 |m+1,c::t,v=>by
   unfold eN;split
   .have:=aCx m t (10*v+c.toNat-16)
    simp only[dK];omega
   .exact⟨dC _,dC _⟩
theorem Vv(N:Nat)(k0:List UInt8->Bool->Int->Int->O)(k1 k2:Unit->O)(l:List UInt8)(b:Bool)(hl:l.length<=1000000):∀(n i v:Nat),3-i<n->i<=3->i<=l.length->v<10^i->
    w3 N n (l,b,(i:Int),(v:Int)) (λy=>k0 y.1 y.2.1 y.2.2.1 y.2.2.2) k1 k2=k0 l b ((i+(eN (3-i) (l.drop i) v).1:Nat):Int) ((eN (3-i) (l.drop i) v).2:Int)
 |0,i,v,h,_,_,_=>by omega
 |n+1,i,v,h,hi,hil,hv=>by
   show H4 N _ (λy0 y1 y2 y3=>k0 y0 y1 y2 y3) l b (i:Int) (v:Int)=_;unfold H4;by_cases h1:i<l.length
   .have g:=bM h1
    by_cases h3:i<3
    .obtain⟨m,hm⟩:∃m,3-i=m+1:=⟨2-i,by omega⟩
     have hp:v<1000:=by
      have:i=0\/i=1\/i=2:=by omega
      rcases this with rfl|rfl|rfl <;> simp at hv <;> omega
     rw[aL (show(i:Int)<(l.length:Int)by omega),aL (show(i:Int)<3 by omega),fZ g,hm];have hlt:=h1;generalize hc:l[i]=c at g;rw[lM,vM,cU g,lM,L8 g];have e:(decide (16<=c)&&decide ((if decide (16<=c)=true then c else 0)<=25))=(decide (16<=c)&&decide (c<=25)):=by
      cases h:decide (16<=c)with
      |true=>rw[aE rfl]
      |false=>rfl
     rw[e];unfold eN;cases hd:decide (16<=c)&&decide (c<=25)with
     |true=>
       have hd2:=hd;rw[bA,eC,eC,T6,T6]at hd2;have e1:(16:UInt8).toNat=16:=rfl;have e2:(25:UInt8).toNat=25:=rfl;rw[bJ,cU g,aE rfl,wr (x:=(i:Int)+1) (by omega) (by omega),wr (x:=(10:Int)*v) (by omega) (by omega),wr (x:=(c.toNat:Int)) (by omega) (by omega),wr (x:=(10:Int)*v+c.toNat) (by omega) (by omega),wr (by omega) (by omega)];have ih:=Vv N k0 k1 k2 l b hl n (i+1) (10*v+c.toNat-16) (by omega) (by omega) (by omega) (by rw[Nat.pow_succ];omega);rw[show 3-(i+1)=m by omega]at ih;rw[show((10:Int)*v+c.toNat-16)=((10*v+c.toNat-16:Nat):Int)by omega,show(i:Int)+1=((i+1:Nat):Int)by omega];refine ih.trans ?_;rw[show i+1+(eN m (l.drop (i+1)) (10*v+c.toNat-16)).1=i+((eN m (l.drop (i+1)) (10*v+c.toNat-16)).1+1)by omega]
     |false=>rw[bL,aC (by decide)];rfl
    .rw[aZ (show ¬ (i:Int)<3 by omega),Tt,C5,pZ,C5,pZ,bL,show 3-i=0 by omega]
     rfl
   .rw[aZ (show ¬ (i:Int)<(l.length:Int)by omega),pZ,C5,pZ,C5,pZ,bL,fD (by omega)]
    cases 3-i <;> rfl
theorem Vu(N:Nat)(k0:List UInt8->Int->List UInt8->O)(k1 k2:Unit->O)(l:List UInt8)(b:Bool)(at_:Int)(v:Nat):∀(n i:Nat) ,81-i<n->i<=81->i<=min v 81->
    uG N n (l,b,at_,(v:Int),dA i 32,(i:Int)) (λy=>k0 y.1 y.2.1 y.2.2) k1 k2=k0 l at_ (dA (min v 81) 32)
 |0,i,h,_,_=>by omega
 |n+1,i,h,hi,hm=>by
   show H0 N _ (λy0 y1 y2=>k0 y0 y1 y2) l b at_ (v:Int) (dA i 32) (i:Int)=_;unfold H0;by_cases h1:i<v/\i<81
   .rw[aL (by omega),aL (by omega),lM,bJ,aP (aL (by rw[Fw];omega)),wr (by omega) (by omega),<-List.replicate_succ',show(i:Int)+1=((i+1:Nat):Int)by omega]
    exact Vu N k0 k1 k2 l b at_ v n (i+1) (by omega) (by omega) (by omega)
   .have:(decide ((i:Int)<(v:Int))&&decide ((i:Int)<81))=false:=by
     by_cases h2:i<v
     .rw[aZ (show ¬ (i:Int)<81 by omega),Tt]
     .rw[aZ (show ¬ (i:Int)<(v:Int)by omega),pZ]
    rw[this,bL,show min v 81=i by omega]
theorem aBX(l:List UInt8):(gW l).length<=81:=by unfold gW;rw[Fw];omega
def SG(N:Nat):List UInt8->Int->List UInt8->O:=
        (λz15 z16 z17=>
         br (decide (z16<(↑z15.length:Int)))
          (ck (dJ z15.length (some (aS.wrap (z16+1))) none)<|
          ck (EF N (cA z15 (some (aS.wrap (z16+1))) none))<|
          br (decide (ED N (cA z15 (some (aS.wrap (z16+1))) none)≠(0:Int)))
           (some (oX [] false))
           (ck (decide ((↑z17.length:Int)+(↑(lC N (cA z15 (some (aS.wrap (z16+1))) none)).length:Int)<=(9223372036854775807:Int)))<|
           ck (oZ N (z17++lC N (cA z15 (some (aS.wrap (z16+1))) none)))<|
           ck (lB N (gR N (z17++lC N (cA z15 (some (aS.wrap (z16+1))) none))))<|
           ck (mG N (gG N (gR N (z17++lC N (cA z15 (some (aS.wrap (z16+1))) none)))) z15)<|
           some (oX (z17++lC N (cA z15 (some (aS.wrap (z16+1))) none)) (mF N (gG N (gR N (z17++lC N (cA z15 (some (aS.wrap (z16+1))) none)))) z15))))
          (ck (oZ N z17)<|
          ck (lB N (gR N z17))<|
          ck (mG N (gG N (gR N z17)) z15)<|
          some (oX z17 (mF N (gG N (gR N z17)) z15))))
theorem N2{N:Nat}{l:List UInt8}(hN:60000<=N)(hl:l.length<=15000):wZ N l=some (lO l):=by
 have key:∀(b:Bool)(x y:O),(br b x y).bind oW=if b=true then x.bind oW else y.bind oW:=λb x y=>by cases b <;> rfl
 obtain⟨d1,d2⟩:=aCx 3 l 0;have hp:=aBX l;have fin:∀s:List UInt8,s.length<=15081->oZ N s=true/\gR N s=cB s/\lB N (cB s)=true/\gG N (cB s)=(cB s).flatten/\mG N (cB s).flatten l=true/\mF N (cB s).flatten l=decide ((cB s).flatten=l):=λs hs=>by
  have h1:=FP (s:=s) (by omega);have h2:=TA (qS s);exact⟨YP (by omega) (by omega),YO (by omega) (by omega),IZ (by omega) (by omega) (by omega),IY (by omega) (by omega) (by omega),QE (by omega) (by omega),QD (by omega) (by omega)⟩
 unfold wZ Vx N3 NZ NY;have h0:=λ(K:List UInt8->Bool->Int->Int->O)=>Vv N K (λ_=>none) (λ_=>none) l false (by omega) N 0 0 (by omega) (by omega) (dC _) (by simp)
 refine(aO (λz:O=>z.bind oW) (h0 λz10 z11 z12 z13=>uG N N (z10,z11,z12,z13,[],0) (λy=>SG N y.1 y.2.1 y.2.2) (λ_=>none) (λ_=>none))).trans ?_;rw[Nat.zero_add,fV,Nat.sub_zero];have h1:=λ(K:List UInt8->Int->List UInt8->O)=>Vu N K (λ_=>none) (λ_=>none) l false ((eN 3 l 0).1:Int) (eN 3 l 0).2 N 0 (by omega) (by omega) (dC _)
 refine(aO (λz:O=>z.bind oW) (h1 (SG N))).trans ?_;unfold SG;show aDh (br _ _ _) oW=_;rw[key];unfold lO;show(if _ then _ else _)=_;by_cases hk:(eN 3 l 0).1<l.length
 .have ew:aS.wrap (((eN 3 l 0).1:Int)+1)=(((eN 3 l 0).1+1:Nat):Int):=by rw[wr (by omega) (by omega)];omega
  have hsl:cA l (some (((eN 3 l 0).1+1:Nat):Int)) none=l.drop ((eN 3 l 0).1+1):=by
   show l.drop (((eN 3 l 0).1+1:Nat):Int).toNat=_;rw[iT]
  have hok:dJ l.length (some (((eN 3 l 0).1+1:Nat):Int)) none=true:=aL ⟨by omega,by omega⟩;have hdl:(l.drop ((eN 3 l 0).1+1)).length<=l.length:=by rw[jM];omega
  have hcl:=Fb (l.drop ((eN 3 l 0).1+1));rw[aE (aL (by omega)),aE hk,ew,aP hok,hsl,aP (aNr (by omega) (by omega)),aNp (by omega) (by omega),aNq (by omega) (by omega),key];by_cases he:(eP (l.drop ((eN 3 l 0).1+1))).2≠0
  .rw[aE (aL he),aE he]
   rfl
  .rw[aC (by simpa using he),aC he]
   obtain⟨f1,f2,f3,f4,f5,f6⟩:=fin (gW l++(eP (l.drop ((eN 3 l 0).1+1))).1) (by rw[bF];omega);show aDh (ck _ <|ck (oZ N (gW l++_)) <|ck (lB N (gR N (gW l++_))) <|ck (mG N (gG N (gR N (gW l++_))) l) <|some (oX (gW l++_) (mF N (gG N (gR N (gW l++_))) l))) oW=_;rw[aP (aL (by show((gW l).length:Int)+_<=_;omega)),aP f1,f2,aP f3,f4,aP f5,f6];rfl
 .rw[aC (by simpa using hk),aC hk]
  obtain⟨f1,f2,f3,f4,f5,f6⟩:=fin (gW l) (by omega);show aDh (ck (oZ N (gW l)) <|ck (lB N (gR N (gW l))) <|ck (mG N (gG N (gR N (gW l))) l) <|some (oX (gW l) (mF N (gG N (gR N (gW l))) l))) oW=_;rw[aP f1,f2,aP f3,f4,aP f5,f6];rfl
theorem aIA{N:Nat}{l:List UInt8}(hN:60000<=N)(hl:l.length<=15000):HW N l=true:=by unfold HW;rw[N2 hN hl];rfl
theorem aHz{N:Nat}{l:List UInt8}(hN:60000<=N)(hl:l.length<=15000):DW N l=(lO l).1:=by unfold DW;rw[N2 hN hl];rfl
theorem aHy{N:Nat}{l:List UInt8}(hN:60000<=N)(hl:l.length<=15000):HT N l=(lO l).2:=by unfold HT;rw[N2 hN hl];rfl
theorem aEK(l:List UInt8):(lO l).1.length<=l.length+81:=by
 have hp:=aBX l;unfold lO;split
 .split
  .simp
  .have:=Fb (l.drop ((eN 3 l 0).1+1))
   have h2:(l.drop ((eN 3 l 0).1+1)).length<=l.length:=by rw[jM];omega
   show(gW l++_).length<=_;rw[bF];omega
 .show(gW l).length<=_
  omega
end Go.Proofs
/- The reference's Read is Read. -/
namespace Go.Proofs
open Go Go.Ax Go.Ax.aA
theorem aCy:∀(m:Nat)(ds t:List UInt8)(v:Nat),(∀c∈ds,16<=c/\c<=25)->ds.length<=m->(t=[]\/∃t',t=0::t')->eN m (ds++t) v=(ds.length,(eN m ds v).2)
 |0,[],t,v,_,_,_=>rfl
 |0,_::_,_,_,_,h,_=>absurd h (by simp)
 |m+1,[],t,v,_,_,h=>by
   rcases h with rfl|⟨t',rfl⟩
   .rfl
   .show eN (m+1) (0::t') v=_
    unfold eN;rw[aC (by decide)];rfl
 |m+1,c::ds,t,v,hd,hm,ht=>by
   have hc:=hd c (jF ..);have ih:=aCy m ds t (10*v+c.toNat-16) (λx hx=>hd x (gF _ hx)) (by simp at hm;omega) ht;rw[Af];unfold eN;rw[aL hc.1,aL hc.2,aE (by rfl),aE (by rfl),ih];rfl
theorem aT2{n:Nat}(h:n<=80):(∀c∈(bV (Lib.itoa (n:Int))).flatten,16<=c/\c<=25)/\(bV (Lib.itoa (n:Int))).flatten.length<=3/\(eN 3 (bV (Lib.itoa (n:Int))).flatten 0).2=n:=by
 have key:((fJ 81).all λn=>((bV (Lib.itoa (n:Int))).flatten.all λc=>decide (16<=c)&&decide (c<=25))&&decide ((bV (Lib.itoa (n:Int))).flatten.length<=3)&&decide ((eN 3 (bV (Lib.itoa (n:Int))).flatten 0).2=n))=true:=by kernel_rfl
 have:=cT.1 key n (nE.2 (by omega));simp only[bA,eC,cT]at this;exact⟨this.1.1,this.1.2,this.2⟩
theorem aEJ{s:List UInt8}(ht:dD s=true)(hs:s.length<=80):lO (cB s).flatten=(s,true):=by
 have hle:=uX s;have tt:dD (cL s)=true:=by
  have e:=E6 s;rw[e,Q8,bA]at ht;exact ht.2
 have es:=E6 s;generalize hn:s.length-(cL s).length=n at es;obtain⟨n1,n2,n3⟩:=aT2 (n:=n) (by omega);have hL:(cB s).flatten=(bV (Lib.itoa (n:Int))).flatten++(if cL s=[]then[]else 0::(bV (cL s)).flatten):=by
  unfold cB;rw[hn,tT];split <;> rfl
 have hd:eN 3 (cB s).flatten 0=((bV (Lib.itoa (n:Int))).flatten.length,n):=by
  rw[hL,aCy 3 _ _ 0 n1 n2 (by split;exact .inl rfl;exact .inr ⟨_,rfl⟩),n3]
 have hpad:gW (cB s).flatten=dA n 32:=by
  unfold gW;rw[hd];show dA (min n 81) 32=_;rw[show min n 81=n by omega]
 unfold lO;rw[hd,hpad];show(if(bV (Lib.itoa (n:Int))).flatten.length<_ then(if(eP (List.drop ((bV (Lib.itoa (n:Int))).flatten.length+1) _)).2≠0 then _ else _)else _)=_;by_cases h:cL s=[]
 .have e1:dA n 32=s:=by rw[h,kN]at es;exact es.symm
  rw[aC (by rw[hL,aE h];simp),e1,aL rfl]
 .have er:(cB s).flatten.drop ((bV (Lib.itoa (n:Int))).flatten.length+1)=(bV (cL s)).flatten:=by
   rw[hL,aC h,List.drop_append];simp
  rw[aE (by rw[hL,aC h];simp),er,Fc tt,aC (λh=>h rfl)];show(dA n 32++cL s,decide ((cB (dA n 32++cL s)).flatten=(cB s).flatten))=_;rw[<-es,aL rfl]
def lG:List (List UInt8)->List (List UInt8)->List UInt8->Bool->Option (Bool×List (List UInt8))
 |[],out,_,op=>some (op,out)
 |r::p,out,now,_=>if gN r=true then lG p out (now++gU r) true else if(!(lO (now++r)).2)=true then none else lG p (out++[(lO (now++r)).1]) [] false
def Eo(p:List (List UInt8)):List (List UInt8)×Int:=match lG p [] [] false with
 |none=>([],2)
 |some x=>if(!x.1&&j0 x.2 p)=true then(x.2,0)else([],2)
theorem aBP{w:Nat}(hw:4<=w):∀(n:Nat){l:List (List UInt8)}(p out:List (List UInt8))(now:List UInt8)(op:Bool),iL l->l.length<=n->Nd l->(lO (now++l.flatten)).2=true->lG (iA w l++p) out now op=lG p (out++[(lO (now++l.flatten)).1]) [] false
 |n,l,p,out,now,op,hl,hn,hd,hk=>by
   rw[u0 hw hl];by_cases ht:l.flatten.length<=w
   .rw[aE ht]
    have g:gN l.flatten=false:=aZ (Rb hd);show lG (l.flatten::p) out now op=_;rw[lG,g,hk,aC (by simp),aC (by simp)]
   .rw[aC ht]
    have hne:l≠[]:=λe=>by subst e;simp at ht
    obtain⟨f1,f2,k,_,f4,_⟩:=tJ (w-1) l [] (by simp);have fl:=tK hl hne (m:=w-1) (by omega);have fc:=(tL (m:=w-1) (row:=[]) hl (by simp)).1;have fd:Nd (dF (w-1) l []).2:=λc hc=>by
     rw[f4]at hc;exact hd c (aXK hc)
    rw[fK]at f2;have e2:now++l.flatten=(now++(dF (w-1) l []).1)++(dF (w-1) l []).2.flatten:=by rw[fT,f2]
    rw[e2]at hk ⊢;have g:gN ((dF (w-1) l []).1++[63])=true:=aL (by simp);have e:gU ((dF (w-1) l []).1++[63])=(dF (w-1) l []).1:=by unfold gU;rw[g,aE rfl];simp
    cases n with
    |zero=>omega
    |succ n=>
      rw[Af,lG,g,e,aE rfl];exact aBP hw n p out _ true fc (by omega) fd hk
theorem aBQ{w:Nat}(hw:4<=w):∀(a out:List (List UInt8)),(∀s∈a,s.length<=80/\dD s=true)->lG (a.flatMap (dZ w)) out [] false=some (false,out++a)
 |[],out,_=>by rw[kN];rfl
 |s::a,out,h=>by
   obtain⟨h1,h2⟩:=h s (jF ..);have hw2:=aEJ h2 h1;rw[fS];show lG (iA w (cB s)++_) out [] false=_;rw[aBP hw _ _ out [] false (qS s) (bX _) (aBy h2 h1).1 (by rw[fK,hw2]),fK,hw2,aBQ hw a _ (λx hx=>h x (gF _ hx)),fT];rfl
theorem aWo{out p:List (List UInt8)}(h:j0 out p=true):∃w,gO out w=0/\p=out.flatMap (dZ w.toNat):=by
 unfold j0 at h;obtain⟨i,_,h⟩:=jN.1 h;have h:=cH h;by_cases hf:gO out ((4+i:Nat):Int)=0
 .refine⟨_,hf,?_⟩
  unfold eW at h;rw[aE hf]at h;exact(aO Prod.fst h).symm
 .unfold eW at h
  rw[aC hf]at h;exact absurd (aO Prod.snd h) hf
theorem aRD(p:List (List UInt8)):Eo p=kU p:=by
 by_cases he:∃a w,gO a w=0/\p=a.flatMap (dZ w.toNat)
 .obtain⟨a,w,hf,rfl⟩:=he
  obtain⟨e1,e2⟩:=aBM hf;rw[e2];obtain⟨h1,h2,h3,h4,h5⟩:=C6 hf;unfold Eo;rw[aBQ (by omega) a [] (λs hs=>⟨h2 s hs,h3 s hs⟩),fK];have an:j0 a (a.flatMap (dZ w.toNat))=true:=by
   unfold j0;refine jN.2 ⟨w.toNat-4,nE.2 (by omega),aL ?_⟩;rw[show((4+(w.toNat-4):Nat):Int)=w by omega];exact e1
  show(if(!false&&j0 a _)=true then _ else _)=_;rw[an,aE (by rfl)]
 .have no:∀out,j0 out p=false:=λout=>Bool.eq_false_iff.2 λh=>he ⟨out,aWo h⟩
  have e1:kU p=([],2):=by
   unfold kU;split
   .rfl
   .rw[no,aC (by simp)]
  have e2:Eo p=([],2):=by
   unfold Eo;split
   .rfl
   .rw[no,Tt,aC (by simp)]
  rw[e1,e2]
end Go.Proofs
/- The reference's Read, in plain words: the function. -/
namespace Go.Proofs
open Go Go.Ax Go.Ax.aA
theorem Ki:∀{p:List (List UInt8)}{r:List UInt8},r∈p->r.length<=p.flatten.length
 |q::p,r,h=>by
   rw[fR,bF];rcases eD.1 h with rfl|h
   .omega
   .have:=Ki h;omega
theorem Ot(N:Nat)(hN:60000<=N)(k0:Int->O)(k1:List (List UInt8)->Bool->List (List UInt8)->O)(k2:Unit->O)(p:List (List UInt8))(e:Int)(hp:p.length<=50000):∀(n i:Nat)(out:List (List UInt8))(now:List UInt8)(op:Bool),p.length-i<n->i<=p.length->out.length<=i->now.length+(p.drop i).flatten.length<=15000->
    yF N n (p,e,op,(i:Int),out,now) k0 (λy=>k1 y.1 y.2.1 y.2.2) k2=match lG (p.drop i) out now op with
     |none=>k0 2
     |some x=>k1 p x.1 x.2
  |0,i,_,_,_,h,_,_,_=>by omega
  |n+1,i,out,now,op,h,hi,ho,hf=>by
    show JM N _ _ (λy0 y1 y2=>k1 y0 y1 y2) p e op (i:Int) out now=_;unfold JM;by_cases hlt:i<p.length
    .have g:=bM hlt
     have hd:=fZ g;rw[hd,fR,bF]at hf;have ei:aS.wrap ((i:Int)+1)=((i+1:Nat):Int):=by rw[wr (by omega) (by omega)];omega
     rw[aL (show(i:Int)<(p.length:Int)by omega),bJ,cU g,hd];generalize p[i]=r at hf ⊢;have hsl:=K3 r;have hgo:∀k:UInt8->O,gc (decide ((0:Int)<(r.length:Int))) (0:UInt8) r (aS.wrap ((r.length:Int)-1)) k=k (r.getLast?.getD 0):=λk=>by
      rcases Tj r with rfl|⟨t,c,rfl⟩
      .rfl
      .rw[Fz]at *
       have hl:((t++[c]).length:Int)=(t.length:Int)+1:=by simp
       rw[bF]at hf;have ew:aS.wrap ((t.length:Int)+1-1)=((t.length:Nat):Int):=by rw[wr (by omega) (by omega)];omega
       rw[hl,aL (by omega),vM,ew,cU (y:=c) (by simp)];simp
     have hgoes:(decide ((0:Int)<(r.length:Int))&&decide (r.getLast?.getD 0=63))=gN r:=by
      unfold gN;rcases Tj r with rfl|⟨t,c,rfl⟩
      .rfl
      .have hL:(t.concat c).getLast?=some c:=by rw[Fz];simp
       have hp:(0:Int)<((t.concat c).length:Int):=by rw[Fz,bF];simp
       rw[hL,aL hp,lM];simp
     rw[hgo,hgoes,lG];cases hg:gN r with
     |true=>
       have hpos:1<=r.length:=by
        unfold gN at hg;cases r with
        |nil=>cases hg
        |cons c t=>simp
       have ew:aS.wrap ((r.length:Int)-1)=((r.length-1:Nat):Int):=by rw[wr (by omega) (by omega)];omega
       have hsl:cA r none (some ((r.length-1:Nat):Int))=r.dropLast:=by
        show r.take (((r.length-1:Nat):Int)).toNat=_;rw[iT,List.dropLast_eq_take]
       have es:gU r=r.dropLast:=by unfold gU;rw[hg,aE rfl]
       have hdl:r.dropLast.length<=r.length:=by rw[List.length_dropLast];omega
       rw[bJ,ew,aP (show dJ r.length none (some ((r.length-1:Nat):Int))=true from aL ⟨by omega,by omega⟩),hsl,aP (eT (by rw[bF];omega) (by rw[bF];omega)),ei,aE rfl,es];exact Ot N hN k0 k1 k2 p e hp n (i+1) out (now++r.dropLast) true (by omega) (by omega) (by omega) (by rw[bF];omega)
     |false=>
       have hl:(now++r).length<=15000:=by rw[bF];omega
       rw[bL,aC (by decide),aP (eT (by omega) (by omega)),aP (aIA hN hl),aHy hN hl,aHz hN hl];cases hw:(lO (now++r)).2 with
       |false=>rw[tX,bJ,aE rfl]
       |true=>
         rw[oP,bL,aC (by decide),aP (eT (by simp;omega) (by simp;omega)),ei];exact Ot N hN k0 k1 k2 p e hp n (i+1) (out++[(lO (now++r)).1]) [] false (by omega) (by omega) (by simp;omega) (by rw[iJ];omega)
    .rw[aZ (show ¬ (i:Int)<(p.length:Int)by omega),bL,fD (by omega)]
     rfl
theorem Qz:∀{p out:List (List UInt8)}{now:List UInt8}{op:Bool}{o:Bool×List (List UInt8)},lG p out now op=some o->(∀s∈out,s.length<=15081)->now.length+p.flatten.length<=15000->(∀s∈o.2,s.length<=15081)/\o.2.length<=out.length+p.length
 |[],out,now,_,o,h,ho,_=>by cases h;exact⟨ho,bX _⟩
 |r::p,out,now,_,o,h,ho,hf=>by
   rw[fR,bF]at hf;have hsl:=K3 r;unfold lG at h;split at h
   .obtain⟨h1,h2⟩:=Qz h ho (by rw[bF];omega)
    exact⟨h1,by rw[dK];omega⟩
   .split at h
    .cases h
    .have hw:=aEK (now++r)
     rw[bF]at hw;obtain⟨h1,h2⟩:=Qz h (λs hs=>by
      rcases nF.1 hs with h|h
      .exact ho s h
      .rw[lL.1 h];omega) (by rw[iJ];omega)
     exact⟨h1,by rw[bF,Ti]at h2;rw[dK];omega⟩
theorem Y7(N:Nat)(hN:60000<=N)(k0:Int->List (List UInt8)->O)(k1 k2:Unit->O)(p out:List (List UInt8))(op:Bool)(hp:p.length<=50000)(hf:p.flatten.length<=15000)(ho:out.length<=50000)(hs:∀s∈out,s.length<=15081):∀(n i:Nat),37-i<n->i<=37->
    uN N n (p,op,((4+i:Nat):Int),out) (λy=>k0 y.1 y.2) k1 k2=if(!op&&((fJ 37).drop i).any λi=>decide (eW out ((4+i:Nat):Int)=(p,0)))=true then k0 0 out else k1 ()
 |0,i,h,_=>by omega
 |n+1,i,h,hi=>by
   show JL N _ _ _ p op out ((4+i:Nat):Int)=_;unfold JL;have hs':∀s∈out,s.length<=1000000/\s.length<N:=λs h=>by have:=hs s h;omega
   have hr':∀r∈p,r.length<N/\r.length<=1000000:=λr h=>by have:=Ki h;omega
   cases op with
   |true=>rw[oP,Tt,bL,pZ,aC (by decide)]
   |false=>
   by_cases hlt:i<37
   .have g:(fJ 37)[i]?=some i:=List.getElem?_range hlt
    rw[aL (show((4+i:Nat):Int)<=40 by omega),tX,lM,lM,bJ,aP (ZP (by omega) (by omega) (by omega) hs'),aNU (by omega) (by omega) (by omega) hs',ZO (by omega) (by omega) (by omega) hs',aP (by rw[PR (by omega) (by omega) hr',Bool.or_true]),PQ (by omega) (by omega) hr',fZ g,rJ];have hc:(decide ((eW out ((4+i:Nat):Int)).2=0)&&decide (p=(eW out ((4+i:Nat):Int)).1))=decide (eW out ((4+i:Nat):Int)=(p,0)):=by
     rw[Bool.eq_iff_iff];simp only[bA,eC,Prod.ext_iff];exact⟨λh=>⟨h.2.symm,h.1⟩,λh=>⟨h.2,h.1.symm⟩⟩
    rw[hc];cases hd:decide (eW out ((4+i:Nat):Int)=(p,0))with
    |true=>rw[bJ,Bool.true_or,aE rfl]
    |false=>
      rw[bL,jG,wr (by omega) (by omega),show((4+i:Nat):Int)+1=((4+(i+1):Nat):Int)by omega];refine(Y7 N hN k0 k1 k2 p out false hp hf ho hs n (i+1) (by omega) (by omega)).trans ?_;rw[tX,lM]
   .have:i=37:=by omega
    subst this;rfl
theorem Ou{N:Nat}{p:List (List UInt8)}(hN:60000<=N)(hp:p.length<=50000)(hf:p.flatten.length<=15000):yE N p=some (kU p):=by
 rw[<-aRD];unfold yE Y8 Ov Om Ol Eo;have h0:=Ot N hN (λz11=>some (o6 [] z11)) (λz12 z13 z14=>uN N N (z12,z13,4,z14) (λy=>some (o6 y.2 y.1)) (λ_=>some (o6 [] 2)) (λ_=>none)) (λ_=>none) p 0 hp N 0 [] [] false (by omega) (dC _) (bX _) (by rw[iJ,fV];omega);refine(aO (λz:O=>z.bind Dq) h0).trans ?_;rw[fV];cases hr:lG p [] [] false with
 |none=>rfl
 |some x=>
   obtain⟨h1,h2⟩:=Qz hr (λs h=>by cases h) (by rw[iJ];omega);rw[iJ]at h2;have hw:=Y7 N hN (λz16 z17=>some (o6 z17 z16)) (λ_=>some (o6 [] 2)) (λ_=>none) p x.2 x.1 hp hf (by omega) h1 N 0 (by omega) (by omega);refine(aO (λz:O=>z.bind Dq) hw).trans ?_;rw[fV];show _=some (if(!x.1&&j0 x.2 p)=true then(x.2,0)else([],2));unfold j0;split <;> rfl
theorem aLw{N:Nat}{p:List (List UInt8)}(hN:60000<=N)(hp:p.length<=50000)(hf:p.flatten.length<=15000):JF N p=true:=by unfold JF;rw[Ou hN hp hf];rfl
theorem aLv{N:Nat}{p:List (List UInt8)}(hN:60000<=N)(hp:p.length<=50000)(hf:p.flatten.length<=15000):Dp N p=(kU p).1:=by unfold Dp;rw[Ou hN hp hf];rfl
theorem aLu{N:Nat}{p:List (List UInt8)}(hN:60000<=N)(hp:p.length<=50000)(hf:p.flatten.length<=15000):Dn N p=(kU p).2:=by unfold Dn;rw[Ou hN hp hf];rfl
end Go.Proofs
