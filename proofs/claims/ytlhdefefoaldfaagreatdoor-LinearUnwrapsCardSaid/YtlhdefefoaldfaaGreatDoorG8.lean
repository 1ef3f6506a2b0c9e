/- Wrapping. Conditions are in the theorems. -/
import Derived.Test.YtlhdefefoaldfaaGreatDoorG7
open Bool renaming decide_or->aAx,not_false->gX,not_true->kU
open Int renaming toNat_natCast->nC
open List renaming getElem?_append_right->dW,mem_append->lV,mem_cons_of_mem->eY,mem_singleton->zK
open Nat renaming le_refl->bZ
/- Wrapping: what both do. -/
namespace Go.Proofs
open Go Go.Ax Go.Ax.aA
def pE(w ll f:Int):List Int->Int->Int
 |[],t=>t
 |p::ps,t=>pE w ll f ps (if f<p/\ll+p-f<=w then p else t)
def j6(f:Nat):Tx:=if 0<f then[0,0]else[]
def sM(l:Tx)(f t:Nat):Tx:=j6 f++(l.take t).drop f
def fM(ps:List Int)(w:Int)(f:Nat):Nat:=(pE w ((j6 f).length:Int) f ps f).toNat
def kV(l:Tx)(ps:List Int)(w:Int):Nat->Nat->List Tx->Option (List Tx)
 |0,_,out=>some out
 |n+1,f,out=>if f<l.length then(if fM ps w f<=f then none else kV l ps w n (fM ps w f) (out++[sM l f (fM ps w f)]))else some out
theorem Ze(f:Nat):(j6 f).length<=2:=by unfold j6;split <;> simp
theorem Bp{w ll f:Int}:∀(ps:List Int)(t:Int),pE w ll f ps t=t\/(pE w ll f ps t∈ps/\f<pE w ll f ps t/\ll+pE w ll f ps t-f<=w)
 |[],t=>.inl rfl
 |p::ps,t=>by
   unfold pE;by_cases h:f<p/\ll+p-f<=w
   .rw[aJ h]
    rcases Bp (w:=w) (ll:=ll) (f:=f) ps p with e|⟨e1,e2⟩
    .rw[e];exact .inr ⟨List.mem_cons_self ..,h⟩
    .exact .inr ⟨eY _ e1,e2⟩
   .rw[aD h]
    rcases Bp (w:=w) (ll:=ll) (f:=f) ps t with e|⟨e1,e2⟩
    .exact .inl e
    .exact .inr ⟨eY _ e1,e2⟩
theorem FI{ps:List Int}{w:Int}{f:Nat}:((fM ps w f:Nat):Int)=pE w ((j6 f).length:Int) f ps f:=by
 unfold fM;rcases Bp (w:=w) (ll:=((j6 f).length:Int)) (f:=(f:Int)) ps f with e|⟨e1,e2,_⟩ <;> omega
theorem ZJ{ps:List Int}{w:Int}{f:Nat}:f<=fM ps w f:=by
 have h:=FI (ps:=ps) (w:=w) (f:=f);rcases Bp (w:=w) (ll:=((j6 f).length:Int)) (f:=(f:Int)) ps f with e|⟨e1,e2,_⟩ <;> omega
theorem JZ{ps:List Int}{w:Int}{f n:Nat}(hf:f<=n)(h:∀p∈ps,p<=(n:Int)):fM ps w f<=n:=by
 have h1:=FI (ps:=ps) (w:=w) (f:=f);rcases Bp (w:=w) (ll:=((j6 f).length:Int)) (f:=(f:Int)) ps f with e|⟨e1,e2,_⟩
 .omega
 .have:=h _ e1;omega
theorem aBH{l:Tx}{ps:List Int}{w:Int}{B:Nat}(hB:l.length+2<=B):∀(n f:Nat)(out p:List Tx),(∀r∈out,r.length<=B)->kV l ps w n f out=some p->(∀r∈p,r.length<=B)/\p.length<=out.length+n
 |0,f,out,p,h,e=>by unfold kV at e;cases e;exact⟨h,by omega⟩
 |n+1,f,out,p,h,e=>by
   unfold kV at e;split at e
   .split at e
    .cases e
    .have:=aBH hB n _ _ p (λr hr=>by
      rcases lV.1 hr with hr|hr
      .exact h r hr
      .rw[zK]at hr
       subst hr;have:=Ze f;unfold sM;simp;omega) e
     refine⟨this.1,?_⟩;have h2:=this.2;simp at h2;omega
   .cases e;exact⟨h,by omega⟩
section
variable{N:Nat}{l:Tx}{ps:List Int}{w:Int}(hl:l.length<=2^20)(hp:∀p∈ps,0<=p/\p<=(l.length:Int))(hps:ps.length<=2^20)
include hl hp hps
theorem aF2{f:Nat}(hf:f<=l.length){line:Tx}(hli:line.length<=2){out:List Tx}{K:Int×Int×(List Int)×Int×(List UInt8)×(List (List UInt8))×(List UInt8)->O}{k1 k2:Unit->O}:∀(r pre:List Int)(t:Int)(m:Nat),ps=pre++r->r.length<m->
    Ai N m (t,ps,(ps.length:Int),(pre.length:Int),(f:Int),ps,w,l,out,line) K k1 k2=K (pE w (line.length:Int) f r t,(f:Int),ps,w,l,out,line)
 |_,_,_,0,_,h=>by omega
 |[],pre,t,m+1,hs,_=>by
   show D7 _ _ _ _ _ _ _ _ _ _ _ _ _=_;unfold D7;simp only[];have h0:ps.length=pre.length:=by rw[hs];simp
   rw[aR (by omega),aK];rfl
 |p::r,pre,t,m+1,hs,hm=>by
   have hlt:pre.length<ps.length:=by rw[hs];simp
   have hg:ps[pre.length]?=some p:=by rw[hs,dW (bZ _)];simp
   have hpp:=hp p (by rw[hs];simp);have ih:=λ(t':Int)=>aF2 (f:=f) hf (line:=line) hli (out:=out) (K:=K) (k1:=k1) (k2:=k2) r (pre++[p]) t' m (by rw[hs];simp) (by simp at hm;omega)
   have hpl:((pre++[p]).length:Int)=(pre.length:Int)+1:=by simp
   rw[hpl]at ih;show D7 _ _ _ _ _ _ _ _ _ _ _ _ _=_;unfold D7;simp only[];rw[aQ (by omega),aX,dO hg,wr (x:=(line.length:Int)+p) (by omega) (by omega),wr (x:=(line.length:Int)+p-f) (by omega) (by omega),wr (x:=(pre.length:Int)+1) (by omega) (by omega)];unfold pE;by_cases h:(f:Int)<p/\(line.length:Int)+p-f<=w
   .rw[aJ h,aQ h.1,aQ h.2]
    exact ih p
   .rw[aD h,show(decide ((f:Int)<p)&&decide ((line.length:Int)+p-f<=w))=false by rw[<-Bool.decide_and];exact aR h]
    exact ih t
theorem aVh(hN:ps.length<N){f:Nat}(hf:f<=l.length){out:List Tx}(ho:out.length<=2^30):qF N f ps w l out=some (decide (f<fM ps w f),((fM ps w f:Nat):Int),ps,w,l,out++[sM l f (fM ps w f)]):=by
 have hn:=ZJ (ps:=ps) (w:=w) (f:=f);have hn':=JZ (ps:=ps) (w:=w) hf (λp h=>(hp p h).2);have hi:=Ze f;have hsl:c8 l (some (f:Int)) (some ((fM ps w f:Nat):Int))=(l.take (fM ps w f)).drop f:=by
  show(l.take _).drop _=_;rw[nC,nC]
 unfold qF w47 VB;have h0:∀(K:Int->(List Int)->Int->(List UInt8)->(List (List UInt8))->(List UInt8)->O),NK N (f:Int) ps w l out K=K f ps w l out (j6 f):=λK=>by
  unfold NK HI VC j6;simp only[cP];by_cases h:0<f
  .rw[aQ (by omega),aX,aJ h]
  .rw[aR (by omega),aK,aD h]
 rw[h0];unfold Ux;refine(bE (λz:O=>z.bind NF) (aF2 hl hp hps hf hi (out:=out) ps [] f N rfl hN)).trans ?_;rw[<-FI];simp only[hsl];rw[aI (by unfold dX;exact aQ (by omega)),aI (gV (by simp;omega) (by omega))];rw[aI (show cF (out++[j6 f++(l.take (fM ps w f)).drop f]).length 24=true by unfold cF;simp;omega)];simp only[Int.ofNat_lt];rfl
theorem aHa(hN:ps.length<N){K:Int->O}{k1:List Tx->O}{k2:Unit->O}:∀(n f:Nat)(out:List Tx)(m:Nat),f<=l.length->l.length-f<=n->out.length+n<=2^29->n<m->
    BR N m (l,(f:Int),ps,w,out) K k1 k2=(match kV l ps w n f out with|some p=>k1 p|none=>K 14)
 |_,_,_,0,_,_,_,h=>by omega
 |0,f,out,m+1,hf,h,_,_=>by
   show EJ _ _ _ _ _ _ _ _ _=_;unfold EJ;simp only[];rw[aR (by omega),aK];rfl
 |n+1,f,out,m+1,hf,h,ho,hm=>by
   show EJ _ _ _ _ _ _ _ _ _=_;unfold EJ;simp only[];unfold kV;by_cases hlt:f<l.length
   .have hz:=aVh (N:=N) (w:=w) hl hp hps hN hf (out:=out) (by omega)
    have p0:NJ N f ps w l out=true:=by unfold NJ;rw[hz];rfl
    have y0:ND N f ps w l out=decide (f<fM ps w f):=by unfold ND;rw[hz];rfl
    have y1:NB N f ps w l out=((fM ps w f:Nat):Int):=by unfold NB;rw[hz];rfl
    have y2:NA N f ps w l out=ps:=by unfold NA;rw[hz];rfl
    have y3:Mz N f ps w l out=w:=by unfold Mz;rw[hz];rfl
    have y4:My N f ps w l out=l:=by unfold My;rw[hz];rfl
    have y5:Mx N f ps w l out=out++[sM l f (fM ps w f)]:=by unfold Mx;rw[hz];rfl
    rw[aQ (by omega),aX,aJ hlt,p0,cP,y0,y1,y2,y3,y4,y5];by_cases h2:fM ps w f<=f
    .rw[aR (by omega),gX,aX,aJ h2]
    .rw[aQ (by omega),kU,aK,aD h2]
     exact aHa hN n (fM ps w f) _ m (JZ hf (λp h=>(hp p h).2)) (by omega) (by simp;omega) (by omega)
   .rw[aR (by omega),aK,aD hlt]
theorem aH3{f:Nat}(hf:f<=l.length){line:Tx}(hli:line.length<=2){out:List Tx}{K:Int×(List UInt8)×Int×Int×(List Int)×(List (List UInt8))×(List UInt8)->O}{k1 k2:Unit->O}:∀(r pre:List Int)(t:Int)(m:Nat),ps=pre++r->r.length<m->
    BN N m (w,l,(f:Int),t,(pre.length:Int),ps,out,line) K k1 k2=K (w,l,(f:Int),pE w (line.length:Int) f r t,ps,out,line)
 |_,_,_,0,_,h=>by omega
 |[],pre,t,m+1,hs,_=>by
   show EH _ _ _ _ _ _ _ _ _ _ _=_;unfold EH;simp only[];have h0:ps.length=pre.length:=by rw[hs];simp
   rw[aR (by omega),aK];rfl
 |p::r,pre,t,m+1,hs,hm=>by
   have hlt:pre.length<ps.length:=by rw[hs];simp
   have hg:ps[pre.length]?=some p:=by rw[hs,dW (bZ _)];simp
   have hpp:=hp p (by rw[hs];simp);have ih:=λ(t':Int)=>aH3 (f:=f) hf (line:=line) hli (out:=out) (K:=K) (k1:=k1) (k2:=k2) r (pre++[p]) t' m (by rw[hs];simp) (by simp at hm;omega)
   have hpl:((pre++[p]).length:Int)=(pre.length:Int)+1:=by simp
   rw[hpl]at ih;show EH _ _ _ _ _ _ _ _ _ _ _=_;unfold EH;simp only[];rw[aQ (by omega),aX,dO hg,wr (x:=(pre.length:Int)+1) (by omega) (by omega)];simp only[vJ hg,dO hg];unfold pE;by_cases h1:(f:Int)<p
   .simp only[aQ h1,gZ,Bool.true_and]
    rw[wr (x:=(line.length:Int)+p) (by omega) (by omega),wr (x:=(line.length:Int)+p-f) (by omega) (by omega)];by_cases h2:(line.length:Int)+p-f<=w
    .rw[aJ ⟨h1,h2⟩,aQ h2]
     exact ih p
    .rw[aD (λh=>h2 h.2),aR h2]
     exact ih t
   .simp only[aR h1,Bool.false_and]
    rw[aD (λh=>h1 h.1)];exact ih t
theorem aH4(hN:ps.length<N){K:Int->O}{k1:List Tx->O}{k2:Unit->O}:∀(n f:Nat)(out:List Tx)(m:Nat),f<=l.length->l.length-f<=n->out.length+n<=2^29->n<m->
    BM N m (w,l,(f:Int),ps,out) K k1 k2=(match kV l ps w n f out with|some p=>k1 p|none=>K 14)
 |_,_,_,0,_,_,_,h=>by omega
 |0,f,out,m+1,hf,h,_,_=>by
   show EG _ _ _ _ _ _ _ _ _ _ _=_;unfold EG;simp only[];rw[aR (by omega),aK];rfl
 |n+1,f,out,m+1,hf,h,ho,hm=>by
   show EG _ _ _ _ _ _ _ _ _ _ _=_;unfold EG;simp only[];unfold kV;by_cases hlt:f<l.length
   .have hn:=ZJ (ps:=ps) (w:=w) (f:=f)
    have hn':=JZ (ps:=ps) (w:=w) hf (λp h=>(hp p h).2);have hi:=Ze f;have hsl:c8 l (some (f:Int)) (some ((fM ps w f:Nat):Int))=(l.take (fM ps w f)).drop f:=by
     show(l.take _).drop _=_;rw[nC,nC]
    have h0:∀(K:Int->(List UInt8)->Int->(List Int)->(List (List UInt8))->(List UInt8)->O),Hl N w l (f:Int) ps out K=K w l f ps out (j6 f):=λK=>by
     unfold Hl Hm WV j6;simp only[];by_cases h:0<f
     .rw[aQ (by omega),aX,aJ h]
     .rw[aR (by omega),aK,aD h]
    rw[aQ (by omega),aX,aJ hlt,h0];unfold PA;refine(aH3 hl hp hps hf hi (out:=out) ps [] f N rfl hN).trans ?_;simp only[];rw[<-FI];by_cases h2:fM ps w f<=f
    .rw[aQ (by omega),aX,aJ h2]
    .rw[aR (by omega),aK,aD h2,hsl,aI (by unfold dX;exact aQ (by omega)),aI (gV (by simp;omega) (by omega))]
     rw[aI (show cF (out++[j6 f++(l.take (fM ps w f)).drop f]).length 24=true by unfold cF;simp;omega)];exact aH4 hN n (fM ps w f) _ m hn' (by omega) (by simp;omega) (by omega)
   .rw[aR (by omega),aK,aD hlt]
end
theorem aMX:∀(s:Tx)(a:UInt8)(n:Nat),∀p∈lT a n s,(n:Int)<p/\p<=((n+(dQ a s).length:Nat):Int)
 |[],_,_,_,h=>by cases h
 |c::s,a,n,p,h=>by
   have hce:=(CL [c] a).1;simp only[dQ,List.append_nil,List.length_cons,List.length_nil]at hce;unfold lT at h;unfold dQ;rw[List.length_append];rcases lV.1 h with h|h
   .split at h
    .rw[zK]at h;omega
    .cases h
   .have:=aMX s c (n+(oH a c).length) p h
    omega
def n9(e:Ex):List Int:=mW e++[((cH e).length:Int)]
theorem Yo{e:Ex}:∀p∈n9 e,0<=p/\p<=((cH e).length:Int):=λp hp=>by
 unfold n9 at hp;rcases lV.1 hp with hp|hp
 .unfold mW at hp
  split at hp
  .rename_i hv
   have:=aMX _ _ _ p hp;rw[Jg hv];simp;omega
  .cases hp
 .rw[zK]at hp;omega
def fA(e:Ex)(w:Int):List Tx×Int:=
 if c9 e=0 then(if w<4\/40<w then([],5)else match kV (cH e) (n9 e) w (cH e).length 0 []with|some p=>(p,0)|none=>([],14))else([],c9 e)
theorem aNL{e:Ex}{w:Int}:(∀r∈(fA e w).1,r.length<=4099)/\(fA e w).1.length<=4097:=by
 have hel:=F0 (e:=e);unfold fA;split
 .split
  .simp
  .split
   .rename_i p h
    have:=aBH (B:=4099) (by omega) _ _ _ _ (by simp) h;refine⟨this.1,?_⟩;have:=this.2;simp at this;show p.length<=4097;omega
   .simp
 .simp
section
variable{N:Nat}{e:Ex}{w:Int}(hN:70000<=N)(hs:aT e<=8500)
include hN hs
theorem W0:EI N e.op e.num e.kids w=some (fA e w):=by
 have hel:=F0 (e:=e);have hbl:=aMY (e:=e);unfold EI w24 W3 fA;simp only[Ex.eta,Xj hN hs,Xi hN hs,Xh hN hs,cP];by_cases hv:c9 e=0
 .have h1:=O2 (N:=N) (e:=e) (by omega) (by omega)
  have h2:=O1 (N:=N) (e:=e) (by omega) (by omega);have h3:=aGe (N:=N) (e:=e) (by omega) (by omega);have h4:=aGd (N:=N) (e:=e) (by omega) (by omega);have h5:=aGj (e:=e) hN;have h6:BA N (c7 e)=true:=by unfold BA;rw[h5];rfl
  have h7:OT N (c7 e)=mW e:=by unfold OT mW;rw[h5,aJ hv];rfl
  have hz:EZ N e.op e.num e.kids=some (0,mW e):=by
   unfold EZ w12 XF;simp only[Ex.eta];rw[aI h1,h2,aR (by simpa using hv),aK,aI h3,h4,aI h6,h7];rfl
  have p12:Pe N e.op e.num e.kids=true:=by unfold Pe;rw[hz];rfl
  have y12:Pc N e.op e.num e.kids=mW e:=by unfold Pc;rw[hz];rfl
  rw[aJ hv,aR (by simpa using hv),aK,<-aAx];by_cases hw:w<4\/40<w
  .rw[aJ hw,aQ hw,aX];rfl
  .rw[aD hw,aR hw,aK,p12,cP,y12]
   have hl:cF (mW e++[((cH e).length:Int)]).length 8=true:=gV (by simp;omega) (by omega);rw[hl,cP];have hpl:(n9 e).length<=17001:=by unfold n9;simp;omega
   unfold WW;refine(bE (λz:O=>z.bind PF) (aHa (N:=N) (ps:=n9 e) (w:=w) (by omega) Yo (by omega) (by omega) (cH e).length 0 [] N (by omega) (by omega) (by simp;omega) (by omega))).trans ?_;cases kV (cH e) (n9 e) w (cH e).length 0 [] <;> rfl
 .rw[aD hv,aQ hv,aX];rfl
theorem WT:EE N e.op e.num e.kids w=some (fA e w):=by
 have hel:=F0 (e:=e);have hbl:=aMY (e:=e);unfold EE w25 WU fA;simp only[Ex.eta,aIc hN hs,aIb hN hs,aIa hN hs,cP];by_cases hv:c9 e=0
 .have h1:=OP (N:=N) (e:=e) (by omega) (by omega)
  have h2:=OO (N:=N) (e:=e) (by omega) (by omega);have h3:=aGU (N:=N) (e:=e) (by omega) (by omega) (by omega);have h4:=aGT (N:=N) (e:=e) (by omega) (by omega) (by omega);have h5:=aG2 (e:=e) hN;have h6:Av N (c7 e)=true:=by unfold Av;rw[h5];rfl
  have h7:OA N (c7 e)=mW e:=by unfold OA mW;rw[h5,aJ hv];rfl
  have hz:EY N e.op e.num e.kids=some (0,mW e):=by
   unfold EY w13 XC;simp only[Ex.eta];rw[aI h1,h2,aR (by simpa using hv),aK,aI h3,h4,aI h6,h7];rfl
  have p13:Pb N e.op e.num e.kids=true:=by unfold Pb;rw[hz];rfl
  have y13:P9 N e.op e.num e.kids=mW e:=by unfold P9;rw[hz];rfl
  rw[aJ hv,aR (by simpa using hv),aK,<-aAx];by_cases hw:w<4\/40<w
  .rw[aJ hw,aQ hw,aX];rfl
  .rw[aD hw,aR hw,aK,p13,cP,y13]
   have hl:cF (mW e++[((cH e).length:Int)]).length 8=true:=gV (by simp;omega) (by omega);rw[hl,cP];have hpl:(n9 e).length<=17001:=by unfold n9;simp;omega
   unfold WN;refine(bE (λz:O=>z.bind Ow) (aH4 (N:=N) (ps:=n9 e) (w:=w) (by omega) Yo (by omega) (by omega) (cH e).length 0 [] N (by omega) (by omega) (by simp;omega) (by omega))).trans ?_;cases kV (cH e) (n9 e) w (cH e).length 0 [] <;> rfl
 .rw[aD hv,aQ hv,aX];rfl
theorem a0D:PH N e.op e.num e.kids w=true:=by unfold PH;rw[W0 hN hs];rfl
theorem a0C:Hp N e.op e.num e.kids w=(fA e w).1:=by unfold Hp;rw[W0 hN hs];rfl
theorem a0B:Ho N e.op e.num e.kids w=(fA e w).2:=by unfold Ho;rw[W0 hN hs];rfl
theorem aH2:Hk N e.op e.num e.kids w=true:=by unfold Hk;rw[WT hN hs];rfl
theorem aH1:xK N e.op e.num e.kids w=(fA e w).1:=by unfold xK;rw[WT hN hs];rfl
theorem aZm:Hj N e.op e.num e.kids w=(fA e w).2:=by unfold Hj;rw[WT hN hs];rfl
end
theorem aHR{N:Nat}{a b:List Tx}(hl:a.length<=2^40)(hr:∀r∈a,r.length<=2^40/\r.length<N){K:Bool->O}{k1 k2:Unit->O}:∀(r r' pre pre':List Tx)(m:Nat),a=pre++r->b=pre'++r'->pre.length=pre'.length->r.length=r'.length->r.length<m->
    BJ N m (a,b,(pre.length:Int)) K k1 k2=if r=r' then k1 ()else K false
 |_,_,_,_,0,_,_,_,_,h=>by omega
 |[],r',pre,pre',m+1,ha,_,_,hq,_=>by
   show ED _ _ _ _ _ _ _=_;unfold ED;simp only[];have h0:a.length=pre.length:=by rw[ha];simp
   have h1:r'=[]:=List.eq_nil_of_length_eq_zero hq.symm;rw[aR (by omega),aK,h1,aJ rfl]
 |x::r,[],_,_,_,_,_,_,h,_=>by simp at h
 |x::r,y::r',pre,pre',m+1,ha,hb,hp,hq,hm=>by
   have hlt:pre.length<a.length:=by rw[ha];simp
   have hg:a[pre.length]?=some x:=by rw[ha,dW (bZ _)];simp
   have hg':b[pre.length]?=some y:=by rw[hb,hp,dW (bZ _)];simp
   have hx:=hr x (by rw[ha];simp);show ED _ _ _ _ _ _ _=_;unfold ED;simp only[];rw[aQ (by omega),aX,dO hg,dO hg',aI (aIW hx.1 hx.2),aIV hx.1 hx.2];by_cases h:x=y
   .subst h
    rw[aQ rfl,kU,aK,wr (by omega) (by omega)];have ih:=aHR (N:=N) (a:=a) (b:=b) hl hr (K:=K) (k1:=k1) (k2:=k2) r r' (pre++[x]) (pre'++[x]) m (by rw[ha];simp) (by rw[hb];simp) (by simp[hp]) (by simpa using hq) (by simp at hm;omega);have hpl:((pre++[x]).length:Int)=(pre.length:Int)+1:=by simp
    rw[hpl]at ih;refine ih.trans ?_;simp
   .rw[aR h,gX,aX,aD (by simp[h])]
theorem aHQ{N:Nat}{a b:List Tx}(hl:a.length<=2^40)(hN:a.length<N)(hr:∀r∈a,r.length<=2^40/\r.length<N):EB N a b=some (decide (a=b)):=by
 unfold EB w26 WK WG;by_cases h:a.length=b.length
 .rw[aR (by simp[h]),aK]
  refine(bE (λz:O=>z.bind Oo) (aHR (N:=N) hl hr a b [] [] N rfl rfl rfl h hN)).trans ?_;by_cases hab:a=b
  .rw[aJ hab,aQ hab];rfl
  .rw[aD hab,aR hab];rfl
 .rw[aQ (by omega),aX,aR (λe=>h (by rw[e]))];rfl
theorem aZZ{N:Nat}{a b:List Tx}(hl:a.length<=2^40)(hN:a.length<N)(hr:∀r∈a,r.length<=2^40/\r.length<N):Ot N a b=true:=by unfold Ot;rw[aHQ hl hN hr];rfl
theorem aZY{N:Nat}{a b:List Tx}(hl:a.length<=2^40)(hN:a.length<N)(hr:∀r∈a,r.length<=2^40/\r.length<N):Om N a b=decide (a=b):=by unfold Om;rw[aHQ hl hN hr];rfl
end Go.Proofs
