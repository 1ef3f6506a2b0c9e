/- Trees: sizes, which are right, made of numbers. Conditions are in the theorems. -/
import Derived.Test.YtlhdefefoaldfaaGreatDoorF2
import Derived.Test.YtlhdefefoaldfaaGreatDoorF3
import Derived.Test.YtlhdefefoaldfaaGreatDoorF5
open Bool renaming and_eq_true->bM,false_and->jG,not_false->iL,not_true->mN,true_and->gX
open Go.IntKind renaming i64->aB
open Int renaming max_eq_left->a4l
open List renaming getElem?_eq_getElem->dF,getElem_mem->a4c,length_nil->lG,mem_cons_of_mem->fM,mem_cons_self->iA
open Option renaming getD_some->uS,isSome_some->uR
/- Trees: how many nodes they have and how deep they are. -/
namespace Go.Proofs
open Go Go.Ax Go.Ax.aA
mutual
def aR:Ex->Nat
 |.mk _ _ ks=>1+c9 ks
def c9:List Ex->Nat
 |[]=>0
 |k::l=>aR k+c9 l
end
mutual
def eM:Ex->Nat
 |.mk _ _ ks=>iM ks+1
def iM:List Ex->Nat
 |[]=>0
 |k::l=>max (eM k) (iM l)
end
theorem size_pos(e:Ex):1<=aR e:=by cases e;simp only[aR];omega
theorem xK:∀l:List Ex,l.length<=c9 l
 |[]=>Nat.le_refl _
 |k::l=>by have:=xK l;have:=size_pos k;simp only[List.length_cons,c9];omega
theorem uA{k:Ex}:∀{l:List Ex},k∈l->aR k<=c9 l
 |[],h=>by cases h
 |x::l,h=>by
   simp only[c9];rcases List.mem_cons.1 h with rfl|h
   .omega
   .have:=uA h;omega
mutual
theorem a3C:∀e:Ex,eM e<=aR e
 |.mk _ _ ks=>by simp only[eM,aR];have:=Oa ks;omega
theorem Oa:∀l:List Ex,iM l<=c9 l
 |[]=>Nat.le_refl _
 |k::l=>by simp only[iM,c9];have:=a3C k;have:=Oa l;omega
end
theorem xR{α:Type}{pre l:List α}{x:α}:(pre++x::l)[pre.length]?=some x:=by simp
theorem aBu{N:Nat}{rec:Int->Int->List Ex->Option Int}{K:Int->O}{k1 k2:Unit->O}:∀(l pre ks:List Ex)(m:Nat)(acc:Int),ks=pre++l->l.length<m->(∀k∈l,rec k.op k.num k.kids=some (aR k:Int))->0<=acc->acc+c9 l<2^62->ks.length<2^62->
    AA (N,rec) m (acc,ks,(ks.length:Int),(pre.length:Int)) K k1 k2=K (acc+c9 l)
 |_,_,_,0,_,_,h,_,_,_,_=>by omega
 |[],pre,ks,m+1,acc,hk,_,_,h0,_,_=>by
   show C6 _ _ _ _ _ _ _=_;unfold C6;simp only[];subst hk;rw[aX (by simp),aM];simp[c9]
 |k::l,pre,ks,m+1,acc,hk,hm,hr,h0,h1,h2=>by
   show C6 _ _ _ _ _ _ _=_;unfold C6;simp only[];have hl:ks.length=pre.length+(l.length+1):=by rw[hk];simp
   have hs:=size_pos k;simp only[c9]at h1;rw[aU (by omega),bA,eN (y:=k) (by rw[hk];exact xR)];simp only[hr k (iA ..)];simp only[uR,dH,uS];rw[wr (x:=acc+_) (by omega) (by omega),wr (x:=(pre.length:Int)+1) (by omega) (by omega)];have:=aBu (N:=N) (rec:=rec) (K:=K) (k1:=k1) (k2:=k2) l (pre++[k]) ks m (acc+aR k) (by rw[hk];simp) (by simp at hm;omega) (λx hx=>hr x (fM _ hx)) (by omega) (by omega) h2;rw[show((pre++[k]).length:Int)=(pre.length:Int)+1 by simp]at this;refine this.trans ?_;simp only[c9]
   congr 1
   omega
theorem Rw{N:Nat}:∀(n:Nat)(e:Ex),aR e<=n->aR e<N->aR e<2^60->l8 N n e.op e.num e.kids=some (aR e:Int)
 |0,e,h,_,_=>by have:=size_pos e;omega
 |n+1,.mk o a ks,h,hN,hB=>by
   simp only[aR]at h hN hB;simp only[aR];show LF (N,l8 N n) o a ks=_;unfold LF w49 Ry Rt;have hlen:=xK ks;have:=aBu (N:=N) (rec:=l8 N n) (K:=λy=>(λz4=>some (mY z4)) y) (k1:=λ_=>none) (k2:=λ_=>none) ks [] ks N 1 rfl (by omega) (λk hk=>by have:=uA hk;exact Rw n k (by omega) (by omega) (by omega)) (by omega) (by omega) (by omega);refine(bG (λz:O=>z.bind Fi) this).trans ?_;show Fi (mY _)=_;rw[show(1:Int)+((c9 ks:Nat):Int)=((1+c9 ks:Nat):Int)by omega];rfl
theorem aQt{N:Nat}{e:Ex}(h:aR e<N)(hB:aR e<2^60):LH N e.op e.num e.kids=true:=by unfold LH;rw[Rw N e (by omega) h hB];rfl
theorem aQs{N:Nat}{e:Ex}(h:aR e<N)(hB:aR e<2^60):Fh N e.op e.num e.kids=(aR e:Int):=by unfold Fh;rw[Rw N e (by omega) h hB];rfl
theorem aAw{N:Nat}{rec:Int->Int->List Ex->Option Int}{o a:Int}{K:Int->O}{k1 k2:Unit->O}:∀(l pre ks:List Ex)(m:Nat)(acc:Int),ks=pre++l->l.length<m->(∀k∈l,rec k.op k.num k.kids=some (aR k:Int))->0<=acc->acc+c9 l<2^62->ks.length<2^62->
    zP (N,rec) m (acc,(pre.length:Int),o,a,ks) K k1 k2=K (acc+c9 l)
 |_,_,_,0,_,_,h,_,_,_,_=>by omega
 |[],pre,ks,m+1,acc,hk,_,_,h0,_,_=>by
   show CQ _ _ _ _ _ _ _ _=_;unfold CQ;simp only[];subst hk;rw[aX (by simp),aM];simp[c9]
 |k::l,pre,ks,m+1,acc,hk,hm,hr,h0,h1,h2=>by
   show CQ _ _ _ _ _ _ _ _=_;unfold CQ;simp only[];have hl:ks.length=pre.length+(l.length+1):=by rw[hk];simp
   have hs:=size_pos k;simp only[c9]at h1;rw[aU (by omega),bA,eN (y:=k) (by rw[hk];exact xR)];simp only[hr k (iA ..)];simp only[uR,dH,uS];rw[wr (x:=acc+_) (by omega) (by omega),wr (x:=(pre.length:Int)+1) (by omega) (by omega)];have:=aAw (N:=N) (rec:=rec) (o:=o) (a:=a) (K:=K) (k1:=k1) (k2:=k2) l (pre++[k]) ks m (acc+aR k) (by rw[hk];simp) (by simp at hm;omega) (λx hx=>hr x (fM _ hx)) (by omega) (by omega) h2;rw[show((pre++[k]).length:Int)=(pre.length:Int)+1 by simp]at this;refine this.trans ?_;simp only[c9]
   congr 1
   omega
theorem RB{N:Nat}:∀(n:Nat)(e:Ex),aR e<=n->aR e<N->aR e<2^60->lZ N n e.op e.num e.kids=some (aR e:Int)
 |0,e,h,_,_=>by have:=size_pos e;omega
 |n+1,.mk o a ks,h,hN,hB=>by
   simp only[aR]at h hN hB;simp only[aR];show KT (N,lZ N n) o a ks=_;unfold KT w62 RC Qy;have hlen:=xK ks;have:=aAw (N:=N) (rec:=lZ N n) (o:=o) (a:=a) (K:=λy=>(λz4=>some (mU z4)) y) (k1:=λ_=>none) (k2:=λ_=>none) ks [] ks N 1 rfl (by omega) (λk hk=>by have:=uA hk;exact RB n k (by omega) (by omega) (by omega)) (by omega) (by omega) (by omega);refine(bG (λz:O=>z.bind F2) this).trans ?_;show F2 (mU _)=_;rw[show(1:Int)+((c9 ks:Nat):Int)=((1+c9 ks:Nat):Int)by omega];rfl
theorem aPB{N:Nat}{e:Ex}(h:aR e<N)(hB:aR e<2^60):KV N e.op e.num e.kids=true:=by unfold KV;rw[RB N e (by omega) h hB];rfl
theorem aPA{N:Nat}{e:Ex}(h:aR e<N)(hB:aR e<2^60):F1 N e.op e.num e.kids=(aR e:Int):=by unfold F1;rw[RB N e (by omega) h hB];rfl
theorem aBj{N:Nat}{rec:Int->Int->List Ex->Option Int}{K:Int->O}{k1 k2:Unit->O}:∀(l pre ks:List Ex)(m:Nat)(acc:Int),ks=pre++l->l.length<m->(∀k∈l,rec k.op k.num k.kids=some (eM k:Int))->0<=acc->ks.length<2^62->
    zW (N,rec) m (acc,ks,(ks.length:Int),(pre.length:Int)) K k1 k2=K (max acc (iM l:Int))
 |_,_,_,0,_,_,h,_,_,_=>by omega
 |[],pre,ks,m+1,acc,hk,_,_,h0,_=>by
   show C4 _ _ _ _ _ _ _=_;unfold C4;simp only[];subst hk;rw[aX (by simp),aM];simp[iM,a4l h0]
 |k::l,pre,ks,m+1,acc,hk,hm,hr,h0,h2=>by
   show C4 _ _ _ _ _ _ _=_;unfold C4;simp only[];have hl:ks.length=pre.length+(l.length+1):=by rw[hk];simp
   rw[aU (by omega),bA,eN (y:=k) (by rw[hk];exact xR)];simp only[hr k (iA ..)];simp only[uR,dH,uS];rw[wr (x:=(pre.length:Int)+1) (by omega) (by omega)];have:=aBj (N:=N) (rec:=rec) (K:=K) (k1:=k1) (k2:=k2) l (pre++[k]) ks m (max acc (eM k:Int)) (by rw[hk];simp) (by simp at hm;omega) (λx hx=>hr x (fM _ hx)) (by omega) h2;rw[show((pre++[k]).length:Int)=(pre.length:Int)+1 by simp]at this;refine this.trans ?_;simp only[iM]
   congr 1
   rw[show((max (eM k) (iM l):Nat):Int)=max (eM k:Int) (iM l:Int)by omega];omega
theorem Rj{N:Nat}:∀(n:Nat)(e:Ex),aR e<=n->aR e<N->aR e<2^60->l7 N n e.op e.num e.kids=some (eM e:Int)
 |0,e,h,_,_=>by have:=size_pos e;omega
 |n+1,.mk o a ks,h,hN,hB=>by
   simp only[aR]at h hN hB;simp only[eM];show Ku (N,l7 N n) o a ks=_;unfold Ku w50 Rk Rf;have hlen:=xK ks;have hdl:=Oa ks;have:=aBj (N:=N) (rec:=l7 N n) (K:=λy=>(λz4=>some (mX (aB.wrap (z4+1)))) y) (k1:=λ_=>none) (k2:=λ_=>none) ks [] ks N 0 rfl (by omega) (λk hk=>by have:=uA hk;exact Rj n k (by omega) (by omega) (by omega)) (by omega) (by omega);refine(bG (λz:O=>z.bind Fg) this).trans ?_;show Fg (mX _)=_;rw[wr (by omega) (by omega),show max (0:Int) ((iM ks:Nat):Int)+1=((iM ks+1:Nat):Int)by omega];rfl
theorem aQ3{N:Nat}{e:Ex}(h:aR e<N)(hB:aR e<2^60):Kx N e.op e.num e.kids=true:=by unfold Kx;rw[Rj N e (by omega) h hB];rfl
theorem aQ2{N:Nat}{e:Ex}(h:aR e<N)(hB:aR e<2^60):Kv N e.op e.num e.kids=(eM e:Int):=by unfold Kv;rw[Rj N e (by omega) h hB];rfl
theorem aAp{N:Nat}{rec:Int->Int->List Ex->Option Int}{o a:Int}{K:Int->O}{k1 k2:Unit->O}:∀(l pre ks:List Ex)(m:Nat)(acc:Int),ks=pre++l->l.length<m->(∀k∈l,rec k.op k.num k.kids=some (eM k:Int))->0<=acc->ks.length<2^62->
    zN (N,rec) m (acc,(pre.length:Int),o,a,ks) K k1 k2=K (max acc (iM l:Int))
 |_,_,_,0,_,_,h,_,_,_=>by omega
 |[],pre,ks,m+1,acc,hk,_,_,h0,_=>by
   show CP _ _ _ _ _ _ _ _=_;unfold CP;simp only[];subst hk;rw[aX (by simp),aM];simp[iM,a4l h0]
 |k::l,pre,ks,m+1,acc,hk,hm,hr,h0,h2=>by
   show CP _ _ _ _ _ _ _ _=_;unfold CP;simp only[];have hl:ks.length=pre.length+(l.length+1):=by rw[hk];simp
   rw[aU (by omega),bA,eN (y:=k) (by rw[hk];exact xR)];simp only[hr k (iA ..)];simp only[uR,dH,uS];rw[wr (x:=(pre.length:Int)+1) (by omega) (by omega)];have:=aAp (N:=N) (rec:=rec) (o:=o) (a:=a) (K:=K) (k1:=k1) (k2:=k2) l (pre++[k]) ks m (max acc (eM k:Int)) (by rw[hk];simp) (by simp at hm;omega) (λx hx=>hr x (fM _ hx)) (by omega) h2;rw[show((pre++[k]).length:Int)=(pre.length:Int)+1 by simp]at this;refine this.trans ?_;simp only[iM]
   congr 1
   rw[show((max (eM k) (iM l):Nat):Int)=max (eM k:Int) (iM l:Int)by omega];omega
theorem Qw{N:Nat}:∀(n:Nat)(e:Ex),aR e<=n->aR e<N->aR e<2^60->lY N n e.op e.num e.kids=some (eM e:Int)
 |0,e,h,_,_=>by have:=size_pos e;omega
 |n+1,.mk o a ks,h,hN,hB=>by
   simp only[aR]at h hN hB;simp only[eM];show KO (N,lY N n) o a ks=_;unfold KO w63 Qx Qt;have hlen:=xK ks;have hdl:=Oa ks;have:=aAp (N:=N) (rec:=lY N n) (o:=o) (a:=a) (K:=λy=>(λz4=>some (mT (aB.wrap (z4+1)))) y) (k1:=λ_=>none) (k2:=λ_=>none) ks [] ks N 0 rfl (by omega) (λk hk=>by have:=uA hk;exact Qw n k (by omega) (by omega) (by omega)) (by omega) (by omega);refine(bG (λz:O=>z.bind F0) this).trans ?_;show F0 (mT _)=_;rw[wr (by omega) (by omega),show max (0:Int) ((iM ks:Nat):Int)+1=((iM ks+1:Nat):Int)by omega];rfl
theorem aOn{N:Nat}{e:Ex}(h:aR e<N)(hB:aR e<2^60):KR N e.op e.num e.kids=true:=by unfold KR;rw[Qw N e (by omega) h hB];rfl
theorem aOm{N:Nat}{e:Ex}(h:aR e<N)(hB:aR e<2^60):KP N e.op e.num e.kids=(eM e:Int):=by unfold KP;rw[Qw N e (by omega) h hB];rfl
end Go.Proofs
/- Trees: which are right. -/
namespace Go.Proofs
open Go Go.Ax Go.Ax.aA
def nP(o:Int):Int:=if o=0\/o=1 then 0 else if o=2\/o=8 then 1 else if o=3\/o=4\/o=5\/o=6\/o=7\/o=9\/o=10 then 2 else -1
def jN(o:Int):Int:=if o=0 then 999999 else if o=1 then 25 else 0
def here(o a:Int)(n:Nat)(root:Bool):Bool:=decide ((n:Int)=nP o)&&(root||decide (o<9))&&decide (0<=a)&&decide (a<=jN o)
mutual
def dE:Ex->Bool->Bool
 |.mk o a ks,root=>here o a ks.length root&&gU ks
def gU:List Ex->Bool
 |[]=>true
 |k::l=>dE k false&&gU l
end
abbrev Rg:=(Int->Int->(List Ex)->Option (Bool))×((List Ex)->Option (Int))×((List Ex)->Option (Bool))×(Int->Int->(List Ex)->Bool->Option (Bool))
theorem aFb{N:Nat}{rc:Rg}{K:Int->O}{k1 k2:Unit->O}:∀(l pre ks:List Ex)(m:Nat),ks=pre++l->l.length<m->(∀k∈l,rc.1 k.op k.num k.kids=some (!dE k false))->ks.length<2^62->
    (gU l=true->rD (N,rc) m (ks,(ks.length:Int),(pre.length:Int)) K k1 k2=k1 ())/\(gU l=false->∃j:Nat,rD (N,rc) m (ks,(ks.length:Int),(pre.length:Int)) K k1 k2=K (j:Int))
 |_,_,_,0,_,h,_,_=>by omega
 |[],pre,ks,m+1,hk,_,_,_=>by
   refine⟨λ_=>?_,λh=>by cases h⟩;show DZ _ _ _ _ _ _ _=_;unfold DZ;simp only[];subst hk;rw[aX (by simp),aM]
 |k::l,pre,ks,m+1,hk,hm,hr,h2=>by
   have hl:ks.length=pre.length+(l.length+1):=by rw[hk];simp
   have ih:=aFb (N:=N) (rc:=rc) (K:=K) (k1:=k1) (k2:=k2) l (pre++[k]) ks m (by rw[hk];simp) (by simp at hm;omega) (λx hx=>hr x (fM _ hx)) h2;rw[show((pre++[k]).length:Int)=(pre.length:Int)+1 by simp]at ih;have step:rD (N,rc) (m+1) (ks,(ks.length:Int),(pre.length:Int)) K k1 k2=br (!dE k false) (K (pre.length:Int)) (rD (N,rc) m (ks,(ks.length:Int),(pre.length:Int)+1) K k1 k2):=by
    show DZ _ _ _ _ _ _ _=_;unfold DZ;simp only[];rw[aU (by omega),bA,eN (y:=k) (by rw[hk];exact xR)];simp only[hr k (iA ..)];simp only[uR,dH,uS];rw[wr (x:=(pre.length:Int)+1) (by omega) (by omega)]
   rw[step];cases hb:dE k false with
   |true=>
     simp only[gU,hb,gX,mN,aM];exact ih
   |false=>
     simp only[gU,hb,jG,iL,bA];exact⟨λh=>(by cases h),λ_=>⟨_,rfl⟩⟩
theorem aQQ{N:Nat}{rc:Rg}{o a:Int}{ks:List Ex}{root:Bool}(hr:rc.2.2.1 ks=some (!gU ks)):C2 (N,rc) o a ks root=some (here o a ks.length root&&gU ks):=by
 unfold C2 w51 Re;simp only[hr];simp only[uR,dH,uS];by_cases h0:o<0\/11<=o
 .rw[show(decide (o<0)||decide (11<=o))=true by simpa using h0,bA]
  have:here o a ks.length root=false:=by
   unfold here nP;rw[aF (by omega),aF (by omega),aF (by omega),aX (by omega)];rfl
  rw[this];rfl
 .rw[show(decide (o<0)||decide (11<=o))=false by simpa using h0,aM]
  obtain⟨n,rfl⟩:∃n:Nat,o=n:=⟨o.toNat,by omega⟩
  have hn:n<11:=by omega
  have fin:∀(k m lv:Int)(sg:UInt8),nP n=k->jN n=m->decide (lv=0)=!decide ((n:Int)<9)->
      (br (decide ((↑ks.length:Int)≠k)||decide (a<0)||decide (m<a)||decide (lv=0)&&!root) (some (qY false)) (some (qY (!!gU ks))):O).bind C3=some (here n a ks.length root&&gU ks):=by
   rintro k m lv sg rfl rfl hlv;rw[hlv];unfold here;by_cases q1:(ks.length:Int)=nP n
   .by_cases q2:a<0
    .rw[aU q2,aX (show ¬ 0<=a by omega)]
     simp;rfl
    .by_cases q3:jN n<a
     .rw[aU q3,aX (show ¬ a<=jN n by omega)]
      simp;rfl
     .rw[aX q2,aX q3,aU q1,aU (show 0<=a by omega),aU (show a<=jN n by omega),aX (by simpa using q1)]
      cases root <;> cases decide ((n:Int)<9) <;> simp <;> rfl
   .rw[aU q1,aX q1]
    simp;rfl
  have get:∀{y:Int×Int×Int×UInt8}{k:Int×Int×Int×UInt8->O}{r},([(0,999999,4,0),(0,25,4,0),(1,0,3,45),(2,0,1,43),(2,0,1,45),(2,0,2,42),(2,0,2,47),(2,0,3,94),(1,0,4,82),(2,0,0,61),(2,0,0,60)]:List (Int×Int×Int×UInt8))[n]?=some y->(k y).bind C3=r->(gx [(0,999999,4,0),(0,25,4,0),(1,0,3,45),(2,0,1,43),(2,0,1,45),(2,0,2,42),(2,0,2,47),(2,0,3,94),(1,0,4,82),(2,0,0,61),(2,0,0,60)] (n:Int) k).bind C3=r:=λh h2=>by rw[eN h];exact h2
  have hn':n=0\/n=1\/n=2\/n=3\/n=4\/n=5\/n=6\/n=7\/n=8\/n=9\/n=10:=by omega
  rcases hn' with rfl|rfl|rfl|rfl|rfl|rfl|rfl|rfl|rfl|rfl|rfl <;> exact get rfl (fin _ _ _ 0 rfl rfl rfl)
theorem aBd{N:Nat}:∀(n:Nat)(e:Ex)(root:Bool),4*aR e<=n->aR e<N->aR e<2^60->(fI N n).2.2.2 e.op e.num e.kids root=some (dE e root)
 |0,e,_,h,_,_=>by have:=size_pos e;omega
 |1,e,_,h,_,_=>by have:=size_pos e;omega
 |2,e,_,h,_,_=>by have:=size_pos e;omega
 |3,e,_,h,_,_=>by have:=size_pos e;omega
 |n+4,.mk o a ks,root,h,hN,hB=>by
   simp only[aR]at h hN hB;have hlen:=xK ks;have h89:∀k∈ks,(fI N (n+1)).1 k.op k.num k.kids=some (!dE k false):=λk hk=>by
    have hs:=uA hk;have:=aBd (N:=N) n k false (by omega) (by omega) (by omega);show Es (N,fI N n) k.op k.num k.kids=_;unfold Es ZF Pz;have e:∀(x y:Int)(z:List Ex),(fI N n).2.2.2 (Ex.mk x y z).op (Ex.mk x y z).num (Ex.mk x y z).kids false=(fI N n).2.2.2 x y z false:=λ_ _ _=>rfl
    simp only[this];rfl
   have h108:(gU ks=true->(fI N (n+2)).2.1 ks=some (-1))/\(gU ks=false->∃j:Nat,(fI N (n+2)).2.1 ks=some (j:Int)):=by
    have:=aFb (N:=N) (rc:=fI N (n+1)) (K:=λz4=>some (wK z4)) (k1:=λ_=>some (wK (-1))) (k2:=λ_=>none) ks [] ks N rfl (by omega) h89 (by omega);refine⟨λhb=>?_,λhb=>?_⟩
    .show Ap (N,fI N (n+1)) ks=_
     unfold Ap U5 NT NQ;exact(bG (λz:O=>z.bind Gt) (this.1 hb)).trans rfl
    .obtain⟨j,hj⟩:=this.2 hb
     refine⟨j,?_⟩;show Ap (N,fI N (n+1)) ks=_;unfold Ap U5 NT NQ;exact(bG (λz:O=>z.bind Gt) hj).trans rfl
   have h88:(fI N (n+3)).2.2.1 ks=some (!gU ks):=by
    show Ev (N,fI N (n+2)) ks=_;unfold Ev ZJ QC;cases hb:gU ks with
    |true=>simp only[h108.1 hb];rfl
    |false=>
      obtain⟨j,hj⟩:=h108.2 hb;simp only[hj];simp only[uR,dH,uS];rw[aU (by omega)];rfl
   show C2 (N,fI N (n+3)) o a ks root=_;rw[aQQ h88];rfl
end Go.Proofs
/- Trees: which are valid. -/
namespace Go.Proofs
open Go Go.Ax Go.Ax.aA
theorem Yo(N:Nat)(o:Int):Ef N o=some (nP o):=by
 by_cases h0:o=0
 .subst h0;rfl
 by_cases h1:o=1
 .subst h1;rfl
 by_cases h2:o=2
 .subst h2;rfl
 by_cases h8:o=8
 .subst h8;rfl
 by_cases h3:o=3
 .subst h3;rfl
 by_cases h4:o=4
 .subst h4;rfl
 by_cases h5:o=5
 .subst h5;rfl
 by_cases h6:o=6
 .subst h6;rfl
 by_cases h7:o=7
 .subst h7;rfl
 by_cases h9:o=9
 .subst h9;rfl
 by_cases h10:o=10
 .subst h10;rfl
 have hk:nP o = -1:=by unfold nP;rw[aF (by omega),aF (by omega),aF (by omega)]
 rw[hk];show(JC N (Ei N) (Eh N) (Eg N) (λqS=>some (yS qS)) (λ_=>some (yS (-1))) o:O).bind Iq=_;unfold JC;unfold Ei El Pq;simp only[];rw[aX h0,aM,aX h1];unfold Eh Ek Pp;simp only[];rw[aX h2,aM,aX h8];unfold Eg Ej Po;simp only[];rw[aX h3,aM,aX h4,aM,aX h5,aM,aX h6,aM,aX h7,aM,aX h9,aM,aX h10];rfl
theorem aLA{N:Nat}{o:Int}:Iv N o=true:=by unfold Iv;rw[Yo];rfl
theorem aKz{N:Nat}{o:Int}:Ip N o=nP o:=by unfold Ip;rw[Yo];rfl
theorem aAh{N:Nat}{rc:Int->Int->List Ex->Bool->Option Bool}{o a:Int}{K:Bool->O}{k1 k2:Unit->O}:∀(l pre ks:List Ex)(m:Nat),ks=pre++l->l.length<m->(∀k∈l,rc k.op k.num k.kids false=some (dE k false))->ks.length<2^62->
    zL (N,rc) m ((pre.length:Int),o,a,ks) K k1 k2=br (gU l) (k1 ()) (K false)
 |_,_,_,0,_,h,_,_=>by omega
 |[],pre,ks,m+1,hk,_,_,_=>by
   show CO _ _ _ _ _ _ _ _=_;unfold CO;simp only[];subst hk;rw[aX (by simp),aM];rfl
 |k::l,pre,ks,m+1,hk,hm,hr,h2=>by
   have hl:ks.length=pre.length+(l.length+1):=by rw[hk];simp
   have ih:=aAh (N:=N) (rc:=rc) (o:=o) (a:=a) (K:=K) (k1:=k1) (k2:=k2) l (pre++[k]) ks m (by rw[hk];simp) (by simp at hm;omega) (λx hx=>hr x (fM _ hx)) h2;rw[show((pre++[k]).length:Int)=(pre.length:Int)+1 by simp]at ih;show CO _ _ _ _ _ _ _ _=_;unfold CO;simp only[];rw[aU (by omega),bA,eN (y:=k) (by rw[hk];exact xR)];simp only[hr k (iA ..)];simp only[uR,dH,uS];rw[wr (x:=(pre.length:Int)+1) (by omega) (by omega)];cases hb:dE k false with
   |true=>
     simp only[gU,hb,gX,mN,aM];exact ih
   |false=>
     simp only[gU,hb,jG,iL,bA,aM]
theorem aAi{N:Nat}:∀(n:Nat)(e:Ex)(root:Bool),aR e<=n->aR e<N->aR e<2^60->lI N n e.op e.num e.kids root=some (dE e root)
 |0,e,_,h,_,_=>by have:=size_pos e;omega
 |n+1,.mk o a ks,root,h,hN,hB=>by
   simp only[aR]at h hN hB;have hlen:=xK ks;have hk:∀k∈ks,lI N n k.op k.num k.kids false=some (dE k false):=λk hk=>by
    have hs:=uA hk;exact aAi n k false (by omega) (by omega) (by omega)
   show KD (N,lI N n) o a ks root=_;unfold KD w64 Qq;rw[aG aLA,aKz];by_cases q1:(ks.length:Int)=nP o
   case neg=>
    rw[aU q1,Bool.true_or,bA];simp only[dE,here];rw[aX q1];rfl
   rw[aX (show ¬ (ks.length:Int)≠nP o by simpa using q1),Bool.false_or];by_cases q2:(!root&&decide (9<=o))=true
   .rw[q2,bA]
    simp only[dE,here];simp only[bM,Bool.not_eq_true',fU]at q2;rw[q2.1,aX (show ¬ o<9 by omega)];simp;rfl
   .rw[Bool.not_eq_true]at q2
    rw[q2,aM];have q2':(root||decide (o<9))=true:=by
     cases root with
     |true=>rfl
     |false=>
       simp only[iL,gX,decide_eq_false_iff_not]at q2;simp;omega
    have go:∀m:Int,m=jN o->((br (decide (a<0)||decide (m<a)) (some (kM false)) (KJ (N,lI N n) 0 o a ks (λz14=>some (kM z14)) (λ_=>some (kM true))):O)).bind FW=some (dE (.mk o a ks) root):=by
     rintro m rfl;simp only[dE,here];rw[aU q1,q2'];by_cases q3:a<0
     .rw[aU q3,aX (show ¬ 0<=a by omega)]
      simp[bA];rfl
     by_cases q4:jN o<a
     .rw[aU q4,aX (show ¬ a<=jN o by omega)]
      simp[bA];rfl
     rw[aX q3,aX q4,aU (show 0<=a by omega),aU (show a<=jN o by omega)];simp only[Bool.or_false,aM,Bool.and_true,gX];unfold KJ;refine(bG (λz:O=>z.bind FW) (aAh (o:=o) (a:=a) ks [] ks N rfl (by omega) hk (by omega))).trans ?_;cases gU ks <;> rfl
    unfold Qm FY Qs;simp only[];by_cases h0:o=0
    .subst h0
     rw[aU rfl,bA];exact go 999999 rfl
    rw[aX h0,aM];unfold Ql FX Qr;simp only[];by_cases h1:o=1
    .subst h1
     rw[aU rfl,bA];exact go 25 rfl
    rw[aX h1,aM];exact go 0 (by unfold jN;rw[aF h0,aF h1])
def dJ(e:Ex):Int:=if 256<aR e\/16<eM e then 4 else if dE e true then 0 else 1
theorem aDa{N:Nat}{e:Ex}(h:4*aR e<N)(hB:aR e<2^60):GL N e.op e.num e.kids=some (dJ e):=by
 cases e with|mk o a ks=>
 have hN:aR (.mk o a ks)<N:=by omega
 have e1:=aQt hN hB;have e2:=aQs hN hB;have e3:=aQ3 hN hB;have e4:=aQ2 hN hB;have e5:=aBd (N:=N) N (.mk o a ks) true (by omega) hN hB;have e6:Ks N o a ks true=true:=by unfold Ks;simp only[Ex.op,Ex.num,Ex.kids]at e5;rw[e5];rfl
 have e7:Kr N o a ks true=dE (.mk o a ks) true:=by unfold Kr;simp only[Ex.op,Ex.num,Ex.kids]at e5;rw[e5];rfl
 simp only[Ex.op,Ex.num,Ex.kids]at e1 e2 e3 e4 ⊢;unfold GL w29 Sy dJ;simp only[e1,e2,e3,e4,e6,e7,dH,Bool.or_true];by_cases q:256<aR (.mk o a ks)\/16<eM (.mk o a ks)
 .rw[aN q,show(decide (256<((aR (.mk o a ks):Nat):Int))||decide (16<((eM (.mk o a ks):Nat):Int)))=true by simpa using(by omega:(256:Int)<(aR (.mk o a ks):Nat)\/(16:Int)<(eM (.mk o a ks):Nat)),bA]
  rfl
 .rw[aF q,show(decide (256<((aR (.mk o a ks):Nat):Int))||decide (16<((eM (.mk o a ks):Nat):Int)))=false by simpa using(by omega:¬ ((256:Int)<(aR (.mk o a ks):Nat)\/(16:Int)<(eM (.mk o a ks):Nat))),aM]
  cases dE (.mk o a ks) true <;> rfl
theorem aDR{N:Nat}{e:Ex}(h:aR e<N)(hB:aR e<2^60):GC N e.op e.num e.kids=some (dJ e):=by
 cases e with|mk o a ks=>
 have e1:=aPB h hB;have e2:=aPA h hB;have e3:=aOn h hB;have e4:=aOm h hB;have e5:=aAi (N:=N) N (.mk o a ks) true (by omega) h hB;have e6:KI N o a ks true=true:=by unfold KI;simp only[Ex.op,Ex.num,Ex.kids]at e5;rw[e5];rfl
 have e7:KE N o a ks true=dE (.mk o a ks) true:=by unfold KE;simp only[Ex.op,Ex.num,Ex.kids]at e5;rw[e5];rfl
 simp only[Ex.op,Ex.num,Ex.kids]at e1 e2 e3 e4 ⊢;unfold GC w36 Sk dJ;simp only[e1,e2,e3,e4,e6,e7,dH,Bool.or_true];by_cases q:256<aR (.mk o a ks)\/16<eM (.mk o a ks)
 .rw[aN q,show(decide (256<((aR (.mk o a ks):Nat):Int))||decide (16<((eM (.mk o a ks):Nat):Int)))=true by simpa using(by omega:(256:Int)<(aR (.mk o a ks):Nat)\/(16:Int)<(eM (.mk o a ks):Nat)),bA]
  rfl
 .rw[aF q,show(decide (256<((aR (.mk o a ks):Nat):Int))||decide (16<((eM (.mk o a ks):Nat):Int)))=false by simpa using(by omega:¬ ((256:Int)<(aR (.mk o a ks):Nat)\/(16:Int)<(eM (.mk o a ks):Nat))),aM]
  cases dE (.mk o a ks) true <;> rfl
theorem Sx{N:Nat}{e:Ex}(h:4*aR e<N)(hB:aR e<2^60):tD N e.op e.num e.kids=true:=by unfold tD;rw[aDa h hB];rfl
theorem Sw{N:Nat}{e:Ex}(h:4*aR e<N)(hB:aR e<2^60):pN N e.op e.num e.kids=dJ e:=by unfold pN;rw[aDa h hB];rfl
theorem Sj{N:Nat}{e:Ex}(h:aR e<N)(hB:aR e<2^60):AQ N e.op e.num e.kids=true:=by unfold AQ;rw[aDR h hB];rfl
theorem Si{N:Nat}{e:Ex}(h:aR e<N)(hB:aR e<2^60):v8 N e.op e.num e.kids=dJ e:=by unfold v8;rw[aDR h hB];rfl
end Go.Proofs
/- The formulas that are made of numbers. -/
namespace Go.Proofs
open Go Go.Ax Go.Ax.aA
abbrev gL(x:Int):Prop:=-9223372036854775808<=x/\x<9223372036854775808
theorem aGD{x m:Int}(h0:0<=x)(h1:1<=m):0<=x.tmod m/\x.tmod m<m:=⟨Int.tmod_nonneg _ h0,Int.tmod_lt_of_pos _ (by omega)⟩
def qI(x m:Int):Int:=(if x<0 then -(x+1)else x).tmod m
theorem aI8{x m:Int}(h1:1<=m):0<=qI x m/\qI x m<m:=by unfold qI;split <;> exact aGD (by omega) h1
theorem aDt{N:Nat}{x m:Int}(hx:gL x)(h1:1<=m):DC N x m=some (qI x m):=by
 unfold DC w23 TI qI;by_cases h:x<0
 .rw[aU h,bA,aX (by omega),aM,aG (by simp;omega),aN h,wr (x:=x+1) (by omega) (by omega),wr (by omega) (by omega)]
  rfl
 .rw[aX h,aM,aX (by omega),aM,aG (by simp;omega),aF h]
  rfl
theorem M6{N:Nat}{x m:Int}(hx:gL x)(h1:1<=m):AZ N x m=true:=by unfold AZ;rw[aDt hx h1];rfl
theorem TH{N:Nat}{x m:Int}(hx:gL x)(h1:1<=m):oL N x m=qI x m:=by unfold oL;rw[aDt hx h1];rfl
def mI(l:List Int)(i m:Int):Int:=if i<0\/(l.length:Int)<=i then 0 else qI (l[i.toNat]?.getD 0) m
theorem XN{l:List Int}{i m:Int}(h1:1<=m):0<=mI l i m/\mI l i m<m:=by unfold mI;split;omega;exact aI8 h1
theorem Yz{N:Nat}{l:List Int}{i m:Int}(hl:∀x∈l,gL x)(h1:1<=m):Bk N l i m=some (mI l i m):=by
 unfold Bk ZA Pw mI;by_cases h:i<0\/(l.length:Int)<=i
 .rw[show(decide (i<0)||decide ((l.length:Int)<=i))=true by simpa using h,bA,aN h];rfl
 .rw[show(decide (i<0)||decide ((l.length:Int)<=i))=false by simpa using h,aM,aF h]
  have hi:i.toNat<l.length:=by omega
  have hg:l[i.toNat]?=some l[i.toNat]:=dF hi;have hm:gL l[i.toNat]:=hl _ (a4c hi);rw[OY (by omega) hg,aG (M6 hm h1),TH hm h1,hg];rfl
theorem aL3{N:Nat}{l:List Int}{i m:Int}(hl:∀x∈l,gL x)(h1:1<=m):JO N l i m=true:=by unfold JO;rw[Yz hl h1];rfl
theorem aL2{N:Nat}{l:List Int}{i m:Int}(hl:∀x∈l,gL x)(h1:1<=m):JN N l i m=mI l i m:=by unfold JN;rw[Yz hl h1];rfl
theorem Kq{N:Nat}{l:List Int}{i m:Int}(hl:∀x∈l,gL x)(h1:1<=m)(h0:0<=i)(hi:i<2^60):vQ N m l i=some (mI l i m,l,i+1):=by
 unfold vQ w55 Rb;rw[wr (x:=i+1) (by omega) (by omega),wr (by omega) (by omega),show i+1-1=i by omega,aG (aL3 hl h1),aL2 hl h1];rfl
section
variable{N:Nat}{l:List Int}{i m:Int}(hl:∀x∈l,gL x)(h1:1<=m)(h0:0<=i)(hi:i<2^60)
include hl h1 h0 hi
theorem Ra:vR N m l i=true:=by unfold vR;rw[Kq hl h1 h0 hi];rfl
theorem R9:sU N m l i=mI l i m:=by unfold sU;rw[Kq hl h1 h0 hi];rfl
theorem R8:iD N m l i=l:=by unfold iD;rw[Kq hl h1 h0 hi];rfl
theorem R7:iC N m l i=i+1:=by unfold iC;rw[Kq hl h1 h0 hi];rfl
end
section
variable{N:Nat}{rc:Int->List Int->Int->Option (Int×Int×List Ex×List Int×Int)}{d:Int}{l:List Int}{j a b:Int}{K0:List Int->Int->Int->Int->List Ex->O}{K1:Int->Int->List Int->Int->Int->Int->O}
def BI(N:Nat)(l:List Int)(j o m:Int)(t:List Int)(K0:List Int->Int->Int->Int->List Ex->O):O:=ck (vR N m l j) (gx t (sU N m l j) λy=>K0 (iD N m l j) (iC N m l j) o y [])
def Nz(rc:Int->List Int->Int->Option (Int×Int×List Ex×List Int×Int))(d:Int)(l:List Int)(j o:Int)(K0:List Int->Int->Int->Int->List Ex->O):O:=
 ck ((rc (aB.wrap (d-1)) l j).isSome) (K0 ((rc (aB.wrap (d-1)) l j).getD (0,0,[],[],0)).2.2.2.1 ((rc (aB.wrap (d-1)) l j).getD (0,0,[],[],0)).2.2.2.2 o 0 [Ex.mk ((rc (aB.wrap (d-1)) l j).getD (0,0,[],[],0)).1 ((rc (aB.wrap (d-1)) l j).getD (0,0,[],[],0)).2.1 ((rc (aB.wrap (d-1)) l j).getD (0,0,[],[],0)).2.2.1])
theorem t0:lJ (N,rc) d 0 l j a b K0 K1=BI N l j 0 6 [0,1,2,10,47,999999] K0:=by kernel_rfl
theorem t1:lJ (N,rc) d 1 l j a b K0 K1=BI N l j 0 6 [0,1,2,10,47,999999] K0:=by kernel_rfl
theorem t2:lJ (N,rc) d 2 l j a b K0 K1=BI N l j 1 5 [0,1,2,23,25] K0:=by kernel_rfl
theorem t3:lJ (N,rc) d 3 l j a b K0 K1=BI N l j 1 5 [0,1,2,23,25] K0:=by kernel_rfl
theorem t4:lJ (N,rc) d 4 l j a b K0 K1=Nz rc d l j 2 K0:=by kernel_rfl
theorem t5:lJ (N,rc) d 5 l j a b K0 K1=Nz rc d l j 8 K0:=by kernel_rfl
theorem t6:lJ (N,rc) d 6 l j a b K0 K1=K1 d 6 l j a b:=by kernel_rfl
theorem t7:lJ (N,rc) d 7 l j a b K0 K1=K1 d 7 l j a b:=by kernel_rfl
theorem t8:lJ (N,rc) d 8 l j a b K0 K1=K1 d 8 l j a b:=by kernel_rfl
theorem t9:lJ (N,rc) d 9 l j a b K0 K1=K1 d 9 l j a b:=by kernel_rfl
theorem t10:lJ (N,rc) d 10 l j a b K0 K1=K1 d 10 l j a b:=by kernel_rfl
theorem t11:lJ (N,rc) d 11 l j a b K0 K1=K1 d 11 l j a b:=by kernel_rfl
end
theorem Ex.eta:∀e:Ex,Ex.mk e.op e.num e.kids=e
 |.mk _ _ _=>rfl
theorem a1S{N:Nat}{l:List Int}{j o m:Int}{t:List Int}{K0:List Int->Int->Int->Int->List Ex->O}(hl:∀x∈l,gL x)(h0:0<=j)(hj:j<2^60)(hm:m=t.length)(h1:1<=m):∃y∈t,BI N l j o m t K0=K0 l (j+1) o y []:=by
 obtain⟨a1,a2⟩:=XN (l:=l) (i:=j) h1;have hi:(mI l j m).toNat<t.length:=by omega
 refine⟨t[(mI l j m).toNat],a4c hi,?_⟩;unfold BI;rw[aG (Ra hl h1 h0 hj),R9 hl h1 h0 hj,R8 hl h1 h0 hj,R7 hl h1 h0 hj,OY a1 (dF hi)]
def yG(d:Nat)(l:List Int)(i:Int)(r:Option (Int×Int×List Ex×List Int×Int)):Prop:=
 ∃e i',r=some (e.op,e.num,e.kids,l,i')/\dE e false=true/\aR e+1<=2^d/\eM e<=d/\i<i'/\i'+2<=i+2*2^d
theorem Kj{N:Nat}{l:List Int}(hl:∀x∈l,gL x)(hlen:l.length<2^60):∀(n d:Nat)(i:Int),1<=d->d<=n->d<=5->0<=i->i+2*2^d<2^50->yG d l i (cM N n (d:Int) l i)
 |0,d,i,h,h',_,_,_=>by omega
 |n+1,d,i,hd,hn,h5,hi,hB=>by
   have h2d:(2:Int)^d<=32/\2<=(2:Int)^d:=by
    have:d=1\/d=2\/d=3\/d=4\/d=5:=by omega
    rcases this with rfl|rfl|rfl|rfl|rfl <;> omega
   have hi60:i<2^60:=by omega
   have hi1:i+1<2^60:=by omega
   show yG d l i (Fb (N,cM N n) d l i);unfold Fb w56 RT;have h12:(1:Int)<=12:=by decide
   rw[aG (Ra hl h12 hi hi60),R9 hl h12 hi hi60,R8 hl h12 hi hi60,R7 hl h12 hi hi60];obtain⟨k0,k1⟩:=XN (l:=l) (i:=i) h12;generalize mI l i 12=k at k0 k1
   -- behind the choice
   have tail:∀k:Int,0<=k->k<12->(d=1->k<4)->yG d l i ((lJ (N,cM N n) (d:Int) k l (i+1) 0 0 (λz96 z97 z98 z99 z100=>some (mW ((Ex.mk z98 z99 z100).op) ((Ex.mk z98 z99 z100).num) ((Ex.mk z98 z99 z100).kids) z96 z97))
       (λz101 z102 z103 z104 _ _=>
        gx [3,4,5,6,7,4] (aB.wrap (z102-6)) λy107=>
        ck ((cM N n (aB.wrap (z101-1)) z103 z104).isSome)<|
        ck ((cM N n (aB.wrap (z101-1)) ((cM N n (aB.wrap (z101-1)) z103 z104).getD (0,0,[],[],0)).2.2.2.1 ((cM N n (aB.wrap (z101-1)) z103 z104).getD (0,0,[],[],0)).2.2.2.2).isSome)<|
        some (mW y107 0 [Ex.mk ((cM N n (aB.wrap (z101-1)) z103 z104).getD (0,0,[],[],0)).1 ((cM N n (aB.wrap (z101-1)) z103 z104).getD (0,0,[],[],0)).2.1 ((cM N n (aB.wrap (z101-1)) z103 z104).getD (0,0,[],[],0)).2.2.1,Ex.mk ((cM N n (aB.wrap (z101-1)) ((cM N n (aB.wrap (z101-1)) z103 z104).getD (0,0,[],[],0)).2.2.2.1 ((cM N n (aB.wrap (z101-1)) z103 z104).getD (0,0,[],[],0)).2.2.2.2).getD (0,0,[],[],0)).1 ((cM N n (aB.wrap (z101-1)) ((cM N n (aB.wrap (z101-1)) z103 z104).getD (0,0,[],[],0)).2.2.2.1 ((cM N n (aB.wrap (z101-1)) z103 z104).getD (0,0,[],[],0)).2.2.2.2).getD (0,0,[],[],0)).2.1 ((cM N n (aB.wrap (z101-1)) ((cM N n (aB.wrap (z101-1)) z103 z104).getD (0,0,[],[],0)).2.2.2.1 ((cM N n (aB.wrap (z101-1)) z103 z104).getD (0,0,[],[],0)).2.2.2.2).getD (0,0,[],[],0)).2.2.1]
         ((cM N n (aB.wrap (z101-1)) ((cM N n (aB.wrap (z101-1)) z103 z104).getD (0,0,[],[],0)).2.2.2.1 ((cM N n (aB.wrap (z101-1)) z103 z104).getD (0,0,[],[],0)).2.2.2.2).getD (0,0,[],[],0)).2.2.2.1
         ((cM N n (aB.wrap (z101-1)) ((cM N n (aB.wrap (z101-1)) z103 z104).getD (0,0,[],[],0)).2.2.2.1 ((cM N n (aB.wrap (z101-1)) z103 z104).getD (0,0,[],[],0)).2.2.2.2).getD (0,0,[],[],0)).2.2.2.2)):O).bind zV):=by
    intro k k0 k1 kd;have leaf:∀(o m:Int)(t:List Int),(o=0\/o=1)->(∀y∈t,0<=y/\y<=jN o)->m=t.length->1<=m->yG d l i ((BI N l (i+1) o m t (λz96 z97 z98 z99 z100=>some (mW ((Ex.mk z98 z99 z100).op) ((Ex.mk z98 z99 z100).num) ((Ex.mk z98 z99 z100).kids) z96 z97)):O).bind zV):=by
     intro o m t ho ht hm h1;obtain⟨y,hy,e⟩:=a1S (N:=N) (o:=o) (K0:=λz96 z97 z98 z99 z100=>some (mW ((Ex.mk z98 z99 z100).op) ((Ex.mk z98 z99 z100).num) ((Ex.mk z98 z99 z100).kids) z96 z97)) hl (by omega) hi1 hm h1;obtain⟨y0,y1⟩:=ht y hy;refine⟨.mk o y [],i+1+1,by rw[e];rfl,?_,?_,?_,by omega,by omega⟩
     .rcases ho with rfl|rfl
      .simp only[dE,here,gU,lG]
       simp[nP,y0,y1]
      .simp only[dE,here,gU,lG]
       simp[nP,y0,y1]
     .have:2^1<=2^d:=Nat.pow_le_pow_right (by decide) hd
      simpa[aR,c9]using this
     .simpa[eM,iM]using hd
    have sub:∀j:Int,0<=j->j+2*2^(d-1)<2^50->2<=d->yG (d-1) l j (cM N n (aB.wrap ((d:Int)-1)) l j):=λj hj hjB h2=>by
     rw[wr (by omega) (by omega),show(d:Int)-1=((d-1:Nat):Int)by omega];exact Kj hl hlen n (d-1) j (by omega) (by omega) (by omega) hj hjB
    have pw:2<=d->2^d=2*2^(d-1)/\(2:Int)^d=2*2^(d-1):=λh2=>by
     obtain⟨d',rfl⟩:∃d',d=d'+1:=⟨d-1,by omega⟩
     simp only[Nat.add_sub_cancel];exact⟨by rw[Nat.pow_succ];omega,by rw[Int.pow_succ];omega⟩
    have unary:∀o:Int,(o=2\/o=8)->2<=d->yG d l i ((Nz (cM N n) (d:Int) l (i+1) o (λz96 z97 z98 z99 z100=>some (mW ((Ex.mk z98 z99 z100).op) ((Ex.mk z98 z99 z100).num) ((Ex.mk z98 z99 z100).kids) z96 z97)):O).bind zV):=by
     intro o ho h2;obtain⟨p1,p2⟩:=pw h2;obtain⟨e,i',e1,e2,e3,e4,e5,e6⟩:=sub (i+1) (by omega) (by omega) h2;unfold Nz;simp only[e1,uR,uS,dH,Ex.eta];refine⟨.mk o 0 [e],i',rfl,?_,?_,?_,by omega,by omega⟩
     .rcases ho with rfl|rfl <;> simp only[dE,gU,e2] <;> rfl
     .simp only[aR,c9];omega
     .simp only[eM,iM];omega
    have binary:∀o:Int,(o=3\/o=4\/o=5\/o=6\/o=7)->2<=d->∀f:Int->O,(∀y,f y=ck ((cM N n (aB.wrap ((d:Int)-1)) l (i+1)).isSome) (
        ck ((cM N n (aB.wrap ((d:Int)-1)) ((cM N n (aB.wrap ((d:Int)-1)) l (i+1)).getD (0,0,[],[],0)).2.2.2.1 ((cM N n (aB.wrap ((d:Int)-1)) l (i+1)).getD (0,0,[],[],0)).2.2.2.2).isSome) (
        some (mW y 0 [Ex.mk ((cM N n (aB.wrap ((d:Int)-1)) l (i+1)).getD (0,0,[],[],0)).1 ((cM N n (aB.wrap ((d:Int)-1)) l (i+1)).getD (0,0,[],[],0)).2.1 ((cM N n (aB.wrap ((d:Int)-1)) l (i+1)).getD (0,0,[],[],0)).2.2.1,Ex.mk ((cM N n (aB.wrap ((d:Int)-1)) ((cM N n (aB.wrap ((d:Int)-1)) l (i+1)).getD (0,0,[],[],0)).2.2.2.1 ((cM N n (aB.wrap ((d:Int)-1)) l (i+1)).getD (0,0,[],[],0)).2.2.2.2).getD (0,0,[],[],0)).1 ((cM N n (aB.wrap ((d:Int)-1)) ((cM N n (aB.wrap ((d:Int)-1)) l (i+1)).getD (0,0,[],[],0)).2.2.2.1 ((cM N n (aB.wrap ((d:Int)-1)) l (i+1)).getD (0,0,[],[],0)).2.2.2.2).getD (0,0,[],[],0)).2.1 ((cM N n (aB.wrap ((d:Int)-1)) ((cM N n (aB.wrap ((d:Int)-1)) l (i+1)).getD (0,0,[],[],0)).2.2.2.1 ((cM N n (aB.wrap ((d:Int)-1)) l (i+1)).getD (0,0,[],[],0)).2.2.2.2).getD (0,0,[],[],0)).2.2.1]
         ((cM N n (aB.wrap ((d:Int)-1)) ((cM N n (aB.wrap ((d:Int)-1)) l (i+1)).getD (0,0,[],[],0)).2.2.2.1 ((cM N n (aB.wrap ((d:Int)-1)) l (i+1)).getD (0,0,[],[],0)).2.2.2.2).getD (0,0,[],[],0)).2.2.2.1
         ((cM N n (aB.wrap ((d:Int)-1)) ((cM N n (aB.wrap ((d:Int)-1)) l (i+1)).getD (0,0,[],[],0)).2.2.2.1 ((cM N n (aB.wrap ((d:Int)-1)) l (i+1)).getD (0,0,[],[],0)).2.2.2.2).getD (0,0,[],[],0)).2.2.2.2))))->yG d l i ((f o).bind zV):=by
     intro o ho h2 f hf;obtain⟨p1,p2⟩:=pw h2;obtain⟨e,i',e1,e2,e3,e4,e5,e6⟩:=sub (i+1) (by omega) (by omega) h2;obtain⟨g,i2,g1,g2,g3,g4,g5,g6⟩:=sub i' (by omega) (by omega) h2;rw[hf];simp only[e1,g1,uR,uS,dH,Ex.eta];refine⟨.mk o 0 [e,g],i2,rfl,?_,?_,?_,by omega,by omega⟩
     .rcases ho with rfl|rfl|rfl|rfl|rfl <;> simp only[dE,gU,e2,g2] <;> rfl
     .simp only[aR,c9];omega
     .simp only[eM,iM];omega
    have hk:k=0\/k=1\/k=2\/k=3\/k=4\/k=5\/k=6\/k=7\/k=8\/k=9\/k=10\/k=11:=by omega
    rcases hk with rfl|rfl|rfl|rfl|rfl|rfl|rfl|rfl|rfl|rfl|rfl|rfl
    .rw[t0];exact leaf 0 6 _ (.inl rfl) (by decide) rfl (by decide)
    .rw[t1];exact leaf 0 6 _ (.inl rfl) (by decide) rfl (by decide)
    .rw[t2];exact leaf 1 5 _ (.inr rfl) (by decide) rfl (by decide)
    .rw[t3];exact leaf 1 5 _ (.inr rfl) (by decide) rfl (by decide)
    .rw[t4];exact unary 2 (.inl rfl) (by omega)
    .rw[t5];exact unary 8 (.inr rfl) (by omega)
    .rw[t6];exact binary 3 (by omega) (by omega) _ λy=>rfl
    .rw[t7];exact binary 4 (by omega) (by omega) _ λy=>rfl
    .rw[t8];exact binary 5 (by omega) (by omega) _ λy=>rfl
    .rw[t9];exact binary 6 (by omega) (by omega) _ λy=>rfl
    .rw[t10];exact binary 7 (by omega) (by omega) _ λy=>rfl
    .rw[t11];exact binary 4 (by omega) (by omega) _ λy=>rfl
   unfold RO Fc RU;simp only[];by_cases hb:(d:Int)<=1\/(l.length:Int)<i+1
   .rw[show(decide ((d:Int)<=1)||decide ((l.length:Int)<i+1))=true by simpa using hb,bA,dH]
    obtain⟨m0,m1⟩:=aGD (m:=4) k0 (by decide);exact tail _ m0 (by omega) λ_=>m1
   .rw[show(decide ((d:Int)<=1)||decide ((l.length:Int)<i+1))=false by simpa using hb,aM]
    exact tail k k0 k1 λh=>by omega
end Go.Proofs
/- The formulas that are made of numbers: what they are. -/
namespace Go.Proofs
open Go Go.Ax Go.Ax.aA
theorem a0e{e:Ex}(h:dE e false=true):dE e true=true:=by
 cases e with|mk o a ks=>
 simp only[dE,here,bM]at h ⊢;obtain⟨⟨⟨⟨h1,h2⟩,h3⟩,h4⟩,h5⟩:=h;exact⟨⟨⟨⟨h1,rfl⟩,h3⟩,h4⟩,h5⟩
theorem WX{N:Nat}{d:Nat}{l:List Int}{i:Int}(h:yG d l i (cM N N (d:Int) l i)):∃e i',CW N d l i=true/\CV N d l i=e.op/\CU N d l i=e.num/\CT N d l i=e.kids/\zU N d l i=l/\zT N d l i=i' /\
    dE e false=true/\aR e+1<=2^d/\eM e<=d/\i<i'/\i'+2<=i+2*2^d:=by
 obtain⟨e,i',h1,h2⟩:=h;refine⟨e,i',?_,?_,?_,?_,?_,?_,h2⟩
 .unfold CW;rw[h1];rfl
 .unfold CV;rw[h1];rfl
 .unfold CU;rw[h1];rfl
 .unfold CT;rw[h1];rfl
 .unfold zU;rw[h1];rfl
 .unfold zT;rw[h1];rfl
def uB(depth:Int):Nat:=(max 1 (min 5 depth)).toNat
theorem a0t(depth:Int):1<=uB depth/\uB depth<=5/\max 1 (min 5 depth)=(uB depth:Int):=by unfold uB;omega
theorem aUH{N:Nat}(hN:5<=N){l:List Int}(hl:∀x∈l,gL x)(hlen:l.length<2^60)(depth:Int):∃e,wB N l depth=some (e.op,e.num,e.kids)/\dE e true=true/\aR e<=31/\eM e<=5 /\
    (1<mI l 0 6->dE e false=true/\aR e+1<=2^uB depth/\eM e<=uB depth):=by
 obtain⟨m1,m5,hm⟩:=a0t depth;generalize uB depth=d at m1 m5 hm;have h6:(1:Int)<=6:=by decide
 have pw:2^d<=32/\(2:Int)^d<=32:=by
  have:d=1\/d=2\/d=3\/d=4\/d=5:=by omega
  rcases this with rfl|rfl|rfl|rfl|rfl <;> decide
 unfold wB w33 Su;simp only[hm];rw[aG (Ra hl h6 (by decide) (by decide)),R9 hl h6 (by decide) (by decide),R8 hl h6 (by decide) (by decide),R7 hl h6 (by decide) (by decide)];obtain⟨k0,k1⟩:=XN (l:=l) (i:=0) h6;generalize mI l 0 6=k at k0 k1;by_cases hb:1<k\/(d:Int)<2
 .rw[show(decide (1<k)||decide ((d:Int)<2))=true by simpa using hb,bA]
  obtain⟨e,i',p,y0,y1,y2,y3,y4,o1,o2,o3,o4,o5⟩:=WX (N:=N) (Kj hl hlen N d (0+1) m1 (by omega) m5 (by decide) (by omega));simp only[p,y0,y1,y2,dH];exact⟨e,rfl,a0e o1,by omega,by omega,λ_=>⟨o1,o2,o3⟩⟩
 .rw[show(decide (1<k)||decide ((d:Int)<2))=false by simpa using hb,aM,wr (x:=(d:Int)-1) (by omega) (by omega),show(d:Int)-1=((d-1:Nat):Int)by omega]
  have pd:(2:Int)^(d-1)<=16/\2^(d-1)<=16:=by
   have:d-1=1\/d-1=2\/d-1=3\/d-1=4:=by omega
   rcases this with h|h|h|h <;> rw[h] <;> decide
  obtain⟨e,i',p,y0,y1,y2,y3,y4,o1,o2,o3,o4,o5⟩:=WX (N:=N) (Kj hl hlen N (d-1) (0+1) (by omega) (by omega) (by omega) (by decide) (by omega));obtain⟨g,i2,q,z0,z1,z2,z3,z4,q1,q2,q3,q4,q5⟩:=WX (N:=N) (Kj hl hlen N (d-1) i' (by omega) (by omega) (by omega) (by omega) (by omega));simp only[p,y0,y1,y2,y3,y4,q,z0,z1,z2,dH,Ex.eta];have hk:k=0\/k=1:=by omega
  refine⟨.mk (9+k) 0 [e,g],?_,?_,?_,?_,λh=>by omega⟩
  .rcases hk with rfl|rfl <;> rfl
  .rcases hk with rfl|rfl <;> simp only[dE,gU,o1,q1] <;> rfl
  .simp only[aR,c9];omega
  .simp only[eM,iM];omega
theorem aUG{N:Nat}(hN:5<=N){l:List Int}(hl:∀x∈l,gL x)(hlen:l.length<2^60)(depth:Int):∃e,MV N l depth=true/\Cw N l depth=e.op/\Cv N l depth=e.num/\Cu N l depth=e.kids/\dE e true=true/\aR e<=31/\eM e<=5 /\
    (1<mI l 0 6->dE e false=true/\aR e+1<=2^uB depth/\eM e<=uB depth):=by
 obtain⟨e,h1,h2⟩:=aUH (N:=N) hN hl hlen depth;refine⟨e,?_,?_,?_,?_,h2⟩
 .unfold MV;rw[h1];rfl
 .unfold Cw;rw[h1];rfl
 .unfold Cv;rw[h1];rfl
 .unfold Cu;rw[h1];rfl
end Go.Proofs
