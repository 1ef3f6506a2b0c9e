/- Trees: sizes, which are right, made of numbers. Conditions are in the theorems. -/
import Derived.Test.YtlhdefefoaldfaaGreatDoorF2
import Derived.Test.YtlhdefefoaldfaaGreatDoorF3
import Derived.Test.YtlhdefefoaldfaaGreatDoorF5
open Bool renaming and_eq_true->bM,false_and->iU,not_false->gX,not_true->kU,true_and->iE
open Go.IntKind renaming i64->aC
open Int renaming max_eq_left->bA1
open List renaming getElem?_eq_getElem->dE,getElem_mem->bAS,length_nil->j9,mem_cons_of_mem->eY,mem_cons_self->gN
open Option renaming getD_some->vT,isSome_some->vS
/- Trees: how many nodes they have and how deep they are. -/
namespace Go.Proofs
open Go Go.Ax Go.Ax.aA
mutual
def aT:Ex->Nat
 |.mk _ _ ks=>1+dH ks
def dH:List Ex->Nat
 |[]=>0
 |k::l=>aT k+dH l
end
mutual
def eU:Ex->Nat
 |.mk _ _ ks=>iW ks+1
def iW:List Ex->Nat
 |[]=>0
 |k::l=>max (eU k) (iW l)
end
theorem size_pos(e:Ex):1<=aT e:=by cases e;simp only[aT];omega
theorem yQ:∀l:List Ex,l.length<=dH l
 |[]=>Nat.le_refl _
 |k::l=>by have:=yQ l;have:=size_pos k;simp only[List.length_cons,dH];omega
theorem vA{k:Ex}:∀{l:List Ex},k∈l->aT k<=dH l
 |[],h=>by cases h
 |x::l,h=>by
   simp only[dH];rcases List.mem_cons.1 h with rfl|h
   .omega
   .have:=vA h;omega
mutual
theorem a8l:∀e:Ex,eU e<=aT e
 |.mk _ _ ks=>by simp only[eU,aT];have:=RW ks;omega
theorem RW:∀l:List Ex,iW l<=dH l
 |[]=>Nat.le_refl _
 |k::l=>by simp only[iW,dH];have:=a8l k;have:=RW l;omega
end
theorem yX{α:Type}{pre l:List α}{x:α}:(pre++x::l)[pre.length]?=some x:=by simp
theorem aFN{N:Nat}{rec:Int->Int->List Ex->Option Int}{K:Int->O}{k1 k2:Unit->O}:∀(l pre ks:List Ex)(m:Nat)(acc:Int),ks=pre++l->l.length<m->(∀k∈l,rec k.op k.num k.kids=some (aT k:Int))->0<=acc->acc+dH l<2^62->ks.length<2^62->
    Ae (N,rec) m (acc,ks,(ks.length:Int),(pre.length:Int)) K k1 k2=K (acc+dH l)
 |_,_,_,0,_,_,h,_,_,_,_=>by omega
 |[],pre,ks,m+1,acc,hk,_,_,h0,_,_=>by
   show D2 _ _ _ _ _ _ _=_;unfold D2;simp only[];subst hk;rw[aR (by simp),aK];simp[dH]
 |k::l,pre,ks,m+1,acc,hk,hm,hr,h0,h1,h2=>by
   show D2 _ _ _ _ _ _ _=_;unfold D2;simp only[];have hl:ks.length=pre.length+(l.length+1):=by rw[hk];simp
   have hs:=size_pos k;simp only[dH]at h1;rw[aQ (by omega),aX,dO (y:=k) (by rw[hk];exact yX)];simp only[hr k (gN ..)];simp only[vS,cP,vT];rw[wr (x:=acc+_) (by omega) (by omega),wr (x:=(pre.length:Int)+1) (by omega) (by omega)];have:=aFN (N:=N) (rec:=rec) (K:=K) (k1:=k1) (k2:=k2) l (pre++[k]) ks m (acc+aT k) (by rw[hk];simp) (by simp at hm;omega) (λx hx=>hr x (eY _ hx)) (by omega) (by omega) h2;rw[show((pre++[k]).length:Int)=(pre.length:Int)+1 by simp]at this;refine this.trans ?_;simp only[dH]
   congr 1
   omega
theorem Ur{N:Nat}:∀(n:Nat)(e:Ex),aT e<=n->aT e<N->aT e<2^60->mM N n e.op e.num e.kids=some (aT e:Int)
 |0,e,h,_,_=>by have:=size_pos e;omega
 |n+1,.mk o a ks,h,hN,hB=>by
   simp only[aT]at h hN hB;simp only[aT];show Mm (N,mM N n) o a ks=_;unfold Mm w49 Us Uo;have hlen:=yQ ks;have:=aFN (N:=N) (rec:=mM N n) (K:=λy=>(λz4=>some (nO z4)) y) (k1:=λ_=>none) (k2:=λ_=>none) ks [] ks N 1 rfl (by omega) (λk hk=>by have:=vA hk;exact Ur n k (by omega) (by omega) (by omega)) (by omega) (by omega) (by omega);refine(bE (λz:O=>z.bind HG) this).trans ?_;show HG (nO _)=_;rw[show(1:Int)+((dH ks:Nat):Int)=((1+dH ks:Nat):Int)by omega];rfl
theorem aVI{N:Nat}{e:Ex}(h:aT e<N)(hB:aT e<2^60):Mo N e.op e.num e.kids=true:=by unfold Mo;rw[Ur N e (by omega) h hB];rfl
theorem aVH{N:Nat}{e:Ex}(h:aT e<N)(hB:aT e<2^60):HF N e.op e.num e.kids=(aT e:Int):=by unfold HF;rw[Ur N e (by omega) h hB];rfl
theorem aET{N:Nat}{rec:Int->Int->List Ex->Option Int}{o a:Int}{K:Int->O}{k1 k2:Unit->O}:∀(l pre ks:List Ex)(m:Nat)(acc:Int),ks=pre++l->l.length<m->(∀k∈l,rec k.op k.num k.kids=some (aT k:Int))->0<=acc->acc+dH l<2^62->ks.length<2^62->
    A4 (N,rec) m (acc,(pre.length:Int),o,a,ks) K k1 k2=K (acc+dH l)
 |_,_,_,0,_,_,h,_,_,_,_=>by omega
 |[],pre,ks,m+1,acc,hk,_,_,h0,_,_=>by
   show DM _ _ _ _ _ _ _ _=_;unfold DM;simp only[];subst hk;rw[aR (by simp),aK];simp[dH]
 |k::l,pre,ks,m+1,acc,hk,hm,hr,h0,h1,h2=>by
   show DM _ _ _ _ _ _ _ _=_;unfold DM;simp only[];have hl:ks.length=pre.length+(l.length+1):=by rw[hk];simp
   have hs:=size_pos k;simp only[dH]at h1;rw[aQ (by omega),aX,dO (y:=k) (by rw[hk];exact yX)];simp only[hr k (gN ..)];simp only[vS,cP,vT];rw[wr (x:=acc+_) (by omega) (by omega),wr (x:=(pre.length:Int)+1) (by omega) (by omega)];have:=aET (N:=N) (rec:=rec) (o:=o) (a:=a) (K:=K) (k1:=k1) (k2:=k2) l (pre++[k]) ks m (acc+aT k) (by rw[hk];simp) (by simp at hm;omega) (λx hx=>hr x (eY _ hx)) (by omega) (by omega) h2;rw[show((pre++[k]).length:Int)=(pre.length:Int)+1 by simp]at this;refine this.trans ?_;simp only[dH]
   congr 1
   omega
theorem UN{N:Nat}:∀(n:Nat)(e:Ex),aT e<=n->aT e<N->aT e<2^60->mJ N n e.op e.num e.kids=some (aT e:Int)
 |0,e,h,_,_=>by have:=size_pos e;omega
 |n+1,.mk o a ks,h,hN,hB=>by
   simp only[aT]at h hN hB;simp only[aT];show MJ (N,mJ N n) o a ks=_;unfold MJ w62 UO UK;have hlen:=yQ ks;have:=aET (N:=N) (rec:=mJ N n) (o:=o) (a:=a) (K:=λy=>(λz4=>some (nK z4)) y) (k1:=λ_=>none) (k2:=λ_=>none) ks [] ks N 1 rfl (by omega) (λk hk=>by have:=vA hk;exact UN n k (by omega) (by omega) (by omega)) (by omega) (by omega) (by omega);refine(bE (λz:O=>z.bind Gq) this).trans ?_;show Gq (nK _)=_;rw[show(1:Int)+((dH ks:Nat):Int)=((1+dH ks:Nat):Int)by omega];rfl
theorem aT2{N:Nat}{e:Ex}(h:aT e<N)(hB:aT e<2^60):ML N e.op e.num e.kids=true:=by unfold ML;rw[UN N e (by omega) h hB];rfl
theorem aT1{N:Nat}{e:Ex}(h:aT e<N)(hB:aT e<2^60):Gn N e.op e.num e.kids=(aT e:Int):=by unfold Gn;rw[UN N e (by omega) h hB];rfl
theorem aFG{N:Nat}{rec:Int->Int->List Ex->Option Int}{K:Int->O}{k1 k2:Unit->O}:∀(l pre ks:List Ex)(m:Nat)(acc:Int),ks=pre++l->l.length<m->(∀k∈l,rec k.op k.num k.kids=some (eU k:Int))->0<=acc->ks.length<2^62->
    Ac (N,rec) m (acc,ks,(ks.length:Int),(pre.length:Int)) K k1 k2=K (max acc (iW l:Int))
 |_,_,_,0,_,_,h,_,_,_=>by omega
 |[],pre,ks,m+1,acc,hk,_,_,h0,_=>by
   show D1 _ _ _ _ _ _ _=_;unfold D1;simp only[];subst hk;rw[aR (by simp),aK];simp[iW,bA1 h0]
 |k::l,pre,ks,m+1,acc,hk,hm,hr,h0,h2=>by
   show D1 _ _ _ _ _ _ _=_;unfold D1;simp only[];have hl:ks.length=pre.length+(l.length+1):=by rw[hk];simp
   rw[aQ (by omega),aX,dO (y:=k) (by rw[hk];exact yX)];simp only[hr k (gN ..)];simp only[vS,cP,vT];rw[wr (x:=(pre.length:Int)+1) (by omega) (by omega)];have:=aFG (N:=N) (rec:=rec) (K:=K) (k1:=k1) (k2:=k2) l (pre++[k]) ks m (max acc (eU k:Int)) (by rw[hk];simp) (by simp at hm;omega) (λx hx=>hr x (eY _ hx)) (by omega) h2;rw[show((pre++[k]).length:Int)=(pre.length:Int)+1 by simp]at this;refine this.trans ?_;simp only[iW]
   congr 1
   rw[show((max (eU k) (iW l):Nat):Int)=max (eU k:Int) (iW l:Int)by omega];omega
theorem Um{N:Nat}:∀(n:Nat)(e:Ex),aT e<=n->aT e<N->aT e<2^60->mL N n e.op e.num e.kids=some (eU e:Int)
 |0,e,h,_,_=>by have:=size_pos e;omega
 |n+1,.mk o a ks,h,hN,hB=>by
   simp only[aT]at h hN hB;simp only[eU];show Mh (N,mL N n) o a ks=_;unfold Mh w50 Un Uj;have hlen:=yQ ks;have hdl:=RW ks;have:=aFG (N:=N) (rec:=mL N n) (K:=λy=>(λz4=>some (nN (aC.wrap (z4+1)))) y) (k1:=λ_=>none) (k2:=λ_=>none) ks [] ks N 0 rfl (by omega) (λk hk=>by have:=vA hk;exact Um n k (by omega) (by omega) (by omega)) (by omega) (by omega);refine(bE (λz:O=>z.bind HE) this).trans ?_;show HE (nN _)=_;rw[wr (by omega) (by omega),show max (0:Int) ((iW ks:Nat):Int)+1=((iW ks+1:Nat):Int)by omega];rfl
theorem aUu{N:Nat}{e:Ex}(h:aT e<N)(hB:aT e<2^60):Mk N e.op e.num e.kids=true:=by unfold Mk;rw[Um N e (by omega) h hB];rfl
theorem aUt{N:Nat}{e:Ex}(h:aT e<N)(hB:aT e<2^60):Mi N e.op e.num e.kids=(eU e:Int):=by unfold Mi;rw[Um N e (by omega) h hB];rfl
theorem aEM{N:Nat}{rec:Int->Int->List Ex->Option Int}{o a:Int}{K:Int->O}{k1 k2:Unit->O}:∀(l pre ks:List Ex)(m:Nat)(acc:Int),ks=pre++l->l.length<m->(∀k∈l,rec k.op k.num k.kids=some (eU k:Int))->0<=acc->ks.length<2^62->
    A2 (N,rec) m (acc,(pre.length:Int),o,a,ks) K k1 k2=K (max acc (iW l:Int))
 |_,_,_,0,_,_,h,_,_,_=>by omega
 |[],pre,ks,m+1,acc,hk,_,_,h0,_=>by
   show DL _ _ _ _ _ _ _ _=_;unfold DL;simp only[];subst hk;rw[aR (by simp),aK];simp[iW,bA1 h0]
 |k::l,pre,ks,m+1,acc,hk,hm,hr,h0,h2=>by
   show DL _ _ _ _ _ _ _ _=_;unfold DL;simp only[];have hl:ks.length=pre.length+(l.length+1):=by rw[hk];simp
   rw[aQ (by omega),aX,dO (y:=k) (by rw[hk];exact yX)];simp only[hr k (gN ..)];simp only[vS,cP,vT];rw[wr (x:=(pre.length:Int)+1) (by omega) (by omega)];have:=aEM (N:=N) (rec:=rec) (o:=o) (a:=a) (K:=K) (k1:=k1) (k2:=k2) l (pre++[k]) ks m (max acc (eU k:Int)) (by rw[hk];simp) (by simp at hm;omega) (λx hx=>hr x (eY _ hx)) (by omega) h2;rw[show((pre++[k]).length:Int)=(pre.length:Int)+1 by simp]at this;refine this.trans ?_;simp only[iW]
   congr 1
   rw[show((max (eU k) (iW l):Nat):Int)=max (eU k:Int) (iW l:Int)by omega];omega
theorem UI{N:Nat}:∀(n:Nat)(e:Ex),aT e<=n->aT e<N->aT e<2^60->mI N n e.op e.num e.kids=some (eU e:Int)
 |0,e,h,_,_=>by have:=size_pos e;omega
 |n+1,.mk o a ks,h,hN,hB=>by
   simp only[aT]at h hN hB;simp only[eU];show ME (N,mI N n) o a ks=_;unfold ME w63 UJ UF;have hlen:=yQ ks;have hdl:=RW ks;have:=aEM (N:=N) (rec:=mI N n) (o:=o) (a:=a) (K:=λy=>(λz4=>some (nJ (aC.wrap (z4+1)))) y) (k1:=λ_=>none) (k2:=λ_=>none) ks [] ks N 0 rfl (by omega) (λk hk=>by have:=vA hk;exact UI n k (by omega) (by omega) (by omega)) (by omega) (by omega);refine(bE (λz:O=>z.bind Gm) this).trans ?_;show Gm (nJ _)=_;rw[wr (by omega) (by omega),show max (0:Int) ((iW ks:Nat):Int)+1=((iW ks+1:Nat):Int)by omega];rfl
theorem aTO{N:Nat}{e:Ex}(h:aT e<N)(hB:aT e<2^60):MH N e.op e.num e.kids=true:=by unfold MH;rw[UI N e (by omega) h hB];rfl
theorem aTN{N:Nat}{e:Ex}(h:aT e<N)(hB:aT e<2^60):MF N e.op e.num e.kids=(eU e:Int):=by unfold MF;rw[UI N e (by omega) h hB];rfl
end Go.Proofs
/- Trees: which are right. -/
namespace Go.Proofs
open Go Go.Ax Go.Ax.aA
def oC(o:Int):Int:=if o=0\/o=1 then 0 else if o=2\/o=8 then 1 else if o=3\/o=4\/o=5\/o=6\/o=7\/o=9\/o=10 then 2 else -1
def jS(o:Int):Int:=if o=0 then 999999 else if o=1 then 25 else 0
def here(o a:Int)(n:Nat)(root:Bool):Bool:=decide ((n:Int)=oC o)&&(root||decide (o<9))&&decide (0<=a)&&decide (a<=jS o)
mutual
def dN:Ex->Bool->Bool
 |.mk o a ks,root=>here o a ks.length root&&hZ ks
def hZ:List Ex->Bool
 |[]=>true
 |k::l=>dN k false&&hZ l
end
abbrev Rg:=(Int->Int->(List Ex)->Option (Bool))×((List Ex)->Option (Int))×((List Ex)->Option (Bool))×(Int->Int->(List Ex)->Bool->Option (Bool))
theorem aJ0{N:Nat}{rc:Rg}{K:Int->O}{k1 k2:Unit->O}:∀(l pre ks:List Ex)(m:Nat),ks=pre++l->l.length<m->(∀k∈l,rc.1 k.op k.num k.kids=some (!dN k false))->ks.length<2^62->
    (hZ l=true->sA (N,rc) m (ks,(ks.length:Int),(pre.length:Int)) K k1 k2=k1 ())/\(hZ l=false->∃j:Nat,sA (N,rc) m (ks,(ks.length:Int),(pre.length:Int)) K k1 k2=K (j:Int))
 |_,_,_,0,_,h,_,_=>by omega
 |[],pre,ks,m+1,hk,_,_,_=>by
   refine⟨λ_=>?_,λh=>by cases h⟩;show Eg _ _ _ _ _ _ _=_;unfold Eg;simp only[];subst hk;rw[aR (by simp),aK]
 |k::l,pre,ks,m+1,hk,hm,hr,h2=>by
   have hl:ks.length=pre.length+(l.length+1):=by rw[hk];simp
   have ih:=aJ0 (N:=N) (rc:=rc) (K:=K) (k1:=k1) (k2:=k2) l (pre++[k]) ks m (by rw[hk];simp) (by simp at hm;omega) (λx hx=>hr x (eY _ hx)) h2;rw[show((pre++[k]).length:Int)=(pre.length:Int)+1 by simp]at ih;have step:sA (N,rc) (m+1) (ks,(ks.length:Int),(pre.length:Int)) K k1 k2=br (!dN k false) (K (pre.length:Int)) (sA (N,rc) m (ks,(ks.length:Int),(pre.length:Int)+1) K k1 k2):=by
    show Eg _ _ _ _ _ _ _=_;unfold Eg;simp only[];rw[aQ (by omega),aX,dO (y:=k) (by rw[hk];exact yX)];simp only[hr k (gN ..)];simp only[vS,cP,vT];rw[wr (x:=(pre.length:Int)+1) (by omega) (by omega)]
   rw[step];cases hb:dN k false with
   |true=>
     simp only[hZ,hb,iE,kU,aK];exact ih
   |false=>
     simp only[hZ,hb,iU,gX,aX];exact⟨λh=>(by cases h),λ_=>⟨_,rfl⟩⟩
theorem aUh{N:Nat}{rc:Rg}{o a:Int}{ks:List Ex}{root:Bool}(hr:rc.2.2.1 ks=some (!hZ ks)):DZ (N,rc) o a ks root=some (here o a ks.length root&&hZ ks):=by
 unfold DZ w51 Ui;simp only[hr];simp only[vS,cP,vT];by_cases h0:o<0\/11<=o
 .rw[show(decide (o<0)||decide (11<=o))=true by simpa using h0,aX]
  have:here o a ks.length root=false:=by
   unfold here oC;rw[aD (by omega),aD (by omega),aD (by omega),aR (by omega)];rfl
  rw[this];rfl
 .rw[show(decide (o<0)||decide (11<=o))=false by simpa using h0,aK]
  obtain⟨n,rfl⟩:∃n:Nat,o=n:=⟨o.toNat,by omega⟩
  have hn:n<11:=by omega
  have fin:∀(k m lv:Int)(sg:UInt8),oC n=k->jS n=m->decide (lv=0)=!decide ((n:Int)<9)->
      (br (decide ((↑ks.length:Int)≠k)||decide (a<0)||decide (m<a)||decide (lv=0)&&!root) (some (rT false)) (some (rT (!!hZ ks))):O).bind D0=some (here n a ks.length root&&hZ ks):=by
   rintro k m lv sg rfl rfl hlv;rw[hlv];unfold here;by_cases q1:(ks.length:Int)=oC n
   .by_cases q2:a<0
    .rw[aQ q2,aR (show ¬ 0<=a by omega)]
     simp;rfl
    .by_cases q3:jS n<a
     .rw[aQ q3,aR (show ¬ a<=jS n by omega)]
      simp;rfl
     .rw[aR q2,aR q3,aQ q1,aQ (show 0<=a by omega),aQ (show a<=jS n by omega),aR (by simpa using q1)]
      cases root <;> cases decide ((n:Int)<9) <;> simp <;> rfl
   .rw[aQ q1,aR q1]
    simp;rfl
  have get:∀{y:Int×Int×Int×UInt8}{k:Int×Int×Int×UInt8->O}{r},([(0,999999,4,0),(0,25,4,0),(1,0,3,45),(2,0,1,43),(2,0,1,45),(2,0,2,42),(2,0,2,47),(2,0,3,94),(1,0,4,82),(2,0,0,61),(2,0,0,60)]:List (Int×Int×Int×UInt8))[n]?=some y->(k y).bind D0=r->(gx [(0,999999,4,0),(0,25,4,0),(1,0,3,45),(2,0,1,43),(2,0,1,45),(2,0,2,42),(2,0,2,47),(2,0,3,94),(1,0,4,82),(2,0,0,61),(2,0,0,60)] (n:Int) k).bind D0=r:=λh h2=>by rw[dO h];exact h2
  have hn':n=0\/n=1\/n=2\/n=3\/n=4\/n=5\/n=6\/n=7\/n=8\/n=9\/n=10:=by omega
  rcases hn' with rfl|rfl|rfl|rfl|rfl|rfl|rfl|rfl|rfl|rfl|rfl <;> exact get rfl (fin _ _ _ 0 rfl rfl rfl)
theorem aFA{N:Nat}:∀(n:Nat)(e:Ex)(root:Bool),4*aT e<=n->aT e<N->aT e<2^60->(fR N n).2.2.2 e.op e.num e.kids root=some (dN e root)
 |0,e,_,h,_,_=>by have:=size_pos e;omega
 |1,e,_,h,_,_=>by have:=size_pos e;omega
 |2,e,_,h,_,_=>by have:=size_pos e;omega
 |3,e,_,h,_,_=>by have:=size_pos e;omega
 |n+4,.mk o a ks,root,h,hN,hB=>by
   simp only[aT]at h hN hB;have hlen:=yQ ks;have h89:∀k∈ks,(fR N (n+1)).1 k.op k.num k.kids=some (!dN k false):=λk hk=>by
    have hs:=vA hk;have:=aFA (N:=N) n k false (by omega) (by omega) (by omega);show GL (N,fR N n) k.op k.num k.kids=_;unfold GL w83 Sw;have e:∀(x y:Int)(z:List Ex),(fR N n).2.2.2 (Ex.mk x y z).op (Ex.mk x y z).num (Ex.mk x y z).kids false=(fR N n).2.2.2 x y z false:=λ_ _ _=>rfl
    simp only[this];rfl
   have h108:(hZ ks=true->(fR N (n+2)).2.1 ks=some (-1))/\(hZ ks=false->∃j:Nat,(fR N (n+2)).2.1 ks=some (j:Int)):=by
    have:=aJ0 (N:=N) (rc:=fR N (n+1)) (K:=λz4=>some (xS z4)) (k1:=λ_=>some (xS (-1))) (k2:=λ_=>none) ks [] ks N rfl (by omega) h89 (by omega);refine⟨λhb=>?_,λhb=>?_⟩
    .show Bh (N,fR N (n+1)) ks=_
     unfold Bh Xu QB Py;exact(bE (λz:O=>z.bind Ig) (this.1 hb)).trans rfl
    .obtain⟨j,hj⟩:=this.2 hb
     refine⟨j,?_⟩;show Bh (N,fR N (n+1)) ks=_;unfold Bh Xu QB Py;exact(bE (λz:O=>z.bind Ig) hj).trans rfl
   have h88:(fR N (n+3)).2.2.1 ks=some (!hZ ks):=by
    show GO (N,fR N (n+2)) ks=_;unfold GO w82 Sz;cases hb:hZ ks with
    |true=>simp only[h108.1 hb];rfl
    |false=>
      obtain⟨j,hj⟩:=h108.2 hb;simp only[hj];simp only[vS,cP,vT];rw[aQ (by omega)];rfl
   show DZ (N,fR N (n+3)) o a ks root=_;rw[aUh h88];rfl
end Go.Proofs
/- Trees: which are valid. -/
namespace Go.Proofs
open Go Go.Ax Go.Ax.aA
theorem aCC(N:Nat)(o:Int):Fy N o=some (oC o):=by
 by_cases h0:o=0
 .subst h0;rfl
 by_cases h1:o=1
 .subst h1;rfl
 by_cases h2:o=2
 .subst h2;rfl
 by_cases h8:o=8
 .subst h8;rfl
 by_cases h3:o=3
 .subst h3;rfl
 by_cases h4:o=4
 .subst h4;rfl
 by_cases h5:o=5
 .subst h5;rfl
 by_cases h6:o=6
 .subst h6;rfl
 by_cases h7:o=7
 .subst h7;rfl
 by_cases h9:o=9
 .subst h9;rfl
 by_cases h10:o=10
 .subst h10;rfl
 have hk:oC o = -1:=by unfold oC;rw[aD (by omega),aD (by omega),aD (by omega)]
 rw[hk];show(Ki N (GB N) (GA N) (Fz N) (λkB=>some (AB kB)) (λ_=>some (AB (-1))) o:O).bind K5=_;unfold Ki;unfold GB GF Sm;simp only[];rw[aR h0,aK,aR h1];unfold GA GD Sl;simp only[];rw[aR h2,aK,aR h8];unfold Fz GC Sk;simp only[];rw[aR h3,aK,aR h4,aK,aR h5,aK,aR h6,aK,aR h7,aK,aR h9,aK,aR h10];rfl
theorem aPB{N:Nat}{o:Int}:Ka N o=true:=by unfold Ka;rw[aCC];rfl
theorem aPA{N:Nat}{o:Int}:K4 N o=oC o:=by unfold K4;rw[aCC];rfl
theorem aEE{N:Nat}{rc:Int->Int->List Ex->Bool->Option Bool}{o a:Int}{K:Bool->O}{k1 k2:Unit->O}:∀(l pre ks:List Ex)(m:Nat),ks=pre++l->l.length<m->(∀k∈l,rc k.op k.num k.kids false=some (dN k false))->ks.length<2^62->
    A0 (N,rc) m ((pre.length:Int),o,a,ks) K k1 k2=br (hZ l) (k1 ()) (K false)
 |_,_,_,0,_,h,_,_=>by omega
 |[],pre,ks,m+1,hk,_,_,_=>by
   show DK _ _ _ _ _ _ _ _=_;unfold DK;simp only[];subst hk;rw[aR (by simp),aK];rfl
 |k::l,pre,ks,m+1,hk,hm,hr,h2=>by
   have hl:ks.length=pre.length+(l.length+1):=by rw[hk];simp
   have ih:=aEE (N:=N) (rc:=rc) (o:=o) (a:=a) (K:=K) (k1:=k1) (k2:=k2) l (pre++[k]) ks m (by rw[hk];simp) (by simp at hm;omega) (λx hx=>hr x (eY _ hx)) h2;rw[show((pre++[k]).length:Int)=(pre.length:Int)+1 by simp]at ih;show DK _ _ _ _ _ _ _ _=_;unfold DK;simp only[];rw[aQ (by omega),aX,dO (y:=k) (by rw[hk];exact yX)];simp only[hr k (gN ..)];simp only[vS,cP,vT];rw[wr (x:=(pre.length:Int)+1) (by omega) (by omega)];cases hb:dN k false with
   |true=>
     simp only[hZ,hb,iE,kU,aK];exact ih
   |false=>
     simp only[hZ,hb,iU,gX,aX,aK]
theorem aEF{N:Nat}:∀(n:Nat)(e:Ex)(root:Bool),aT e<=n->aT e<N->aT e<2^60->lX N n e.op e.num e.kids root=some (dN e root)
 |0,e,_,h,_,_=>by have:=size_pos e;omega
 |n+1,.mk o a ks,root,h,hN,hB=>by
   simp only[aT]at h hN hB;have hlen:=yQ ks;have hk:∀k∈ks,lX N n k.op k.num k.kids false=some (dN k false):=λk hk=>by
    have hs:=vA hk;exact aEF n k false (by omega) (by omega) (by omega)
   show Lt (N,lX N n) o a ks root=_;unfold Lt w64 UC;rw[aI aPB,aPA];by_cases q1:(ks.length:Int)=oC o
   case neg=>
    rw[aQ q1,Bool.true_or,aX];simp only[dN,here];rw[aR q1];rfl
   rw[aR (show ¬ (ks.length:Int)≠oC o by simpa using q1),Bool.false_or];by_cases q2:(!root&&decide (9<=o))=true
   .rw[q2,aX]
    simp only[dN,here];simp only[bM,Bool.not_eq_true',gG]at q2;rw[q2.1,aR (show ¬ o<9 by omega)];simp;rfl
   .rw[Bool.not_eq_true]at q2
    rw[q2,aK];have q2':(root||decide (o<9))=true:=by
     cases root with
     |true=>rfl
     |false=>
       simp only[gX,iE,decide_eq_false_iff_not]at q2;simp;omega
    have go:∀m:Int,m=jS o->((br (decide (a<0)||decide (m<a)) (some (kZ false)) (Lz (N,lX N n) 0 o a ks (λz14=>some (kZ z14)) (λ_=>some (kZ true))):O)).bind Gi=some (dN (.mk o a ks) root):=by
     rintro m rfl;simp only[dN,here];rw[aQ q1,q2'];by_cases q3:a<0
     .rw[aQ q3,aR (show ¬ 0<=a by omega)]
      simp[aX];rfl
     by_cases q4:jS o<a
     .rw[aQ q4,aR (show ¬ a<=jS o by omega)]
      simp[aX];rfl
     rw[aR q3,aR q4,aQ (show 0<=a by omega),aQ (show a<=jS o by omega)];simp only[Bool.or_false,aK,Bool.and_true,iE];unfold Lz;refine(bE (λz:O=>z.bind Gi) (aEE (o:=o) (a:=a) ks [] ks N rfl (by omega) hk (by omega))).trans ?_;cases hZ ks <;> rfl
    unfold Tw Gk UE;simp only[];by_cases h0:o=0
    .subst h0
     rw[aQ rfl,aX];exact go 999999 rfl
    rw[aR h0,aK];unfold Tv Gj UD;simp only[];by_cases h1:o=1
    .subst h1
     rw[aQ rfl,aX];exact go 25 rfl
    rw[aR h1,aK];exact go 0 (by unfold jS;rw[aD h0,aD h1])
def c9(e:Ex):Int:=if 256<aT e\/16<eU e then 4 else if dN e true then 0 else 1
theorem aGs{N:Nat}{e:Ex}(h:4*aT e<N)(hB:aT e<2^60):Hc N e.op e.num e.kids=some (c9 e):=by
 cases e with|mk o a ks=>
 have hN:aT (.mk o a ks)<N:=by omega
 have e1:=aVI hN hB;have e2:=aVH hN hB;have e3:=aUu hN hB;have e4:=aUt hN hB;have e5:=aFA (N:=N) N (.mk o a ks) true (by omega) hN hB;have e6:Mf N o a ks true=true:=by unfold Mf;simp only[Ex.op,Ex.num,Ex.kids]at e5;rw[e5];rfl
 have e7:Me N o a ks true=dN (.mk o a ks) true:=by unfold Me;simp only[Ex.op,Ex.num,Ex.kids]at e5;rw[e5];rfl
 simp only[Ex.op,Ex.num,Ex.kids]at e1 e2 e3 e4 ⊢;unfold Hc w29 Vu c9;simp only[e1,e2,e3,e4,e6,e7,cP,Bool.or_true];by_cases q:256<aT (.mk o a ks)\/16<eU (.mk o a ks)
 .rw[aJ q,show(decide (256<((aT (.mk o a ks):Nat):Int))||decide (16<((eU (.mk o a ks):Nat):Int)))=true by simpa using(by omega:(256:Int)<(aT (.mk o a ks):Nat)\/(16:Int)<(eU (.mk o a ks):Nat)),aX]
  rfl
 .rw[aD q,show(decide (256<((aT (.mk o a ks):Nat):Int))||decide (16<((eU (.mk o a ks):Nat):Int)))=false by simpa using(by omega:¬ ((256:Int)<(aT (.mk o a ks):Nat)\/(16:Int)<(eU (.mk o a ks):Nat))),aK]
  cases dN (.mk o a ks) true <;> rfl
theorem aG7{N:Nat}{e:Ex}(h:aT e<N)(hB:aT e<2^60):H4 N e.op e.num e.kids=some (c9 e):=by
 cases e with|mk o a ks=>
 have e1:=aT2 h hB;have e2:=aT1 h hB;have e3:=aTO h hB;have e4:=aTN h hB;have e5:=aEF (N:=N) N (.mk o a ks) true (by omega) h hB;have e6:Ly N o a ks true=true:=by unfold Ly;simp only[Ex.op,Ex.num,Ex.kids]at e5;rw[e5];rfl
 have e7:Lu N o a ks true=dN (.mk o a ks) true:=by unfold Lu;simp only[Ex.op,Ex.num,Ex.kids]at e5;rw[e5];rfl
 simp only[Ex.op,Ex.num,Ex.kids]at e1 e2 e3 e4 ⊢;unfold H4 w36 Vi c9;simp only[e1,e2,e3,e4,e6,e7,cP,Bool.or_true];by_cases q:256<aT (.mk o a ks)\/16<eU (.mk o a ks)
 .rw[aJ q,show(decide (256<((aT (.mk o a ks):Nat):Int))||decide (16<((eU (.mk o a ks):Nat):Int)))=true by simpa using(by omega:(256:Int)<(aT (.mk o a ks):Nat)\/(16:Int)<(eU (.mk o a ks):Nat)),aX]
  rfl
 .rw[aD q,show(decide (256<((aT (.mk o a ks):Nat):Int))||decide (16<((eU (.mk o a ks):Nat):Int)))=false by simpa using(by omega:¬ ((256:Int)<(aT (.mk o a ks):Nat)\/(16:Int)<(eU (.mk o a ks):Nat))),aK]
  cases dN (.mk o a ks) true <;> rfl
theorem O2{N:Nat}{e:Ex}(h:4*aT e<N)(hB:aT e<2^60):uD N e.op e.num e.kids=true:=by unfold uD;rw[aGs h hB];rfl
theorem O1{N:Nat}{e:Ex}(h:4*aT e<N)(hB:aT e<2^60):qG N e.op e.num e.kids=c9 e:=by unfold qG;rw[aGs h hB];rfl
theorem OP{N:Nat}{e:Ex}(h:aT e<N)(hB:aT e<2^60):xF N e.op e.num e.kids=true:=by unfold xF;rw[aG7 h hB];rfl
theorem OO{N:Nat}{e:Ex}(h:aT e<N)(hB:aT e<2^60):rX N e.op e.num e.kids=c9 e:=by unfold rX;rw[aG7 h hB];rfl
end Go.Proofs
/- The formulas that are made of numbers. -/
namespace Go.Proofs
open Go Go.Ax Go.Ax.aA
abbrev iD(x:Int):Prop:=-9223372036854775808<=x/\x<9223372036854775808
theorem aJs{x m:Int}(h0:0<=x)(h1:1<=m):0<=x.tmod m/\x.tmod m<m:=⟨Int.tmod_nonneg _ h0,Int.tmod_lt_of_pos _ (by omega)⟩
def pV(x m:Int):Int:=(if x<0 then -(x+1)else x).tmod m
theorem aA5{x m:Int}(h1:1<=m):0<=pV x m/\pV x m<m:=by unfold pV;split <;> exact aJs (by omega) h1
theorem aHe{N:Nat}{x m:Int}(hx:iD x)(h1:1<=m):EK N x m=some (pV x m):=by
 unfold EK w23 W6 pV;by_cases h:x<0
 .rw[aQ h,aX,aR (by omega),aK,aI (by simp;omega),aJ h,wr (x:=x+1) (by omega) (by omega),wr (by omega) (by omega)]
  rfl
 .rw[aR h,aK,aR (by omega),aK,aI (by simp;omega),aD h]
  rfl
theorem EL{N:Nat}{x m:Int}(hx:iD x)(h1:1<=m):uK N x m=true:=by unfold uK;rw[aHe hx h1];rfl
theorem PL{N:Nat}{x m:Int}(hx:iD x)(h1:1<=m):k8 N x m=pV x m:=by unfold k8;rw[aHe hx h1];rfl
def mY(l:List Int)(i m:Int):Int:=if i<0\/(l.length:Int)<=i then 0 else pV (l[i.toNat]?.getD 0) m
theorem aA1{l:List Int}{i m:Int}(h1:1<=m):0<=mY l i m/\mY l i m<m:=by unfold mY;split;omega;exact aA5 h1
theorem aCN{N:Nat}{l:List Int}{i m:Int}(hl:∀x∈l,iD x)(h1:1<=m):Cc N l i m=some (mY l i m):=by
 unfold Cc w85 Ss mY;by_cases h:i<0\/(l.length:Int)<=i
 .rw[show(decide (i<0)||decide ((l.length:Int)<=i))=true by simpa using h,aX,aJ h];rfl
 .rw[show(decide (i<0)||decide ((l.length:Int)<=i))=false by simpa using h,aK,aD h]
  have hi:i.toNat<l.length:=by omega
  have hg:l[i.toNat]?=some l[i.toNat]:=dE hi;have hm:iD l[i.toNat]:=hl _ (bAS hi);rw[RH (by omega) hg,aI (EL hm h1),PL hm h1,hg];rfl
theorem aP4{N:Nat}{l:List Int}{i m:Int}(hl:∀x∈l,iD x)(h1:1<=m):Ku N l i m=true:=by unfold Ku;rw[aCN hl h1];rfl
theorem aP3{N:Nat}{l:List Int}{i m:Int}(hl:∀x∈l,iD x)(h1:1<=m):Kt N l i m=mY l i m:=by unfold Kt;rw[aCN hl h1];rfl
theorem Md{N:Nat}{l:List Int}{i m:Int}(hl:∀x∈l,iD x)(h1:1<=m)(h0:0<=i)(hi:i<2^60):wX N m l i=some (mY l i m,l,i+1):=by
 unfold wX w55 Uh;rw[wr (x:=i+1) (by omega) (by omega),wr (by omega) (by omega),show i+1-1=i by omega,aI (aP4 hl h1),aP3 hl h1];rfl
section
variable{N:Nat}{l:List Int}{i m:Int}(hl:∀x∈l,iD x)(h1:1<=m)(h0:0<=i)(hi:i<2^60)
include hl h1 h0 hi
theorem Ug:wY N m l i=true:=by unfold wY;rw[Md hl h1 h0 hi];rfl
theorem Uf:tS N m l i=mY l i m:=by unfold tS;rw[Md hl h1 h0 hi];rfl
theorem Ue:iN N m l i=l:=by unfold iN;rw[Md hl h1 h0 hi];rfl
theorem Ud:iM N m l i=i+1:=by unfold iM;rw[Md hl h1 h0 hi];rfl
end
section
variable{N:Nat}{rc:Int->List Int->Int->Option (Int×Int×List Ex×List Int×Int)}{d:Int}{l:List Int}{j a b:Int}{K0:List Int->Int->Int->Int->List Ex->O}{K1:Int->Int->List Int->Int->Int->Int->O}
def CA(N:Nat)(l:List Int)(j o m:Int)(t:List Int)(K0:List Int->Int->Int->Int->List Ex->O):O:=ck (wY N m l j) (gx t (tS N m l j) λy=>K0 (iN N m l j) (iM N m l j) o y [])
def Qi(rc:Int->List Int->Int->Option (Int×Int×List Ex×List Int×Int))(d:Int)(l:List Int)(j o:Int)(K0:List Int->Int->Int->Int->List Ex->O):O:=
 ck ((rc (aC.wrap (d-1)) l j).isSome) (K0 ((rc (aC.wrap (d-1)) l j).getD (0,0,[],[],0)).2.2.2.1 ((rc (aC.wrap (d-1)) l j).getD (0,0,[],[],0)).2.2.2.2 o 0 [Ex.mk ((rc (aC.wrap (d-1)) l j).getD (0,0,[],[],0)).1 ((rc (aC.wrap (d-1)) l j).getD (0,0,[],[],0)).2.1 ((rc (aC.wrap (d-1)) l j).getD (0,0,[],[],0)).2.2.1])
theorem t0:lY (N,rc) d 0 l j a b K0 K1=CA N l j 0 6 [0,1,2,10,47,999999] K0:=by kernel_rfl
theorem t1:lY (N,rc) d 1 l j a b K0 K1=CA N l j 0 6 [0,1,2,10,47,999999] K0:=by kernel_rfl
theorem t2:lY (N,rc) d 2 l j a b K0 K1=CA N l j 1 5 [0,1,2,23,25] K0:=by kernel_rfl
theorem t3:lY (N,rc) d 3 l j a b K0 K1=CA N l j 1 5 [0,1,2,23,25] K0:=by kernel_rfl
theorem t4:lY (N,rc) d 4 l j a b K0 K1=Qi rc d l j 2 K0:=by kernel_rfl
theorem t5:lY (N,rc) d 5 l j a b K0 K1=Qi rc d l j 8 K0:=by kernel_rfl
theorem t6:lY (N,rc) d 6 l j a b K0 K1=K1 d 6 l j a b:=by kernel_rfl
theorem t7:lY (N,rc) d 7 l j a b K0 K1=K1 d 7 l j a b:=by kernel_rfl
theorem t8:lY (N,rc) d 8 l j a b K0 K1=K1 d 8 l j a b:=by kernel_rfl
theorem t9:lY (N,rc) d 9 l j a b K0 K1=K1 d 9 l j a b:=by kernel_rfl
theorem t10:lY (N,rc) d 10 l j a b K0 K1=K1 d 10 l j a b:=by kernel_rfl
theorem t11:lY (N,rc) d 11 l j a b K0 K1=K1 d 11 l j a b:=by kernel_rfl
end
theorem Ex.eta:∀e:Ex,Ex.mk e.op e.num e.kids=e
 |.mk _ _ _=>rfl
theorem a7A{N:Nat}{l:List Int}{j o m:Int}{t:List Int}{K0:List Int->Int->Int->Int->List Ex->O}(hl:∀x∈l,iD x)(h0:0<=j)(hj:j<2^60)(hm:m=t.length)(h1:1<=m):∃y∈t,CA N l j o m t K0=K0 l (j+1) o y []:=by
 obtain⟨a1,a2⟩:=aA1 (l:=l) (i:=j) h1;have hi:(mY l j m).toNat<t.length:=by omega
 refine⟨t[(mY l j m).toNat],bAS hi,?_⟩;unfold CA;rw[aI (Ug hl h1 h0 hj),Uf hl h1 h0 hj,Ue hl h1 h0 hj,Ud hl h1 h0 hj,RH a1 (dE hi)]
def zQ(d:Nat)(l:List Int)(i:Int)(r:Option (Int×Int×List Ex×List Int×Int)):Prop:=
 ∃e i',r=some (e.op,e.num,e.kids,l,i')/\dN e false=true/\aT e+1<=2^d/\eU e<=d/\i<i'/\i'+2<=i+2*2^d
theorem M6{N:Nat}{l:List Int}(hl:∀x∈l,iD x)(hlen:l.length<2^60):∀(n d:Nat)(i:Int),1<=d->d<=n->d<=5->0<=i->i+2*2^d<2^50->zQ d l i (cT N n (d:Int) l i)
 |0,d,i,h,h',_,_,_=>by omega
 |n+1,d,i,hd,hn,h5,hi,hB=>by
   have h2d:(2:Int)^d<=32/\2<=(2:Int)^d:=by
    have:d=1\/d=2\/d=3\/d=4\/d=5:=by omega
    rcases this with rfl|rfl|rfl|rfl|rfl <;> omega
   have hi60:i<2^60:=by omega
   have hi1:i+1<2^60:=by omega
   show zQ d l i (Gz (N,cT N n) d l i);unfold Gz w56 U7;have h12:(1:Int)<=12:=by decide
   rw[aI (Ug hl h12 hi hi60),Uf hl h12 hi hi60,Ue hl h12 hi hi60,Ud hl h12 hi hi60];obtain⟨k0,k1⟩:=aA1 (l:=l) (i:=i) h12;generalize mY l i 12=k at k0 k1
   -- behind the choice
   have tail:∀k:Int,0<=k->k<12->(d=1->k<4)->zQ d l i ((lY (N,cT N n) (d:Int) k l (i+1) 0 0 (λz96 z97 z98 z99 z100=>some (nM ((Ex.mk z98 z99 z100).op) ((Ex.mk z98 z99 z100).num) ((Ex.mk z98 z99 z100).kids) z96 z97))
       (λz101 z102 z103 z104 _ _=>
        gx [3,4,5,6,7,4] (aC.wrap (z102-6)) λy107=>
        ck ((cT N n (aC.wrap (z101-1)) z103 z104).isSome)<|
        ck ((cT N n (aC.wrap (z101-1)) ((cT N n (aC.wrap (z101-1)) z103 z104).getD (0,0,[],[],0)).2.2.2.1 ((cT N n (aC.wrap (z101-1)) z103 z104).getD (0,0,[],[],0)).2.2.2.2).isSome)<|
        some (nM y107 0 [Ex.mk ((cT N n (aC.wrap (z101-1)) z103 z104).getD (0,0,[],[],0)).1 ((cT N n (aC.wrap (z101-1)) z103 z104).getD (0,0,[],[],0)).2.1 ((cT N n (aC.wrap (z101-1)) z103 z104).getD (0,0,[],[],0)).2.2.1,Ex.mk ((cT N n (aC.wrap (z101-1)) ((cT N n (aC.wrap (z101-1)) z103 z104).getD (0,0,[],[],0)).2.2.2.1 ((cT N n (aC.wrap (z101-1)) z103 z104).getD (0,0,[],[],0)).2.2.2.2).getD (0,0,[],[],0)).1 ((cT N n (aC.wrap (z101-1)) ((cT N n (aC.wrap (z101-1)) z103 z104).getD (0,0,[],[],0)).2.2.2.1 ((cT N n (aC.wrap (z101-1)) z103 z104).getD (0,0,[],[],0)).2.2.2.2).getD (0,0,[],[],0)).2.1 ((cT N n (aC.wrap (z101-1)) ((cT N n (aC.wrap (z101-1)) z103 z104).getD (0,0,[],[],0)).2.2.2.1 ((cT N n (aC.wrap (z101-1)) z103 z104).getD (0,0,[],[],0)).2.2.2.2).getD (0,0,[],[],0)).2.2.1]
         ((cT N n (aC.wrap (z101-1)) ((cT N n (aC.wrap (z101-1)) z103 z104).getD (0,0,[],[],0)).2.2.2.1 ((cT N n (aC.wrap (z101-1)) z103 z104).getD (0,0,[],[],0)).2.2.2.2).getD (0,0,[],[],0)).2.2.2.1
         ((cT N n (aC.wrap (z101-1)) ((cT N n (aC.wrap (z101-1)) z103 z104).getD (0,0,[],[],0)).2.2.2.1 ((cT N n (aC.wrap (z101-1)) z103 z104).getD (0,0,[],[],0)).2.2.2.2).getD (0,0,[],[],0)).2.2.2.2)):O).bind Aa):=by
    intro k k0 k1 kd;have leaf:∀(o m:Int)(t:List Int),(o=0\/o=1)->(∀y∈t,0<=y/\y<=jS o)->m=t.length->1<=m->zQ d l i ((CA N l (i+1) o m t (λz96 z97 z98 z99 z100=>some (nM ((Ex.mk z98 z99 z100).op) ((Ex.mk z98 z99 z100).num) ((Ex.mk z98 z99 z100).kids) z96 z97)):O).bind Aa):=by
     intro o m t ho ht hm h1;obtain⟨y,hy,e⟩:=a7A (N:=N) (o:=o) (K0:=λz96 z97 z98 z99 z100=>some (nM ((Ex.mk z98 z99 z100).op) ((Ex.mk z98 z99 z100).num) ((Ex.mk z98 z99 z100).kids) z96 z97)) hl (by omega) hi1 hm h1;obtain⟨y0,y1⟩:=ht y hy;refine⟨.mk o y [],i+1+1,by rw[e];rfl,?_,?_,?_,by omega,by omega⟩
     .rcases ho with rfl|rfl
      .simp only[dN,here,hZ,j9]
       simp[oC,y0,y1]
      .simp only[dN,here,hZ,j9]
       simp[oC,y0,y1]
     .have:2^1<=2^d:=Nat.pow_le_pow_right (by decide) hd
      simpa[aT,dH]using this
     .simpa[eU,iW]using hd
    have sub:∀j:Int,0<=j->j+2*2^(d-1)<2^50->2<=d->zQ (d-1) l j (cT N n (aC.wrap ((d:Int)-1)) l j):=λj hj hjB h2=>by
     rw[wr (by omega) (by omega),show(d:Int)-1=((d-1:Nat):Int)by omega];exact M6 hl hlen n (d-1) j (by omega) (by omega) (by omega) hj hjB
    have pw:2<=d->2^d=2*2^(d-1)/\(2:Int)^d=2*2^(d-1):=λh2=>by
     obtain⟨d',rfl⟩:∃d',d=d'+1:=⟨d-1,by omega⟩
     simp only[Nat.add_sub_cancel];exact⟨by rw[Nat.pow_succ];omega,by rw[Int.pow_succ];omega⟩
    have unary:∀o:Int,(o=2\/o=8)->2<=d->zQ d l i ((Qi (cT N n) (d:Int) l (i+1) o (λz96 z97 z98 z99 z100=>some (nM ((Ex.mk z98 z99 z100).op) ((Ex.mk z98 z99 z100).num) ((Ex.mk z98 z99 z100).kids) z96 z97)):O).bind Aa):=by
     intro o ho h2;obtain⟨p1,p2⟩:=pw h2;obtain⟨e,i',e1,e2,e3,e4,e5,e6⟩:=sub (i+1) (by omega) (by omega) h2;unfold Qi;simp only[e1,vS,vT,cP,Ex.eta];refine⟨.mk o 0 [e],i',rfl,?_,?_,?_,by omega,by omega⟩
     .rcases ho with rfl|rfl <;> simp only[dN,hZ,e2] <;> rfl
     .simp only[aT,dH];omega
     .simp only[eU,iW];omega
    have binary:∀o:Int,(o=3\/o=4\/o=5\/o=6\/o=7)->2<=d->∀f:Int->O,(∀y,f y=ck ((cT N n (aC.wrap ((d:Int)-1)) l (i+1)).isSome) (
        ck ((cT N n (aC.wrap ((d:Int)-1)) ((cT N n (aC.wrap ((d:Int)-1)) l (i+1)).getD (0,0,[],[],0)).2.2.2.1 ((cT N n (aC.wrap ((d:Int)-1)) l (i+1)).getD (0,0,[],[],0)).2.2.2.2).isSome) (
        some (nM y 0 [Ex.mk ((cT N n (aC.wrap ((d:Int)-1)) l (i+1)).getD (0,0,[],[],0)).1 ((cT N n (aC.wrap ((d:Int)-1)) l (i+1)).getD (0,0,[],[],0)).2.1 ((cT N n (aC.wrap ((d:Int)-1)) l (i+1)).getD (0,0,[],[],0)).2.2.1,Ex.mk ((cT N n (aC.wrap ((d:Int)-1)) ((cT N n (aC.wrap ((d:Int)-1)) l (i+1)).getD (0,0,[],[],0)).2.2.2.1 ((cT N n (aC.wrap ((d:Int)-1)) l (i+1)).getD (0,0,[],[],0)).2.2.2.2).getD (0,0,[],[],0)).1 ((cT N n (aC.wrap ((d:Int)-1)) ((cT N n (aC.wrap ((d:Int)-1)) l (i+1)).getD (0,0,[],[],0)).2.2.2.1 ((cT N n (aC.wrap ((d:Int)-1)) l (i+1)).getD (0,0,[],[],0)).2.2.2.2).getD (0,0,[],[],0)).2.1 ((cT N n (aC.wrap ((d:Int)-1)) ((cT N n (aC.wrap ((d:Int)-1)) l (i+1)).getD (0,0,[],[],0)).2.2.2.1 ((cT N n (aC.wrap ((d:Int)-1)) l (i+1)).getD (0,0,[],[],0)).2.2.2.2).getD (0,0,[],[],0)).2.2.1]
         ((cT N n (aC.wrap ((d:Int)-1)) ((cT N n (aC.wrap ((d:Int)-1)) l (i+1)).getD (0,0,[],[],0)).2.2.2.1 ((cT N n (aC.wrap ((d:Int)-1)) l (i+1)).getD (0,0,[],[],0)).2.2.2.2).getD (0,0,[],[],0)).2.2.2.1
         ((cT N n (aC.wrap ((d:Int)-1)) ((cT N n (aC.wrap ((d:Int)-1)) l (i+1)).getD (0,0,[],[],0)).2.2.2.1 ((cT N n (aC.wrap ((d:Int)-1)) l (i+1)).getD (0,0,[],[],0)).2.2.2.2).getD (0,0,[],[],0)).2.2.2.2))))->zQ d l i ((f o).bind Aa):=by
     intro o ho h2 f hf;obtain⟨p1,p2⟩:=pw h2;obtain⟨e,i',e1,e2,e3,e4,e5,e6⟩:=sub (i+1) (by omega) (by omega) h2;obtain⟨g,i2,g1,g2,g3,g4,g5,g6⟩:=sub i' (by omega) (by omega) h2;rw[hf];simp only[e1,g1,vS,vT,cP,Ex.eta];refine⟨.mk o 0 [e,g],i2,rfl,?_,?_,?_,by omega,by omega⟩
     .rcases ho with rfl|rfl|rfl|rfl|rfl <;> simp only[dN,hZ,e2,g2] <;> rfl
     .simp only[aT,dH];omega
     .simp only[eU,iW];omega
    have hk:k=0\/k=1\/k=2\/k=3\/k=4\/k=5\/k=6\/k=7\/k=8\/k=9\/k=10\/k=11:=by omega
    rcases hk with rfl|rfl|rfl|rfl|rfl|rfl|rfl|rfl|rfl|rfl|rfl|rfl
    .rw[t0];exact leaf 0 6 _ (.inl rfl) (by decide) rfl (by decide)
    .rw[t1];exact leaf 0 6 _ (.inl rfl) (by decide) rfl (by decide)
    .rw[t2];exact leaf 1 5 _ (.inr rfl) (by decide) rfl (by decide)
    .rw[t3];exact leaf 1 5 _ (.inr rfl) (by decide) rfl (by decide)
    .rw[t4];exact unary 2 (.inl rfl) (by omega)
    .rw[t5];exact unary 8 (.inr rfl) (by omega)
    .rw[t6];exact binary 3 (by omega) (by omega) _ λy=>rfl
    .rw[t7];exact binary 4 (by omega) (by omega) _ λy=>rfl
    .rw[t8];exact binary 5 (by omega) (by omega) _ λy=>rfl
    .rw[t9];exact binary 6 (by omega) (by omega) _ λy=>rfl
    .rw[t10];exact binary 7 (by omega) (by omega) _ λy=>rfl
    .rw[t11];exact binary 4 (by omega) (by omega) _ λy=>rfl
   unfold U0 HB U8;simp only[];by_cases hb:(d:Int)<=1\/(l.length:Int)<i+1
   .rw[show(decide ((d:Int)<=1)||decide ((l.length:Int)<i+1))=true by simpa using hb,aX,cP]
    obtain⟨m0,m1⟩:=aJs (m:=4) k0 (by decide);exact tail _ m0 (by omega) λ_=>m1
   .rw[show(decide ((d:Int)<=1)||decide ((l.length:Int)<i+1))=false by simpa using hb,aK]
    exact tail k k0 k1 λh=>by omega
end Go.Proofs
/- The formulas that are made of numbers: what they are. -/
namespace Go.Proofs
open Go Go.Ax Go.Ax.aA
theorem a6W{e:Ex}(h:dN e false=true):dN e true=true:=by
 cases e with|mk o a ks=>
 simp only[dN,here,bM]at h ⊢;obtain⟨⟨⟨⟨h1,h2⟩,h3⟩,h4⟩,h5⟩:=h;exact⟨⟨⟨⟨h1,rfl⟩,h3⟩,h4⟩,h5⟩
theorem Zk{N:Nat}{d:Nat}{l:List Int}{i:Int}(h:zQ d l i (cT N N (d:Int) l i)):∃e i',DT N d l i=true/\DS N d l i=e.op/\DQ N d l i=e.num/\DP N d l i=e.kids/\A9 N d l i=l/\A8 N d l i=i' /\
    dN e false=true/\aT e+1<=2^d/\eU e<=d/\i<i'/\i'+2<=i+2*2^d:=by
 obtain⟨e,i',h1,h2⟩:=h;refine⟨e,i',?_,?_,?_,?_,?_,?_,h2⟩
 .unfold DT;rw[h1];rfl
 .unfold DS;rw[h1];rfl
 .unfold DQ;rw[h1];rfl
 .unfold DP;rw[h1];rfl
 .unfold A9;rw[h1];rfl
 .unfold A8;rw[h1];rfl
def vB(depth:Int):Nat:=(max 1 (min 5 depth)).toNat
theorem a6b(depth:Int):1<=vB depth/\vB depth<=5/\max 1 (min 5 depth)=(vB depth:Int):=by unfold vB;omega
theorem aY1{N:Nat}(hN:5<=N){l:List Int}(hl:∀x∈l,iD x)(hlen:l.length<2^60)(depth:Int):∃e,xH N l depth=some (e.op,e.num,e.kids)/\dN e true=true/\aT e<=31/\eU e<=5 /\
    (1<mY l 0 6->dN e false=true/\aT e+1<=2^vB depth/\eU e<=vB depth):=by
 obtain⟨m1,m5,hm⟩:=a6b depth;generalize vB depth=d at m1 m5 hm;have h6:(1:Int)<=6:=by decide
 have pw:2^d<=32/\(2:Int)^d<=32:=by
  have:d=1\/d=2\/d=3\/d=4\/d=5:=by omega
  rcases this with rfl|rfl|rfl|rfl|rfl <;> decide
 unfold xH w33 Vq;simp only[hm];rw[aI (Ug hl h6 (by decide) (by decide)),Uf hl h6 (by decide) (by decide),Ue hl h6 (by decide) (by decide),Ud hl h6 (by decide) (by decide)];obtain⟨k0,k1⟩:=aA1 (l:=l) (i:=0) h6;generalize mY l 0 6=k at k0 k1;by_cases hb:1<k\/(d:Int)<2
 .rw[show(decide (1<k)||decide ((d:Int)<2))=true by simpa using hb,aX]
  obtain⟨e,i',p,y0,y1,y2,y3,y4,o1,o2,o3,o4,o5⟩:=Zk (N:=N) (M6 hl hlen N d (0+1) m1 (by omega) m5 (by decide) (by omega));simp only[p,y0,y1,y2,cP];exact⟨e,rfl,a6W o1,by omega,by omega,λ_=>⟨o1,o2,o3⟩⟩
 .rw[show(decide (1<k)||decide ((d:Int)<2))=false by simpa using hb,aK,wr (x:=(d:Int)-1) (by omega) (by omega),show(d:Int)-1=((d-1:Nat):Int)by omega]
  have pd:(2:Int)^(d-1)<=16/\2^(d-1)<=16:=by
   have:d-1=1\/d-1=2\/d-1=3\/d-1=4:=by omega
   rcases this with h|h|h|h <;> rw[h] <;> decide
  obtain⟨e,i',p,y0,y1,y2,y3,y4,o1,o2,o3,o4,o5⟩:=Zk (N:=N) (M6 hl hlen N (d-1) (0+1) (by omega) (by omega) (by omega) (by decide) (by omega));obtain⟨g,i2,q,z0,z1,z2,z3,z4,q1,q2,q3,q4,q5⟩:=Zk (N:=N) (M6 hl hlen N (d-1) i' (by omega) (by omega) (by omega) (by omega) (by omega));simp only[p,y0,y1,y2,y3,y4,q,z0,z1,z2,cP,Ex.eta];have hk:k=0\/k=1:=by omega
  refine⟨.mk (9+k) 0 [e,g],?_,?_,?_,?_,λh=>by omega⟩
  .rcases hk with rfl|rfl <;> rfl
  .rcases hk with rfl|rfl <;> simp only[dN,hZ,o1,q1] <;> rfl
  .simp only[aT,dH];omega
  .simp only[eU,iW];omega
theorem aY0{N:Nat}(hN:5<=N){l:List Int}(hl:∀x∈l,iD x)(hlen:l.length<2^60)(depth:Int):∃e,OZ N l depth=true/\Dx N l depth=e.op/\Dw N l depth=e.num/\Dv N l depth=e.kids/\dN e true=true/\aT e<=31/\eU e<=5 /\
    (1<mY l 0 6->dN e false=true/\aT e+1<=2^vB depth/\eU e<=vB depth):=by
 obtain⟨e,h1,h2⟩:=aY1 (N:=N) hN hl hlen depth;refine⟨e,?_,?_,?_,?_,h2⟩
 .unfold OZ;rw[h1];rfl
 .unfold Dx;rw[h1];rfl
 .unfold Dw;rw[h1];rfl
 .unfold Dv;rw[h1];rfl
end Go.Proofs
