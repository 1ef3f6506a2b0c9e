/- Cells of texts. Conditions are in the theorems. -/
import Derived.Test.YtlhdefefoaldfaaGreatDoorG6
import Derived.KernelRfl
import Derived.Lib.Bytealg
import Derived.Test.YtlhdefefoaldfaaGreatDoorL1
import Derived.Test.YtlhdefefoaldfaaGreatDoorG2
import Derived.Test.YtlhdefefoaldfaaGreatDoorG1
import Derived.Test.YtlhdefefoaldfaaGreatDoorE7
import Derived.Test.YtlhdefefoaldfaaGreatDoorL3
open Bool renaming and_eq_true->bM,and_false->EX,false_and->jG,false_or->uY,not_eq_true'->Xi,not_false->iL,not_true->mN,or_true->yI,true_and->gX
open Go.IntKind renaming i64->aB
open Int renaming toNat_natCast->uV
open List renaming all_eq_true->eC,append_assoc->iK,getElem?_append_right->eP,getElem?_eq_getElem->dF,length_cons->eB,length_nil->lG,mem_append->n7,mem_cons->fA,mem_cons_of_mem->fM,mem_cons_self->iA,mem_range->sE,mem_singleton->IL,nil_append->n6,not_mem_nil->IK,take_left->PG
open Nat renaming le_refl->cE
open UInt8 renaming ofNat->eW,ofNat_toNat->X2
/- The cells of a text, and the text of cells: plain. -/
namespace Go.Proofs
open Go Go.Ax Go.Ax.aA
theorem nI{p:UInt8->Bool}(h:(List.range 256).all (λn=>p (eW n))=true)(c:UInt8):p c=true:=by
 have:=eC.1 h c.toNat (sE.2 c.toNat_lt)
 rwa [X2]at this
abbrev cW:Tx:=[43,45,42,47,94,61,60,82,40,41]
abbrev pR:Tx:=[43,45,42,47,61,60]
abbrev dW:Tx:=[26,1,3,9,25,17,11,27,19,10]
abbrev eS:Tx:=[1,3,9,25,17,11,27,19,10,26,5,7,13,29,21,15,31,23,14,30,37,39,58,45,61,53]
abbrev eK:Tx:=[22,36,33,12,24,54,42,28,55,62]
def bN(l:Tx)(c:UInt8):Nat:=(Lib.indexByte l c).toNat
def jY(c:UInt8):Bool:=bE c||eA c||cW.contains c
def qD(last c:UInt8):Tx:=if bE c then(if bE last then[]else[60])++[dW.getD (c.toNat-48) 0]else if eA c then[48,eS.getD (c.toNat-97) 0]else[eK.getD (bN cW c) 0]
def dT:UInt8->Tx->Tx
 |_,[]=>[]
 |last,c::s=>qD last c++dT c s
def nS(last c:UInt8):Bool:=pR.contains c&&(bE last||eA last||decide (last=41))
def qE:UInt8->Nat->Tx->List Int
 |_,_,[]=>[]
 |last,n,c::s=>(if nS last c then[((n+(qD last c).length:Nat):Int)]else[])++qE c (n+(qD last c).length) s
def fK:Bool->Tx->Option Tx
 |_,[]=>some []
 |num,c::l=>
   if num&&decide (0<=Lib.indexByte dW c)then(fK num l).map (eW (48+bN dW c) :: ·)
   else if c=60 then fK true l
   else if c=48 then(match l with
    |[]=>none
    |d::l'=>if Lib.indexByte eS d<0 then none else(fK false l').map (eW (97+bN eS d) :: ·))
   else if Lib.indexByte eK c<0 then none else(fK false l).map (cW.getD (bN eK c) 0 :: ·)
def Hw(c:UInt8):Bool:=
 if bE c then decide (c.toNat-48<10)&&decide (dW.getD (c.toNat-48) 0≠63)&&decide (dW.getD (c.toNat-48) 0<64)&&decide (0<=Lib.indexByte dW (dW.getD (c.toNat-48) 0))&&decide (eW (48+bN dW (dW.getD (c.toNat-48) 0))=c)
 else if eA c then decide (c.toNat-97<26)&&decide (eS.getD (c.toNat-97) 0≠63)&&decide (eS.getD (c.toNat-97) 0<64)&&decide (0<=Lib.indexByte eS (eS.getD (c.toNat-97) 0))&&decide (eW (97+bN eS (eS.getD (c.toNat-97) 0))=c)
 else if cW.contains c then decide (bN cW c<10)&&decide (0<=Lib.indexByte cW c)&&decide (eK.getD (bN cW c) 0≠63)&&decide (eK.getD (bN cW c) 0<64)&&decide (Lib.indexByte dW (eK.getD (bN cW c) 0)<0)&&decide (eK.getD (bN cW c) 0≠60)&&decide (eK.getD (bN cW c) 0≠48)&&decide (0<=Lib.indexByte eK (eK.getD (bN cW c) 0))&&decide (cW.getD (bN eK (eK.getD (bN cW c) 0)) 0=c)
 else true
theorem Wy(c:UInt8):Hw c=true:=nI (p:=Hw) (by kernel_rfl) c
theorem OA{c:UInt8}(h:jY c=true)(h1:bE c=false)(h2:eA c=false):cW.contains c=true:=by
 unfold jY at h;rw[h1,h2]at h;simpa using h
theorem a0b{c:UInt8}(h:jY c=true):c.toNat<128:=by
 have:=nI (p:=λc=>!jY c||decide (c.toNat<128)) (by kernel_rfl) c;rw[h]at this;simpa using this
theorem Oi{c:UInt8}(h1:bE c=true):c.toNat-48<10/\dW.getD (c.toNat-48) 0≠63/\dW.getD (c.toNat-48) 0<64/\0<=Lib.indexByte dW (dW.getD (c.toNat-48) 0)/\eW (48+bN dW (dW.getD (c.toNat-48) 0))=c:=by
 have:=Wy c;unfold Hw at this;rw[aN h1]at this;simp only[bM,fU]at this;exact⟨this.1.1.1.1,this.1.1.1.2,this.1.1.2,this.1.2,this.2⟩
theorem Oh{c:UInt8}(h1:bE c=false)(h2:eA c=true):c.toNat-97<26/\eS.getD (c.toNat-97) 0≠63/\eS.getD (c.toNat-97) 0<64/\0<=Lib.indexByte eS (eS.getD (c.toNat-97) 0)/\eW (97+bN eS (eS.getD (c.toNat-97) 0))=c:=by
 have:=Wy c;unfold Hw at this;rw[aF (by rw[h1];decide),aN h2]at this;simp only[bM,fU]at this;exact⟨this.1.1.1.1,this.1.1.1.2,this.1.1.2,this.1.2,this.2⟩
theorem Ww{c:UInt8}(h1:bE c=false)(h2:eA c=false)(h3:cW.contains c=true):bN cW c<10/\0<=Lib.indexByte cW c/\eK.getD (bN cW c) 0≠63/\eK.getD (bN cW c) 0<64/\Lib.indexByte dW (eK.getD (bN cW c) 0)<0/\eK.getD (bN cW c) 0≠60/\eK.getD (bN cW c) 0≠48/\0<=Lib.indexByte eK (eK.getD (bN cW c) 0)/\cW.getD (bN eK (eK.getD (bN cW c) 0)) 0=c:=by
 have:=Wy c;unfold Hw at this;rw[aF (by rw[h1];decide),aF (by rw[h2];decide),aN h3]at this;simp only[bM,fU]at this;obtain⟨⟨⟨⟨⟨⟨⟨⟨a1,a2⟩,a3⟩,a4⟩,a5⟩,a6⟩,a7⟩,a8⟩,a9⟩:=this;exact⟨a1,a2,a3,a4,a5,a6,a7,a8,a9⟩
theorem Wo:∀(s:Tx)(last:UInt8),(∀c∈s,jY c=true)->fK (bE last) (dT last s)=some s
 |[],last,_=>by cases h:bE last <;> rfl
 |c::s,last,h=>by
   have hc:=h c (iA ..);have ih:=Wo s c (λd hd=>h d (fM _ hd));unfold dT qD;by_cases h1:bE c=true
   .obtain⟨_,_,_,a4,a5⟩:=Oi h1
    rw[h1]at ih;have key:fK true (dW.getD (c.toNat-48) 0::dT c s)=some (c::s):=by
     unfold fK;rw[aU a4,gX,aN rfl,ih,a5];rfl
    rw[aN h1];cases h2:bE last with
    |true=>exact key
    |false=>
      show fK false (60::dW.getD (c.toNat-48) 0::dT c s)=_;unfold fK;rw[jG,aF (by decide),aN rfl];exact key
   .have h1:bE c=false:=by simpa using h1
    rw[h1]at ih;rw[aF (by rw[h1];decide)];by_cases h2:eA c=true
    .obtain⟨_,_,_,a4,a5⟩:=Oh h1 h2
     rw[aN h2];show fK (bE last) (48::eS.getD (c.toNat-97) 0::dT c s)=_;unfold fK;rw[show decide (0<=Lib.indexByte dW 48)=false from rfl,EX,aF (by decide),aF (by decide),aN rfl];simp only[];rw[aF (by omega),ih,a5];rfl
    .have h2:eA c=false:=by simpa using h2
     obtain⟨_,_,_,_,a5,a6,a7,a8,a9⟩:=Ww h1 h2 (OA hc h1 h2);rw[aF (by rw[h2];decide)];show fK (bE last) (eK.getD (bN cW c) 0::dT c s)=_;unfold fK;rw[aX (by omega),EX,aF (by decide),aF a6,aF a7,aF (by omega),ih,a9];rfl
theorem aIT:∀(s:Tx)(last:UInt8),(∀c∈s,jY c=true)->∀x∈dT last s,x≠63/\x<64
 |[],_,_=>λx hx=>by cases hx
 |c::s,last,h=>λx hx=>by
   have hc:=h c (iA ..);unfold dT at hx;rcases n7.1 hx with hx|hx
   .unfold qD at hx
    split at hx
    .rename_i h1
     obtain⟨_,a2,a3,_⟩:=Oi h1;rcases n7.1 hx with hx|hx
     .split at hx
      .cases hx
      .rw[IL]at hx;subst hx;exact⟨by decide,by decide⟩
     .rw[IL]at hx;subst hx;exact⟨a2,a3⟩
    .rename_i h1
     have h1:bE c=false:=by simpa using h1
     split at hx
     .rename_i h2
      obtain⟨_,a2,a3,_⟩:=Oh h1 h2;simp only[fA,IK,or_false]at hx;rcases hx with rfl|rfl
      .exact⟨by decide,by decide⟩
      .exact⟨a2,a3⟩
     .rename_i h2
      have h2:eA c=false:=by simpa using h2
      obtain⟨_,_,a3,a4,_⟩:=Ww h1 h2 (OA hc h1 h2);rw[IL]at hx;subst hx;exact⟨a3,a4⟩
   .exact aIT s c (λd hd=>h d (fM _ hd)) x hx
theorem a33(last c:UInt8):1<=(qD last c).length/\(qD last c).length<=2:=by
 unfold qD;split
 .split <;> simp
 .split <;> simp
theorem EI:∀(s:Tx)(last:UInt8),s.length<=(dT last s).length/\(dT last s).length<=2*s.length
 |[],_=>⟨cE _,cE _⟩
 |c::s,last=>by
   have:=EI s c;have h:=a33 last c;unfold dT;simp only[List.length_append,eB];omega
theorem mH{k:Nat}{e:Ex}(h:∀c∈fV e,jY c=true):∀c∈cJ k e,jY c=true:=λc hc=>by
 by_cases hk:bV e.op<k
 .rw[o9 hk]at hc
  simp only[fA,n7,IK,or_false]at hc;rcases hc with rfl|hc|rfl
  .decide
  .exact h c hc
  .decide
 .rw[iJ (by omega)]at hc;exact h c hc
theorem a3E(u:Nat):∀c∈Lib.decDigits u,jY c=true:=λc hc=>by
 unfold jY;rw[Wn u c hc];rfl
theorem N6:∀(n:Nat)(e:Ex)(root:Bool),aR e<=n->dE e root=true->∀c∈fV e,jY c=true
 |0,e,_,h,_=>by have:=size_pos e;omega
 |n+1,.mk o a ks,root,h,ok=>by
   rcases xA ok with⟨rfl,rfl,h0,h1⟩|⟨rfl,rfl,h0,h1⟩|⟨ho,k,rfl,hk⟩|⟨ho,k,k',rfl,hk,hk'⟩
   .rw[D6];exact a3E _
   .rw[D4]
    intro c hc;rw[IL]at hc;subst hc;have key:∀m:Nat,m<26->jY (eW (97+m))=true:=λm hm=>by
     have:=eC.1 (by kernel_rfl:(List.range 26).all (λm=>jY (eW (97+m)))=true) m (sE.2 hm);exact this
    exact key _ (by omega)
   .have hs:aR k<=n:=by simp only[aR,c9]at h;omega
    have ih:=N6 n k false hs hk;rcases ho with rfl|rfl
    .rw[HE]
     intro c hc;rcases fA.1 hc with rfl|hc
     .decide
     .exact mH ih c hc
    .rw[HC]
     intro c hc;simp only[fA,n7,IK,or_false]at hc;rcases hc with rfl|rfl|hc|rfl
     .decide
     .decide
     .exact mH ih c hc
     .decide
   .have hs:aR k<=n/\aR k'<=n:=by simp only[aR,c9]at h;omega
    have i1:=N6 n k false hs.1 hk;have i2:=N6 n k' false hs.2 hk';by_cases h7:o=7
    .subst h7
     rw[HD];intro c hc;simp only[fA,n7]at hc;rcases hc with hc|rfl|hc
     .exact mH i1 c hc
     .decide
     .exact mH i2 c hc
    .have h6:o=3\/o=4\/o=5\/o=6\/o=9\/o=10:=by omega
     rw[D5 h6];intro c hc;simp only[fA,n7]at hc;rcases hc with hc|rfl|hc
     .exact mH i1 c hc
     .rcases h6 with rfl|rfl|rfl|rfl|rfl|rfl <;> decide
     .exact mH i2 c hc
theorem HG(e:Ex):∀c∈cY e,jY c=true:=by
 unfold cY;split
 .rename_i h;exact N6 _ e true (cE _) (D2 h)
 .intro c hc;cases hc
theorem N8{e:Ex}:(cY e).length<=2048:=by
 unfold cY;split
 .rename_i h
  have h1:=nJ _ e true (cE _) (D2 h);have h2:aR e<=256:=by
   unfold dJ at h;split at h
   .cases h
   .rename_i h2;omega
  omega
 .simp
end Go.Proofs
/- The loops of code and text. -/
namespace Go.Proofs
open Go Go.Ax Go.Ax.aA
theorem getD_at{l:Tx}{i:Nat}(h:i<l.length):l[i]?=some (l.getD i 0):=by
 rw[dF h,List.getD_eq_getElem?_getD,dF h];rfl
theorem a2z(c:UInt8):(decide ((48:Int)<=(c.toNat:Int))&&decide ((c.toNat:Int)<=57))=bE c:=by
 have:=nI (p:=λc=>(decide ((48:Int)<=(c.toNat:Int))&&decide ((c.toNat:Int)<=57)) == bE c) (by kernel_rfl) c;simpa using this
theorem a1L(c:UInt8):(decide ((97:Int)<=(c.toNat:Int))&&decide ((c.toNat:Int)<=122))=eA c:=by
 have:=nI (p:=λc=>(decide ((97:Int)<=(c.toNat:Int))&&decide ((c.toNat:Int)<=122)) == eA c) (by kernel_rfl) c;simpa using this
theorem aBQ{N:Nat}{c:UInt8}:F9 N (c.toNat:Int)=some (bE c):=by rw[<-a2z];rfl
theorem RI{N:Nat}{c:UInt8}:CS N (c.toNat:Int)=true:=by unfold CS;rw[aBQ];rfl
theorem RH{N:Nat}{c:UInt8}:zS N (c.toNat:Int)=bE c:=by unfold zS;rw[aBQ];rfl
theorem aBJ{N:Nat}{c:UInt8}:F5 N (c.toNat:Int)=some (eA c):=by rw[<-a1L];rfl
theorem aBL{N:Nat}{c:UInt8}:F7 N (c.toNat:Int)=true:=by unfold F7;rw[aBJ];rfl
theorem aBK{N:Nat}{c:UInt8}:F6 N (c.toNat:Int)=eA c:=by unfold F6;rw[aBJ];rfl
theorem aIZ(c:UInt8):(Int.toNat (c.toNat:Int)).toUInt8=c:=by rw[uV];exact X2
theorem Dw{l:Tx}{c:UInt8}(h:0<=Lib.indexByte l c):Lib.indexByte l c=(bN l c:Int):=by unfold bN;omega
theorem aPR{N:Nat}{s:Tx}{c:UInt8}(h:c.toNat<128):K7 N s (c.toNat:Int)=true:=aU (by omega)
theorem aPQ{N:Nat}{s:Tx}{c:UInt8}:K6 N s (c.toNat:Int)=Lib.indexByte s c:=by unfold K6;rw[aIZ]
theorem aPN{N:Nat}{s:Tx}{c:UInt8}(h:c.toNat<128):K5 N s (c.toNat:Int)=true:=aU (by omega)
theorem aPM{N:Nat}{c:UInt8}:CR N pR (c.toNat:Int)=pR.contains c:=by
 unfold CR;rw[aIZ];have:=nI (p:=λc=>decide (0<=Lib.indexByte pR c) == pR.contains c) (by kernel_rfl) c;simpa using this
theorem a1a(c:UInt8):decide ((c.toNat:Int)=41)=decide (c=41):=by
 have:=nI (p:=λc=>decide ((c.toNat:Int)=41) == decide (c=41)) (by kernel_rfl) c;simpa using this
theorem Xr{c:UInt8}(h:bE c=true):IntKind.i32.wrap ((c.toNat:Int)-48)=((c.toNat-48:Nat):Int):=by
 have h1:=c.toNat_lt;unfold bE at h;simp only[bM,fU]at h;have h2:48<=c.toNat:=h.1;rw[IntWalk.i32_in _ (by omega)];omega
theorem wrl{c:UInt8}(h:eA c=true):IntKind.i32.wrap ((c.toNat:Int)-97)=((c.toNat-97:Nat):Int):=by
 have h1:=c.toNat_lt;unfold eA at h;simp only[bM,fU]at h;have h2:97<=c.toNat:=h.1;rw[IntWalk.i32_in _ (by omega)];omega
theorem jB{n b:Nat}(h:n<=2^42)(hb:b<=8):cZ n b=true:=by
 unfold cZ;refine aU ⟨?_,by omega⟩;have:=Nat.mul_le_mul h hb;omega
theorem aD2{N:Nat}{s:Tx}{K:Tx×List Int->O}{k1 k2:Unit->O}:∀(r pre:Tx)(a:UInt8)(out:Tx)(brk:List Int)(m:Nat),s=pre++r->(∀c∈r,jY c=true)->out.length+2*r.length<=2^40->brk.length+r.length<=2^40->r.length<m->
    AS N m ((a.toNat:Int),s,out,brk,s,(pre.length:Int)) K k1 k2=K (out++dT a r,brk++qE a out.length r)
 |_,_,_,_,_,0,_,_,_,_,h=>by omega
 |[],pre,a,out,brk,m+1,hs,_,_,_,_=>by
   show Ct _ _ _ _ _ _ _ _ _=_;unfold Ct;simp only[];have h0:s.length=pre.length:=by rw[hs];simp
   rw[aX (by omega),aM,aM];simp[dT,qE]
 |c::r,pre,a,out,brk,m+1,hs,hok,ho,hb,hm=>by
   have hc:=hok c (iA ..);have hlt:pre.length<s.length:=by rw[hs];simp
   have hg:s[pre.length]?=some c:=by rw[hs,eP (cE _)];simp
   have h128:=a0b hc;have ih:=λ(o':Tx)(b':List Int)(h1:o'.length+2*r.length<=2^40)(h2:b'.length+r.length<=2^40)=>
    aD2 (N:=N) (s:=s) (K:=K) (k1:=k1) (k2:=k2) r (pre++[c]) c o' b' m (by rw[hs];simp) (λd hd=>hok d (fM _ hd)) h1 h2 (by simp at hm;omega)
   have hpl:((pre++[c]).length:Int)=(pre.length:Int)+1:=by simp
   rw[hpl]at ih;simp only[eB]at ho hb;show Ct _ _ _ _ _ _ _ _ _=_;unfold Ct;simp only[];rw[aU (by omega),bA,eN hg,aG (aU h128),bA,aG RI,RH];unfold dT qE qD;by_cases h1:bE c=true
   .have hcut:nS a c=false:=by
     have:=nI (p:=λc=>!bE c||!pR.contains c) (by kernel_rfl) c;rw[h1]at this;unfold nS;simp only[mN,uY,Xi]at this;rw[this];rfl
    have hx:=getD_at (l:=dW) (i:=c.toNat-48) (Oi h1).1;rw[h1,bA,aG RI,RH,aN rfl,hcut];cases h2:bE a with
    |true=>
      rw[mN,aM,Xr h1,eN hx,aG (jB (by simp;omega) (by omega))];refine(ih _ _ (by simp;omega) (by omega)).trans ?_;simp
    |false=>
      rw[iL,bA,aG (jB (by simp;omega) (by omega)),Xr h1,eN hx,aG (jB (by simp;omega) (by omega))];refine(ih _ _ (by simp;omega) (by omega)).trans ?_;simp
   .have h1:bE c=false:=by simpa using h1
    rw[h1,aM,aG aBL,aBK,aF (by decide)];by_cases h2:eA c=true
    .have hcut:nS a c=false:=by
      have:=nI (p:=λc=>!eA c||!pR.contains c) (by kernel_rfl) c;rw[h2]at this;unfold nS;simp only[mN,uY,Xi]at this;rw[this];rfl
     have hx:=getD_at (l:=eS) (i:=c.toNat-97) (Oh h1 h2).1;rw[h2,bA,wrl h2,eN hx,aG (jB (by simp;omega) (by omega)),aN rfl,hcut];refine(ih _ _ (by simp;omega) (by omega)).trans ?_;simp
    .have h2:eA c=false:=by simpa using h2
     have hsg:=Ww h1 h2 (OA hc h1 h2);have hx:=getD_at (l:=eK) (i:=bN cW c) hsg.1;rw[h2,aM,aG (aPR h128),aPQ,Dw hsg.2.1,eN hx,aG (jB (by simp;omega) (by omega)),aG (aPN h128),aPM,RI,yI,dH,aBL,yI,dH,RH,aBK,a1a,aF (by decide)];have hcutd:(pR.contains c&&(bE a||eA a||decide (a=41)))=nS a c:=rfl;rw[hcutd];cases nS a c with
     |true=>
       rw[bA,aG (jB (by simp;omega) (by omega))];refine(ih _ _ (by simp;omega) (by simp;omega)).trans ?_;simp
     |false=>
       rw[aM];refine(ih _ _ (by simp;omega) (by omega)).trans ?_;simp
theorem aTx{N:Nat}{s:Tx}(hok:∀c∈s,jY c=true)(h:s.length<N)(hB:s.length<=2^36):wA N s=some (dT 40 s++[63],qE 40 0 s):=by
 unfold wA w34 Sr Sm;refine(bG (λz:O=>z.bind MR) (aD2 (N:=N) (s:=s) s [] 40 [] [] N rfl hok (by simp;omega) (by simp;omega) h)).trans ?_;have:=(EI s 40).2;simp only[n6,lG];rw[aG (jB (by simp;omega) (by omega))];rfl
end Go.Proofs
/- Text of cells, Encode, Decode. -/
namespace Go.Proofs
open Go Go.Ax Go.Ax.aA
theorem aH7{c:UInt8}{r:Tx}:∀{l:Tx},(∀x∈l,x≠c)->Lib.indexByte (l++c::r) c=(l.length:Int)
 |[],_=>by simp[Lib.indexByte]
 |x::l,h=>by
   rw[List.cons_append];unfold Lib.indexByte;rw[aF (by simpa using h x (iA ..)),aH7 (l:=l) (λy hy=>h y (fM _ hy)),aF (by simp)];simp
theorem oZ{c:UInt8}:∀{l:Tx},Lib.indexByte l c<(l.length:Int) /\ -1<=Lib.indexByte l c
 |[]=>by simp[Lib.indexByte]
 |x::l=>by
   have:=oZ (c:=c) (l:=l);unfold Lib.indexByte;simp only[eB];split
   .omega
   .split
    .omega
    .rename_i h2
     have:Lib.indexByte l c≠-1:=by simpa using h2
     omega
theorem Cn{N:Nat}{l:Tx}{c:UInt8}:Cl N l c=true:=rfl
theorem Cm{N:Nat}{l:Tx}{c:UInt8}:lA N l c=Lib.indexByte l c:=rfl
theorem Zw{N:Nat}{l:Tx}{c:UInt8}(h:l.length<=2^40):CF N c l=some (l++[c]):=by
 unfold CF Zx Q1;rw[dH,aG (jB (by simp;omega) (by omega))];rfl
theorem Q0{N:Nat}{l:Tx}{c:UInt8}(h:l.length<=2^40):CH N c l=true:=by unfold CH;rw[Zw h];rfl
theorem QZ{N:Nat}{l:Tx}{c:UInt8}(h:l.length<=2^40):CG N c l=l++[c]:=by unfold CG;rw[Zw h];rfl
theorem Zr{N:Nat}{l:Tx}:CE N l=some l:=by
 unfold CE Zs QW;rw[aG (aU rfl)];rfl
theorem aND{N:Nat}{l:Tx}:Jd N l=true:=by unfold Jd;rw[Zr];rfl
theorem aNC{N:Nat}{l:Tx}:Jb N l=l:=by unfold Jb;rw[Zr];rfl
theorem Wv{b:Nat}{l:Tx}{c:UInt8}(hb:b<=100)(hl:l.length<=100)(h:0<=Lib.indexByte l c):dV (aB.wrap ((b:Int)+Lib.indexByte l c))=eW (b+bN l c):=by
 have h1:=oZ (c:=c) (l:=l);rw[Dw h]at h1 ⊢;rw[wr (by omega) (by omega)];unfold dV
 congr 1
 omega
theorem S3{N:Nat}{l:Tx}(hl:l.length<=2^36){K:Tx×Bool->O}{k1:Tx->O}{k2:Unit->O}:∀(n:Nat)(r pre:Tx)(num:Bool)(out:Tx)(m:Nat),r.length<=n->l=pre++r->out.length+r.length<=2^36->n<m->
    AM N m (l,num,(pre.length:Int),out) K k1 k2=(match fK num r with|some t=>k1 (out++t)|none=>K ([],false))
 |_,_,_,_,_,0,_,_,_,h=>by omega
 |_,[],pre,num,out,m+1,_,hs,_,_=>by
   show Ck _ _ _ _ _ _ _ _=_;unfold Ck;simp only[];have h0:l.length=pre.length:=by rw[hs];simp
   rw[aX (by omega),aM];simp[fK]
 |0,c::r,_,_,_,_,h,_,_,_=>by simp at h
 |n+1,c::r,pre,num,out,m+1,hn,hs,ho,hm=>by
   have hlt:pre.length<l.length:=by rw[hs];simp
   have hg:l[pre.length]?=some c:=by rw[hs,eP (cE _)];simp
   simp only[eB]at hn ho;have ih:=λ(num':Bool)(out':Tx)(h1:out'.length+r.length<=2^36)=>
    S3 (N:=N) (l:=l) hl (K:=K) (k1:=k1) (k2:=k2) n r (pre++[c]) num' out' m (by omega) (by rw[hs];simp) h1 (by omega)
   have hpl:((pre++[c]).length:Int)=(pre.length:Int)+1:=by simp
   rw[hpl]at ih;show Ck _ _ _ _ _ _ _ _=_;unfold Ck;simp only[];rw[aU (by omega),bA,eN hg,aG Cn,wr (x:=(pre.length:Int)+1) (by omega) (by omega)];unfold fK;by_cases h1:(num&&decide (0<=Lib.indexByte dW c))=true
   .have h2:0<=Lib.indexByte dW c:=by
     rw[bM]at h1;exact cR h1.2
    have e1:=Wv (b:=48) (l:=dW) (c:=c) (by omega) (by decide) h2;rw[aN h1];rw[Cm,h1,bA];rw[show dV (aB.wrap ((48:Int)+Lib.indexByte dW c))=eW (48+bN dW c)from e1];rw[aG (Q0 (by omega)),QZ (by omega)];refine(ih _ _ (by simp;omega)).trans ?_;cases fK num r with
    |none=>rfl
    |some t=>simp
   .have h1:(num&&decide (0<=Lib.indexByte dW c))=false:=by simpa using h1
    rw[Cm,h1,aM,aF (by decide)];by_cases h3:c=60
    .subst h3
     rw[aU rfl,bA,aN rfl];exact ih true out (by omega)
    .rw[aX h3,aM,aF h3]
     by_cases h4:c=48
     .subst h4
      rw[aU rfl,bA,aN rfl];cases r with
      |nil=>
        have:(l.length:Int)=(pre.length:Int)+1:=by rw[hs];simp
        rw[aU (by omega),bA]
      |cons d r'=>
        have hg2:l[pre.length+1]?=some d:=by
         rw[hs,eP (by omega),show pre.length+1-pre.length=1 by omega];rfl
        have hl2:pre.length+2<=l.length:=by rw[hs];simp
        simp only[eB]at hn ho;rw[aX (by omega),aM,show(pre.length:Int)+1=((pre.length+1:Nat):Int)by omega,eN hg2,aG Cn,Cm];simp only[];by_cases h5:Lib.indexByte eS d<0
        .rw[aU h5,bA,aN h5]
        .have e1:=Wv (b:=97) (l:=eS) (c:=d) (by omega) (by decide) (by omega)
         rw[aX h5,aM,aF h5];rw[show dV (aB.wrap ((97:Int)+Lib.indexByte eS d))=eW (97+bN eS d)from e1];rw[aG (Q0 (by omega)),QZ (by omega),wr (x:=((pre.length+1:Nat):Int)+1) (by omega) (by omega)];have hp2:((pre++[(48:UInt8),d]).length:Int)=((pre.length+1:Nat):Int)+1:=by simp;omega
         rw[<-hp2];refine(S3 (N:=N) (l:=l) hl (K:=K) (k1:=k1) (k2:=k2) n r' (pre++[48,d]) false (out++[eW (97+bN eS d)]) m (by omega) (by rw[hs];simp) (by simp;omega) (by omega)).trans ?_;cases fK false r' with
         |none=>rfl
         |some t=>simp
     .rw[aX h4,aM,aF h4,aG Cn,Cm]
      by_cases h5:Lib.indexByte eK c<0
      .rw[aU h5,bA,aN h5]
      .have h6:=oZ (c:=c) (l:=eK)
       have hx:bN eK c<10:=by unfold bN;have:(eK.length:Int)=10:=rfl;omega
       rw[aX h5,aM,aF h5];rw[Dw (l:=eK) (Int.not_lt.1 h5),eN (getD_at (l:=cW) hx),aG (Q0 (by omega)),QZ (by omega)];refine(ih _ _ (by simp;omega)).trans ?_;cases fK false r with
       |none=>rfl
       |some t=>simp
theorem S2{N:Nat}{l:Tx}(h:l.length<N)(hB:l.length<=2^36):AL N l=some (match fK false l with|some t=>(t,true)|none=>([],false)):=by
 unfold AL w41 S4 SZ;refine(bG (λz:O=>z.bind Lp) (S3 (N:=N) (l:=l) hB l.length l [] false [] N (cE _) rfl (by simp;omega) h)).trans ?_;cases fK false l with
 |none=>rfl
 |some t=>
   simp only[n6];rw[aG aND,aNC];rfl
section
variable{N:Nat}{l:Tx}(h:l.length<N)(hB:l.length<=2^36)
include h hB
theorem aCv:Lr N l=true:=by unfold Lr;rw[S2 h hB];rfl
theorem aCt:Fs N l=(fK false l).isSome:=by unfold Fs;rw[S2 h hB];cases fK false l <;> rfl
theorem aCu:q9 N l=(fK false l).getD []:=by unfold q9;rw[S2 h hB];cases fK false l <;> rfl
end
def cO(e:Ex):Tx:=if dJ e=0 then dT 40 (fV e)++[63]else[]
theorem N7{e:Ex}(h:dJ e=0):cY e=fV e:=by unfold cY;rw[aN h]
theorem aTy{N:Nat}{e:Ex}(hN:70000<=N):wA N (cY e)=some (dT 40 (cY e)++[63],qE 40 0 (cY e)):=by
 have:=N8 (e:=e);exact aTx (HG e) (by omega) (by omega)
section
variable{N:Nat}{e:Ex}(hN:70000<=N)(hs:aR e<=8500)
include hN hs
theorem UR:DX N e.op e.num e.kids=some (cO e,dJ e):=by
 have h1:=Sx (N:=N) (e:=e) (by omega) (by omega);have h2:=Sw (N:=N) (e:=e) (by omega) (by omega);have h3:=aTl (N:=N) (e:=e) (by omega) (by omega);have h4:=aTk (N:=N) (e:=e) (by omega) (by omega);have h5:=aTy (e:=e) hN;have h6:GI N (cY e)=true:=by unfold GI;rw[h5];rfl
 have h7:MQ N (cY e)=dT 40 (cY e)++[63]:=by unfold MQ;rw[h5];rfl
 unfold DX w10 US cO;simp only[Ex.eta];rw[aG h1,h2];by_cases hv:dJ e=0
 .rw[aX (by simpa using hv),aM,aG h3,h4,aG h6,h7,aN hv,hv,N7 hv];rfl
 .rw[aU hv,bA,aF hv];rfl
theorem aFT:DY N e.op e.num e.kids=true:=by unfold DY;rw[UR hN hs];rfl
theorem aFS:wG N e.op e.num e.kids=cO e:=by unfold wG;rw[UR hN hs];rfl
theorem aFR:Ak N e.op e.num e.kids=dJ e:=by unfold Ak;rw[UR hN hs];rfl
end
theorem aCf{N:Nat}{a b:Tx}:SX N a b=true:=rfl
theorem aCe{N:Nat}{a b:Tx}:SV N a b=decide (a=b):=rfl
theorem Wh{e:Ex}(h:dJ e=0):cO e=dT 40 (cY e)++[63]:=by unfold cO;rw[aN h,N7 h]
theorem VF{e:Ex}(h:dJ e=0):aR e<=256:=by
 unfold dJ at h;split at h
 .cases h
 .rename_i h2;omega
theorem aIE{e:Ex}:(cO e).length<=4097:=by
 unfold cO;split
 .rename_i h
  have h1:=(EI (fV e) 40).2;have h2:=N8 (e:=e);rw[N7 h]at h2;simp;omega
 .simp
theorem TV{N:Nat}(hN:70000<=N){e:Ex}(hv:dJ e=0)(more:Tx)(hm:more.length<=2^30):nD N (cO e++more)=some (e.op,e.num,e.kids,((cO e).length:Int),0):=by
 have hsz:=VF hv;have hcl:=(EI (cY e) 40).2;have htl:=N8 (e:=e);have he:=Wh hv;have hix:Lib.indexByte (cO e++more) 63=((dT 40 (cY e)).length:Int):=by
  rw[he,iK];exact aH7 (r:=more) (λx hx=>(aIT _ _ (HG e) x hx).1)
 have hlen:(cO e++more).length=(dT 40 (cY e)).length+1+more.length:=by rw[he];simp;omega
 have ht1:dY (cO e++more) none (some ((dT 40 (cY e)).length:Int))=dT 40 (cY e):=by
  show List.take _ _=_;rw[uV,he,iK];exact PG
 have ht2:dY (cO e++more) none (some (((dT 40 (cY e)).length:Int)+1))=cO e:=by
  show List.take _ _=_;rw[show((((dT 40 (cY e)).length:Nat):Int)+1).toNat=(cO e).length by rw[he];simp];exact PG
 have hd:fK false (dT 40 (cY e))=some (cY e):=Wo (cY e) 40 (HG e);have q0:=aCv (N:=N) (l:=dT 40 (cY e)) (by omega) (by omega);have q1:=aCu (N:=N) (l:=dT 40 (cY e)) (by omega) (by omega);have q2:=aCt (N:=N) (l:=dT 40 (cY e)) (by omega) (by omega);rw[hd]at q1 q2;have q1:q9 N (dT 40 (cY e))=cY e:=q1;have q2:Fs N (dT 40 (cY e))=true:=q2;have rd:=aGF hN (e:=e) (by omega) hv;unfold nD Mh GW;simp only[Cm,hix];rw[wr (x:=((dT 40 (cY e)).length:Int)+1) (by omega) (by omega)];simp only[ht1,ht2,q1,q2,aCl rd,aCk rd,aCj rd,aCi rd,Ex.eta,aFS hN (show aR e<=8500 by omega),aFR hN (show aR e<=8500 by omega),aCe];rw[aG Cn,aX (by omega),aM,aG (by unfold eQ;exact aU (by omega)),aG q0,mN,aM,aG (aCm rd),aG (aFT hN (by omega)),hv];rw[show(decide ((0:Int)≠0)||decide ((0:Int)≠0))=false from rfl];rw[aG (by unfold eQ;rw[iL,mN,uY];exact aU (by omega)),aG (by rw[aCf,yI])];rw[show(false||!decide True)=false by decide,aM];have hl2:(((dT 40 (cY e)).length:Int)+1)=((cO e).length:Int):=by rw[he];simp
 rw[hl2];rfl
end Go.Proofs
/- The law on decoding. -/
namespace Go.Proofs
open Go Go.Ax Go.Ax.aA
theorem aE8{N:Nat}{a b:Tx}(hl:a.length<=2^40){K:Bool->O}{k1 k2:Unit->O}:∀(r r' pre pre':Tx)(m:Nat),a=pre++r->b=pre'++r'->pre.length=pre'.length->r.length=r'.length->r.length<m->
    A4 N m (a,b,(pre.length:Int)) K k1 k2=if r=r' then k1 ()else K false
 |_,_,_,_,0,_,_,_,_,h=>by omega
 |[],r',pre,pre',m+1,ha,_,_,hr,_=>by
   show DN _ _ _ _ _ _ _=_;unfold DN;simp only[];have h0:a.length=pre.length:=by rw[ha];simp
   have h1:r'=[]:=List.eq_nil_of_length_eq_zero hr.symm;rw[aX (by omega),aM,h1,aN rfl]
 |x::r,[],_,_,_,_,_,_,h,_=>by simp at h
 |x::r,y::r',pre,pre',m+1,ha,hb,hp,hr,hm=>by
   have hlt:pre.length<a.length:=by rw[ha];simp
   have hg:a[pre.length]?=some x:=by rw[ha,eP (cE _)];simp
   have hg':b[pre.length]?=some y:=by rw[hb,hp,eP (cE _)];simp
   show DN _ _ _ _ _ _ _=_;unfold DN;simp only[];rw[aU (by omega),bA,eN hg,eN hg'];by_cases h:x=y
   .subst h
    rw[aX (by simp),aM,wr (by omega) (by omega)];have ih:=aE8 (N:=N) (a:=a) (b:=b) hl (K:=K) (k1:=k1) (k2:=k2) r r' (pre++[x]) (pre'++[x]) m (by rw[ha];simp) (by rw[hb];simp) (by simp[hp]) (by simpa using hr) (by simp at hm;omega);have hpl:((pre++[x]).length:Int)=(pre.length:Int)+1:=by simp
    rw[hpl]at ih;refine ih.trans ?_;simp
   .rw[aU h,bA,aF (by simp[h])]
theorem aE7{N:Nat}{a b:Tx}(hl:a.length<=2^40)(hN:a.length<N):DL N a b=some (decide (a=b)):=by
 unfold DL w14 Tf Tc;by_cases h:a.length=b.length
 .rw[aX (by simp[h]),aM]
  refine(bG (λz:O=>z.bind Mo) (aE8 (N:=N) hl a b [] [] N rfl rfl rfl h hN)).trans ?_;by_cases hab:a=b
  .rw[aN hab,aU hab];rfl
  .rw[aF hab,aX hab];rfl
 .rw[aU (by omega),bA,aX (λe=>h (by rw[e]))];rfl
theorem aWE{N:Nat}{a b:Tx}(hl:a.length<=2^40)(hN:a.length<N):G4 N a b=true:=by unfold G4;rw[aE7 hl hN];rfl
theorem aWD{N:Nat}{a b:Tx}(hl:a.length<=2^40)(hN:a.length<N):G3 N a b=decide (a=b):=by unfold G3;rw[aE7 hl hN];rfl
theorem aEL{N:Nat}{l:Tx}{m:Int}(h0:0<=m)(hl:m<=2^40):DH N l m=some (l.take m.toNat):=by
 have ht:dY l none (some (min (l.length:Int) m))=l.take m.toNat:=by
  show l.take _=_;rw[List.take_eq_take_iff];omega
 unfold DH w19 TY;rw[ht,aG (by unfold eQ;exact aU (by omega)),aG (jB (by simp;omega) (by omega))];rfl
theorem GZ{N:Nat}{l:Tx}{m:Int}(h0:0<=m)(hl:m<=2^40):wC N l m=true:=by unfold wC;rw[aEL h0 hl];rfl
theorem GY{N:Nat}{l:Tx}{m:Int}(h0:0<=m)(hl:m<=2^40):iW N l m=l.take m.toNat:=by unfold iW;rw[aEL h0 hl];rfl
theorem aLV{N:Nat}(hN:5<=N){l:List Int}(hl:∀x∈l,gL x)(hlen:l.length<2^60):∃e,vE N l=some (e.op,e.num,e.kids)/\aR e<=31:=by
 obtain⟨e,p1,q1,q2,q3,ok,hs,hd,_⟩:=aUG (N:=N) (by omega) hl hlen 4;refine⟨e,?_,hs⟩;unfold vE w8 Pu;rw[aG p1,q1,q2,q3];rfl
theorem a2t{N:Nat}(hN:70000<=N){e f:Ex}(he:dJ e=0)(hf:dJ f=0)(h:cO e=cO f):e=f:=by
 have h1:=TV hN he [] (by simp);have h2:=TV hN hf [] (by simp);rw[h,h2]at h1;have h3:=Option.some.inj h1;simp only[Prod.mk.injEq]at h3;rw[<-Ex.eta e,<-Ex.eta f,h3.1,h3.2.1,h3.2.2.1]
end Go.Proofs
/- The reference's code: the same cells and the same breaks. -/
namespace Go.Proofs
open Go Go.Ax Go.Ax.aA
theorem WY{α:Type}{z:α}{l:List α}{n:Int}{k:α->O}:gc false z l n k=k z:=rfl
theorem aA9{N:Nat}{c:UInt8}:FT N c=true:=rfl
theorem aA8{N:Nat}{c:UInt8}:vO N c=bE c:=rfl
theorem aAY{N:Nat}{c:UInt8}:Jy N c=true:=rfl
theorem aAX{N:Nat}{c:UInt8}:FP N c=eA c:=rfl
theorem aA3{N:Nat}:zK N=true:=rfl
theorem aOC{N:Nat}:pM N=dW:=rfl
theorem aAS{N:Nat}:Jv N=true:=rfl
theorem aAR{N:Nat}:CL N=eS:=rfl
theorem a1g(x:UInt8)(l:Tx)(c:UInt8)(h:c∈l\/c=x):bN (x::l) c=if x=c then 0 else bN l c+1:=by
 have h1:=oZ (c:=c) (l:=l);unfold bN
 conv=>lhs;unfold Lib.indexByte
 by_cases h2:x=c
 .subst h2;simp
 .have h3:0<=Lib.indexByte l c:=by
   rcases h with h|h
   .rcases Int.lt_or_le (Lib.indexByte l c) 0 with hn|hn
    .exfalso
     have:∀l:Tx,c∈l->0<=Lib.indexByte l c:=by
      intro l
      induction l with
      |nil=>intro h;cases h
      |cons y l ih=>
        intro h;unfold Lib.indexByte;by_cases hy:y=c
        .subst hy;simp
        .have hc:c∈l:=by rcases fA.1 h with h|h;exact absurd h.symm hy;exact h
         have:=ih hc;simp[hy];split <;> omega
     have:=this l h;omega
    .exact hn
   .exact absurd h.symm h2
  simp only[h2,if_false];simp[h2];split
  .rename_i h4;omega
  .omega
theorem aAM{N:Nat}{c:UInt8}{K:UInt8->O}{k1 k2:Unit->O}:∀(r pre:Tx)(m:Nat),cW=pre++r->c∈r->r.length<m->
    vM N m (c,cW,(pre.length:Int)) K k1 k2=K (eK.getD (pre.length+bN r c) 0)
 |_,_,0,_,_,h=>by omega
 |[],_,_,_,h,_=>by cases h
 |x::r,pre,m+1,hs,hc,hm=>by
   have hl:cW.length=pre.length+(r.length+1):=by rw[hs];simp
   have hl:10=pre.length+(r.length+1):=hl;have hg:cW[pre.length]?=some x:=by rw[hs,eP (cE _)];simp
   have hg2:eK[pre.length]?=some (eK.getD pre.length 0):=getD_at (l:=eK) (i:=pre.length) (show pre.length<10 by omega);have hc':c∈r\/c=x:=(fA.1 hc).symm;show vN _ _ _ _ _ _ _=_;unfold vN;simp only[];rw[aU (show(pre.length:Int)<(((cW:Tx).length:Nat):Int)from(show(pre.length:Int)<((10:Nat):Int)by omega)),bA,eN hg,a1g x r c hc'];by_cases h:x=c
   .rw[aU h,bA,eN hg2,aN h];rfl
   .rw[aX h,aM,aF h,wr (by omega) (by omega)]
    have hcr:c∈r:=hc'.resolve_right (λe=>h e.symm);have ih:=aAM (N:=N) (c:=c) (K:=K) (k1:=k1) (k2:=k2) r (pre++[x]) m (by rw[hs];simp) hcr (by simp at hm;omega);have hpl:((pre++[x]).length:Int)=(pre.length:Int)+1:=by simp
    rw[hpl]at ih;refine ih.trans ?_;rw[show(pre++[x]).length+bN r c=pre.length+(bN r c+1)by simp;omega]
theorem aAK{N:Nat}(hN:10<N){c:UInt8}(h:cW.contains c=true):vL N c=some (eK.getD (bN cW c) 0):=by
 have hm:c∈cW:=by simpa using h
 unfold vL Qc Js Jp;refine(bG (λz:O=>z.bind FM) (aAM (N:=N) (c:=c) cW [] N rfl hm hN)).trans ?_;simp only[lG,Nat.zero_add];rfl
def Ui(c:UInt8):Bool:=
 let y1:=if decide (c≠43)then c else 0
 let y2:=if decide (c≠43)&&decide (y1≠45)then c else 0
 let y3:=if decide (c≠43)&&decide (y1≠45)&&decide (y2≠42)then c else 0
 let y4:=if decide (c≠43)&&decide (y1≠45)&&decide (y2≠42)&&decide (y3≠47)then c else 0
 let y5:=if decide (c≠43)&&decide (y1≠45)&&decide (y2≠42)&&decide (y3≠47)&&decide (y4≠61)then c else 0
 decide (c≠43)&&decide (y1≠45)&&decide (y2≠42)&&decide (y3≠47)&&decide (y4≠61)&&decide (y5≠60)
theorem aYZ(c:UInt8):Ui c=!pR.contains c:=by
 have:=nI (p:=λc=>Ui c == !pR.contains c) (by kernel_rfl) c;simpa using this
theorem a1c(a:UInt8):(bE a||eA (if !bE a then a else 0)||decide ((if !(bE a||eA (if !bE a then a else 0))then a else 0)=41))=(bE a||eA a||decide (a=41)):=by
 have:=nI (p:=λa=>(bE a||eA (if !bE a then a else 0)||decide ((if !(bE a||eA (if !bE a then a else 0))then a else 0)=41)) == (bE a||eA a||decide (a=41))) (by kernel_rfl) a;simpa using this
theorem aN6{N:Nat}{s:Tx}:sP N s 0=some false:=by
 unfold sP Q8 Jn;simp only[decide_true,mN,jG,WY,Bool.true_or,bA];rfl
theorem aN5{N:Nat}{p r:Tx}{a c:UInt8}(hl:p.length<2^40):sP N (p++[a]++c::r) ((p.length:Int)+1)=some (nS a c):=by
 have hg:(p++[a]++c::r)[p.length+1]?=some c:=by
  rw[eP (by simp)];simp
 have hga:(p++[a]++c::r)[p.length]?=some a:=by
  rw[iK,eP (cE _)];simp
 have e1:(p.length:Int)+1=((p.length+1:Nat):Int):=by omega
 have e2:aB.wrap ((p.length:Int)+1-1)=(p.length:Int):=by rw[wr (by omega) (by omega)];omega
 unfold sP Q8 Jn;simp only[e2];rw[aX (show ¬ ((p.length:Int)+1=0)by omega),e1];simp only[iL,gX,uY,Hm hg,gV];have ht:=aYZ c;unfold Ui at ht;simp only[]at ht;rw[ht];unfold nS;cases hb:pR.contains c with
 |false=>simp only[iL,bA];rfl
 |true=>
   simp only[mN,aM,eN hga,aA9,aA8,aAY,aAX,dH,Hm hga,yI,gX,a1c];rfl
theorem aY6{c:UInt8}(h:bE c=true):(((c-48:UInt8).toNat:Nat):Int)=((c.toNat-48:Nat):Int):=by
 have:=nI (p:=λc=>!bE c||(c-48:UInt8).toNat == c.toNat-48) (by kernel_rfl) c;rw[h]at this;simp at this;rw[this]
theorem aY4{c:UInt8}(h:eA c=true):(((c-97:UInt8).toNat:Nat):Int)=((c.toNat-97:Nat):Int):=by
 have:=nI (p:=λc=>!eA c||(c-97:UInt8).toNat == c.toNat-97) (by kernel_rfl) c;rw[h]at this;simp at this;rw[this]
theorem aT6{N:Nat}(hN:10<N){s r pre:Tx}{a c:UInt8}{out:Tx}{brk:List Int}{K:Tx->Int->Tx->List Int->O}(hs:s=pre++c::r)(hok:jY c=true)(ha:pre=[]/\a=40\/∃p,pre=p++[a])(ho:out.length<=2^40)(hl:pre.length<=2^39):
    ML N K s (pre.length:Int) c out brk=K s (pre.length:Int) (out++qD a c) brk:=by
 unfold ML qD;simp only[aA9,aA8,aAY,aAX,aA3,aOC,aAS,aAR,dH];by_cases h1:bE c=true
 .have hx:=getD_at (l:=dW) (i:=c.toNat-48) (Oi h1).1
  rw[aN h1,h1,bA,aY6 h1];simp only[eN hx];rcases ha with⟨rfl,rfl⟩|⟨p,rfl⟩
  .rw[aU (show((([]:Tx).length:Nat):Int)=0 from rfl)]
   simp only[mN,WY,Bool.true_or,iL,dH,bA];rw[aG (jB (by simp;omega) (by omega)),aG (jB (by simp;omega) (by omega))];simp[show bE 40=false from rfl]
  .have hlp:(p++[a]).length=p.length+1:=by simp
   have hga:s[p.length]?=some a:=by rw[hs,iK,eP (cE _)];simp
   rw[aX (by rw[hlp];omega)];rw[show aB.wrap ((((p++[a]).length:Nat):Int)-1)=(p.length:Int)by rw[hlp,wr (by omega) (by omega)];omega];simp only[iL,Hm hga,gV,mN,uY,dH];cases h2:bE a with
   |true=>
     simp only[mN,aM];rw[aG (jB (by simp;omega) (by omega))];simp
   |false=>
     simp only[iL,bA];rw[aG (jB (by simp;omega) (by omega)),aG (jB (by simp;omega) (by omega))];simp
 .have h1:bE c=false:=by simpa using h1
  rw[h1,aM,aF (by decide)];by_cases h2:eA c=true
  .have hx:=getD_at (l:=eS) (i:=c.toNat-97) (Oh h1 h2).1
   rw[aN h2,h2,bA,aY4 h2,eN hx,aG (jB (by simp;omega) (by omega))]
  .have h2:eA c=false:=by simpa using h2
   have hz:=aAK hN (OA hok h1 h2);have hp:zI N c=true:=by unfold zI;rw[hz];rfl
   have hy:sQ N c=eK.getD (bN cW c) 0:=by unfold sQ;rw[hz];rfl
   rw[h2,aM,aF (by decide),aG hp,hy,aG (jB (by simp;omega) (by omega))]
theorem aDN{N:Nat}(hN:10<N){s:Tx}(hl:s.length<=2^39){K:Tx×List Int->O}{k1 k2:Unit->O}:∀(r pre:Tx)(a:UInt8)(out:Tx)(brk:List Int)(m:Nat),s=pre++r->(∀c∈r,jY c=true)->(pre=[]/\a=40\/∃p,pre=p++[a])->out.length+2*r.length<=2^40->brk.length+r.length<=2^40->r.length<m->
    AO N m (s,(pre.length:Int),out,brk) K k1 k2=K (out++dT a r,brk++qE a out.length r)
 |_,_,_,_,_,0,_,_,_,_,_,h=>by omega
 |[],pre,a,out,brk,m+1,hs,_,_,_,_,_=>by
   show Cr _ _ _ _ _ _ _ _ _=_;unfold Cr;simp only[];have h0:s.length=pre.length:=by rw[hs];simp
   rw[aX (by omega),aM];simp[dT,qE]
 |c::r,pre,a,out,brk,m+1,hs,hok,ha,ho,hb,hm=>by
   have hc:=hok c (iA ..);have hlt:pre.length<s.length:=by rw[hs];simp
   have hg:s[pre.length]?=some c:=by rw[hs,eP (cE _)];simp
   simp only[eB]at ho hb hm;have hce:=(EI [c] a).2;simp only[dT,List.append_nil,eB,lG]at hce;have ih:=λ(o':Tx)(b':List Int)(h1:o'.length+2*r.length<=2^40)(h2:b'.length+r.length<=2^40)=>
    aDN hN (s:=s) hl (K:=K) (k1:=k1) (k2:=k2) r (pre++[c]) c o' b' m (by rw[hs];simp) (λd hd=>hok d (fM _ hd)) (.inr ⟨pre,rfl⟩) h1 h2 (by omega)
   have hpl:((pre++[c]).length:Int)=(pre.length:Int)+1:=by simp
   rw[hpl]at ih;have h70:sP N s (pre.length:Int)=some (nS a c):=by
    rcases ha with⟨rfl,rfl⟩|⟨p,rfl⟩
    .refine aN6.trans ?_
     unfold nS;rw[show(bE 40||eA 40||decide ((40:UInt8)=41))=false from rfl,EX]
    .have:=aN5 (N:=N) (p:=p) (r:=r) (a:=a) (c:=c) (by simp at hlt;omega)
     rw[hs,show(((p++[a]).length:Nat):Int)=(p.length:Int)+1 by simp];exact this
   have p70:Jm N s (pre.length:Int)=true:=by unfold Jm;rw[h70];rfl
   have y70:Jl N s (pre.length:Int)=nS a c:=by unfold Jl;rw[h70];rfl
   show Cr _ _ _ _ _ _ _ _ _=_;unfold Cr;simp only[];rw[aU (by omega),bA];unfold MH Fz Se;simp only[];rw[eN hg];unfold Fy GA;simp only[];rw[aT6 hN hs hc ha (by omega) (by omega),aG p70,y70,wr (by omega) (by omega)];unfold dT qE;cases nS a c with
   |true=>
     rw[bA,aG (jB (by simp;omega) (by omega))];refine(ih _ _ (by simp;omega) (by simp;omega)).trans ?_;simp
   |false=>
     rw[aM];refine(ih _ _ (by simp;omega) (by omega)).trans ?_;simp
theorem aT4{N:Nat}(hN:10<N){s:Tx}(hok:∀c∈s,jY c=true)(h:s.length<N)(hB:s.length<=2^36):v7 N s=some (dT 40 s++[63],qE 40 0 s):=by
 unfold v7 w37 Sd S8;refine(bG (λz:O=>z.bind MA) (aDN (N:=N) hN (s:=s) (by omega) s [] 40 [] [] N rfl hok (.inl ⟨rfl,rfl⟩) (by simp;omega) (by simp;omega) h)).trans ?_;have:=(EI s 40).2;simp only[n6,lG];rw[aG (jB (by simp;omega) (by omega))];rfl
section
variable{N:Nat}{e:Ex}(hN:70000<=N)(hs:aR e<=8500)
include hN
theorem aT5:v7 N (cY e)=some (dT 40 (cY e)++[63],qE 40 0 (cY e)):=by
 have:=N8 (e:=e);exact aT4 (by omega) (HG e) (by omega) (by omega)
include hs
theorem Tk:DO N e.op e.num e.kids=some (cO e,dJ e):=by
 have h1:=Sj (N:=N) (e:=e) (by omega) (by omega);have h2:=Si (N:=N) (e:=e) (by omega) (by omega);have h3:=aTE (N:=N) (e:=e) (by omega) (by omega) (by omega);have h4:=aTD (N:=N) (e:=e) (by omega) (by omega) (by omega);have h5:=aT5 (e:=e) hN;have h6:MG N (cY e)=true:=by unfold MG;rw[h5];rfl
 have h7:Lz N (cY e)=dT 40 (cY e)++[63]:=by unfold Lz;rw[h5];rfl
 unfold DO w11 Tl cO;simp only[Ex.eta];rw[aG h1,h2];by_cases hv:dJ e=0
 .rw[aX (by simpa using hv),aM,aG h3,h4,aG h6,h7,aN hv,hv,N7 hv];rfl
 .rw[aU hv,bA,aF hv];rfl
theorem aEk:G7 N e.op e.num e.kids=true:=by unfold G7;rw[Tk hN hs];rfl
theorem aEj:A6 N e.op e.num e.kids=cO e:=by unfold A6;rw[Tk hN hs];rfl
theorem aWT:Mw N e.op e.num e.kids=dJ e:=by unfold Mw;rw[Tk hN hs];rfl
end
end Go.Proofs
