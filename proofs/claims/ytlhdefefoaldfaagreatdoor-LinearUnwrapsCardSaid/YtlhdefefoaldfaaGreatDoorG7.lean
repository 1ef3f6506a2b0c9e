/- Cells of texts. Conditions are in the theorems. -/
import Derived.Test.YtlhdefefoaldfaaGreatDoorG6
import Derived.KernelRfl
import Derived.Lib.Bytealg
import Derived.Test.YtlhdefefoaldfaaGreatDoorL1
import Derived.Test.YtlhdefefoaldfaaGreatDoorG2
import Derived.Test.YtlhdefefoaldfaaGreatDoorG1
import Derived.Test.YtlhdefefoaldfaaGreatDoorE7
import Derived.Test.YtlhdefefoaldfaaGreatDoorL3
open Bool renaming and_eq_true->bM,and_false->Fj,false_and->iU,false_or->vZ,not_eq_true'->aAw,not_false->gX,not_true->kU,or_true->tE,true_and->iE
open Go.IntKind renaming i64->aC
open Int renaming toNat_natCast->nC
open List renaming all_eq_true->eI,append_assoc->iC,getElem?_append_right->dW,getElem?_eq_getElem->dE,length_append->dK,length_cons->dD,length_nil->j9,mem_append->lV,mem_cons->eP,mem_cons_of_mem->eY,mem_cons_self->gN,mem_range->tC,mem_singleton->zK,nil_append->kR,not_mem_nil->Jv,take_left->SB
open Nat renaming le_refl->bZ
open UInt8 renaming ofNat->fF,ofNat_toNat->aAf
/- The cells of a text, and the text of cells: plain. -/
namespace Go.Proofs
open Go Go.Ax Go.Ax.aA
theorem nY{p:UInt8->Bool}(h:(List.range 256).all (λn=>p (fF n))=true)(c:UInt8):p c=true:=by
 have:=eI.1 h c.toNat (tC.2 c.toNat_lt)
 rwa [aAf]at this
abbrev dB:Tx:=[43,45,42,47,94,61,60,82,40,41]
abbrev qL:Tx:=[43,45,42,47,61,60]
abbrev eE:Tx:=[26,1,3,9,25,17,11,27,19,10]
abbrev fB:Tx:=[1,3,9,25,17,11,27,19,10,26,5,7,13,29,21,15,31,23,14,30,37,39,58,45,61,53]
abbrev eS:Tx:=[22,36,33,12,24,54,42,28,55,62]
def bN(l:Tx)(c:UInt8):Nat:=(Lib.indexByte l c).toNat
def j5(c:UInt8):Bool:=bG c||eH c||dB.contains c
def oH(last c:UInt8):Tx:=if bG c then(if bG last then[]else[60])++[eE.getD (c.toNat-48) 0]else if eH c then[48,fB.getD (c.toNat-97) 0]else[eS.getD (bN dB c) 0]
def dQ:UInt8->Tx->Tx
 |_,[]=>[]
 |last,c::s=>oH last c++dQ c s
def oF(last c:UInt8):Bool:=qL.contains c&&(bG last||eH last||decide (last=41))
def lT:UInt8->Nat->Tx->List Int
 |_,_,[]=>[]
 |last,n,c::s=>(if oF last c then[((n+(oH last c).length:Nat):Int)]else[])++lT c (n+(oH last c).length) s
def fT:Bool->Tx->Option Tx
 |_,[]=>some []
 |num,c::l=>
   if num&&decide (0<=Lib.indexByte eE c)then(fT num l).map (fF (48+bN eE c) :: ·)
   else if c=60 then fT true l
   else if c=48 then(match l with
    |[]=>none
    |d::l'=>if Lib.indexByte fB d<0 then none else(fT false l').map (fF (97+bN fB d) :: ·))
   else if Lib.indexByte eS c<0 then none else(fT false l).map (dB.getD (bN eS c) 0 :: ·)
def Jj(c:UInt8):Bool:=
 if bG c then decide (c.toNat-48<10)&&decide (eE.getD (c.toNat-48) 0≠63)&&decide (eE.getD (c.toNat-48) 0<64)&&decide (0<=Lib.indexByte eE (eE.getD (c.toNat-48) 0))&&decide (fF (48+bN eE (eE.getD (c.toNat-48) 0))=c)
 else if eH c then decide (c.toNat-97<26)&&decide (fB.getD (c.toNat-97) 0≠63)&&decide (fB.getD (c.toNat-97) 0<64)&&decide (0<=Lib.indexByte fB (fB.getD (c.toNat-97) 0))&&decide (fF (97+bN fB (fB.getD (c.toNat-97) 0))=c)
 else if dB.contains c then decide (bN dB c<10)&&decide (0<=Lib.indexByte dB c)&&decide (eS.getD (bN dB c) 0≠63)&&decide (eS.getD (bN dB c) 0<64)&&decide (Lib.indexByte eE (eS.getD (bN dB c) 0)<0)&&decide (eS.getD (bN dB c) 0≠60)&&decide (eS.getD (bN dB c) 0≠48)&&decide (0<=Lib.indexByte eS (eS.getD (bN dB c) 0))&&decide (dB.getD (bN eS (eS.getD (bN dB c) 0)) 0=c)
 else true
theorem aAN(c:UInt8):Jj c=true:=nY (p:=Jj) (by kernel_rfl) c
theorem Qj{c:UInt8}(h:j5 c=true)(h1:bG c=false)(h2:eH c=false):dB.contains c=true:=by
 unfold j5 at h;rw[h1,h2]at h;simpa using h
theorem a6T{c:UInt8}(h:j5 c=true):c.toNat<128:=by
 have:=nY (p:=λc=>!j5 c||decide (c.toNat<128)) (by kernel_rfl) c;rw[h]at this;simpa using this
theorem Rb{c:UInt8}(h1:bG c=true):c.toNat-48<10/\eE.getD (c.toNat-48) 0≠63/\eE.getD (c.toNat-48) 0<64/\0<=Lib.indexByte eE (eE.getD (c.toNat-48) 0)/\fF (48+bN eE (eE.getD (c.toNat-48) 0))=c:=by
 have:=aAN c;unfold Jj at this;rw[aJ h1]at this;simp only[bM,gG]at this;exact⟨this.1.1.1.1,this.1.1.1.2,this.1.1.2,this.1.2,this.2⟩
theorem Ra{c:UInt8}(h1:bG c=false)(h2:eH c=true):c.toNat-97<26/\fB.getD (c.toNat-97) 0≠63/\fB.getD (c.toNat-97) 0<64/\0<=Lib.indexByte fB (fB.getD (c.toNat-97) 0)/\fF (97+bN fB (fB.getD (c.toNat-97) 0))=c:=by
 have:=aAN c;unfold Jj at this;rw[aD (by rw[h1];decide),aJ h2]at this;simp only[bM,gG]at this;exact⟨this.1.1.1.1,this.1.1.1.2,this.1.1.2,this.1.2,this.2⟩
theorem aAM{c:UInt8}(h1:bG c=false)(h2:eH c=false)(h3:dB.contains c=true):bN dB c<10/\0<=Lib.indexByte dB c/\eS.getD (bN dB c) 0≠63/\eS.getD (bN dB c) 0<64/\Lib.indexByte eE (eS.getD (bN dB c) 0)<0/\eS.getD (bN dB c) 0≠60/\eS.getD (bN dB c) 0≠48/\0<=Lib.indexByte eS (eS.getD (bN dB c) 0)/\dB.getD (bN eS (eS.getD (bN dB c) 0)) 0=c:=by
 have:=aAN c;unfold Jj at this;rw[aD (by rw[h1];decide),aD (by rw[h2];decide),aJ h3]at this;simp only[bM,gG]at this;obtain⟨⟨⟨⟨⟨⟨⟨⟨a1,a2⟩,a3⟩,a4⟩,a5⟩,a6⟩,a7⟩,a8⟩,a9⟩:=this;exact⟨a1,a2,a3,a4,a5,a6,a7,a8,a9⟩
theorem aAF:∀(s:Tx)(last:UInt8),(∀c∈s,j5 c=true)->fT (bG last) (dQ last s)=some s
 |[],last,_=>by cases h:bG last <;> rfl
 |c::s,last,h=>by
   have hc:=h c (gN ..);have ih:=aAF s c (λd hd=>h d (eY _ hd));unfold dQ oH;by_cases h1:bG c=true
   .obtain⟨_,_,_,a4,a5⟩:=Rb h1
    rw[h1]at ih;have key:fT true (eE.getD (c.toNat-48) 0::dQ c s)=some (c::s):=by
     unfold fT;rw[aQ a4,iE,aJ rfl,ih,a5];rfl
    rw[aJ h1];cases h2:bG last with
    |true=>exact key
    |false=>
      show fT false (60::eE.getD (c.toNat-48) 0::dQ c s)=_;unfold fT;rw[iU,aD (by decide),aJ rfl];exact key
   .have h1:bG c=false:=by simpa using h1
    rw[h1]at ih;rw[aD (by rw[h1];decide)];by_cases h2:eH c=true
    .obtain⟨_,_,_,a4,a5⟩:=Ra h1 h2
     rw[aJ h2];show fT (bG last) (48::fB.getD (c.toNat-97) 0::dQ c s)=_;unfold fT;rw[show decide (0<=Lib.indexByte eE 48)=false from rfl,Fj,aD (by decide),aD (by decide),aJ rfl];simp only[];rw[aD (by omega),ih,a5];rfl
    .have h2:eH c=false:=by simpa using h2
     obtain⟨_,_,_,_,a5,a6,a7,a8,a9⟩:=aAM h1 h2 (Qj hc h1 h2);rw[aD (by rw[h2];decide)];show fT (bG last) (eS.getD (bN dB c) 0::dQ c s)=_;unfold fT;rw[aR (by omega),Fj,aD (by decide),aD a6,aD a7,aD (by omega),ih,a9];rfl
theorem aMP:∀(s:Tx)(last:UInt8),(∀c∈s,j5 c=true)->∀x∈dQ last s,x≠63/\x<64
 |[],_,_=>λx hx=>by cases hx
 |c::s,last,h=>λx hx=>by
   have hc:=h c (gN ..);unfold dQ at hx;rcases lV.1 hx with hx|hx
   .unfold oH at hx
    split at hx
    .rename_i h1
     obtain⟨_,a2,a3,_⟩:=Rb h1;rcases lV.1 hx with hx|hx
     .split at hx
      .cases hx
      .rw[zK]at hx;subst hx;exact⟨by decide,by decide⟩
     .rw[zK]at hx;subst hx;exact⟨a2,a3⟩
    .rename_i h1
     have h1:bG c=false:=by simpa using h1
     split at hx
     .rename_i h2
      obtain⟨_,a2,a3,_⟩:=Ra h1 h2;simp only[eP,Jv,or_false]at hx;rcases hx with rfl|rfl
      .exact⟨by decide,by decide⟩
      .exact⟨a2,a3⟩
     .rename_i h2
      have h2:eH c=false:=by simpa using h2
      obtain⟨_,_,a3,a4,_⟩:=aAM h1 h2 (Qj hc h1 h2);rw[zK]at hx;subst hx;exact⟨a3,a4⟩
   .exact aMP s c (λd hd=>h d (eY _ hd)) x hx
theorem a9L(last c:UInt8):1<=(oH last c).length/\(oH last c).length<=2:=by
 unfold oH;split
 .split <;> simp
 .split <;> simp
theorem CL:∀(s:Tx)(last:UInt8),s.length<=(dQ last s).length/\(dQ last s).length<=2*s.length
 |[],_=>⟨bZ _,bZ _⟩
 |c::s,last=>by
   have:=CL s c;have h:=a9L last c;unfold dQ;simp only[dK,dD];omega
theorem mX{k:Nat}{e:Ex}(h:∀c∈gH e,j5 c=true):∀c∈cQ k e,j5 c=true:=λc hc=>by
 by_cases hk:bW e.op<k
 .rw[pU hk]at hc
  simp only[eP,lV,Jv,or_false]at hc;rcases hc with rfl|hc|rfl
  .decide
  .exact h c hc
  .decide
 .rw[iT (by omega)]at hc;exact h c hc
theorem a8n(u:Nat):∀c∈Lib.decDigits u,j5 c=true:=λc hc=>by
 unfold j5;rw[aAE u c hc];rfl
theorem QO:∀(n:Nat)(e:Ex)(root:Bool),aT e<=n->dN e root=true->∀c∈gH e,j5 c=true
 |0,e,_,h,_=>by have:=size_pos e;omega
 |n+1,.mk o a ks,root,h,ok=>by
   rcases yG ok with⟨rfl,rfl,h0,h1⟩|⟨rfl,rfl,h0,h1⟩|⟨ho,k,rfl,hk⟩|⟨ho,k,k',rfl,hk,hk'⟩
   .rw[En];exact a8n _
   .rw[El]
    intro c hc;rw[zK]at hc;subst hc;have key:∀m:Nat,m<26->j5 (fF (97+m))=true:=λm hm=>by
     have:=eI.1 (by kernel_rfl:(List.range 26).all (λm=>j5 (fF (97+m)))=true) m (tC.2 hm);exact this
    exact key _ (by omega)
   .have hs:aT k<=n:=by simp only[aT,dH]at h;omega
    have ih:=QO n k false hs hk;rcases ho with rfl|rfl
    .rw[Is]
     intro c hc;rcases eP.1 hc with rfl|hc
     .decide
     .exact mX ih c hc
    .rw[Iq]
     intro c hc;simp only[eP,lV,Jv,or_false]at hc;rcases hc with rfl|rfl|hc|rfl
     .decide
     .decide
     .exact mX ih c hc
     .decide
   .have hs:aT k<=n/\aT k'<=n:=by simp only[aT,dH]at h;omega
    have i1:=QO n k false hs.1 hk;have i2:=QO n k' false hs.2 hk';by_cases h7:o=7
    .subst h7
     rw[Ir];intro c hc;simp only[eP,lV]at hc;rcases hc with hc|rfl|hc
     .exact mX i1 c hc
     .decide
     .exact mX i2 c hc
    .have h6:o=3\/o=4\/o=5\/o=6\/o=9\/o=10:=by omega
     rw[Em h6];intro c hc;simp only[eP,lV]at hc;rcases hc with hc|rfl|hc
     .exact mX i1 c hc
     .rcases h6 with rfl|rfl|rfl|rfl|rfl|rfl <;> decide
     .exact mX i2 c hc
theorem Iu(e:Ex):∀c∈c7 e,j5 c=true:=by
 unfold c7;split
 .rename_i h;exact QO _ e true (bZ _) (Ej h)
 .intro c hc;cases hc
theorem Iv{e:Ex}:(c7 e).length<=2048:=by
 unfold c7;split
 .rename_i h
  have h1:=nZ _ e true (bZ _) (Ej h);have h2:aT e<=256:=by
   unfold c9 at h;split at h
   .cases h
   .rename_i h2;omega
  omega
 .simp
end Go.Proofs
/- The loops of code and text. -/
namespace Go.Proofs
open Go Go.Ax Go.Ax.aA
theorem getD_at{l:Tx}{i:Nat}(h:i<l.length):l[i]?=some (l.getD i 0):=by
 rw[dE h,List.getD_eq_getElem?_getD,dE h];rfl
theorem a8i(c:UInt8):(decide ((48:Int)<=(c.toNat:Int))&&decide ((c.toNat:Int)<=57))=bG c:=by
 have:=nY (p:=λc=>(decide ((48:Int)<=(c.toNat:Int))&&decide ((c.toNat:Int)<=57)) == bG c) (by kernel_rfl) c;simpa using this
theorem a6t(c:UInt8):(decide ((97:Int)<=(c.toNat:Int))&&decide ((c.toNat:Int)<=122))=eH c:=by
 have:=nY (p:=λc=>(decide ((97:Int)<=(c.toNat:Int))&&decide ((c.toNat:Int)<=122)) == eH c) (by kernel_rfl) c;simpa using this
theorem aEd{N:Nat}{c:UInt8}:Gx N (c.toNat:Int)=some (bG c):=by rw[<-a8i];rfl
theorem UU{N:Nat}{c:UInt8}:DO N (c.toNat:Int)=true:=by unfold DO;rw[aEd];rfl
theorem UT{N:Nat}{c:UInt8}:A7 N (c.toNat:Int)=bG c:=by unfold A7;rw[aEd];rfl
theorem aE6{N:Nat}{c:UInt8}:Gt N (c.toNat:Int)=some (eH c):=by rw[<-a6t];rfl
theorem aE8{N:Nat}{c:UInt8}:Gv N (c.toNat:Int)=true:=by unfold Gv;rw[aE6];rfl
theorem aE7{N:Nat}{c:UInt8}:Gu N (c.toNat:Int)=eH c:=by unfold Gu;rw[aE6];rfl
theorem aMV(c:UInt8):(Int.toNat (c.toNat:Int)).toUInt8=c:=by rw[nC];exact aAf
theorem FP{l:Tx}{c:UInt8}(h:0<=Lib.indexByte l c):Lib.indexByte l c=(bN l c:Int):=by unfold bN;omega
theorem aTi{N:Nat}{s:Tx}{c:UInt8}(h:c.toNat<128):MU N s (c.toNat:Int)=true:=aQ (by omega)
theorem aTh{N:Nat}{s:Tx}{c:UInt8}:MT N s (c.toNat:Int)=Lib.indexByte s c:=by unfold MT;rw[aMV]
theorem aTe{N:Nat}{s:Tx}{c:UInt8}(h:c.toNat<128):MS N s (c.toNat:Int)=true:=aQ (by omega)
theorem aTd{N:Nat}{c:UInt8}:DN N qL (c.toNat:Int)=qL.contains c:=by
 unfold DN;rw[aMV];have:=nY (p:=λc=>decide (0<=Lib.indexByte qL c) == qL.contains c) (by kernel_rfl) c;simpa using this
theorem a7P(c:UInt8):decide ((c.toNat:Int)=41)=decide (c=41):=by
 have:=nY (p:=λc=>decide ((c.toNat:Int)=41) == decide (c=41)) (by kernel_rfl) c;simpa using this
theorem wrd{c:UInt8}(h:bG c=true):IntKind.i32.wrap ((c.toNat:Int)-48)=((c.toNat-48:Nat):Int):=by
 have h1:=c.toNat_lt;unfold bG at h;simp only[bM,gG]at h;have h2:48<=c.toNat:=h.1;rw[IntWalk.i32_in _ (by omega)];omega
theorem wrl{c:UInt8}(h:eH c=true):IntKind.i32.wrap ((c.toNat:Int)-97)=((c.toNat-97:Nat):Int):=by
 have h1:=c.toNat_lt;unfold eH at h;simp only[bM,gG]at h;have h2:97<=c.toNat:=h.1;rw[IntWalk.i32_in _ (by omega)];omega
theorem gV{n b:Nat}(h:n<=2^42)(hb:b<=8):cF n b=true:=by
 unfold cF;refine aQ ⟨?_,by omega⟩;have:=Nat.mul_le_mul h hb;omega
theorem aGk{N:Nat}{s:Tx}{K:Tx×List Int->O}{k1 k2:Unit->O}:∀(r pre:Tx)(a:UInt8)(out:Tx)(brk:List Int)(m:Nat),s=pre++r->(∀c∈r,j5 c=true)->out.length+2*r.length<=2^40->brk.length+r.length<=2^40->r.length<m->
    BB N m ((a.toNat:Int),s,out,brk,s,(pre.length:Int)) K k1 k2=K (out++dQ a r,brk++lT a out.length r)
 |_,_,_,_,_,0,_,_,_,_,h=>by omega
 |[],pre,a,out,brk,m+1,hs,_,_,_,_=>by
   show Du _ _ _ _ _ _ _ _ _=_;unfold Du;simp only[];have h0:s.length=pre.length:=by rw[hs];simp
   rw[aR (by omega),aK,aK];simp[dQ,lT]
 |c::r,pre,a,out,brk,m+1,hs,hok,ho,hb,hm=>by
   have hc:=hok c (gN ..);have hlt:pre.length<s.length:=by rw[hs];simp
   have hg:s[pre.length]?=some c:=by rw[hs,dW (bZ _)];simp
   have h128:=a6T hc;have ih:=λ(o':Tx)(b':List Int)(h1:o'.length+2*r.length<=2^40)(h2:b'.length+r.length<=2^40)=>
    aGk (N:=N) (s:=s) (K:=K) (k1:=k1) (k2:=k2) r (pre++[c]) c o' b' m (by rw[hs];simp) (λd hd=>hok d (eY _ hd)) h1 h2 (by simp at hm;omega)
   have hpl:((pre++[c]).length:Int)=(pre.length:Int)+1:=by simp
   rw[hpl]at ih;simp only[dD]at ho hb;show Du _ _ _ _ _ _ _ _ _=_;unfold Du;simp only[];rw[aQ (by omega),aX,dO hg,aI (aQ h128),aX,aI UU,UT];unfold dQ lT oH;by_cases h1:bG c=true
   .have hcut:oF a c=false:=by
     have:=nY (p:=λc=>!bG c||!qL.contains c) (by kernel_rfl) c;rw[h1]at this;unfold oF;simp only[kU,vZ,aAw]at this;rw[this];rfl
    have hx:=getD_at (l:=eE) (i:=c.toNat-48) (Rb h1).1;rw[h1,aX,aI UU,UT,aJ rfl,hcut];cases h2:bG a with
    |true=>
      rw[kU,aK,wrd h1,dO hx,aI (gV (by simp;omega) (by omega))];refine(ih _ _ (by simp;omega) (by omega)).trans ?_;simp
    |false=>
      rw[gX,aX,aI (gV (by simp;omega) (by omega)),wrd h1,dO hx,aI (gV (by simp;omega) (by omega))];refine(ih _ _ (by simp;omega) (by omega)).trans ?_;simp
   .have h1:bG c=false:=by simpa using h1
    rw[h1,aK,aI aE8,aE7,aD (by decide)];by_cases h2:eH c=true
    .have hcut:oF a c=false:=by
      have:=nY (p:=λc=>!eH c||!qL.contains c) (by kernel_rfl) c;rw[h2]at this;unfold oF;simp only[kU,vZ,aAw]at this;rw[this];rfl
     have hx:=getD_at (l:=fB) (i:=c.toNat-97) (Ra h1 h2).1;rw[h2,aX,wrl h2,dO hx,aI (gV (by simp;omega) (by omega)),aJ rfl,hcut];refine(ih _ _ (by simp;omega) (by omega)).trans ?_;simp
    .have h2:eH c=false:=by simpa using h2
     have hsg:=aAM h1 h2 (Qj hc h1 h2);have hx:=getD_at (l:=eS) (i:=bN dB c) hsg.1;rw[h2,aK,aI (aTi h128),aTh,FP hsg.2.1,dO hx,aI (gV (by simp;omega) (by omega)),aI (aTe h128),aTd,UU,tE,cP,aE8,tE,cP,UT,aE7,a7P,aD (by decide)];have hcutd:(qL.contains c&&(bG a||eH a||decide (a=41)))=oF a c:=rfl;rw[hcutd];cases oF a c with
     |true=>
       rw[aX,aI (gV (by simp;omega) (by omega))];refine(ih _ _ (by simp;omega) (by simp;omega)).trans ?_;simp
     |false=>
       rw[aK];refine(ih _ _ (by simp;omega) (by omega)).trans ?_;simp
theorem aYS{N:Nat}{s:Tx}(hok:∀c∈s,j5 c=true)(h:s.length<N)(hB:s.length<=2^36):xG N s=some (dQ 40 s++[63],lT 40 0 s):=by
 unfold xG w34 Vo Vk;refine(bE (λz:O=>z.bind OV) (aGk (N:=N) (s:=s) s [] 40 [] [] N rfl hok (by simp;omega) (by simp;omega) h)).trans ?_;have:=(CL s 40).2;simp only[kR,j9];rw[aI (gV (by simp;omega) (by omega))];rfl
end Go.Proofs
/- Text of cells, Encode, Decode. -/
namespace Go.Proofs
open Go Go.Ax Go.Ax.aA
theorem aL0{c:UInt8}{r:Tx}:∀{l:Tx},(∀x∈l,x≠c)->Lib.indexByte (l++c::r) c=(l.length:Int)
 |[],_=>by simp[Lib.indexByte]
 |x::l,h=>by
   rw[List.cons_append];unfold Lib.indexByte;rw[aD (by simpa using h x (gN ..)),aL0 (l:=l) (λy hy=>h y (eY _ hy)),aD (by simp)];simp
theorem pQ{c:UInt8}:∀{l:Tx},Lib.indexByte l c<(l.length:Int) /\ -1<=Lib.indexByte l c
 |[]=>by simp[Lib.indexByte]
 |x::l=>by
   have:=pQ (c:=c) (l:=l);unfold Lib.indexByte;simp only[dD];split
   .omega
   .split
    .omega
    .rename_i h2
     have:Lib.indexByte l c≠-1:=by simpa using h2
     omega
theorem Dm{N:Nat}{l:Tx}{c:UInt8}:Dk N l c=true:=rfl
theorem Dl{N:Nat}{l:Tx}{c:UInt8}:lO N l c=Lib.indexByte l c:=rfl
theorem aDK{N:Nat}{l:Tx}{c:UInt8}(h:l.length<=2^40):Cy N c l=some (l++[c]):=by
 unfold Cy w73 T0;rw[cP,aI (gV (by simp;omega) (by omega))];rfl
theorem TZ{N:Nat}{l:Tx}{c:UInt8}(h:l.length<=2^40):DA N c l=true:=by unfold DA;rw[aDK h];rfl
theorem TY{N:Nat}{l:Tx}{c:UInt8}(h:l.length<=2^40):Cz N c l=l++[c]:=by unfold Cz;rw[aDK h];rfl
theorem aDF{N:Nat}{l:Tx}:Cw N l=some l:=by
 unfold Cw w74 TV;rw[aI (aQ rfl)];rfl
theorem aRE{N:Nat}{l:Tx}:LV N l=true:=by unfold LV;rw[aDF];rfl
theorem aRD{N:Nat}{l:Tx}:LS N l=l:=by unfold LS;rw[aDF];rfl
theorem aAL{b:Nat}{l:Tx}{c:UInt8}(hb:b<=100)(hl:l.length<=100)(h:0<=Lib.indexByte l c):eD (aC.wrap ((b:Int)+Lib.indexByte l c))=fF (b+bN l c):=by
 have h1:=pQ (c:=c) (l:=l);rw[FP h]at h1 ⊢;rw[wr (by omega) (by omega)];unfold eD
 congr 1
 omega
theorem V3{N:Nat}{l:Tx}(hl:l.length<=2^36){K:Tx×Bool->O}{k1:Tx->O}{k2:Unit->O}:∀(n:Nat)(r pre:Tx)(num:Bool)(out:Tx)(m:Nat),r.length<=n->l=pre++r->out.length+r.length<=2^36->n<m->
    As N m (l,num,(pre.length:Int),out) K k1 k2=(match fT num r with|some t=>k1 (out++t)|none=>K ([],false))
 |_,_,_,_,_,0,_,_,_,h=>by omega
 |_,[],pre,num,out,m+1,_,hs,_,_=>by
   show Dj _ _ _ _ _ _ _ _=_;unfold Dj;simp only[];have h0:l.length=pre.length:=by rw[hs];simp
   rw[aR (by omega),aK];simp[fT]
 |0,c::r,_,_,_,_,h,_,_,_=>by simp at h
 |n+1,c::r,pre,num,out,m+1,hn,hs,ho,hm=>by
   have hlt:pre.length<l.length:=by rw[hs];simp
   have hg:l[pre.length]?=some c:=by rw[hs,dW (bZ _)];simp
   simp only[dD]at hn ho;have ih:=λ(num':Bool)(out':Tx)(h1:out'.length+r.length<=2^36)=>
    V3 (N:=N) (l:=l) hl (K:=K) (k1:=k1) (k2:=k2) n r (pre++[c]) num' out' m (by omega) (by rw[hs];simp) h1 (by omega)
   have hpl:((pre++[c]).length:Int)=(pre.length:Int)+1:=by simp
   rw[hpl]at ih;show Dj _ _ _ _ _ _ _ _=_;unfold Dj;simp only[];rw[aQ (by omega),aX,dO hg,aI Dm,wr (x:=(pre.length:Int)+1) (by omega) (by omega)];unfold fT;by_cases h1:(num&&decide (0<=Lib.indexByte eE c))=true
   .have h2:0<=Lib.indexByte eE c:=by
     rw[bM]at h1;exact cU h1.2
    have e1:=aAL (b:=48) (l:=eE) (c:=c) (by omega) (by decide) h2;rw[aJ h1];rw[Dl,h1,aX];rw[show eD (aC.wrap ((48:Int)+Lib.indexByte eE c))=fF (48+bN eE c)from e1];rw[aI (TZ (by omega)),TY (by omega)];refine(ih _ _ (by simp;omega)).trans ?_;cases fT num r with
    |none=>rfl
    |some t=>simp
   .have h1:(num&&decide (0<=Lib.indexByte eE c))=false:=by simpa using h1
    rw[Dl,h1,aK,aD (by decide)];by_cases h3:c=60
    .subst h3
     rw[aQ rfl,aX,aJ rfl];exact ih true out (by omega)
    .rw[aR h3,aK,aD h3]
     by_cases h4:c=48
     .subst h4
      rw[aQ rfl,aX,aJ rfl];cases r with
      |nil=>
        have:(l.length:Int)=(pre.length:Int)+1:=by rw[hs];simp
        rw[aQ (by omega),aX]
      |cons d r'=>
        have hg2:l[pre.length+1]?=some d:=by
         rw[hs,dW (by omega),show pre.length+1-pre.length=1 by omega];rfl
        have hl2:pre.length+2<=l.length:=by rw[hs];simp
        simp only[dD]at hn ho;rw[aR (by omega),aK,show(pre.length:Int)+1=((pre.length+1:Nat):Int)by omega,dO hg2,aI Dm,Dl];simp only[];by_cases h5:Lib.indexByte fB d<0
        .rw[aQ h5,aX,aJ h5]
        .have e1:=aAL (b:=97) (l:=fB) (c:=d) (by omega) (by decide) (by omega)
         rw[aR h5,aK,aD h5];rw[show eD (aC.wrap ((97:Int)+Lib.indexByte fB d))=fF (97+bN fB d)from e1];rw[aI (TZ (by omega)),TY (by omega),wr (x:=((pre.length+1:Nat):Int)+1) (by omega) (by omega)];have hp2:((pre++[(48:UInt8),d]).length:Int)=((pre.length+1:Nat):Int)+1:=by simp;omega
         rw[<-hp2];refine(V3 (N:=N) (l:=l) hl (K:=K) (k1:=k1) (k2:=k2) n r' (pre++[48,d]) false (out++[fF (97+bN fB d)]) m (by omega) (by rw[hs];simp) (by simp;omega) (by omega)).trans ?_;cases fT false r' with
         |none=>rfl
         |some t=>simp
     .rw[aR h4,aK,aD h4,aI Dm,Dl]
      by_cases h5:Lib.indexByte eS c<0
      .rw[aQ h5,aX,aJ h5]
      .have h6:=pQ (c:=c) (l:=eS)
       have hx:bN eS c<10:=by unfold bN;have:(eS.length:Int)=10:=rfl;omega
       rw[aR h5,aK,aD h5];rw[FP (l:=eS) (Int.not_lt.1 h5),dO (getD_at (l:=dB) hx),aI (TZ (by omega)),TY (by omega)];refine(ih _ _ (by simp;omega)).trans ?_;cases fT false r with
       |none=>rfl
       |some t=>simp
theorem V2{N:Nat}{l:Tx}(h:l.length<N)(hB:l.length<=2^36):Ar N l=some (match fT false l with|some t=>(t,true)|none=>([],false)):=by
 unfold Ar w41 V4 VZ;refine(bE (λz:O=>z.bind Nr) (V3 (N:=N) (l:=l) hB l.length l [] false [] N (bZ _) rfl (by simp;omega) h)).trans ?_;cases fT false l with
 |none=>rfl
 |some t=>
   simp only[kR];rw[aI aRE,aRD];rfl
section
variable{N:Nat}{l:Tx}(h:l.length<N)(hB:l.length<=2^36)
include h hB
theorem aGI:Nt N l=true:=by unfold Nt;rw[V2 h hB];rfl
theorem aGG:HR N l=(fT false l).isSome:=by unfold HR;rw[V2 h hB];cases fT false l <;> rfl
theorem aGH:rW N l=(fT false l).getD []:=by unfold rW;rw[V2 h hB];cases fT false l <;> rfl
end
def cH(e:Ex):Tx:=if c9 e=0 then dQ 40 (gH e)++[63]else[]
theorem QP{e:Ex}(h:c9 e=0):c7 e=gH e:=by unfold c7;rw[aJ h]
theorem aGj{N:Nat}{e:Ex}(hN:70000<=N):xG N (c7 e)=some (dQ 40 (c7 e)++[63],lT 40 0 (c7 e)):=by
 have:=Iv (e:=e);exact aYS (Iu e) (by omega) (by omega)
section
variable{N:Nat}{e:Ex}(hN:70000<=N)(hs:aT e<=8500)
include hN hs
theorem Xg:Ee N e.op e.num e.kids=some (cH e,c9 e):=by
 have h1:=O2 (N:=N) (e:=e) (by omega) (by omega);have h2:=O1 (N:=N) (e:=e) (by omega) (by omega);have h3:=aGe (N:=N) (e:=e) (by omega) (by omega);have h4:=aGd (N:=N) (e:=e) (by omega) (by omega);have h5:=aGj (e:=e) hN;have h6:BA N (c7 e)=true:=by unfold BA;rw[h5];rfl
 have h7:OU N (c7 e)=dQ 40 (c7 e)++[63]:=by unfold OU;rw[h5];rfl
 unfold Ee w10 Xk cH;simp only[Ex.eta];rw[aI h1,h2];by_cases hv:c9 e=0
 .rw[aR (by simpa using hv),aK,aI h3,h4,aI h6,h7,aJ hv,hv,QP hv];rfl
 .rw[aQ hv,aX,aD hv];rfl
theorem Xj:Ef N e.op e.num e.kids=true:=by unfold Ef;rw[Xg hN hs];rfl
theorem Xi:xO N e.op e.num e.kids=cH e:=by unfold xO;rw[Xg hN hs];rfl
theorem Xh:Bc N e.op e.num e.kids=c9 e:=by unfold Bc;rw[Xg hN hs];rfl
end
theorem VX{N:Nat}{a b:Tx}:Nk N a b=true:=rfl
theorem VW{N:Nat}{a b:Tx}:Ni N a b=decide (a=b):=rfl
theorem Jg{e:Ex}(h:c9 e=0):cH e=dQ 40 (c7 e)++[63]:=by unfold cH;rw[aJ h,QP h]
theorem QY{e:Ex}(h:c9 e=0):aT e<=256:=by
 unfold c9 at h;split at h
 .cases h
 .rename_i h2;omega
theorem F0{e:Ex}:(cH e).length<=4097:=by
 unfold cH;split
 .rename_i h
  have h1:=(CL (gH e) 40).2;have h2:=Iv (e:=e);rw[QP h]at h2;simp;omega
 .simp
theorem PV{N:Nat}(hN:70000<=N){e:Ex}(hv:c9 e=0)(more:Tx)(hm:more.length<=2^30):nT N (cH e++more)=some (e.op,e.num,e.kids,((cH e).length:Int),0):=by
 have hsz:=QY hv;have hcl:=(CL (c7 e) 40).2;have htl:=Iv (e:=e);have he:=Jg hv;have hix:Lib.indexByte (cH e++more) 63=((dQ 40 (c7 e)).length:Int):=by
  rw[he,iC];exact aL0 (r:=more) (λx hx=>(aMP _ _ (Iu e) x hx).1)
 have hlen:(cH e++more).length=(dQ 40 (c7 e)).length+1+more.length:=by rw[he];simp;omega
 have ht1:c8 (cH e++more) none (some ((dQ 40 (c7 e)).length:Int))=dQ 40 (c7 e):=by
  show List.take _ _=_;rw[nC,he,iC];exact SB
 have ht2:c8 (cH e++more) none (some (((dQ 40 (c7 e)).length:Int)+1))=cH e:=by
  show List.take _ _=_;rw[show((((dQ 40 (c7 e)).length:Nat):Int)+1).toNat=(cH e).length by rw[he];simp];exact SB
 have hd:fT false (dQ 40 (c7 e))=some (c7 e):=aAF (c7 e) 40 (Iu e);have q0:=aGI (N:=N) (l:=dQ 40 (c7 e)) (by omega) (by omega);have q1:=aGH (N:=N) (l:=dQ 40 (c7 e)) (by omega) (by omega);have q2:=aGG (N:=N) (l:=dQ 40 (c7 e)) (by omega) (by omega);rw[hd]at q1 q2;have q1:rW N (dQ 40 (c7 e))=c7 e:=q1;have q2:HR N (dQ 40 (c7 e))=true:=q2;have rd:=aJu hN (e:=e) (by omega) hv;unfold nT PW IE;simp only[Dl,hix];rw[wr (x:=((dQ 40 (c7 e)).length:Int)+1) (by omega) (by omega)];simp only[ht1,ht2,q1,q2,aFy rd,aFx rd,aFw rd,aFv rd,Ex.eta,Xi hN (show aT e<=8500 by omega),Xh hN (show aT e<=8500 by omega),VW];rw[aI Dm,aR (by omega),aK,aI (by unfold dX;exact aQ (by omega)),aI q0,kU,aK,aI (aFz rd),aI (Xj hN (by omega)),hv];rw[show(decide ((0:Int)≠0)||decide ((0:Int)≠0))=false from rfl];rw[aI (by unfold dX;rw[gX,kU,vZ];exact aQ (by omega)),aI (by rw[VX,tE])];rw[show(false||!decide True)=false by decide,aK];have hl2:(((dQ 40 (c7 e)).length:Int)+1)=((cH e).length:Int):=by rw[he];simp
 rw[hl2];rfl
end Go.Proofs
/- The law on decoding. -/
namespace Go.Proofs
open Go Go.Ax Go.Ax.aA
theorem aIX{N:Nat}{a b:Tx}(hl:a.length<=2^40){K:Bool->O}{k1 k2:Unit->O}:∀(r r' pre pre':Tx)(m:Nat),a=pre++r->b=pre'++r'->pre.length=pre'.length->r.length=r'.length->r.length<m->
    BX N m (a,b,(pre.length:Int)) K k1 k2=if r=r' then k1 ()else K false
 |_,_,_,_,0,_,_,_,_,h=>by omega
 |[],r',pre,pre',m+1,ha,_,_,hr,_=>by
   show EX _ _ _ _ _ _ _=_;unfold EX;simp only[];have h0:a.length=pre.length:=by rw[ha];simp
   have h1:r'=[]:=List.eq_nil_of_length_eq_zero hr.symm;rw[aR (by omega),aK,h1,aJ rfl]
 |x::r,[],_,_,_,_,_,_,h,_=>by simp at h
 |x::r,y::r',pre,pre',m+1,ha,hb,hp,hr,hm=>by
   have hlt:pre.length<a.length:=by rw[ha];simp
   have hg:a[pre.length]?=some x:=by rw[ha,dW (bZ _)];simp
   have hg':b[pre.length]?=some y:=by rw[hb,hp,dW (bZ _)];simp
   show EX _ _ _ _ _ _ _=_;unfold EX;simp only[];rw[aQ (by omega),aX,dO hg,dO hg'];by_cases h:x=y
   .subst h
    rw[aR (by simp),aK,wr (by omega) (by omega)];have ih:=aIX (N:=N) (a:=a) (b:=b) hl (K:=K) (k1:=k1) (k2:=k2) r r' (pre++[x]) (pre'++[x]) m (by rw[ha];simp) (by rw[hb];simp) (by simp[hp]) (by simpa using hr) (by simp at hm;omega);have hpl:((pre++[x]).length:Int)=(pre.length:Int)+1:=by simp
    rw[hpl]at ih;refine ih.trans ?_;simp
   .rw[aQ h,aX,aD (by simp[h])]
theorem aIU{N:Nat}{a b:Tx}(hl:a.length<=2^40)(hN:a.length<N):EV N a b=some (decide (a=b)):=by
 unfold EV w14 XA Ww;by_cases h:a.length=b.length
 .rw[aR (by simp[h]),aK]
  refine(bE (λz:O=>z.bind P4) (aIX (N:=N) hl a b [] [] N rfl rfl rfl h hN)).trans ?_;by_cases hab:a=b
  .rw[aJ hab,aQ hab];rfl
  .rw[aD hab,aR hab];rfl
 .rw[aQ (by omega),aX,aR (λe=>h (by rw[e]))];rfl
theorem aIW{N:Nat}{a b:Tx}(hl:a.length<=2^40)(hN:a.length<N):IM N a b=true:=by unfold IM;rw[aIU hl hN];rfl
theorem aIV{N:Nat}{a b:Tx}(hl:a.length<=2^40)(hN:a.length<N):IL N a b=decide (a=b):=by unfold IL;rw[aIU hl hN];rfl
theorem aHx{N:Nat}{l:Tx}{m:Int}(h0:0<=m)(hl:m<=2^40):ER N l m=some (l.take m.toNat):=by
 have ht:c8 l none (some (min (l.length:Int) m))=l.take m.toNat:=by
  show l.take _=_;rw[List.take_eq_take_iff];omega
 unfold ER w19 Wl;rw[ht,aI (by unfold dX;exact aQ (by omega)),aI (gV (by simp;omega) (by omega))];rfl
theorem aHz{N:Nat}{l:Tx}{m:Int}(h0:0<=m)(hl:m<=2^40):IF N l m=true:=by unfold IF;rw[aHx h0 hl];rfl
theorem aHy{N:Nat}{l:Tx}{m:Int}(h0:0<=m)(hl:m<=2^40):lP N l m=l.take m.toNat:=by unfold lP;rw[aHx h0 hl];rfl
theorem aPW{N:Nat}(hN:5<=N){l:List Int}(hl:∀x∈l,iD x)(hlen:l.length<2^60):∃e,wJ N l=some (e.op,e.num,e.kids)/\aT e<=31:=by
 obtain⟨e,p1,q1,q2,q3,ok,hs,hd,_⟩:=aY0 (N:=N) (by omega) hl hlen 4;refine⟨e,?_,hs⟩;unfold wJ w8 Sq;rw[aI p1,q1,q2,q3];rfl
theorem aLz{N:Nat}(hN:70000<=N){e f:Ex}(he:c9 e=0)(hf:c9 f=0)(h:cH e=cH f):e=f:=by
 have h1:=PV hN he [] (by simp);have h2:=PV hN hf [] (by simp);rw[h,h2]at h1;have h3:=Option.some.inj h1;simp only[Prod.mk.injEq]at h3;rw[<-Ex.eta e,<-Ex.eta f,h3.1,h3.2.1,h3.2.2.1]
end Go.Proofs
/- The reference's code: the same cells and the same breaks. -/
namespace Go.Proofs
open Go Go.Ax Go.Ax.aA
theorem RO{α:Type}{z:α}{l:List α}{n:Int}{k:α->O}:gc false z l n k=k z:=rfl
theorem aDw{N:Nat}{c:UInt8}:Gg N c=true:=rfl
theorem aDv{N:Nat}{c:UInt8}:wV N c=bG c:=rfl
theorem aDl{N:Nat}{c:UInt8}:Lo N c=true:=rfl
theorem aDk{N:Nat}{c:UInt8}:Gc N c=eH c:=rfl
theorem aDq{N:Nat}:AZ N=true:=rfl
theorem aS3{N:Nat}:qE N=eE:=rfl
theorem aDf{N:Nat}:Ll N=true:=rfl
theorem aDe{N:Nat}:DH N=fB:=rfl
theorem a7V(x:UInt8)(l:Tx)(c:UInt8)(h:c∈l\/c=x):bN (x::l) c=if x=c then 0 else bN l c+1:=by
 have h1:=pQ (c:=c) (l:=l);unfold bN
 conv=>lhs;unfold Lib.indexByte
 by_cases h2:x=c
 .subst h2;simp
 .have h3:0<=Lib.indexByte l c:=by
   rcases h with h|h
   .rcases Int.lt_or_le (Lib.indexByte l c) 0 with hn|hn
    .exfalso
     have:∀l:Tx,c∈l->0<=Lib.indexByte l c:=by
      intro l
      induction l with
      |nil=>intro h;cases h
      |cons y l ih=>
        intro h;unfold Lib.indexByte;by_cases hy:y=c
        .subst hy;simp
        .have hc:c∈l:=by rcases eP.1 h with h|h;exact absurd h.symm hy;exact h
         have:=ih hc;simp[hy];split <;> omega
     have:=this l h;omega
    .exact hn
   .exact absurd h.symm h2
  simp only[h2,if_false];simp[h2];split
  .rename_i h4;omega
  .omega
theorem aD9{N:Nat}{c:UInt8}{K:UInt8->O}{k1 k2:Unit->O}:∀(r pre:Tx)(m:Nat),dB=pre++r->c∈r->r.length<m->
    wT N m (c,dB,(pre.length:Int)) K k1 k2=K (eS.getD (pre.length+bN r c) 0)
 |_,_,0,_,_,h=>by omega
 |[],_,_,_,h,_=>by cases h
 |x::r,pre,m+1,hs,hc,hm=>by
   have hl:dB.length=pre.length+(r.length+1):=by rw[hs];simp
   have hl:10=pre.length+(r.length+1):=hl;have hg:dB[pre.length]?=some x:=by rw[hs,dW (bZ _)];simp
   have hg2:eS[pre.length]?=some (eS.getD pre.length 0):=getD_at (l:=eS) (i:=pre.length) (show pre.length<10 by omega);have hc':c∈r\/c=x:=(eP.1 hc).symm;show wU _ _ _ _ _ _ _=_;unfold wU;simp only[];rw[aQ (show(pre.length:Int)<(((dB:Tx).length:Nat):Int)from(show(pre.length:Int)<((10:Nat):Int)by omega)),aX,dO hg,a7V x r c hc'];by_cases h:x=c
   .rw[aQ h,aX,dO hg2,aJ h];rfl
   .rw[aR h,aK,aD h,wr (by omega) (by omega)]
    have hcr:c∈r:=hc'.resolve_right (λe=>h e.symm);have ih:=aD9 (N:=N) (c:=c) (K:=K) (k1:=k1) (k2:=k2) r (pre++[x]) m (by rw[hs];simp) hcr (by simp at hm;omega);have hpl:((pre++[x]).length:Int)=(pre.length:Int)+1:=by simp
    rw[hpl]at ih;refine ih.trans ?_;rw[show(pre++[x]).length+bN r c=pre.length+(bN r c+1)by simp;omega]
theorem aD7{N:Nat}(hN:10<N){c:UInt8}(h:dB.contains c=true):wS N c=some (eS.getD (bN dB c) 0):=by
 have hm:c∈dB:=by simpa using h
 unfold wS Tm Li Lf;refine(bE (λz:O=>z.bind G9) (aD9 (N:=N) (c:=c) dB [] N rfl hm hN)).trans ?_;simp only[j9,Nat.zero_add];rfl
def YH(c:UInt8):Bool:=
 let y1:=if decide (c≠43)then c else 0
 let y2:=if decide (c≠43)&&decide (y1≠45)then c else 0
 let y3:=if decide (c≠43)&&decide (y1≠45)&&decide (y2≠42)then c else 0
 let y4:=if decide (c≠43)&&decide (y1≠45)&&decide (y2≠42)&&decide (y3≠47)then c else 0
 let y5:=if decide (c≠43)&&decide (y1≠45)&&decide (y2≠42)&&decide (y3≠47)&&decide (y4≠61)then c else 0
 decide (c≠43)&&decide (y1≠45)&&decide (y2≠42)&&decide (y3≠47)&&decide (y4≠61)&&decide (y5≠60)
theorem a3z(c:UInt8):YH c=!qL.contains c:=by
 have:=nY (p:=λc=>YH c == !qL.contains c) (by kernel_rfl) c;simpa using this
theorem a7R(a:UInt8):(bG a||eH (if !bG a then a else 0)||decide ((if !(bG a||eH (if !bG a then a else 0))then a else 0)=41))=(bG a||eH a||decide (a=41)):=by
 have:=nY (p:=λa=>(bG a||eH (if !bG a then a else 0)||decide ((if !(bG a||eH (if !bG a then a else 0))then a else 0)=41)) == (bG a||eH a||decide (a=41))) (by kernel_rfl) a;simpa using this
theorem aR7{N:Nat}{s:Tx}:tN N s 0=some false:=by
 unfold tN Tb L5;simp only[decide_true,kU,iU,RO,Bool.true_or,aX];rfl
theorem aR6{N:Nat}{p r:Tx}{a c:UInt8}(hl:p.length<2^40):tN N (p++[a]++c::r) ((p.length:Int)+1)=some (oF a c):=by
 have hg:(p++[a]++c::r)[p.length+1]?=some c:=by
  rw[dW (by simp)];simp
 have hga:(p++[a]++c::r)[p.length]?=some a:=by
  rw[iC,dW (bZ _)];simp
 have e1:(p.length:Int)+1=((p.length+1:Nat):Int):=by omega
 have e2:aC.wrap ((p.length:Int)+1-1)=(p.length:Int):=by rw[wr (by omega) (by omega)];omega
 unfold tN Tb L5;simp only[e2];rw[aR (show ¬ ((p.length:Int)+1=0)by omega),e1];simp only[gX,iE,vZ,vJ hg,gZ];have ht:=a3z c;unfold YH at ht;simp only[]at ht;rw[ht];unfold oF;cases hb:qL.contains c with
 |false=>simp only[gX,aX];rfl
 |true=>
   simp only[kU,aK,dO hga,aDw,aDv,aDl,aDk,cP,vJ hga,tE,iE,a7R];rfl
theorem a4H{c:UInt8}(h:bG c=true):(((c-48:UInt8).toNat:Nat):Int)=((c.toNat-48:Nat):Int):=by
 have:=nY (p:=λc=>!bG c||(c-48:UInt8).toNat == c.toNat-48) (by kernel_rfl) c;rw[h]at this;simp at this;rw[this]
theorem a4F{c:UInt8}(h:eH c=true):(((c-97:UInt8).toNat:Nat):Int)=((c.toNat-97:Nat):Int):=by
 have:=nY (p:=λc=>!eH c||(c-97:UInt8).toNat == c.toNat-97) (by kernel_rfl) c;rw[h]at this;simp at this;rw[this]
theorem aXt{N:Nat}(hN:10<N){s r pre:Tx}{a c:UInt8}{out:Tx}{brk:List Int}{K:Tx->Int->Tx->List Int->O}(hs:s=pre++c::r)(hok:j5 c=true)(ha:pre=[]/\a=40\/∃p,pre=p++[a])(ho:out.length<=2^40)(hl:pre.length<=2^39):
    OM N K s (pre.length:Int) c out brk=K s (pre.length:Int) (out++oH a c) brk:=by
 unfold OM oH;simp only[aDw,aDv,aDl,aDk,aDq,aS3,aDf,aDe,cP];by_cases h1:bG c=true
 .have hx:=getD_at (l:=eE) (i:=c.toNat-48) (Rb h1).1
  rw[aJ h1,h1,aX,a4H h1];simp only[dO hx];rcases ha with⟨rfl,rfl⟩|⟨p,rfl⟩
  .rw[aQ (show((([]:Tx).length:Nat):Int)=0 from rfl)]
   simp only[kU,RO,Bool.true_or,gX,cP,aX];rw[aI (gV (by simp;omega) (by omega)),aI (gV (by simp;omega) (by omega))];simp[show bG 40=false from rfl]
  .have hlp:(p++[a]).length=p.length+1:=by simp
   have hga:s[p.length]?=some a:=by rw[hs,iC,dW (bZ _)];simp
   rw[aR (by rw[hlp];omega)];rw[show aC.wrap ((((p++[a]).length:Nat):Int)-1)=(p.length:Int)by rw[hlp,wr (by omega) (by omega)];omega];simp only[gX,vJ hga,gZ,kU,vZ,cP];cases h2:bG a with
   |true=>
     simp only[kU,aK];rw[aI (gV (by simp;omega) (by omega))];simp
   |false=>
     simp only[gX,aX];rw[aI (gV (by simp;omega) (by omega)),aI (gV (by simp;omega) (by omega))];simp
 .have h1:bG c=false:=by simpa using h1
  rw[h1,aK,aD (by decide)];by_cases h2:eH c=true
  .have hx:=getD_at (l:=fB) (i:=c.toNat-97) (Ra h1 h2).1
   rw[aJ h2,h2,aX,a4F h2,dO hx,aI (gV (by simp;omega) (by omega))]
  .have h2:eH c=false:=by simpa using h2
   have hz:=aD7 hN (Qj hok h1 h2);have hp:AX N c=true:=by unfold AX;rw[hz];rfl
   have hy:tO N c=eS.getD (bN dB c) 0:=by unfold tO;rw[hz];rfl
   rw[h2,aK,aD (by decide),aI hp,hy,aI (gV (by simp;omega) (by omega))]
theorem aG3{N:Nat}(hN:10<N){s:Tx}(hl:s.length<=2^39){K:Tx×List Int->O}{k1 k2:Unit->O}:∀(r pre:Tx)(a:UInt8)(out:Tx)(brk:List Int)(m:Nat),s=pre++r->(∀c∈r,j5 c=true)->(pre=[]/\a=40\/∃p,pre=p++[a])->out.length+2*r.length<=2^40->brk.length+r.length<=2^40->r.length<m->
    Aw N m (s,(pre.length:Int),out,brk) K k1 k2=K (out++dQ a r,brk++lT a out.length r)
 |_,_,_,_,_,0,_,_,_,_,_,h=>by omega
 |[],pre,a,out,brk,m+1,hs,_,_,_,_,_=>by
   show Dr _ _ _ _ _ _ _ _ _=_;unfold Dr;simp only[];have h0:s.length=pre.length:=by rw[hs];simp
   rw[aR (by omega),aK];simp[dQ,lT]
 |c::r,pre,a,out,brk,m+1,hs,hok,ha,ho,hb,hm=>by
   have hc:=hok c (gN ..);have hlt:pre.length<s.length:=by rw[hs];simp
   have hg:s[pre.length]?=some c:=by rw[hs,dW (bZ _)];simp
   simp only[dD]at ho hb hm;have hce:=(CL [c] a).2;simp only[dQ,List.append_nil,dD,j9]at hce;have ih:=λ(o':Tx)(b':List Int)(h1:o'.length+2*r.length<=2^40)(h2:b'.length+r.length<=2^40)=>
    aG3 hN (s:=s) hl (K:=K) (k1:=k1) (k2:=k2) r (pre++[c]) c o' b' m (by rw[hs];simp) (λd hd=>hok d (eY _ hd)) (.inr ⟨pre,rfl⟩) h1 h2 (by omega)
   have hpl:((pre++[c]).length:Int)=(pre.length:Int)+1:=by simp
   rw[hpl]at ih;have h70:tN N s (pre.length:Int)=some (oF a c):=by
    rcases ha with⟨rfl,rfl⟩|⟨p,rfl⟩
    .refine aR7.trans ?_
     unfold oF;rw[show(bG 40||eH 40||decide ((40:UInt8)=41))=false from rfl,Fj]
    .have:=aR6 (N:=N) (p:=p) (r:=r) (a:=a) (c:=c) (by simp at hlt;omega)
     rw[hs,show(((p++[a]).length:Nat):Int)=(p.length:Int)+1 by simp];exact this
   have p70:L4 N s (pre.length:Int)=true:=by unfold L4;rw[h70];rfl
   have y70:L3 N s (pre.length:Int)=oF a c:=by unfold L3;rw[h70];rfl
   show Dr _ _ _ _ _ _ _ _ _=_;unfold Dr;simp only[];rw[aQ (by omega),aX];unfold OI HY Vg;simp only[];rw[dO hg];unfold HX HZ;simp only[];rw[aXt hN hs hc ha (by omega) (by omega),aI p70,y70,wr (by omega) (by omega)];unfold dQ lT;cases oF a c with
   |true=>
     rw[aX,aI (gV (by simp;omega) (by omega))];refine(ih _ _ (by simp;omega) (by simp;omega)).trans ?_;simp
   |false=>
     rw[aK];refine(ih _ _ (by simp;omega) (by omega)).trans ?_;simp
theorem aXs{N:Nat}(hN:10<N){s:Tx}(hok:∀c∈s,j5 c=true)(h:s.length<N)(hB:s.length<=2^36):xE N s=some (dQ 40 s++[63],lT 40 0 s):=by
 unfold xE w37 Vf V9;refine(bE (λz:O=>z.bind OC) (aG3 (N:=N) hN (s:=s) (by omega) s [] 40 [] [] N rfl hok (.inl ⟨rfl,rfl⟩) (by simp;omega) (by simp;omega) h)).trans ?_;have:=(CL s 40).2;simp only[kR,j9];rw[aI (gV (by simp;omega) (by omega))];rfl
def mW(e:Ex):List Int:=if c9 e=0 then lT 40 0 (c7 e)else[]
section
variable{N:Nat}{e:Ex}(hN:70000<=N)(hs:aT e<=8500)
include hN
theorem aG2:xE N (c7 e)=some (dQ 40 (c7 e)++[63],lT 40 0 (c7 e)):=by
 have:=Iv (e:=e);exact aXs (by omega) (Iu e) (by omega) (by omega)
include hs
theorem XJ:E5 N e.op e.num e.kids=some (cH e,c9 e):=by
 have h1:=OP (N:=N) (e:=e) (by omega) (by omega);have h2:=OO (N:=N) (e:=e) (by omega) (by omega);have h3:=aGU (N:=N) (e:=e) (by omega) (by omega) (by omega);have h4:=aGT (N:=N) (e:=e) (by omega) (by omega) (by omega);have h5:=aG2 (e:=e) hN;have h6:Av N (c7 e)=true:=by unfold Av;rw[h5];rfl
 have h7:OB N (c7 e)=dQ 40 (c7 e)++[63]:=by unfold OB;rw[h5];rfl
 unfold E5 w11 XK cH;simp only[Ex.eta];rw[aI h1,h2];by_cases hv:c9 e=0
 .rw[aR (by simpa using hv),aK,aI h3,h4,aI h6,h7,aJ hv,hv,QP hv];rfl
 .rw[aQ hv,aX,aD hv];rfl
theorem aIc:IT N e.op e.num e.kids=true:=by unfold IT;rw[XJ hN hs];rfl
theorem aIb:BZ N e.op e.num e.kids=cH e:=by unfold BZ;rw[XJ hN hs];rfl
theorem aIa:E6 N e.op e.num e.kids=c9 e:=by unfold E6;rw[XJ hN hs];rfl
end
theorem aMW:∀(s:Tx)(a:UInt8)(n:Nat),(lT a n s).length<=s.length
 |[],_,_=>bZ _
 |c::s,a,n=>by
   have:=aMW s c (n+(oH a c).length);unfold lT;rw[dK,dD];split <;> simp <;> omega
theorem aMY{e:Ex}:(mW e).length<=17000:=by
 unfold mW;split
 .have:=aMW (c7 e) 40 0
  have:=Iv (e:=e);omega
 .simp
end Go.Proofs
