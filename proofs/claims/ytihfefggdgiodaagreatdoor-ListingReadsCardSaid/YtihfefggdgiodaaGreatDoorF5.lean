/- What functions do. Conditions are in the theorems. -/
import Derived.Test.YtihfefggdgiodaaGreatDoorE7
import Derived.Test.YtihfefggdgiodaaGreatDoorProg
import Derived.KernelRfl
import Derived.Test.YtihfefggdgiodaaGreatDoorF4
open And renaming intro->aK
open Eq renaming trans->eZ
open Go.IntKind renaming i64->aS
/- What functions do. -/
namespace Go.Proofs
noncomputable section
open Go.Ax Go.Ax.aA Go.RowKit Go.Ab
abbrev aD:=List UInt8
open Go
def nN(a0:aD):aH:=(.e .tx a0,[])
def aHh(N:(Nat×(Int->Option (aD)))):List (Nat×bO):=[(52,E1 (.i .i64) (λx0=>((N.2 x0).isSome,nN (((N.2 x0).getD [])))))]
def DV(N:(Nat×(Int->Option (aD)))):Cx:=⟨Tryz.prog,99999,aHh N,[]⟩
def Vk:Code:=Tryz.f52.body.getD .skip
theorem aHe(N:(Nat×(Int->Option (aD))))(hs:aV Tryz.prog 52 (E1 (.i .i64) (λx0=>((N.2 x0).isSome,nN (((N.2 x0).getD [])))))):aJ (DV N):=cM (by kernel_rfl) (.cons (by kernel_rfl) hs .nil) .nil
def NX[aA](N:(Nat×(Int->Option (aD))))(n0:Int):O:=
 br (decide (n0<10))
  (some (nN [nU (aS.wrap ((48:Int)+n0))]))
  (ck true <|
  ck ((N.2 (aS.wrap (n0.tdiv (10:Int)))).isSome)<|
  ck true <|
  ck (decide ((↑((N.2 (aS.wrap (n0.tdiv (10:Int)))).getD []).length:Int)+(↑[nU (aS.wrap ((48:Int)+n0.tmod (10:Int)))].length:Int)<=(9223372036854775807:Int)))<|
  some (nN ((N.2 (aS.wrap (n0.tdiv (10:Int)))).getD []++[nU (aS.wrap ((48:Int)+n0.tmod (10:Int)))])))
def Vm[aA] N n0:=NX N n0
def Vi[aA](_:(Nat×(Int->Option (aD)))):Hint:=.d
theorem aHc(N:(Nat×(Int->Option (aD)))):bN (DV N) Tryz.f52.ntmps (Vi N) Vk:=bW _ _ trivial
theorem aHa[aA] N n0:NX N n0=exec (DV N) Tryz.f52.ntmps (Vi N) Vk ⟨cC 0 [.e (.i .i64) n0],[],100⟩ (cJ (DV N) Tryz.f52 false):=by kernel_rfl
def NV(r:aH):Option (aD):=match r with
 |(x0,[])=>(match ue .tx x0 with|some a0=>some a0|_=>none)
 |_=>none
theorem aH9{r d}(h:NV r=some d):r=nN (d):=by
 unfold NV at h;split at h
 .split at h
  .rename_i h0;cases h;rw[b7 h0];rfl
  .cases h
 .cases h
def HS N n0:=(Vm N n0).bind NV
theorem aHd{N}(hc:aJ (DV N)){n0 d}(hd:HS N n0=some d):cR Tryz.prog 52 [.e (.i .i64) n0] [] (nN (d)):=
 c8 hc (by kernel_rfl) (by kernel_rfl) (aHc N) (by kernel_rfl) aH9 (aHa N n0).symm.trans hd
def mE(N:Nat):Nat->Int->Option (aD)
 |0,_=>none
 |n+1,n0=>HS (N,mE N n) n0
theorem Vl(N:Nat):∀n,aV Tryz.prog 52 (E1 (.i .i64) (λx0=>((mE N n x0).isSome,nN (((mE N n x0).getD [])))))
 |0=>aV.e1 (λ_ h=>by cases h)
 |n+1=>aV.e1 (λx0 h=>by
   obtain⟨d,hd⟩:=Option.isSome_iff_exists.1 h;have hd':mE N (n+1) x0=some d:=hd;have e:nN (((mE N (n+1) x0).getD []))=nN (d):=by rw[hd'];rfl
   show cN _ _ _ _ (nN (((mE N (n+1) x0).getD []))).1.D (HA (nN (((mE N (n+1) x0).getD []))).2);rw[e];exact aHd (N:=(N,mE N n)) (aHe (N,mE N n) (Vl N n)) hd')
def DU N n0:=(mE N N n0).isSome
def mD N n0:=((mE N N n0).getD [])
def Vj(N:Nat):bO:=E1 (.i .i64) (λx0=>(DU N x0,nN (mD N x0)))
theorem aHb N:aV Tryz.prog 52 (Vj N):=Vl N N
def Df(a0:(List aD)):aH:=(.e (.sl (.sl .u8)) a0,[])
def sH(N:Nat):Cx:=⟨Tryz.prog,99999,[(60,Mz N),(61,Mw N)],[]⟩
def OJ:Code:=Tryz.f39.body.getD .skip
theorem aKJ N:aJ (sH N):=cM (by kernel_rfl) (.cons (by kernel_rfl) (VR N) (.cons (by kernel_rfl) (VJ N) .nil)) .nil
def IU[aA](N:Nat)(self:Int->(List aD)->O)(k0:(List aD)->O)(x0_0:aD)(x0_1:Int)(x0_2:(List aD)):O:=
 br (decide (x0_1<(↑x0_0.length:Int)))
  (ck (DP N x0_0)<|
  br (decide (DN N x0_0<=x0_1))
   (ck (b8 (x0_2++[[(32:UInt8),(2:UInt8)]]).length (24:Nat))<|
   self (aS.wrap (x0_1+1)) (x0_2++[[(32:UInt8),(2:UInt8)]]))
   (gx x0_0 x0_1 λy4=>
   ck (DL N y4)<|
   ck (b8 (x0_2++[wR N y4]).length (24:Nat))<|
   self (aS.wrap (x0_1+1)) (x0_2++[wR N y4])))
  (k0 x0_2)
def OI:Code:=cX [1,1,0,1,0,0] OJ
def X0:Nm:=⟨[0,3,4],[],[.kG 3 (.row 23 (.sl .u8) [] true)]⟩
def xS(x:aD×Int×(List aD)):Sg:=⟨[(0,.e .tx x.1),(3,.own 0),(4,.e (.i .i64) x.2.1)],[(0,.row 23 (.sl .u8) x.2.2 true)],100⟩
def IS(σ:Sg):aD×Int×(List aD):=(aG .tx 0 0 σ,aG (.i .i64) 4 0 σ,cI (.sl .u8) 0 σ)
theorem aKC:∀x,IS (xS x)=x:=λ_=>by kernel_rfl
def IT(y:(List aD)):Exit×Sg:=((.exit 0),⟨[(3,.own 0)],[(0,.row 23 (.sl .u8) y true)],100⟩)
def aKA(_:Exit)(σ:Sg):(List aD):=cI (.sl .u8) 0 σ
def aJz:List (Exit×Nm):=[((.exit 0),⟨[3],[],[]⟩)]
def xR[aA](N:Nat):Nat->(aD×Int×(List aD))->(((List aD))->O)->((Unit)->O)->((Unit)->O)->O
 |0,_,_,_,_=>none
 |n+1,x,k0,k1,k2=>IU N (λv0 v1=>xR N n (x.1,v0,v1) k0 k1 k2) (λy0=>k0 y0) x.1 x.2.1 x.2.2
def OH[aA] N a0 a1 a2 (k0:(List aD)->O):=xR N N (a0,a1,a2) (λy=>k0 y) (λ_=>none) (λ_=>none)
def XZ[aA] N a0 a1 a2 (k0:(List aD)->O):=aW xS IS (xR N N) (xS (a0,a1,a2)) (λy=>k0 y) (λ_=>none) (λ_=>none)
theorem aKI[aA] N:XZ N=OH N:=funext λ_=>funext λ_=>funext λ_=>funext λ_=>dY aKC _ _ _ _
theorem aKD[aA](N:Nat)(self:Sg->O)(K:Exit->Sg->O)(x:aD×Int×(List aD)):IU N (λv0 v1=>self (xS (x.1,v0,v1))) (λy0=>K (IT y0).1 (IT y0).2) x.1 x.2.1 x.2.2=exec (sH N) Tryz.f39.ntmps .d OI (xS x) (dQ X0 aJz self K):=by kernel_rfl
theorem aKM N (hc:aJ (sH N)):dB (sH N) Tryz.f39.ntmps (.loop OI) IT (aR 1) (aR 2) (aW xS IS (xR N N)):=
 eG hc (dS OI) (iZ aKA (.exit 0) (λ_=>by kernel_rfl) (λ_=>rfl) (by kernel_rfl)) (n:=N) (λx K=>eH (xR N) (λ_ _ _ _=>rfl) (λn K ih x=>by
  refine eZ ?_ (aKD N _ K x);simp only[<-ih];rfl) N x K)
def OL[aA](_:Nat)(in0:aD->Int->(List aD)->((List aD)->O)->O)(s0:aD):O:=
 in0 s0 0 []
  (λz5=>
   some (Df z5))
def X4[aA] N s0:=OL N (OH N) s0
def X1[aA](N:Nat):Hint:=(.seq .d (.seq .d (.seq (.seq .d (.block (.sub X0 _ _ _ IT (aR 1) (aR 2) (aW xS IS (xR N N))))) .d)))
theorem aKG N (hc:aJ (sH N)):bN (sH N) Tryz.f39.ntmps (X1 N) OJ:=bW _ _ (aK trivial (aK trivial (aK (aK trivial (aKM N hc)) trivial)))
theorem aKE[aA] N s0:OL N (XZ N) s0=exec (sH N) Tryz.f39.ntmps (X1 N) OJ ⟨cC 0 [.e .tx s0],[],100⟩ (cJ (sH N) Tryz.f39 false):=by kernel_rfl
def IQ(r:aH):Option ((List aD)):=match r with
 |(x0,[])=>(match ue (.sl (.sl .u8)) x0 with|some a0=>some a0|_=>none)
 |_=>none
theorem aKB{r d}(h:IQ r=some d):r=Df (d):=by
 unfold IQ at h;split at h
 .split at h
  .rename_i h0;cases h;rw[b7 h0];rfl
  .cases h
 .cases h
def BT N s0:=(X4 N s0).bind IQ
theorem aKH{N}(hc:aJ (sH N)){s0 d}(hd:BT N s0=some d):cR Tryz.prog 39 [.e .tx s0] [] (Df (d)):=
 c8 hc (by kernel_rfl) (by kernel_rfl) (aKG N hc) (by kernel_rfl) aKB (λhr=>(aKE N s0).symm.trans (by rw[aKI N];exact hr)) hd
def BU N s0:=(BT N s0).isSome
def sG N s0:=((BT N s0).getD [])
def X2(N:Nat):bO:=E1 .tx (λx0=>(BU N x0,Df (sG N x0)))
theorem aKF N:aV Tryz.prog 39 (X2 N):=aV.e1 (λx0 h=>dO (z:=BT N x0) h (aKH (aKJ N)) rfl)
def x9(a0:(List aD)):aH:=(.e (.sl (.sl .u8)) a0,[])
def sK(N:Nat):Cx:=⟨Tryz.prog,99999,[(39,aAS N),(52,Vj N)],[]⟩
def Oe:Code:=Tryz.f30.body.getD .skip
theorem aLV N:aJ (sK N):=cM (by kernel_rfl) (.cons (by kernel_rfl) (aPa N) (.cons (by kernel_rfl) (aHb N) .nil)) .nil
def Iv[aA](_:Nat)(self:Int->O)(k0:aD->Int->O)(x0_0:aD)(x0_1:Int):O:=
 gc (decide (x0_1<(↑x0_0.length:Int))) 0 x0_0 x0_1 λy3=>
 br (decide (x0_1<(↑x0_0.length:Int))&&decide (y3=32))
  (self (aS.wrap (x0_1+1)))
  (k0 x0_0 x0_1)
def Od:Code:=cX [1,1,0,0,0] Oe
def YK:Nm:=⟨[0,3],[],[]⟩
def yB(x:aD×Int):Sg:=⟨[(0,.e .tx x.1),(3,.e (.i .i64) x.2)],[],100⟩
def Is(σ:Sg):aD×Int:=(aG .tx 0 0 σ,aG (.i .i64) 3 0 σ)
theorem aLP:∀x,Is (yB x)=x:=λ_=>by kernel_rfl
def Iu(y:aD×Int):Exit×Sg:=((.exit 0),⟨[(0,.e .tx y.1),(3,.e (.i .i64) y.2)],[],100⟩)
def aLN(_:Exit)(σ:Sg):aD×Int:=(aG .tx 0 0 σ,aG (.i .i64) 3 0 σ)
def aLM:List (Exit×Nm):=[((.exit 0),⟨[0,3],[],[]⟩)]
def yA[aA](N:Nat):Nat->(aD×Int)->((aD×Int)->O)->((Unit)->O)->((Unit)->O)->O
 |0,_,_,_,_=>none
 |n+1,x,k0,k1,k2=>Iv N (λv0=>yA N n (x.1,v0) k0 k1 k2) (λy0 y1=>k0 (y0,y1)) x.1 x.2
def Ob[aA] N a0 a1 (k0:aD->Int->O):=yA N N (a0,a1) (λy=>k0 y.1 y.2) (λ_=>none) (λ_=>none)
def YI[aA] N a0 a1 (k0:aD->Int->O):=aW yB Is (yA N N) (yB (a0,a1)) (λy=>k0 y.1 y.2) (λ_=>none) (λ_=>none)
theorem aLU[aA] N:YI N=Ob N:=funext λ_=>funext λ_=>funext λ_=>dY aLP _ _ _ _
theorem aLQ[aA](N:Nat)(self:Sg->O)(K:Exit->Sg->O)(x:aD×Int):Iv N (λv0=>self (yB (x.1,v0))) (λy0 y1=>K (Iu (y0,y1)).1 (Iu (y0,y1)).2) x.1 x.2=exec (sK N) Tryz.f30.ntmps .d Od (yB x) (dQ YK aLM self K):=by kernel_rfl
theorem aLW N (hc:aJ (sK N)):dB (sK N) Tryz.f30.ntmps (.loop Od) Iu (aR 1) (aR 2) (aW yB Is (yA N N)):=
 eG hc (dS Od) (iZ aLN (.exit 0) (λ_=>by kernel_rfl) (λ_=>rfl) (by kernel_rfl)) (n:=N) (λx K=>eH (yA N) (λ_ _ _ _=>rfl) (λn K ih x=>by
  refine eZ ?_ (aLQ N _ K x);simp only[<-ih];rfl) N x K)
def Of[aA](N:Nat)(in0:aD->Int->(aD->Int->O)->O)(s0:aD):O:=
 in0 s0 0
  (λz4 z5=>
   ck (DU N z5)<|
   ck (zW N (mD N z5))<|
   br (decide (z5=(↑z4.length:Int)))
    (some (x9 (kC N (mD N z5))))
    (ck (b8 (kC N (mD N z5)++[[(0:UInt8)]]).length (24:Nat))<|
    ck (dJ z4.length (some z5) none)<|
    ck (zW N (cA z4 (some z5) none))<|
    ck (b8 (kC N (mD N z5)++[[(0:UInt8)]]++kC N (cA z4 (some z5) none)).length (24:Nat))<|
    some (x9 (kC N (mD N z5)++[[(0:UInt8)]]++kC N (cA z4 (some z5) none)))))
def YQ[aA] N s0:=Of N (Ob N) s0
def YL[aA](N:Nat):Hint:=(.seq .d (.seq .d (.seq (.block (.sub YK _ _ _ Iu (aR 1) (aR 2) (aW yB Is (yA N N)))) .d)))
theorem aLS N (hc:aJ (sK N)):bN (sK N) Tryz.f30.ntmps (YL N) Oe:=bW _ _ (aK trivial (aK trivial (aK (aLW N hc) trivial)))
theorem aLR[aA] N s0:Of N (YI N) s0=exec (sK N) Tryz.f30.ntmps (YL N) Oe ⟨cC 0 [.e .tx s0],[],100⟩ (cJ (sK N) Tryz.f30 false):=by kernel_rfl
def Ir(r:aH):Option ((List aD)):=match r with
 |(x0,[])=>(match ue (.sl (.sl .u8)) x0 with|some a0=>some a0|_=>none)
 |_=>none
theorem aLO{r d}(h:Ir r=some d):r=x9 (d):=by
 unfold Ir at h;split at h
 .split at h
  .rename_i h0;cases h;rw[b7 h0];rfl
  .cases h
 .cases h
def B5 N s0:=(YQ N s0).bind Ir
theorem aLT{N}(hc:aJ (sK N)){s0 d}(hd:B5 N s0=some d):cR Tryz.prog 30 [.e .tx s0] [] (x9 (d)):=
 c8 hc (by kernel_rfl) (by kernel_rfl) (aLS N hc) (by kernel_rfl) aLO (λhr=>(aLR N s0).symm.trans (by rw[aLU N];exact hr)) hd
def oZ N s0:=(B5 N s0).isSome
def gR N s0:=((B5 N s0).getD [])
def Oc(N:Nat):bO:=E1 .tx (λx0=>(oZ N x0,x9 (gR N x0)))
theorem YJ N:aV Tryz.prog 30 (Oc N):=aV.e1 (λx0 h=>dO (z:=B5 N x0) h (aLT (aLV N)) rfl)
def Dg(a0:aD):aH:=(.e (.sl .u8) a0,[])
def sI(_:Nat):Cx:=⟨Tryz.prog,99999,[],[]⟩
def OP:Code:=Tryz.f38.body.getD .skip
theorem aKW N:aJ (sI N):=cM (by kernel_rfl) .nil .nil
def I4[aA](_:Nat)(self:Int->aD->O)(k0:aD->O)(x0_0:(List aD))(x0_1:Int)(x0_2:aD):O:=
 br (decide (x0_1<(↑x0_0.length:Int)))
  (gx x0_0 x0_1 λy4=>
  ck (b8 (x0_2++y4).length (1:Nat))<|
  self (aS.wrap (x0_1+1)) (x0_2++y4))
  (k0 x0_2)
def OO:Code:=cX [1,1,0,1,0,0] OP
def X6:Nm:=⟨[0,3,4],[],[.kG 3 (.row 5 .u8 [] true)]⟩
def xU(x:(List aD)×Int×aD):Sg:=⟨[(0,.e (.sl (.sl .u8)) x.1),(3,.own 0),(4,.e (.i .i64) x.2.1)],[(0,.row 5 .u8 x.2.2 true)],100⟩
def IW(σ:Sg):(List aD)×Int×aD:=(aG (.sl (.sl .u8)) 0 0 σ,aG (.i .i64) 4 0 σ,cI .u8 0 σ)
theorem aKQ:∀x,IW (xU x)=x:=λ_=>by kernel_rfl
def I0(y:aD):Exit×Sg:=((.exit 0),⟨[(3,.own 0)],[(0,.row 5 .u8 y true)],100⟩)
def aKO(_:Exit)(σ:Sg):aD:=cI .u8 0 σ
def aKN:List (Exit×Nm):=[((.exit 0),⟨[3],[],[]⟩)]
def xT[aA](N:Nat):Nat->((List aD)×Int×aD)->((aD)->O)->((Unit)->O)->((Unit)->O)->O
 |0,_,_,_,_=>none
 |n+1,x,k0,k1,k2=>I4 N (λv0 v1=>xT N n (x.1,v0,v1) k0 k1 k2) (λy0=>k0 y0) x.1 x.2.1 x.2.2
def ON[aA] N a0 a1 a2 (k0:aD->O):=xT N N (a0,a1,a2) (λy=>k0 y) (λ_=>none) (λ_=>none)
def X5[aA] N a0 a1 a2 (k0:aD->O):=aW xU IW (xT N N) (xU (a0,a1,a2)) (λy=>k0 y) (λ_=>none) (λ_=>none)
theorem aKV[aA] N:X5 N=ON N:=funext λ_=>funext λ_=>funext λ_=>funext λ_=>dY aKQ _ _ _ _
theorem aKR[aA](N:Nat)(self:Sg->O)(K:Exit->Sg->O)(x:(List aD)×Int×aD):I4 N (λv0 v1=>self (xU (x.1,v0,v1))) (λy0=>K (I0 y0).1 (I0 y0).2) x.1 x.2.1 x.2.2=exec (sI N) Tryz.f38.ntmps .d OO (xU x) (dQ X6 aKN self K):=by kernel_rfl
theorem aKX N (hc:aJ (sI N)):dB (sI N) Tryz.f38.ntmps (.loop OO) I0 (aR 1) (aR 2) (aW xU IW (xT N N)):=
 eG hc (dS OO) (iZ aKO (.exit 0) (λ_=>by kernel_rfl) (λ_=>rfl) (by kernel_rfl)) (n:=N) (λx K=>eH (xT N) (λ_ _ _ _=>rfl) (λn K ih x=>by
  refine eZ ?_ (aKR N _ K x);simp only[<-ih];rfl) N x K)
def OQ[aA](_:Nat)(in0:(List aD)->Int->aD->(aD->O)->O)(l0:(List aD)):O:=
 in0 l0 0 []
  (λz5=>
   some (Dg z5))
def Xa[aA] N l0:=OQ N (ON N) l0
def X7[aA](N:Nat):Hint:=(.seq .d (.seq .d (.seq (.seq .d (.block (.sub X6 _ _ _ I0 (aR 1) (aR 2) (aW xU IW (xT N N))))) .d)))
theorem aKT N (hc:aJ (sI N)):bN (sI N) Tryz.f38.ntmps (X7 N) OP:=bW _ _ (aK trivial (aK trivial (aK (aK trivial (aKX N hc)) trivial)))
theorem aKS[aA] N l0:OQ N (X5 N) l0=exec (sI N) Tryz.f38.ntmps (X7 N) OP ⟨cC 0 [.e (.sl (.sl .u8)) l0],[],100⟩ (cJ (sI N) Tryz.f38 false):=by kernel_rfl
def IV(r:aH):Option (aD):=match r with
 |(x0,[])=>(match ue (.sl .u8) x0 with|some a0=>some a0|_=>none)
 |_=>none
theorem aKP{r d}(h:IV r=some d):r=Dg (d):=by
 unfold IV at h;split at h
 .split at h
  .rename_i h0;cases h;rw[b7 h0];rfl
  .cases h
 .cases h
def BV N l0:=(Xa N l0).bind IV
theorem aKU{N}(hc:aJ (sI N)){l0 d}(hd:BV N l0=some d):cR Tryz.prog 38 [.e (.sl (.sl .u8)) l0] [] (Dg (d)):=
 c8 hc (by kernel_rfl) (by kernel_rfl) (aKT N hc) (by kernel_rfl) aKP (λhr=>(aKS N l0).symm.trans (by rw[aKV N];exact hr)) hd
def lB N l0:=(BV N l0).isSome
def gG N l0:=((BV N l0).getD [])
def IX(N:Nat):bO:=E1 (.sl (.sl .u8)) (λx0=>(lB N x0,Dg (gG N x0)))
theorem OM N:aV Tryz.prog 38 (IX N):=aV.e1 (λx0 h=>dO (z:=BV N x0) h (aKU (aKW N)) rfl)
def D0(a0:(List aD)):aH:=(.e (.sl (.sl .u8)) a0,[])
def lU(N:Nat):Cx:=⟨Tryz.prog,99999,[(30,Oc N),(38,IX N)],[]⟩
def Hj:Code:=Tryz.f48.body.getD .skip
theorem aIg N:aJ (lU N):=cM (by kernel_rfl) (.cons (by kernel_rfl) (YJ N) (.cons (by kernel_rfl) (OM N) .nil)) .nil
def Hn[aA](_:Nat)(self:(List aD)->aD->O)(k0:Int->(List aD)->(List aD)->aD->O)(x39_0:Int)(x39_2 x39_1:(List aD))(x39_3:aD):O:=
 gx x39_1 0 λy46=>
 br (decide (aS.wrap (aS.wrap ((↑x39_3.length:Int)+(↑y46.length:Int))+(1:Int))<=x39_0))
  (gx x39_1 0 λy47=>
  ck (b8 (x39_3++y47).length (1:Nat))<|
  ck (dJ x39_1.length (some (1:Int)) none)<|
  self (cA x39_1 (some (1:Int)) none) (x39_3++y47))
  (k0 x39_0 x39_1 x39_2 x39_3)
def Nf:Code:=cX [1,1,1,0,0,0,1,0,1,0,0,0] Hj
def WN:Nm:=⟨[1,5,6,7],[],[.kG 7 (.row 5 .u8 [] true)]⟩
def xF(x:Int×(List aD)×(List aD)×aD):Sg:=⟨[(1,.e (.i .i64) x.1),(5,.e (.sl (.sl .u8)) x.2.1),(6,.own 0),(7,.own 1)],[(0,.row 23 (.sl .u8) x.2.2.1 true),(1,.row 5 .u8 x.2.2.2 true)],100⟩
def Hg(σ:Sg):Int×(List aD)×(List aD)×aD:=(aG (.i .i64) 1 0 σ,aG (.sl (.sl .u8)) 5 0 σ,cI (.sl .u8) 0 σ,cI .u8 1 σ)
theorem aI7:∀x,Hg (xF x)=x:=λ_=>by kernel_rfl
def Hl(y:Int×(List aD)×(List aD)×aD):Exit×Sg:=((.exit 2),⟨[(1,.e (.i .i64) y.1),(5,.e (.sl (.sl .u8)) y.2.1),(6,.own 0),(7,.own 1)],[(0,.row 23 (.sl .u8) y.2.2.1 true),(1,.row 5 .u8 y.2.2.2 true)],100⟩)
def aI4(_:Exit)(σ:Sg):Int×(List aD)×(List aD)×aD:=(aG (.i .i64) 1 0 σ,aG (.sl (.sl .u8)) 5 0 σ,cI (.sl .u8) 0 σ,cI .u8 1 σ)
def aI2:List (Exit×Nm):=[((.exit 2),⟨[1,5,6,7],[],[]⟩)]
def xD[aA](N:Nat):Nat->(Int×(List aD)×(List aD)×aD)->((Int×(List aD)×(List aD)×aD)->O)->((Unit)->O)->((Unit)->O)->O
 |0,_,_,_,_=>none
 |n+1,x,k0,k1,k2=>Hn N (λv0 v1=>xD N n (x.1,v0,x.2.2.1,v1) k0 k1 k2) (λy0 y1 y2 y3=>k0 (y0,y1,y2,y3)) x.1 x.2.2.1 x.2.1 x.2.2.2
def Hi[aA] N a0 a1 a2 a3 (k0:Int->(List aD)->(List aD)->aD->O):=xD N N (a0,a1,a2,a3) (λy=>k0 y.1 y.2.1 y.2.2.1 y.2.2.2) (λ_=>none) (λ_=>none)
def Na[aA] N a0 a1 a2 a3 (k0:Int->(List aD)->(List aD)->aD->O):=aW xF Hg (xD N N) (xF (a0,a1,a2,a3)) (λy=>k0 y.1 y.2.1 y.2.2.1 y.2.2.2) (λ_=>none) (λ_=>none)
theorem WR[aA] N:Na N=Hi N:=funext λ_=>funext λ_=>funext λ_=>funext λ_=>funext λ_=>dY aI7 _ _ _ _
theorem aI9[aA](N:Nat)(self:Sg->O)(K:Exit->Sg->O)(x:Int×(List aD)×(List aD)×aD):Hn N (λv0 v1=>self (xF (x.1,v0,x.2.2.1,v1))) (λy0 y1 y2 y3=>K (Hl (y0,y1,y2,y3)).1 (Hl (y0,y1,y2,y3)).2) x.1 x.2.2.1 x.2.1 x.2.2.2=exec (lU N) Tryz.f48.ntmps .d Nf (xF x) (dQ WN aI2 self K):=by kernel_rfl
theorem aIk N (hc:aJ (lU N)):dB (lU N) Tryz.f48.ntmps (.loop Nf) Hl (aR 1) (aR 2) (aW xF Hg (xD N N)):=
 eG hc (dS Nf) (iZ aI4 (.exit 2) (λ_=>by kernel_rfl) (λ_=>rfl) (by kernel_rfl)) (n:=N) (λx K=>eH (xD N) (λ_ _ _ _=>rfl) (λn K ih x=>by
  refine eZ ?_ (aI9 N _ K x);simp only[<-ih];rfl) N x K)
def Hm[aA](N:Nat)(in0:Int->(List aD)->(List aD)->aD->(Int->(List aD)->(List aD)->aD->O)->O)(self:Int->(List aD)->(List aD)->O)(k0:(List aD)->(List aD)->O)(x0_0:Int)(x0_1 x0_2:(List aD)):O:=
 ck (lB N x0_1)<|
 br (decide (x0_0<(↑(gG N x0_1).length:Int)))
  (in0 x0_0 x0_1 x0_2 []
   (λz48 z49 z50 z51=>
    ck (b8 (z51++[(63:UInt8)]).length (1:Nat))<|
    ck (b8 (z50++[z51++[(63:UInt8)]]).length (24:Nat))<|
    self z48 z49 (z50++[z51++[(63:UInt8)]])))
  (k0 x0_1 x0_2)
def Nc:Code:=cX [1,1,1,0,0,0] Hj
def WM:Nm:=⟨[1,5,6],[],[.kG 6 (.row 23 (.sl .u8) [] true)]⟩
def xE(x:Int×(List aD)×(List aD)):Sg:=⟨[(1,.e (.i .i64) x.1),(5,.e (.sl (.sl .u8)) x.2.1),(6,.own 0)],[(0,.row 23 (.sl .u8) x.2.2 true)],100⟩
def Hf(σ:Sg):Int×(List aD)×(List aD):=(aG (.i .i64) 1 0 σ,aG (.sl (.sl .u8)) 5 0 σ,cI (.sl .u8) 0 σ)
theorem aI6:∀x,Hf (xE x)=x:=λ_=>by kernel_rfl
def Hk(y:(List aD)×(List aD)):Exit×Sg:=((.exit 0),⟨[(5,.e (.sl (.sl .u8)) y.1),(6,.own 0)],[(0,.row 23 (.sl .u8) y.2 true)],100⟩)
def aI3(_:Exit)(σ:Sg):(List aD)×(List aD):=(aG (.sl (.sl .u8)) 5 0 σ,cI (.sl .u8) 0 σ)
def aI1:List (Exit×Nm):=[((.exit 0),⟨[5,6],[],[]⟩)]
def qC[aA](N:Nat):Nat->(Int×(List aD)×(List aD))->(((List aD)×(List aD))->O)->((Unit)->O)->((Unit)->O)->O
 |0,_,_,_,_=>none
 |n+1,x,k0,k1,k2=>Hm N (Hi N) (λv0 v1 v2=>qC N n (v0,v1,v2) k0 k1 k2) (λy0 y1=>k0 (y0,y1)) x.1 x.2.1 x.2.2
def Nb[aA] N a0 a1 a2 (k0:(List aD)->(List aD)->O):=qC N N (a0,a1,a2) (λy=>k0 y.1 y.2) (λ_=>none) (λ_=>none)
def WL[aA] N a0 a1 a2 (k0:(List aD)->(List aD)->O):=aW xE Hf (qC N N) (xE (a0,a1,a2)) (λy=>k0 y.1 y.2) (λ_=>none) (λ_=>none)
theorem aIf[aA] N:WL N=Nb N:=funext λ_=>funext λ_=>funext λ_=>funext λ_=>dY aI6 _ _ _ _
def WO[aA](N:Nat):Hint:=(.seq .d (.block (.seq .d (.seq (.block (.sub WN _ _ _ Hl (aR 1) (aR 2) (aW xF Hg (xD N N)))) .d))))
theorem aIc N (hc:aJ (lU N)):bN (lU N) Tryz.f48.ntmps (WO N) Nc:=bW _ _ (aK trivial (aK trivial (aK (aIk N hc) trivial)))
theorem aI8[aA](N:Nat)(self:Sg->O)(K:Exit->Sg->O)(x:Int×(List aD)×(List aD)):Hm N (Na N) (λv0 v1 v2=>self (xE (v0,v1,v2))) (λy0 y1=>K (Hk (y0,y1)).1 (Hk (y0,y1)).2) x.1 x.2.1 x.2.2=exec (lU N) Tryz.f48.ntmps (WO N) Nc (xE x) (dQ WM aI1 self K):=by kernel_rfl
theorem aIj N (hc:aJ (lU N)):dB (lU N) Tryz.f48.ntmps (.loop Nc) Hk (aR 1) (aR 2) (aW xE Hf (qC N N)):=
 eG hc (aIc N hc) (iZ aI3 (.exit 0) (λ_=>by kernel_rfl) (λ_=>rfl) (by kernel_rfl)) (n:=N) (λx K=>eH (qC N) (λ_ _ _ _=>rfl) (λn K ih x=>by
  refine eZ ?_ (aI8 N _ K x);simp only[WR N,<-ih];rfl) N x K)
def Ng[aA](N:Nat)(_in0:Int->(List aD)->(List aD)->aD->(Int->(List aD)->(List aD)->aD->O)->O)(in1:Int->(List aD)->(List aD)->((List aD)->(List aD)->O)->O)(s0:aD)(width1:Int):O:=
 ck (oZ N s0)<|
 in1 width1 (gR N s0) []
  (λz52 z53=>
   ck (lB N z52)<|
   ck (b8 (z53++[gG N z52]).length (24:Nat))<|
   some (D0 (z53++[gG N z52])))
def WW[aA] N s0 width1:=Ng N (Hi N) (Nb N) s0 width1
def WQ[aA](N:Nat):Hint:=(.seq .d (.seq .d (.seq .d (.seq (.block (.sub WM _ _ _ Hk (aR 1) (aR 2) (aW xE Hf (qC N N)))) .d))))
theorem aId N (hc:aJ (lU N)):bN (lU N) Tryz.f48.ntmps (WQ N) Hj:=bW _ _ (aK trivial (aK trivial (aK trivial (aK (aIj N hc) trivial))))
theorem aIa[aA] N s0 width1:Ng N (Na N) (WL N) s0 width1=exec (lU N) Tryz.f48.ntmps (WQ N) Hj ⟨cC 0 [.e .tx s0,.e (.i .i64) width1],[],100⟩ (cJ (lU N) Tryz.f48 false):=by kernel_rfl
def He(r:aH):Option ((List aD)):=match r with
 |(x0,[])=>(match ue (.sl (.sl .u8)) x0 with|some a0=>some a0|_=>none)
 |_=>none
theorem aI5{r d}(h:He r=some d):r=D0 (d):=by
 unfold He at h;split at h
 .split at h
  .rename_i h0;cases h;rw[b7 h0];rfl
  .cases h
 .cases h
def BJ N s0 width1:=(WW N s0 width1).bind He
theorem aIe{N}(hc:aJ (lU N)){s0 width1 d}(hd:BJ N s0 width1=some d):cR Tryz.prog 48 [.e .tx s0,.e (.i .i64) width1] [] (D0 (d)):=
 c8 hc (by kernel_rfl) (by kernel_rfl) (aId N hc) (by kernel_rfl) aI5 (λhr=>(aIa N s0 width1).symm.trans (by rw[WR N,aIf N];exact hr)) hd
def Hh N s0 width1:=(BJ N s0 width1).isSome
def DZ N s0 width1:=((BJ N s0 width1).getD [])
def WS(N:Nat):bO:=E2 .tx (.i .i64) (λx0 x1=>(Hh N x0 x1,D0 (DZ N x0 x1)))
theorem aIb N:aV Tryz.prog 48 (WS N):=aV.e2 (λx0 x1 h=>dO (z:=BJ N x0 x1) h (aIe (aIg N)) rfl)
def qD(a0:UInt8):aH:=(.e .u8 a0,[])
def Da(_:Nat):Cx:=⟨Tryz.prog,99999,[],[]⟩
def XB:Code:=Tryz.f43.body.getD .skip
theorem aJf N:aJ (Da N):=cM (by kernel_rfl) .nil .nil
def Nz[aA](_:Nat)(c0:UInt8):O:=
 br (decide (32<=c0)&&decide (c0<=58))
  (some (qD (c0+(32:UInt8))))
  (br (decide (59<=c0)&&decide (c0<=62))
   (some (qD (c0+(64:UInt8))))
   (br (decide (c0=3))
    (some (qD 96))
    (br (decide (c0=1))
     (some (qD 95))
     (br (decide (c0=2))
      (some (qD 32))
      (some (qD 0))))))
def XF[aA] N c0:=Nz N c0
def Wz[aA](_:Nat):Hint:=.d
theorem aJd N:bN (Da N) Tryz.f43.ntmps (Wz N) XB:=bW _ _ trivial
theorem aJb[aA] N c0:Nz N c0=exec (Da N) Tryz.f43.ntmps (Wz N) XB ⟨cC 0 [.e .u8 c0],[],100⟩ (cJ (Da N) Tryz.f43 false):=by kernel_rfl
def xO(r:aH):Option (UInt8):=match r with
 |(x0,[])=>(match ue .u8 x0 with|some a0=>some a0|_=>none)
 |_=>none
theorem aJa{r d}(h:xO r=some d):r=qD (d):=by
 unfold xO at h;split at h
 .split at h
  .rename_i h0;cases h;rw[b7 h0];rfl
  .cases h
 .cases h
def BO N c0:=(XF N c0).bind xO
theorem aJe{N}(hc:aJ (Da N)){c0 d}(hd:BO N c0=some d):cR Tryz.prog 43 [.e .u8 c0] [] (qD (d)):=
 c8 hc (by kernel_rfl) (by kernel_rfl) (aJd N) (by kernel_rfl) aJa (aJb N c0).symm.trans hd
def D9 N c0:=(BO N c0).isSome
def BP N c0:=((BO N c0).getD 0)
def XA(N:Nat):bO:=E1 .u8 (λx0=>(D9 N x0,qD (BP N x0)))
theorem aJc N:aV Tryz.prog 43 (XA N):=aV.e1 (λx0 h=>dO (z:=BO N x0) h (aJe (aJf N)) rfl)
def sU(a0:aD)(a1:Int):aH:=(.aT [.e .tx a0,.e (.i .i64) a1],[])
def sV(N:Nat):Cx:=⟨Tryz.prog,99999,[(43,XA N),(39,X2 N),(38,IX N),(12,KM N)],[]⟩
def Pj:Code:=Tryz.f16.body.getD .skip
theorem aNo N:aJ (sV N):=cM (by kernel_rfl) (.cons (by kernel_rfl) (aJc N) (.cons (by kernel_rfl) (aKF N) (.cons (by kernel_rfl) (OM N) (.cons (by kernel_rfl) (Pz N) .nil)))) .nil
def Jt[aA](N:Nat)(self:Int->aD->O)(k0:aD->Int->O)(k1:aD->aD->O)(x0_0:aD)(x0_1:Int)(x0_2:aD):O:=
 br (decide (x0_1<(↑x0_0.length:Int)))
  (gx x0_0 x0_1 λy25=>
  br (decide (y25=32))
   (gc (!decide ((↑x0_0.length:Int)<=aS.wrap (x0_1+1))) 0 x0_0 (aS.wrap (x0_1+1)) λy26=>
   ck (!!decide ((↑x0_0.length:Int)<=aS.wrap (x0_1+1))||D9 N y26)<|
   br (decide ((↑x0_0.length:Int)<=aS.wrap (x0_1+1))||decide (BP N y26=(0:UInt8)))
    (k0 [] 2)
    (gx x0_0 (aS.wrap (x0_1+1)) λy27=>
    ck (D9 N y27)<|
    ck (b8 (x0_2++[BP N y27]).length (1:Nat))<|
    self (aS.wrap (aS.wrap (x0_1+1)+(1:Int))) (x0_2++[BP N y27])))
   (gx x0_0 x0_1 λy28=>
   gc (decide (33<=y28)) 0 x0_0 x0_1 λy29=>
   br (decide (33<=y28)&&decide (y29<=58))
    (gx x0_0 x0_1 λy30=>
    ck (b8 (x0_2++[y30+(64:UInt8)]).length (1:Nat))<|
    self (aS.wrap (x0_1+1)) (x0_2++[y30+(64:UInt8)]))
    (gx x0_0 x0_1 λy31=>
    br (decide (y31<=62))
     (gx x0_0 x0_1 λy32=>
     ck (b8 (x0_2++[y32+(32:UInt8)]).length (1:Nat))<|
     self (aS.wrap (x0_1+1)) (x0_2++[y32+(32:UInt8)]))
     (k0 [] 2))))
  (k1 x0_0 x0_2)
def Ph:Code:=cX [1,1,0,1,0,0] Pj
def Z1:Nm:=⟨[0,4,5],[],[.kG 4 (.row 5 .u8 [] true)]⟩
def zG(x:aD×Int×aD):Sg:=⟨[(0,.e (.sl .u8) x.1),(4,.own 0),(5,.e (.i .i64) x.2.1)],[(0,.row 5 .u8 x.2.2 true)],100⟩
def Jp(σ:Sg):aD×Int×aD:=(aG (.sl .u8) 0 0 σ,aG (.i .i64) 5 0 σ,cI .u8 0 σ)
theorem aNh:∀x,Jp (zG x)=x:=λ_=>by kernel_rfl
def Js(y:aD×Int):Exit×Sg:=(.ret,⟨[(2,.e .tx y.1),(3,.e (.i .i64) y.2)],[],100⟩)
def aNf(_:Exit)(σ:Sg):aD×Int:=(aG .tx 2 0 σ,aG (.i .i64) 3 0 σ)
def Jr(y:aD×aD):Exit×Sg:=((.exit 0),⟨[(0,.e (.sl .u8) y.1),(4,.own 0)],[(0,.row 5 .u8 y.2 true)],100⟩)
def aNe(_:Exit)(σ:Sg):aD×aD:=(aG (.sl .u8) 0 0 σ,cI .u8 0 σ)
def aNd:List (Exit×Nm):=[(.ret,⟨[2,3],[],[]⟩),((.exit 0),⟨[0,4],[],[]⟩)]
def zF[aA](N:Nat):Nat->(aD×Int×aD)->((aD×Int)->O)->((aD×aD)->O)->((Unit)->O)->O
 |0,_,_,_,_=>none
 |n+1,x,k0,k1,k2=>Jt N (λv0 v1=>zF N n (x.1,v0,v1) k0 k1 k2) (λy0 y1=>k0 (y0,y1)) (λy0 y1=>k1 (y0,y1)) x.1 x.2.1 x.2.2
def Pg[aA] N a0 a1 a2 (k0:aD->Int->O) (k1:aD->aD->O):=zF N N (a0,a1,a2) (λy=>k0 y.1 y.2) (λy=>k1 y.1 y.2) (λ_=>none)
def Z0[aA] N a0 a1 a2 (k0:aD->Int->O) (k1:aD->aD->O):=aW zG Jp (zF N N) (zG (a0,a1,a2)) (λy=>k0 y.1 y.2) (λy=>k1 y.1 y.2) (λ_=>none)
theorem aNn[aA] N:Z0 N=Pg N:=funext λ_=>funext λ_=>funext λ_=>funext λ_=>funext λ_=>dY aNh _ _ _ _
theorem aNi[aA](N:Nat)(self:Sg->O)(K:Exit->Sg->O)(x:aD×Int×aD):Jt N (λv0 v1=>self (zG (x.1,v0,v1))) (λy0 y1=>K (Js (y0,y1)).1 (Js (y0,y1)).2) (λy0 y1=>K (Jr (y0,y1)).1 (Jr (y0,y1)).2) x.1 x.2.1 x.2.2=exec (sV N) Tryz.f16.ntmps .d Ph (zG x) (dQ Z1 aNd self K):=by kernel_rfl
theorem aNs N (hc:aJ (sV N)):dB (sV N) Tryz.f16.ntmps (.loop Ph) Js Jr (aR 2) (aW zG Jp (zF N N)):=
 eG hc (dS Ph) (jI aNf aNe .ret (.exit 0) (λ_=>by kernel_rfl) (λ_=>by kernel_rfl) (λ_=>rfl) (λ_=>rfl) (by kernel_rfl)) (n:=N) (λx K=>eH (zF N) (λ_ _ _ _=>rfl) (λn K ih x=>by
  refine eZ ?_ (aNi N _ K x);simp only[<-ih];rfl) N x K)
def Pl[aA](N:Nat)(in0:aD->Int->aD->(aD->Int->O)->(aD->aD->O)->O)(l0:aD):O:=
 in0 l0 0 []
  (λz33 z34=>
   some (sU z33 z34))
  (λz35 z36=>
   ck (BU N z36)<|
   ck (lB N (sG N z36))<|
   ck (mG N (gG N (sG N z36)) z35)<|
   br (!mF N (gG N (sG N z36)) z35)
    (some (sU [] 2))
    (some (sU z36 0)))
def Z4[aA] N l0:=Pl N (Pg N) l0
def Z2[aA](N:Nat):Hint:=(.seq .d (.seq .d (.seq (.seq .d (.block (.sub Z1 _ _ _ Js Jr (aR 2) (aW zG Jp (zF N N))))) .d)))
theorem aNl N (hc:aJ (sV N)):bN (sV N) Tryz.f16.ntmps (Z2 N) Pj:=bW _ _ (aK trivial (aK trivial (aK (aK trivial (aNs N hc)) trivial)))
theorem aNj[aA] N l0:Pl N (Z0 N) l0=exec (sV N) Tryz.f16.ntmps (Z2 N) Pj ⟨cC 0 [.e (.sl .u8) l0],[],100⟩ (cJ (sV N) Tryz.f16 false):=by kernel_rfl
def EE(r:aH):Option (aD×Int):=match r with
 |(.aT [x0,x1],[])=>(match ue .tx x0,ue (.i .i64) x1 with|some a0,some a1=>some (a0,a1)|_,_=>none)
 |_=>none
theorem aNg{r d}(h:EE r=some d):r=sU d.1 d.2:=by
 unfold EE at h;split at h
 .split at h
  .rename_i h0 h1;cases h;rw[b7 h0,b7 h1];rfl
  .cases h
 .cases h
def zE N l0:=(Z4 N l0).bind EE
theorem aNm{N}(hc:aJ (sV N)){l0 d}(hd:zE N l0=some d):cR Tryz.prog 16 [.e (.sl .u8) l0] [] (sU d.1 d.2):=
 c8 hc (by kernel_rfl) (by kernel_rfl) (aNl N hc) (by kernel_rfl) aNg (λhr=>(aNj N l0).symm.trans (by rw[aNn N];exact hr)) hd
def EF N l0:=(zE N l0).isSome
def lC N l0:=((zE N l0).getD ([],0)).1
def ED N l0:=((zE N l0).getD ([],0)).2
def Z3(N:Nat):bO:=E1 (.sl .u8) (λx0=>(EF N x0,sU (lC N x0) (ED N x0)))
theorem aNk N:aV Tryz.prog 16 (Z3 N):=aV.e1 (λx0 h=>dO (z:=zE N x0) h (aNm (aNo N)) rfl)
def oX(a0:aD)(a1:Bool):aH:=(.aT [.e .tx a0,.e .bo a1],[])
def nO(N:Nat):Cx:=⟨Tryz.prog,99999,[(16,Z3 N),(30,Oc N),(38,IX N),(12,KM N)],[]⟩
def HX:Code:=Tryz.f51.body.getD .skip
theorem aHx N:aJ (nO N):=cM (by kernel_rfl) (.cons (by kernel_rfl) (aNk N) (.cons (by kernel_rfl) (YJ N) (.cons (by kernel_rfl) (OM N) (.cons (by kernel_rfl) (Pz N) .nil)))) .nil
def H4[aA](_:Nat)(self:Int->Int->O)(k0:aD->Bool->Int->Int->O)(x0_0:aD)(x0_1:Bool)(x0_2 x0_3:Int):O:=
 gc (decide (x0_2<(↑x0_0.length:Int))&&decide (x0_2<3)) 0 x0_0 x0_2 λy7=>
 gc (decide (x0_2<(↑x0_0.length:Int))&&decide (x0_2<3)&&decide (16<=y7)) 0 x0_0 x0_2 λy8=>
 br (decide (x0_2<(↑x0_0.length:Int))&&decide (x0_2<3)&&decide (16<=y7)&&decide (y8<=25))
  (gx x0_0 x0_2 λy9=>
  self (aS.wrap (x0_2+1)) (aS.wrap (aS.wrap (aS.wrap ((10:Int)*x0_3)+aS.wrap (↑y9.toNat:Int))-(16:Int))))
  (k0 x0_0 x0_1 x0_2 x0_3)
def N1:Code:=cX [1,1,1,0,0,0] HX
def Vq:Nm:=⟨[0,3,4,5],[],[]⟩
def w6(x:aD×Bool×Int×Int):Sg:=⟨[(0,.e (.sl .u8) x.1),(3,.e .bo x.2.1),(4,.e (.i .i64) x.2.2.1),(5,.e (.i .i64) x.2.2.2)],[],100⟩
def HV(σ:Sg):aD×Bool×Int×Int:=(aG (.sl .u8) 0 0 σ,aG .bo 3 0 σ,aG (.i .i64) 4 0 σ,aG (.i .i64) 5 0 σ)
theorem aHo:∀x,HV (w6 x)=x:=λ_=>by kernel_rfl
def HZ(y:aD×Bool×Int×Int):Exit×Sg:=((.exit 0),⟨[(0,.e (.sl .u8) y.1),(3,.e .bo y.2.1),(4,.e (.i .i64) y.2.2.1),(5,.e (.i .i64) y.2.2.2)],[],100⟩)
def aHl(_:Exit)(σ:Sg):aD×Bool×Int×Int:=(aG (.sl .u8) 0 0 σ,aG .bo 3 0 σ,aG (.i .i64) 4 0 σ,aG (.i .i64) 5 0 σ)
def aHj:List (Exit×Nm):=[((.exit 0),⟨[0,3,4,5],[],[]⟩)]
def w3[aA](N:Nat):Nat->(aD×Bool×Int×Int)->((aD×Bool×Int×Int)->O)->((Unit)->O)->((Unit)->O)->O
 |0,_,_,_,_=>none
 |n+1,x,k0,k1,k2=>H4 N (λv0 v1=>w3 N n (x.1,x.2.1,v0,v1) k0 k1 k2) (λy0 y1 y2 y3=>k0 (y0,y1,y2,y3)) x.1 x.2.1 x.2.2.1 x.2.2.2
def NZ[aA] N a0 a1 a2 a3 (k0:aD->Bool->Int->Int->O):=w3 N N (a0,a1,a2,a3) (λy=>k0 y.1 y.2.1 y.2.2.1 y.2.2.2) (λ_=>none) (λ_=>none)
def Vo[aA] N a0 a1 a2 a3 (k0:aD->Bool->Int->Int->O):=aW w6 HV (w3 N N) (w6 (a0,a1,a2,a3)) (λy=>k0 y.1 y.2.1 y.2.2.1 y.2.2.2) (λ_=>none) (λ_=>none)
theorem aHw[aA] N:Vo N=NZ N:=funext λ_=>funext λ_=>funext λ_=>funext λ_=>funext λ_=>dY aHo _ _ _ _
theorem aHq[aA](N:Nat)(self:Sg->O)(K:Exit->Sg->O)(x:aD×Bool×Int×Int):H4 N (λv0 v1=>self (w6 (x.1,x.2.1,v0,v1))) (λy0 y1 y2 y3=>K (HZ (y0,y1,y2,y3)).1 (HZ (y0,y1,y2,y3)).2) x.1 x.2.1 x.2.2.1 x.2.2.2=exec (nO N) Tryz.f51.ntmps .d N1 (w6 x) (dQ Vq aHj self K):=by kernel_rfl
theorem aIC N (hc:aJ (nO N)):dB (nO N) Tryz.f51.ntmps (.loop N1) HZ (aR 1) (aR 2) (aW w6 HV (w3 N N)):=
 eG hc (dS N1) (iZ aHl (.exit 0) (λ_=>by kernel_rfl) (λ_=>rfl) (by kernel_rfl)) (n:=N) (λx K=>eH (w3 N) (λ_ _ _ _=>rfl) (λn K ih x=>by
  refine eZ ?_ (aHq N _ K x);simp only[<-ih];rfl) N x K)
def H0[aA](_:Nat)(self:aD->Int->O)(k0:aD->Int->aD->O)(x14_0:aD)(_x14_1:Bool)(x14_2 x14_3:Int)(x14_4:aD)(x14_5:Int):O:=
 br (decide (x14_5<x14_3)&&decide (x14_5<81))
  (ck (decide ((↑x14_4.length:Int)+(1:Int)<=(9223372036854775807:Int)))<|
  self (x14_4++[(32:UInt8)]) (aS.wrap (x14_5+1)))
  (k0 x14_0 x14_2 x14_4)
def N0:Code:=cX [1,1,1,1,1,0,1,0,0] HX
def Vp:Nm:=⟨[0,3,4,5,6,7],[],[]⟩
def w4(x:aD×Bool×Int×Int×aD×Int):Sg:=⟨[(0,.e (.sl .u8) x.1),(3,.e .bo x.2.1),(4,.e (.i .i64) x.2.2.1),(5,.e (.i .i64) x.2.2.2.1),(6,.e .tx x.2.2.2.2.1),(7,.e (.i .i64) x.2.2.2.2.2)],[],100⟩
def HU(σ:Sg):aD×Bool×Int×Int×aD×Int:=(aG (.sl .u8) 0 0 σ,aG .bo 3 0 σ,aG (.i .i64) 4 0 σ,aG (.i .i64) 5 0 σ,aG .tx 6 0 σ,aG (.i .i64) 7 0 σ)
theorem aHn:∀x,HU (w4 x)=x:=λ_=>by kernel_rfl
def HY(y:aD×Int×aD):Exit×Sg:=((.exit 2),⟨[(0,.e (.sl .u8) y.1),(4,.e (.i .i64) y.2.1),(6,.e .tx y.2.2)],[],100⟩)
def aHk(_:Exit)(σ:Sg):aD×Int×aD:=(aG (.sl .u8) 0 0 σ,aG (.i .i64) 4 0 σ,aG .tx 6 0 σ)
def aHi:List (Exit×Nm):=[((.exit 2),⟨[0,4,6],[],[]⟩)]
def uG[aA](N:Nat):Nat->(aD×Bool×Int×Int×aD×Int)->((aD×Int×aD)->O)->((Unit)->O)->((Unit)->O)->O
 |0,_,_,_,_=>none
 |n+1,x,k0,k1,k2=>H0 N (λv0 v1=>uG N n (x.1,x.2.1,x.2.2.1,x.2.2.2.1,v0,v1) k0 k1 k2) (λy0 y1 y2=>k0 (y0,y1,y2)) x.1 x.2.1 x.2.2.1 x.2.2.2.1 x.2.2.2.2.1 x.2.2.2.2.2
def NY[aA] N a0 a1 a2 a3 a4 a5 (k0:aD->Int->aD->O):=uG N N (a0,a1,a2,a3,a4,a5) (λy=>k0 y.1 y.2.1 y.2.2) (λ_=>none) (λ_=>none)
def Vn[aA] N a0 a1 a2 a3 a4 a5 (k0:aD->Int->aD->O):=aW w4 HU (uG N N) (w4 (a0,a1,a2,a3,a4,a5)) (λy=>k0 y.1 y.2.1 y.2.2) (λ_=>none) (λ_=>none)
theorem aHv[aA] N:Vn N=NY N:=funext λ_=>funext λ_=>funext λ_=>funext λ_=>funext λ_=>funext λ_=>funext λ_=>dY aHn _ _ _ _
theorem aHp[aA](N:Nat)(self:Sg->O)(K:Exit->Sg->O)(x:aD×Bool×Int×Int×aD×Int):H0 N (λv0 v1=>self (w4 (x.1,x.2.1,x.2.2.1,x.2.2.2.1,v0,v1))) (λy0 y1 y2=>K (HY (y0,y1,y2)).1 (HY (y0,y1,y2)).2) x.1 x.2.1 x.2.2.1 x.2.2.2.1 x.2.2.2.2.1 x.2.2.2.2.2=exec (nO N) Tryz.f51.ntmps .d N0 (w4 x) (dQ Vp aHi self K):=by kernel_rfl
theorem aIB N (hc:aJ (nO N)):dB (nO N) Tryz.f51.ntmps (.loop N0) HY (aR 1) (aR 2) (aW w4 HU (uG N N)):=
 eG hc (dS N0) (iZ aHk (.exit 2) (λ_=>by kernel_rfl) (λ_=>rfl) (by kernel_rfl)) (n:=N) (λx K=>eH (uG N) (λ_ _ _ _=>rfl) (λn K ih x=>by
  refine eZ ?_ (aHp N _ K x);simp only[<-ih];rfl) N x K)
def N3[aA](N:Nat)(in0:aD->Bool->Int->Int->(aD->Bool->Int->Int->O)->O)(in1:aD->Bool->Int->Int->aD->Int->(aD->Int->aD->O)->O)(l0:aD):O:=
 in0 l0 false 0 0
  (λz10 z11 z12 z13=>
   in1 z10 z11 z12 z13 [] 0
    (λz15 z16 z17=>
     br (decide (z16<(↑z15.length:Int)))
      (ck (dJ z15.length (some (aS.wrap (z16+1))) none)<|
      ck (EF N (cA z15 (some (aS.wrap (z16+1))) none))<|
      br (decide (ED N (cA z15 (some (aS.wrap (z16+1))) none)≠(0:Int)))
       (some (oX [] false))
       (ck (decide ((↑z17.length:Int)+(↑(lC N (cA z15 (some (aS.wrap (z16+1))) none)).length:Int)<=(9223372036854775807:Int)))<|
       ck (oZ N (z17++lC N (cA z15 (some (aS.wrap (z16+1))) none)))<|
       ck (lB N (gR N (z17++lC N (cA z15 (some (aS.wrap (z16+1))) none))))<|
       ck (mG N (gG N (gR N (z17++lC N (cA z15 (some (aS.wrap (z16+1))) none)))) z15)<|
       some (oX (z17++lC N (cA z15 (some (aS.wrap (z16+1))) none)) (mF N (gG N (gR N (z17++lC N (cA z15 (some (aS.wrap (z16+1))) none)))) z15))))
      (ck (oZ N z17)<|
      ck (lB N (gR N z17))<|
      ck (mG N (gG N (gR N z17)) z15)<|
      some (oX z17 (mF N (gG N (gR N z17)) z15)))))
def Vx[aA] N l0:=N3 N (NZ N) (NY N) l0
def Vr[aA](N:Nat):Hint:=(.seq .d (.seq .d (.seq .d (.seq (.block (.sub Vq _ _ _ HZ (aR 1) (aR 2) (aW w6 HV (w3 N N)))) (.seq .d (.seq (.seq .d (.block (.sub Vp _ _ _ HY (aR 1) (aR 2) (aW w4 HU (uG N N))))) .d))))))
theorem aHt N (hc:aJ (nO N)):bN (nO N) Tryz.f51.ntmps (Vr N) HX:=bW _ _ (aK trivial (aK trivial (aK trivial (aK (aIC N hc) (aK trivial (aK (aK trivial (aIB N hc)) trivial))))))
theorem aHr[aA] N l0:N3 N (Vo N) (Vn N) l0=exec (nO N) Tryz.f51.ntmps (Vr N) HX ⟨cC 0 [.e (.sl .u8) l0],[],100⟩ (cJ (nO N) Tryz.f51 false):=by kernel_rfl
def oW(r:aH):Option (aD×Bool):=match r with
 |(.aT [x0,x1],[])=>(match ue .tx x0,ue .bo x1 with|some a0,some a1=>some (a0,a1)|_,_=>none)
 |_=>none
theorem aHm{r d}(h:oW r=some d):r=oX d.1 d.2:=by
 unfold oW at h;split at h
 .split at h
  .rename_i h0 h1;cases h;rw[b7 h0,b7 h1];rfl
  .cases h
 .cases h
def wZ N l0:=(Vx N l0).bind oW
theorem aHu{N}(hc:aJ (nO N)){l0 d}(hd:wZ N l0=some d):cR Tryz.prog 51 [.e (.sl .u8) l0] [] (oX d.1 d.2):=
 c8 hc (by kernel_rfl) (by kernel_rfl) (aHt N hc) (by kernel_rfl) aHm (λhr=>(aHr N l0).symm.trans (by rw[aHw N,aHv N];exact hr)) hd
def HW N l0:=(wZ N l0).isSome
def DW N l0:=((wZ N l0).getD ([],false)).1
def HT N l0:=((wZ N l0).getD ([],false)).2
def Vt(N:Nat):bO:=E1 (.sl .u8) (λx0=>(HW N x0,oX (DW N x0) (HT N x0)))
theorem aHs N:aV Tryz.prog 51 (Vt N):=aV.e1 (λx0 h=>dO (z:=wZ N x0) h (aHu (aHx N)) rfl)
def KI(a0:aD):aH:=(.e (.sl .u8) a0,[])
def EP(_:Nat):Cx:=⟨Tryz.prog,99999,[],[]⟩
def Zs:Code:=Tryz.f13.body.getD .skip
theorem aO4 N:aJ (EP N):=cM (by kernel_rfl) .nil .nil
def Py[aA](_:Nat)(b0:aD)(most1:Int):O:=
 ck (dJ b0.length none (some (min (↑b0.length:Int) most1)))<|
 ck (b8 (cA b0 none (some (min (↑b0.length:Int) most1))).length (1:Nat))<|
 some (KI (cA b0 none (some (min (↑b0.length:Int) most1))))
def Zu[aA] N b0 most1:=Py N b0 most1
def Zq[aA](_:Nat):Hint:=.d
theorem aO2 N:bN (EP N) Tryz.f13.ntmps (Zq N) Zs:=bW _ _ trivial
theorem aO0[aA] N b0 most1:Py N b0 most1=exec (EP N) Tryz.f13.ntmps (Zq N) Zs ⟨cC 0 [.e (.sl .u8) b0,.e (.i .i64) most1],[],100⟩ (cJ (EP N) Tryz.f13 false):=by kernel_rfl
def Px(r:aH):Option (aD):=match r with
 |(x0,[])=>(match ue (.sl .u8) x0 with|some a0=>some a0|_=>none)
 |_=>none
theorem aOZ{r d}(h:Px r=some d):r=KI (d):=by
 unfold Px at h;split at h
 .split at h
  .rename_i h0;cases h;rw[b7 h0];rfl
  .cases h
 .cases h
def Bj N b0 most1:=(Zu N b0 most1).bind Px
theorem aO3{N}(hc:aJ (EP N)){b0 most1 d}(hd:Bj N b0 most1=some d):cR Tryz.prog 13 [.e (.sl .u8) b0,.e (.i .i64) most1] [] (KI (d)):=
 c8 hc (by kernel_rfl) (by kernel_rfl) (aO2 N) (by kernel_rfl) aOZ (aO0 N b0 most1).symm.trans hd
def KJ N b0 most1:=(Bj N b0 most1).isSome
def EO N b0 most1:=((Bj N b0 most1).getD [])
def Zr(N:Nat):bO:=E2 (.sl .u8) (.i .i64) (λx0 x1=>(KJ N x0 x1,KI (EO N x0 x1)))
theorem aO1 N:aV Tryz.prog 13 (Zr N):=aV.e2 (λx0 x1 h=>dO (z:=Bj N x0 x1) h (aO3 (aO4 N)) rfl)
def lA(a0:Int):aH:=(.e (.i .i64) a0,[])
def nP(N:Nat):Cx:=⟨Tryz.prog,99999,[(37,Xe N)],[]⟩
def Hr:Code:=Tryz.f47.body.getD .skip
theorem aJC N:aJ (nP N):=cM (by kernel_rfl) (.cons (by kernel_rfl) (aK5 N) .nil) .nil
def Hx[aA](_:Nat)(self:Int->O)(k0:Int->O)(k1:(List aD)->Int->O)(x0_0:(List aD))(x0_1 x0_2:Int):O:=
 br (decide (x0_2<(↑x0_0.length:Int)))
  (gx x0_0 x0_2 λy3=>
  br (decide ((80:Int)<(↑y3.length:Int)))
   (k0 4)
   (self (aS.wrap (x0_2+1))))
  (k1 x0_0 x0_1)
def Nk:Code:=cX [1,1,0,1,0,0] Hr
def W0:Nm:=⟨[0,1,5],[],[]⟩
def xI(x:(List aD)×Int×Int):Sg:=⟨[(0,.e (.sl .tx) x.1),(1,.e (.i .i64) x.2.1),(5,.e (.i .i64) x.2.2)],[],100⟩
def Hp(σ:Sg):(List aD)×Int×Int:=(aG (.sl .tx) 0 0 σ,aG (.i .i64) 1 0 σ,aG (.i .i64) 5 0 σ)
theorem aIt:∀x,Hp (xI x)=x:=λ_=>by kernel_rfl
def Hv(y:Int):Exit×Sg:=(.ret,⟨[(4,.e (.i .i64) y)],[],100⟩)
def aIq(_:Exit)(σ:Sg):Int:=aG (.i .i64) 4 0 σ
def Hu(y:(List aD)×Int):Exit×Sg:=((.exit 0),⟨[(0,.e (.sl .tx) y.1),(1,.e (.i .i64) y.2)],[],100⟩)
def aIp(_:Exit)(σ:Sg):(List aD)×Int:=(aG (.sl .tx) 0 0 σ,aG (.i .i64) 1 0 σ)
def aIm:List (Exit×Nm):=[(.ret,⟨[4],[],[]⟩),((.exit 0),⟨[0,1],[],[]⟩)]
def xG[aA](N:Nat):Nat->((List aD)×Int×Int)->((Int)->O)->(((List aD)×Int)->O)->((Unit)->O)->O
 |0,_,_,_,_=>none
 |n+1,x,k0,k1,k2=>Hx N (λv0=>xG N n (x.1,x.2.1,v0) k0 k1 k2) (λy0=>k0 y0) (λy0 y1=>k1 (y0,y1)) x.1 x.2.1 x.2.2
def Ni[aA] N a0 a1 a2 (k0:Int->O) (k1:(List aD)->Int->O):=xG N N (a0,a1,a2) (λy=>k0 y) (λy=>k1 y.1 y.2) (λ_=>none)
def WY[aA] N a0 a1 a2 (k0:Int->O) (k1:(List aD)->Int->O):=aW xI Hp (xG N N) (xI (a0,a1,a2)) (λy=>k0 y) (λy=>k1 y.1 y.2) (λ_=>none)
theorem aJB[aA] N:WY N=Ni N:=funext λ_=>funext λ_=>funext λ_=>funext λ_=>funext λ_=>dY aIt _ _ _ _
theorem aIv[aA](N:Nat)(self:Sg->O)(K:Exit->Sg->O)(x:(List aD)×Int×Int):Hx N (λv0=>self (xI (x.1,x.2.1,v0))) (λy0=>K (Hv y0).1 (Hv y0).2) (λy0 y1=>K (Hu (y0,y1)).1 (Hu (y0,y1)).2) x.1 x.2.1 x.2.2=exec (nP N) Tryz.f47.ntmps .d Nk (xI x) (dQ W0 aIm self K):=by kernel_rfl
theorem aJG N (hc:aJ (nP N)):dB (nP N) Tryz.f47.ntmps (.loop Nk) Hv Hu (aR 2) (aW xI Hp (xG N N)):=
 eG hc (dS Nk) (jI aIq aIp .ret (.exit 0) (λ_=>by kernel_rfl) (λ_=>by kernel_rfl) (λ_=>rfl) (λ_=>rfl) (by kernel_rfl)) (n:=N) (λx K=>eH (xG N) (λ_ _ _ _=>rfl) (λn K ih x=>by
  refine eZ ?_ (aIv N _ K x);simp only[<-ih];rfl) N x K)
def Hw[aA](N:Nat)(self:Int->O)(k0:Int->O)(k1:Int->O)(x7_0:(List aD))(x7_1 x7_2:Int):O:=
 br (decide (x7_2<(↑x7_0.length:Int)))
  (gx x7_0 x7_2 λy10=>
  ck (I8 N y10)<|
  br (!I5 N y10)
   (k0 1)
   (self (aS.wrap (x7_2+1))))
  (k1 x7_1)
def Nj:Code:=cX [1,1,1,0,1,0,0] Hr
def WZ:Nm:=⟨[0,1,6],[],[]⟩
def xH(x:(List aD)×Int×Int):Sg:=⟨[(0,.e (.sl .tx) x.1),(1,.e (.i .i64) x.2.1),(6,.e (.i .i64) x.2.2)],[],100⟩
def Ho(σ:Sg):(List aD)×Int×Int:=(aG (.sl .tx) 0 0 σ,aG (.i .i64) 1 0 σ,aG (.i .i64) 6 0 σ)
theorem aIs:∀x,Ho (xH x)=x:=λ_=>by kernel_rfl
def Ht(y:Int):Exit×Sg:=(.ret,⟨[(4,.e (.i .i64) y)],[],100⟩)
def aIo(_:Exit)(σ:Sg):Int:=aG (.i .i64) 4 0 σ
def Hs(y:Int):Exit×Sg:=((.exit 2),⟨[(1,.e (.i .i64) y)],[],100⟩)
def aIn(_:Exit)(σ:Sg):Int:=aG (.i .i64) 1 0 σ
def aIl:List (Exit×Nm):=[(.ret,⟨[4],[],[]⟩),((.exit 2),⟨[1],[],[]⟩)]
def uI[aA](N:Nat):Nat->((List aD)×Int×Int)->((Int)->O)->((Int)->O)->((Unit)->O)->O
 |0,_,_,_,_=>none
 |n+1,x,k0,k1,k2=>Hw N (λv0=>uI N n (x.1,x.2.1,v0) k0 k1 k2) (λy0=>k0 y0) (λy0=>k1 y0) x.1 x.2.1 x.2.2
def Nh[aA] N a0 a1 a2 (k0:Int->O) (k1:Int->O):=uI N N (a0,a1,a2) (λy=>k0 y) (λy=>k1 y) (λ_=>none)
def WX[aA] N a0 a1 a2 (k0:Int->O) (k1:Int->O):=aW xH Ho (uI N N) (xH (a0,a1,a2)) (λy=>k0 y) (λy=>k1 y) (λ_=>none)
theorem aJA[aA] N:WX N=Nh N:=funext λ_=>funext λ_=>funext λ_=>funext λ_=>funext λ_=>dY aIs _ _ _ _
theorem aIu[aA](N:Nat)(self:Sg->O)(K:Exit->Sg->O)(x:(List aD)×Int×Int):Hw N (λv0=>self (xH (x.1,x.2.1,v0))) (λy0=>K (Ht y0).1 (Ht y0).2) (λy0=>K (Hs y0).1 (Hs y0).2) x.1 x.2.1 x.2.2=exec (nP N) Tryz.f47.ntmps .d Nj (xH x) (dQ WZ aIl self K):=by kernel_rfl
theorem aJF N (hc:aJ (nP N)):dB (nP N) Tryz.f47.ntmps (.loop Nj) Ht Hs (aR 2) (aW xH Ho (uI N N)):=
 eG hc (dS Nj) (jI aIo aIn .ret (.exit 2) (λ_=>by kernel_rfl) (λ_=>by kernel_rfl) (λ_=>rfl) (λ_=>rfl) (by kernel_rfl)) (n:=N) (λx K=>eH (uI N) (λ_ _ _ _=>rfl) (λn K ih x=>by
  refine eZ ?_ (aIu N _ K x);simp only[<-ih];rfl) N x K)
def Nl[aA](_:Nat)(in0:(List aD)->Int->Int->(Int->O)->((List aD)->Int->O)->O)(in1:(List aD)->Int->Int->(Int->O)->(Int->O)->O)(l0:(List aD))(width1:Int):O:=
 br (decide ((64:Int)<(↑l0.length:Int)))
  (some (lA 4))
  (in0 l0 width1 0
   (λz4=>
    some (lA z4))
   (λz5 z6=>
    in1 z5 z6 0
     (λz11=>
      some (lA z11))
     (λz12=>
      br (decide (z12<4)||decide (40<z12))
       (some (lA 5))
       (some (lA 0)))))
def Wa[aA] N l0 width1:=Nl N (Ni N) (Nh N) l0 width1
def W5[aA](N:Nat):Hint:=(.seq .d (.seq .d (.seq (.seq .d (.block (.sub W0 _ _ _ Hv Hu (aR 2) (aW xI Hp (xG N N))))) (.seq (.seq .d (.block (.sub WZ _ _ _ Ht Hs (aR 2) (aW xH Ho (uI N N))))) .d))))
theorem aIy N (hc:aJ (nP N)):bN (nP N) Tryz.f47.ntmps (W5 N) Hr:=bW _ _ (aK trivial (aK trivial (aK (aK trivial (aJG N hc)) (aK (aK trivial (aJF N hc)) trivial))))
theorem aIw[aA] N l0 width1:Nl N (WY N) (WX N) l0 width1=exec (nP N) Tryz.f47.ntmps (W5 N) Hr ⟨cC 0 [.e (.sl .tx) l0,.e (.i .i64) width1],[],100⟩ (cJ (nP N) Tryz.f47 false):=by kernel_rfl
def D3(r:aH):Option (Int):=match r with
 |(x0,[])=>(match ue (.i .i64) x0 with|some a0=>some a0|_=>none)
 |_=>none
theorem aIr{r d}(h:D3 r=some d):r=lA (d):=by
 unfold D3 at h;split at h
 .split at h
  .rename_i h0;cases h;rw[b7 h0];rfl
  .cases h
 .cases h
def BK N l0 width1:=(Wa N l0 width1).bind D3
theorem aIz{N}(hc:aJ (nP N)){l0 width1 d}(hd:BK N l0 width1=some d):cR Tryz.prog 47 [.e (.sl .tx) l0,.e (.i .i64) width1] [] (lA (d)):=
 c8 hc (by kernel_rfl) (by kernel_rfl) (aIy N hc) (by kernel_rfl) aIr (λhr=>(aIw N l0 width1).symm.trans (by rw[aJB N,aJA N];exact hr)) hd
def Hq N l0 width1:=(BK N l0 width1).isSome
def D1 N l0 width1:=((BK N l0 width1).getD 0)
def W6(N:Nat):bO:=E2 (.sl .tx) (.i .i64) (λx0 x1=>(Hq N x0 x1,lA (D1 N x0 x1)))
theorem aIx N:aV Tryz.prog 47 (W6 N):=aV.e2 (λx0 x1 h=>dO (z:=BK N x0 x1) h (aIz (aJC N)) rfl)
def Bf(a0:(List aD))(a1:Int):aH:=(.aT [.e (.sl (.sl .u8)) a0,.e (.i .i64) a1],[])
def sQ(N:Nat):Cx:=⟨Tryz.prog,99999,[(47,W6 N),(48,WS N)],[]⟩
def P2:Code:=Tryz.f20.body.getD .skip
theorem aNT N:aJ (sQ N):=cM (by kernel_rfl) (.cons (by kernel_rfl) (aIx N) (.cons (by kernel_rfl) (aIb N) .nil)) .nil
def Jj[aA](N:Nat)(self:Int->(List aD)->O)(k0:(List aD)->O)(x0_0:(List aD))(x0_1 x0_2:Int)(x0_3:(List aD)):O:=
 br (decide (x0_2<(↑x0_0.length:Int)))
  (gx x0_0 x0_2 λy4=>
  ck (Hh N y4 x0_1)<|
  ck (b8 (x0_3++DZ N y4 x0_1).length (24:Nat))<|
  self (aS.wrap (x0_2+1)) (x0_3++DZ N y4 x0_1))
  (k0 x0_3)
def P1:Code:=cX [1,1,1,1,0,1,0,0] P2
def ZL:Nm:=⟨[0,1,7,8],[],[.kG 7 (.row 23 (.sl .u8) [] true)]⟩
def yZ(x:(List aD)×Int×Int×(List aD)):Sg:=⟨[(0,.e (.sl .tx) x.1),(1,.e (.i .i64) x.2.1),(7,.own 0),(8,.e (.i .i64) x.2.2.1)],[(0,.row 23 (.sl .u8) x.2.2.2 true)],100⟩
def Jh(σ:Sg):(List aD)×Int×Int×(List aD):=(aG (.sl .tx) 0 0 σ,aG (.i .i64) 1 0 σ,aG (.i .i64) 8 0 σ,cI (.sl .u8) 0 σ)
theorem aNN:∀x,Jh (yZ x)=x:=λ_=>by kernel_rfl
def Ji(y:(List aD)):Exit×Sg:=((.exit 0),⟨[(7,.own 0)],[(0,.row 23 (.sl .u8) y true)],100⟩)
def aNL(_:Exit)(σ:Sg):(List aD):=cI (.sl .u8) 0 σ
def aNK:List (Exit×Nm):=[((.exit 0),⟨[7],[],[]⟩)]
def yY[aA](N:Nat):Nat->((List aD)×Int×Int×(List aD))->(((List aD))->O)->((Unit)->O)->((Unit)->O)->O
 |0,_,_,_,_=>none
 |n+1,x,k0,k1,k2=>Jj N (λv0 v1=>yY N n (x.1,x.2.1,v0,v1) k0 k1 k2) (λy0=>k0 y0) x.1 x.2.1 x.2.2.1 x.2.2.2
def PY[aA] N a0 a1 a2 a3 (k0:(List aD)->O):=yY N N (a0,a1,a2,a3) (λy=>k0 y) (λ_=>none) (λ_=>none)
def ZJ[aA] N a0 a1 a2 a3 (k0:(List aD)->O):=aW yZ Jh (yY N N) (yZ (a0,a1,a2,a3)) (λy=>k0 y) (λ_=>none) (λ_=>none)
theorem aNS[aA] N:ZJ N=PY N:=funext λ_=>funext λ_=>funext λ_=>funext λ_=>funext λ_=>dY aNN _ _ _ _
theorem aNO[aA](N:Nat)(self:Sg->O)(K:Exit->Sg->O)(x:(List aD)×Int×Int×(List aD)):Jj N (λv0 v1=>self (yZ (x.1,x.2.1,v0,v1))) (λy0=>K (Ji y0).1 (Ji y0).2) x.1 x.2.1 x.2.2.1 x.2.2.2=exec (sQ N) Tryz.f20.ntmps .d P1 (yZ x) (dQ ZL aNK self K):=by kernel_rfl
theorem aNV N (hc:aJ (sQ N)):dB (sQ N) Tryz.f20.ntmps (.loop P1) Ji (aR 1) (aR 2) (aW yZ Jh (yY N N)):=
 eG hc (dS P1) (iZ aNL (.exit 0) (λ_=>by kernel_rfl) (λ_=>rfl) (by kernel_rfl)) (n:=N) (λx K=>eH (yY N) (λ_ _ _ _=>rfl) (λn K ih x=>by
  refine eZ ?_ (aNO N _ K x);simp only[<-ih];rfl) N x K)
def P4[aA](N:Nat)(in0:(List aD)->Int->Int->(List aD)->((List aD)->O)->O)(l0:(List aD))(width1:Int):O:=
 ck (Hq N l0 width1)<|
 br (decide (D1 N l0 width1≠(0:Int)))
  (some (Bf [] (D1 N l0 width1)))
  (in0 l0 width1 0 []
   (λz5=>
    some (Bf z5 0)))
def ZQ[aA] N l0 width1:=P4 N (PY N) l0 width1
def ZM[aA](N:Nat):Hint:=(.seq .d (.seq .d (.seq .d (.seq .d (.seq (.seq .d (.block (.sub ZL _ _ _ Ji (aR 1) (aR 2) (aW yZ Jh (yY N N))))) .d)))))
theorem aNQ N (hc:aJ (sQ N)):bN (sQ N) Tryz.f20.ntmps (ZM N) P2:=bW _ _ (aK trivial (aK trivial (aK trivial (aK trivial (aK (aK trivial (aNV N hc)) trivial)))))
theorem aNP[aA] N l0 width1:P4 N (ZJ N) l0 width1=exec (sQ N) Tryz.f20.ntmps (ZM N) P2 ⟨cC 0 [.e (.sl .tx) l0,.e (.i .i64) width1],[],100⟩ (cJ (sQ N) Tryz.f20 false):=by kernel_rfl
def Jg(r:aH):Option ((List aD)×Int):=match r with
 |(.aT [x0,x1],[])=>(match ue (.sl (.sl .u8)) x0,ue (.i .i64) x1 with|some a0,some a1=>some (a0,a1)|_,_=>none)
 |_=>none
theorem aNM{r d}(h:Jg r=some d):r=Bf d.1 d.2:=by
 unfold Jg at h;split at h
 .split at h
  .rename_i h0 h1;cases h;rw[b7 h0,b7 h1];rfl
  .cases h
 .cases h
def yX N l0 width1:=(ZQ N l0 width1).bind Jg
theorem aNR{N}(hc:aJ (sQ N)){l0 width1 d}(hd:yX N l0 width1=some d):cR Tryz.prog 20 [.e (.sl .tx) l0,.e (.i .i64) width1] [] (Bf d.1 d.2):=
 c8 hc (by kernel_rfl) (by kernel_rfl) (aNQ N hc) (by kernel_rfl) aNM (λhr=>(aNP N l0 width1).symm.trans (by rw[aNS N];exact hr)) hd
def EB N l0 width1:=(yX N l0 width1).isSome
def uS N l0 width1:=((yX N l0 width1).getD ([],0)).1
def EA N l0 width1:=((yX N l0 width1).getD ([],0)).2
def PZ(N:Nat):bO:=E2 (.sl .tx) (.i .i64) (λx0 x1=>(EB N x0 x1,Bf (uS N x0 x1) (EA N x0 x1)))
theorem ZK N:aV Tryz.prog 20 (PZ N):=aV.e2 (λx0 x1 h=>dO (z:=yX N x0 x1) h (aNR (aNT N)) rfl)
def o6(a0:(List aD))(a1:Int):aH:=(.aT [.e (.sl .tx) a0,.e (.i .i64) a1],[])
def nR(N:Nat):Cx:=⟨Tryz.prog,99999,[(51,Vt N),(20,PZ N),(23,PM N)],[]⟩
def JG:Code:=Tryz.f27.body.getD .skip
theorem aLt N:aJ (nR N):=cM (by kernel_rfl) (.cons (by kernel_rfl) (aHs N) (.cons (by kernel_rfl) (ZK N) (.cons (by kernel_rfl) (Yx N) .nil))) .nil
def JM[aA](N:Nat)(self:Bool->Int->(List aD)->aD->O)(k0:Int->O)(k1:(List aD)->Bool->(List aD)->O)(x0_0:(List aD))(_x0_1:Int)(x0_2:Bool)(x0_3:Int)(x0_4:(List aD))(x0_5:aD):O:=
 br (decide (x0_3<(↑x0_0.length:Int)))
  (gx x0_0 x0_3 λy9=>
  gc (decide ((0:Int)<(↑y9.length:Int))) 0 y9 (aS.wrap ((↑y9.length:Int)-(1:Int))) λy10=>
  br (decide ((0:Int)<(↑y9.length:Int))&&decide (y10=63))
   (ck (dJ y9.length none (some (aS.wrap ((↑y9.length:Int)-(1:Int)))))<|
   ck (b8 (x0_5++cA y9 none (some (aS.wrap ((↑y9.length:Int)-(1:Int))))).length (1:Nat))<|
   self (decide ((0:Int)<(↑y9.length:Int))&&decide (y10=63)) (aS.wrap (x0_3+1)) x0_4 (x0_5++cA y9 none (some (aS.wrap ((↑y9.length:Int)-(1:Int))))))
   (ck (b8 (x0_5++y9).length (1:Nat))<|
   ck (HW N (x0_5++y9))<|
   br (!HT N (x0_5++y9))
    (k0 2)
    (ck (b8 (x0_4++[DW N (x0_5++y9)]).length (16:Nat))<|
    self (decide ((0:Int)<(↑y9.length:Int))&&decide (y10=63)) (aS.wrap (x0_3+1)) (x0_4++[DW N (x0_5++y9)]) [])))
  (k1 x0_0 x0_2 x0_4)
def Oq:Code:=cX [1,1,1,1,0,1,0,0] JG
def Y4:Nm:=⟨[0,2,3,4,5,6,7],[],[.kG 5 (.row 5 .u8 [] true),.kG 4 (.row 9 .tx [] true)]⟩
def yH(x:(List aD)×Int×Bool×Int×(List aD)×aD):Sg:=⟨[(0,.e (.sl (.sl .u8)) x.1),(2,.dE),(3,.e (.i .i64) x.2.1),(4,.own 0),(5,.own 1),(6,.e .bo x.2.2.1),(7,.e (.i .i64) x.2.2.2.1)],[(0,.row 9 .tx x.2.2.2.2.1 true),(1,.row 5 .u8 x.2.2.2.2.2 true)],100⟩
def JE(σ:Sg):(List aD)×Int×Bool×Int×(List aD)×aD:=(aG (.sl (.sl .u8)) 0 0 σ,aG (.i .i64) 3 0 σ,aG .bo 6 0 σ,aG (.i .i64) 7 0 σ,cI .tx 0 σ,cI .u8 1 σ)
theorem aLk:∀x,JE (yH x)=x:=λ_=>by kernel_rfl
def JK(y:Int):Exit×Sg:=(.ret,⟨[(2,.dE),(3,.e (.i .i64) y)],[],100⟩)
def aLh(_:Exit)(σ:Sg):Int:=aG (.i .i64) 3 0 σ
def JJ(y:(List aD)×Bool×(List aD)):Exit×Sg:=((.exit 0),⟨[(0,.e (.sl (.sl .u8)) y.1),(2,.dE),(4,.own 0),(6,.e .bo y.2.1)],[(0,.row 9 .tx y.2.2 true)],100⟩)
def aLg(_:Exit)(σ:Sg):(List aD)×Bool×(List aD):=(aG (.sl (.sl .u8)) 0 0 σ,aG .bo 6 0 σ,cI .tx 0 σ)
def aLd:List (Exit×Nm):=[(.ret,⟨[2,3],[],[]⟩),((.exit 0),⟨[0,2,4,6],[],[]⟩)]
def yF[aA](N:Nat):Nat->((List aD)×Int×Bool×Int×(List aD)×aD)->((Int)->O)->(((List aD)×Bool×(List aD))->O)->((Unit)->O)->O
 |0,_,_,_,_=>none
 |n+1,x,k0,k1,k2=>JM N (λv0 v1 v2 v3=>yF N n (x.1,x.2.1,v0,v1,v2,v3) k0 k1 k2) (λy0=>k0 y0) (λy0 y1 y2=>k1 (y0,y1,y2)) x.1 x.2.1 x.2.2.1 x.2.2.2.1 x.2.2.2.2.1 x.2.2.2.2.2
def Om[aA] N a0 a1 a2 a3 a4 a5 (k0:Int->O) (k1:(List aD)->Bool->(List aD)->O):=yF N N (a0,a1,a2,a3,a4,a5) (λy=>k0 y) (λy=>k1 y.1 y.2.1 y.2.2) (λ_=>none)
def YZ[aA] N a0 a1 a2 a3 a4 a5 (k0:Int->O) (k1:(List aD)->Bool->(List aD)->O):=aW yH JE (yF N N) (yH (a0,a1,a2,a3,a4,a5)) (λy=>k0 y) (λy=>k1 y.1 y.2.1 y.2.2) (λ_=>none)
theorem aLs[aA] N:YZ N=Om N:=funext λ_=>funext λ_=>funext λ_=>funext λ_=>funext λ_=>funext λ_=>funext λ_=>funext λ_=>dY aLk _ _ _ _
theorem aLm[aA](N:Nat)(self:Sg->O)(K:Exit->Sg->O)(x:(List aD)×Int×Bool×Int×(List aD)×aD):JM N (λv0 v1 v2 v3=>self (yH (x.1,x.2.1,v0,v1,v2,v3))) (λy0=>K (JK y0).1 (JK y0).2) (λy0 y1 y2=>K (JJ (y0,y1,y2)).1 (JJ (y0,y1,y2)).2) x.1 x.2.1 x.2.2.1 x.2.2.2.1 x.2.2.2.2.1 x.2.2.2.2.2=exec (nR N) Tryz.f27.ntmps .d Oq (yH x) (dQ Y4 aLd self K):=by kernel_rfl
theorem aLy N (hc:aJ (nR N)):dB (nR N) Tryz.f27.ntmps (.loop Oq) JK JJ (aR 2) (aW yH JE (yF N N)):=
 eG hc (dS Oq) (jI aLh aLg .ret (.exit 0) (λ_=>by kernel_rfl) (λ_=>by kernel_rfl) (λ_=>rfl) (λ_=>rfl) (by kernel_rfl)) (n:=N) (λx K=>eH (yF N) (λ_ _ _ _=>rfl) (λn K ih x=>by
  refine eZ ?_ (aLm N _ K x);simp only[<-ih];rfl) N x K)
def JL[aA](N:Nat)(self:Int->O)(k0:Int->(List aD)->O)(k1:Unit->O)(x15_0:(List aD))(x15_1:Bool)(x15_3:(List aD))(x15_2:Int):O:=
 br (decide (x15_2<=40)&&!x15_1)
  (ck (EB N x15_3 x15_2)<|
  ck (!decide (EA N x15_3 x15_2=(0:Int))||yQ N x15_0 (uS N x15_3 x15_2))<|
  br (decide (EA N x15_3 x15_2=(0:Int))&&Bc N x15_0 (uS N x15_3 x15_2))
   (k0 0 x15_3)
   (self (aS.wrap (x15_2+1))))
  (k1 ())
def Oo:Code:=cX [1,1,1,1,1,0,1,0,0] JG
def Y0:Nm:=⟨[0,2,4,6,11],[],[]⟩
def yG(x:(List aD)×Bool×Int×(List aD)):Sg:=⟨[(0,.e (.sl (.sl .u8)) x.1),(2,.dE),(4,.own 0),(6,.e .bo x.2.1),(11,.e (.i .i64) x.2.2.1)],[(0,.row 9 .tx x.2.2.2 true)],100⟩
def JD(σ:Sg):(List aD)×Bool×Int×(List aD):=(aG (.sl (.sl .u8)) 0 0 σ,aG .bo 6 0 σ,aG (.i .i64) 11 0 σ,cI .tx 0 σ)
theorem aLj:∀x,JD (yG x)=x:=λ_=>by kernel_rfl
def JI(y:Int×(List aD)):Exit×Sg:=(.ret,⟨[(2,.own 0),(3,.e (.i .i64) y.1)],[(0,.row 9 .tx y.2 true)],100⟩)
def aLf(_:Exit)(σ:Sg):Int×(List aD):=(aG (.i .i64) 3 0 σ,cI .tx 0 σ)
def JH(_:Unit):Exit×Sg:=((.exit 2),⟨[],[],100⟩)
def aLe(_:Exit)(_:Sg):Unit:=()
def aLc:List (Exit×Nm):=[(.ret,⟨[2,3],[],[]⟩),((.exit 2),⟨[],[],[]⟩)]
def uN[aA](N:Nat):Nat->((List aD)×Bool×Int×(List aD))->((Int×(List aD))->O)->((Unit)->O)->((Unit)->O)->O
 |0,_,_,_,_=>none
 |n+1,x,k0,k1,k2=>JL N (λv0=>uN N n (x.1,x.2.1,v0,x.2.2.2) k0 k1 k2) (λy0 y1=>k0 (y0,y1)) (λ(_:Unit)=>k1 ()) x.1 x.2.1 x.2.2.2 x.2.2.1
def Ol[aA] N a0 a1 a2 a3 (k0:Int->(List aD)->O) (k1:Unit->O):=uN N N (a0,a1,a2,a3) (λy=>k0 y.1 y.2) (λy=>k1 y) (λ_=>none)
def YY[aA] N a0 a1 a2 a3 (k0:Int->(List aD)->O) (k1:Unit->O):=aW yG JD (uN N N) (yG (a0,a1,a2,a3)) (λy=>k0 y.1 y.2) (λy=>k1 y) (λ_=>none)
theorem aLr[aA] N:YY N=Ol N:=funext λ_=>funext λ_=>funext λ_=>funext λ_=>funext λ_=>funext λ_=>dY aLj _ _ _ _
theorem aLl[aA](N:Nat)(self:Sg->O)(K:Exit->Sg->O)(x:(List aD)×Bool×Int×(List aD)):JL N (λv0=>self (yG (x.1,x.2.1,v0,x.2.2.2))) (λy0 y1=>K (JI (y0,y1)).1 (JI (y0,y1)).2) (λ(_:Unit)=>K (JH ()).1 (JH ()).2) x.1 x.2.1 x.2.2.2 x.2.2.1=exec (nR N) Tryz.f27.ntmps .d Oo (yG x) (dQ Y0 aLc self K):=by kernel_rfl
theorem aLx N (hc:aJ (nR N)):dB (nR N) Tryz.f27.ntmps (.loop Oo) JI JH (aR 2) (aW yG JD (uN N N)):=
 eG hc (dS Oo) (jI aLf aLe .ret (.exit 2) (λ_=>by kernel_rfl) (λ_=>by kernel_rfl) (λ_=>rfl) (λ_=>rfl) (by kernel_rfl)) (n:=N) (λx K=>eH (uN N) (λ_ _ _ _=>rfl) (λn K ih x=>by
  refine eZ ?_ (aLl N _ K x);simp only[<-ih];rfl) N x K)
def Ov[aA](_:Nat)(in0:(List aD)->Int->Bool->Int->(List aD)->aD->(Int->O)->((List aD)->Bool->(List aD)->O)->O)(in1:(List aD)->Bool->Int->(List aD)->(Int->(List aD)->O)->(Unit->O)->O)(p0:(List aD)):O:=
 in0 p0 0 false 0 [] []
  (λz11=>
   some (o6 [] z11))
  (λz12 z13 z14=>
   in1 z12 z13 4 z14
    (λz16 z17=>
     some (o6 z17 z16))
    (λ(_:Unit)=>
     some (o6 [] 2)))
def Y8[aA] N p0:=Ov N (Om N) (Ol N) p0
def Y5[aA](N:Nat):Hint:=(.seq .d (.seq .d (.seq .d (.seq .d (.seq (.seq .d (.block (.sub Y4 _ _ _ JK JJ (aR 2) (aW yH JE (yF N N))))) (.seq (.seq .d (.block (.sub Y0 _ _ _ JI JH (aR 2) (aW yG JD (uN N N))))) .d))))))
theorem aLp N (hc:aJ (nR N)):bN (nR N) Tryz.f27.ntmps (Y5 N) JG:=bW _ _ (aK trivial (aK trivial (aK trivial (aK trivial (aK (aK trivial (aLy N hc)) (aK (aK trivial (aLx N hc)) trivial))))))
theorem aLn[aA] N p0:Ov N (YZ N) (YY N) p0=exec (nR N) Tryz.f27.ntmps (Y5 N) JG ⟨cC 0 [.e (.sl (.sl .u8)) p0],[],100⟩ (cJ (nR N) Tryz.f27 false):=by kernel_rfl
def Dq(r:aH):Option ((List aD)×Int):=match r with
 |(.aT [x0,x1],[])=>(match ue (.sl .tx) x0,ue (.i .i64) x1 with|some a0,some a1=>some (a0,a1)|_,_=>none)
 |_=>none
theorem aLi{r d}(h:Dq r=some d):r=o6 d.1 d.2:=by
 unfold Dq at h;split at h
 .split at h
  .rename_i h0 h1;cases h;rw[b7 h0,b7 h1];rfl
  .cases h
 .cases h
def yE N p0:=(Y8 N p0).bind Dq
theorem aLq{N}(hc:aJ (nR N)){p0 d}(hd:yE N p0=some d):cR Tryz.prog 27 [.e (.sl (.sl .u8)) p0] [] (o6 d.1 d.2):=
 c8 hc (by kernel_rfl) (by kernel_rfl) (aLp N hc) (by kernel_rfl) aLi (λhr=>(aLn N p0).symm.trans (by rw[aLs N,aLr N];exact hr)) hd
def JF N p0:=(yE N p0).isSome
def Dp N p0:=((yE N p0).getD ([],0)).1
def Dn N p0:=((yE N p0).getD ([],0)).2
def Y6(N:Nat):bO:=E1 (.sl (.sl .u8)) (λx0=>(JF N x0,o6 (Dp N x0) (Dn N x0)))
theorem aLo N:aV Tryz.prog 27 (Y6 N):=aV.e1 (λx0 h=>dO (z:=yE N x0) h (aLq (aLt N)) rfl)
end
end Go.Proofs
