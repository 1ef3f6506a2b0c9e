/- What functions do. Conditions are in the theorems. -/
import Derived.Test.YtihfefggdgiodaaGreatDoorE7
import Derived.Test.YtihfefggdgiodaaGreatDoorProg
import Derived.KernelRfl
import Derived.Test.YtihfefggdgiodaaGreatDoorF3
open And renaming intro->aK
open Eq renaming trans->eZ
open Go.IntKind renaming i64->aS
/- What functions do. -/
namespace Go.Proofs
noncomputable section
open Go.Ax Go.Ax.aA Go.RowKit Go.Ab
abbrev aB:=List UInt8
open Go
abbrev kW:List UInt8:=[(32:UInt8)]
abbrev fC:List UInt8:=[(0:UInt8)]
def uJ(a0:Int):aH:=(.e (.i .i64) a0,[])
def D8(N:Nat):Cx:=⟨Tryz.prog,99999,[(62,aCQ N),(63,Gu N),(64,Gs N)],[]⟩
def Wt:Code:=Tryz.f45.body.getD .skip
theorem aJ9 N:aJ (D8 N):=cM (by kernel_rfl) (.cons (by kernel_rfl) (aUI N) (.cons (by kernel_rfl) (Ms N) (.cons (by kernel_rfl) (Mp N) .nil))) .nil
def Ny[aA](N:Nat)(l0:(List aB))(width1:Int):O:=
 ck (!!decide ((64:Int)<(↑l0.length:Int))||Gx N l0)<|
 br (decide ((64:Int)<(↑l0.length:Int))||Gv N l0)
  (some (uJ 4))
  (ck (KV N l0)<|
  br (Bp N l0)
   (some (uJ 1))
   (br (decide (width1<4)||decide (40<width1))
    (some (uJ 5))
    (some (uJ 0))))
def Wy[aA] N l0 width1:=Ny N l0 width1
def Ws[aA](_:Nat):Hint:=.d
theorem aJ7 N:bN (D8 N) Tryz.f45.ntmps (Ws N) Wt:=bW _ _ trivial
theorem aJ6[aA] N l0 width1:Ny N l0 width1=exec (D8 N) Tryz.f45.ntmps (Ws N) Wt ⟨cC 0 [.e (.sl .tx) l0,.e (.i .i64) width1],[],100⟩ (cJ (D8 N) Tryz.f45 false):=by kernel_rfl
def xN(r:aH):Option (Int):=match r with
 |(x0,[])=>(match ue (.i .i64) x0 with|some a0=>some a0|_=>none)
 |_=>none
theorem aJ5{r d}(h:xN r=some d):r=uJ (d):=by
 unfold xN at h;split at h
 .split at h
  .rename_i h0;cases h;rw[b7 h0];rfl
  .cases h
 .cases h
def BN N l0 width1:=(Wy N l0 width1).bind xN
theorem aJ8{N}(hc:aJ (D8 N)){l0 width1 d}(hd:BN N l0 width1=some d):cR Tryz.prog 45 [.e (.sl .tx) l0,.e (.i .i64) width1] [] (uJ (d)):=
 c8 hc (by kernel_rfl) (by kernel_rfl) (aJ7 N) (by kernel_rfl) aJ5 (aJ6 N l0 width1).symm.trans hd
def D7 N l0 width1:=(BN N l0 width1).isSome
def xM N l0 width1:=((BN N l0 width1).getD 0)
def Nx(N:Nat):bO:=E2 (.sl .tx) (.i .i64) (λx0 x1=>(D7 N x0 x1,uJ (xM N x0 x1)))
theorem Wq N:aV Tryz.prog 45 (Nx N):=aV.e2 (λx0 x1 h=>dO (z:=BN N x0 x1) h (aJ8 (aJ9 N)) rfl)
def ER(a0:aB)(a1:Int):aH:=(.aT [.e (.sl .u8) a0,.e (.i .i64) a1],[])
def ES(N:Nat):Cx:=⟨Tryz.prog,99999,[(35,aCS N),(33,O6 N),(36,Xj N),(34,Ii N)],[]⟩
def aAD:Code:=Tryz.f10.body.getD .skip
theorem aOp N:aJ (ES N):=cM (by kernel_rfl) (.cons (by kernel_rfl) (aUJ N) (.cons (by kernel_rfl) (Xw N) (.cons (by kernel_rfl) (aKf N) (.cons (by kernel_rfl) (OX N) .nil)))) .nil
def QH[aA](N:Nat)(s0:aB):O:=
 ck (Dk N s0)<|
 br (!Dj N s0)
  (some (ER [] 1))
  (ck (OW N s0)<|
  ck (SD N (Dh N s0))<|
  ck (uK N (LV N (Dh N s0)))<|
  some (ER (qF N (LV N (Dh N s0))) 0))
def w10[aA] N s0:=QH N s0
def aAB[aA](_:Nat):Hint:=.d
theorem aOn N:bN (ES N) Tryz.f10.ntmps (aAB N) aAD:=bW _ _ trivial
theorem aOl[aA] N s0:QH N s0=exec (ES N) Tryz.f10.ntmps (aAB N) aAD ⟨cC 0 [.e .tx s0],[],100⟩ (cJ (ES N) Tryz.f10 false):=by kernel_rfl
def QG(r:aH):Option (aB×Int):=match r with
 |(.aT [x0,x1],[])=>(match ue (.sl .u8) x0,ue (.i .i64) x1 with|some a0,some a1=>some (a0,a1)|_,_=>none)
 |_=>none
theorem aOk{r d}(h:QG r=some d):r=ER d.1 d.2:=by
 unfold QG at h;split at h
 .split at h
  .rename_i h0 h1;cases h;rw[b7 h0,b7 h1];rfl
  .cases h
 .cases h
def zP N s0:=(w10 N s0).bind QG
theorem aOo{N}(hc:aJ (ES N)){s0 d}(hd:zP N s0=some d):cR Tryz.prog 10 [.e .tx s0] [] (ER d.1 d.2):=
 c8 hc (by kernel_rfl) (by kernel_rfl) (aOn N) (by kernel_rfl) aOk (aOl N s0).symm.trans hd
def Bl N s0:=(zP N s0).isSome
def zQ N s0:=((zP N s0).getD ([],0)).1
def aOj N s0:=((zP N s0).getD ([],0)).2
def aAC(N:Nat):bO:=E1 .tx (λx0=>(Bl N x0,ER (zQ N x0) (aOj N x0)))
theorem aOm N:aV Tryz.prog 10 (aAC N):=aV.e1 (λx0 h=>dO (z:=zP N x0) h (aOo (aOp N)) rfl)
def sW(a0:aB)(a1:Int):aH:=(.aT [.e .tx a0,.e (.i .i64) a1],[])
def iV(N:Nat):Cx:=⟨Tryz.prog,99999,[(40,XV N),(41,XL N),(10,aAC N),(42,BQ N)],[]⟩
def EK:Code:=Tryz.f15.body.getD .skip
theorem aOR N:aJ (iV N):=cM (by kernel_rfl) (.cons (by kernel_rfl) (aJv N) (.cons (by kernel_rfl) (aJo N) (.cons (by kernel_rfl) (aOm N) (.cons (by kernel_rfl) (Dc N) .nil)))) .nil
def qG[aA](N:Nat)(self:Int->O)(k0:aB->aB->aB->UInt8->aB->O)(k1:aB->aB->aB->UInt8->aB->O)(x179_0 x179_1 x179_2:aB)(x179_3:UInt8)(x179_4:Int)(x179_6:aB)(x179_7:(List Bool))(x179_5:Int):O:=
 br (decide (x179_5<x179_4))
  (gx x179_7 x179_5 λy182=>
  ck (IP N x179_3 y182)<|
  ck (!(decide (x179_3=32)||!y182)||IN N x179_2 (sF N x179_3 y182))<|
  br ((decide (x179_3=32)||!y182)&&IL N x179_2 (sF N x179_3 y182))
   (ck (b8 (x179_6++[x179_3]).length (1:Nat))<|
   ck (dJ x179_2.length (some (↑(sF N x179_3 y182).length:Int)) none)<|
   k0 x179_0 x179_1 (cA x179_2 (some (↑(sF N x179_3 y182).length:Int)) none) x179_3 (x179_6++[x179_3]))
   (self (aS.wrap (x179_5+1))))
  (k1 x179_0 x179_1 x179_2 x179_3 x179_6)
def Pr:Code:=cX [1,0,1,1,0,1,0,0,1,0,0,1,0,0,1,0,0,1,0,0] EK
def Z8:Nm:=⟨[0,2,4,5,6,21,22,23],[],[]⟩
def zM(x:aB×aB×aB×UInt8×Int×Int×aB×(List Bool)):Sg:=⟨[(0,.e (.sl .u8) x.1),(2,.e .tx x.2.1),(4,.own 0),(5,.e (.sl .u8) x.2.2.1),(6,.e .u8 x.2.2.2.1),(21,.own 1),(22,.e (.i .i64) x.2.2.2.2.1),(23,.e (.i .i64) x.2.2.2.2.2.1)],[(0,.row 5 .u8 x.2.2.2.2.2.2.1 true),(1,.row 4 .bo x.2.2.2.2.2.2.2 true)],100⟩
def Jw(σ:Sg):aB×aB×aB×UInt8×Int×Int×aB×(List Bool):=(aG (.sl .u8) 0 0 σ,aG .tx 2 0 σ,aG (.sl .u8) 5 0 σ,aG .u8 6 0 σ,aG (.i .i64) 22 0 σ,aG (.i .i64) 23 0 σ,cI .u8 0 σ,cI .bo 1 σ)
theorem aOF:∀x,Jw (zM x)=x:=λ_=>by kernel_rfl
def KD(y:aB×aB×aB×UInt8×aB):Exit×Sg:=((.exit 1),⟨[(0,.e (.sl .u8) y.1),(2,.e .tx y.2.1),(4,.own 0),(5,.e (.sl .u8) y.2.2.1),(6,.e .u8 y.2.2.2.1)],[(0,.row 5 .u8 y.2.2.2.2 true)],100⟩)
def aOB(_:Exit)(σ:Sg):aB×aB×aB×UInt8×aB:=(aG (.sl .u8) 0 0 σ,aG .tx 2 0 σ,aG (.sl .u8) 5 0 σ,aG .u8 6 0 σ,cI .u8 0 σ)
def KC(y:aB×aB×aB×UInt8×aB):Exit×Sg:=((.exit 4),⟨[(0,.e (.sl .u8) y.1),(2,.e .tx y.2.1),(4,.own 0),(5,.e (.sl .u8) y.2.2.1),(6,.e .u8 y.2.2.2.1)],[(0,.row 5 .u8 y.2.2.2.2 true)],100⟩)
def aOA(_:Exit)(σ:Sg):aB×aB×aB×UInt8×aB:=(aG (.sl .u8) 0 0 σ,aG .tx 2 0 σ,aG (.sl .u8) 5 0 σ,aG .u8 6 0 σ,cI .u8 0 σ)
def aNv:List (Exit×Nm):=[((.exit 1),⟨[0,2,4,5,6],[],[]⟩),((.exit 4),⟨[0,2,4,5,6],[],[]⟩)]
def zJ[aA](N:Nat):Nat->(aB×aB×aB×UInt8×Int×Int×aB×(List Bool))->((aB×aB×aB×UInt8×aB)->O)->((aB×aB×aB×UInt8×aB)->O)->((Unit)->O)->O
 |0,_,_,_,_=>none
 |n+1,x,k0,k1,k2=>qG N (λv0=>zJ N n (x.1,x.2.1,x.2.2.1,x.2.2.2.1,x.2.2.2.2.1,v0,x.2.2.2.2.2.2.1,x.2.2.2.2.2.2.2) k0 k1 k2) (λy0 y1 y2 y3 y4=>k0 (y0,y1,y2,y3,y4)) (λy0 y1 y2 y3 y4=>k1 (y0,y1,y2,y3,y4)) x.1 x.2.1 x.2.2.1 x.2.2.2.1 x.2.2.2.2.1 x.2.2.2.2.2.2.1 x.2.2.2.2.2.2.2 x.2.2.2.2.2.1
def zI[aA] N a0 a1 a2 a3 a4 a5 a6 a7 (k0:aB->aB->aB->UInt8->aB->O) (k1:aB->aB->aB->UInt8->aB->O):=zJ N N (a0,a1,a2,a3,a4,a5,a6,a7) (λy=>k0 y.1 y.2.1 y.2.2.1 y.2.2.2.1 y.2.2.2.2) (λy=>k1 y.1 y.2.1 y.2.2.1 y.2.2.2.1 y.2.2.2.2) (λ_=>none)
def Jx[aA] N a0 a1 a2 a3 a4 a5 a6 a7 (k0:aB->aB->aB->UInt8->aB->O) (k1:aB->aB->aB->UInt8->aB->O):=aW zM Jw (zJ N N) (zM (a0,a1,a2,a3,a4,a5,a6,a7)) (λy=>k0 y.1 y.2.1 y.2.2.1 y.2.2.2.1 y.2.2.2.2) (λy=>k1 y.1 y.2.1 y.2.2.1 y.2.2.2.1 y.2.2.2.2) (λ_=>none)
theorem Po[aA] N:Jx N=zI N:=funext λ_=>funext λ_=>funext λ_=>funext λ_=>funext λ_=>funext λ_=>funext λ_=>funext λ_=>funext λ_=>funext λ_=>dY aOF _ _ _ _
def Zb[aA](_:Nat):Hint:=(.seq .d (.seq .d (.seq (.block (.seq .d (.seq .d (.seq .d (.cond (.seq (.jS [] [] [[],[],[],[276,0],[],[],[],[],[],[]]) .d) .d))))) .d)))
theorem aON N:bN (iV N) Tryz.f15.ntmps (Zb N) Pr:=bW _ _ (aK trivial (aK trivial (aK (aK trivial (aK trivial (aK trivial (aK (aK trivial trivial) trivial)))) trivial)))
theorem aOI[aA](N:Nat)(self:Sg->O)(K:Exit->Sg->O)(x:aB×aB×aB×UInt8×Int×Int×aB×(List Bool)):qG N (λv0=>self (zM (x.1,x.2.1,x.2.2.1,x.2.2.2.1,x.2.2.2.2.1,v0,x.2.2.2.2.2.2.1,x.2.2.2.2.2.2.2))) (λy0 y1 y2 y3 y4=>K (KD (y0,y1,y2,y3,y4)).1 (KD (y0,y1,y2,y3,y4)).2) (λy0 y1 y2 y3 y4=>K (KC (y0,y1,y2,y3,y4)).1 (KC (y0,y1,y2,y3,y4)).2) x.1 x.2.1 x.2.2.1 x.2.2.2.1 x.2.2.2.2.1 x.2.2.2.2.2.2.1 x.2.2.2.2.2.2.2 x.2.2.2.2.2.1=exec (iV N) Tryz.f15.ntmps (Zb N) Pr (zM x) (dQ Z8 aNv self K):=by kernel_rfl
theorem aOV N (hc:aJ (iV N)):dB (iV N) Tryz.f15.ntmps (.loop Pr) KD KC (aR 2) (aW zM Jw (zJ N N)):=
 eG hc (aON N) (jI aOB aOA (.exit 1) (.exit 4) (λ_=>by kernel_rfl) (λ_=>by kernel_rfl) (λ_=>rfl) (λ_=>rfl) (by kernel_rfl)) (n:=N) (λx K=>eH (zJ N) (λ_ _ _ _=>rfl) (λn K ih x=>by
  refine eZ ?_ (aOI N _ K x);simp only[<-ih];rfl) N x K)
def KF[aA](_:Nat)(in0:aB->aB->aB->UInt8->Int->Int->aB->(List Bool)->(aB->aB->aB->UInt8->aB->O)->(aB->aB->aB->UInt8->aB->O)->O)(self:aB->aB->aB->UInt8->aB->O)(k0:aB->aB->aB->aB->O)(k1:aB->aB->aB->aB->O)(x150_0 x150_1 x150_2:aB)(x150_3:UInt8)(x150_4:aB):O:=
 br (decide (x150_3<=126))
  (in0 x150_0 x150_1 x150_2 x150_3 2 0 x150_4 [false,true]
   (λz183 z184 z185 _ z187=>
    k0 z183 z184 z185 z187)
   (λz188 z189 z190 z191 z192=>
    self z188 z189 z190 (z191+(1:UInt8)) z192))
  (k1 x150_0 x150_1 x150_2 x150_4)
def Pq:Code:=cX [1,0,1,1,0,1,0,0,1,0,0,1,0,0] EK
def Z7:Nm:=⟨[0,2,4,5,6],[],[]⟩
def zL(x:aB×aB×aB×UInt8×aB):Sg:=⟨[(0,.e (.sl .u8) x.1),(2,.e .tx x.2.1),(4,.own 0),(5,.e (.sl .u8) x.2.2.1),(6,.e .u8 x.2.2.2.1)],[(0,.row 5 .u8 x.2.2.2.2 true)],100⟩
def Jv(σ:Sg):aB×aB×aB×UInt8×aB:=(aG (.sl .u8) 0 0 σ,aG .tx 2 0 σ,aG (.sl .u8) 5 0 σ,aG .u8 6 0 σ,cI .u8 0 σ)
theorem aOE:∀x,Jv (zL x)=x:=λ_=>by kernel_rfl
def KB(y:aB×aB×aB×aB):Exit×Sg:=((.exit 1),⟨[(0,.e (.sl .u8) y.1),(2,.e .tx y.2.1),(4,.own 0),(5,.e (.sl .u8) y.2.2.1)],[(0,.row 5 .u8 y.2.2.2 true)],100⟩)
def aNz(_:Exit)(σ:Sg):aB×aB×aB×aB:=(aG (.sl .u8) 0 0 σ,aG .tx 2 0 σ,aG (.sl .u8) 5 0 σ,cI .u8 0 σ)
def KA(y:aB×aB×aB×aB):Exit×Sg:=((.exit 2),⟨[(0,.e (.sl .u8) y.1),(2,.e .tx y.2.1),(4,.own 0),(5,.e (.sl .u8) y.2.2.1)],[(0,.row 5 .u8 y.2.2.2 true)],100⟩)
def aNy(_:Exit)(σ:Sg):aB×aB×aB×aB:=(aG (.sl .u8) 0 0 σ,aG .tx 2 0 σ,aG (.sl .u8) 5 0 σ,cI .u8 0 σ)
def aNu:List (Exit×Nm):=[((.exit 1),⟨[0,2,4,5],[],[]⟩),((.exit 2),⟨[0,2,4,5],[],[]⟩)]
def uU[aA](N:Nat):Nat->(aB×aB×aB×UInt8×aB)->((aB×aB×aB×aB)->O)->((aB×aB×aB×aB)->O)->((Unit)->O)->O
 |0,_,_,_,_=>none
 |n+1,x,k0,k1,k2=>KF N (zI N) (λv0 v1 v2 v3 v4=>uU N n (v0,v1,v2,v3,v4) k0 k1 k2) (λy0 y1 y2 y3=>k0 (y0,y1,y2,y3)) (λy0 y1 y2 y3=>k1 (y0,y1,y2,y3)) x.1 x.2.1 x.2.2.1 x.2.2.2.1 x.2.2.2.2
def EJ[aA] N a0 a1 a2 a3 a4 (k0:aB->aB->aB->aB->O) (k1:aB->aB->aB->aB->O):=uU N N (a0,a1,a2,a3,a4) (λy=>k0 y.1 y.2.1 y.2.2.1 y.2.2.2) (λy=>k1 y.1 y.2.1 y.2.2.1 y.2.2.2) (λ_=>none)
def Pm[aA] N a0 a1 a2 a3 a4 (k0:aB->aB->aB->aB->O) (k1:aB->aB->aB->aB->O):=aW zL Jv (uU N N) (zL (a0,a1,a2,a3,a4)) (λy=>k0 y.1 y.2.1 y.2.2.1 y.2.2.2) (λy=>k1 y.1 y.2.1 y.2.2.1 y.2.2.2) (λ_=>none)
theorem Zd[aA] N:Pm N=EJ N:=funext λ_=>funext λ_=>funext λ_=>funext λ_=>funext λ_=>funext λ_=>funext λ_=>dY aOE _ _ _ _
def Za[aA](N:Nat):Hint:=(.seq .d (.seq (.block (.seq .d (.block (.sub Z8 _ _ _ KD KC (aR 2) (aW zM Jw (zJ N N)))))) .d))
theorem aOM N (hc:aJ (iV N)):bN (iV N) Tryz.f15.ntmps (Za N) Pq:=bW _ _ (aK trivial (aK (aK trivial (aOV N hc)) trivial))
theorem aOH[aA](N:Nat)(self:Sg->O)(K:Exit->Sg->O)(x:aB×aB×aB×UInt8×aB):KF N (Jx N) (λv0 v1 v2 v3 v4=>self (zL (v0,v1,v2,v3,v4))) (λy0 y1 y2 y3=>K (KB (y0,y1,y2,y3)).1 (KB (y0,y1,y2,y3)).2) (λy0 y1 y2 y3=>K (KA (y0,y1,y2,y3)).1 (KA (y0,y1,y2,y3)).2) x.1 x.2.1 x.2.2.1 x.2.2.2.1 x.2.2.2.2=exec (iV N) Tryz.f15.ntmps (Za N) Pq (zL x) (dQ Z7 aNu self K):=by kernel_rfl
theorem aOU N (hc:aJ (iV N)):dB (iV N) Tryz.f15.ntmps (.loop Pq) KB KA (aR 2) (aW zL Jv (uU N N)):=
 eG hc (aOM N hc) (jI aNz aNy (.exit 1) (.exit 2) (λ_=>by kernel_rfl) (λ_=>by kernel_rfl) (λ_=>rfl) (λ_=>rfl) (by kernel_rfl)) (n:=N) (λx K=>eH (uU N) (λ_ _ _ _=>rfl) (λn K ih x=>by
  refine eZ ?_ (aOH N _ K x);simp only[Po N,<-ih];rfl) N x K)
def KE[aA](_:Nat)(_in0:aB->aB->aB->UInt8->Int->Int->aB->(List Bool)->(aB->aB->aB->UInt8->aB->O)->(aB->aB->aB->UInt8->aB->O)->O)(in1:aB->aB->aB->UInt8->aB->(aB->aB->aB->aB->O)->(aB->aB->aB->aB->O)->O)(self:aB->aB->aB->aB->O)(k0:aB->Int->O)(k1:aB->aB->O)(x0_0 x0_1:aB)(x0_2 x0_3:aB):O:=
 br (decide ((0:Int)<(↑x0_2.length:Int)))
  (in1 x0_0 x0_1 x0_2 32 x0_3
   (λz193 z194 z195 z196=>
    self z193 z194 z195 z196)
   (λ_ _ _ _=>
    k0 [] 2))
  (k1 x0_0 x0_3)
def Pp:Code:=cX [1,0,1,1,0,1,0,0] EK
def Z6:Nm:=⟨[0,2,4,5],[],[.kG 4 (.row 5 .u8 [] true)]⟩
def zK(x:aB×aB×aB×aB):Sg:=⟨[(0,.e (.sl .u8) x.1),(2,.e .tx x.2.1),(4,.own 0),(5,.e (.sl .u8) x.2.2.1)],[(0,.row 5 .u8 x.2.2.2 true)],100⟩
def Ju(σ:Sg):aB×aB×aB×aB:=(aG (.sl .u8) 0 0 σ,aG .tx 2 0 σ,aG (.sl .u8) 5 0 σ,cI .u8 0 σ)
theorem aOD:∀x,Ju (zK x)=x:=λ_=>by kernel_rfl
def Jz(y:aB×Int):Exit×Sg:=(.ret,⟨[(2,.e .tx y.1),(3,.e (.i .i64) y.2)],[],100⟩)
def aNx(_:Exit)(σ:Sg):aB×Int:=(aG .tx 2 0 σ,aG (.i .i64) 3 0 σ)
def Jy(y:aB×aB):Exit×Sg:=((.exit 0),⟨[(0,.e (.sl .u8) y.1),(4,.own 0)],[(0,.row 5 .u8 y.2 true)],100⟩)
def aNw(_:Exit)(σ:Sg):aB×aB:=(aG (.sl .u8) 0 0 σ,cI .u8 0 σ)
def aNt:List (Exit×Nm):=[(.ret,⟨[2,3],[],[]⟩),((.exit 0),⟨[0,4],[],[]⟩)]
def uT[aA](N:Nat):Nat->(aB×aB×aB×aB)->((aB×Int)->O)->((aB×aB)->O)->((Unit)->O)->O
 |0,_,_,_,_=>none
 |n+1,x,k0,k1,k2=>KE N (zI N) (EJ N) (λv0 v1 v2 v3=>uT N n (v0,v1,v2,v3) k0 k1 k2) (λy0 y1=>k0 (y0,y1)) (λy0 y1=>k1 (y0,y1)) x.1 x.2.1 x.2.2.1 x.2.2.2
def Pn[aA] N a0 a1 a2 a3 (k0:aB->Int->O) (k1:aB->aB->O):=uT N N (a0,a1,a2,a3) (λy=>k0 y.1 y.2) (λy=>k1 y.1 y.2) (λ_=>none)
def Z5[aA] N a0 a1 a2 a3 (k0:aB->Int->O) (k1:aB->aB->O):=aW zK Ju (uT N N) (zK (a0,a1,a2,a3)) (λy=>k0 y.1 y.2) (λy=>k1 y.1 y.2) (λ_=>none)
theorem aOQ[aA] N:Z5 N=Pn N:=funext λ_=>funext λ_=>funext λ_=>funext λ_=>funext λ_=>funext λ_=>dY aOD _ _ _ _
def Z9[aA](N:Nat):Hint:=(.seq .d (.block (.seq (.seq .d (.block (.sub Z7 _ _ _ KB KA (aR 2) (aW zL Jv (uU N N))))) .d)))
theorem aOL N (hc:aJ (iV N)):bN (iV N) Tryz.f15.ntmps (Z9 N) Pp:=bW _ _ (aK trivial (aK (aK trivial (aOU N hc)) trivial))
theorem aOG[aA](N:Nat)(self:Sg->O)(K:Exit->Sg->O)(x:aB×aB×aB×aB):KE N (Jx N) (Pm N) (λv0 v1 v2 v3=>self (zK (v0,v1,v2,v3))) (λy0 y1=>K (Jz (y0,y1)).1 (Jz (y0,y1)).2) (λy0 y1=>K (Jy (y0,y1)).1 (Jy (y0,y1)).2) x.1 x.2.1 x.2.2.1 x.2.2.2=exec (iV N) Tryz.f15.ntmps (Z9 N) Pp (zK x) (dQ Z6 aNt self K):=by kernel_rfl
theorem aOT N (hc:aJ (iV N)):dB (iV N) Tryz.f15.ntmps (.loop Pp) Jz Jy (aR 2) (aW zK Ju (uT N N)):=
 eG hc (aOL N hc) (jI aNx aNw .ret (.exit 0) (λ_=>by kernel_rfl) (λ_=>by kernel_rfl) (λ_=>rfl) (λ_=>rfl) (by kernel_rfl)) (n:=N) (λx K=>eH (uT N) (λ_ _ _ _=>rfl) (λn K ih x=>by
  refine eZ ?_ (aOG N _ K x);simp only[Po N,Zd N,<-ih];rfl) N x K)
def Pt[aA](N:Nat)(_in0:aB->aB->aB->UInt8->Int->Int->aB->(List Bool)->(aB->aB->aB->UInt8->aB->O)->(aB->aB->aB->UInt8->aB->O)->O)(_in1:aB->aB->aB->UInt8->aB->(aB->aB->aB->aB->O)->(aB->aB->aB->aB->O)->O)(in2:aB->aB->aB->aB->(aB->Int->O)->(aB->aB->O)->O)(l0:aB):O:=
 in2 l0 [] l0 []
  (λz201 z202=>
   some (sW z201 z202))
  (λz203 z204=>
   ck (Bl N z204)<|
   ck (sE N (zQ N z204) z203)<|
   br (!sD N (zQ N z204) z203)
    (some (sW [] 2))
    (some (sW z204 0)))
def Zk[aA] N l0:=Pt N (zI N) (EJ N) (Pn N) l0
def Zc[aA](N:Nat):Hint:=(.seq .d (.block (.seq .d (.seq .d (.seq (.seq .d (.block (.sub Z6 _ _ _ Jz Jy (aR 2) (aW zK Ju (uT N N))))) .d)))))
theorem aOO N (hc:aJ (iV N)):bN (iV N) Tryz.f15.ntmps (Zc N) EK:=bW _ _ (aK trivial (aK trivial (aK trivial (aK (aK trivial (aOT N hc)) trivial))))
theorem aOJ[aA] N l0:Pt N (Jx N) (Pm N) (Z5 N) l0=exec (iV N) Tryz.f15.ntmps (Zc N) EK ⟨cC 0 [.e (.sl .u8) l0],[],100⟩ (cJ (iV N) Tryz.f15 false):=by kernel_rfl
def EH(r:aH):Option (aB×Int):=match r with
 |(.aT [x0,x1],[])=>(match ue .tx x0,ue (.i .i64) x1 with|some a0,some a1=>some (a0,a1)|_,_=>none)
 |_=>none
theorem aOC{r d}(h:EH r=some d):r=sW d.1 d.2:=by
 unfold EH at h;split at h
 .split at h
  .rename_i h0 h1;cases h;rw[b7 h0,b7 h1];rfl
  .cases h
 .cases h
def zH N l0:=(Zk N l0).bind EH
theorem aOP{N}(hc:aJ (iV N)){l0 d}(hd:zH N l0=some d):cR Tryz.prog 15 [.e (.sl .u8) l0] [] (sW d.1 d.2):=
 c8 hc (by kernel_rfl) (by kernel_rfl) (aOO N hc) (by kernel_rfl) aOC (λhr=>(aOJ N l0).symm.trans (by rw[Po N,Zd N,aOQ N];exact hr)) hd
def EI N l0:=(zH N l0).isSome
def fM N l0:=((zH N l0).getD ([],0)).1
def EG N l0:=((zH N l0).getD ([],0)).2
def Ze(N:Nat):bO:=E1 (.sl .u8) (λx0=>(EI N x0,sW (fM N x0) (EG N x0)))
theorem aOK N:aV Tryz.prog 15 (Ze N):=aV.e1 (λx0 h=>dO (z:=zH N x0) h (aOP (aOR N)) rfl)
def Gk(a0:Bool)(a1:aB)(a2:(List aB)):aH:=(.e .bo a0,[(50,.box 86 [.own 51,.own 52]),(51,.row 5 .u8 a1 true),(52,.row 23 (.sl .u8) a2 true)])
def DF(_:Nat):Cx:=⟨Tryz.prog,99999,[],[]⟩
def Uq:Code:=Tryz.f66.body.getD .skip
theorem aGC N:aJ (DF N):=cM (by kernel_rfl) .nil .nil
def Ur[aA](_:Nat)(c1:aB)(width2 room3:Int)(h51_0:aB)(h52_0:(List aB)):O:=
 some (Gk (decide (aS.wrap (aS.wrap ((↑h51_0.length:Int)+(↑c1.length:Int))+room3)<=width2)) h51_0 h52_0)
def w66[aA] N c1 width2 room3 h51_0 h52_0:=Ur N c1 width2 room3 h51_0 h52_0
def Uo[aA](_:Nat):Hint:=.d
theorem aGA N:bN (DF N) Tryz.f66.ntmps (Uo N) Uq:=bW _ _ trivial
theorem aFx[aA] N c1 width2 room3 h51_0 h52_0:Ur N c1 width2 room3 h51_0 h52_0=exec (DF N) Tryz.f66.ntmps (Uo N) Uq ⟨cC 0 [.ref 50 0,.e (.sl .u8) c1,.e (.i .i64) width2,.e (.i .i64) room3],[(50,.box 86 [.own 51,.own 52]),(51,.row 5 .u8 h51_0 true),(52,.row 23 (.sl .u8) h52_0 true)],100⟩ (cJ (DF N) Tryz.f66 true):=by kernel_rfl
def Mk(r:aH):Option (Bool×aB×(List aB)):=match r with
 |(x0,[(50,.box 86 [.own 51,.own 52]),(51,x1),(52,x2)])=>(match ue .bo x0,ur 5 .u8 true x1,ur 23 (.sl .u8) true x2 with|some a0,some a1,some a2=>some (a0,a1,a2)|_,_,_=>none)
 |_=>none
theorem aFw{r d}(h:Mk r=some d):r=Gk d.1 d.2.1 d.2.2:=by
 unfold Mk at h;split at h
 .split at h
  .rename_i h0 h1 h2;cases h;rw[b7 h0,lD h1,lD h2];rfl
  .cases h
 .cases h
def wO N c1 width2 room3 h51_0 h52_0:=(w66 N c1 width2 room3 h51_0 h52_0).bind Mk
theorem aGB{N}(hc:aJ (DF N)){c1 width2 room3 h51_0 h52_0 d}(hd:wO N c1 width2 room3 h51_0 h52_0=some d):cR Tryz.prog 66 [.ref 50 0,.e (.sl .u8) c1,.e (.i .i64) width2,.e (.i .i64) room3] [(50,.box 86 [.own 51,.own 52]),(51,.row 5 .u8 h51_0 true),(52,.row 23 (.sl .u8) h52_0 true)] (Gk d.1 d.2.1 d.2.2):=
 c8 hc (by kernel_rfl) (by kernel_rfl) (aGA N) (by kernel_rfl) aFw (aFx N c1 width2 room3 h51_0 h52_0).symm.trans hd
def Gl N c1 width2 room3 h51_0 h52_0:=(wO N c1 width2 room3 h51_0 h52_0).isSome
def Gj N c1 width2 room3 h51_0 h52_0:=((wO N c1 width2 room3 h51_0 h52_0).getD (false,[],[])).1
def wQ N c1 width2 room3 h51_0 h52_0:=((wO N c1 width2 room3 h51_0 h52_0).getD (false,[],[])).2.1
def wP N c1 width2 room3 h51_0 h52_0:=((wO N c1 width2 room3 h51_0 h52_0).getD (false,[],[])).2.2
def Ml(xs:List X)(H:XH):Option (aB×Int×Int×aB×(List aB)):=match xs,H with
 |[.ref 50 0,x0,x1,x2],[(50,.box 86 [.own 51,.own 52]),(51,x3),(52,x4)]=>(match ue (.sl .u8) x0,ue (.i .i64) x1,ue (.i .i64) x2,ur 5 .u8 true x3,ur 23 (.sl .u8) true x4 with|some a0,some a1,some a2,some a3,some a4=>some (a0,a1,a2,a3,a4)|_,_,_,_,_=>none)
 |_,_=>none
theorem aFz{xs H d}(h:Ml xs H=some d):xs=[.ref 50 0,.e (.sl .u8) d.1,.e (.i .i64) d.2.1,.e (.i .i64) d.2.2.1]/\H=[(50,.box 86 [.own 51,.own 52]),(51,.row 5 .u8 d.2.2.2.1 true),(52,.row 23 (.sl .u8) d.2.2.2.2 true)]:=by
 unfold Ml at h;split at h
 .split at h
  .rename_i h0 h1 h2 h3 h4;cases h;rw[b7 h0,b7 h1,b7 h2,lD h3,lD h4];exact⟨rfl,rfl⟩
  .cases h
 .cases h
def Up(N:Nat):bO:=vO Ml (λd=>Gl N d.1 d.2.1 d.2.2.1 d.2.2.2.1 d.2.2.2.2) (λd=>Gk (Gj N d.1 d.2.1 d.2.2.1 d.2.2.2.1 d.2.2.2.2) (wQ N d.1 d.2.1 d.2.2.1 d.2.2.2.1 d.2.2.2.2) (wP N d.1 d.2.1 d.2.2.1 d.2.2.2.1 d.2.2.2.2))
theorem aFy N:aV Tryz.prog 66 (Up N):=Cb aFz (λd h=>dO (z:=wO N d.1 d.2.1 d.2.2.1 d.2.2.2.1 d.2.2.2.2) h (aGB (aGC N)) rfl)
def Gi(a0:(List aB))(a1:aB):aH:=(.aT [],[(50,.box 86 [.own 100,.own 52]),(52,.row 23 (.sl .u8) a0 true),(100,.row 5 .u8 a1 true)])
def DE(_:Nat):Cx:=⟨Tryz.prog,99999,[],[]⟩
def Ul:Code:=Tryz.f67.body.getD .skip
theorem aFv N:aJ (DE N):=cM (by kernel_rfl) .nil .nil
def Mj[aA](_:Nat)(c1 h51_0:aB)(h52_0:(List aB)):O:=
 ck (b8 (h51_0++c1).length (1:Nat))<|
 some (Gi h52_0 (h51_0++c1))
def Un[aA] N c1 h51_0 h52_0:=Mj N c1 h51_0 h52_0
def Uj[aA](_:Nat):Hint:=.d
theorem aFt N:bN (DE N) Tryz.f67.ntmps (Uj N) Ul:=bW _ _ trivial
theorem aFq[aA] N c1 h51_0 h52_0:Mj N c1 h51_0 h52_0=exec (DE N) Tryz.f67.ntmps (Uj N) Ul ⟨cC 0 [.ref 50 0,.e (.sl .u8) c1],[(50,.box 86 [.own 51,.own 52]),(51,.row 5 .u8 h51_0 true),(52,.row 23 (.sl .u8) h52_0 true)],100⟩ (cJ (DE N) Tryz.f67 true):=by kernel_rfl
def Mh(r:aH):Option ((List aB)×aB):=match r with
 |(.aT [],[(50,.box 86 [.own 100,.own 52]),(52,x0),(100,x1)])=>(match ur 23 (.sl .u8) true x0,ur 5 .u8 true x1 with|some a0,some a1=>some (a0,a1)|_,_=>none)
 |_=>none
theorem aFp{r d}(h:Mh r=some d):r=Gi d.1 d.2:=by
 unfold Mh at h;split at h
 .split at h
  .rename_i h0 h1;cases h;rw[lD h0,lD h1];rfl
  .cases h
 .cases h
def wN N c1 h51_0 h52_0:=(Un N c1 h51_0 h52_0).bind Mh
theorem aFu{N}(hc:aJ (DE N)){c1 h51_0 h52_0 d}(hd:wN N c1 h51_0 h52_0=some d):cR Tryz.prog 67 [.ref 50 0,.e (.sl .u8) c1] [(50,.box 86 [.own 51,.own 52]),(51,.row 5 .u8 h51_0 true),(52,.row 23 (.sl .u8) h52_0 true)] (Gi d.1 d.2):=
 c8 hc (by kernel_rfl) (by kernel_rfl) (aFt N) (by kernel_rfl) aFp (aFq N c1 h51_0 h52_0).symm.trans hd
def uD N c1 h51_0 h52_0:=(wN N c1 h51_0 h52_0).isSome
def oU N c1 h51_0 h52_0:=((wN N c1 h51_0 h52_0).getD ([],[])).1
def oT N c1 h51_0 h52_0:=((wN N c1 h51_0 h52_0).getD ([],[])).2
def Mi(xs:List X)(H:XH):Option (aB×aB×(List aB)):=match xs,H with
 |[.ref 50 0,x0],[(50,.box 86 [.own 51,.own 52]),(51,x1),(52,x2)]=>(match ue (.sl .u8) x0,ur 5 .u8 true x1,ur 23 (.sl .u8) true x2 with|some a0,some a1,some a2=>some (a0,a1,a2)|_,_,_=>none)
 |_,_=>none
theorem aFs{xs H d}(h:Mi xs H=some d):xs=[.ref 50 0,.e (.sl .u8) d.1]/\H=[(50,.box 86 [.own 51,.own 52]),(51,.row 5 .u8 d.2.1 true),(52,.row 23 (.sl .u8) d.2.2 true)]:=by
 unfold Mi at h;split at h
 .split at h
  .rename_i h0 h1 h2;cases h;rw[b7 h0,lD h1,lD h2];exact⟨rfl,rfl⟩
  .cases h
 .cases h
def Uk(N:Nat):bO:=vO Mi (λd=>uD N d.1 d.2.1 d.2.2) (λd=>Gi (oU N d.1 d.2.1 d.2.2) (oT N d.1 d.2.1 d.2.2))
theorem aFr N:aV Tryz.prog 67 (Uk N):=Cb aFs (λd h=>dO (z:=wN N d.1 d.2.1 d.2.2) h (aFu (aFv N)) rfl)
def Gh(a0:aB)(a1:(List aB)):aH:=(.aT [],[(50,.box 86 [.dE,.own 100]),(51,.row 5 .u8 a0 true),(100,.row 23 (.sl .u8) a1 true)])
def DD(_:Nat):Cx:=⟨Tryz.prog,99999,[],[]⟩
def Ug:Code:=Tryz.f68.body.getD .skip
theorem aFo N:aJ (DD N):=cM (by kernel_rfl) .nil .nil
def Mg[aA](_:Nat)(h51_0:aB)(h52_0:(List aB)):O:=
 ck (b8 (h52_0++[h51_0]).length (24:Nat))<|
 some (Gh h51_0 (h52_0++[h51_0]))
def Ui[aA] N h51_0 h52_0:=Mg N h51_0 h52_0
def Ue[aA](_:Nat):Hint:=(.seq (.jS [] [.cv 0 0 (.sl .u8)] [[],[],[],[],[],[],[],[],[],[],[],[188,52],[],[],[50]]) .d)
theorem aFm N:bN (DD N) Tryz.f68.ntmps (Ue N) Ug:=bW _ _ (aK trivial trivial)
theorem aFj[aA] N h51_0 h52_0:Mg N h51_0 h52_0=exec (DD N) Tryz.f68.ntmps (Ue N) Ug ⟨cC 0 [.ref 50 0],[(50,.box 86 [.own 51,.own 52]),(51,.row 5 .u8 h51_0 true),(52,.row 23 (.sl .u8) h52_0 true)],100⟩ (cJ (DD N) Tryz.f68 true):=by kernel_rfl
def Me(r:aH):Option (aB×(List aB)):=match r with
 |(.aT [],[(50,.box 86 [.dE,.own 100]),(51,x0),(100,x1)])=>(match ur 5 .u8 true x0,ur 23 (.sl .u8) true x1 with|some a0,some a1=>some (a0,a1)|_,_=>none)
 |_=>none
theorem aFi{r d}(h:Me r=some d):r=Gh d.1 d.2:=by
 unfold Me at h;split at h
 .split at h
  .rename_i h0 h1;cases h;rw[lD h0,lD h1];rfl
  .cases h
 .cases h
def wM N h51_0 h52_0:=(Ui N h51_0 h52_0).bind Me
theorem aFn{N}(hc:aJ (DD N)){h51_0 h52_0 d}(hd:wM N h51_0 h52_0=some d):cR Tryz.prog 68 [.ref 50 0] [(50,.box 86 [.own 51,.own 52]),(51,.row 5 .u8 h51_0 true),(52,.row 23 (.sl .u8) h52_0 true)] (Gh d.1 d.2):=
 c8 hc (by kernel_rfl) (by kernel_rfl) (aFm N) (by kernel_rfl) aFi (aFj N h51_0 h52_0).symm.trans hd
def rX N h51_0 h52_0:=(wM N h51_0 h52_0).isSome
def aFh N h51_0 h52_0:=((wM N h51_0 h52_0).getD ([],[])).1
def rW N h51_0 h52_0:=((wM N h51_0 h52_0).getD ([],[])).2
def Mf(xs:List X)(H:XH):Option (aB×(List aB)):=match xs,H with
 |[.ref 50 0],[(50,.box 86 [.own 51,.own 52]),(51,x0),(52,x1)]=>(match ur 5 .u8 true x0,ur 23 (.sl .u8) true x1 with|some a0,some a1=>some (a0,a1)|_,_=>none)
 |_,_=>none
theorem aFl{xs H d}(h:Mf xs H=some d):xs=[.ref 50 0]/\H=[(50,.box 86 [.own 51,.own 52]),(51,.row 5 .u8 d.1 true),(52,.row 23 (.sl .u8) d.2 true)]:=by
 unfold Mf at h;split at h
 .split at h
  .rename_i h0 h1;cases h;rw[lD h0,lD h1];exact⟨rfl,rfl⟩
  .cases h
 .cases h
def Uf(N:Nat):bO:=vO Mf (λd=>rX N d.1 d.2) (λd=>Gh (aFh N d.1 d.2) (rW N d.1 d.2))
theorem aFk N:aV Tryz.prog 68 (Uf N):=Cb aFl (λd h=>dO (z:=wM N d.1 d.2) h (aFn (aFo N)) rfl)
def D4(a0:(List aB)):aH:=(.e (.sl (.sl .u8)) a0,[])
def jP(N:Nat):Cx:=⟨Tryz.prog,99999,[(35,SC N),(65,Mn N),(34,Ii N),(66,Up N),(67,Uk N),(68,Uf N)],[]⟩
def D6:Code:=Tryz.f46.body.getD .skip
theorem aJ1 N:aJ (jP N):=cM (by kernel_rfl) (.cons (by kernel_rfl) (aCR N) (.cons (by kernel_rfl) (Us N) (.cons (by kernel_rfl) (OX N) (.cons (by kernel_rfl) (aFy N) (.cons (by kernel_rfl) (aFr N) (.cons (by kernel_rfl) (aFk N) .nil)))))) .nil
def Wo[aA](_:Nat)(k0:Int->(List aB)->Int->Bool->Int->aB->(List aB)->O)(x61_0:Int)(x61_1:(List aB))(x61_2:Int)(x61_3:Bool)(x61_4:Int)(x61_5:aB)(x61_6:(List aB)):O:=
 br x61_3
  (k0 x61_0 x61_1 x61_2 x61_3 0 x61_5 x61_6)
  (k0 x61_0 x61_1 x61_2 x61_3 x61_4 x61_5 x61_6)
def Nt:Code:=cX [1,1,1,0,1,0,0,1,0,1,1,0] D6
def aJV:Nm:=⟨[1,5,6,7,8,9],[],[]⟩
def BM(x:Int×(List aB)×Int×Bool×Int×aB×(List aB)):Sg:=⟨[(1,.e (.i .i64) x.1),(5,.ref 0 0),(6,.e (.sl (.sl .u8)) x.2.1),(7,.e (.i .i64) x.2.2.1),(8,.e .bo x.2.2.2.1),(9,.e (.i .i64) x.2.2.2.2.1)],[(0,.box 86 [.own 1,.own 2]),(1,.row 5 .u8 x.2.2.2.2.2.1 true),(2,.row 23 (.sl .u8) x.2.2.2.2.2.2 true)],100⟩
def IB(σ:Sg):Int×(List aB)×Int×Bool×Int×aB×(List aB):=(aG (.i .i64) 1 0 σ,aG (.sl (.sl .u8)) 6 0 σ,aG (.i .i64) 7 0 σ,aG .bo 8 0 σ,aG (.i .i64) 9 0 σ,cI .u8 1 σ,cI (.sl .u8) 2 σ)
theorem aJQ:∀x,IB (BM x)=x:=λ_=>by kernel_rfl
def IH(y:Int×(List aB)×Int×Bool×Int×aB×(List aB)):Exit×Sg:=(.normal,⟨[(1,.e (.i .i64) y.1),(5,.ref 0 0),(6,.e (.sl (.sl .u8)) y.2.1),(7,.e (.i .i64) y.2.2.1),(8,.e .bo y.2.2.2.1),(9,.e (.i .i64) y.2.2.2.2.1)],[(0,.box 86 [.own 1,.own 2]),(1,.row 5 .u8 y.2.2.2.2.2.1 true),(2,.row 23 (.sl .u8) y.2.2.2.2.2.2 true)],100⟩)
def aJM(_:Exit)(σ:Sg):Int×(List aB)×Int×Bool×Int×aB×(List aB):=(aG (.i .i64) 1 0 σ,aG (.sl (.sl .u8)) 6 0 σ,aG (.i .i64) 7 0 σ,aG .bo 8 0 σ,aG (.i .i64) 9 0 σ,cI .u8 1 σ,cI (.sl .u8) 2 σ)
def aJJ:List (Exit×Nm):=[(.normal,⟨[1,5,6,7,8,9],[],[]⟩)]
def IE[aA](N:Nat)(_:Nat)(x:Int×(List aB)×Int×Bool×Int×aB×(List aB))(k0:(Int×(List aB)×Int×Bool×Int×aB×(List aB))->O)(_:(Unit)->O)(_:(Unit)->O):O:=Wo N (λy0 y1 y2 y3 y4 y5 y6=>k0 (y0,y1,y2,y3,y4,y5,y6)) x.1 x.2.1 x.2.2.1 x.2.2.2.1 x.2.2.2.2.1 x.2.2.2.2.2.1 x.2.2.2.2.2.2
def ID[aA] N a0 a1 a2 a3 a4 a5 a6 (k0:Int->(List aB)->Int->Bool->Int->aB->(List aB)->O):=IE N N (a0,a1,a2,a3,a4,a5,a6) (λy=>k0 y.1 y.2.1 y.2.2.1 y.2.2.2.1 y.2.2.2.2.1 y.2.2.2.2.2.1 y.2.2.2.2.2.2) (λ_=>none) (λ_=>none)
def No[aA] N a0 a1 a2 a3 a4 a5 a6 (k0:Int->(List aB)->Int->Bool->Int->aB->(List aB)->O):=aW BM IB (IE N N) (BM (a0,a1,a2,a3,a4,a5,a6)) (λy=>k0 y.1 y.2.1 y.2.2.1 y.2.2.2.1 y.2.2.2.2.1 y.2.2.2.2.2.1 y.2.2.2.2.2.2) (λ_=>none) (λ_=>none)
theorem Wk[aA] N:No N=ID N:=funext λ_=>funext λ_=>funext λ_=>funext λ_=>funext λ_=>funext λ_=>funext λ_=>funext λ_=>dY aJQ _ _ _ _
theorem aJT[aA](N:Nat)(K:Exit->Sg->O)(x:Int×(List aB)×Int×Bool×Int×aB×(List aB)):Wo N (λy0 y1 y2 y3 y4 y5 y6=>K (IH (y0,y1,y2,y3,y4,y5,y6)).1 (IH (y0,y1,y2,y3,y4,y5,y6)).2) x.1 x.2.1 x.2.2.1 x.2.2.2.1 x.2.2.2.2.1 x.2.2.2.2.2.1 x.2.2.2.2.2.2=exec (jP N) Tryz.f46.ntmps .d Nt (BM x) (Ew aJJ K):=by kernel_rfl
theorem aJ4 N (hc:aJ (jP N)):dB (jP N) Tryz.f46.ntmps Nt IH (aR 1) (aR 2) (aW BM IB (IE N N)):=
 aAf hc (dS Nt) (iZ aJM .normal (λ_=>by kernel_rfl) (λ_=>rfl) (by kernel_rfl)) (λx K=>by
  exact aJT N K x)
def IJ[aA](N:Nat)(self:(List aB)->Int->aB->(List aB)->O)(k0:Int->(List aB)->Int->Bool->aB->(List aB)->O)(x69_0:Int)(x69_3:Bool)(x69_4:Int)(x69_1:(List aB))(x69_2:Int)(x69_5:aB)(x69_6:(List aB)):O:=
 br (decide ((0:Int)<(↑x69_1.length:Int)))
  (gx x69_1 0 λy80=>
  ck (Gl N y80 x69_0 x69_4 x69_5 x69_6)<|
  br (Gj N y80 x69_0 x69_4 x69_5 x69_6)
   (gx x69_1 0 λy81=>
   ck (uD N y81 (wQ N y80 x69_0 x69_4 x69_5 x69_6) (wP N y80 x69_0 x69_4 x69_5 x69_6))<|
   gx x69_1 0 λy82=>
   ck (dJ x69_1.length (some (1:Int)) none)<|
   self (cA x69_1 (some (1:Int)) none) (aS.wrap (x69_2-(↑y82.length:Int))) (oT N y81 (wQ N y80 x69_0 x69_4 x69_5 x69_6) (wP N y80 x69_0 x69_4 x69_5 x69_6)) (oU N y81 (wQ N y80 x69_0 x69_4 x69_5 x69_6) (wP N y80 x69_0 x69_4 x69_5 x69_6)))
   (k0 x69_0 x69_1 x69_2 x69_3 (wQ N y80 x69_0 x69_4 x69_5 x69_6) (wP N y80 x69_0 x69_4 x69_5 x69_6)))
  (br false
   (gx x69_1 0 λy83=>
   ck (uD N y83 x69_5 x69_6)<|
   gx x69_1 0 λy84=>
   ck (dJ x69_1.length (some (1:Int)) none)<|
   self (cA x69_1 (some (1:Int)) none) (aS.wrap (x69_2-(↑y84.length:Int))) (oT N y83 x69_5 x69_6) (oU N y83 x69_5 x69_6))
   (k0 x69_0 x69_1 x69_2 x69_3 x69_5 x69_6))
def Ns:Code:=cX [1,1,1,0,1,0,0,1,0,1,1,1,0,0,0] D6
def We:Nm:=⟨[1,5,6,7,8,9],[],[]⟩
def xL(x:Int×(List aB)×Int×Bool×Int×aB×(List aB)):Sg:=⟨[(1,.e (.i .i64) x.1),(5,.ref 0 0),(6,.e (.sl (.sl .u8)) x.2.1),(7,.e (.i .i64) x.2.2.1),(8,.e .bo x.2.2.2.1),(9,.e (.i .i64) x.2.2.2.2.1)],[(0,.box 86 [.own 1,.own 2]),(1,.row 5 .u8 x.2.2.2.2.2.1 true),(2,.row 23 (.sl .u8) x.2.2.2.2.2.2 true)],100⟩
def IA(σ:Sg):Int×(List aB)×Int×Bool×Int×aB×(List aB):=(aG (.i .i64) 1 0 σ,aG (.sl (.sl .u8)) 6 0 σ,aG (.i .i64) 7 0 σ,aG .bo 8 0 σ,aG (.i .i64) 9 0 σ,cI .u8 1 σ,cI (.sl .u8) 2 σ)
theorem aJP:∀x,IA (xL x)=x:=λ_=>by kernel_rfl
def IG(y:Int×(List aB)×Int×Bool×aB×(List aB)):Exit×Sg:=((.exit 2),⟨[(1,.e (.i .i64) y.1),(5,.ref 0 0),(6,.e (.sl (.sl .u8)) y.2.1),(7,.e (.i .i64) y.2.2.1),(8,.e .bo y.2.2.2.1)],[(0,.box 86 [.own 1,.own 2]),(1,.row 5 .u8 y.2.2.2.2.1 true),(2,.row 23 (.sl .u8) y.2.2.2.2.2 true)],100⟩)
def aJL(_:Exit)(σ:Sg):Int×(List aB)×Int×Bool×aB×(List aB):=(aG (.i .i64) 1 0 σ,aG (.sl (.sl .u8)) 6 0 σ,aG (.i .i64) 7 0 σ,aG .bo 8 0 σ,cI .u8 1 σ,cI (.sl .u8) 2 σ)
def aJI:List (Exit×Nm):=[((.exit 2),⟨[1,5,6,7,8],[],[]⟩)]
def sC[aA](N:Nat):Nat->(Int×(List aB)×Int×Bool×Int×aB×(List aB))->((Int×(List aB)×Int×Bool×aB×(List aB))->O)->((Unit)->O)->((Unit)->O)->O
 |0,_,_,_,_=>none
 |n+1,x,k0,k1,k2=>IJ N (λv0 v1 v2 v3=>sC N n (x.1,v0,v1,x.2.2.2.1,x.2.2.2.2.1,v2,v3) k0 k1 k2) (λy0 y1 y2 y3 y4 y5=>k0 (y0,y1,y2,y3,y4,y5)) x.1 x.2.2.2.1 x.2.2.2.2.1 x.2.1 x.2.2.1 x.2.2.2.2.2.1 x.2.2.2.2.2.2
def IC[aA] N a0 a1 a2 a3 a4 a5 a6 (k0:Int->(List aB)->Int->Bool->aB->(List aB)->O):=sC N N (a0,a1,a2,a3,a4,a5,a6) (λy=>k0 y.1 y.2.1 y.2.2.1 y.2.2.2.1 y.2.2.2.2.1 y.2.2.2.2.2) (λ_=>none) (λ_=>none)
def Nn[aA] N a0 a1 a2 a3 a4 a5 a6 (k0:Int->(List aB)->Int->Bool->aB->(List aB)->O):=aW xL IA (sC N N) (xL (a0,a1,a2,a3,a4,a5,a6)) (λy=>k0 y.1 y.2.1 y.2.2.1 y.2.2.2.1 y.2.2.2.2.1 y.2.2.2.2.2) (λ_=>none) (λ_=>none)
theorem Wi[aA] N:Nn N=IC N:=funext λ_=>funext λ_=>funext λ_=>funext λ_=>funext λ_=>funext λ_=>funext λ_=>funext λ_=>dY aJP _ _ _ _
def Wg[aA](_:Nat):Hint:=(.seq (.seq (.jS [1004] [] []) .d) .d)
theorem aJX N:bN (jP N) Tryz.f46.ntmps (Wg N) Ns:=bW _ _ (aK (aK trivial trivial) trivial)
theorem aJS[aA](N:Nat)(self:Sg->O)(K:Exit->Sg->O)(x:Int×(List aB)×Int×Bool×Int×aB×(List aB)):IJ N (λv0 v1 v2 v3=>self (xL (x.1,v0,v1,x.2.2.2.1,x.2.2.2.2.1,v2,v3))) (λy0 y1 y2 y3 y4 y5=>K (IG (y0,y1,y2,y3,y4,y5)).1 (IG (y0,y1,y2,y3,y4,y5)).2) x.1 x.2.2.2.1 x.2.2.2.2.1 x.2.1 x.2.2.1 x.2.2.2.2.2.1 x.2.2.2.2.2.2=exec (jP N) Tryz.f46.ntmps (Wg N) Ns (xL x) (dQ We aJI self K):=by kernel_rfl
theorem aJ3 N (hc:aJ (jP N)):dB (jP N) Tryz.f46.ntmps (.loop Ns) IG (aR 1) (aR 2) (aW xL IA (sC N N)):=
 eG hc (aJX N) (iZ aJL (.exit 2) (λ_=>by kernel_rfl) (λ_=>rfl) (by kernel_rfl)) (n:=N) (λx K=>eH (sC N) (λ_ _ _ _=>rfl) (λn K ih x=>by
  refine eZ ?_ (aJS N _ K x);simp only[<-ih];rfl) N x K)
def II[aA](N:Nat)(in0:Int->(List aB)->Int->Bool->Int->aB->(List aB)->(Int->(List aB)->Int->Bool->Int->aB->(List aB)->O)->O)(in1:Int->(List aB)->Int->Bool->Int->aB->(List aB)->(Int->(List aB)->Int->Bool->aB->(List aB)->O)->O)(self:Int->(List aB)->Int->(List aB)->O)(k0:(List aB)->O)(x0_0:Int)(x0_1:(List aB))(x0_2:Int)(x0_3:(List aB)):O:=
 br (decide (0<x0_2))
  (in0 x0_0 x0_1 x0_2 (decide (x0_2<=x0_0)) 1 [] x0_3
   (λz62 z63 z64 z65 z66 z67 z68=>
    in1 z62 z63 z64 z65 z66 z67 z68
     (λz85 z86 z87 z88 z89 z90=>
      br (!z88)
       (ck (uD N [(63:UInt8)] z89 z90)<|
       ck (rX N (oT N [(63:UInt8)] z89 z90) (oU N [(63:UInt8)] z89 z90))<|
       self z85 z86 z87 (rW N (oT N [(63:UInt8)] z89 z90) (oU N [(63:UInt8)] z89 z90)))
       (ck (rX N z89 z90)<|
       self z85 z86 z87 (rW N z89 z90)))))
  (k0 x0_3)
def Nr:Code:=cX [1,1,1,0,1,0,0] D6
def Wd:Nm:=⟨[1,5,6,7],[],[]⟩
def xK(x:Int×(List aB)×Int×(List aB)):Sg:=⟨[(1,.e (.i .i64) x.1),(5,.ref 0 0),(6,.e (.sl (.sl .u8)) x.2.1),(7,.e (.i .i64) x.2.2.1)],[(0,.box 86 [.dE,.own 1]),(1,.row 23 (.sl .u8) x.2.2.2 true)],100⟩
def Hz(σ:Sg):Int×(List aB)×Int×(List aB):=(aG (.i .i64) 1 0 σ,aG (.sl (.sl .u8)) 6 0 σ,aG (.i .i64) 7 0 σ,cI (.sl .u8) 1 σ)
theorem aJO:∀x,Hz (xK x)=x:=λ_=>by kernel_rfl
def IF(y:(List aB)):Exit×Sg:=((.exit 0),⟨[(5,.ref 0 0)],[(0,.box 86 [.dE,.own 1]),(1,.row 23 (.sl .u8) y true)],100⟩)
def aJK(_:Exit)(σ:Sg):(List aB):=cI (.sl .u8) 1 σ
def aJH:List (Exit×Nm):=[((.exit 0),⟨[5],[],[]⟩)]
def oY[aA](N:Nat):Nat->(Int×(List aB)×Int×(List aB))->(((List aB))->O)->((Unit)->O)->((Unit)->O)->O
 |0,_,_,_,_=>none
 |n+1,x,k0,k1,k2=>II N (ID N) (IC N) (λv0 v1 v2 v3=>oY N n (v0,v1,v2,v3) k0 k1 k2) (λy0=>k0 y0) x.1 x.2.1 x.2.2.1 x.2.2.2
def Np[aA] N a0 a1 a2 a3 (k0:(List aB)->O):=oY N N (a0,a1,a2,a3) (λy=>k0 y) (λ_=>none) (λ_=>none)
def Wb[aA] N a0 a1 a2 a3 (k0:(List aB)->O):=aW xK Hz (oY N N) (xK (a0,a1,a2,a3)) (λy=>k0 y) (λ_=>none) (λ_=>none)
theorem aJ0[aA] N:Wb N=Np N:=funext λ_=>funext λ_=>funext λ_=>funext λ_=>funext λ_=>dY aJO _ _ _ _
def Wf[aA](N:Nat):Hint:=(.seq .d (.block (.seq (.jS [] [.R8 5 0 (.row 5 .u8 [] true)] []) (.seq .d (.seq (.sub aJV _ _ _ IH (aR 1) (aR 2) (aW BM IB (IE N N))) (.seq (.block (.sub We _ _ _ IG (aR 1) (aR 2) (aW xL IA (sC N N)))) .d))))))
theorem aJW N (hc:aJ (jP N)):bN (jP N) Tryz.f46.ntmps (Wf N) Nr:=bW _ _ (aK trivial (aK trivial (aK trivial (aK (aJ4 N hc) (aK (aJ3 N hc) trivial)))))
theorem aJR[aA](N:Nat)(self:Sg->O)(K:Exit->Sg->O)(x:Int×(List aB)×Int×(List aB)):II N (No N) (Nn N) (λv0 v1 v2 v3=>self (xK (v0,v1,v2,v3))) (λy0=>K (IF y0).1 (IF y0).2) x.1 x.2.1 x.2.2.1 x.2.2.2=exec (jP N) Tryz.f46.ntmps (Wf N) Nr (xK x) (dQ Wd aJH self K):=by kernel_rfl
theorem aJ2 N (hc:aJ (jP N)):dB (jP N) Tryz.f46.ntmps (.loop Nr) IF (aR 1) (aR 2) (aW xK Hz (oY N N)):=
 eG hc (aJW N hc) (iZ aJK (.exit 0) (λ_=>by kernel_rfl) (λ_=>rfl) (by kernel_rfl)) (n:=N) (λx K=>eH (oY N) (λ_ _ _ _=>rfl) (λn K ih x=>by
  refine eZ ?_ (aJR N _ K x);simp only[Wk N,Wi N,<-ih];rfl) N x K)
def Nw[aA](N:Nat)(_in0:Int->(List aB)->Int->Bool->Int->aB->(List aB)->(Int->(List aB)->Int->Bool->Int->aB->(List aB)->O)->O)(_in1:Int->(List aB)->Int->Bool->Int->aB->(List aB)->(Int->(List aB)->Int->Bool->aB->(List aB)->O)->O)(in2:Int->(List aB)->Int->(List aB)->((List aB)->O)->O)(s0:aB)(width1:Int):O:=
 ck (Ay N s0)<|
 ck (C1 N (k7 N s0))<|
 ck (uK N (oB N (k7 N s0)))<|
 in2 width1 (oB N (k7 N s0)) ((↑(qF N (oB N (k7 N s0))).length:Int)) []
  (λz91=>
   some (D4 z91))
def Wp[aA] N s0 width1:=Nw N (ID N) (IC N) (Np N) s0 width1
def Wh[aA](N:Nat):Hint:=(.seq .d (.seq .d (.seq (.jS [] [.R8 5 1 (.row 23 (.sl .u8) [] true)] []) (.seq (.seq .d (.block (.sub Wd _ _ _ IF (aR 1) (aR 2) (aW xK Hz (oY N N))))) (.seq (.jS [] [.cv 5 1 (.sl (.sl .u8))] []) .d)))))
theorem aJY N (hc:aJ (jP N)):bN (jP N) Tryz.f46.ntmps (Wh N) D6:=bW _ _ (aK trivial (aK trivial (aK trivial (aK (aK trivial (aJ2 N hc)) (aK trivial trivial)))))
theorem aJU[aA] N s0 width1:Nw N (No N) (Nn N) (Wb N) s0 width1=exec (jP N) Tryz.f46.ntmps (Wh N) D6 ⟨cC 0 [.e .tx s0,.e (.i .i64) width1],[],100⟩ (cJ (jP N) Tryz.f46 false):=by kernel_rfl
def Hy(r:aH):Option ((List aB)):=match r with
 |(x0,[])=>(match ue (.sl (.sl .u8)) x0 with|some a0=>some a0|_=>none)
 |_=>none
theorem aJN{r d}(h:Hy r=some d):r=D4 (d):=by
 unfold Hy at h;split at h
 .split at h
  .rename_i h0;cases h;rw[b7 h0];rfl
  .cases h
 .cases h
def BL N s0 width1:=(Wp N s0 width1).bind Hy
theorem aJZ{N}(hc:aJ (jP N)){s0 width1 d}(hd:BL N s0 width1=some d):cR Tryz.prog 46 [.e .tx s0,.e (.i .i64) width1] [] (D4 (d)):=
 c8 hc (by kernel_rfl) (by kernel_rfl) (aJY N hc) (by kernel_rfl) aJN (λhr=>(aJU N s0 width1).symm.trans (by rw[Wk N,Wi N,aJ0 N];exact hr)) hd
def D5 N s0 width1:=(BL N s0 width1).isSome
def xJ N s0 width1:=((BL N s0 width1).getD [])
def Nq(N:Nat):bO:=E2 .tx (.i .i64) (λx0 x1=>(D5 N x0 x1,D4 (xJ N x0 x1)))
theorem Wc N:aV Tryz.prog 46 (Nq N):=aV.e2 (λx0 x1 h=>dO (z:=BL N x0 x1) h (aJZ (aJ1 N)) rfl)
def xC(a0:aB)(a1:Bool):aH:=(.aT [.e .tx a0,.e .bo a1],[])
def DY(N:Nat):Cx:=⟨Tryz.prog,99999,[(35,SC N),(69,Ud N),(15,Ze N),(70,U8 N),(71,U7 N),(65,Mn N),(34,Ii N),(42,BQ N)],[]⟩
def WJ:Code:=Tryz.f49.body.getD .skip
theorem aIX N:aJ (DY N):=cM (by kernel_rfl) (.cons (by kernel_rfl) (aCR N) (.cons (by kernel_rfl) (aFf N) (.cons (by kernel_rfl) (aOK N) (.cons (by kernel_rfl) (aFd N) (.cons (by kernel_rfl) (aFb N) (.cons (by kernel_rfl) (Us N) (.cons (by kernel_rfl) (OX N) (.cons (by kernel_rfl) (Dc N) .nil)))))))) .nil
def N9[aA](N:Nat)(l0:aB):O:=
 ck (Gg N l0 fC)<|
 ck (EI N (fY N l0 fC))<|
 ck (Gf N (fM N (fY N l0 fC)))<|
 br (decide (EG N (fY N l0 fC)≠(0:Int))||decide ((lS N (fM N (fY N l0 fC)))≠(1:Nat))||decide (eA N (fM N (fY N l0 fC))<(0:Int))||decide ((80:Int)<eA N (fM N (fY N l0 fC))))
  (some (xC [] false))
  (br (DC N l0 fC)
   (ck (EI N (lT N l0 fC))<|
   br (decide (EG N (lT N l0 fC)≠(0:Int)))
    (some (xC [] false))
    (ck (DB N kW (eA N (fM N (fY N l0 fC))))<|
    ck (decide ((↑(kP N kW (eA N (fM N (fY N l0 fC)))).length:Int)+(↑(fM N (lT N l0 fC)).length:Int)<=(9223372036854775807:Int)))<|
    ck (Ay N (kP N kW (eA N (fM N (fY N l0 fC)))++fM N (lT N l0 fC)))<|
    ck (C1 N (k7 N (kP N kW (eA N (fM N (fY N l0 fC)))++fM N (lT N l0 fC))))<|
    ck (uK N (oB N (k7 N (kP N kW (eA N (fM N (fY N l0 fC)))++fM N (lT N l0 fC)))))<|
    ck (sE N (qF N (oB N (k7 N (kP N kW (eA N (fM N (fY N l0 fC)))++fM N (lT N l0 fC))))) l0)<|
    some (xC (kP N kW (eA N (fM N (fY N l0 fC)))++fM N (lT N l0 fC)) (sD N (qF N (oB N (k7 N (kP N kW (eA N (fM N (fY N l0 fC)))++fM N (lT N l0 fC))))) l0))))
   (ck (DB N kW (eA N (fM N (fY N l0 fC))))<|
   ck (decide ((↑(kP N kW (eA N (fM N (fY N l0 fC)))).length:Int)+(0:Int)<=(9223372036854775807:Int)))<|
   ck (Ay N (kP N kW (eA N (fM N (fY N l0 fC)))++[]))<|
   ck (C1 N (k7 N (kP N kW (eA N (fM N (fY N l0 fC)))++[])))<|
   ck (uK N (oB N (k7 N (kP N kW (eA N (fM N (fY N l0 fC)))++[]))))<|
   ck (sE N (qF N (oB N (k7 N (kP N kW (eA N (fM N (fY N l0 fC)))++[])))) l0)<|
   some (xC (kP N kW (eA N (fM N (fY N l0 fC)))++[]) (sD N (qF N (oB N (k7 N (kP N kW (eA N (fM N (fY N l0 fC)))++[])))) l0))))
def WK[aA] N l0:=N9 N l0
def WH[aA](_:Nat):Hint:=.d
theorem aIV N:bN (DY N) Tryz.f49.ntmps (WH N) WJ:=bW _ _ trivial
theorem aIT[aA] N l0:N9 N l0=exec (DY N) Tryz.f49.ntmps (WH N) WJ ⟨cC 0 [.e (.sl .u8) l0],[],100⟩ (cJ (DY N) Tryz.f49 false):=by kernel_rfl
def xB(r:aH):Option (aB×Bool):=match r with
 |(.aT [x0,x1],[])=>(match ue .tx x0,ue .bo x1 with|some a0,some a1=>some (a0,a1)|_,_=>none)
 |_=>none
theorem aIS{r d}(h:xB r=some d):r=xC d.1 d.2:=by
 unfold xB at h;split at h
 .split at h
  .rename_i h0 h1;cases h;rw[b7 h0,b7 h1];rfl
  .cases h
 .cases h
def xA N l0:=(WK N l0).bind xB
theorem aIW{N}(hc:aJ (DY N)){l0 d}(hd:xA N l0=some d):cR Tryz.prog 49 [.e (.sl .u8) l0] [] (xC d.1 d.2):=
 c8 hc (by kernel_rfl) (by kernel_rfl) (aIV N) (by kernel_rfl) aIS (aIT N l0).symm.trans hd
def Hd N l0:=(xA N l0).isSome
def DX N l0:=((xA N l0).getD ([],false)).1
def Hc N l0:=((xA N l0).getD ([],false)).2
def WI(N:Nat):bO:=E1 (.sl .u8) (λx0=>(Hd N x0,xC (DX N x0) (Hc N x0)))
theorem aIU N:aV Tryz.prog 49 (WI N):=aV.e1 (λx0 h=>dO (z:=xA N x0) h (aIW (aIX N)) rfl)
def Bg(a0:(List aB))(a1:Int):aH:=(.aT [.e (.sl (.sl .u8)) a0,.e (.i .i64) a1],[])
def sT(N:Nat):Cx:=⟨Tryz.prog,99999,[(45,Nx N),(46,Nq N)],[]⟩
def P8:Code:=Tryz.f19.body.getD .skip
theorem aN5 N:aJ (sT N):=cM (by kernel_rfl) (.cons (by kernel_rfl) (Wq N) (.cons (by kernel_rfl) (Wc N) .nil)) .nil
def Jn[aA](N:Nat)(self:Int->(List aB)->O)(k0:(List aB)->O)(x0_0:Int)(x0_1:(List aB))(x0_2 x0_3:Int)(x0_4:(List aB)):O:=
 br (decide (x0_3<x0_2))
  (gx x0_1 x0_3 λy4=>
  ck (D5 N y4 x0_0)<|
  ck (b8 (x0_4++xJ N y4 x0_0).length (24:Nat))<|
  self (aS.wrap (x0_3+1)) (x0_4++xJ N y4 x0_0))
  (k0 x0_4)
def P7:Code:=cX [1,1,1,0,1,0,0] P8
def ZT:Nm:=⟨[1,7,16,17,18],[],[.kG 7 (.row 23 (.sl .u8) [] true)]⟩
def zC(x:Int×(List aB)×Int×Int×(List aB)):Sg:=⟨[(1,.e (.i .i64) x.1),(7,.own 0),(16,.e (.sl .tx) x.2.1),(17,.e (.i .i64) x.2.2.1),(18,.e (.i .i64) x.2.2.2.1)],[(0,.row 23 (.sl .u8) x.2.2.2.2 true)],100⟩
def Jl(σ:Sg):Int×(List aB)×Int×Int×(List aB):=(aG (.i .i64) 1 0 σ,aG (.sl .tx) 16 0 σ,aG (.i .i64) 17 0 σ,aG (.i .i64) 18 0 σ,cI (.sl .u8) 0 σ)
theorem aNZ:∀x,Jl (zC x)=x:=λ_=>by kernel_rfl
def Jm(y:(List aB)):Exit×Sg:=((.exit 0),⟨[(7,.own 0)],[(0,.row 23 (.sl .u8) y true)],100⟩)
def aNX(_:Exit)(σ:Sg):(List aB):=cI (.sl .u8) 0 σ
def aNW:List (Exit×Nm):=[((.exit 0),⟨[7],[],[]⟩)]
def zB[aA](N:Nat):Nat->(Int×(List aB)×Int×Int×(List aB))->(((List aB))->O)->((Unit)->O)->((Unit)->O)->O
 |0,_,_,_,_=>none
 |n+1,x,k0,k1,k2=>Jn N (λv0 v1=>zB N n (x.1,x.2.1,x.2.2.1,v0,v1) k0 k1 k2) (λy0=>k0 y0) x.1 x.2.1 x.2.2.1 x.2.2.2.1 x.2.2.2.2
def P5[aA] N a0 a1 a2 a3 a4 (k0:(List aB)->O):=zB N N (a0,a1,a2,a3,a4) (λy=>k0 y) (λ_=>none) (λ_=>none)
def ZR[aA] N a0 a1 a2 a3 a4 (k0:(List aB)->O):=aW zC Jl (zB N N) (zC (a0,a1,a2,a3,a4)) (λy=>k0 y) (λ_=>none) (λ_=>none)
theorem aN4[aA] N:ZR N=P5 N:=funext λ_=>funext λ_=>funext λ_=>funext λ_=>funext λ_=>funext λ_=>dY aNZ _ _ _ _
theorem aN0[aA](N:Nat)(self:Sg->O)(K:Exit->Sg->O)(x:Int×(List aB)×Int×Int×(List aB)):Jn N (λv0 v1=>self (zC (x.1,x.2.1,x.2.2.1,v0,v1))) (λy0=>K (Jm y0).1 (Jm y0).2) x.1 x.2.1 x.2.2.1 x.2.2.2.1 x.2.2.2.2=exec (sT N) Tryz.f19.ntmps .d P7 (zC x) (dQ ZT aNW self K):=by kernel_rfl
theorem aN6 N (hc:aJ (sT N)):dB (sT N) Tryz.f19.ntmps (.loop P7) Jm (aR 1) (aR 2) (aW zC Jl (zB N N)):=
 eG hc (dS P7) (iZ aNX (.exit 0) (λ_=>by kernel_rfl) (λ_=>rfl) (by kernel_rfl)) (n:=N) (λx K=>eH (zB N) (λ_ _ _ _=>rfl) (λn K ih x=>by
  refine eZ ?_ (aN0 N _ K x);simp only[<-ih];rfl) N x K)
def Pd[aA](N:Nat)(in0:Int->(List aB)->Int->Int->(List aB)->((List aB)->O)->O)(l0:(List aB))(width1:Int):O:=
 ck (D7 N l0 width1)<|
 br (decide (xM N l0 width1≠(0:Int)))
  (some (Bg [] (xM N l0 width1)))
  (in0 width1 l0 ((↑l0.length:Int)) 0 []
   (λz5=>
    some (Bg z5 0)))
def ZW[aA] N l0 width1:=Pd N (P5 N) l0 width1
def ZU[aA](N:Nat):Hint:=(.seq .d (.seq .d (.seq .d (.seq (.seq .d (.block (.sub ZT _ _ _ Jm (aR 1) (aR 2) (aW zC Jl (zB N N))))) .d))))
theorem aN2 N (hc:aJ (sT N)):bN (sT N) Tryz.f19.ntmps (ZU N) P8:=bW _ _ (aK trivial (aK trivial (aK trivial (aK (aK trivial (aN6 N hc)) trivial))))
theorem aN1[aA] N l0 width1:Pd N (ZR N) l0 width1=exec (sT N) Tryz.f19.ntmps (ZU N) P8 ⟨cC 0 [.e (.sl .tx) l0,.e (.i .i64) width1],[],100⟩ (cJ (sT N) Tryz.f19 false):=by kernel_rfl
def Jk(r:aH):Option ((List aB)×Int):=match r with
 |(.aT [x0,x1],[])=>(match ue (.sl (.sl .u8)) x0,ue (.i .i64) x1 with|some a0,some a1=>some (a0,a1)|_,_=>none)
 |_=>none
theorem aNY{r d}(h:Jk r=some d):r=Bg d.1 d.2:=by
 unfold Jk at h;split at h
 .split at h
  .rename_i h0 h1;cases h;rw[b7 h0,b7 h1];rfl
  .cases h
 .cases h
def zA N l0 width1:=(ZW N l0 width1).bind Jk
theorem aN3{N}(hc:aJ (sT N)){l0 width1 d}(hd:zA N l0 width1=some d):cR Tryz.prog 19 [.e (.sl .tx) l0,.e (.i .i64) width1] [] (Bg d.1 d.2):=
 c8 hc (by kernel_rfl) (by kernel_rfl) (aN2 N hc) (by kernel_rfl) aNY (λhr=>(aN1 N l0 width1).symm.trans (by rw[aN4 N];exact hr)) hd
def Bh N l0 width1:=(zA N l0 width1).isSome
def sS N l0 width1:=((zA N l0 width1).getD ([],0)).1
def sR N l0 width1:=((zA N l0 width1).getD ([],0)).2
def P6(N:Nat):bO:=E2 (.sl .tx) (.i .i64) (λx0 x1=>(Bh N x0 x1,Bg (sS N x0 x1) (sR N x0 x1)))
theorem ZS N:aV Tryz.prog 19 (P6 N):=aV.e2 (λx0 x1 h=>dO (z:=zA N x0 x1) h (aN3 (aN5 N)) rfl)
def o7(a0:(List aB))(a1:Int):aH:=(.aT [.e (.sl .tx) a0,.e (.i .i64) a1],[])
def kB(N:Nat):Cx:=⟨Tryz.prog,99999,[(49,WI N),(19,P6 N),(50,WC N),(42,BQ N)],[]⟩
def Dv:Code:=Tryz.f26.body.getD .skip
theorem aMV N:aJ (kB N):=cM (by kernel_rfl) (.cons (by kernel_rfl) (aIU N) (.cons (by kernel_rfl) (ZS N) (.cons (by kernel_rfl) (aIK N) (.cons (by kernel_rfl) (Dc N) .nil)))) .nil
def JY[aA](_:Nat)(k0:(List aB)->Int->(List aB)->Int->Int->Int->aB->Bool->(List aB)->aB->O)(x52_0:(List aB))(x52_1:Int)(x52_2:(List aB))(x52_3 x52_4 x52_5:Int)(x52_6:aB)(x52_7:Bool)(x52_8:(List aB))(x52_9:aB):O:=
 br x52_7
  (ck (dJ x52_6.length none (some (aS.wrap ((↑x52_6.length:Int)-(1:Int)))))<|
  k0 x52_0 x52_1 x52_2 x52_3 x52_4 x52_5 (cA x52_6 none (some (aS.wrap ((↑x52_6.length:Int)-(1:Int))))) x52_7 x52_8 x52_9)
  (k0 x52_0 x52_1 x52_2 x52_3 x52_4 x52_5 x52_6 x52_7 x52_8 x52_9)
def PC:Code:=cX [1,1,1,0,1,0,0,1,1,0,0,1,1,0] Dv
def aMP:Nm:=⟨[0,2,3,4,5,14,15,16,6,7,8],[],[]⟩
def B7(x:(List aB)×Int×(List aB)×Int×Int×Int×aB×Bool×(List aB)×aB):Sg:=⟨[(0,.e (.sl (.sl .u8)) x.1),(2,.dE),(3,.e (.i .i64) x.2.1),(4,.own 0),(5,.own 1),(14,.e (.sl (.sl .u8)) x.2.2.1),(15,.e (.i .i64) x.2.2.2.1),(16,.e (.i .i64) x.2.2.2.2.1),(6,.e (.i .i64) x.2.2.2.2.2.1),(7,.e (.sl .u8) x.2.2.2.2.2.2.1),(8,.e .bo x.2.2.2.2.2.2.2.1)],[(0,.row 9 .tx x.2.2.2.2.2.2.2.2.1 true),(1,.row 5 .u8 x.2.2.2.2.2.2.2.2.2 true)],100⟩
def JP(σ:Sg):(List aB)×Int×(List aB)×Int×Int×Int×aB×Bool×(List aB)×aB:=(aG (.sl (.sl .u8)) 0 0 σ,aG (.i .i64) 3 0 σ,aG (.sl (.sl .u8)) 14 0 σ,aG (.i .i64) 15 0 σ,aG (.i .i64) 16 0 σ,aG (.i .i64) 6 0 σ,aG (.sl .u8) 7 0 σ,aG .bo 8 0 σ,cI .tx 0 σ,cI .u8 1 σ)
theorem aMK:∀x,JP (B7 x)=x:=λ_=>by kernel_rfl
def JV(y:(List aB)×Int×(List aB)×Int×Int×Int×aB×Bool×(List aB)×aB):Exit×Sg:=(.normal,⟨[(0,.e (.sl (.sl .u8)) y.1),(2,.dE),(3,.e (.i .i64) y.2.1),(4,.own 0),(5,.own 1),(14,.e (.sl (.sl .u8)) y.2.2.1),(15,.e (.i .i64) y.2.2.2.1),(16,.e (.i .i64) y.2.2.2.2.1),(6,.e (.i .i64) y.2.2.2.2.2.1),(7,.e (.sl .u8) y.2.2.2.2.2.2.1),(8,.e .bo y.2.2.2.2.2.2.2.1)],[(0,.row 9 .tx y.2.2.2.2.2.2.2.2.1 true),(1,.row 5 .u8 y.2.2.2.2.2.2.2.2.2 true)],100⟩)
def aMG(_:Exit)(σ:Sg):(List aB)×Int×(List aB)×Int×Int×Int×aB×Bool×(List aB)×aB:=(aG (.sl (.sl .u8)) 0 0 σ,aG (.i .i64) 3 0 σ,aG (.sl (.sl .u8)) 14 0 σ,aG (.i .i64) 15 0 σ,aG (.i .i64) 16 0 σ,aG (.i .i64) 6 0 σ,aG (.sl .u8) 7 0 σ,aG .bo 8 0 σ,cI .tx 0 σ,cI .u8 1 σ)
def aMB:List (Exit×Nm):=[(.normal,⟨[0,2,3,4,5,14,15,16,6,7,8],[],[]⟩)]
def JQ[aA](N:Nat)(_:Nat)(x:(List aB)×Int×(List aB)×Int×Int×Int×aB×Bool×(List aB)×aB)(k0:((List aB)×Int×(List aB)×Int×Int×Int×aB×Bool×(List aB)×aB)->O)(_:(Unit)->O)(_:(Unit)->O):O:=JY N (λy0 y1 y2 y3 y4 y5 y6 y7 y8 y9=>k0 (y0,y1,y2,y3,y4,y5,y6,y7,y8,y9)) x.1 x.2.1 x.2.2.1 x.2.2.2.1 x.2.2.2.2.1 x.2.2.2.2.2.1 x.2.2.2.2.2.2.1 x.2.2.2.2.2.2.2.1 x.2.2.2.2.2.2.2.2.1 x.2.2.2.2.2.2.2.2.2
def Du[aA] N a0 a1 a2 a3 a4 a5 a6 a7 a8 a9 (k0:(List aB)->Int->(List aB)->Int->Int->Int->aB->Bool->(List aB)->aB->O):=JQ N N (a0,a1,a2,a3,a4,a5,a6,a7,a8,a9) (λy=>k0 y.1 y.2.1 y.2.2.1 y.2.2.2.1 y.2.2.2.2.1 y.2.2.2.2.2.1 y.2.2.2.2.2.2.1 y.2.2.2.2.2.2.2.1 y.2.2.2.2.2.2.2.2.1 y.2.2.2.2.2.2.2.2.2) (λ_=>none) (λ_=>none)
def Ow[aA] N a0 a1 a2 a3 a4 a5 a6 a7 a8 a9 (k0:(List aB)->Int->(List aB)->Int->Int->Int->aB->Bool->(List aB)->aB->O):=aW B7 JP (JQ N N) (B7 (a0,a1,a2,a3,a4,a5,a6,a7,a8,a9)) (λy=>k0 y.1 y.2.1 y.2.2.1 y.2.2.2.1 y.2.2.2.2.1 y.2.2.2.2.2.1 y.2.2.2.2.2.2.1 y.2.2.2.2.2.2.2.1 y.2.2.2.2.2.2.2.2.1 y.2.2.2.2.2.2.2.2.2) (λ_=>none) (λ_=>none)
theorem Yg[aA] N:Ow N=Du N:=funext λ_=>funext λ_=>funext λ_=>funext λ_=>funext λ_=>funext λ_=>funext λ_=>funext λ_=>funext λ_=>funext λ_=>funext λ_=>dY aMK _ _ _ _
theorem aMN[aA](N:Nat)(K:Exit->Sg->O)(x:(List aB)×Int×(List aB)×Int×Int×Int×aB×Bool×(List aB)×aB):JY N (λy0 y1 y2 y3 y4 y5 y6 y7 y8 y9=>K (JV (y0,y1,y2,y3,y4,y5,y6,y7,y8,y9)).1 (JV (y0,y1,y2,y3,y4,y5,y6,y7,y8,y9)).2) x.1 x.2.1 x.2.2.1 x.2.2.2.1 x.2.2.2.2.1 x.2.2.2.2.2.1 x.2.2.2.2.2.2.1 x.2.2.2.2.2.2.2.1 x.2.2.2.2.2.2.2.2.1 x.2.2.2.2.2.2.2.2.2=exec (kB N) Tryz.f26.ntmps .d PC (B7 x) (Ew aMB K):=by kernel_rfl
theorem aMY N (hc:aJ (kB N)):dB (kB N) Tryz.f26.ntmps PC JV (aR 1) (aR 2) (aW B7 JP (JQ N N)):=
 aAf hc (dS PC) (iZ aMG .normal (λ_=>by kernel_rfl) (λ_=>rfl) (by kernel_rfl)) (λx K=>by
  exact aMN N K x)
def JX[aA](N:Nat)(in0:(List aB)->Int->(List aB)->Int->Int->Int->aB->Bool->(List aB)->aB->((List aB)->Int->(List aB)->Int->Int->Int->aB->Bool->(List aB)->aB->O)->O)(self:(List aB)->Int->(List aB)->Int->Int->(List aB)->aB->O)(k0:Int->O)(k1:(List aB)->(List aB)->O)(x0_0:(List aB))(x0_1:Int)(x0_2:(List aB))(x0_3 x0_4:Int)(x0_5:(List aB))(x0_6:aB):O:=
 br (decide (x0_4<x0_3))
  (gx x0_2 x0_4 λy50=>
  gc (decide ((0:Int)<(↑y50.length:Int))) 0 y50 (aS.wrap ((↑y50.length:Int)-(1:Int))) λy51=>
  in0 x0_0 x0_1 x0_2 x0_3 x0_4 x0_4 y50 (decide ((0:Int)<(↑y50.length:Int))&&decide (y51=63)) x0_5 x0_6
   (λz53 z54 z55 z56 z57 z58 z59 z60 z61 z62=>
    ck (b8 (z62++z59).length (1:Nat))<|
    br (z60&&decide (aS.wrap (z58+1)<(↑z53.length:Int)))
     (self z53 z54 z55 z56 (aS.wrap (z57+1)) z61 (z62++z59))
     (ck (Hd N (z62++z59))<|
     br (z60||!Hc N (z62++z59))
      (k0 2)
      (ck (b8 (z61++[DX N (z62++z59)]).length (16:Nat))<|
      self z53 z54 z55 z56 (aS.wrap (z57+1)) (z61++[DX N (z62++z59)]) []))))
  (k1 x0_0 x0_5)
def PB:Code:=cX [1,1,1,0,1,0,0] Dv
def Yd:Nm:=⟨[0,2,3,4,5,14,15,16],[],[.kG 5 (.row 5 .u8 [] true),.kG 4 (.row 9 .tx [] true)]⟩
def yM(x:(List aB)×Int×(List aB)×Int×Int×(List aB)×aB):Sg:=⟨[(0,.e (.sl (.sl .u8)) x.1),(2,.dE),(3,.e (.i .i64) x.2.1),(4,.own 0),(5,.own 1),(14,.e (.sl (.sl .u8)) x.2.2.1),(15,.e (.i .i64) x.2.2.2.1),(16,.e (.i .i64) x.2.2.2.2.1)],[(0,.row 9 .tx x.2.2.2.2.2.1 true),(1,.row 5 .u8 x.2.2.2.2.2.2 true)],100⟩
def JO(σ:Sg):(List aB)×Int×(List aB)×Int×Int×(List aB)×aB:=(aG (.sl (.sl .u8)) 0 0 σ,aG (.i .i64) 3 0 σ,aG (.sl (.sl .u8)) 14 0 σ,aG (.i .i64) 15 0 σ,aG (.i .i64) 16 0 σ,cI .tx 0 σ,cI .u8 1 σ)
theorem aMJ:∀x,JO (yM x)=x:=λ_=>by kernel_rfl
def JU(y:Int):Exit×Sg:=(.ret,⟨[(2,.dE),(3,.e (.i .i64) y)],[],100⟩)
def aMF(_:Exit)(σ:Sg):Int:=aG (.i .i64) 3 0 σ
def JT(y:(List aB)×(List aB)):Exit×Sg:=((.exit 0),⟨[(0,.e (.sl (.sl .u8)) y.1),(2,.dE),(4,.own 0)],[(0,.row 9 .tx y.2 true)],100⟩)
def aME(_:Exit)(σ:Sg):(List aB)×(List aB):=(aG (.sl (.sl .u8)) 0 0 σ,cI .tx 0 σ)
def aMA:List (Exit×Nm):=[(.ret,⟨[2,3],[],[]⟩),((.exit 0),⟨[0,2,4],[],[]⟩)]
def yK[aA](N:Nat):Nat->((List aB)×Int×(List aB)×Int×Int×(List aB)×aB)->((Int)->O)->(((List aB)×(List aB))->O)->((Unit)->O)->O
 |0,_,_,_,_=>none
 |n+1,x,k0,k1,k2=>JX N (Du N) (λv0 v1 v2 v3 v4 v5 v6=>yK N n (v0,v1,v2,v3,v4,v5,v6) k0 k1 k2) (λy0=>k0 y0) (λy0 y1=>k1 (y0,y1)) x.1 x.2.1 x.2.2.1 x.2.2.2.1 x.2.2.2.2.1 x.2.2.2.2.2.1 x.2.2.2.2.2.2
def Oy[aA] N a0 a1 a2 a3 a4 a5 a6 (k0:Int->O) (k1:(List aB)->(List aB)->O):=yK N N (a0,a1,a2,a3,a4,a5,a6) (λy=>k0 y) (λy=>k1 y.1 y.2) (λ_=>none)
def Ya[aA] N a0 a1 a2 a3 a4 a5 a6 (k0:Int->O) (k1:(List aB)->(List aB)->O):=aW yM JO (yK N N) (yM (a0,a1,a2,a3,a4,a5,a6)) (λy=>k0 y) (λy=>k1 y.1 y.2) (λ_=>none)
theorem aMU[aA] N:Ya N=Oy N:=funext λ_=>funext λ_=>funext λ_=>funext λ_=>funext λ_=>funext λ_=>funext λ_=>funext λ_=>funext λ_=>dY aMJ _ _ _ _
def Ye[aA](N:Nat):Hint:=(.seq .d (.seq .d (.seq (.block (.seq .d (.seq .d (.seq (.sub aMP _ _ _ JV (aR 1) (aR 2) (aW B7 JP (JQ N N))) .d)))) .d)))
theorem aMQ N (hc:aJ (kB N)):bN (kB N) Tryz.f26.ntmps (Ye N) PB:=bW _ _ (aK trivial (aK trivial (aK (aK trivial (aK trivial (aK (aMY N hc) trivial))) trivial)))
theorem aMM[aA](N:Nat)(self:Sg->O)(K:Exit->Sg->O)(x:(List aB)×Int×(List aB)×Int×Int×(List aB)×aB):JX N (Ow N) (λv0 v1 v2 v3 v4 v5 v6=>self (yM (v0,v1,v2,v3,v4,v5,v6))) (λy0=>K (JU y0).1 (JU y0).2) (λy0 y1=>K (JT (y0,y1)).1 (JT (y0,y1)).2) x.1 x.2.1 x.2.2.1 x.2.2.2.1 x.2.2.2.2.1 x.2.2.2.2.2.1 x.2.2.2.2.2.2=exec (kB N) Tryz.f26.ntmps (Ye N) PB (yM x) (dQ Yd aMA self K):=by kernel_rfl
theorem aMX N (hc:aJ (kB N)):dB (kB N) Tryz.f26.ntmps (.loop PB) JU JT (aR 2) (aW yM JO (yK N N)):=
 eG hc (aMQ N hc) (jI aMF aME .ret (.exit 0) (λ_=>by kernel_rfl) (λ_=>by kernel_rfl) (λ_=>rfl) (λ_=>rfl) (by kernel_rfl)) (n:=N) (λx K=>eH (yK N) (λ_ _ _ _=>rfl) (λn K ih x=>by
  refine eZ ?_ (aMM N _ K x);simp only[Yg N,<-ih];rfl) N x K)
def JW[aA](N:Nat)(self:Int->O)(k0:Int->(List aB)->O)(k1:Unit->O)(x66_0 x66_2:(List aB))(x66_1:Int):O:=
 br (decide (x66_1<=40))
  (ck (Bh N x66_2 x66_1)<|
  ck (!decide (sR N x66_2 x66_1=(0:Int))||H8 N x66_0 (sS N x66_2 x66_1))<|
  br (decide (sR N x66_2 x66_1=(0:Int))&&H5 N x66_0 (sS N x66_2 x66_1))
   (k0 0 x66_2)
   (self (aS.wrap (x66_1+1))))
  (k1 ())
def PA:Code:=cX [1,1,1,1,0,1,0,0] Dv
def Yc:Nm:=⟨[0,2,4,11],[],[]⟩
def yL(x:(List aB)×Int×(List aB)):Sg:=⟨[(0,.e (.sl (.sl .u8)) x.1),(2,.dE),(4,.own 0),(11,.e (.i .i64) x.2.1)],[(0,.row 9 .tx x.2.2 true)],100⟩
def JN(σ:Sg):(List aB)×Int×(List aB):=(aG (.sl (.sl .u8)) 0 0 σ,aG (.i .i64) 11 0 σ,cI .tx 0 σ)
theorem aMI:∀x,JN (yL x)=x:=λ_=>by kernel_rfl
def JS(y:Int×(List aB)):Exit×Sg:=(.ret,⟨[(2,.own 0),(3,.e (.i .i64) y.1)],[(0,.row 9 .tx y.2 true)],100⟩)
def aMD(_:Exit)(σ:Sg):Int×(List aB):=(aG (.i .i64) 3 0 σ,cI .tx 0 σ)
def JR(_:Unit):Exit×Sg:=((.exit 2),⟨[],[],100⟩)
def aMC(_:Exit)(_:Sg):Unit:=()
def aLz:List (Exit×Nm):=[(.ret,⟨[2,3],[],[]⟩),((.exit 2),⟨[],[],[]⟩)]
def uP[aA](N:Nat):Nat->((List aB)×Int×(List aB))->((Int×(List aB))->O)->((Unit)->O)->((Unit)->O)->O
 |0,_,_,_,_=>none
 |n+1,x,k0,k1,k2=>JW N (λv0=>uP N n (x.1,v0,x.2.2) k0 k1 k2) (λy0 y1=>k0 (y0,y1)) (λ(_:Unit)=>k1 ()) x.1 x.2.2 x.2.1
def Ox[aA] N a0 a1 a2 (k0:Int->(List aB)->O) (k1:Unit->O):=uP N N (a0,a1,a2) (λy=>k0 y.1 y.2) (λy=>k1 y) (λ_=>none)
def Y9[aA] N a0 a1 a2 (k0:Int->(List aB)->O) (k1:Unit->O):=aW yL JN (uP N N) (yL (a0,a1,a2)) (λy=>k0 y.1 y.2) (λy=>k1 y) (λ_=>none)
theorem aMT[aA] N:Y9 N=Ox N:=funext λ_=>funext λ_=>funext λ_=>funext λ_=>funext λ_=>dY aMI _ _ _ _
theorem aML[aA](N:Nat)(self:Sg->O)(K:Exit->Sg->O)(x:(List aB)×Int×(List aB)):JW N (λv0=>self (yL (x.1,v0,x.2.2))) (λy0 y1=>K (JS (y0,y1)).1 (JS (y0,y1)).2) (λ(_:Unit)=>K (JR ()).1 (JR ()).2) x.1 x.2.2 x.2.1=exec (kB N) Tryz.f26.ntmps .d PA (yL x) (dQ Yc aLz self K):=by kernel_rfl
theorem aMW N (hc:aJ (kB N)):dB (kB N) Tryz.f26.ntmps (.loop PA) JS JR (aR 2) (aW yL JN (uP N N)):=
 eG hc (dS PA) (jI aMD aMC .ret (.exit 2) (λ_=>by kernel_rfl) (λ_=>by kernel_rfl) (λ_=>rfl) (λ_=>rfl) (by kernel_rfl)) (n:=N) (λx K=>eH (uP N) (λ_ _ _ _=>rfl) (λn K ih x=>by
  refine eZ ?_ (aML N _ K x);simp only[<-ih];rfl) N x K)
def PF[aA](_:Nat)(_in0:(List aB)->Int->(List aB)->Int->Int->Int->aB->Bool->(List aB)->aB->((List aB)->Int->(List aB)->Int->Int->Int->aB->Bool->(List aB)->aB->O)->O)(in1:(List aB)->Int->(List aB)->Int->Int->(List aB)->aB->(Int->O)->((List aB)->(List aB)->O)->O)(in2:(List aB)->Int->(List aB)->(Int->(List aB)->O)->(Unit->O)->O)(p0:(List aB)):O:=
 in1 p0 0 p0 ((↑p0.length:Int)) 0 [] []
  (λz63=>
   some (o7 [] z63))
  (λz64 z65=>
   in2 z64 4 z65
    (λz67 z68=>
     some (o7 z68 z67))
    (λ(_:Unit)=>
     some (o7 [] 2)))
def Yl[aA] N p0:=PF N (Du N) (Oy N) (Ox N) p0
def Yf[aA](N:Nat):Hint:=(.seq .d (.seq .d (.seq .d (.seq (.seq .d (.block (.sub Yd _ _ _ JU JT (aR 2) (aW yM JO (yK N N))))) (.seq (.seq .d (.block (.sub Yc _ _ _ JS JR (aR 2) (aW yL JN (uP N N))))) .d)))))
theorem aMR N (hc:aJ (kB N)):bN (kB N) Tryz.f26.ntmps (Yf N) Dv:=bW _ _ (aK trivial (aK trivial (aK trivial (aK (aK trivial (aMX N hc)) (aK (aK trivial (aMW N hc)) trivial)))))
theorem aMO[aA] N p0:PF N (Ow N) (Ya N) (Y9 N) p0=exec (kB N) Tryz.f26.ntmps (Yf N) Dv ⟨cC 0 [.e (.sl (.sl .u8)) p0],[],100⟩ (cJ (kB N) Tryz.f26 false):=by kernel_rfl
def Dr(r:aH):Option ((List aB)×Int):=match r with
 |(.aT [x0,x1],[])=>(match ue (.sl .tx) x0,ue (.i .i64) x1 with|some a0,some a1=>some (a0,a1)|_,_=>none)
 |_=>none
theorem aMH{r d}(h:Dr r=some d):r=o7 d.1 d.2:=by
 unfold Dr at h;split at h
 .split at h
  .rename_i h0 h1;cases h;rw[b7 h0,b7 h1];rfl
  .cases h
 .cases h
def yI N p0:=(Yl N p0).bind Dr
theorem aMS{N}(hc:aJ (kB N)){p0 d}(hd:yI N p0=some d):cR Tryz.prog 26 [.e (.sl (.sl .u8)) p0] [] (o7 d.1 d.2):=
 c8 hc (by kernel_rfl) (by kernel_rfl) (aMR N hc) (by kernel_rfl) aMH (λhr=>(aMO N p0).symm.trans (by rw[Yg N,aMU N,aMT N];exact hr)) hd
def Dt N p0:=(yI N p0).isSome
def uO N p0:=((yI N p0).getD ([],0)).1
def yJ N p0:=((yI N p0).getD ([],0)).2
def Oz(N:Nat):bO:=E1 (.sl (.sl .u8)) (λx0=>(Dt N x0,o7 (uO N x0) (yJ N x0)))
theorem Yb N:aV Tryz.prog 26 (Oz N):=aV.e1 (λx0 h=>dO (z:=yI N x0) h (aMS (aMV N)) rfl)
def Be(a0:(List Int))(a1:Int):aH:=(.aT [.e (.sl (.i .i64)) a0,.e (.i .i64) a1],[])
def sP(N:Nat):Cx:=⟨Tryz.prog,99999,[(45,Nx N),(46,Nq N)],[]⟩
def PV:Code:=Tryz.f21.body.getD .skip
theorem aNF N:aJ (sP N):=cM (by kernel_rfl) (.cons (by kernel_rfl) (Wq N) (.cons (by kernel_rfl) (Wc N) .nil)) .nil
def Jf[aA](N:Nat)(self:Int->(List Int)->O)(k0:(List Int)->O)(x0_0:Int)(x0_1:(List aB))(x0_2 x0_3:Int)(x0_4:(List Int)):O:=
 br (decide (x0_3<x0_2))
  (gx x0_1 x0_3 λy4=>
  ck (D5 N y4 x0_0)<|
  ck (b8 (x0_4++[(↑(xJ N y4 x0_0).length:Int)]).length (8:Nat))<|
  self (aS.wrap (x0_3+1)) (x0_4++[(↑(xJ N y4 x0_0).length:Int)]))
  (k0 x0_4)
def PU:Code:=cX [1,1,1,0,1,0,0] PV
def ZE:Nm:=⟨[1,7,16,17,18],[],[.kG 7 (.row 3 (.i .i64) [] true)]⟩
def yW(x:Int×(List aB)×Int×Int×(List Int)):Sg:=⟨[(1,.e (.i .i64) x.1),(7,.own 0),(16,.e (.sl .tx) x.2.1),(17,.e (.i .i64) x.2.2.1),(18,.e (.i .i64) x.2.2.2.1)],[(0,.row 3 (.i .i64) x.2.2.2.2 true)],100⟩
def Jc(σ:Sg):Int×(List aB)×Int×Int×(List Int):=(aG (.i .i64) 1 0 σ,aG (.sl .tx) 16 0 σ,aG (.i .i64) 17 0 σ,aG (.i .i64) 18 0 σ,cI (.i .i64) 0 σ)
theorem aMy:∀x,Jc (yW x)=x:=λ_=>by kernel_rfl
def Je(y:(List Int)):Exit×Sg:=((.exit 0),⟨[(7,.own 0)],[(0,.row 3 (.i .i64) y true)],100⟩)
def aMw(_:Exit)(σ:Sg):(List Int):=cI (.i .i64) 0 σ
def aMv:List (Exit×Nm):=[((.exit 0),⟨[7],[],[]⟩)]
def yV[aA](N:Nat):Nat->(Int×(List aB)×Int×Int×(List Int))->(((List Int))->O)->((Unit)->O)->((Unit)->O)->O
 |0,_,_,_,_=>none
 |n+1,x,k0,k1,k2=>Jf N (λv0 v1=>yV N n (x.1,x.2.1,x.2.2.1,v0,v1) k0 k1 k2) (λy0=>k0 y0) x.1 x.2.1 x.2.2.1 x.2.2.2.1 x.2.2.2.2
def PT[aA] N a0 a1 a2 a3 a4 (k0:(List Int)->O):=yV N N (a0,a1,a2,a3,a4) (λy=>k0 y) (λ_=>none) (λ_=>none)
def ZD[aA] N a0 a1 a2 a3 a4 (k0:(List Int)->O):=aW yW Jc (yV N N) (yW (a0,a1,a2,a3,a4)) (λy=>k0 y) (λ_=>none) (λ_=>none)
theorem aNE[aA] N:ZD N=PT N:=funext λ_=>funext λ_=>funext λ_=>funext λ_=>funext λ_=>funext λ_=>dY aMy _ _ _ _
theorem aMz[aA](N:Nat)(self:Sg->O)(K:Exit->Sg->O)(x:Int×(List aB)×Int×Int×(List Int)):Jf N (λv0 v1=>self (yW (x.1,x.2.1,x.2.2.1,v0,v1))) (λy0=>K (Je y0).1 (Je y0).2) x.1 x.2.1 x.2.2.1 x.2.2.2.1 x.2.2.2.2=exec (sP N) Tryz.f21.ntmps .d PU (yW x) (dQ ZE aMv self K):=by kernel_rfl
theorem aNJ N (hc:aJ (sP N)):dB (sP N) Tryz.f21.ntmps (.loop PU) Je (aR 1) (aR 2) (aW yW Jc (yV N N)):=
 eG hc (dS PU) (iZ aMw (.exit 0) (λ_=>by kernel_rfl) (λ_=>rfl) (by kernel_rfl)) (n:=N) (λx K=>eH (yV N) (λ_ _ _ _=>rfl) (λn K ih x=>by
  refine eZ ?_ (aMz N _ K x);simp only[<-ih];rfl) N x K)
def PX[aA](N:Nat)(in0:Int->(List aB)->Int->Int->(List Int)->((List Int)->O)->O)(l0:(List aB))(width1:Int):O:=
 ck (D7 N l0 width1)<|
 br (decide (xM N l0 width1≠(0:Int)))
  (some (Be [] (xM N l0 width1)))
  (in0 width1 l0 ((↑l0.length:Int)) 0 []
   (λz5=>
    some (Be z5 0)))
def ZI[aA] N l0 width1:=PX N (PT N) l0 width1
def ZF[aA](N:Nat):Hint:=(.seq .d (.seq .d (.seq .d (.seq (.seq .d (.block (.sub ZE _ _ _ Je (aR 1) (aR 2) (aW yW Jc (yV N N))))) .d))))
theorem aNC N (hc:aJ (sP N)):bN (sP N) Tryz.f21.ntmps (ZF N) PV:=bW _ _ (aK trivial (aK trivial (aK trivial (aK (aK trivial (aNJ N hc)) trivial))))
theorem aNA[aA] N l0 width1:PX N (ZD N) l0 width1=exec (sP N) Tryz.f21.ntmps (ZF N) PV ⟨cC 0 [.e (.sl .tx) l0,.e (.i .i64) width1],[],100⟩ (cJ (sP N) Tryz.f21 false):=by kernel_rfl
def Jb(r:aH):Option ((List Int)×Int):=match r with
 |(.aT [x0,x1],[])=>(match ue (.sl (.i .i64)) x0,ue (.i .i64) x1 with|some a0,some a1=>some (a0,a1)|_,_=>none)
 |_=>none
theorem aMx{r d}(h:Jb r=some d):r=Be d.1 d.2:=by
 unfold Jb at h;split at h
 .split at h
  .rename_i h0 h1;cases h;rw[b7 h0,b7 h1];rfl
  .cases h
 .cases h
def yT N l0 width1:=(ZI N l0 width1).bind Jb
theorem aND{N}(hc:aJ (sP N)){l0 width1 d}(hd:yT N l0 width1=some d):cR Tryz.prog 21 [.e (.sl .tx) l0,.e (.i .i64) width1] [] (Be d.1 d.2):=
 c8 hc (by kernel_rfl) (by kernel_rfl) (aNC N hc) (by kernel_rfl) aMx (λhr=>(aNA N l0 width1).symm.trans (by rw[aNE N];exact hr)) hd
def Jd N l0 width1:=(yT N l0 width1).isSome
def yU N l0 width1:=((yT N l0 width1).getD ([],0)).1
def Dz N l0 width1:=((yT N l0 width1).getD ([],0)).2
def ZG(N:Nat):bO:=E2 (.sl .tx) (.i .i64) (λx0 x1=>(Jd N x0 x1,Be (yU N x0 x1) (Dz N x0 x1)))
theorem aNB N:aV Tryz.prog 21 (ZG N):=aV.e2 (λx0 x1 h=>dO (z:=yT N x0 x1) h (aND (aNF N)) rfl)
end
end Go.Proofs
