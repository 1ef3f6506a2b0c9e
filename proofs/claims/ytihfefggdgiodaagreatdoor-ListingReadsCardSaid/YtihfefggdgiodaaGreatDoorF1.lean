/- The code that library code runs: slices that grow, pieces of text, columns. Conditions are in the theorems. -/
import Derived.Test.YtihfefggdgiodaaGreatDoorE7
import Derived.Test.YtihfefggdgiodaaGreatDoorProg
import Derived.KernelRfl
import Derived.RangeFuncNested
import Derived.RangeFuncCalls
import Derived.RangeFuncLeaves
import Derived.Test.YtihfefggdgiodaaGreatDoorF0
import Derived.Test.YtihfefggdgiodaaGreatDoorG0
import Derived.Laws.Strings
open And renaming intro->aK
open Array renaming getD_eq_getD_getElem?->Ak,getElem?_eq_getElem->iM,getElem?_eq_some_iff->eF,getElem?_setIfInBounds_ne->nL,replicate->k4
open Bool renaming true_and->lM
open Go.IntKind renaming i64->aS
open List renaming dropWhile_cons->Cn,dropWhile_sublist->aXW,getElem?_eq_getElem->bM,getElem?_eq_some_iff->bP,getElem?_map->cD,length_pos_iff->aXQ,mem_of_getElem?->Ac
open Nat renaming le_of_ble_eq_true->eJ,le_refl->bX,le_trans->iR,lt_of_lt_of_le->kL,lt_or_ge->Ft
open Option renaming bind_eq_some_iff->jK,isSome_iff_exists->pR
/- What functions do. -/
namespace Go.Proofs
noncomputable section
open Go.Ax Go.Ax.aA Go.RowKit Go.Ab
open Go
def lV(a0:(List UInt8)):aH:=(.e (.sl .u8) a0,[])
def aJy(_:Nat):List (Nat×bO):=[]
def BS(N:Nat):Cx:=⟨Tryz.prog,99999,aJy N,[]⟩
def OD:Code:=Tryz.f40.body.getD .skip
theorem XW(N:Nat):aJ (BS N):=cM (by kernel_rfl) .nil .nil
def OF[aA](_:Nat)(c0:UInt8)(last1:Bool):O:=
 br last1
  (some (lV [(32:UInt8),(2:UInt8)]))
  (br (decide ((97:UInt8)<=c0)&&decide (c0<=(122:UInt8)))
   (some (lV [c0-(64:UInt8)]))
   (br (decide (c0=(95:UInt8)))
    (some (lV [(32:UInt8),(1:UInt8)]))
    (br (decide (c0=(96:UInt8)))
     (some (lV [(32:UInt8),(3:UInt8)]))
     (br (decide ((123:UInt8)<=c0))
      (some (lV [(32:UInt8),c0-(64:UInt8)]))
      (br (decide ((64:UInt8)<=c0)&&decide (c0<=(90:UInt8)))
       (some (lV [(32:UInt8),c0-(32:UInt8)]))
       (some (lV [c0-(32:UInt8)])))))))
def OG[aA](N:Nat)(c0:UInt8)(last1:Bool):O:=OF N  c0 last1
def XS[aA](_:Nat):Hint:=.d
theorem aJw(N:Nat):bN (BS N) Tryz.f40.ntmps (XS N) OD:=bW _ _ trivial
theorem aJu[aA](N:Nat)(c0:UInt8)(last1:Bool):OF N  c0 last1=exec (BS N) Tryz.f40.ntmps (XS N) OD ⟨cC 0 [.e .u8 c0,.e .bo last1],[],100⟩ (cJ (BS N) Tryz.f40 false):=by kernel_rfl
theorem aJx{N:Nat}(hc:aJ (BS N)){c0:UInt8}{last1:Bool}{r:aH}(h:OG N c0 last1=some r):jO Tryz.prog 40 (([.e .u8 c0,.e .bo last1]:List X).map X.D) (HA []) r:=
 oC hc (f:=40) (fn:=Tryz.f40) (code:=OD) (by kernel_rfl) (by kernel_rfl) (aJw N) (eJ (by kernel_rfl)) (ow:=false) ((aJu N c0 last1).symm.trans (by exact h))
def xQ(r:aH):Option ((List UInt8)):=match r with
 |(x0,[])=>(match ue (.sl .u8) x0 with|some a0=>some a0|_=>none)
 |_=>none
theorem aJs{r:aH}{d:(List UInt8)}(h:xQ r=some d):r=lV (d):=by
 unfold xQ at h;split at h
 .split at h
  .rename_i h0;cases h;rw[b7 h0];rfl
  .cases h
 .cases h
def xP(N:Nat)(c0:UInt8)(last1:Bool):Option ((List UInt8)):=(OG N c0 last1).bind xQ
theorem XU{N:Nat}(hc:aJ (BS N)){c0:UInt8}{last1:Bool}{d:(List UInt8)}(hd:xP N c0 last1=some d):cN Tryz.prog 40 (([.e .u8 c0,.e .bo last1]:List X).map X.D) (HA []) (lV (d)).1.D (HA (lV (d)).2):=by
 obtain⟨r,hr,hu⟩:=jK.1 hd;have:=aJx hc hr;rw[aJs hu]at this;exact this
def IP(N:Nat)(c0:UInt8)(last1:Bool):Bool:=(xP N c0 last1).isSome
def sF(N:Nat)(c0:UInt8)(last1:Bool):(List UInt8):=((xP N c0 last1).getD [])
def XV(N:Nat):bO:=E2 .u8 .bo  (λx0 x1=>(IP N x0 x1,lV (sF N x0 x1)))
theorem aJt{N:Nat}{c0:UInt8}{last1:Bool}{d:(List UInt8)}(hd:xP N c0 last1=some d):lV (sF N c0 last1)=lV (d):=by unfold sF;rw[hd];rfl
theorem aJv(N:Nat):aV Tryz.prog 40 (XV N):=aV.e2 (λx0 x1 h=>by
 have h:(xP N x0 x1).isSome=true:=h;obtain⟨d,hd⟩:=pR.1 h;have f:=XU (XW N) hd;rw[<-aJt hd]at f;exact f)
def uC(a0:(List UInt8)):aH:=(.e .tx a0,[])
def aFW(_:Nat):List (Nat×bO):=[]
def lR(N:Nat):Cx:=⟨Tryz.prog,99999,aFW N,[]⟩
def G7:Code:=Tryz.f73.body.getD .skip
theorem aFU(N:Nat):aJ (lR N):=cM (by kernel_rfl) .nil .nil
def Av[aA](_:Nat)(self:(List UInt8)->O)(k0:(List UInt8)->O)(x0_1:UInt8)(x0_0:(List UInt8)):O:=
 gc (decide ((0:Int)<(↑x0_0.length:Int))) ((0:UInt8)) x0_0 (aS.wrap ((↑x0_0.length:Int)-(1:Int))) λy3=>
 br (decide ((0:Int)<(↑x0_0.length:Int))&&decide (y3=x0_1))
  (ck (dJ x0_0.length none (some (aS.wrap ((↑x0_0.length:Int)-(1:Int)))))<|
  self (cA x0_0 none (some (aS.wrap ((↑x0_0.length:Int)-(1:Int))))))
  (k0 x0_0)
def Au:Code:=cX [1,0,0,0] G7
def Cy:Nm:=⟨[0,1],[],[]⟩
def rU(x:(List UInt8)×UInt8):Sg:=⟨[(0,.e .tx x.1),(1,.e .u8 x.2)],[],100⟩
def G6(σ:Sg):(List UInt8)×UInt8:=(aG .tx 0 0 σ,aG .u8 1 0 σ)
theorem aFJ:∀x,G6 (rU x)=x:=λ_=>by kernel_rfl
def mC(y:(List UInt8)):Exit×Sg:=((.exit 0),⟨[(0,.e .tx y)],[],100⟩)
def aFH(_:Exit)(σ:Sg):(List UInt8):=aG .tx 0 0 σ
def G4:List (Exit×Nm):=[((.exit 0),⟨[0],[],[]⟩)]
theorem aFO:pQ aFH (λ_ _=>()) (λ_ _=>()) mC (aR 1) (aR 2) (eU (.exit 0)) (eU (.goto 1)) (eU (.goto 2)):=⟨λ_=>by kernel_rfl,λ_=>by kernel_rfl,λ_=>by kernel_rfl,λ_=>by kernel_rfl,λ_=>by kernel_rfl,λ_=>by kernel_rfl,jY (by kernel_rfl),jY (by kernel_rfl),jY (by kernel_rfl)⟩
def rT[aA](N:Nat):Nat->((List UInt8)×UInt8)->(((List UInt8))->O)->((Unit)->O)->((Unit)->O)->O
 |0,_,_,_,_=>none
 |n+1,x,k0,k1,k2=>Av N  (λv0=>rT N n (v0,x.2) k0 k1 k2) (λy0=>k0 y0) x.2 x.1
def M7[aA](N:Nat)(a0:(List UInt8))(a1:UInt8)(k0:(List UInt8)->O):O:=rT N N (a0,a1) (λy=>k0 y) (λ_=>none) (λ_=>none)
def UX[aA](N:Nat)(a0:(List UInt8))(a1:UInt8)(k0:(List UInt8)->O):O:=aW rU G6 (rT N N) (rU (a0,a1)) (λy=>k0 y) (λ_=>none) (λ_=>none)
theorem aFS[aA](N:Nat):UX N=M7 N:=funext λ_=>funext λ_=>funext λ_=>dY aFJ _ _ _ _
def Cz[aA](_:Nat):Hint:=.d
theorem aFP(N:Nat):bN (lR N) Tryz.f73.ntmps (Cz N) Au:=bW _ _ trivial
theorem aFL[aA](N:Nat)(self:Sg->O)(K:Exit->Sg->O)(x:(List UInt8)×UInt8):Av N  (λv0=>self (rU (v0,x.2))) (λy0=>K (mC y0).1 (mC y0).2) x.2 x.1=exec (lR N) Tryz.f73.ntmps (Cz N) Au (rU x) (dQ Cy G4 self K):=by kernel_rfl
theorem aFV(N:Nat)(hc:aJ (lR N)):dB (lR N) Tryz.f73.ntmps (.loop Au) mC (aR 1) (aR 2) (aW rU G6 (rT N N)):=
 eG hc (aFP N) aFO (n:=N) (λx K=>eH (rT N) (λ_ _ _ _=>rfl) (λn K ih x=>by
  have h:Av N  (λv0=>rT N n (v0,x.2) (λy=>K (mC y).1 (mC y).2) (λy=>K ((aR 1) y).1 ((aR 1) y).2) (λy=>K ((aR 2) y).1 ((aR 2) y).2)) (λy0=>K (mC y0).1 (mC y0).2) x.2 x.1=Av N  (λv0=>iQ (lR N) Tryz.f73.ntmps (Cz N) Au Cy G4 n (rU (v0,x.2)) K) (λy0=>K (mC y0).1 (mC y0).2) x.2 x.1:=by rw[ show(λv0=>rT N n (v0,x.2) (λy=>K (mC y).1 (mC y).2) (λy=>K ((aR 1) y).1 ((aR 1) y).2) (λy=>K ((aR 2) y).1 ((aR 2) y).2))=(λv0=>iQ (lR N) Tryz.f73.ntmps (Cz N) Au Cy G4 n (rU (v0,x.2)) K)from funext λ_=>ih _]
  exact h.trans (aFL N (λσ=>iQ (lR N) Tryz.f73.ntmps (Cz N) Au Cy G4 n σ K) K x)) N x K)
def M8[aA](_:Nat)(in0:(List UInt8)->UInt8->((List UInt8)->O)->O)(s0:(List UInt8))(c1:UInt8):O:=
 in0 s0 c1
  (λz4=>
   some (uC z4))
def M9[aA](N:Nat)(s0:(List UInt8))(c1:UInt8):O:=M8 N (M7 N) s0 c1
def UY[aA](N:Nat):Hint:=(.seq .d (.seq (.block (.sub Cy _ _ _ mC (aR 1) (aR 2) (aW rU G6 (rT N N)))) .d))
theorem aFQ(N:Nat)(hc:aJ (lR N)):bN (lR N) Tryz.f73.ntmps (UY N) G7:=bW _ _ (aK trivial (aK (aFV N hc) trivial))
theorem aFM[aA](N:Nat)(s0:(List UInt8))(c1:UInt8):M8 N (UX N) s0 c1=exec (lR N) Tryz.f73.ntmps (UY N) G7 ⟨cC 0 [.e .tx s0,.e .u8 c1],[],100⟩ (cJ (lR N) Tryz.f73 false):=by kernel_rfl
theorem aFT{N:Nat}(hc:aJ (lR N)){s0:(List UInt8)}{c1:UInt8}{r:aH}(h:M9 N s0 c1=some r):jO Tryz.prog 73 (([.e .tx s0,.e .u8 c1]:List X).map X.D) (HA []) r:=
 oC hc (f:=73) (fn:=Tryz.f73) (code:=G7) (by kernel_rfl) (by kernel_rfl) (aFQ N hc) (eJ (by kernel_rfl)) (ow:=false) ((aFM N s0 c1).symm.trans (by rw[aFS N];exact h))
def G5(r:aH):Option ((List UInt8)):=match r with
 |(x0,[])=>(match ue .tx x0 with|some a0=>some a0|_=>none)
 |_=>none
theorem aFI{r:aH}{d:(List UInt8)}(h:G5 r=some d):r=uC (d):=by
 unfold G5 at h;split at h
 .split at h
  .rename_i h0;cases h;rw[b7 h0];rfl
  .cases h
 .cases h
def wI(N:Nat)(s0:(List UInt8))(c1:UInt8):Option ((List UInt8)):=(M9 N s0 c1).bind G5
theorem aFR{N:Nat}(hc:aJ (lR N)){s0:(List UInt8)}{c1:UInt8}{d:(List UInt8)}(hd:wI N s0 c1=some d):cN Tryz.prog 73 (([.e .tx s0,.e .u8 c1]:List X).map X.D) (HA []) (uC (d)).1.D (HA (uC (d)).2):=by
 obtain⟨r,hr,hu⟩:=jK.1 hd;have:=aFT hc hr;rw[aFI hu]at this;exact this
def Cw(N:Nat)(s0:(List UInt8))(c1:UInt8):Bool:=(wI N s0 c1).isSome
def wJ(N:Nat)(s0:(List UInt8))(c1:UInt8):(List UInt8):=((wI N s0 c1).getD [])
def UZ(N:Nat):bO:=E2 .tx .u8  (λx0 x1=>(Cw N x0 x1,uC (wJ N x0 x1)))
theorem aFK{N:Nat}{s0:(List UInt8)}{c1:UInt8}{d:(List UInt8)}(hd:wI N s0 c1=some d):uC (wJ N s0 c1)=uC (d):=by unfold wJ;rw[hd];rfl
theorem aFN(N:Nat):aV Tryz.prog 73 (UZ N):=aV.e2 (λx0 x1 h=>by
 have h:(wI N x0 x1).isSome=true:=h;obtain⟨d,hd⟩:=pR.1 h;have f:=aFR (aFU N) hd;rw[<-aFK hd]at f;exact f)
def BD(a0:(List UInt8)):aH:=(.e .tx a0,[])
def aHJ(N:Nat):List (Nat×bO):=[(73,UZ N)]
def BE(N:Nat):Cx:=⟨Tryz.prog,99999,aHJ N,[]⟩
def NM:Code:=Tryz.f59.body.getD .skip
theorem aHH(N:Nat):aJ (BE N):=cM (by kernel_rfl) (.cons (by kernel_rfl) (aFN N) .nil) .nil
def NN[aA](N:Nat)(s0:(List UInt8))(cutset1:(List UInt8)):O:=
 br (decide (s0=[])||decide (cutset1=[]))
  (some (BD s0))
  (gc (decide ((↑cutset1.length:Int)=(1:Int))) ((0:UInt8)) cutset1 ((0:Int)) λy0=>
  br (decide ((↑cutset1.length:Int)=(1:Int))&&decide (y0<(128:UInt8)))
   (gx cutset1 ((0:Int)) λy1=>
   ck (Cw N s0 y1)<|
   some (BD (wJ N s0 y1)))
   (none))
def NO[aA](N:Nat)(s0:(List UInt8))(cutset1:(List UInt8)):O:=NN N  s0 cutset1
def V6[aA](_:Nat):Hint:=.d
theorem aHE(N:Nat):bN (BE N) Tryz.f59.ntmps (V6 N) NM:=bW _ _ trivial
theorem aHD[aA](N:Nat)(s0:(List UInt8))(cutset1:(List UInt8)):NN N  s0 cutset1=exec (BE N) Tryz.f59.ntmps (V6 N) NM ⟨cC 0 [.e .tx s0,.e .tx cutset1],[],100⟩ (cJ (BE N) Tryz.f59 false):=by kernel_rfl
theorem aHG{N:Nat}(hc:aJ (BE N)){s0:(List UInt8)}{cutset1:(List UInt8)}{r:aH}(h:NO N s0 cutset1=some r):jO Tryz.prog 59 (([.e .tx s0,.e .tx cutset1]:List X).map X.D) (HA []) r:=
 oC hc (f:=59) (fn:=Tryz.f59) (code:=NM) (by kernel_rfl) (by kernel_rfl) (aHE N) (eJ (by kernel_rfl)) (ow:=false) ((aHD N s0 cutset1).symm.trans (by exact h))
def HN(r:aH):Option ((List UInt8)):=match r with
 |(x0,[])=>(match ue .tx x0 with|some a0=>some a0|_=>none)
 |_=>none
theorem aHC{r:aH}{d:(List UInt8)}(h:HN r=some d):r=BD (d):=by
 unfold HN at h;split at h
 .split at h
  .rename_i h0;cases h;rw[b7 h0];rfl
  .cases h
 .cases h
def NL(N:Nat)(s0:(List UInt8))(cutset1:(List UInt8)):Option ((List UInt8)):=(NO N s0 cutset1).bind HN
theorem aHF{N:Nat}(hc:aJ (BE N)){s0:(List UInt8)}{cutset1:(List UInt8)}{d:(List UInt8)}(hd:NL N s0 cutset1=some d):cN Tryz.prog 59 (([.e .tx s0,.e .tx cutset1]:List X).map X.D) (HA []) (BD (d)).1.D (HA (BD (d)).2):=by
 obtain⟨r,hr,hu⟩:=jK.1 hd;have:=aHG hc hr;rw[aHC hu]at this;exact this
def uB(a0:(List UInt8)):aH:=(.e .tx a0,[])
def aEk(_:Nat):List (Nat×bO):=[]
def lQ(N:Nat):Cx:=⟨Tryz.prog,99999,aEk N,[]⟩
def GV:Code:=Tryz.f93.body.getD .skip
theorem aEi(N:Nat):aJ (lQ N):=cM (by kernel_rfl) .nil .nil
def Aq[aA](_:Nat)(self:(List UInt8)->O)(k0:(List UInt8)->O)(x0_1:UInt8)(x0_0:(List UInt8)):O:=
 gc (decide ((0:Int)<(↑x0_0.length:Int))) ((0:UInt8)) x0_0 ((0:Int)) λy3=>
 br (decide ((0:Int)<(↑x0_0.length:Int))&&decide (y3=x0_1))
  (ck (dJ x0_0.length (some (1:Int)) none)<|
  self (cA x0_0 (some (1:Int)) none))
  (k0 x0_0)
def Ap:Code:=cX [1,0,0,0] GV
def Ct:Nm:=⟨[0,1],[],[]⟩
def rR(x:(List UInt8)×UInt8):Sg:=⟨[(0,.e .tx x.1),(1,.e .u8 x.2)],[],100⟩
def GU(σ:Sg):(List UInt8)×UInt8:=(aG .tx 0 0 σ,aG .u8 1 0 σ)
theorem aE7:∀x,GU (rR x)=x:=λ_=>by kernel_rfl
def mB(y:(List UInt8)):Exit×Sg:=((.exit 0),⟨[(0,.e .tx y)],[],100⟩)
def aE5(_:Exit)(σ:Sg):(List UInt8):=aG .tx 0 0 σ
def GR:List (Exit×Nm):=[((.exit 0),⟨[0],[],[]⟩)]
theorem aEc:pQ aE5 (λ_ _=>()) (λ_ _=>()) mB (aR 1) (aR 2) (eU (.exit 0)) (eU (.goto 1)) (eU (.goto 2)):=⟨λ_=>by kernel_rfl,λ_=>by kernel_rfl,λ_=>by kernel_rfl,λ_=>by kernel_rfl,λ_=>by kernel_rfl,λ_=>by kernel_rfl,jY (by kernel_rfl),jY (by kernel_rfl),jY (by kernel_rfl)⟩
def rQ[aA](N:Nat):Nat->((List UInt8)×UInt8)->(((List UInt8))->O)->((Unit)->O)->((Unit)->O)->O
 |0,_,_,_,_=>none
 |n+1,x,k0,k1,k2=>Aq N  (λv0=>rQ N n (v0,x.2) k0 k1 k2) (λy0=>k0 y0) x.2 x.1
def MV[aA](N:Nat)(a0:(List UInt8))(a1:UInt8)(k0:(List UInt8)->O):O:=rQ N N (a0,a1) (λy=>k0 y) (λ_=>none) (λ_=>none)
def UL[aA](N:Nat)(a0:(List UInt8))(a1:UInt8)(k0:(List UInt8)->O):O:=aW rR GU (rQ N N) (rR (a0,a1)) (λy=>k0 y) (λ_=>none) (λ_=>none)
theorem aEg[aA](N:Nat):UL N=MV N:=funext λ_=>funext λ_=>funext λ_=>dY aE7 _ _ _ _
def Cu[aA](_:Nat):Hint:=.d
theorem aEd(N:Nat):bN (lQ N) Tryz.f93.ntmps (Cu N) Ap:=bW _ _ trivial
theorem aE9[aA](N:Nat)(self:Sg->O)(K:Exit->Sg->O)(x:(List UInt8)×UInt8):Aq N  (λv0=>self (rR (v0,x.2))) (λy0=>K (mB y0).1 (mB y0).2) x.2 x.1=exec (lQ N) Tryz.f93.ntmps (Cu N) Ap (rR x) (dQ Ct GR self K):=by kernel_rfl
theorem aEj(N:Nat)(hc:aJ (lQ N)):dB (lQ N) Tryz.f93.ntmps (.loop Ap) mB (aR 1) (aR 2) (aW rR GU (rQ N N)):=
 eG hc (aEd N) aEc (n:=N) (λx K=>eH (rQ N) (λ_ _ _ _=>rfl) (λn K ih x=>by
  have h:Aq N  (λv0=>rQ N n (v0,x.2) (λy=>K (mB y).1 (mB y).2) (λy=>K ((aR 1) y).1 ((aR 1) y).2) (λy=>K ((aR 2) y).1 ((aR 2) y).2)) (λy0=>K (mB y0).1 (mB y0).2) x.2 x.1=Aq N  (λv0=>iQ (lQ N) Tryz.f93.ntmps (Cu N) Ap Ct GR n (rR (v0,x.2)) K) (λy0=>K (mB y0).1 (mB y0).2) x.2 x.1:=by rw[ show(λv0=>rQ N n (v0,x.2) (λy=>K (mB y).1 (mB y).2) (λy=>K ((aR 1) y).1 ((aR 1) y).2) (λy=>K ((aR 2) y).1 ((aR 2) y).2))=(λv0=>iQ (lQ N) Tryz.f93.ntmps (Cu N) Ap Ct GR n (rR (v0,x.2)) K)from funext λ_=>ih _]
  exact h.trans (aE9 N (λσ=>iQ (lQ N) Tryz.f93.ntmps (Cu N) Ap Ct GR n σ K) K x)) N x K)
def MW[aA](_:Nat)(in0:(List UInt8)->UInt8->((List UInt8)->O)->O)(s0:(List UInt8))(c1:UInt8):O:=
 in0 s0 c1
  (λz4=>
   some (uB z4))
def MX[aA](N:Nat)(s0:(List UInt8))(c1:UInt8):O:=MW N (MV N) s0 c1
def UM[aA](N:Nat):Hint:=(.seq .d (.seq (.block (.sub Ct _ _ _ mB (aR 1) (aR 2) (aW rR GU (rQ N N)))) .d))
theorem aEe(N:Nat)(hc:aJ (lQ N)):bN (lQ N) Tryz.f93.ntmps (UM N) GV:=bW _ _ (aK trivial (aK (aEj N hc) trivial))
theorem aEa[aA](N:Nat)(s0:(List UInt8))(c1:UInt8):MW N (UL N) s0 c1=exec (lQ N) Tryz.f93.ntmps (UM N) GV ⟨cC 0 [.e .tx s0,.e .u8 c1],[],100⟩ (cJ (lQ N) Tryz.f93 false):=by kernel_rfl
theorem aEh{N:Nat}(hc:aJ (lQ N)){s0:(List UInt8)}{c1:UInt8}{r:aH}(h:MX N s0 c1=some r):jO Tryz.prog 93 (([.e .tx s0,.e .u8 c1]:List X).map X.D) (HA []) r:=
 oC hc (f:=93) (fn:=Tryz.f93) (code:=GV) (by kernel_rfl) (by kernel_rfl) (aEe N hc) (eJ (by kernel_rfl)) (ow:=false) ((aEa N s0 c1).symm.trans (by rw[aEg N];exact h))
def GS(r:aH):Option ((List UInt8)):=match r with
 |(x0,[])=>(match ue .tx x0 with|some a0=>some a0|_=>none)
 |_=>none
theorem aE6{r:aH}{d:(List UInt8)}(h:GS r=some d):r=uB (d):=by
 unfold GS at h;split at h
 .split at h
  .rename_i h0;cases h;rw[b7 h0];rfl
  .cases h
 .cases h
def wE(N:Nat)(s0:(List UInt8))(c1:UInt8):Option ((List UInt8)):=(MX N s0 c1).bind GS
theorem aEf{N:Nat}(hc:aJ (lQ N)){s0:(List UInt8)}{c1:UInt8}{d:(List UInt8)}(hd:wE N s0 c1=some d):cN Tryz.prog 93 (([.e .tx s0,.e .u8 c1]:List X).map X.D) (HA []) (uB (d)).1.D (HA (uB (d)).2):=by
 obtain⟨r,hr,hu⟩:=jK.1 hd;have:=aEh hc hr;rw[aE6 hu]at this;exact this
def Cs(N:Nat)(s0:(List UInt8))(c1:UInt8):Bool:=(wE N s0 c1).isSome
def wF(N:Nat)(s0:(List UInt8))(c1:UInt8):(List UInt8):=((wE N s0 c1).getD [])
def UN(N:Nat):bO:=E2 .tx .u8  (λx0 x1=>(Cs N x0 x1,uB (wF N x0 x1)))
theorem aE8{N:Nat}{s0:(List UInt8)}{c1:UInt8}{d:(List UInt8)}(hd:wE N s0 c1=some d):uB (wF N s0 c1)=uB (d):=by unfold wF;rw[hd];rfl
theorem aEb(N:Nat):aV Tryz.prog 93 (UN N):=aV.e2 (λx0 x1 h=>by
 have h:(wE N x0 x1).isSome=true:=h;obtain⟨d,hd⟩:=pR.1 h;have f:=aEf (aEi N) hd;rw[<-aE8 hd]at f;exact f)
def Ar(a0:(List UInt8)):aH:=(.e .tx a0,[])
def aEs(N:Nat):List (Nat×bO):=[(93,UN N)]
def As(N:Nat):Cx:=⟨Tryz.prog,99999,aEs N,[]⟩
def MZ:Code:=Tryz.f79.body.getD .skip
theorem aEq(N:Nat):aJ (As N):=cM (by kernel_rfl) (.cons (by kernel_rfl) (aEb N) .nil) .nil
def M0[aA](N:Nat)(s0:(List UInt8))(cutset1:(List UInt8)):O:=
 br (decide (s0=[])||decide (cutset1=[]))
  (some (Ar s0))
  (gc (decide ((↑cutset1.length:Int)=(1:Int))) ((0:UInt8)) cutset1 ((0:Int)) λy0=>
  br (decide ((↑cutset1.length:Int)=(1:Int))&&decide (y0<(128:UInt8)))
   (gx cutset1 ((0:Int)) λy1=>
   ck (Cs N s0 y1)<|
   some (Ar (wF N s0 y1)))
   (none))
def M1[aA](N:Nat)(s0:(List UInt8))(cutset1:(List UInt8)):O:=M0 N  s0 cutset1
def UP[aA](_:Nat):Hint:=.d
theorem aEn(N:Nat):bN (As N) Tryz.f79.ntmps (UP N) MZ:=bW _ _ trivial
theorem aEm[aA](N:Nat)(s0:(List UInt8))(cutset1:(List UInt8)):M0 N  s0 cutset1=exec (As N) Tryz.f79.ntmps (UP N) MZ ⟨cC 0 [.e .tx s0,.e .tx cutset1],[],100⟩ (cJ (As N) Tryz.f79 false):=by kernel_rfl
theorem aEp{N:Nat}(hc:aJ (As N)){s0:(List UInt8)}{cutset1:(List UInt8)}{r:aH}(h:M1 N s0 cutset1=some r):jO Tryz.prog 79 (([.e .tx s0,.e .tx cutset1]:List X).map X.D) (HA []) r:=
 oC hc (f:=79) (fn:=Tryz.f79) (code:=MZ) (by kernel_rfl) (by kernel_rfl) (aEn N) (eJ (by kernel_rfl)) (ow:=false) ((aEm N s0 cutset1).symm.trans (by exact h))
def GW(r:aH):Option ((List UInt8)):=match r with
 |(x0,[])=>(match ue .tx x0 with|some a0=>some a0|_=>none)
 |_=>none
theorem aEl{r:aH}{d:(List UInt8)}(h:GW r=some d):r=Ar (d):=by
 unfold GW at h;split at h
 .split at h
  .rename_i h0;cases h;rw[b7 h0];rfl
  .cases h
 .cases h
def MY(N:Nat)(s0:(List UInt8))(cutset1:(List UInt8)):Option ((List UInt8)):=(M1 N s0 cutset1).bind GW
theorem aEo{N:Nat}(hc:aJ (As N)){s0:(List UInt8)}{cutset1:(List UInt8)}{d:(List UInt8)}(hd:MY N s0 cutset1=some d):cN Tryz.prog 79 (([.e .tx s0,.e .tx cutset1]:List X).map X.D) (HA []) (Ar (d)).1.D (HA (Ar (d)).2):=by
 obtain⟨r,hr,hu⟩:=jK.1 hd;have:=aEp hc hr;rw[aEl hu]at this;exact this
def wY(a0:Bool):aH:=(.e .bo a0,[])
def aHU(_:Nat):List (Nat×bO):=[]
def BG(N:Nat):Cx:=⟨Tryz.prog,99999,aHU N,[]⟩
def NS:Code:=Tryz.f55.body.getD .skip
theorem aHT(N:Nat):aJ (BG N):=cM (by kernel_rfl) .nil .nil
def Va[aA](_:Nat)(c0:UInt8):O:=
 some (wY (decide (c0<(32:UInt8))||decide ((126:UInt8)<c0)))
def Vb[aA](N:Nat)(c0:UInt8):O:=Va N  c0
def V8[aA](_:Nat):Hint:=.d
theorem aHQ(N:Nat):bN (BG N) Tryz.f55.ntmps (V8 N) NS:=bW _ _ trivial
theorem aHP[aA](N:Nat)(c0:UInt8):Va N  c0=exec (BG N) Tryz.f55.ntmps (V8 N) NS ⟨cC 0 [.e .u8 c0],[],100⟩ (cJ (BG N) Tryz.f55 false):=by kernel_rfl
theorem aHS{N:Nat}(hc:aJ (BG N)){c0:UInt8}{r:aH}(h:Vb N c0=some r):jO Tryz.prog 55 (([.e .u8 c0]:List X).map X.D) (HA []) r:=
 oC hc (f:=55) (fn:=Tryz.f55) (code:=NS) (by kernel_rfl) (by kernel_rfl) (aHQ N) (eJ (by kernel_rfl)) (ow:=false) ((aHP N c0).symm.trans (by exact h))
def NQ(r:aH):Option (Bool):=match r with
 |(x0,[])=>(match ue .bo x0 with|some a0=>some a0|_=>none)
 |_=>none
theorem aHN{r:aH}{d:Bool}(h:NQ r=some d):r=wY (d):=by
 unfold NQ at h;split at h
 .split at h
  .rename_i h0;cases h;rw[b7 h0];rfl
  .cases h
 .cases h
def BF(N:Nat)(c0:UInt8):Option (Bool):=(Vb N c0).bind NQ
theorem aHR{N:Nat}(hc:aJ (BG N)){c0:UInt8}{d:Bool}(hd:BF N c0=some d):cN Tryz.prog 55 (([.e .u8 c0]:List X).map X.D) (HA []) (wY (d)).1.D (HA (wY (d)).2):=by
 obtain⟨r,hr,hu⟩:=jK.1 hd;have:=aHS hc hr;rw[aHN hu]at this;exact this
def sA(N:Nat)(c0:UInt8):Bool:=(BF N c0).isSome
def oV(N:Nat)(c0:UInt8):Bool:=((BF N c0).getD false)
def HO(N:Nat):bO:=E1 .u8  (λx0=>(sA N x0,wY (oV N x0)))
theorem aHO{N:Nat}{c0:UInt8}{d:Bool}(hd:BF N c0=some d):wY (oV N c0)=wY (d):=by unfold oV;rw[hd];rfl
theorem NR(N:Nat):aV Tryz.prog 55 (HO N):=aV.e1 (λx0 h=>by
 have h:(BF N x0).isSome=true:=h;obtain⟨d,hd⟩:=pR.1 h;have f:=aHR (aHT N) hd;rw[<-aHO hd]at f;exact f)
end
end Go.Proofs
/- Iterators and their rounds: what each promises the other; a range over a function. -/
namespace Go.It
open Go Go.RowKit Go.Ab Go.Ax
def By(A:World)(u:Value)(x:List UInt8):Prop:=TR A (jC A) u (.sl x.length (x.flatMap (aI .u8)))
structure Kz(X:World->Nat->Prop)(A B:World):Prop where
 os:B.os=A.os
 tape:B.tape=A.tape
 output:B.output=A.output
 size:A.heap.size<=B.heap.size
 block:∀j,j<A.heap.size->¬ X A j->B.heap[j]?=A.heap[j]?
 x:∀j,X B j->X A j\/A.heap.size<=j
theorem Kz.refl(X:World->Nat->Prop)(A:World):Kz X A A:=⟨rfl,rfl,rfl,bX _,λ_ _ _=>rfl,λ_ h=>.inl h⟩
theorem Kz.trans{X:World->Nat->Prop}{A B C:World}(h:Kz X A B)(k:Kz X B C):Kz X A C:=
 ⟨k.os.trans h.os,k.tape.trans h.tape,k.output.trans h.output,iR h.size k.size,λj hj hx=>
  (k.block j (kL hj h.size) (λhb=>by rcases h.x j hb with h1|h1 <;> first|exact hx h1|omega)).trans (h.block j hj hx),
  λj hj=>by
   rcases k.x j hj with h1|h1
   .exact h.x j h1
   .exact .inr (iR h.size h1)⟩
theorem Kz.dI{X:World->Nat->Prop}{A B:World}(h:bB A B)(hx:∀j,X B j->X A j):Kz X A B:=
 ⟨h.os,h.tape,h.output,h.size,λj hj _=>h.block j hj,λj hj=>.inl (hx j hj)⟩
theorem Kz.old{X:World->Nat->Prop}{w A B:World}(h:bB w A)(k:Kz X A B)(hX:∀j,X A j->w.heap.size<=j):bB w B:=
 ⟨k.os.trans h.os,k.tape.trans h.tape,k.output.trans h.output,iR h.size k.size,λj hj=>(k.block j (kL hj h.size) (λhx=>by have:=hX j hx;omega)).trans (h.block j hj)⟩
def Ab(Bd:Nat)(J:Nat->World->Prop)(X:World->Nat->Prop):Prop:=
 ∀k A B row,J k A->A.grownBy B row->(∀r,row=some r->Bd<=r/\∃o:Obj,A.heap[r]?=some o/\o.isCells=false)->J k B/\∀j,X B j->X A j
theorem aUZ{A B:World}(h:bB A B):A.grownBy B none:=⟨h.os,h.tape,h.output,h.size,λk hk _=>h.block k hk⟩
theorem Ab.dI{Bd:Nat}{J:Nat->World->Prop}{X:World->Nat->Prop}(h:Ab Bd J X){k:Nat}{A B:World}(hJ:J k A)(hA:bB A B):J k B/\∀j,X B j->X A j:=
 h k A B none hJ (aUZ hA) (λr e=>by cases e)
structure Rc(P:Program)(Bd l:Nat)(L:List (List UInt8))(J:Nat->World->Prop)(X:World->Nat->Prop):Prop where
 ab:Ab Bd J X
 lt:∀k A j,J k A->X A j->j<A.heap.size
 y:∀k x u A,J k A->L[k]?=some x->By A u x->(∀g,aQ u=some g->Bd<=g/\¬ X A g)->YieldAt Fence.wide 7 P l #[u] A λe B=>e = .returned (.bool true)/\J (k+1) B/\Kz X A B
def It(P:Program)(gf:Nat)(lb:Array Value)(L:List (List UInt8))(W:World)(pr:Nat->Prop):Prop:=
 ∀(l:Nat)(J:Nat->World->Prop)(X:World->Nat->Prop),Rc P W.heap.size l L J X->J 0 W->(∀j,pr j->¬ X W j)->
  Calls P gf (#[.func (.yield l) #[] #[]]++lb) W λe W'=>(∃v,e = .returned v)/\J L.length W'/\Kz X W W'
theorem By.kept{A B:World}{u:Value}{x:List UInt8}(h:By A u x)(hb:∀g,aQ u=some g->B.heap[g]?=A.heap[g]?):By B u x:=by
 unfold By at *
 have hts:∀t∈x.flatMap (aI .u8),∃c0:UInt8,t = .v (.int .u8 (UInt8.toNat c0)):=λt ht'=>by
  obtain⟨c0,_,hc0⟩:=List.mem_flatMap.1 ht';exact⟨c0,List.mem_singleton.1 hc0⟩
 generalize x.flatMap (aI .u8)=ts0 at h hts ⊢;generalize x.length=n0 at h ⊢;cases h with
 |nil h=>exact .nil h
 |sl b o n c us ts hl hc hn h=>
   refine .sl b o _ c us _ hl (λi v hv=>?_) hn (λi v t hv ht=>?_)
   .obtain⟨h1,h2⟩:=hc i v hv
    have e:=hb b rfl;refine⟨(World.cell?_of_block (a:=⟨b,o+i,none⟩) e).trans h1,?_⟩;unfold jC at h2 ⊢;rw[e];exact h2
   .have q:=h i v t hv ht
    obtain⟨c0,rfl⟩:=hts t (Ac ht);cases q with
    |v _ h1=>exact .v _ h1
def CY(fn:FuncId)(tm:Array Value)(p:Tmp)(assign body:Code)(D:Nat)(st:LoopState):Loop:={ state:=st,pending:=none,fn,tmps:=tm,params:=#[p],assign,body,defers:=D }
theorem MP{P:Program}{g:Operand}{p:Tmp}{assign body:Code}{Q:Exit->Act->World->Prop}{a:Act}{w:World}{gf:Nat}{lb:Array Value}{L:List (List UInt8)}{pr:Nat->Prop}
    (hg:a.eval g = .func (.func gf) #[] lb) (eg:∀args w,(callFunc gf args).run P w = .ok (.enter gf args) w)
    (I:Nat->World->Prop) (X:World->Nat->Prop) (hab:Ab w.heap.size I X) (hlt:∀k A j,I k A->X A j->j<A.heap.size) (h0:I 0 w) (hpr:∀j,pr j->j<w.heap.size/\¬ X w j)
    (hit:∀W,bB w W->It P gf lb L W pr)
    (hbody:∀(l k:Nat)(x:List UInt8)(u:Value)(A:World),w.heap.size<=l->Kz X w A->I k A->L[k]?=some x->By A u x->(∀g,aQ u=some g->w.heap.size<=g/\¬ X A g)->
     assign.wpIn (Fence.wide.inRound l) 7 P (Exit.then (λa₁ A₁=>A₁=A/\∀A₂,I k A₂->By A₂ u x->(∀g,aQ u=some g->w.heap.size<=g/\¬ X A₂ g)->Kz X w A₂->body.wpIn (Fence.wide.inRound l) 7 P (λe _ A₃=>e = .normal/\I (k+1) A₃/\Kz X A₂ A₃) a₁ A₂) (λ_ _ _=>False))
      { tmps:=a.tmps.setIfInBounds p u,defers:=[] } A)
    (hdone:∀(D:Nat)(A:World),w.heap.size<=D->¬ X A D->Kz X w A->I L.length A->A.heap[D]?=some (.deferred (some []))->Q .normal { a with defers:={ target:=.collected D,args:=#[] }::a.defers } A):
    (Code.rangeFunc g #[p] assign body).wp P Q a w:=by
 refine(wpIn_wide (n:=9)).1 (wpIn_rangeFunc λfn _=>?_);obtain⟨W1,hW1⟩:∃W1,(w.alloc (.deferred (some []))).alloc (.loop (CY fn a.tmps p assign body w.heap.size .ready))=W1:=⟨_,rfl⟩
 have hA1:bB w W1:=hW1 ▸ ((bB.refl w).alloc _).alloc _;have hL1:W1.heap[w.heap.size+1]?=some (.loop (CY fn a.tmps p assign body w.heap.size .ready)):=by
  rw[<-hW1];have:=World.alloc_heap_new (w.alloc (.deferred (some []))) (.loop (CY fn a.tmps p assign body w.heap.size .ready));rwa [World.size_alloc]at this
 have hK1:W1.heap[w.heap.size]?=some (.deferred (some [])):=by
  rw[<-hW1];exact(Below.heap_alloc _ _ _ (by simp)).trans (World.alloc_heap_new w _)
 have hsz:W1.heap.size=w.heap.size+2:=by rw[<-hW1];simp
 have hI1:=hab.dI h0 hA1;have hnx:∀j,w.heap.size<=j->¬ X w j:=λj hj hx=>by have:=hlt 0 w j h0 hx;omega
 let l:=w.heap.size+1
 let D:=w.heap.size
 let rc:LoopState->Loop:=CY fn a.tmps p assign body w.heap.size
 refine⟨l,[{ target:=.collected D,args:=#[] }],W1,{ target:=.fn (.func gf) lb,args:=#[.func (.yield l) #[] #[]] },W1,gf,
  #[.func (.yield l) #[] #[]]++lb,W1,?_,?_,λf' _=>trivial,?_,λ_=>by omega,?_⟩
 .rw[<-hW1];exact run_enterLoop_outer _ _ _ _ _
 .simp only[resolve,hg]
  simp[go_sem,l]
 .simp[invoke,go_sem,eg]
 .refine callsIn_wide.2 ((hit W1 hA1 l (λk A=>I k A/\A.heap[l]?=some (.loop (rc .ready))/\A.heap[D]?=some (.deferred (some []))/\Kz X w A/\¬ X A l/\¬ X A D) (λA j=>X A j\/j=l) ⟨?_,?_,?_⟩ ?_ ?_).mono ?_)
  .rintro k A B row ⟨q1,q2,q3,q4,q5,q6⟩ hgr hrow
   have hr1:∀r,row=some r->w.heap.size+2<=r:=λr e=>by have:=(hrow r e).1;omega
   obtain⟨i1,i2⟩:=hab k A B row q1 hgr (λr e=>⟨by have:=hr1 r e;omega,(hrow r e).2⟩);have hla:=(eF.1 q2).1;have hda:=(eF.1 q3).1;refine⟨⟨i1,(hgr.block l hla (λe=>by have:=hr1 l e.symm;omega)).trans q2,(hgr.block D hda (λe=>by have:=hr1 D e.symm;omega)).trans q3,?_,λh=>q5 (i2 _ h),λh=>q6 (i2 _ h)⟩,λj hj=>hj.imp (i2 j) id⟩;exact⟨hgr.os.trans q4.os,hgr.tape.trans q4.tape,hgr.output.trans q4.output,iR q4.size hgr.size,λj hj hx=>(hgr.block j (by have:=q4.size;omega) (λe=>by have:=hr1 j e.symm;omega)).trans (q4.block j hj hx),λj hj=>q4.x j (i2 j hj)⟩
  .rintro k A j ⟨q1,q2,_⟩ (h|rfl)
   .exact hlt k A j q1 h
   .exact(eF.1 q2).1
  .rintro k x u A ⟨q1,q2,q3,q4,q5,q6⟩ hx hby hux
   have hla:=(eF.1 q2).1;have hy:=run_yield (P:=P) (args:=#[u]) q2 rfl;refine⟨fn,a.tmps.setIfInBounds p u,assign,body,?_,roundIn_of_wpIn trivial (wpIn_mono (hbody l k x u A (by show w.heap.size<=w.heap.size+1;omega) q4 q1 hx hby (λg hg=>⟨by have:=(hux g hg).1;omega,λh=>(hux g hg).2 (.inl h)⟩)) ?_)⟩
   .rw[hy]
    simp[rc,CY]
   .rintro e a1 A1 h
    cases e with
    |normal=>
      obtain⟨rfl,hb⟩:=h;refine⟨_,run_beginRound q2 rfl,?_⟩;have hgr:A1.grownBy (A1.putObj l (.loop { rc .ready with state:=.busy })) (some l):=grownBy_putObj' A1 l _;obtain⟨i1,i2⟩:=hab k A1 _ (some l) q1 hgr (λr e=>by cases e;exact⟨by show w.heap.size<=w.heap.size+1;omega,_,q2,rfl⟩);have hul:∀g,aQ u=some g->g≠l:=λg hg e=>(hux g hg).2 (.inr e)
      have hby2:By (A1.putObj l (.loop { rc .ready with state:=.busy })) u x:=hby.kept λg hg=>World.putObj_heap_other (hul g hg)
      have hkz2:Kz X w (A1.putObj l (.loop { rc .ready with state:=.busy })):=⟨q4.os,q4.tape,q4.output,by simp;exact q4.size,λj hj hx=>(World.putObj_heap_other (by show j≠w.heap.size+1;omega)).trans (q4.block j hj hx),λj hj=>q4.x j (i2 j hj)⟩;have hl2:(A1.putObj l (.loop { rc .ready with state:=.busy })).heap[l]?=some (.loop { rc .ready with state:=.busy }):=World.putObj_heap_same hla;have hd2:(A1.putObj l (.loop { rc .ready with state:=.busy })).heap[D]?=some (.deferred (some [])):=(World.putObj_heap_other (by show w.heap.size≠w.heap.size+1;omega)).trans q3;refine wpIn_mono (hb _ i1 hby2 (λg hg=>⟨by have:=(hux g hg).1;omega,λh=>(hux g hg).2 (.inl (i2 g h))⟩) hkz2) ?_;rintro e a3 A3 ⟨rfl,hi3,hk3⟩;have hl3:A3.heap[l]?=some (.loop { rc .ready with state:=.busy }):=(hk3.block l (by simp;exact hla) (λh=>q5 (i2 _ h))).trans hl2;have hd3:A3.heap[D]?=some (.deferred (some [])):=(hk3.block D (by have:=(eF.1 hd2).1;exact this) (λh=>q6 (i2 _ h))).trans hd2;have hla3:=(eF.1 hl3).1;have hend:=run_endRound (P:=P) none hl3;refine⟨_,_,hend,rfl,?_⟩;have hgr3:A3.grownBy (A3.putObj l (.loop (rc .ready))) (some l):=grownBy_putObj' A3 l _;obtain⟨j1,j2⟩:=hab (k+1) A3 _ (some l) hi3 hgr3 (λr e=>by cases e;exact⟨by show w.heap.size<=w.heap.size+1;omega,_,hl3,rfl⟩);have hkf:Kz X w (A3.putObj l (.loop (rc .ready))):=by
       have:=hkz2.trans hk3;exact⟨this.os,this.tape,this.output,by simp;exact this.size,λj hj hx=>(World.putObj_heap_other (by show j≠w.heap.size+1;omega)).trans (this.block j hj hx),λj hj=>this.x j (j2 j hj)⟩
      have hn3:¬ X A3 l:=λh=>by
       rcases hk3.x l h with h1|h1
       .exact q5 (i2 _ h1)
       .simp at h1;omega
      have hn4:¬ X A3 D:=λh=>by
       have hda:=(eF.1 q3).1;rcases hk3.x D h with h1|h1
       .exact q6 (i2 _ h1)
       .simp at h1;omega
      refine⟨⟨j1,World.putObj_heap_same hla3,(World.putObj_heap_other (by show w.heap.size≠w.heap.size+1;omega)).trans hd3,hkf,λh=>hn3 (j2 _ h),λh=>hn4 (j2 _ h)⟩,?_⟩;refine⟨hk3.os,hk3.tape,hk3.output,by have:=hk3.size;simp at this ⊢;exact this,λj hj hx=>?_,λj hj=>?_⟩
      .have hjl:j≠l:=λe=>hx (.inr e)
       rw[World.putObj_heap_other hjl,hk3.block j (by simp;exact hj) (λh=>hx (.inl (i2 j h))),World.putObj_heap_other hjl]
      .rcases hj with hj|hj
       .rcases hk3.x j (j2 j hj)with h1|h1
        .exact .inl (.inl (i2 j h1))
        .exact .inr (by simp at h1;exact h1)
       .exact .inl (.inr hj)
    |_=>exact h.elim
  .exact⟨hI1.1,hL1,hK1,Kz.dI hA1 hI1.2,λh=>hnx _ (by show w.heap.size<=w.heap.size+1;omega) (hI1.2 _ h),λh=>hnx _ (bX _) (hI1.2 _ h)⟩
  .intro j hj
   obtain⟨p1,p2⟩:=hpr j hj;rintro(h|rfl)
   .exact p2 (hI1.2 j h)
   .have:w.heap.size+1<w.heap.size:=p1
    omega
  .rintro e W2 ⟨⟨v,rfl⟩,⟨q1,q2,q3,q4,q5,q6⟩,_⟩
   have hend:=run_endLoop (P:=P) q2 (by simp[rc,CY]);have hgr:W2.grownBy (W2.putObj l (.loop { rc .ready with state:=.exhausted })) (some l):=grownBy_putObj' W2 l _;obtain⟨j1,j2⟩:=hab L.length W2 _ (some l) q1 hgr (λr e=>by cases e;exact⟨by show w.heap.size<=w.heap.size+1;omega,_,q2,rfl⟩);refine⟨none,_,hend,hdone D _ (bX _) (λh=>q6 (j2 _ h)) ?_ j1 ((World.putObj_heap_other (by show w.heap.size≠w.heap.size+1;omega)).trans q3)⟩;exact⟨q4.os,q4.tape,q4.output,by simp;exact q4.size,λj hj hx=>(World.putObj_heap_other (by show j≠w.heap.size+1;omega)).trans (q4.block j hj hx),λj hj=>q4.x j (j2 j hj)⟩
end Go.It
/- Codes of characters, blanks at ends: what the functions give, in plain words and as calls. -/
namespace Go.It
open Go Go.RowKit Go.Ab Go.Ax
theorem TC{P:Program}{f:FuncId}{ds:List Value}{d:D}(h:cN P f (ds.map λx=>.t (.v x)) [] d []){w:World}(ht:hM w λ_=>False)(h1:∀x∈ds,x.oneCell'=true):
    Calls P f ds.toArray w λe w'=>∃v ν nm G,e = .returned v/\bB w w'/\DR ν nm w' G v d/\∀b,b<w.heap.size->G b=0:=by
 refine(h ⟨ds.toArray.size,w,λ_=>0,λ_=>False,λ_=>.nilFunc,ht,(λg vs hg=>by cases hg),[]⟩ w ds.toArray rfl rfl (by simp) ⟨λ_=>.nilFunc,λ_=>0,⟨rfl,rfl,rfl,bX _,λ_ _ _=>rfl⟩,λ_ _ _ h=>h,λ_ _ _=>rfl,λ_ _ _=>rfl,rfl,λt d ht=>?_,λk o h=>by simp[Ab.look]at h,λk o k' o' h=>by simp[Ab.look]at h⟩).mono ?_
 .have ht:(ds.map λx=>D.t (.v x))[t]?=some d:=ht
  rw[cD]at ht;obtain⟨x,hx,rfl⟩:=Option.map_eq_some_iff.1 ht;exact⟨x,by simpa using hx,.t (.v x (h1 x (Ac hx)))⟩
 .rintro e w' ⟨v,rfl,ν,G,I⟩
  obtain⟨u,hu,hd⟩:=I.T 0 d (by simp);simp at hu;subst hu;exact⟨v,_,_,_,rfl,⟨I.kept.os,I.kept.tape,I.kept.output,I.kept.size,λk hk=>I.kept.block k hk (λh=>h)⟩,hd,λb hb=>I.g0 b hb (λh=>h)⟩
theorem aWZ{A:World}{G:bQ}{u:Value}{x:List UInt8}(h:TR A G u (.sl x.length (x.flatMap (aI .u8)))):By A u x:=h.mono λ_ _ _ ⟨h1,_⟩=>Sz h1
theorem aQO{A:World}{G:bQ}{n:Nat}{u:Value}{x:List UInt8}(h:TR A G u (.sl x.length (x.flatMap (aI .u8))))(hx:x≠[])(hG:∀b,b<n->G b=0):∀g,aQ u=some g->n<=g:=by
 have hx':0<x.length:=aXQ.2 hx;have hl:(x.flatMap (aI .u8)).length=x.length:=(mU (τ:=.u8) x).trans (Nat.mul_one _);generalize x.flatMap (aI .u8)=ts at h hl;generalize x.length=m at h hx' hl;cases h with
 |nil h=>omega
 |sl b o n' c us ts hl' hc hn h=>
   intro g hg;cases hg;rcases Ft b n with hb|hb
   .have h0:=(hc 0 _ (bM (by omega))).2
    rw[hG b hb]at h0;omega
   .exact hb
end Go.It
namespace Go.Proofs
open Go Go.Ax Go.Ax.aA
theorem OE(N:Nat)(c:UInt8)(last:Bool):xP N c last=some (dV c last):=by
 have key:∀(b:Bool)(x y:O),(br b x y).bind xQ=if b=true then x.bind xQ else y.bind xQ:=λb x y=>by cases b <;> rfl
 unfold xP OG OF dV;have ur:∀x:List UInt8,(some (lV x):O).bind xQ=some x:=λ_=>rfl
 simp only[key,ur,eC];split
 .rfl
 split
 .rfl
 split
 .rfl
 split
 .rfl
 split
 .rfl
 split <;> rfl
theorem aDM(c:UInt8)(last:Bool):dV c last≠[]:=by
 unfold dV
 repeat' split
 all_goals simp
theorem aCs(s:List UInt8)(c:UInt8):eV (s++[c])=if c=32 then eV s else s.length+1:=by
 unfold eV;rw[List.reverse_append];show(List.dropWhile (· == 32) (c::s.reverse)).length=_;rw[Cn];by_cases h:c=32
 .rw[aE h,aE (by simpa using h)]
 .rw[aC h,aC (by simpa using h)]
  simp
theorem aCr(s:List UInt8):eV s<=s.length:=by
 unfold eV;have:=(aXW (l:=s.reverse) (· == 32)).length_le;simpa using this
def tB(s:List UInt8):List UInt8:=s.take (eV s)
theorem U0(N:Nat)(k0:List UInt8->O)(k1 k2:Unit->O):∀(f:Nat)(s:List UInt8),s.length<f->s.length<=100000->rT N f (s,32) k0 k1 k2=k0 (tB s)
 |0,s,h,_=>by omega
 |f+1,s,h,hl=>by
   show Av N _ _ 32 s=_;unfold Av;rcases List.eq_nil_or_concat s with rfl|⟨t,c,rfl⟩
   .rfl
   .rw[List.concat_eq_append]at *
    rw[List.length_append]at h hl;have h1:([c]:List UInt8).length=1:=rfl;have hlen:((t++[c]).length:Int)=(t.length:Int)+1:=by simp
    have e:aS.wrap ((t.length:Int)+1-1)=((t.length:Nat):Int):=by rw[wr (by omega) (by omega)];omega
    have hg:(t++[c])[t.length]?=some c:=by simp
    rw[hlen,aL (show(0:Int)<(t.length:Int)+1 by omega),vM,e,cU hg,lM];unfold tB;rw[aCs];by_cases hc:c=32
    .have hsl:cA (t++[c]) none (some ((t.length:Nat):Int))=t:=by
      show(t++[c]).take ((t.length:Nat):Int).toNat=t;rw[Int.toNat_natCast,List.take_left]
     rw[aL hc,bJ,aP (show dJ (t++[c]).length none (some ((t.length:Nat):Int))=true from aL ⟨by omega,by omega⟩),hsl,aE hc,List.take_append_of_le_length (aCr t)];exact U0 N k0 k1 k2 f t (by omega) (by omega)
    .rw[aZ hc,bL,aC hc,List.take_of_length_le (by simp)]
theorem aHI{N:Nat}{s:List UInt8}(h:s.length<N)(hl:s.length<=100000):NL N s [32]=some (tB s):=by
 unfold NL NO NN;by_cases h0:s=[]
 .subst h0
  rfl
 .have h73:wI N s 32=some (tB s):=by
   unfold wI M9 M8 M7;exact aO (λz:O=>z.bind G5) (U0 N (λy=>some (uC y)) (λ_=>none) (λ_=>none) N s h hl)
  have hp:Cw N s 32=true:=by unfold Cw;rw[h73];rfl
  have hy:wJ N s 32=tB s:=by unfold wJ;rw[h73];rfl
  rw[aZ h0];show(gx [32] 0 λy1=>ck (Cw N s y1) <|some (BD (wJ N s y1))).bind HN=_;rw[tI,aP hp,hy];rfl
end Go.Proofs
/- Operations one by one, within a round or without; the codes of a string, given one by one. -/
namespace Go.It
open Go Go.RowKit Go.Ab Go.Ax Go.Proofs
abbrev Fr(ro:Option Nat):Fence:={ Fence.wide with round:=ro }
section
variable{ro:Option Nat}{n:Nat}{P:Program}{ops:Array Oper}{rest:List Oper}{o:Oper}{a:Act}{w w':World}{Q:Exit->Act->World->Prop}
theorem cK{v:Value}(hg:o.guard=none)(hd:∀c,o.op≠.defer c)(hr:(execOp a.eval o).run P w = .ok (.value v) w')(h:wpListIn (Fr ro) n P ops Q rest (a.put o.dst v) w'):wpListIn (Fr ro) n P ops Q (o::rest) a w:=by
 refine wpListIn_plain hg λK hK=>⟨λ_ _=>trivial,?_⟩
 rw[Oper.semAt_eq _ _ _ hd,hr,Oper.uponIn_value];exact hK _ _ h
theorem aUQ(hg:o.guard=none)(hd:∀c,o.op≠.defer c)(hr:(execOp a.eval o).run P w = .ok .skip w')(h:wpListIn (Fr ro) n P ops Q rest (a.put o.dst undef) w'):wpListIn (Fr ro) n P ops Q (o::rest) a w:=by
 refine wpListIn_plain hg λK hK=>⟨λ_ _=>trivial,?_⟩
 rw[Oper.semAt_eq _ _ _ hd,hr,Oper.uponIn_skip];exact hK _ _ h
theorem AN{f:FuncId}{args:Array Value}{R:Ending->World->Prop}(hg:o.guard=none)(hd:∀c,o.op≠.defer c)(hr:(execOp a.eval o).run P w = .ok (.enter f args) w')(hc:Calls P f args w' R)(h:∀e w'',R e w''->∃v,e = .returned v/\wpListIn (Fr ro) n P ops Q rest (a.put o.dst v) w''):wpListIn (Fr ro) n P ops Q (o::rest) a w:=by
 refine wpListIn_plain hg λK hK=>⟨λ_ _=>trivial,?_⟩
 rw[Oper.semAt_eq _ _ _ hd,hr,Oper.uponIn_enter];refine⟨λh=>(by simp:¬ (none:Option Nat).isSome=true).elim h,?_⟩;have:CallsIn Fence.wide (n-1) P f args w' R:=callsIn_wide.2 hc;exact CallsIn.mono (F:=Fr ro) this λe w'' hR=>by
  obtain⟨v,rfl,hv⟩:=h e w'' hR;exact hK _ _ hv
theorem aQp{m m':Nat}{l:Nat}{f:FuncId}{tm:Array Value}{cs bd:Code}{R:Ending->World->Prop}(h:RoundIn Fence.wide m P l f tm cs bd w R):RoundIn Fence.wide m' P l f tm cs bd w R:=
 ⟨h.1,λc fs _=>h.2 c fs (room_wide _)⟩
theorem L0{m l:Nat}{args:Array Value}{R:Ending->World->Prop}(hg:o.guard=none)(hd:∀c,o.op≠.defer c)(hr:(execOp a.eval o).run P w=(do let x <-Instr.yield l args;pure x:Sem Next).run P w)(hy:YieldAt Fence.wide m P l args w R)(h:∀e w'',R e w''->∃v,e = .returned v/\wpListIn (Fr ro) n P ops Q rest (a.put o.dst v) w''):wpListIn (Fr ro) n P ops Q (o::rest) a w:=by
 refine wpListIn_plain hg λK hK=>⟨λ_ _=>trivial,?_⟩
 obtain⟨fn,tmps,cs,bd,e1,hR⟩:=hy;rw[Oper.semAt_eq _ _ _ hd,hr];simp only[e1];show Oper.uponIn (Fr ro) n P o a K Q (.ok (.round l fn tmps cs bd) w);rw[Oper.uponIn_round];refine⟨λh=>(by simp:¬ (none:Option Nat).isSome=true).elim h,?_⟩;have:RoundIn Fence.wide (n-1) P l fn tmps cs bd w R:=aQp hR;exact RoundIn.mono (F:=Fr ro) this λe w'' hR=>by
  obtain⟨v,rfl,hv⟩:=h e w'' hR;exact hK _ _ hv
end
theorem bD(a:Act)(d:Option Tmp)(v:Value):(a.put d v).tmps.size=a.tmps.size:=by cases d <;> simp[Act.put]
theorem bE{a:Act}{t t':Nat}{v:Value}(h:t<a.tmps.size):(a.put (some t) v).eval (.tmp t')=if t=t' then v else a.eval (.tmp t'):=by
 by_cases e:t=t'
 .subst e;simp[Act.eval,Act.put,Ak,h]
 .rw[aC e];simp[Act.eval,Act.put,Ak,nL e]
theorem oD(a:Act)(v:Value):a.eval (.const v)=v:=rfl
theorem Fl{vs:Array Value}{n m:Nat}{ds:List Deferred}(hn:n=m)(h:vs.size<=m):({ tmps:=vs++k4 (n-vs.size) undef,defers:=ds }:Act).tmps.size=m:=by subst hn;simp;omega
theorem vV{vs:Array Value}{n:Nat}{ds:List Deferred}{t:Nat}{v:Value}(h:vs[t]?=some v):({ tmps:=vs++k4 (n-vs.size) undef,defers:=ds }:Act).eval (.tmp t)=v:=by
 have ht:=(eF.1 h).1;have e:(vs++k4 (n-vs.size) undef)[t]?=some v:=by rw[Array.getElem?_append_left ht];exact h
 simp[Act.eval,Ak,e]
section
variable{ρ:Operand->Value}{P:Program}{W:World}{d:Option Tmp}{t:TypeId}{ps:String}{af:Array Edge}{g:Option (Nat×Bool)}
theorem kF{x:Operand}{v:Value}(h:ρ x=v):(execOp ρ ⟨d,.move x,t,ps,af,g⟩).run P W = .ok (.value v) W:=by subst h;rfl
theorem mO{x:Operand}{v:Value}(h:ρ x=v):(execOp ρ ⟨d,.assign x,t,ps,af,g⟩).run P W = .ok (.value v) W:=by subst h;rfl
theorem qO{x:Operand}{ty:TypeId}{dsc:TypeDesc}{b i:Nat}{v:Value}(hu:P.underlying ty=some dsc)(hdsc:dsc.isRow=false)(h:ρ x = .pointer (some ⟨b,i,none⟩))(hc:W.cell? ⟨b,i,none⟩=some v):(execOp ρ ⟨d,.load ty x,t,ps,af,g⟩).run P W = .ok (.value v) W:=by
 unfold execOp;simp[h,CH hu hdsc hc]
theorem Kx{x:Operand}{ty:TypeId}{s:List UInt8}(hu:P.underlying ty=some .string)(h:ρ x = .string ⟨⟨s⟩⟩):(execOp ρ ⟨d,.call { callee:=.builtin .len,args:=#[x],argTypes:=#[ty] },t,ps,af,g⟩).run P W = .ok (.value (.int .i64 (s.length:Int))) W:=by
 unfold execOp;simp[resolve,invoke,builtin,h,Builtin.len_,run_underlying hu,goInt];rfl
theorem aRV{x y:Operand}{ty ty':TypeId}{k:IntKind}{m n:Int}(h:ρ x = .int k m)(h':ρ y = .int k n):(execOp ρ ⟨d,.binOp .lss ty x y ty',t,ps,af,g⟩).run P W = .ok (.value (.bool (decide (m<n)))) W:=by
 unfold execOp;simp[h,h',eqGuard,binOp,Op.intCmp]
theorem aRX{x y:Operand}{ty ty':TypeId}{k:IntKind}{m n:Int}(h:ρ x = .int k m)(h':ρ y = .int k n):(execOp ρ ⟨d,.binOp .geq ty x y ty',t,ps,af,g⟩).run P W = .ok (.value (.bool (decide (n<=m)))) W:=by
 unfold execOp;simp[h,h',eqGuard,binOp,Op.intCmp]
theorem aR0{x y:Operand}{ty ty':TypeId}{m n:Int}(h:ρ x = .int .i64 m)(h':ρ y = .int .i64 n)(hb:-9223372036854775808<=m+n/\m+n<=9223372036854775807):(execOp ρ ⟨d,.binOp .add ty x y ty',t,ps,af,g⟩).run P W = .ok (.value (.int .i64 (m+n))) W:=by
 unfold execOp;simp[h,h',eqGuard,binOp,Op.intArith,IntWalk.i64_in _ hb]
theorem aRS{x y:Operand}{ty ty':TypeId}{m n:Int}(h:ρ x = .int .i64 m)(h':ρ y = .int .i64 n)(hb:-9223372036854775808<=m-n/\m-n<=9223372036854775807):(execOp ρ ⟨d,.binOp .sub ty x y ty',t,ps,af,g⟩).run P W = .ok (.value (.int .i64 (m-n))) W:=by
 unfold execOp;simp[h,h',eqGuard,binOp,Op.intArith,IntWalk.i64_in _ hb]
theorem Kw{x:Operand}{ty:TypeId}{b:Bool}(h:ρ x = .bool b):(execOp ρ ⟨d,.unOp .not ty x,t,ps,af,g⟩).run P W = .ok (.value (.bool (!b))) W:=by
 unfold execOp;simp[h,Op.unary]
theorem aRW{x y:Operand}{ty:TypeId}{s:List UInt8}{i:Nat}{c:UInt8}(hu:P.underlying ty=some .string)(h:ρ x = .string ⟨⟨s⟩⟩)(h':ρ y = .int .i64 (i:Int))(hc:s[i]?=some c):(execOp ρ ⟨d,.index ty x y,t,ps,af,g⟩).run P W = .ok (.value (.int .u8 (c.toNat:Int))) W:=by
 obtain⟨hi,hc⟩:=bP.1 hc;have:=run_index_string (P:=P) W ty ⟨⟨s⟩⟩ .i64 (i:Int) hu;rw[dif_pos ⟨by omega,by show(i:Int)<(s.length:Int);omega⟩]at this;have e:((⟨⟨s⟩⟩:ByteArray)[((i:Int)).toNat]'(by show((i:Int)).toNat<s.length;omega))=c:=by
  show s[((i:Int)).toNat]=c;simpa using hc
 rw[e]at this;unfold execOp;simp[h,h',this]
theorem RJ{f:Nat}{x:Operand}{u:Value}{tys:Array TypeId}(ef:∀args w,(callFunc f args).run P w = .ok (.enter f args) w)(h:ρ x=u)(hf:ρ (.func f) = .func (.func f) #[] #[]):(execOp ρ ⟨d,.call { callee:=.value (.func f),args:=#[x],argTypes:=tys },t,ps,af,g⟩).run P W = .ok (.enter f #[u]) W:=by
 unfold execOp;simp[resolve,invoke,h,hf,Deferred.ofValue,ef]
theorem Ky{f:Nat}{x y:Operand}{u v:Value}{tys:Array TypeId}(ef:∀args w,(callFunc f args).run P w = .ok (.enter f args) w)(h:ρ x=u)(h':ρ y=v)(hf:ρ (.func f) = .func (.func f) #[] #[]):(execOp ρ ⟨d,.call { callee:=.value (.func f),args:=#[x,y],argTypes:=tys },t,ps,af,g⟩).run P W = .ok (.enter f #[u,v]) W:=by
 unfold execOp;simp[resolve,invoke,h,h',hf,Deferred.ofValue,ef]
theorem Kv{x y:Operand}{l:Nat}{u:Value}{tys:Array TypeId}(h:ρ x = .func (.yield l) #[] #[])(h':ρ y=u):(execOp ρ ⟨d,.call { callee:=.value x,args:=#[y],argTypes:=tys },t,ps,af,g⟩).run P W=(do let x <-Instr.yield l #[u];pure x:Sem Next).run P W:=by
 unfold execOp;simp[resolve,invoke,h,h',Deferred.ofValue]
end
end Go.It
/- The codes of a string, given one by one. -/
namespace Go.It
open Go Go.RowKit Go.Ab Go.Ax Go.Proofs
abbrev aTI : Oper := { dst := some 5, op := Op.load 9 (Operand.tmp 1), type := 9, pos := "listing.go:43", after := #[], guard := none }
abbrev aTH : Oper := { dst := some 6, op := Op.call { callee := Callee.value (Operand.func 59), args := #[Operand.tmp 5, Operand.const (Value.string { data := #[32] })], argTypes := #[9, 9] }, type := 9, pos := "listing.go:43", after := #[{ on := 0, ground := Ground.data }], guard := none }
abbrev aTG : Oper := { dst := some 7, op := Op.call { callee := Callee.builtin Builtin.len, args := #[Operand.tmp 6], argTypes := #[9] }, type := 3, pos := "listing.go:43", after := #[{ on := 1, ground := Ground.data }], guard := none }
abbrev aTF : Oper := { dst := some 3, op := Op.assign (Operand.tmp 7), type := 3, pos := "listing.go:43", after := #[{ on := 2, ground := Ground.data }, { on := 1, ground := Ground.chain }, { on := 0, ground := Ground.phase }, { on := 1, ground := Ground.phase }, { on := 2, ground := Ground.phase }], guard := none }
abbrev aTE : Oper := { dst := some 8, op := Op.load 9 (Operand.tmp 1), type := 9, pos := "listing.go:44", after := #[], guard := none }
abbrev aTD : Oper := { dst := some 9, op := Op.call { callee := Callee.builtin Builtin.len, args := #[Operand.tmp 8], argTypes := #[9] }, type := 3, pos := "listing.go:44", after := #[{ on := 0, ground := Ground.data }], guard := none }
abbrev aTC : Oper := { dst := some 10, op := Op.move (Operand.const (Value.int aS 0)), type := 3, pos := "listing.go:44", after := #[], guard := none }
abbrev aTB : Oper := { dst := some 11, op := Op.binOp BinOp.lss 3 (Operand.tmp 10) (Operand.tmp 9) 3, type := 4, pos := "listing.go:44", after := #[], guard := none }
abbrev aTA : Oper := { dst := some 12, op := Op.move (Operand.tmp 10), type := 3, pos := "listing.go:44", after := #[], guard := none }
abbrev aSz : Oper := { dst := some 4, op := Op.assign (Operand.tmp 12), type := 3, pos := "listing.go:44", after := #[{ on := 0, ground := Ground.data }, { on := 0, ground := Ground.phase }], guard := none }
abbrev aSy : Oper := { dst := some 13, op := Op.move (Operand.tmp 0), type := 57, pos := "listing.go:45", after := #[], guard := none }
abbrev aSx : Oper := { dst := some 14, op := Op.load 9 (Operand.tmp 1), type := 9, pos := "listing.go:45", after := #[], guard := none }
abbrev aSw : Oper := { dst := some 15, op := Op.move (Operand.tmp 4), type := 3, pos := "listing.go:45", after := #[], guard := none }
abbrev aSv : Oper := { dst := some 16, op := Op.index 9 (Operand.tmp 14) (Operand.tmp 15), type := 5, pos := "listing.go:45", after := #[{ on := 1, ground := Ground.data }, { on := 2, ground := Ground.data }], guard := none }
abbrev aSu : Oper := { dst := some 17, op := Op.move (Operand.tmp 4), type := 3, pos := "listing.go:45", after := #[], guard := none }
abbrev aSt : Oper := { dst := some 18, op := Op.move (Operand.tmp 3), type := 3, pos := "listing.go:45", after := #[], guard := none }
abbrev aSs : Oper := { dst := some 19, op := Op.binOp BinOp.geq 3 (Operand.tmp 17) (Operand.tmp 18) 3, type := 4, pos := "listing.go:45", after := #[{ on := 4, ground := Ground.data }, { on := 5, ground := Ground.data }], guard := none }
abbrev aSr : Oper := { dst := some 20, op := Op.call { callee := Callee.value (Operand.func 40), args := #[Operand.tmp 16, Operand.tmp 19], argTypes := #[5, 4] }, type := 23, pos := "listing.go:45", after := #[{ on := 3, ground := Ground.data }, { on := 6, ground := Ground.data }], guard := none }
abbrev aSq : Oper := { dst := some 21, op := Op.call { callee := Callee.value (Operand.tmp 13), args := #[Operand.tmp 20], argTypes := #[23] }, type := 4, pos := "listing.go:45", after := #[{ on := 0, ground := Ground.data }, { on := 7, ground := Ground.data }, { on := 7, ground := Ground.chain }], guard := none }
abbrev aSp : Oper := { dst := some 22, op := Op.unOp UnOp.not 4 (Operand.tmp 21), type := 4, pos := "listing.go:45", after := #[{ on := 8, ground := Ground.data }], guard := none }
abbrev aSo : Oper := { dst := some 23, op := Op.binOp BinOp.add 3 (Operand.tmp 10) (Operand.const (Value.int aS 1)) 3, type := 3, pos := "listing.go:44", after := #[], guard := none }
abbrev aSn : Oper := { dst := some 10, op := Op.move (Operand.tmp 23), type := 3, pos := "listing.go:44", after := #[{ on := 0, ground := Ground.data }], guard := none }
theorem aW9:Tryz.f58.body=some (Code.seq (Code.region 0 [aTI,aTH,aTG,aTF].toArray false) (Code.seq (Code.region 1 [aTE,aTD,aTC].toArray false) (Code.block 0 (Code.loop (Code.seq (Code.region 2 [aTB].toArray false) (Code.seq (Code.cond (Operand.tmp 11) Code.skip (Code.exit 0)) (Code.seq (Code.block 1 (Code.seq (Code.region 3 [aTA,aSz].toArray false) (Code.seq (Code.region 4 [aSy,aSx,aSw,aSv,aSu,aSt,aSs,aSr,aSq,aSp].toArray false) (Code.cond (Operand.tmp 22) Code.ret Code.skip)))) (Code.region 5 [aSo,aSn].toArray false)))))))):=by kernel_rfl
theorem aWM{W:World}(hT:hM W λ_=>False)(c:UInt8)(last:Bool):
    Calls Tryz.prog 40 #[.int .u8 (c.toNat:Int),.bool last] W λe W'=>∃v,e = .returned v/\bB W W'/\By W' v (dV c last)/\∀g,aQ v=some g->W.heap.size<=g:=by
 refine(TC (ds:=[.int .u8 (c.toNat:Int),.bool last]) (XU (XW 10) (OE 10 c last)) hT (by simp[Value.oneCell'])).mono ?_;rintro e W' ⟨v,ν,nm,G,rfl,hA,hd,hG⟩;cases hd with
 |t h=>exact⟨v,rfl,hA,aWZ h,aQO h (aDM c last) hG⟩
theorem aQJ{W:World}(hT:hM W λ_=>False){s:List UInt8}(hs:s.length<=20000):
    Calls Tryz.prog 59 #[.string ⟨⟨s⟩⟩,.string ⟨⟨[32]⟩⟩] W λe W'=>e = .returned (.string ⟨⟨tB s⟩⟩)/\bB W W':=by
 refine(TC (ds:=[.string ⟨⟨s⟩⟩,.string ⟨⟨[32]⟩⟩]) (aHF (aHH 40000) (aHI (by omega) (by omega))) hT (by simp[Value.oneCell'])).mono ?_;rintro e W' ⟨v,ν,nm,G,rfl,hA,hd,hG⟩;have:=bY hd;subst this;exact⟨rfl,hA⟩
theorem aWL{s:List UInt8}{i:Nat}{c:UInt8}(h:s[i]?=some c):(bV s)[i]?=some (dV c (decide (eV s<=i))):=by
 unfold bV;rw[cD,List.getElem?_range (bP.1 h).1];simp[List.getD,h]
theorem mV(s:List UInt8):(bV s).length=s.length:=by unfold bV;simp
theorem aQK(s:List UInt8):(tB s).length=eV s:=by
 unfold tB;rw[List.length_take];have:=aCr s;omega
def ndB:Op->Bool
 |.defer _=>false
 |_=>true
theorem nd{o:Op}(h:ndB o=true):∀c,o≠.defer c:=λc e=>by subst e;cases h
theorem aVp (vs : Array Value) (w : World) : (callFunc 59 vs).run Tryz.prog w = .ok (.enter 59 vs) w := o9 Tryz.func59 (by rw [show Tryz.f59.name = "strings.TrimRight" from rfl]; decide) (fun h => by cases h) vs w
theorem aVr (vs : Array Value) (w : World) : (callFunc 40 vs).run Tryz.prog w = .ok (.enter 40 vs) w := o9 Tryz.func40 (by rw [show Tryz.f40.name = "dactyl/listing.code" from rfl]; decide) (fun h => by cases h) vs w
def aVV(a:Act)(l c n m i:Nat):Prop:=a.tmps.size=24/\a.defers=[]/\a.eval (.tmp 0) = .func (.yield l) #[] #[]/\a.eval (.tmp 1) = .pointer (some ⟨c,0,none⟩)/\a.eval (.tmp 3) = .int .i64 (m:Int)/\a.eval (.tmp 9) = .int .i64 (n:Int)/\a.eval (.tmp 10) = .int .i64 (i:Int)
theorem Sr{w0:World}(hT:hM w0 λ_=>False){c:Nat}{s:List UInt8}(hs:s.length<=20000){W:World}(hA:bB w0 W)(hc:W.cell? ⟨c,0,none⟩=some (.string ⟨⟨s⟩⟩)):
    It Tryz.prog 58 #[.pointer (some ⟨c,0,none⟩)] (bV s) W (λj=>j<w0.heap.size\/j=c):=by
 intro l J X R h0 hpr;have hX:∀j,X W j->w0.heap.size<=j:=λj hj=>by
  rcases Ft j w0.heap.size with h|h
  .exact absurd hj (hpr j (.inl h))
  .exact h
 have hcX:¬ X W c:=hpr c (.inr rfl);have hTA:∀{A:World},bB w0 A->hM A λ_=>False:=λ{A} h=>hT.cS h.size (λb hb _=>h.block b hb) (λ_ h=>h.elim)
 have hcl:=World.block_lt_of_cell? _ _ hc;have hcK:∀{A:World},Kz X W A->A.cell? ⟨c,0,none⟩=some (.string ⟨⟨s⟩⟩):=λ{A} h=>(World.cell?_of_block (a:=⟨c,0,none⟩) (h.block c hcl hcX)).trans hc
 have u9:Tryz.prog.underlying 9=some .string:=by kernel_rfl
 have hm:Tryz.f58.ntmps=24:=by kernel_rfl
 refine callsIn_wide.1 (callsIn_of_wp_marks (F:=Fence.wide) (n:=9) Tryz.func58 aW9 trivial ?_);have hsz:=Fl (vs:=#[Value.func (.yield l) #[] #[]] ++ #[.pointer (some ⟨c,0,none⟩)]) (ds:=[]) hm (by simp);have e0:=vV (vs:=#[Value.func (.yield l) #[] #[]] ++ #[.pointer (some ⟨c,0,none⟩)]) (n:=Tryz.f58.ntmps) (ds:=[]) (t:=0) (v:=.func (.yield l) #[] #[]) (by simp);have e1:=vV (vs:=#[Value.func (.yield l) #[] #[]] ++ #[.pointer (some ⟨c,0,none⟩)]) (n:=Tryz.f58.ntmps) (ds:=[]) (t:=1) (v:=.pointer (some ⟨c,0,none⟩)) (by simp);generalize ha:({ tmps:=(#[Value.func (.yield l) #[] #[]] ++ #[Value.pointer (some ⟨c,0,none⟩)])++k4 (Tryz.f58.ntmps-(#[Value.func (.yield l) #[] #[]] ++ #[Value.pointer (some ⟨c,0,none⟩)]).size) undef,defers:=[] }:Act)=a at hsz e0 e1 ⊢;have hd0:a.defers=[]:=by rw[<-ha]
 clear ha;refine wpIn_seq (wpIn_region_lit ?_);refine cK rfl (nd rfl) (qO u9 rfl e1 hc) ?_;refine AN rfl (nd rfl) (Ky aVp (show _=Value.string ⟨⟨s⟩⟩by simp[bE,hsz]) (oD _ _) rfl) (aQJ (hTA hA) hs) ?_;rintro e W1 ⟨rfl,hA1⟩;refine⟨_,rfl,?_⟩;refine cK rfl (nd rfl) (Kx (s:=tB s) u9 (by simp[bE,bD,hsz])) ?_;refine cK rfl (nd rfl) (mO (v:=.int .i64 (eV s:Int)) (by simp[bE,bD,hsz,aQK])) (wpListIn_nil ?_);obtain⟨i1,i2⟩:=R.ab.dI h0 hA1;have hk1:Kz X W W1:=Kz.dI hA1 i2;refine wpIn_seq (wpIn_region_lit ?_);refine cK rfl (nd rfl) (qO u9 rfl (by simp[bE,bD,hsz,e1]) (hcK hk1)) ?_;refine cK rfl (nd rfl) (Kx (s:=s) u9 (by simp[bE,bD,hsz])) ?_;refine cK rfl (nd rfl) (kF (v:=.int .i64 0) (oD _ _)) (wpListIn_nil ?_);refine wpIn_block (wpIn_loop (λb B=>∃i:Nat,aVV b l c s.length (eV s) i/\i<=s.length/\J i B/\Kz X W B) (λb _=>s.length-(match b.eval (.tmp 10)with|.int _ z=>z.toNat|_=>0)) ⟨0,⟨by simp[bD,hsz],by simp[put_defers,hd0],by simp[bE,bD,hsz,e0],by simp[bE,bD,hsz,e1],by simp[bE,bD,hsz],by simp[bE,bD,hsz],by simp[bE,bD,hsz]⟩,Nat.zero_le _,i1,hk1⟩ ?_);clear hsz hd0 e0 e1;rintro b B ⟨i,⟨hsz,hd0,e0,e1,e3,e9,e10⟩,hi,hJ,hK⟩;refine wpIn_seq (wpIn_region_lit ?_);refine cK rfl (nd rfl) (aRV e10 e9) (wpListIn_nil ?_);by_cases hlt:i<s.length
 .have hg:s[i]?=some s[i]:=bM hlt
  have hAB:=Kz.old hA hK hX;have hcB:=hcK hK;refine wpIn_seq (wpIn_cond (t:=true) (by simp[bE,hsz];omega) (wpIn_skip ?_));refine wpIn_seq (wpIn_block (wpIn_seq (wpIn_region_lit ?_)));refine cK rfl (nd rfl) (kF (v:=.int .i64 (i:Int)) (by simp[bE,hsz,e10])) ?_;refine cK rfl (nd rfl) (mO (v:=.int .i64 (i:Int)) (by simp[bE,bD,hsz])) (wpListIn_nil ?_);refine wpIn_seq (wpIn_region_lit ?_);refine cK rfl (nd rfl) (kF (v:=.func (.yield l) #[] #[]) (by simp[bE,bD,hsz,e0])) ?_;refine cK rfl (nd rfl) (qO u9 rfl (by simp[bE,bD,hsz,e1]) hcB) ?_;refine cK rfl (nd rfl) (kF (v:=.int .i64 (i:Int)) (by simp[bE,bD,hsz])) ?_;refine cK rfl (nd rfl) (aRW (s:=s) (i:=i) u9 (by simp[bE,bD,hsz]) (by simp[bE,bD,hsz]) hg) ?_;refine cK rfl (nd rfl) (kF (v:=.int .i64 (i:Int)) (by simp[bE,bD,hsz])) ?_;refine cK rfl (nd rfl) (kF (v:=.int .i64 (eV s:Int)) (by simp[bE,bD,hsz,e3])) ?_;refine cK rfl (nd rfl) (aRX (k:=.i64) (m:=(i:Int)) (n:=(eV s:Int)) (by simp[bE,bD,hsz]) (by simp[bE,bD,hsz])) ?_;refine AN rfl (nd rfl) (Ky aVr (show _=Value.int .u8 (s[i].toNat:Int)by simp[bE,bD,hsz]) (show _=Value.bool (decide (eV s<=i))by simp[bE,bD,hsz]) rfl) (aWM (hTA hAB) s[i] (decide (eV s<=i))) ?_;rintro e B1 ⟨u,rfl,hB1,hby,hnew⟩;refine⟨_,rfl,?_⟩;obtain⟨j1,j2⟩:=R.ab.dI hJ hB1;have hk1:Kz X B B1:=Kz.dI hB1 j2;refine L0 rfl (nd rfl) (Kv (l:=l) (u:=u) (by simp[bE,bD,hsz]) (by simp[bE,bD,hsz])) (R.y i _ u B1 j1 (aWL hg) hby (λg hg'=>⟨by have:=hnew g hg';have:=hK.size;omega,λhx=>by have:=hnew g hg';have:=R.lt i B g hJ (j2 g hx);omega⟩)) ?_;rintro e B2 ⟨rfl,hJ2,hk2⟩;refine⟨_,rfl,?_⟩;refine cK rfl (nd rfl) (Kw (b:=true) (by simp[bE,bD,hsz])) (wpListIn_nil ?_);refine wpIn_cond (t:=false) (by simp[bE,bD,hsz]) (wpIn_skip ?_);refine wpIn_region_lit ?_;refine cK rfl (nd rfl) (aR0 (m:=(i:Int)) (n:=1) (by simp[bE,bD,hsz,e10]) (oD _ _) ⟨by omega,by omega⟩) ?_;refine cK rfl (nd rfl) (kF (v:=.int .i64 ((i+1:Nat):Int)) (by simp[bE,bD,hsz])) (wpListIn_nil ?_);refine⟨⟨i+1,⟨by simp[bD,hsz],by simp[put_defers,hd0],by simp[bE,bD,hsz,e0],by simp[bE,bD,hsz,e1],by simp[bE,bD,hsz,e3],by simp[bE,bD,hsz,e9],by simp[bE,bD,hsz]⟩,hlt,hJ2,hK.trans (hk1.trans hk2)⟩,?_⟩;have q1:∀(x:Act)(z:Nat),x.eval (.tmp 10) = .int .i64 (z:Int)->(s.length-(match x.eval (.tmp 10)with|.int _ z=>z.toNat|_=>0))=s.length-z:=λx z h=>by rw[h];simp
  rw[q1 b i e10,q1 _ (i+1) (by simp[bE,bD,hsz])];omega
 .have hi':i=s.length:=by omega
  subst hi';refine wpIn_seq (wpIn_cond (t:=false) (by simp[bE,hsz]) (wpIn_exit ?_));show bodyPostM Fence.wide 9 Tryz.prog Tryz.f58 _ .normal _ B;show LeavesInM Fence.wide 9 Tryz.prog Tryz.f58 _ _ (b.put (some 11) _).defers .returning B;rw[put_defers,hd0];refine⟨_,results_none (by kernel_rfl) _ _ _,⟨_,rfl⟩,?_,hK⟩;rw[mV];exact hJ
end Go.It
/- Elements gathered into a slice: slices.AppendSeq over any iterator; slices.Collect. -/
namespace Go.It
open Go Go.RowKit Go.Ab Go.Ax Go.Proofs
abbrev aTT : Oper := { dst := some 2, op := Op.box 25 (Operand.tmp 0), type := 0, pos := "iter.go:50", after := #[], guard := none }
abbrev aTS : Oper := { dst := some 4, op := Op.assign (Operand.const (Value.slice none 0 0)), type := 25, pos := "iter.go:50", after := #[], guard := none }
abbrev aTR : Oper := { dst := some 6, op := Op.move (Operand.tmp 1), type := 63, pos := "iter.go:51", after := #[], guard := none }
abbrev aTQ : Oper := { dst := some 5, op := Op.assign (Operand.tmp 7), type := 23, pos := "iter.go:51", after := #[], guard := none }
abbrev aTP : Oper := { dst := some 8, op := Op.load 25 (Operand.tmp 2), type := 25, pos := "iter.go:52", after := #[], guard := none }
abbrev aTO : Oper := { dst := some 9, op := Op.move (Operand.tmp 5), type := 23, pos := "iter.go:52", after := #[], guard := none }
abbrev aTN : Oper := { dst := some 10, op := Op.buildSlice 25 1 #[(0, Operand.tmp 9)], type := 25, pos := "iter.go:52", after := #[{ on := 1, ground := Ground.data }], guard := none }
abbrev aTM : Oper := { dst := some 11, op := Op.call { callee := Callee.builtin Builtin.append, args := #[Operand.tmp 8, Operand.tmp 10], argTypes := #[25, 25] }, type := 25, pos := "iter.go:52", after := #[{ on := 0, ground := Ground.data }, { on := 2, ground := Ground.data }], guard := none }
abbrev aTL : Oper := { dst := none, op := Op.store 25 (Operand.tmp 2) (Operand.tmp 11), type := 0, pos := "iter.go:52", after := #[{ on := 3, ground := Ground.data }, { on := 3, ground := Ground.chain }, { on := 0, ground := Ground.phase }, { on := 1, ground := Ground.phase }, { on := 2, ground := Ground.phase }, { on := 3, ground := Ground.phase }], guard := none }
abbrev aTK : Oper := { dst := some 12, op := Op.load 25 (Operand.tmp 2), type := 25, pos := "iter.go:54", after := #[], guard := none }
abbrev aTJ : Oper := { dst := some 4, op := Op.assign (Operand.tmp 12), type := 25, pos := "iter.go:54", after := #[{ on := 0, ground := Ground.data }, { on := 0, ground := Ground.phase }], guard := none }
theorem aWa:Tryz.f57.body=some (Code.seq (Code.region 0 [aTT,aTS].toArray false) (Code.seq (Code.seq (Code.region 1 [aTR].toArray false) (Code.block 0 (Code.rangeFunc (Operand.tmp 6) #[7] (Code.region 2 [aTQ].toArray false) (Code.block 1 (Code.region 3 [aTP,aTO,aTN,aTM,aTL].toArray false))))) (Code.seq (Code.region 4 [aTK,aTJ].toArray false) Code.ret))):=by kernel_rfl
abbrev aT1 : Oper := { dst := some 2, op := Op.assign (Operand.const (Value.slice none 0 0)), type := 25, pos := "iter.go:59", after := #[], guard := none }
abbrev aT0 : Oper := { dst := some 3, op := Op.move (Operand.tmp 0), type := 63, pos := "iter.go:60", after := #[], guard := none }
abbrev aTZ : Oper := { dst := some 4, op := Op.call { callee := Callee.value (Operand.func 57), args := #[Operand.const (Value.slice none 0 0), Operand.tmp 3], argTypes := #[25, 63] }, type := 25, pos := "iter.go:60", after := #[{ on := 0, ground := Ground.data }], guard := none }
abbrev aTY : Oper := { dst := some 2, op := Op.assign (Operand.tmp 4), type := 25, pos := "iter.go:60", after := #[{ on := 1, ground := Ground.data }, { on := 1, ground := Ground.chain }, { on := 0, ground := Ground.phase }, { on := 1, ground := Ground.phase }], guard := none }
theorem aWc:Tryz.f35.body=some (Code.seq (Code.region 0 [aT1].toArray false) (Code.seq (Code.region 1 [aT0,aTZ,aTY].toArray false) Code.ret)):=by kernel_rfl
theorem By.cells{A:World}{u:Value}{x:List UInt8}(h:By A u x)(hx:x≠[]):∀g,aQ u=some g->∃o,A.heap[g]?=some o/\o.isCells=true:=by
 unfold By at h;have hx':0<x.length:=aXQ.2 hx;have hl:(x.flatMap (aI .u8)).length=x.length:=(mU (τ:=.u8) x).trans (Nat.mul_one _);generalize x.flatMap (aI .u8)=ts at h hl;generalize x.length=m at h hx' hl;cases h with
 |nil h=>omega
 |sl b o n' c us ts hl' hc hn h=>
   intro g hg;cases hg;have h1:=(hc 0 _ (bM (by omega))).1;unfold World.cell? at h1;split at h1
   .rename_i cs e fz hh
    exact⟨_,hh,rfl⟩
   all_goals cases h1
theorem By.one{A:World}{u:Value}{x:List UInt8}(h:By A u x):u.oneCell'=true:=by
 unfold By at h;generalize x.flatMap (aI .u8)=ts at h;generalize x.length=m at h;cases h <;> rfl
structure oQ(A:World)(n:Nat)(L:List (List UInt8))(k:Nat)(v:Value)(us:List Value):Prop where
 row:A.ownsRow n 23 1 v k us
 el:∀(i:Nat)(u:Value),us[i]?=some u->∃x:List UInt8,L[i]?=some x/\By A u x/\∀g,aQ u=some g->n<=g/\v.ownBlock≠some g
theorem oQ.cS{A B:World}{n:Nat}{L:List (List UInt8)}{k:Nat}{v:Value}{us:List Value}(h:oQ A n L k v us)(hne:∀x∈L,x≠[])(hk:∀g o,n<=g->A.heap[g]?=some o->o.isCells=true->B.heap[g]?=A.heap[g]?):oQ B n L k v us:=by
 refine⟨⟨h.row.1,?_⟩,λi u hu=>?_⟩
 .rcases h.row.2 with h2|⟨g,cap,cur,hv,hg,hh,r⟩
  .exact .inl h2
  .exact .inr ⟨g,cap,cur,hv,hg,(hk g _ hg hh rfl).trans hh,r⟩
 .obtain⟨x,hx,hb,hg⟩:=h.el i u hu
  refine⟨x,hx,hb.kept λg hg'=>?_,hg⟩;obtain⟨o,ho,hc⟩:=hb.cells (hne x (Ac hx)) g hg';exact hk g o (hg g hg').1 ho hc
theorem aBG{A:World}{n m:Nat}{e:TypeId}{s:Nat}{v:Value}{k:Nat}{xs:List Value}(h:A.ownsRow n e s v k xs)(hm:m<=n):A.ownsRow m e s v k xs:=
 ⟨h.1,h.2.imp id λ⟨g,cap,cur,hv,hb,r⟩=>⟨g,cap,cur,hv,iR hm hb,r⟩⟩
theorem oQ.down{A:World}{n m:Nat}{L:List (List UInt8)}{k:Nat}{v:Value}{us:List Value}(h:oQ A n L k v us)(hm:m<=n):oQ A m L k v us:=
 ⟨aBG h.row hm,λi u hu=>by
  obtain⟨x,hx,hb,hg⟩:=h.el i u hu;exact⟨x,hx,hb,λg hg'=>⟨iR hm (hg g hg').1,(hg g hg').2⟩⟩⟩
theorem aRB{A:World}{n:Nat}{e:TypeId}{s:Nat}{v:Value}{k:Nat}{xs:List Value}(h:A.ownsRow 0 e s v k xs)(hg:∀g,v.ownBlock=some g->n<=g):A.ownsRow n e s v k xs:=
 ⟨h.1,h.2.imp id λ⟨g,cap,cur,hv,_,r⟩=>⟨g,cap,cur,hv,hg g (by rw[hv];rfl),r⟩⟩
def gI(Bx:Nat)(L:List (List UInt8))(k:Nat)(A:World):Prop:=∃v us,A.heap[Bx]?=some (.cells #[v] 25 (0,0))/\oQ A (Bx+1) L k v us
def gX(Bx:Nat)(A:World)(j:Nat):Prop:=j=Bx\/∃v e f,A.heap[Bx]?=some (.cells #[v] e f)/\v.ownBlock=some j
theorem aVI{Bx:Nat}{A B:World}(h:B.heap[Bx]?=A.heap[Bx]?){j:Nat}(hj:gX Bx B j):gX Bx A j:=
 hj.imp id λ⟨v,e,f,h1,h2⟩=>⟨v,e,f,h ▸ h1,h2⟩
theorem aVM{Bx Bd:Nat}{L:List (List UInt8)}(hne:∀x∈L,x≠[])(hB:Bx<Bd):Ab Bd (gI Bx L) (gX Bx):=by
 rintro k A B row ⟨v,us,h1,h2⟩ hgr hrow;have hlt:=(eF.1 h1).1;have hs:B.heap[Bx]?=A.heap[Bx]?:=hgr.block Bx hlt (λe=>by have:=(hrow Bx e.symm).1;omega);refine⟨⟨v,us,hs.trans h1,h2.cS hne λg o hg ho hc=>hgr.block g (eF.1 ho).1 (λe=>?_)⟩,λj hj=>aVI hs hj⟩;obtain⟨_,o',ho',hc'⟩:=hrow g e.symm;rw[ho]at ho';cases ho';rw[hc]at hc';cases hc'
theorem aD7:kA Tryz.prog 25 23 (.slice none 0 0) 1 24:=⟨by kernel_rfl,by kernel_rfl,rfl,by decide⟩
theorem aTm:kM Tryz.prog 25 23 1 1 (List.replicate 1 (Value.slice none 0 0).cells.toList).flatten:=kM.of aD7 (by simp[Value.cells,Value.oneCell']) 1 (by decide)
section
variable{ρ:Operand->Value}{P:Program}{W:World}{d:Option Tmp}{t:TypeId}{ps:String}{af:Array Edge}{g:Option (Nat×Bool)}
theorem RL{x:Operand}{ty:TypeId}{v:Value}(h:ρ x=v):(execOp ρ ⟨d,.box ty x,t,ps,af,g⟩).run P W = .ok (.value (.pointer (some ⟨W.heap.size,0,none⟩))) (W.alloc (.cells v.cells ty)):=by
 subst h;unfold execOp;simp[Instr.box,newVar,newRow]
theorem aB3{x:Operand}{ty e:TypeId}{z v:Value}(hL:kM P ty e 1 1 [z])(h:ρ x=v)(h1:v.oneCell'=true):(execOp ρ ⟨d,.buildSlice ty 1 #[(0,x)],t,ps,af,g⟩).run P W = .ok (.value (.slice (some ⟨W.heap.size,0,none⟩) 1 1)) (W.alloc (.cells #[v] e)):=by
 have hc:v.cells = #[v]:=AU h1;have:=hL.run W #[(0,v)] #[v] (by simp[Instr.fill,hc]);unfold execOp;simp[h,this]
theorem aRZ{x y:Operand}{ty:TypeId}{v u v':Value}{W':World}(h:ρ x=v)(h':ρ y=u)(hr:(Builtin.append_ #[ty,ty] ty #[v,u]).run P W = .ok v' W'):(execOp ρ ⟨d,.call { callee:=.builtin .append,args:=#[x,y],argTypes:=#[ty,ty] },ty,ps,af,g⟩).run P W = .ok (.value v') W':=by
 unfold execOp;simp[resolve,invoke,builtin,h,h',hr]
theorem aRT{x y:Operand}{ty:TypeId}{b i:Nat}{v:Value}(hi:(P.info? ty).map (·.size)=some 1)(h:ρ x = .pointer (some ⟨b,i,none⟩))(h':ρ y=v)(h1:v.oneCell'=true)(ht:W.there b i 1):(execOp ρ ⟨d,.store ty x y,t,ps,af,g⟩).run P W = .ok .skip (W.setCell ⟨b,i,none⟩ v):=by
 have hc:v.cells = #[v]:=AU h1;have:=Kg (P:=P) (w:=W) (b:=b) (o:=i) (ty:=ty) (v:=v) (by rw[hc];exact ht) (by rw[hc];exact hi) (by rw[hc];simpa using h1);rw[hc]at this;unfold execOp;simp[h,h',this,World.setCells]
end
theorem aDY{A:World}{Bx:Nat}{u v:Value}{e:TypeId}(h:A.heap[Bx]?=some (.cells #[u] e (0,0))):(A.setCell ⟨Bx,0,none⟩ v).heap[Bx]?=some (.cells #[v] e (0,0)):=by
 rw[aAs h];rfl
theorem aW2{A:World}{Bx:Nat}{u:Value}{e:TypeId}(h:A.heap[Bx]?=some (.cells #[u] e (0,0))):A.there Bx 0 1:=by
 intro j hj;have:j=0:=by omega
 subst this;exact⟨by simp[World.cell?,h],by simp[World.frozen?,h]⟩
theorem Fh{A:World}{Bx:Nat}{u:Value}{e:TypeId}{f:Nat×Nat}(h:A.heap[Bx]?=some (.cells #[u] e f)):A.cell? ⟨Bx,0,none⟩=some u:=by simp[World.cell?,h]
theorem aAr{A:World}{Bx j:Nat}{v:Value}(h:j≠Bx):(A.setCell ⟨Bx,0,none⟩ v).heap[j]?=A.heap[j]?:=by
 simp[World.setCell,Array.getElem?_modify,Ne.symm h]
theorem aVL{Bx:Nat}{L:List (List UInt8)}(hne:∀x∈L,x≠[])(hL:L.length<=100000){k:Nat}{x:List UInt8}{u:Value}{A:World}(hI:gI Bx L k A)(hx:L[k]?=some x)(hby:By A u x)(hu:∀g,aQ u=some g->Bx+1<=g/\¬ gX Bx A g):
    ∃v v' B,A.heap[Bx]?=some (.cells #[v] 25 (0,0))/\(Builtin.append_ #[25,25] 25 #[v,.slice (some ⟨A.heap.size,0,none⟩) 1 1]).run Tryz.prog (A.alloc (.cells #[u] 23)) = .ok v' B/\B.heap[Bx]?=some (.cells #[v] 25 (0,0))/\v'.oneCell'=true /\
     gI Bx L (k+1) (B.setCell ⟨Bx,0,none⟩ v')/\Kz (gX Bx) A (B.setCell ⟨Bx,0,none⟩ v'):=by
 obtain⟨v,us,h1,h2⟩:=hI;have hBx:=(eF.1 h1).1;have hA3:bB A (A.alloc (.cells #[u] 23)):=(bB.refl A).alloc _;have hk:k<L.length:=(bP.1 hx).1;obtain⟨v',B,q1,q2,q3,q4,q5,q6,q7,_,q9⟩:=Ej (ty:=25) (w:=A.alloc (.cells #[u] 23)) (v:=v) (ax:=some ⟨A.heap.size,0,none⟩) (m:=1) (c:=1) (news:=[u]) aD7 (aRR (aBG h2.row (Nat.zero_le _)) hA3) (by simp)
  (λj z hz=>by
   have:j=0:=by have:=(bP.1 hz).1;simp at this;omega
   subst this;cases hz;exact⟨_,rfl,by show World.cell? _ ⟨A.heap.size,0,none⟩=_;simp only[World.cell?];rw[heap_alloc_new];rfl⟩) (by simp) (by simpa using hby.one) (by show k+1<=9223372036854775807;omega) (by omega)
 have hvlt:∀g,v.ownBlock=some g->Bx+1<=g/\g<A.heap.size:=λg hg=>h2.row.lt g hg
 have hux:∀g,aQ u=some g->v.ownBlock≠some g/\g<A.heap.size:=λg hg=>by
  obtain⟨o,ho,_⟩:=hby.cells (hne x (Ac hx)) g hg;exact⟨λe=>(hu g hg).2 (.inr ⟨v,_,_,h1,e⟩),(eF.1 ho).1⟩
 have hsz:(A.alloc (.cells #[u] 23)).heap.size=A.heap.size+1:=World.size_alloc _ _;have hold:∀b,b<A.heap.size->v.ownBlock≠some b->B.heap[b]?=A.heap[b]?:=λb hb hv=>(q7 b (by omega) hv).trans (hA3.block b hb)
 have hBB:B.heap[Bx]?=some (.cells #[v] 25 (0,0)):=(hold Bx hBx (λe=>by have:=(hvlt Bx e).1;omega)).trans h1;have hv':∀g,v'.ownBlock=some g->A.heap.size<g\/v.ownBlock=some g:=λg hg=>(q9 g hg).imp (λh=>by omega) id
 have hbag:oQ B (Bx+1) L (k+1) v' (us++[u]):=by
  refine⟨aRB q2 λg hg=>?_,λi z hz=>?_⟩
  .rcases hv' g hg with h|h
   .omega
   .exact(hvlt g h).1
  .have hlen:us.length=k:=by simpa using h2.row.1
   have nb:∀g,g<A.heap.size->v.ownBlock≠some g->v'.ownBlock≠some g:=λg hg hv e=>by
    rcases hv' g e with h|h
    .omega
    .exact hv h
   rcases Ft i us.length with hi|hi
   .rw[List.getElem?_append_left hi]at hz
    obtain⟨y,hy,hb,hg⟩:=h2.el i z hz;have hlt:∀g,aQ z=some g->g<A.heap.size:=λg hg'=>by
     obtain⟨o,ho,_⟩:=hb.cells (hne y (Ac hy)) g hg';exact(eF.1 ho).1
    exact⟨y,hy,hb.kept λg hg'=>hold g (hlt g hg') (hg g hg').2,λg hg'=>⟨(hg g hg').1,nb g (hlt g hg') (hg g hg').2⟩⟩
   .have:i=us.length:=by have:=(bP.1 hz).1;simp at this;omega
    subst this;rw[List.getElem?_concat_length]at hz;cases hz;exact⟨x,hlen ▸ hx,hby.kept λg hg'=>hold g (hux g hg').2 (hux g hg').1,λg hg'=>⟨(hu g hg').1,nb g (hux g hg').2 (hux g hg').1⟩⟩
 refine⟨v,v',B,h1,q1,hBB,kV q2,⟨v',us++[u],aDY hBB,hbag.cS hne λg o hg _ _=>aAr (by omega)⟩,⟨q3,q4,q5,?_,λj hj hx'=>?_,λj hj=>?_⟩⟩
 .show A.heap.size<=(B.heap.modify _ _).size
  rw[Array.size_modify];omega
 .have hjB:j≠Bx:=λe=>hx' (.inl e)
  exact(aAr hjB).trans (hold j hj λe=>hx' (.inr ⟨v,_,_,h1,e⟩))
 .rcases hj with rfl|⟨z,e,f,hz,hz'⟩
  .exact .inl (.inl rfl)
  .rw[aDY hBB]at hz
   cases hz;rcases hv' j hz' with h|h
   .exact .inr (Nat.le_of_lt h)
   .exact .inl (.inr ⟨v,_,_,h1,h⟩)
theorem C8{tm:Array Value}{p t':Nat}{u:Value}{ds:List Deferred}(h:p<tm.size):({ tmps:=tm.setIfInBounds p u,defers:=ds }:Act).eval (.tmp t')=if p=t' then u else({ tmps:=tm,defers:=[] }:Act).eval (.tmp t'):=by
 by_cases e:p=t'
 .subst e;simp[Act.eval,Ak,h]
 .rw[aC e];simp[Act.eval,Ak,nL e]
theorem C9(a:Act)(ds:List Deferred)(x:Operand):({ tmps:=a.tmps,defers:=ds }:Act).eval x=a.eval x:=by cases x <;> rfl
theorem aWn{w0:World}{gf:Nat}{lb:Array Value}{L:List (List UInt8)}{pr:Nat->Prop}(hpr:∀j,pr j->j<w0.heap.size)(hne:∀x∈L,x≠[])(hL:L.length<=100000)
    (hit:∀W,bB w0 W->It Tryz.prog gf lb L W pr) (eg:∀args w,(callFunc gf args).run Tryz.prog w = .ok (.enter gf args) w):
    Calls Tryz.prog 57 #[.slice none 0 0,.func (.func gf) #[] lb] w0 λe W'=>∃v us,e = .returned v/\oQ W' w0.heap.size L L.length v us/\bB w0 W':=by
 have u25:Tryz.prog.underlying 25=some (.slice 23):=by kernel_rfl
 have i25:(Tryz.prog.info? 25).map (·.size)=some 1:=by kernel_rfl
 have hm:Tryz.f57.ntmps=13:=by kernel_rfl
 refine callsIn_wide.1 (callsIn_of_wp_marks (F:=Fence.wide) (n:=9) Tryz.func57 aWa trivial ?_);have hsz:=Fl (vs:=#[Value.slice none 0 0,.func (.func gf) #[] lb]) (ds:=[]) hm (by simp);have e0:=vV (vs:=#[Value.slice none 0 0,.func (.func gf) #[] lb]) (n:=Tryz.f57.ntmps) (ds:=[]) (t:=0) (v:=.slice none 0 0) (by simp);have e1:=vV (vs:=#[Value.slice none 0 0,.func (.func gf) #[] lb]) (n:=Tryz.f57.ntmps) (ds:=[]) (t:=1) (v:=.func (.func gf) #[] lb) (by simp);generalize ha:({ tmps:=#[Value.slice none 0 0,.func (.func gf) #[] lb]++k4 (Tryz.f57.ntmps - #[Value.slice none 0 0,.func (.func gf) #[] lb].size) undef,defers:=[] }:Act)=a at hsz e0 e1 ⊢;have hd0:a.defers=[]:=by rw[<-ha]
 clear ha;refine wpIn_seq (wpIn_region_lit ?_);refine cK rfl (nd rfl) (RL e0) ?_;refine cK rfl (nd rfl) (mO (v:=.slice none 0 0) (oD _ _)) (wpListIn_nil ?_);refine wpIn_seq (wpIn_seq (wpIn_region_lit ?_));refine cK rfl (nd rfl) (kF (v:=.func (.func gf) #[] lb) (by simp[bE,bD,hsz,e1])) (wpListIn_nil ?_);have hA1:bB w0 (w0.alloc (.cells #[.slice none 0 0] 25)):=(bB.refl w0).alloc _;have hbx:(w0.alloc (.cells #[.slice none 0 0] 25)).heap[w0.heap.size]?=some (.cells #[.slice none 0 0] 25 (0,0)):=heap_alloc_new _ _;have hs1:(w0.alloc (.cells #[.slice none 0 0] 25)).heap.size=w0.heap.size+1:=World.size_alloc _ _;show Code.wpIn Fence.wide 9 Tryz.prog _ _ _ (w0.alloc (.cells #[.slice none 0 0] 25));generalize w0.alloc (.cells #[.slice none 0 0] 25)=w1 at hA1 hbx hs1 ⊢;have hX0:∀j,gX w0.heap.size w1 j->j=w0.heap.size:=λj hj=>by
  rcases hj with h|⟨v,e,f,h,h'⟩
  .exact h
  .rw[hbx]at h
   cases h;cases h'
 refine wpIn_block (wpIn_wide.2 (MP (gf:=gf) (lb:=lb) (L:=L) (pr:=pr) (by simp[bE,bD,hsz]) eg (gI w0.heap.size L) (gX w0.heap.size) (aVM hne (by omega)) ?_ ⟨_,[],hbx,World.ownsRow_nil _ _ _ _,λi u hu=>by cases hu⟩ ?_ (λW hW=>hit W (hA1.trans hW)) ?_ ?_))
 .rintro k A j ⟨v,us,h1,h2⟩ (rfl|⟨z,e,f,hz,hz'⟩)
  .exact(eF.1 h1).1
  .rw[h1]at hz
   cases hz;exact(h2.row.lt j hz').2
 .intro j hj
  have:=hpr j hj;exact⟨by omega,λh=>by have:=hX0 j h;omega⟩
 .intro l k x u A hl hk hI hx hby hu
  have g7:=C8 (tm:=((a.put (some 2) (Value.pointer (some ⟨w0.heap.size,0,none⟩))).put (some 4) (.slice none 0 0) |>.put (some 6) (.func (.func gf) #[] lb)).tmps) (p:=7) (t':=7) (u:=u) (ds:=[]) (by simp[bD,hsz]);have g2:=C8 (tm:=((a.put (some 2) (Value.pointer (some ⟨w0.heap.size,0,none⟩))).put (some 4) (.slice none 0 0) |>.put (some 6) (.func (.func gf) #[] lb)).tmps) (p:=7) (t':=2) (u:=u) (ds:=[]) (by simp[bD,hsz]);rw[C9]at g2;simp[bE,bD,hsz]at g2 g7;have gs:(((a.put (some 2) (Value.pointer (some ⟨w0.heap.size,0,none⟩))).put (some 4) (.slice none 0 0) |>.put (some 6) (.func (.func gf) #[] lb)).tmps.setIfInBounds 7 u).size=13:=by simp[bD,hsz]
  generalize hb:({ tmps:=((a.put (some 2) (Value.pointer (some ⟨w0.heap.size,0,none⟩))).put (some 4) (.slice none 0 0) |>.put (some 6) (.func (.func gf) #[] lb)).tmps.setIfInBounds 7 u,defers:=[] }:Act)=b at g2 g7 ⊢;have gs':b.tmps.size=13:=by rw[<-hb];exact gs
  clear hb gs;refine wpIn_region_lit ?_;refine cK (ro:=some l) rfl (nd rfl) (mO (v:=u) g7) (wpListIn_nil ?_);refine⟨rfl,λA₂ hI2 hby2 hu2 hk2=>?_⟩;obtain⟨v,v',B,b1,b2,b3,b4,b5,b6⟩:=aVL hne hL hI2 hx hby2 (λg hg=>⟨by have:=(hu2 g hg).1;omega,(hu2 g hg).2⟩);refine wpIn_block (wpIn_region_lit ?_);refine cK (ro:=some l) rfl (nd rfl) (qO u25 rfl (by simp[bE,gs',g2]) (Fh b1)) ?_;refine cK (ro:=some l) rfl (nd rfl) (kF (v:=u) (by simp[bE,bD,gs'])) ?_;refine cK (ro:=some l) rfl (nd rfl) (aB3 aTm (by simp[bE,bD,gs']) hby2.one) ?_;refine cK (ro:=some l) rfl (nd rfl) (aRZ (v:=v) (u:=.slice (some ⟨A₂.heap.size,0,none⟩) 1 1) (by simp[bE,bD,gs']) (by simp[bE,bD,gs']) b2) ?_;refine aUQ (ro:=some l) rfl (nd rfl) (aRT (b:=w0.heap.size) (i:=0) (v:=v') i25 (by simp[bE,bD,gs',g2]) (by simp[bE,bD,gs']) b4 (aW2 b3)) (wpListIn_nil ?_);exact⟨rfl,b5,b6⟩
 .intro D A hD hDX hk hI hda
  obtain⟨v,us,h1,h2⟩:=hI;have hA:bB w0 A:=Kz.old hA1 hk λj hj=>by have:=hX0 j hj;omega
  refine wpIn_seq (wpIn_region_lit ?_);refine cK rfl (nd rfl) (qO u25 rfl (by rw[C9];simp[bE,bD,hsz]) (Fh h1)) ?_;refine cK rfl (nd rfl) (mO (v:=v) (by rw[bE (by simp[bD,hsz])];simp)) (wpListIn_nil ?_);refine wpIn_ret ?_;show LeavesInM Fence.wide 9 Tryz.prog Tryz.f57 _ _ ({ target:=.collected D,args:=#[] }::_) .returning A;refine⟨(by intro h;cases h),.inl ⟨D,_,rfl,run_takeDeferred hda,?_⟩⟩;rw[put_defers,put_defers,put_defers,hd0];refine⟨_,results_tmp (t:=4) (show Tryz.f57.results = #[.tmp 4]by kernel_rfl) _ _ _,v,us,aO Ending.returned ?_,(h2.down (by omega)).cS hne λg o hg ho hc=>?_,?_⟩
  .have:=bE (a:=({ tmps:=(((a.put (some 2) (Value.pointer (some ⟨w0.heap.size,0,none⟩))).put (some 4) (.slice none 0 0)).put (some 6) (.func (.func gf) #[] lb)).tmps,defers:=[] }:Act).put (some 12) v) (t:=4) (t':=4) (v:=v) (by simp[bD,hsz])
   simpa[Act.eval,Act.put]using this
  .refine World.putObj_heap_other λe=>?_
   subst e;rw[hda]at ho;cases ho;cases hc
  .exact⟨hA.os,hA.tape,hA.output,by rw[World.putObj_size];exact hA.size,λj hj=>(World.putObj_heap_other (by omega)).trans (hA.block j hj)⟩
end Go.It
/- The codes of a line, given one by one: the parts. -/
namespace Go.Proofs
open Go Go.Ax Go.Ax.aA
theorem uX(s:List UInt8):(cL s).length<=s.length:=(aXW _).length_le
theorem UO(N:Nat)(k0:List UInt8->O)(k1 k2:Unit->O):∀(f:Nat)(s:List UInt8),s.length<f->s.length<=100000->rQ N f (s,32) k0 k1 k2=k0 (cL s)
 |0,s,h,_=>by omega
 |f+1,s,h,hl=>by
   show Aq N _ _ 32 s=_;unfold Aq
   match s with
   |[]=>rfl
   |c::t=>
     have hlen:((c::t).length:Int)=(t.length:Int)+1:=by simp
     have h1:(c::t).length=t.length+1:=rfl;rw[hlen,aL (show(0:Int)<(t.length:Int)+1 by omega),vM,tI,lM];unfold cL;rw[Cn];by_cases hc:c=32
     .have hsl:cA (c::t) (some (1:Int)) none=t:=rfl
      rw[aL hc,bJ,aP (show dJ (c::t).length (some (1:Int)) none=true from aL ⟨by omega,by rw[h1];omega⟩),hsl,aE (by simpa using hc)];exact UO N k0 k1 k2 f t (by omega) (by omega)
     .rw[aZ hc,bL,aC (by simpa using hc)]
theorem aEr{N:Nat}{s:List UInt8}(h:s.length<N)(hl:s.length<=100000):MY N s [32]=some (cL s):=by
 unfold MY M1 M0;by_cases h0:s=[]
 .subst h0
  rfl
 .have h93:wE N s 32=some (cL s):=by
   unfold wE MX MW MV;exact aO (λz:O=>z.bind GS) (UO N (λy=>some (uB y)) (λ_=>none) (λ_=>none) N s h hl)
  have hp:Cs N s 32=true:=by unfold Cs;rw[h93];rfl
  have hy:wF N s 32=cL s:=by unfold wF;rw[h93];rfl
  rw[aZ h0];show(gx [32] 0 λy1=>ck (Cs N s y1) <|some (Ar (wF N s y1))).bind GW=_;rw[tI,aP hp,hy];rfl
end Go.Proofs
namespace Go.It
open Go Go.RowKit Go.Ab Go.Ax Go.Proofs
theorem aVn (vs : Array Value) (w : World) : (callFunc 79 vs).run Tryz.prog w = .ok (.enter 79 vs) w := o9 Tryz.func79 (by rw [show Tryz.f79.name = "strings.TrimLeft" from rfl]; decide) (fun h => by cases h) vs w
theorem aVm (vs : Array Value) (w : World) : (callFunc 80 vs).run Tryz.prog w = .ok (.enter 80 vs) w := o9 Tryz.func80 (by rw [show Tryz.f80.name = "strconv.Itoa" from rfl]; decide) (fun h => by cases h) vs w
theorem aCv (vs : Array Value) (w : World) : (callFunc 36 vs).run Tryz.prog w = .ok (.enter 36 vs) w := o9 Tryz.func36 (by rw [show Tryz.f36.name = "dactyl/listing.codes" from rfl]; decide) (fun h => by cases h) vs w
theorem Se (vs : Array Value) (w : World) : (callFunc 58 vs).run Tryz.prog w = .ok (.enter 58 vs) w := o9 Tryz.func58 (by rw [show Tryz.f58.name = "dactyl/listing.codes$1" from rfl]; decide) (fun h => by cases h) vs w
theorem aQL{W:World}(hT:hM W λ_=>False){s:List UInt8}(hs:s.length<=20000):
    Calls Tryz.prog 79 #[.string ⟨⟨s⟩⟩,.string ⟨⟨[32]⟩⟩] W λe W'=>e = .returned (.string ⟨⟨cL s⟩⟩)/\bB W W':=by
 refine(TC (ds:=[.string ⟨⟨s⟩⟩,.string ⟨⟨[32]⟩⟩]) (aEo (aEq 40000) (aEr (by omega) (by omega))) hT (by simp[Value.oneCell'])).mono ?_;rintro e W' ⟨v,ν,nm,G,rfl,hA,hd,hG⟩;have:=bY hd;subst this;exact⟨rfl,hA⟩
section
variable{ro:Option Nat}{n:Nat}{P:Program}{ops:Array Oper}{rest:List Oper}{o:Oper}{a:Act}{w w':World}{Q:Exit->Act->World->Prop}
theorem aUR(hw:Region.wanted o (yielded ops a.tmps)=false)(h:wpListIn (Fr ro) n P ops Q rest (a.put o.dst undef) w):wpListIn (Fr ro) n P ops Q (o::rest) a w:=by
 simp only[wpListIn,hw];exact⟨λ_ _=>trivial,h⟩
theorem L1(hw:Region.wanted o (yielded ops a.tmps)=true)(h:wpListIn (Fr ro) n P ops Q ({ o with guard:=none }::rest) a w):wpListIn (Fr ro) n P ops Q (o::rest) a w:=by
 have hw2:Region.wanted { o with guard:=none } (yielded ops a.tmps)=true:=rfl;simp only[wpListIn,hw2,fH]at h;simp only[wpListIn,hw,fH];exact h
end
theorem GH{o:Oper}{ops:Array Oper}{a:Act}{j t:Nat}{b c:Bool}(hg:o.guard=some (j,c))(h1:(ops[j]?).bind (·.dst)=some t)(h2:a.eval (.tmp t) = .bool b)(h3:t<a.tmps.size):Region.wanted o (yielded ops a.tmps)=(b == c):=by
 have h4:a.tmps[t]?=some (.bool b):=by
  have h2:a.tmps.getD t undef = .bool b:=h2;rw[Ak,iM h3]at h2;rw[iM h3];exact aO some h2
 unfold Region.wanted;rw[hg];show(yielded ops a.tmps j == some c)=_;unfold yielded;rw[h1];show((match(a.tmps[t]?:Option Value)with|some (.bool b)=>some b|_=>none) == some c)=_;rw[h4];cases b <;> cases c <;> rfl
section
variable{ρ:Operand->Value}{P:Program}{W:World}{d:Option Tmp}{t:TypeId}{ps:String}{af:Array Edge}{g:Option (Nat×Bool)}
theorem aRU{f:FuncId}{x:Operand}{v:Value}(h:ρ x=v):(execOp ρ ⟨d,.makeFunc (.func f) #[] #[x],t,ps,af,g⟩).run P W = .ok (.value (.func (.func f) #[] #[v])) W:=by
 subst h;unfold execOp;simp[Instr.makeFunc]
theorem aRY{x y:Operand}{ty ty':TypeId}{a b:List UInt8}(_hu:P.underlying ty=some .string)(h:ρ x = .string ⟨⟨a⟩⟩)(h':ρ y = .string ⟨⟨b⟩⟩):(execOp ρ ⟨d,.binOp .eql ty x y ty',t,ps,af,g⟩).run P W = .ok (.value (.bool (decide (a=b)))) W:=by
 unfold execOp;simp[h,h',eqGuard,binOp,Op.stringOp];by_cases e:a=b <;> simp[e]
theorem aB2{x y z:Operand}{b:Bool}{u v:Value}(h:ρ x = .bool b)(h':ρ y=u)(h'':ρ z=v):(execOp ρ ⟨d,.pick x y z,t,ps,af,g⟩).run P W = .ok (.value (if b then u else v)) W:=by
 subst h' h'';unfold execOp;simp[h];cases b <;> rfl
end
abbrev aTX : Oper := { dst := some 1, op := Op.box 9 (Operand.tmp 0), type := 0, pos := "listing.go:41", after := #[], guard := none }
abbrev aTW : Oper := { dst := some 2, op := Op.assign (Operand.const Value.nilFunc), type := 63, pos := "listing.go:41", after := #[], guard := none }
abbrev aTV : Oper := { dst := some 3, op := Op.makeFunc (Fn.func 58) #[] #[Operand.tmp 1], type := 62, pos := "listing.go:42", after := #[], guard := none }
abbrev aTU : Oper := { dst := some 2, op := Op.assign (Operand.tmp 3), type := 63, pos := "listing.go:42", after := #[{ on := 0, ground := Ground.data }, { on := 0, ground := Ground.phase }], guard := none }
theorem aWb:Tryz.f36.body=some (Code.seq (Code.region 0 [aTX,aTW].toArray false) (Code.seq (Code.region 1 [aTV,aTU].toArray false) Code.ret)):=by kernel_rfl
abbrev aSm : Oper := { dst := some 2, op := Op.box 57 (Operand.tmp 0), type := 0, pos := "listing.go:110", after := #[], guard := none }
abbrev aSl : Oper := { dst := some 7, op := Op.load 9 (Operand.tmp 1), type := 9, pos := "listing.go:111", after := #[], guard := none }
abbrev aSk : Oper := { dst := some 8, op := Op.call { callee := Callee.value (Operand.func 79), args := #[Operand.tmp 7, Operand.const (Value.string { data := #[32] })], argTypes := #[9, 9] }, type := 9, pos := "listing.go:111", after := #[{ on := 0, ground := Ground.data }], guard := none }
abbrev aSj : Oper := { dst := some 3, op := Op.assign (Operand.tmp 8), type := 9, pos := "listing.go:111", after := #[{ on := 1, ground := Ground.data }, { on := 1, ground := Ground.chain }, { on := 0, ground := Ground.phase }, { on := 1, ground := Ground.phase }], guard := none }
abbrev aSi : Oper := { dst := some 9, op := Op.load 9 (Operand.tmp 1), type := 9, pos := "listing.go:112", after := #[], guard := none }
abbrev aSh : Oper := { dst := some 10, op := Op.call { callee := Callee.builtin Builtin.len, args := #[Operand.tmp 9], argTypes := #[9] }, type := 3, pos := "listing.go:112", after := #[{ on := 0, ground := Ground.data }], guard := none }
abbrev aSg : Oper := { dst := some 11, op := Op.move (Operand.tmp 3), type := 9, pos := "listing.go:112", after := #[], guard := none }
abbrev aSf : Oper := { dst := some 12, op := Op.call { callee := Callee.builtin Builtin.len, args := #[Operand.tmp 11], argTypes := #[9] }, type := 3, pos := "listing.go:112", after := #[{ on := 2, ground := Ground.data }], guard := none }
abbrev aSe : Oper := { dst := some 13, op := Op.binOp BinOp.sub 3 (Operand.tmp 10) (Operand.tmp 12) 3, type := 3, pos := "listing.go:112", after := #[{ on := 1, ground := Ground.data }, { on := 3, ground := Ground.data }], guard := none }
abbrev aSd : Oper := { dst := some 14, op := Op.call { callee := Callee.value (Operand.func 80), args := #[Operand.tmp 13], argTypes := #[3] }, type := 9, pos := "listing.go:112", after := #[{ on := 4, ground := Ground.data }], guard := none }
abbrev aSc : Oper := { dst := some 15, op := Op.call { callee := Callee.value (Operand.func 36), args := #[Operand.tmp 14], argTypes := #[9] }, type := 63, pos := "listing.go:112", after := #[{ on := 5, ground := Ground.data }, { on := 5, ground := Ground.chain }], guard := none }
abbrev aSb : Oper := { dst := some 4, op := Op.assign (Operand.tmp 15), type := 63, pos := "listing.go:112", after := #[{ on := 6, ground := Ground.data }, { on := 6, ground := Ground.chain }, { on := 0, ground := Ground.phase }, { on := 1, ground := Ground.phase }, { on := 2, ground := Ground.phase }, { on := 3, ground := Ground.phase }, { on := 4, ground := Ground.phase }, { on := 5, ground := Ground.phase }, { on := 6, ground := Ground.phase }], guard := none }
abbrev aSa : Oper := { dst := some 16, op := Op.move (Operand.tmp 4), type := 63, pos := "listing.go:113", after := #[], guard := none }
abbrev aBq : Oper := { dst := some 5, op := Op.assign (Operand.tmp 17), type := 23, pos := "listing.go:113", after := #[], guard := none }
abbrev R2 : Oper := { dst := some 18, op := Op.load 57 (Operand.tmp 2), type := 57, pos := "listing.go:114", after := #[], guard := none }
abbrev R1 : Oper := { dst := some 19, op := Op.move (Operand.tmp 5), type := 23, pos := "listing.go:114", after := #[], guard := none }
abbrev R0 : Oper := { dst := some 20, op := Op.call { callee := Callee.value (Operand.tmp 18), args := #[Operand.tmp 19], argTypes := #[23] }, type := 4, pos := "listing.go:114", after := #[{ on := 0, ground := Ground.data }, { on := 1, ground := Ground.data }], guard := none }
abbrev RZ : Oper := { dst := some 21, op := Op.unOp UnOp.not 4 (Operand.tmp 20), type := 4, pos := "listing.go:114", after := #[{ on := 2, ground := Ground.data }], guard := none }
abbrev CV : Oper := { dst := some 22, op := Op.move (Operand.tmp 3), type := 9, pos := "listing.go:118", after := #[], guard := none }
abbrev CU : Oper := { dst := some 23, op := Op.binOp BinOp.eql 9 (Operand.tmp 22) (Operand.const (Value.string { data := #[] })) 9, type := 4, pos := "listing.go:118", after := #[{ on := 0, ground := Ground.data }], guard := none }
abbrev CT : Oper := { dst := some 24, op := Op.move (Operand.tmp 23), type := 4, pos := "listing.go:118", after := #[{ on := 1, ground := Ground.data }], guard := none }
abbrev AK : Oper := { dst := some 25, op := Op.load 57 (Operand.tmp 2), type := 57, pos := "listing.go:118", after := #[{ on := 2, ground := Ground.guard }], guard := some (2, false) }
abbrev AJ : Oper := { dst := some 26, op := Op.buildSlice 23 1 #[(0, Operand.const (Value.int IntKind.u8 0))], type := 23, pos := "listing.go:118", after := #[{ on := 2, ground := Ground.guard }], guard := some (2, false) }
abbrev AI : Oper := { dst := some 27, op := Op.call { callee := Callee.value (Operand.tmp 25), args := #[Operand.tmp 26], argTypes := #[23] }, type := 4, pos := "listing.go:118", after := #[{ on := 3, ground := Ground.data }, { on := 4, ground := Ground.data }, { on := 2, ground := Ground.chain }, { on := 2, ground := Ground.guard }], guard := some (2, false) }
abbrev AH : Oper := { dst := some 28, op := Op.unOp UnOp.not 4 (Operand.tmp 27), type := 4, pos := "listing.go:118", after := #[{ on := 5, ground := Ground.data }, { on := 2, ground := Ground.guard }], guard := some (2, false) }
abbrev CS : Oper := { dst := some 29, op := Op.pick (Operand.tmp 24) (Operand.const (Value.bool true)) (Operand.tmp 28), type := 4, pos := "listing.go:118", after := #[{ on := 2, ground := Ground.data }, { on := 6, ground := Ground.data }], guard := none }
abbrev RY : Oper := { dst := some 30, op := Op.move (Operand.tmp 3), type := 9, pos := "listing.go:121", after := #[], guard := none }
abbrev RX : Oper := { dst := some 31, op := Op.call { callee := Callee.value (Operand.func 36), args := #[Operand.tmp 30], argTypes := #[9] }, type := 63, pos := "listing.go:121", after := #[{ on := 0, ground := Ground.data }], guard := none }
abbrev LG : Oper := { dst := some 6, op := Op.assign (Operand.tmp 32), type := 23, pos := "listing.go:121", after := #[], guard := none }
abbrev FG : Oper := { dst := some 33, op := Op.load 57 (Operand.tmp 2), type := 57, pos := "listing.go:122", after := #[], guard := none }
abbrev FF : Oper := { dst := some 34, op := Op.move (Operand.tmp 6), type := 23, pos := "listing.go:122", after := #[], guard := none }
abbrev FE : Oper := { dst := some 35, op := Op.call { callee := Callee.value (Operand.tmp 33), args := #[Operand.tmp 34], argTypes := #[23] }, type := 4, pos := "listing.go:122", after := #[{ on := 0, ground := Ground.data }, { on := 1, ground := Ground.data }], guard := none }
abbrev FD : Oper := { dst := some 36, op := Op.unOp UnOp.not 4 (Operand.tmp 35), type := 4, pos := "listing.go:122", after := #[{ on := 2, ground := Ground.data }], guard := none }
theorem aW8:Tryz.f78.body=some (Code.seq (Code.region 0 [aSm].toArray false) (Code.seq (Code.region 1 [aSl,aSk,aSj].toArray false) (Code.seq (Code.region 2 [aSi,aSh,aSg,aSf,aSe,aSd,aSc,aSb].toArray false) (Code.seq (Code.seq (Code.region 3 [aSa].toArray false) (Code.block 0 (Code.rangeFunc (Operand.tmp 16) #[17] (Code.region 4 [aBq].toArray false) (Code.block 1 (Code.seq (Code.region 5 [R2,R1,R0,RZ].toArray false) (Code.cond (Operand.tmp 21) Code.ret Code.skip)))))) (Code.seq (Code.seq (Code.region 6 [CV,CU,CT,AK,AJ,AI,AH,CS].toArray false) (Code.cond (Operand.tmp 29) Code.ret Code.skip)) (Code.seq (Code.region 7 [RY,RX].toArray false) (Code.block 2 (Code.rangeFunc (Operand.tmp 31) #[32] (Code.region 8 [LG].toArray false) (Code.block 3 (Code.seq (Code.region 9 [FG,FF,FE,FD].toArray false) (Code.cond (Operand.tmp 36) Code.ret Code.skip))))))))))):=by kernel_rfl
theorem aDH{W:World}(s:List UInt8):Calls Tryz.prog 36 #[.string ⟨⟨s⟩⟩] W λe W'=>e = .returned (.func (.func 58) #[] #[.pointer (some ⟨W.heap.size,0,none⟩)])/\W'=W.alloc (.cells #[.string ⟨⟨s⟩⟩] 9):=by
 have hm:Tryz.f36.ntmps=4:=by kernel_rfl
 refine callsIn_wide.1 (callsIn_of_wp_marks (F:=Fence.wide) (n:=9) Tryz.func36 aWb trivial ?_);have hsz:=Fl (vs:=#[Value.string ⟨⟨s⟩⟩]) (ds:=[]) hm (by simp);have e0:=vV (vs:=#[Value.string ⟨⟨s⟩⟩]) (n:=Tryz.f36.ntmps) (ds:=[]) (t:=0) (v:=.string ⟨⟨s⟩⟩) (by simp);generalize ha:({ tmps:=#[Value.string ⟨⟨s⟩⟩]++k4 (Tryz.f36.ntmps - #[Value.string ⟨⟨s⟩⟩].size) undef,defers:=[] }:Act)=a at hsz e0 ⊢;have hd0:a.defers=[]:=by rw[<-ha]
 clear ha;refine wpIn_seq (wpIn_region_lit ?_);refine cK rfl (nd rfl) (RL e0) ?_;refine cK rfl (nd rfl) (mO (v:=.nilFunc) (oD _ _)) (wpListIn_nil ?_);refine wpIn_seq (wpIn_region_lit ?_);refine cK rfl (nd rfl) (aRU (v:=.pointer (some ⟨W.heap.size,0,none⟩)) (by simp[bE,bD,hsz])) ?_;refine cK rfl (nd rfl) (mO (v:=.func (.func 58) #[] #[.pointer (some ⟨W.heap.size,0,none⟩)]) (by simp[bE,bD,hsz])) (wpListIn_nil ?_);refine wpIn_ret ?_;show LeavesInM Fence.wide 9 Tryz.prog Tryz.f36 _ _ (Act.put _ _ _).defers .returning _;rw[put_defers,put_defers,put_defers,put_defers,hd0];refine⟨_,results_tmp (t:=2) (show Tryz.f36.results = #[.tmp 2]by kernel_rfl) _ _ _,aO Ending.returned ?_,rfl⟩;have:=bE (a:=((a.put (some 1) (Value.pointer (some ⟨W.heap.size,0,none⟩))).put (some 2) .nilFunc).put (some 3) (.func (.func 58) #[] #[.pointer (some ⟨W.heap.size,0,none⟩)])) (t:=2) (t':=2) (v:=.func (.func 58) #[] #[.pointer (some ⟨W.heap.size,0,none⟩)]) (by simp[bD,hsz]);simpa[Act.eval,Act.put]using this
end Go.It
