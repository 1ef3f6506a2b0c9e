/- What functions do: values, texts. Conditions are in the theorems. -/
import Derived.Test.YtlhdefefoaldfaaGreatDoorE7
import Derived.Test.YtlhdefefoaldfaaGreatDoorProg
import Derived.KernelRfl
import Derived.Test.YtlhdefefoaldfaaGreatDoorF0
import Derived.Test.YtlhdefefoaldfaaGreatDoorF1
open And renaming intro->aH
open Go.IntKind renaming i64->aB
/- What functions do. -/
namespace Go.Proofs
noncomputable section
open Go.Ax Go.Ax.aA Go.RowKit Go.Ab
open Go
abbrev rZ:=List UInt8
abbrev OV:List UInt8:=[(82:UInt8),(40:UInt8)]
def mV(a0:rZ):aC:=(.own 100,[(100,.row 5 .u8 a0 true)])
def KZ(xs:List X)(H:XH):Option (Int×Int×(List Ex)×Int×rZ):=match xs,H with
 |[.own 50,.agg [x0,x1,x2],x3],[(50,x4)]=>(match ue (.i .i64) x0,ue (.i .i64) x1,ue (.sl .ex) x2,ue (.i .i64) x3,ur 5 .u8 true x4 with|some a0,some a1,some a2,some a3,some a4=>some (a0,a1,a2,a3,a4)|_,_,_,_,_=>none)
 |_,_=>none
theorem aAz{xs H d}(h:KZ xs H=some d):xs=[.own 50,.agg [.e (.i .i64) d.1,.e (.i .i64) d.2.1,.e (.sl .ex) d.2.2.1],.e (.i .i64) d.2.2.2.1]/\H=[(50,.row 5 .u8 d.2.2.2.2 true)]:=by
 unfold KZ at h;split at h
 .split at h
  .rename_i h0 h1 h2 h3 h4;cases h;rw[aE h0,aE h1,aE h2,aE h3,jK h4];exact⟨rfl,rfl⟩
  .cases h
 .cases h
abbrev K3:=Nat×((Int->Int->(List Ex)->Int->rZ->Option (rZ)))
def RE(N:K3):bK:=IU 5 .u8 <|eU KZ (λd=>(N.2 d.1 d.2.1 d.2.2.1 d.2.2.2.1 d.2.2.2.2).isSome) (λd=>mV (((N.2 d.1 d.2.1 d.2.2.1 d.2.2.2.1 d.2.2.2.2).getD [])))
def F4(N:K3):Cx:=⟨Tryz.prog,25,[(61,RE N),(90,Yr N.1)],[]⟩
def aBD:Code:=Tryz.f61.body.getD .skip
theorem aPI N (hw50:aK Tryz.prog 61 (RE N)):aD (F4 N):=bZ (by kernel_rfl) (.cons (by kernel_rfl) hw50 (.cons (by kernel_rfl) (aLI N.1) .nil)) .nil
def K4[aA](N:K3)(e1_0 e1_1:Int)(e1_2:(List Ex))(level2:Int)(g0:rZ):O:=
 gx [((0:Int),(999999:Int),(4:Int),(0:UInt8)),((0:Int),(25:Int),(4:Int),(0:UInt8)),((1:Int),(0:Int),(3:Int),(45:UInt8)),((2:Int),(0:Int),(1:Int),(43:UInt8)),((2:Int),(0:Int),(1:Int),(45:UInt8)),((2:Int),(0:Int),(2:Int),(42:UInt8)),((2:Int),(0:Int),(2:Int),(47:UInt8)),((2:Int),(0:Int),(3:Int),(94:UInt8)),((1:Int),(0:Int),(4:Int),(82:UInt8)),((2:Int),(0:Int),(0:Int),(61:UInt8)),((2:Int),(0:Int),(0:Int),(60:UInt8))] e1_0 λy0=>
 br (decide (y0.2.2.1<level2))
  (ck (cZ (g0++[(40:UInt8)]).length (1:Nat))<|
  ck ((N.2 e1_0 e1_1 e1_2 (0:Int) (g0++[(40:UInt8)])).isSome)<|
  ck (cZ ((N.2 e1_0 e1_1 e1_2 (0:Int) (g0++[(40:UInt8)])).getD []++[(41:UInt8)]).length (1:Nat))<|
  some (mV ((N.2 e1_0 e1_1 e1_2 (0:Int) (g0++[(40:UInt8)])).getD []++[(41:UInt8)])))
  (br (decide (e1_0=0))
   (ck (JG N.1 e1_1 (10:Int) g0)<|
   some (mV (JD N.1 e1_1 (10:Int) g0)))
   (br (decide (e1_0=1))
    (ck (cZ (g0++[dV (aB.wrap ((97:Int)+e1_1))]).length (1:Nat))<|
    some (mV (g0++[dV (aB.wrap ((97:Int)+e1_1))])))
    (br (decide (e1_0=2))
     (ck (cZ (g0++[(45:UInt8)]).length (1:Nat))<|
     gx e1_2 0 λy1=>
     ck ((N.2 y1.op y1.num y1.kids (3:Int) (g0++[(45:UInt8)])).isSome)<|
     some (mV ((N.2 y1.op y1.num y1.kids (3:Int) (g0++[(45:UInt8)])).getD [])))
     (br (decide (e1_0=8))
      (ck (cZ (g0++OV).length (1:Nat))<|
      gx e1_2 0 λy2=>
      ck ((N.2 y2.op y2.num y2.kids (1:Int) (g0++OV)).isSome)<|
      ck (cZ ((N.2 y2.op y2.num y2.kids (1:Int) (g0++OV)).getD []++[(41:UInt8)]).length (1:Nat))<|
      some (mV ((N.2 y2.op y2.num y2.kids (1:Int) (g0++OV)).getD []++[(41:UInt8)])))
      (br (decide (e1_0=7))
       (gx e1_2 0 λy3=>
       ck ((N.2 y3.op y3.num y3.kids (4:Int) g0).isSome)<|
       ck (cZ ((N.2 y3.op y3.num y3.kids (4:Int) g0).getD []++[(94:UInt8)]).length (1:Nat))<|
       gx e1_2 1 λy4=>
       ck ((N.2 y4.op y4.num y4.kids (3:Int) ((N.2 y3.op y3.num y3.kids (4:Int) g0).getD []++[(94:UInt8)])).isSome)<|
       some (mV ((N.2 y4.op y4.num y4.kids (3:Int) ((N.2 y3.op y3.num y3.kids (4:Int) g0).getD []++[(94:UInt8)])).getD [])))
       (gx e1_2 0 λy5=>
       ck ((N.2 y5.op y5.num y5.kids (max (1:Int) y0.2.2.1) g0).isSome)<|
       ck (cZ ((N.2 y5.op y5.num y5.kids (max (1:Int) y0.2.2.1) g0).getD []++[y0.2.2.2]).length (1:Nat))<|
       gx e1_2 1 λy6=>
       ck ((N.2 y6.op y6.num y6.kids (aB.wrap (y0.2.2.1+1)) ((N.2 y5.op y5.num y5.kids (max (1:Int) y0.2.2.1) g0).getD []++[y0.2.2.2])).isSome)<|
       some (mV ((N.2 y6.op y6.num y6.kids (aB.wrap (y0.2.2.1+1)) ((N.2 y5.op y5.num y5.kids (max (1:Int) y0.2.2.1) g0).getD []++[y0.2.2.2])).getD []))))))))
def w61[aA] N e1_0 e1_1 e1_2 level2 g0:=K4 N e1_0 e1_1 e1_2 level2 g0
def aBA[aA](_:K3):Hint:=(.seq .d (.seq .d (.seq (.seq .d (.cond (.seq (.gO [] [] [[],[],[212,50],[],[228,212],[],[244,228],[]]) .d) .d)) (.seq (.seq .d (.block (.seq .d (.cond .d (.seq .d (.cond .d (.seq .d (.cond (.seq (.gO [] [] [[],[],[276,50],[],[],[],[],[316,276],[]]) .d) (.seq .d (.cond (.seq (.gO [] [] [[],[],[292,50],[],[],[],[],[332,292],[],[348,332],[]]) .d) (.seq .d (.cond (.seq (.gO [] [] [[],[],[],[],[],[332,50],[],[348,332],[],[],[],[],[388,348],[]]) .d) .d)))))))))))) (.seq (.gO [] [] [[],[],[],[],[],[],[],[],[356,50],[],[],[],[388,356],[],[],[],[],[],[],[],[452,388],[]]) .d)))))
theorem aPG N:bJ (F4 N) Tryz.f61.ntmps (aBA N) aBD:=bR _ _ (aH trivial (aH trivial (aH (aH trivial (aH (aH trivial trivial) trivial)) (aH (aH trivial (aH trivial (aH trivial (aH trivial (aH trivial (aH trivial (aH (aH trivial trivial) (aH trivial (aH (aH trivial trivial) (aH trivial (aH (aH trivial trivial) trivial))))))))))) (aH trivial trivial)))))
theorem aPE[aA] N e1_0 e1_1 e1_2 level2 g0:K4 N e1_0 e1_1 e1_2 level2 g0=exec (F4 N) Tryz.f61.ntmps (aBA N) aBD ⟨bW 0 [.own 50,.agg [.e (.i .i64) e1_0,.e (.i .i64) e1_1,.e (.sl .ex) e1_2],.e (.i .i64) level2],[(50,.row 5 .u8 g0 true)],100⟩ (bX (F4 N) Tryz.f61 true):=by kernel_rfl
def F3(r:aC):Option (rZ):=match r with
 |(.own 100,[(100,x0)])=>(match ur 5 .u8 true x0 with|some a0=>some a0|_=>none)
 |_=>none
theorem aPD{r d}(h:F3 r=some d):r=mV (d):=by
 unfold F3 at h;split at h
 .split at h
  .rename_i h0;cases h;rw[jK h0];rfl
  .cases h
 .cases h
def RD N e1_0 e1_1 e1_2 level2 g0:=(w61 N e1_0 e1_1 e1_2 level2 g0).bind F3
theorem aPH{N}(hc:aD (F4 N)){e1_0 e1_1 e1_2 level2 g0 d}(hd:RD N e1_0 e1_1 e1_2 level2 g0=some d):cB Tryz.prog 61 [.own 50,.agg [.e (.i .i64) e1_0,.e (.i .i64) e1_1,.e (.sl .ex) e1_2],.e (.i .i64) level2] [(50,.row 5 .u8 g0 true)] (mV (d)):=
 cD hc (by kernel_rfl) (by kernel_rfl) (aPG N) (by kernel_rfl) aPD (aPE N e1_0 e1_1 e1_2 level2 g0).symm.trans hd
def l6(N:Nat):Nat->(Int->Int->(List Ex)->Int->rZ->Option (rZ))
 |0=>λ_ _ _ _ _=>none
 |n+1=>λe1_0 e1_1 e1_2 level2 g0=>RD (N,l6 N n) e1_0 e1_1 e1_2 level2 g0
theorem aBB(N:Nat):∀n,aK Tryz.prog 61 (RE (N,l6 N n))
 |0=>Xs <|eH aAz (λ_ h=>by cases h)
 |n+1=>
   have ih:=aBB N n
   Xs <|eH aAz (λd h=>oV (zz:=RD (N,l6 N n) d.1 d.2.1 d.2.2.1 d.2.2.2.1 d.2.2.2.2) (R:=λy=>mV (y)) (d0:=[]) (λ_ hy=>aPH (aPI (N,l6 N n) ih) hy) h)
def KY N e1_0 e1_1 e1_2 level2 g0:=((l6 N N) e1_0 e1_1 e1_2 level2 g0).isSome
def KX N e1_0 e1_1 e1_2 level2 g0:=(((l6 N N) e1_0 e1_1 e1_2 level2 g0).getD [])
def aBC(N:Nat):bK:=IU 5 .u8 <|eU KZ (λd=>KY N d.1 d.2.1 d.2.2.1 d.2.2.2.1 d.2.2.2.2) (λd=>mV (KX N d.1 d.2.1 d.2.2.1 d.2.2.2.1 d.2.2.2.2))
theorem aPF N:aK Tryz.prog 61 (aBC N):=aBB N N
def GF(a0:rZ):aC:=(.e .tx a0,[])
def GH(N:Nat):Cx:=⟨Tryz.prog,25,[(29,GM N),(61,aBC N)],[]⟩
def aDV:Code:=Tryz.f35.body.getD .skip
theorem aTj N:aD (GH N):=bZ (by kernel_rfl) (.cons (by kernel_rfl) (MW N) (.cons (by kernel_rfl) (aPF N) .nil)) .nil
def MP[aA](N:Nat)(A B:Int)(C:(List Ex)):O:=
 ck (tD N A B C)<|
 br (decide (pN N A B C≠(0:Int)))
  (some (GF []))
  (ck (KY N A B C (0:Int) [])<|
  some (GF (KX N A B C (0:Int) [])))
def w35[aA] N A B C:=MP N A B C
def aDU[aA](_:Nat):Hint:=.d
theorem aTh N:bJ (GH N) Tryz.f35.ntmps (aDU N) aDV:=bR _ _ trivial
theorem aTg[aA] N A B C:MP N A B C=exec (GH N) Tryz.f35.ntmps (aDU N) aDV ⟨bW 0 [.agg [.e (.i .i64) A,.e (.i .i64) B,.e (.sl .ex) C]],[],100⟩ (bX (GH N) Tryz.f35 false):=by kernel_rfl
def MO(r:aC):Option (rZ):=match r with
 |(x0,[])=>(match ue .tx x0 with|some a0=>some a0|_=>none)
 |_=>none
theorem aTf{r d}(h:MO r=some d):r=GF (d):=by
 unfold MO at h;split at h
 .split at h
  .rename_i h0;cases h;rw[aE h0];rfl
  .cases h
 .cases h
def MN N A B C:=(w35 N A B C).bind MO
theorem aTi{N}(hc:aD (GH N)){A B C d}(hd:MN N A B C=some d):cB Tryz.prog 35 [.agg [.e (.i .i64) A,.e (.i .i64) B,.e (.sl .ex) C]] [] (GF (d)):=
 cD hc (by kernel_rfl) (by kernel_rfl) (aTh N) (by kernel_rfl) aTf (aTg N A B C).symm.trans hd
def GG N A B C:=(MN N A B C).isSome
def AR N A B C:=((MN N A B C).getD [])
def Sl(N:Nat):bK:=E1 .ex (λx0=>(GG N (Ex.op x0) (Ex.num x0) (Ex.kids x0),GF (AR N (Ex.op x0) (Ex.num x0) (Ex.kids x0))))
theorem aDT N:aK Tryz.prog 35 (Sl N):=aK.e1 (λ_ h=>cV h (aTi (aTj N)) rfl)
abbrev a4y:=Nat×(((List Ex)->(List Ex)->Option (Bool))×(Int->Int->(List Ex)->Int->Int->(List Ex)->Option (Bool)))
end
end Go.Proofs
