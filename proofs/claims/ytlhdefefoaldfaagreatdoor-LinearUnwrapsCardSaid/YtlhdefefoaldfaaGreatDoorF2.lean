/- What functions do: values, texts. Conditions are in the theorems. -/
import Derived.Test.YtlhdefefoaldfaaGreatDoorE7
import Derived.Test.YtlhdefefoaldfaaGreatDoorProg
import Derived.KernelRfl
import Derived.Test.YtlhdefefoaldfaaGreatDoorF0
import Derived.Test.YtlhdefefoaldfaaGreatDoorF1
open And renaming intro->aG
open Go.IntKind renaming i64->aC
/- What functions do. -/
namespace Go.Proofs
noncomputable section
open Go.Ax Go.Ax.aA Go.RowKit Go.Ab
open Go
abbrev sW:=List UInt8
abbrev RF:List UInt8:=[(82:UInt8),(40:UInt8)]
def nL(a0:sW):aE:=(.own 100,[(100,.row 5 .u8 a0 true)])
def MP(xs:List X)(H:XH):Option (Int×Int×(List Ex)×Int×sW):=match xs,H with
 |[.own 50,.agg [x0,x1,x2],x3],[(50,x4)]=>(match ue (.i .i64) x0,ue (.i .i64) x1,ue (.sl .ex) x2,ue (.i .i64) x3,ur 5 .u8 true x4 with|some a0,some a1,some a2,some a3,some a4=>some (a0,a1,a2,a3,a4)|_,_,_,_,_=>none)
 |_,_=>none
theorem aEW{xs H d}(h:MP xs H=some d):xs=[.own 50,.agg [.e (.i .i64) d.1,.e (.i .i64) d.2.1,.e (.sl .ex) d.2.2.1],.e (.i .i64) d.2.2.2.1]/\H=[(50,.row 5 .u8 d.2.2.2.2 true)]:=by
 unfold MP at h;split at h
 .split at h
  .rename_i h0 h1 h2 h3 h4;cases h;rw[aH h0,aH h1,aH h2,aH h3,jF h4];exact⟨rfl,rfl⟩
  .cases h
 .cases h
abbrev MQ:=Nat×((Int->Int->(List Ex)->Int->sW->Option (sW)))
def UQ(N:MQ):bK:=KB 5 .u8 <|fD MP (λd=>(N.2 d.1 d.2.1 d.2.2.1 d.2.2.2.1 d.2.2.2.2).isSome) (λd=>nL (((N.2 d.1 d.2.1 d.2.2.1 d.2.2.2.1 d.2.2.2.2).getD [])))
def Gs(N:MQ):Cx:=⟨Tryz.prog,25,[(61,UQ N),(90,aCF N.1)],[]⟩
def aE0:Code:=Tryz.f61.body.getD .skip
theorem aT9 N (hw50:aM Tryz.prog 61 (UQ N)):aF (Gs N):=bY (by kernel_rfl) (.cons (by kernel_rfl) hw50 (.cons (by kernel_rfl) (aPJ N.1) .nil)) .nil
def MR[aA](N:MQ)(e1_0 e1_1:Int)(e1_2:(List Ex))(level2:Int)(g0:sW):O:=
 gx [((0:Int),(999999:Int),(4:Int),(0:UInt8)),((0:Int),(25:Int),(4:Int),(0:UInt8)),((1:Int),(0:Int),(3:Int),(45:UInt8)),((2:Int),(0:Int),(1:Int),(43:UInt8)),((2:Int),(0:Int),(1:Int),(45:UInt8)),((2:Int),(0:Int),(2:Int),(42:UInt8)),((2:Int),(0:Int),(2:Int),(47:UInt8)),((2:Int),(0:Int),(3:Int),(94:UInt8)),((1:Int),(0:Int),(4:Int),(82:UInt8)),((2:Int),(0:Int),(0:Int),(61:UInt8)),((2:Int),(0:Int),(0:Int),(60:UInt8))] e1_0 λy0=>
 br (decide (y0.2.2.1<level2))
  (ck (cF (g0++[(40:UInt8)]).length (1:Nat))<|
  ck ((N.2 e1_0 e1_1 e1_2 (0:Int) (g0++[(40:UInt8)])).isSome)<|
  ck (cF ((N.2 e1_0 e1_1 e1_2 (0:Int) (g0++[(40:UInt8)])).getD []++[(41:UInt8)]).length (1:Nat))<|
  some (nL ((N.2 e1_0 e1_1 e1_2 (0:Int) (g0++[(40:UInt8)])).getD []++[(41:UInt8)])))
  (br (decide (e1_0=0))
   (ck (Km N.1 e1_1 (10:Int) g0)<|
   some (nL (Kj N.1 e1_1 (10:Int) g0)))
   (br (decide (e1_0=1))
    (ck (cF (g0++[eD (aC.wrap ((97:Int)+e1_1))]).length (1:Nat))<|
    some (nL (g0++[eD (aC.wrap ((97:Int)+e1_1))])))
    (br (decide (e1_0=2))
     (ck (cF (g0++[(45:UInt8)]).length (1:Nat))<|
     gx e1_2 0 λy1=>
     ck ((N.2 y1.op y1.num y1.kids (3:Int) (g0++[(45:UInt8)])).isSome)<|
     some (nL ((N.2 y1.op y1.num y1.kids (3:Int) (g0++[(45:UInt8)])).getD [])))
     (br (decide (e1_0=8))
      (ck (cF (g0++RF).length (1:Nat))<|
      gx e1_2 0 λy2=>
      ck ((N.2 y2.op y2.num y2.kids (1:Int) (g0++RF)).isSome)<|
      ck (cF ((N.2 y2.op y2.num y2.kids (1:Int) (g0++RF)).getD []++[(41:UInt8)]).length (1:Nat))<|
      some (nL ((N.2 y2.op y2.num y2.kids (1:Int) (g0++RF)).getD []++[(41:UInt8)])))
      (br (decide (e1_0=7))
       (gx e1_2 0 λy3=>
       ck ((N.2 y3.op y3.num y3.kids (4:Int) g0).isSome)<|
       ck (cF ((N.2 y3.op y3.num y3.kids (4:Int) g0).getD []++[(94:UInt8)]).length (1:Nat))<|
       gx e1_2 1 λy4=>
       ck ((N.2 y4.op y4.num y4.kids (3:Int) ((N.2 y3.op y3.num y3.kids (4:Int) g0).getD []++[(94:UInt8)])).isSome)<|
       some (nL ((N.2 y4.op y4.num y4.kids (3:Int) ((N.2 y3.op y3.num y3.kids (4:Int) g0).getD []++[(94:UInt8)])).getD [])))
       (gx e1_2 0 λy5=>
       ck ((N.2 y5.op y5.num y5.kids (max (1:Int) y0.2.2.1) g0).isSome)<|
       ck (cF ((N.2 y5.op y5.num y5.kids (max (1:Int) y0.2.2.1) g0).getD []++[y0.2.2.2]).length (1:Nat))<|
       gx e1_2 1 λy6=>
       ck ((N.2 y6.op y6.num y6.kids (aC.wrap (y0.2.2.1+1)) ((N.2 y5.op y5.num y5.kids (max (1:Int) y0.2.2.1) g0).getD []++[y0.2.2.2])).isSome)<|
       some (nL ((N.2 y6.op y6.num y6.kids (aC.wrap (y0.2.2.1+1)) ((N.2 y5.op y5.num y5.kids (max (1:Int) y0.2.2.1) g0).getD []++[y0.2.2.2])).getD []))))))))
def w61[aA] N e1_0 e1_1 e1_2 level2 g0:=MR N e1_0 e1_1 e1_2 level2 g0
def aEX[aA](_:MQ):Hint:=(.seq .d (.seq .d (.seq (.seq .d (.cond (.seq (.gI [] [] [[],[],[212,50],[],[228,212],[],[244,228],[]]) .d) .d)) (.seq (.seq .d (.block (.seq .d (.cond .d (.seq .d (.cond .d (.seq .d (.cond (.seq (.gI [] [] [[],[],[276,50],[],[],[],[],[316,276],[]]) .d) (.seq .d (.cond (.seq (.gI [] [] [[],[],[292,50],[],[],[],[],[332,292],[],[348,332],[]]) .d) (.seq .d (.cond (.seq (.gI [] [] [[],[],[],[],[],[332,50],[],[348,332],[],[],[],[],[388,348],[]]) .d) .d)))))))))))) (.seq (.gI [] [] [[],[],[],[],[],[],[],[],[356,50],[],[],[],[388,356],[],[],[],[],[],[],[],[452,388],[]]) .d)))))
theorem aT7 N:bJ (Gs N) Tryz.f61.ntmps (aEX N) aE0:=bO _ _ (aG trivial (aG trivial (aG (aG trivial (aG (aG trivial trivial) trivial)) (aG (aG trivial (aG trivial (aG trivial (aG trivial (aG trivial (aG trivial (aG (aG trivial trivial) (aG trivial (aG (aG trivial trivial) (aG trivial (aG (aG trivial trivial) trivial))))))))))) (aG trivial trivial)))))
theorem aT5[aA] N e1_0 e1_1 e1_2 level2 g0:MR N e1_0 e1_1 e1_2 level2 g0=exec (Gs N) Tryz.f61.ntmps (aEX N) aE0 ⟨bU 0 [.own 50,.agg [.e (.i .i64) e1_0,.e (.i .i64) e1_1,.e (.sl .ex) e1_2],.e (.i .i64) level2],[(50,.row 5 .u8 g0 true)],100⟩ (bX (Gs N) Tryz.f61 true):=by kernel_rfl
def Gr(r:aE):Option (sW):=match r with
 |(.own 100,[(100,x0)])=>(match ur 5 .u8 true x0 with|some a0=>some a0|_=>none)
 |_=>none
theorem aT4{r d}(h:Gr r=some d):r=nL (d):=by
 unfold Gr at h;split at h
 .split at h
  .rename_i h0;cases h;rw[jF h0];rfl
  .cases h
 .cases h
def UP N e1_0 e1_1 e1_2 level2 g0:=(w61 N e1_0 e1_1 e1_2 level2 g0).bind Gr
theorem aT8{N}(hc:aF (Gs N)){e1_0 e1_1 e1_2 level2 g0 d}(hd:UP N e1_0 e1_1 e1_2 level2 g0=some d):cB Tryz.prog 61 [.own 50,.agg [.e (.i .i64) e1_0,.e (.i .i64) e1_1,.e (.sl .ex) e1_2],.e (.i .i64) level2] [(50,.row 5 .u8 g0 true)] (nL (d)):=
 cD hc (by kernel_rfl) (by kernel_rfl) (aT7 N) (by kernel_rfl) aT4 (aT5 N e1_0 e1_1 e1_2 level2 g0).symm.trans hd
def mK(N:Nat):Nat->(Int->Int->(List Ex)->Int->sW->Option (sW))
 |0=>λ_ _ _ _ _=>none
 |n+1=>λe1_0 e1_1 e1_2 level2 g0=>UP (N,mK N n) e1_0 e1_1 e1_2 level2 g0
theorem aEY(N:Nat):∀n,aM Tryz.prog 61 (UQ (N,mK N n))
 |0=>aBJ <|eO aEW (λ_ h=>by cases h)
 |n+1=>
   have ih:=aEY N n
   aBJ <|eO aEW (λd h=>pM (zz:=UP (N,mK N n) d.1 d.2.1 d.2.2.1 d.2.2.2.1 d.2.2.2.2) (R:=λy=>nL (y)) (d0:=[]) (λ_ hy=>aT8 (aT9 (N,mK N n) ih) hy) h)
def MO N e1_0 e1_1 e1_2 level2 g0:=((mK N N) e1_0 e1_1 e1_2 level2 g0).isSome
def MN N e1_0 e1_1 e1_2 level2 g0:=(((mK N N) e1_0 e1_1 e1_2 level2 g0).getD [])
def aEZ(N:Nat):bK:=KB 5 .u8 <|fD MP (λd=>MO N d.1 d.2.1 d.2.2.1 d.2.2.2.1 d.2.2.2.2) (λd=>nL (MN N d.1 d.2.1 d.2.2.1 d.2.2.2.1 d.2.2.2.2))
theorem aT6 N:aM Tryz.prog 61 (aEZ N):=aEY N N
def H7(a0:sW):aE:=(.e .tx a0,[])
def H9(N:Nat):Cx:=⟨Tryz.prog,25,[(29,Hd N),(61,aEZ N)],[]⟩
def aGb:Code:=Tryz.f35.body.getD .skip
theorem aYG N:aF (H9 N):=bY (by kernel_rfl) (.cons (by kernel_rfl) (O0 N) (.cons (by kernel_rfl) (aT6 N) .nil)) .nil
def OS[aA](N:Nat)(A B:Int)(C:(List Ex)):O:=
 ck (uD N A B C)<|
 br (decide (qG N A B C≠(0:Int)))
  (some (H7 []))
  (ck (MO N A B C (0:Int) [])<|
  some (H7 (MN N A B C (0:Int) [])))
def w35[aA] N A B C:=OS N A B C
def aGa[aA](_:Nat):Hint:=.d
theorem aYE N:bJ (H9 N) Tryz.f35.ntmps (aGa N) aGb:=bO _ _ trivial
theorem aYD[aA] N A B C:OS N A B C=exec (H9 N) Tryz.f35.ntmps (aGa N) aGb ⟨bU 0 [.agg [.e (.i .i64) A,.e (.i .i64) B,.e (.sl .ex) C]],[],100⟩ (bX (H9 N) Tryz.f35 false):=by kernel_rfl
def OR(r:aE):Option (sW):=match r with
 |(x0,[])=>(match ue .tx x0 with|some a0=>some a0|_=>none)
 |_=>none
theorem aYC{r d}(h:OR r=some d):r=H7 (d):=by
 unfold OR at h;split at h
 .split at h
  .rename_i h0;cases h;rw[aH h0];rfl
  .cases h
 .cases h
def OQ N A B C:=(w35 N A B C).bind OR
theorem aYF{N}(hc:aF (H9 N)){A B C d}(hd:OQ N A B C=some d):cB Tryz.prog 35 [.agg [.e (.i .i64) A,.e (.i .i64) B,.e (.sl .ex) C]] [] (H7 (d)):=
 cD hc (by kernel_rfl) (by kernel_rfl) (aYE N) (by kernel_rfl) aYC (aYD N A B C).symm.trans hd
def H8 N A B C:=(OQ N A B C).isSome
def Az N A B C:=((OQ N A B C).getD [])
def Vj(N:Nat):bK:=E1 .ex (λx0=>(H8 N (Ex.op x0) (Ex.num x0) (Ex.kids x0),H7 (Az N (Ex.op x0) (Ex.num x0) (Ex.kids x0))))
theorem aG9 N:aM Tryz.prog 35 (Vj N):=aM.e1 (λ_ h=>cY h (aYF (aYG N)) rfl)
abbrev bAe:=Nat×(((List Ex)->(List Ex)->Option (Bool))×(Int->Int->(List Ex)->Int->Int->(List Ex)->Option (Bool)))
end
end Go.Proofs
