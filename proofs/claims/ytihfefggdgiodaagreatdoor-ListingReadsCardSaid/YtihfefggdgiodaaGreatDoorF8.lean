/- What a spoilt page is. Conditions are in the theorems. -/
import Derived.Test.YtihfefggdgiodaaGreatDoorE7
import Derived.Test.YtihfefggdgiodaaGreatDoorProg
import Derived.KernelRfl
import Derived.Test.YtihfefggdgiodaaGreatDoorG2
open And renaming intro->aK
open Go.IntKind renaming i64->aS
open List renaming take->aDr
/- What functions do. -/
namespace Go.Proofs
noncomputable section
open Go.Ax Go.Ax.aA Go.RowKit Go.Ab
open Go
def sM(a0:(List (List UInt8))):aH:=(.e (.sl (.sl .u8)) a0,[])
def Dw(N:Nat):Cx:=⟨Tryz.prog,99999,[(13,aA5 N),(14,KH N)],[]⟩
def Yn:Code:=Tryz.f25.body.getD .skip
theorem aM3 N:aJ (Dw N):=cM (by kernel_rfl) (.cons (by kernel_rfl) (aQA N) (.cons (by kernel_rfl) (Pu N) .nil)) .nil
def PG[aA](N:Nat)(p0:(List (List UInt8)))(at1 how2 by3:Int):O:=
 br (decide ((↑p0.length:Int)=(0:Int)))
  (ck (o8 N by3 (64:Int))<|
  some (sM [[nU (cG N by3 (64:Int))]]))
  (ck (o8 N at1 (↑p0.length:Int))<|
  ck (b8 ([]++p0).length (24:Nat))<|
  ck (o8 N how2 (5:Int))<|
  br (decide (cG N how2 (5:Int)=(0:Int)))
   (ck (dJ ([]++p0).length none (some (cG N at1 (↑p0.length:Int))))<|
   ck (dJ p0.length (some (aS.wrap (cG N at1 (↑p0.length:Int)+(1:Int)))) none)<|
   ck (decide (qX ([]++p0).length (some (cG N at1 (↑p0.length:Int)))-(0:Nat)<=([]++p0).length))<|
   ck (b8 (qX ([]++p0).length (some (cG N at1 (↑p0.length:Int)))-(0:Nat)+(cA p0 (some (aS.wrap (cG N at1 (↑p0.length:Int)+(1:Int)))) none).length) (24:Nat))<|
   some (sM (aDr (qX ([]++p0).length (some (cG N at1 (↑p0.length:Int)))-(0:Nat)) ([]++p0)++cA p0 (some (aS.wrap (cG N at1 (↑p0.length:Int)+(1:Int)))) none)))
   (br (decide (cG N how2 (5:Int)=(1:Int)))
    (ck (dJ ([]++p0).length none (some (cG N at1 (↑p0.length:Int))))<|
    gx p0 (cG N at1 (↑p0.length:Int)) λy0=>
    ck (decide (qX ([]++p0).length (some (cG N at1 (↑p0.length:Int)))-(0:Nat)<=([]++p0).length))<|
    ck (b8 (qX ([]++p0).length (some (cG N at1 (↑p0.length:Int)))-(0:Nat)+[y0].length) (24:Nat))<|
    ck (dJ p0.length (some (cG N at1 (↑p0.length:Int))) none)<|
    ck (b8 (aDr (qX ([]++p0).length (some (cG N at1 (↑p0.length:Int)))-(0:Nat)) ([]++p0)++[y0]++cA p0 (some (cG N at1 (↑p0.length:Int))) none).length (24:Nat))<|
    some (sM (aDr (qX ([]++p0).length (some (cG N at1 (↑p0.length:Int)))-(0:Nat)) ([]++p0)++[y0]++cA p0 (some (cG N at1 (↑p0.length:Int))) none)))
    (br (decide (cG N how2 (5:Int)=(2:Int)))
     (gx p0 (cG N at1 (↑p0.length:Int)) λy1=>
     gx p0 (cG N at1 (↑p0.length:Int)) λy2=>
     ck (E5 N y1 (↑y2.length:Int))<|
     ck (o8 N by3 (64:Int))<|
     ck (b8 (lY N y1 (↑y2.length:Int)++[nU (cG N by3 (64:Int))]).length (1:Nat))<|
     ck (decide ((0:Int)<=cG N at1 (↑p0.length:Int)/\cG N at1 (↑p0.length:Int)<(↑([]++p0).length:Int)))<|
     gn ([]++p0) ((cG N at1 (↑p0.length:Int)).toNat) λ_y3=>
     some (sM (([]++p0).set (cG N at1 (↑p0.length:Int)).toNat (lY N y1 (↑y2.length:Int)++[nU (cG N by3 (64:Int))]))))
     (br (decide (cG N how2 (5:Int)=(3:Int)))
      (gx p0 (cG N at1 (↑p0.length:Int)) λy4=>
      gx p0 (cG N at1 (↑p0.length:Int)) λy5=>
      ck true <|
      ck (dJ y4.length none (some (aS.wrap ((↑y5.length:Int).tdiv (2:Int)))))<|
      ck (decide ((0:Int)<=cG N at1 (↑p0.length:Int)/\cG N at1 (↑p0.length:Int)<(↑([]++p0).length:Int)))<|
      gn ([]++p0) ((cG N at1 (↑p0.length:Int)).toNat) λ_=>
      some (sM (([]++p0).set (cG N at1 (↑p0.length:Int)).toNat (cA y4 none (some (aS.wrap ((↑y5.length:Int).tdiv (2:Int))))))))
      (gx p0 (cG N at1 (↑p0.length:Int)) λy7=>
      gx p0 (cG N at1 (↑p0.length:Int)) λy8=>
      ck (E5 N y7 (↑y8.length:Int))<|
      ck (decide ((0:Int)<=cG N at1 (↑p0.length:Int)/\cG N at1 (↑p0.length:Int)<(↑([]++p0).length:Int)))<|
      gn ([]++p0) ((cG N at1 (↑p0.length:Int)).toNat) λ_=>
      ck (decide ((0:Int)<=cG N at1 (↑p0.length:Int)/\cG N at1 (↑p0.length:Int)<(↑(([]++p0).set (cG N at1 (↑p0.length:Int)).toNat (lY N y7 (↑y8.length:Int))).length:Int)))<|
      gn (([]++p0).set (cG N at1 (↑p0.length:Int)).toNat (lY N y7 (↑y8.length:Int))) ((cG N at1 (↑p0.length:Int)).toNat) λy10=>
      br (decide ((0:Int)<(↑y10.length:Int)))
       (ck (decide ((0:Int)<=cG N at1 (↑p0.length:Int)/\cG N at1 (↑p0.length:Int)<(↑(([]++p0).set (cG N at1 (↑p0.length:Int)).toNat (lY N y7 (↑y8.length:Int))).length:Int)))<|
       gn (([]++p0).set (cG N at1 (↑p0.length:Int)).toNat (lY N y7 (↑y8.length:Int))) ((cG N at1 (↑p0.length:Int)).toNat) λy11=>
       ck true <|
       ck (decide ((0:Int)<=cG N at1 (↑p0.length:Int)/\cG N at1 (↑p0.length:Int)<(↑(([]++p0).set (cG N at1 (↑p0.length:Int)).toNat (lY N y7 (↑y8.length:Int))).length:Int)))<|
       gn (([]++p0).set (cG N at1 (↑p0.length:Int)).toNat (lY N y7 (↑y8.length:Int))) ((cG N at1 (↑p0.length:Int)).toNat) λy12=>
       ck (o8 N (aS.wrap (by3.tdiv (64:Int))) (↑y12.length:Int))<|
       ck (o8 N by3 (64:Int))<|
       gx y11 (cG N (aS.wrap (by3.tdiv (64:Int))) (↑y12.length:Int)) λ_=>
       none)
       (some (sM (([]++p0).set (cG N at1 (↑p0.length:Int)).toNat (lY N y7 (↑y8.length:Int))))))))))
def Yo[aA] N p0 at1 how2 by3:=PG N p0 at1 how2 by3
def Ym[aA](_:Nat):Hint:=(.seq .d (.seq .d (.seq .d (.seq (.jS [0,2] [] []) (.seq (.seq .d (.block (.seq .d (.cond (.seq (.jS [] [] [[],[],[],[],[],[],[],[292,188],[]]) .d) (.seq .d (.cond (.seq (.jS [] [] [[],[],[],[],[],[],[],[],[316,188],[],[],[],[348,316],[]]) .d) (.seq .d (.cond (.jS [] [] [[],[],[],[],[],[],[],[],[],[],[],[],[],[],[],[],[396,356],[],[188]]) (.seq .d (.cond (.jS [] [] [[],[],[],[],[],[],[],[],[],[],[],[],[],[],[188]]) (.seq (.jS [] [] [[],[],[],[],[],[],[],[],[],[],[],[],[],[188]]) .d))))))))))) .d)))))
theorem aM1 N:bN (Dw N) Tryz.f25.ntmps (Ym N) Yn:=bW _ _ (aK trivial (aK trivial (aK trivial (aK trivial (aK (aK trivial (aK trivial (aK (aK trivial trivial) (aK trivial (aK (aK trivial trivial) (aK trivial (aK trivial (aK trivial (aK trivial (aK trivial trivial)))))))))) trivial)))))
theorem aM0[aA] N p0 at1 how2 by3:PG N p0 at1 how2 by3=exec (Dw N) Tryz.f25.ntmps (Ym N) Yn ⟨cC 0 [.e (.sl (.sl .u8)) p0,.e (.i .i64) at1,.e (.i .i64) how2,.e (.i .i64) by3],[],100⟩ (cJ (Dw N) Tryz.f25 false):=by kernel_rfl
def J0(r:aH):Option ((List (List UInt8))):=match r with
 |(x0,[])=>(match ue (.sl (.sl .u8)) x0 with|some a0=>some a0|_=>none)
 |_=>none
theorem aMZ{r d}(h:J0 r=some d):r=sM (d):=by
 unfold J0 at h;split at h
 .split at h
  .rename_i h0;cases h;rw[b7 h0];rfl
  .cases h
 .cases h
def B8 N p0 at1 how2 by3:=(Yo N p0 at1 how2 by3).bind J0
theorem aM2{N}(hc:aJ (Dw N)){p0 at1 how2 by3 d}(hd:B8 N p0 at1 how2 by3=some d):cR Tryz.prog 25 [.e (.sl (.sl .u8)) p0,.e (.i .i64) at1,.e (.i .i64) how2,.e (.i .i64) by3] [] (sM (d)):=
 c8 hc (by kernel_rfl) (by kernel_rfl) (aM1 N) (by kernel_rfl) aMZ (aM0 N p0 at1 how2 by3).symm.trans hd
def yN N p0 at1 how2 by3:=(B8 N p0 at1 how2 by3).isSome
def JZ N p0 at1 how2 by3:=((B8 N p0 at1 how2 by3).getD [])
end
end Go.Proofs
