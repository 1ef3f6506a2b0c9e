/- What functions do: the reader of the reference. Conditions are in the theorems. -/
import Derived.Test.YtlhdefefoaldfaaGreatDoorE7
import Derived.Test.YtlhdefefoaldfaaGreatDoorProg
import Derived.KernelRfl
import Derived.Test.YtlhdefefoaldfaaGreatDoorF0
import Derived.Test.YtlhdefefoaldfaaGreatDoorF3
/- What functions do. -/
namespace Go.Proofs
noncomputable section
open Go.Ax Go.Ax.Alg Go.RowKit Go.Ab
open Go
abbrev YF4:=List UInt8
def w81r0 (a0:YF4) (a1:Int) (a2:Bool):Res:=(.tup [],[(50,.box 104 [.e .tx a0,.e (.i .i64) a1,.e .bo a2])])
def w81F0 [Alg] (_:Nat)  (self:Int->O) (k0:YF4->Int->Bool->O) (x0_0:YF4) (x0_2:Bool) (x0_1:Int):O:=
 gc (decide (x0_1 < (↑x0_0.length:Int))) 0 x0_0 x0_1 fun y3=>
 br (decide (x0_1 < (↑x0_0.length:Int))&&decide (y3=32))
  (self (IntKind.i64.wrap (x0_1+1)))
  (k0 x0_0 x0_1 x0_2)
def w81l0 [Alg] (N:Nat):Nat->(YF4×Int×Bool)->((YF4×Int×Bool)->O)->((Unit)->O)->((Unit)->O)->O
 | 0,_,_,_,_=>none
 | n+1,x,k0,k1,k2=>w81F0 N  (fun v0=>w81l0 N n (x.1,v0,x.2.2) k0 k1 k2) (fun y0 y1 y2=>k0 (y0,y1,y2)) x.1 x.2.2 x.2.1
def w81n0 [Alg] (N:Nat) (a0:YF4) (a1:Int) (a2:Bool) (k0:YF4->Int->Bool->O):O:=w81l0 N N (a0,a1,a2) (fun y=>k0 y.1 y.2.1 y.2.2) (fun _=>none) (fun _=>none)
def w81G [Alg] (_:Nat) (in0:YF4->Int->Bool->(YF4->Int->Bool->O)->O) (g0:YF4) (g1:Int) (g2:Bool):O:=
 in0 g0 g1 g2
  (fun z4 z5 z6=>
   some (w81r0 z4 z5 z6))
def w81 [Alg] (N:Nat) (g0:YF4) (g1:Int) (g2:Bool):O:=w81G N (w81n0 N) g0 g1 g2
def w81un (r:Res):Option (YF4×Int×Bool):=match r with
 | (.tup [],[(50,.box 104 [x0,x1,x2])])=>(match ue .tx x0,ue (.i .i64) x1,ue .bo x2 with | some a0,some a1,some a2=>some (a0,a1,a2) | _,_,_=>none)
 | _=>none
def w81z (N:Nat) (g0:YF4) (g1:Int) (g2:Bool):Option (YF4×Int×Bool):=(w81 N g0 g1 g2).bind w81un
def w81p (N:Nat) (g0:YF4) (g1:Int) (g2:Bool):Bool:=(w81z N g0 g1 g2).isSome
def w81y0 (N:Nat) (g0:YF4) (g1:Int) (g2:Bool):YF4:=((w81z N g0 g1 g2).getD ([],0,false)).1
def w81y1 (N:Nat) (g0:YF4) (g1:Int) (g2:Bool):Int:=((w81z N g0 g1 g2).getD ([],0,false)).2.1
def w81y2 (N:Nat) (g0:YF4) (g1:Int) (g2:Bool):Bool:=((w81z N g0 g1 g2).getD ([],0,false)).2.2
def w101r0 (a0:UInt8) (a1:YF4) (a2:Int) (a3:Bool):Res:=(.e .u8 a0,[(50,.box 104 [.e .tx a1,.e (.i .i64) a2,.e .bo a3])])
def w101G [Alg] (N:Nat)  (g0:YF4) (g1:Int) (g2:Bool):O:=
 ck (w81p N g0 g1 g2) <|
 br (decide ((↑(w81y0 N g0 g1 g2).length:Int)<=w81y1 N g0 g1 g2))
  (some (w101r0 0 (w81y0 N g0 g1 g2) (w81y1 N g0 g1 g2) (w81y2 N g0 g1 g2)))
  (gx (w81y0 N g0 g1 g2) (w81y1 N g0 g1 g2) fun y0=>
  some (w101r0 y0 (w81y0 N g0 g1 g2) (w81y1 N g0 g1 g2) (w81y2 N g0 g1 g2)))
def w101 [Alg] (N:Nat) (g0:YF4) (g1:Int) (g2:Bool):O:=w101G N  g0 g1 g2
def w101un (r:Res):Option (UInt8×YF4×Int×Bool):=match r with
 | (x0,[(50,.box 104 [x1,x2,x3])])=>(match ue .u8 x0,ue .tx x1,ue (.i .i64) x2,ue .bo x3 with | some a0,some a1,some a2,some a3=>some (a0,a1,a2,a3) | _,_,_,_=>none)
 | _=>none
def w101z (N:Nat) (g0:YF4) (g1:Int) (g2:Bool):Option (UInt8×YF4×Int×Bool):=(w101 N g0 g1 g2).bind w101un
def w101p (N:Nat) (g0:YF4) (g1:Int) (g2:Bool):Bool:=(w101z N g0 g1 g2).isSome
def w101y0 (N:Nat) (g0:YF4) (g1:Int) (g2:Bool):UInt8:=((w101z N g0 g1 g2).getD (0,[],0,false)).1
def w101y1 (N:Nat) (g0:YF4) (g1:Int) (g2:Bool):YF4:=((w101z N g0 g1 g2).getD (0,[],0,false)).2.1
def w101y2 (N:Nat) (g0:YF4) (g1:Int) (g2:Bool):Int:=((w101z N g0 g1 g2).getD (0,[],0,false)).2.2.1
def w101y3 (N:Nat) (g0:YF4) (g1:Int) (g2:Bool):Bool:=((w101z N g0 g1 g2).getD (0,[],0,false)).2.2.2
def w80r0 (a0:Bool) (a1:YF4) (a2:Int) (a3:Bool):Res:=(.e .bo a0,[(50,.box 104 [.e .tx a1,.e (.i .i64) a2,.e .bo a3])])
def w80G [Alg] (N:Nat)  (c1:UInt8) (g0:YF4) (g1:Int) (g2:Bool):O:=
 br g2
  (br (true||decide ((↑g0.length:Int)<=g1))
   (some (w80r0 false g0 g1 g2))
   (some (w80r0 true g0 (IntKind.i64.wrap (g1+1)) g2)))
  (ck (w101p N g0 g1 g2) <|
  br (decide (w101y0 N g0 g1 g2≠c1)||decide ((↑(w101y1 N g0 g1 g2).length:Int)<=w101y2 N g0 g1 g2))
   (some (w80r0 false (w101y1 N g0 g1 g2) (w101y2 N g0 g1 g2) (w101y3 N g0 g1 g2)))
   (some (w80r0 true (w101y1 N g0 g1 g2) (IntKind.i64.wrap (w101y2 N g0 g1 g2+(1:Int))) (w101y3 N g0 g1 g2))))
def w80 [Alg] (N:Nat) (c1:UInt8) (g0:YF4) (g1:Int) (g2:Bool):O:=w80G N  c1 g0 g1 g2
def w80un (r:Res):Option (Bool×YF4×Int×Bool):=match r with
 | (x0,[(50,.box 104 [x1,x2,x3])])=>(match ue .bo x0,ue .tx x1,ue (.i .i64) x2,ue .bo x3 with | some a0,some a1,some a2,some a3=>some (a0,a1,a2,a3) | _,_,_,_=>none)
 | _=>none
def w80z (N:Nat) (c1:UInt8) (g0:YF4) (g1:Int) (g2:Bool):Option (Bool×YF4×Int×Bool):=(w80 N c1 g0 g1 g2).bind w80un
def w80p (N:Nat) (c1:UInt8) (g0:YF4) (g1:Int) (g2:Bool):Bool:=(w80z N c1 g0 g1 g2).isSome
def w80y0 (N:Nat) (c1:UInt8) (g0:YF4) (g1:Int) (g2:Bool):Bool:=((w80z N c1 g0 g1 g2).getD (false,[],0,false)).1
def w80y1 (N:Nat) (c1:UInt8) (g0:YF4) (g1:Int) (g2:Bool):YF4:=((w80z N c1 g0 g1 g2).getD (false,[],0,false)).2.1
def w80y2 (N:Nat) (c1:UInt8) (g0:YF4) (g1:Int) (g2:Bool):Int:=((w80z N c1 g0 g1 g2).getD (false,[],0,false)).2.2.1
def w80y3 (N:Nat) (c1:UInt8) (g0:YF4) (g1:Int) (g2:Bool):Bool:=((w80z N c1 g0 g1 g2).getD (false,[],0,false)).2.2.2
def w118r0 (a0 a1:Int) (a2:(List Ex)) (a3:YF4) (a4:Int) (a5:Bool):Res:=(.agg [.e (.i .i64) a0,.e (.i .i64) a1,.e (.sl .ex) a2],[(50,.box 104 [.e .tx a3,.e (.i .i64) a4,.e .bo a5])])
def w118F0 [Alg] (_:Nat)  (self:Int->Int->O) (k0:Int->Int->Int->Int->YF4->Int->Bool->Int->Int->O) (x0_0 x0_1:Int) (x0_4:YF4) (x0_5:Int) (x0_6:Bool) (x0_7 x0_8 x0_2 x0_3:Int):O:=
 gc (decide (x0_3 < (↑x0_4.length:Int))) 0 x0_4 x0_3 fun y7=>
 gc (decide (x0_3 < (↑x0_4.length:Int))&&decide (48<=y7)) 0 x0_4 x0_3 fun y8=>
 br (decide (x0_3 < (↑x0_4.length:Int))&&decide (48<=y7)&&decide (y8<=57))
  (br (decide (IntKind.i64.wrap (x0_3 - x0_1) < (7:Int)))
   (gx x0_4 x0_3 fun y9=>
   self (IntKind.i64.wrap (IntKind.i64.wrap ((10:Int) * x0_2)+IntKind.i64.wrap (↑(y9 - (48:UInt8)).toNat:Int))) (IntKind.i64.wrap (x0_3+1)))
   (self x0_2 (IntKind.i64.wrap (x0_3+1))))
  (k0 x0_0 x0_1 x0_2 x0_3 x0_4 x0_5 x0_6 x0_7 x0_8)
def w118l0 [Alg] (N:Nat):Nat->(Int×Int×Int×Int×YF4×Int×Bool×Int×Int)->((Int×Int×Int×Int×YF4×Int×Bool×Int×Int)->O)->((Unit)->O)->((Unit)->O)->O
 | 0,_,_,_,_=>none
 | n+1,x,k0,k1,k2=>w118F0 N  (fun v0 v1=>w118l0 N n (x.1,x.2.1,v0,v1,x.2.2.2.2.1,x.2.2.2.2.2.1,x.2.2.2.2.2.2.1,x.2.2.2.2.2.2.2.1,x.2.2.2.2.2.2.2.2) k0 k1 k2) (fun y0 y1 y2 y3 y4 y5 y6 y7 y8=>k0 (y0,y1,y2,y3,y4,y5,y6,y7,y8)) x.1 x.2.1 x.2.2.2.2.1 x.2.2.2.2.2.1 x.2.2.2.2.2.2.1 x.2.2.2.2.2.2.2.1 x.2.2.2.2.2.2.2.2 x.2.2.1 x.2.2.2.1
def w118n0 [Alg] (N:Nat) (a0 a1 a2 a3:Int) (a4:YF4) (a5:Int) (a6:Bool) (a7 a8:Int) (k0:Int->Int->Int->Int->YF4->Int->Bool->Int->Int->O):O:=w118l0 N N (a0,a1,a2,a3,a4,a5,a6,a7,a8) (fun y=>k0 y.1 y.2.1 y.2.2.1 y.2.2.2.1 y.2.2.2.2.1 y.2.2.2.2.2.1 y.2.2.2.2.2.2.1 y.2.2.2.2.2.2.2.1 y.2.2.2.2.2.2.2.2) (fun _=>none) (fun _=>none)
def w118G [Alg] (_:Nat) (in0:Int->Int->Int->Int->YF4->Int->Bool->Int->Int->(Int->Int->Int->Int->YF4->Int->Bool->Int->Int->O)->O) (g0:YF4) (g1:Int) (g2:Bool):O:=
 in0 g1 g1 0 g1 g0 g1 g2 0 0
  (fun _ z11 z12 z13 z14 z15 z16 _ _=>
   gc (!decide ((6:Int) < IntKind.i64.wrap (z13 - z11))&&decide ((1:Int) < IntKind.i64.wrap (z13 - z11))) 0 z14 z11 fun y19=>
   br (decide ((6:Int) < IntKind.i64.wrap (z13 - z11))||decide ((1:Int) < IntKind.i64.wrap (z13 - z11))&&decide (y19=48))
    (some (w118r0 0 0 [] z14 z15 true))
    (some (w118r0 0 (z12) ([]) z14 z13 z16)))
def w118 [Alg] (N:Nat) (g0:YF4) (g1:Int) (g2:Bool):O:=w118G N (w118n0 N) g0 g1 g2
def w118un (r:Res):Option (Int×Int×(List Ex)×YF4×Int×Bool):=match r with
 | (.agg [x0,x1,x2],[(50,.box 104 [x3,x4,x5])])=>(match ue (.i .i64) x0,ue (.i .i64) x1,ue (.sl .ex) x2,ue .tx x3,ue (.i .i64) x4,ue .bo x5 with | some a0,some a1,some a2,some a3,some a4,some a5=>some (a0,a1,a2,a3,a4,a5) | _,_,_,_,_,_=>none)
 | _=>none
def w118z (N:Nat) (g0:YF4) (g1:Int) (g2:Bool):Option (Int×Int×(List Ex)×YF4×Int×Bool):=(w118 N g0 g1 g2).bind w118un
def w118p (N:Nat) (g0:YF4) (g1:Int) (g2:Bool):Bool:=(w118z N g0 g1 g2).isSome
def w118y0 (N:Nat) (g0:YF4) (g1:Int) (g2:Bool):Int:=((w118z N g0 g1 g2).getD (0,0,[],[],0,false)).1
def w118y1 (N:Nat) (g0:YF4) (g1:Int) (g2:Bool):Int:=((w118z N g0 g1 g2).getD (0,0,[],[],0,false)).2.1
def w118y2 (N:Nat) (g0:YF4) (g1:Int) (g2:Bool):(List Ex):=((w118z N g0 g1 g2).getD (0,0,[],[],0,false)).2.2.1
def w118y3 (N:Nat) (g0:YF4) (g1:Int) (g2:Bool):YF4:=((w118z N g0 g1 g2).getD (0,0,[],[],0,false)).2.2.2.1
def w118y4 (N:Nat) (g0:YF4) (g1:Int) (g2:Bool):Int:=((w118z N g0 g1 g2).getD (0,0,[],[],0,false)).2.2.2.2.1
def w118y5 (N:Nat) (g0:YF4) (g1:Int) (g2:Bool):Bool:=((w118z N g0 g1 g2).getD (0,0,[],[],0,false)).2.2.2.2.2
def w119r0 (a0:YF4) (a1:Int) (a2:Bool):Res:=(.tup [],[(50,.box 104 [.e .tx a0,.e (.i .i64) a1,.e .bo a2])])
def w119G [Alg] (N:Nat)  (c1:UInt8) (g0:YF4) (g1:Int) (g2:Bool):O:=
 ck (w80p N c1 g0 g1 g2) <|
 br (!w80y0 N c1 g0 g1 g2)
  (some (w119r0 (w80y1 N c1 g0 g1 g2) (w80y2 N c1 g0 g1 g2) true))
  (some (w119r0 (w80y1 N c1 g0 g1 g2) (w80y2 N c1 g0 g1 g2) (w80y3 N c1 g0 g1 g2)))
def w119 [Alg] (N:Nat) (c1:UInt8) (g0:YF4) (g1:Int) (g2:Bool):O:=w119G N  c1 g0 g1 g2
def w119un (r:Res):Option (YF4×Int×Bool):=match r with
 | (.tup [],[(50,.box 104 [x0,x1,x2])])=>(match ue .tx x0,ue (.i .i64) x1,ue .bo x2 with | some a0,some a1,some a2=>some (a0,a1,a2) | _,_,_=>none)
 | _=>none
def w119z (N:Nat) (c1:UInt8) (g0:YF4) (g1:Int) (g2:Bool):Option (YF4×Int×Bool):=(w119 N c1 g0 g1 g2).bind w119un
def w119p (N:Nat) (c1:UInt8) (g0:YF4) (g1:Int) (g2:Bool):Bool:=(w119z N c1 g0 g1 g2).isSome
def w119y0 (N:Nat) (c1:UInt8) (g0:YF4) (g1:Int) (g2:Bool):YF4:=((w119z N c1 g0 g1 g2).getD ([],0,false)).1
def w119y1 (N:Nat) (c1:UInt8) (g0:YF4) (g1:Int) (g2:Bool):Int:=((w119z N c1 g0 g1 g2).getD ([],0,false)).2.1
def w119y2 (N:Nat) (c1:UInt8) (g0:YF4) (g1:Int) (g2:Bool):Bool:=((w119z N c1 g0 g1 g2).getD ([],0,false)).2.2
def w112r0 (a0 a1:Int) (a2:(List Ex)) (a3:YF4) (a4:Int) (a5:Bool):Res:=(.agg [.e (.i .i64) a0,.e (.i .i64) a1,.e (.sl .ex) a2],[(50,.box 104 [.e .tx a3,.e (.i .i64) a4,.e .bo a5])])
abbrev w112T:=Nat×((YF4->Int->Bool->Option (Int×Int×(List Ex)×YF4×Int×Bool))×(YF4->Int->Bool->Option (Int×Int×(List Ex)×YF4×Int×Bool))×(YF4->Int->Bool->Option (Int×Int×(List Ex)×YF4×Int×Bool))×(YF4->Int->Bool->Option (Int×Int×(List Ex)×YF4×Int×Bool)))
def w107r0 (a0 a1:Int) (a2:(List Ex)) (a3:YF4) (a4:Int) (a5:Bool):Res:=(.agg [.e (.i .i64) a0,.e (.i .i64) a1,.e (.sl .ex) a2],[(50,.box 104 [.e .tx a3,.e (.i .i64) a4,.e .bo a5])])
def w100r0 (a0 a1:Int) (a2:(List Ex)) (a3:YF4) (a4:Int) (a5:Bool):Res:=(.agg [.e (.i .i64) a0,.e (.i .i64) a1,.e (.sl .ex) a2],[(50,.box 104 [.e .tx a3,.e (.i .i64) a4,.e .bo a5])])
def w79r0 (a0 a1:Int) (a2:(List Ex)) (a3:YF4) (a4:Int) (a5:Bool):Res:=(.agg [.e (.i .i64) a0,.e (.i .i64) a1,.e (.sl .ex) a2],[(50,.box 104 [.e .tx a3,.e (.i .i64) a4,.e .bo a5])])
def w112G [Alg] (N:w112T)  (g0:YF4) (g1:Int) (g2:Bool):O:=
 let b1:=w101y3 N.1 g0 g1 g2
 let b2:=w101y1 N.1 g0 g1 g2
 let b3:=w101y2 N.1 g0 g1 g2
 let b4:=w80y1 N.1 (82:UInt8) b2 b3 b1
 let b5:=w80y2 N.1 (82:UInt8) b2 b3 b1
 let b6:=w80y3 N.1 (82:UInt8) b2 b3 b1
 let b10:=N.snd.snd.snd.2 (w119y0 N.1 (40:UInt8) b4 b5 b6) (w119y1 N.1 (40:UInt8) b4 b5 b6) (w119y2 N.1 (40:UInt8) b4 b5 b6)
 let b0:=b10.getD ((0:Int),(0:Int),[],[],(0:Int),false)
 let b7:=w119y0 N.1 (41:UInt8) b0.2.2.2.1 b0.2.2.2.2.1 b0.2.2.2.2.2
 let b8:=w119y1 N.1 (41:UInt8) b0.2.2.2.1 b0.2.2.2.2.1 b0.2.2.2.2.2
 let b9:=w119y2 N.1 (41:UInt8) b0.2.2.2.1 b0.2.2.2.2.1 b0.2.2.2.2.2
 ck (w101p N.1 g0 g1 g2) <|
 br b1
  (some (w112r0 0 0 [] b2 b3 b1))
  (br (decide ((48:UInt8)<=w101y0 N.1 g0 g1 g2)&&decide (w101y0 N.1 g0 g1 g2<=(57:UInt8)))
   (ck (w118p N.1 b2 b3 b1) <|
   some (w112r0 ((w118y0 N.1 b2 b3 b1)) ((w118y1 N.1 b2 b3 b1)) ((w118y2 N.1 b2 b3 b1)) (w118y3 N.1 b2 b3 b1) (w118y4 N.1 b2 b3 b1) (w118y5 N.1 b2 b3 b1)))
   (br (decide ((97:UInt8)<=w101y0 N.1 g0 g1 g2)&&decide (w101y0 N.1 g0 g1 g2<=(122:UInt8)))
    (some (w112r0 1 ((IntKind.i64.wrap (↑(w101y0 N.1 g0 g1 g2 - (97:UInt8)).toNat:Int))) ([]) b2 (IntKind.i64.wrap (w101y2 N.1 g0 g1 g2+(1:Int))) b1))
    (ck (w80p N.1 (82:UInt8) b2 b3 b1) <|
    ck (w119p N.1 (40:UInt8) b4 b5 b6) <|
    ck (b10.isSome) <|
    ck (w119p N.1 (41:UInt8) b0.2.2.2.1 b0.2.2.2.2.1 b0.2.2.2.2.2) <|
    br (w80y0 N.1 (82:UInt8) b2 b3 b1)
     (some (w112r0 8 0 ([Ex.mk b0.1 b0.2.1 b0.2.2.1]) b7 b8 b9))
     (some (w112r0 (b0.1) (b0.2.1) (b0.2.2.1) b7 b8 b9)))))
def w112 [Alg] (N:w112T) (g0:YF4) (g1:Int) (g2:Bool):O:=w112G N  g0 g1 g2
def w112un (r:Res):Option (Int×Int×(List Ex)×YF4×Int×Bool):=match r with
 | (.agg [x0,x1,x2],[(50,.box 104 [x3,x4,x5])])=>(match ue (.i .i64) x0,ue (.i .i64) x1,ue (.sl .ex) x2,ue .tx x3,ue (.i .i64) x4,ue .bo x5 with | some a0,some a1,some a2,some a3,some a4,some a5=>some (a0,a1,a2,a3,a4,a5) | _,_,_,_,_,_=>none)
 | _=>none
def w112z (N:w112T) (g0:YF4) (g1:Int) (g2:Bool):Option (Int×Int×(List Ex)×YF4×Int×Bool):=(w112 N g0 g1 g2).bind w112un
def w107G [Alg] (N:w112T)  (g0:YF4) (g1:Int) (g2:Bool):O:=
 let b6:=N.snd.snd.1 (w80y1 N.1 (45:UInt8) g0 g1 g2) (w80y2 N.1 (45:UInt8) g0 g1 g2) (w80y3 N.1 (45:UInt8) g0 g1 g2)
 let b7:=N.snd.1 (w80y1 N.1 (45:UInt8) g0 g1 g2) (w80y2 N.1 (45:UInt8) g0 g1 g2) (w80y3 N.1 (45:UInt8) g0 g1 g2)
 let b8:=((0:Int),(0:Int),[],[],(0:Int),false)
 let b0:=b7.getD b8
 let b2:=b6.getD b8
 let b3:=w80y1 N.1 (94:UInt8) b0.2.2.2.1 b0.2.2.2.2.1 b0.2.2.2.2.2
 let b4:=w80y2 N.1 (94:UInt8) b0.2.2.2.1 b0.2.2.2.2.1 b0.2.2.2.2.2
 let b5:=w80y3 N.1 (94:UInt8) b0.2.2.2.1 b0.2.2.2.2.1 b0.2.2.2.2.2
 let b1:=(N.snd.snd.1 b3 b4 b5).getD b8
 br g2
  (some (w107r0 0 0 [] g0 g1 g2))
  (ck (w80p N.1 (45:UInt8) g0 g1 g2) <|
  br (w80y0 N.1 (45:UInt8) g0 g1 g2)
   (ck (b6.isSome) <|
   some (w107r0 2 0 ([Ex.mk b2.1 b2.2.1 b2.2.2.1]) (b2.2.2.2.1) (b2.2.2.2.2.1) (b2.2.2.2.2.2)))
   (ck (b7.isSome) <|
   ck (w80p N.1 (94:UInt8) b0.2.2.2.1 b0.2.2.2.2.1 b0.2.2.2.2.2) <|
   br (w80y0 N.1 (94:UInt8) b0.2.2.2.1 b0.2.2.2.2.1 b0.2.2.2.2.2)
    (ck ((N.snd.snd.1 b3 b4 b5).isSome) <|
    some (w107r0 7 0 ([Ex.mk b0.1 b0.2.1 b0.2.2.1,Ex.mk b1.1 b1.2.1 b1.2.2.1]) (b1.2.2.2.1) (b1.2.2.2.2.1) (b1.2.2.2.2.2)))
    (some (w107r0 (b0.1) (b0.2.1) (b0.2.2.1) b3 b4 b5))))
def w107 [Alg] (N:w112T) (g0:YF4) (g1:Int) (g2:Bool):O:=w107G N  g0 g1 g2
def w107un (r:Res):Option (Int×Int×(List Ex)×YF4×Int×Bool):=match r with
 | (.agg [x0,x1,x2],[(50,.box 104 [x3,x4,x5])])=>(match ue (.i .i64) x0,ue (.i .i64) x1,ue (.sl .ex) x2,ue .tx x3,ue (.i .i64) x4,ue .bo x5 with | some a0,some a1,some a2,some a3,some a4,some a5=>some (a0,a1,a2,a3,a4,a5) | _,_,_,_,_,_=>none)
 | _=>none
def w107z (N:w112T) (g0:YF4) (g1:Int) (g2:Bool):Option (Int×Int×(List Ex)×YF4×Int×Bool):=(w107 N g0 g1 g2).bind w107un
def w100F0 [Alg] (N:w112T)  (self:YF4->Int->Bool->Int->Int->(List Ex)->O) (k0:YF4->Int->Bool->Int->Int->Int->Int->(List Ex)->O) (x0_3 x0_4:Int) (x0_0:YF4) (x0_1:Int) (x0_2:Bool) (x0_5 x0_6:Int) (x0_7:(List Ex)):O:=
 let b3:=w80y1 N.1 (42:UInt8) x0_0 x0_1 x0_2
 let b4:=w80y2 N.1 (42:UInt8) x0_0 x0_1 x0_2
 let b5:=w80y3 N.1 (42:UInt8) x0_0 x0_1 x0_2
 let b0:=N.snd.snd.1 (w80y1 N.1 (47:UInt8) b3 b4 b5) (w80y2 N.1 (47:UInt8) b3 b4 b5) (w80y3 N.1 (47:UInt8) b3 b4 b5)
 let b1:=(N.snd.snd.1 b3 b4 b5).getD ((0:Int),(0:Int),[],[],(0:Int),false)
 let b2:=b0.getD ((0:Int),(0:Int),[],[],(0:Int),false)
 br (!x0_2)
  (ck (w80p N.1 (42:UInt8) x0_0 x0_1 x0_2) <|
  br (w80y0 N.1 (42:UInt8) x0_0 x0_1 x0_2)
   (ck ((N.snd.snd.1 b3 b4 b5).isSome) <|
   self (b1.2.2.2.1) (b1.2.2.2.2.1) (b1.2.2.2.2.2) 5 0 [Ex.mk x0_5 x0_6 x0_7,Ex.mk b1.1 b1.2.1 b1.2.2.1])
   (ck (w80p N.1 (47:UInt8) b3 b4 b5) <|
   br (w80y0 N.1 (47:UInt8) b3 b4 b5)
    (ck (b0.isSome) <|
    self (b2.2.2.2.1) (b2.2.2.2.2.1) (b2.2.2.2.2.2) 6 0 [Ex.mk x0_5 x0_6 x0_7,Ex.mk b2.1 b2.2.1 b2.2.2.1])
    (k0 (w80y1 N.1 (47:UInt8) b3 b4 b5) (w80y2 N.1 (47:UInt8) b3 b4 b5) (w80y3 N.1 (47:UInt8) b3 b4 b5) x0_3 x0_4 x0_5 x0_6 x0_7)))
  (k0 x0_0 x0_1 x0_2 x0_3 x0_4 x0_5 x0_6 x0_7)
def w100l0 [Alg] (N:w112T):Nat->(YF4×Int×Bool×Int×Int×Int×Int×(List Ex))->((YF4×Int×Bool×Int×Int×Int×Int×(List Ex))->O)->((Unit)->O)->((Unit)->O)->O
 | 0,_,_,_,_=>none
 | n+1,x,k0,k1,k2=>w100F0 N  (fun v0 v1 v2 v3 v4 v5=>w100l0 N n (v0,v1,v2,x.2.2.2.1,x.2.2.2.2.1,v3,v4,v5) k0 k1 k2) (fun y0 y1 y2 y3 y4 y5 y6 y7=>k0 (y0,y1,y2,y3,y4,y5,y6,y7)) x.2.2.2.1 x.2.2.2.2.1 x.1 x.2.1 x.2.2.1 x.2.2.2.2.2.1 x.2.2.2.2.2.2.1 x.2.2.2.2.2.2.2
def w100n0 [Alg] (N:w112T) (a0:YF4) (a1:Int) (a2:Bool) (a3 a4 a5 a6:Int) (a7:(List Ex)) (k0:YF4->Int->Bool->Int->Int->Int->Int->(List Ex)->O):O:=w100l0 N N.1 (a0,a1,a2,a3,a4,a5,a6,a7) (fun y=>k0 y.1 y.2.1 y.2.2.1 y.2.2.2.1 y.2.2.2.2.1 y.2.2.2.2.2.1 y.2.2.2.2.2.2.1 y.2.2.2.2.2.2.2) (fun _=>none) (fun _=>none)
def w100G [Alg] (N:w112T) (in0:YF4->Int->Bool->Int->Int->Int->Int->(List Ex)->(YF4->Int->Bool->Int->Int->Int->Int->(List Ex)->O)->O) (g0:YF4) (g1:Int) (g2:Bool):O:=
 let b0:=(N.snd.snd.1 g0 g1 g2).getD ((0:Int),(0:Int),[],[],(0:Int),false)
 ck ((N.snd.snd.1 g0 g1 g2).isSome) <|
 in0 (b0.2.2.2.1) (b0.2.2.2.2.1) (b0.2.2.2.2.2) 0 0 (b0.1) (b0.2.1) (b0.2.2.1)
  (fun z1 z2 z3 _ _ z6 z7 z8=>
   some (w100r0 (z6) (z7) (z8) z1 z2 z3))
def w100 [Alg] (N:w112T) (g0:YF4) (g1:Int) (g2:Bool):O:=w100G N (w100n0 N) g0 g1 g2
def w100un (r:Res):Option (Int×Int×(List Ex)×YF4×Int×Bool):=match r with
 | (.agg [x0,x1,x2],[(50,.box 104 [x3,x4,x5])])=>(match ue (.i .i64) x0,ue (.i .i64) x1,ue (.sl .ex) x2,ue .tx x3,ue (.i .i64) x4,ue .bo x5 with | some a0,some a1,some a2,some a3,some a4,some a5=>some (a0,a1,a2,a3,a4,a5) | _,_,_,_,_,_=>none)
 | _=>none
def w100z (N:w112T) (g0:YF4) (g1:Int) (g2:Bool):Option (Int×Int×(List Ex)×YF4×Int×Bool):=(w100 N g0 g1 g2).bind w100un
def w79F0 [Alg] (N:w112T)  (self:YF4->Int->Bool->Int->Int->(List Ex)->O) (k0:YF4->Int->Bool->Int->Int->Int->Int->(List Ex)->O) (x0_3 x0_4:Int) (x0_0:YF4) (x0_1:Int) (x0_2:Bool) (x0_5 x0_6:Int) (x0_7:(List Ex)):O:=
 let b3:=w80y1 N.1 (43:UInt8) x0_0 x0_1 x0_2
 let b4:=w80y2 N.1 (43:UInt8) x0_0 x0_1 x0_2
 let b5:=w80y3 N.1 (43:UInt8) x0_0 x0_1 x0_2
 let b0:=N.snd.snd.snd.1 (w80y1 N.1 (45:UInt8) b3 b4 b5) (w80y2 N.1 (45:UInt8) b3 b4 b5) (w80y3 N.1 (45:UInt8) b3 b4 b5)
 let b1:=(N.snd.snd.snd.1 b3 b4 b5).getD ((0:Int),(0:Int),[],[],(0:Int),false)
 let b2:=b0.getD ((0:Int),(0:Int),[],[],(0:Int),false)
 br (!x0_2)
  (ck (w80p N.1 (43:UInt8) x0_0 x0_1 x0_2) <|
  br (w80y0 N.1 (43:UInt8) x0_0 x0_1 x0_2)
   (ck ((N.snd.snd.snd.1 b3 b4 b5).isSome) <|
   self (b1.2.2.2.1) (b1.2.2.2.2.1) (b1.2.2.2.2.2) 3 0 [Ex.mk x0_5 x0_6 x0_7,Ex.mk b1.1 b1.2.1 b1.2.2.1])
   (ck (w80p N.1 (45:UInt8) b3 b4 b5) <|
   br (w80y0 N.1 (45:UInt8) b3 b4 b5)
    (ck (b0.isSome) <|
    self (b2.2.2.2.1) (b2.2.2.2.2.1) (b2.2.2.2.2.2) 4 0 [Ex.mk x0_5 x0_6 x0_7,Ex.mk b2.1 b2.2.1 b2.2.2.1])
    (k0 (w80y1 N.1 (45:UInt8) b3 b4 b5) (w80y2 N.1 (45:UInt8) b3 b4 b5) (w80y3 N.1 (45:UInt8) b3 b4 b5) x0_3 x0_4 x0_5 x0_6 x0_7)))
  (k0 x0_0 x0_1 x0_2 x0_3 x0_4 x0_5 x0_6 x0_7)
def w79l0 [Alg] (N:w112T):Nat->(YF4×Int×Bool×Int×Int×Int×Int×(List Ex))->((YF4×Int×Bool×Int×Int×Int×Int×(List Ex))->O)->((Unit)->O)->((Unit)->O)->O
 | 0,_,_,_,_=>none
 | n+1,x,k0,k1,k2=>w79F0 N  (fun v0 v1 v2 v3 v4 v5=>w79l0 N n (v0,v1,v2,x.2.2.2.1,x.2.2.2.2.1,v3,v4,v5) k0 k1 k2) (fun y0 y1 y2 y3 y4 y5 y6 y7=>k0 (y0,y1,y2,y3,y4,y5,y6,y7)) x.2.2.2.1 x.2.2.2.2.1 x.1 x.2.1 x.2.2.1 x.2.2.2.2.2.1 x.2.2.2.2.2.2.1 x.2.2.2.2.2.2.2
def w79n0 [Alg] (N:w112T) (a0:YF4) (a1:Int) (a2:Bool) (a3 a4 a5 a6:Int) (a7:(List Ex)) (k0:YF4->Int->Bool->Int->Int->Int->Int->(List Ex)->O):O:=w79l0 N N.1 (a0,a1,a2,a3,a4,a5,a6,a7) (fun y=>k0 y.1 y.2.1 y.2.2.1 y.2.2.2.1 y.2.2.2.2.1 y.2.2.2.2.2.1 y.2.2.2.2.2.2.1 y.2.2.2.2.2.2.2) (fun _=>none) (fun _=>none)
def w79G [Alg] (N:w112T) (in0:YF4->Int->Bool->Int->Int->Int->Int->(List Ex)->(YF4->Int->Bool->Int->Int->Int->Int->(List Ex)->O)->O) (g0:YF4) (g1:Int) (g2:Bool):O:=
 let b0:=(N.snd.snd.snd.1 g0 g1 g2).getD ((0:Int),(0:Int),[],[],(0:Int),false)
 ck ((N.snd.snd.snd.1 g0 g1 g2).isSome) <|
 in0 (b0.2.2.2.1) (b0.2.2.2.2.1) (b0.2.2.2.2.2) 0 0 (b0.1) (b0.2.1) (b0.2.2.1)
  (fun z1 z2 z3 _ _ z6 z7 z8=>
   some (w79r0 (z6) (z7) (z8) z1 z2 z3))
def w79 [Alg] (N:w112T) (g0:YF4) (g1:Int) (g2:Bool):O:=w79G N (w79n0 N) g0 g1 g2
def w79un (r:Res):Option (Int×Int×(List Ex)×YF4×Int×Bool):=match r with
 | (.agg [x0,x1,x2],[(50,.box 104 [x3,x4,x5])])=>(match ue (.i .i64) x0,ue (.i .i64) x1,ue (.sl .ex) x2,ue .tx x3,ue (.i .i64) x4,ue .bo x5 with | some a0,some a1,some a2,some a3,some a4,some a5=>some (a0,a1,a2,a3,a4,a5) | _,_,_,_,_,_=>none)
 | _=>none
def w79z (N:w112T) (g0:YF4) (g1:Int) (g2:Bool):Option (Int×Int×(List Ex)×YF4×Int×Bool):=(w79 N g0 g1 g2).bind w79un
def w112gY (N:Nat):Nat->(YF4->Int->Bool->Option (Int×Int×(List Ex)×YF4×Int×Bool))×(YF4->Int->Bool->Option (Int×Int×(List Ex)×YF4×Int×Bool))×(YF4->Int->Bool->Option (Int×Int×(List Ex)×YF4×Int×Bool))×(YF4->Int->Bool->Option (Int×Int×(List Ex)×YF4×Int×Bool))
 | 0=>(fun _ _ _=>none,fun _ _ _=>none,fun _ _ _=>none,fun _ _ _=>none)
 | n+1=>(fun g0 g1 g2=>w112z (N,w112gY N n) g0 g1 g2,fun g0 g1 g2=>w107z (N,w112gY N n) g0 g1 g2,fun g0 g1 g2=>w100z (N,w112gY N n) g0 g1 g2,fun g0 g1 g2=>w79z (N,w112gY N n) g0 g1 g2)
end
end Go.Proofs
/- What functions do. -/
namespace Go.Proofs
noncomputable section
open Go.Ax Go.Ax.Alg Go.RowKit Go.Ab
open Go
end
end Go.Proofs
