/- What the law does. Conditions are in the theorems. -/
import Derived.Test.YtlhdefefoaldfaaDoorE7
import Derived.Test.YtlhdefefoaldfaaDoorProg
import Derived.KernelRfl
import Derived.Test.YtlhdefefoaldfaaDoorF0
import Derived.Test.YtlhdefefoaldfaaDoorF5
import Derived.Test.YtlhdefefoaldfaaDoorF2
import Derived.Test.YtlhdefefoaldfaaDoorF3
/- What functions do. -/
namespace Go.Proofs
noncomputable section
open Go.Ax Go.Ax.Alg Go.RowKit Go.Ab
open Go
def w26r0 (a0:Bool):Res:=(.e .bo a0,[])
noncomputable def w26L (N:Nat):List (Nat×Ent'):=[(28,w28e N)]
noncomputable def w26c (N:Nat):Cx:=⟨Tryd.prog,25,w26L N,[]⟩
noncomputable def w26b:Code:=Tryd.f26.body.getD .skip
theorem w26cx (N:Nat):CxOk (w26c N):=ctx_ok (by kernel_rfl) (.cons (by kernel_rfl) (w28ok N) .nil) .nil
def w26G [Alg] (N:Nat)  (a0_0 a0_1:Int) (a0_2:(List Ex)) (b1_0 b1_1:Int) (b1_2:(List Ex)) (vars2:(List Int)):O:=
 ck (w28p N a0_0 a0_1 a0_2 vars2) <|
 ck (w28p N b1_0 b1_1 b1_2 vars2) <|
 some (w26r0 (!w28y1 N a0_0 a0_1 a0_2 vars2||!w28y1 N b1_0 b1_1 b1_2 vars2||decide (w28y0 N a0_0 a0_1 a0_2 vars2=w28y0 N b1_0 b1_1 b1_2 vars2)))
def w26 [Alg] (N:Nat) (a0_0 a0_1:Int) (a0_2:(List Ex)) (b1_0 b1_1:Int) (b1_2:(List Ex)) (vars2:(List Int)):O:=w26G N  a0_0 a0_1 a0_2 b1_0 b1_1 b1_2 vars2
noncomputable def w26h [Alg] (_:Nat):Hint:=.d
theorem w26hk (N:Nat):HintOk (w26c N) Tryd.f26.ntmps (w26h N) w26b:=hk_of _ _ trivial
theorem w26q [Alg] (N:Nat) (a0_0 a0_1:Int) (a0_2:(List Ex)) (b1_0 b1_1:Int) (b1_2:(List Ex)) (vars2:(List Int)):w26G N  a0_0 a0_1 a0_2 b1_0 b1_1 b1_2 vars2=exec (w26c N) Tryd.f26.ntmps (w26h N) w26b ⟨argT 0 [.agg [.e (.i .i64) a0_0,.e (.i .i64) a0_1,.e (.sl .ex) a0_2],.agg [.e (.i .i64) b1_0,.e (.i .i64) b1_1,.e (.sl .ex) b1_2],.e (.sl (.i .i64)) vars2],[],100⟩ (finX (w26c N) Tryd.f26 false):=by kernel_rfl
theorem w26does {N:Nat} (hc:CxOk (w26c N)) {a0_0 a0_1:Int} {a0_2:(List Ex)} {b1_0 b1_1:Int} {b1_2:(List Ex)} {vars2:(List Int)} {r:Res} (h:w26 N a0_0 a0_1 a0_2 b1_0 b1_1 b1_2 vars2=some r):DoesR Tryd.prog 26 (([.agg [.e (.i .i64) a0_0,.e (.i .i64) a0_1,.e (.sl .ex) a0_2],.agg [.e (.i .i64) b1_0,.e (.i .i64) b1_1,.e (.sl .ex) b1_2],.e (.sl (.i .i64)) vars2]:List X).map X.D) (HA []) r:=
 fun_ok hc (f:=26) (fn:=Tryd.f26) (code:=w26b) (by kernel_rfl) (by kernel_rfl) (w26hk N) (Nat.le_of_ble_eq_true (by kernel_rfl)) (ow:=false) ((w26q N a0_0 a0_1 a0_2 b1_0 b1_1 b1_2 vars2).symm.trans (by exact h))
def w26un (r:Res):Option (Bool):=match r with
 | (x0,[])=>(match ue .bo x0 with | some a0=>some a0 | _=>none)
 | _=>none
theorem w26uo {r:Res} {d:Bool} (h:w26un r=some d):r=w26r0 (d):=by
 unfold w26un at h
 split at h
 ·split at h
  ·rename_i h0;cases h;rw [ue_some h0];rfl
  ·cases h
 ·cases h
def w26z (N:Nat) (a0_0 a0_1:Int) (a0_2:(List Ex)) (b1_0 b1_1:Int) (b1_2:(List Ex)) (vars2:(List Int)):Option (Bool):=(w26 N a0_0 a0_1 a0_2 b1_0 b1_1 b1_2 vars2).bind w26un
theorem w26fin {N:Nat} (hc:CxOk (w26c N)) {a0_0 a0_1:Int} {a0_2:(List Ex)} {b1_0 b1_1:Int} {b1_2:(List Ex)} {vars2:(List Int)} {d:Bool} (hd:w26z N a0_0 a0_1 a0_2 b1_0 b1_1 b1_2 vars2=some d):Does Tryd.prog 26 (([.agg [.e (.i .i64) a0_0,.e (.i .i64) a0_1,.e (.sl .ex) a0_2],.agg [.e (.i .i64) b1_0,.e (.i .i64) b1_1,.e (.sl .ex) b1_2],.e (.sl (.i .i64)) vars2]:List X).map X.D) (HA []) (w26r0 (d)).1.D (HA (w26r0 (d)).2):=by
 obtain ⟨r,hr,hu⟩:=Option.bind_eq_some_iff.1 hd
 have:=w26does hc hr
 rw [w26uo hu] at this
 exact this
def w26p (N:Nat) (a0_0 a0_1:Int) (a0_2:(List Ex)) (b1_0 b1_1:Int) (b1_2:(List Ex)) (vars2:(List Int)):Bool:=(w26z N a0_0 a0_1 a0_2 b1_0 b1_1 b1_2 vars2).isSome
def w26y0 (N:Nat) (a0_0 a0_1:Int) (a0_2:(List Ex)) (b1_0 b1_1:Int) (b1_2:(List Ex)) (vars2:(List Int)):Bool:=((w26z N a0_0 a0_1 a0_2 b1_0 b1_1 b1_2 vars2).getD false)
def w26e (N:Nat):Ent':=E3 .ex .ex (.sl (.i .i64))  (fun x0 x1 x2=>(w26p N (Ex.op x0) (Ex.num x0) (Ex.kids x0) (Ex.op x1) (Ex.num x1) (Ex.kids x1) x2,w26r0 (w26y0 N (Ex.op x0) (Ex.num x0) (Ex.kids x0) (Ex.op x1) (Ex.num x1) (Ex.kids x1) x2)))
theorem w26re {N:Nat} {a0_0 a0_1:Int} {a0_2:(List Ex)} {b1_0 b1_1:Int} {b1_2:(List Ex)} {vars2:(List Int)} {d:Bool} (hd:w26z N a0_0 a0_1 a0_2 b1_0 b1_1 b1_2 vars2=some d):w26r0 (w26y0 N a0_0 a0_1 a0_2 b1_0 b1_1 b1_2 vars2)=w26r0 (d):=by unfold w26y0;rw [hd];rfl
theorem w26ok (N:Nat):EOk Tryd.prog 26 (w26e N):=EOk.e3 (fun x0 x1 x2 h=>by
 have h:(w26z N (Ex.op x0) (Ex.num x0) (Ex.kids x0) (Ex.op x1) (Ex.num x1) (Ex.kids x1) x2).isSome=true:=h
 obtain ⟨d,hd⟩:=Option.isSome_iff_exists.1 h
 have f:=w26fin (w26cx N) hd
 rw [← w26re hd] at f
 exact f)
def w7r0 (a0:Bool):Res:=(.e .bo a0,[])
noncomputable def w7L (N:Nat):List (Nat×Ent'):=[(19,l19e N),(12,w12e N),(25,w25e N),(27,w27e N),(26,w26e N),(28,w28e N)]
noncomputable def w7c (N:Nat):Cx:=⟨Tryd.prog,25,w7L N,[]⟩
noncomputable def w7b:Code:=Tryd.f7.body.getD .skip
theorem w7cx (N:Nat):CxOk (w7c N):=ctx_ok (by kernel_rfl) (.cons (by kernel_rfl) (l19ok N) (.cons (by kernel_rfl) (w12ok N) (.cons (by kernel_rfl) (w25ok N) (.cons (by kernel_rfl) (w27ok N) (.cons (by kernel_rfl) (w26ok N) (.cons (by kernel_rfl) (w28ok N) .nil)))))) .nil
def w7G [Alg] (N:Nat)  (l0:(List Int)) (m1:(List Int)) (k2:(List Int)) (vars3:(List Int)):O:=
 let b1:=[(5:Int)]++l0
 let b2:=[(5:Int)]++m1
 let b6:=[]++w25y0 N vars3 (26:Int)++[(0:Int),(0:Int),(0:Int),(0:Int),(0:Int),(0:Int),(0:Int),(0:Int),(0:Int),(0:Int),(0:Int),(0:Int),(0:Int),(0:Int),(0:Int),(0:Int),(0:Int),(0:Int),(0:Int),(0:Int),(0:Int),(0:Int),(0:Int),(0:Int),(0:Int),(0:Int)]
 let b27:=w12y0 N b1 (3:Int)
 let b28:=w12y1 N b1 (3:Int)
 let b29:=w12y2 N b1 (3:Int)
 let b10:=Ex.mk (Ex.mk b27 b28 b29).op (Ex.mk b27 b28 b29).num (Ex.mk b27 b28 b29).kids
 let b30:=[(5:Int)]++k2
 let b31:=w12y0 N b2 (3:Int)
 let b32:=w12y1 N b2 (3:Int)
 let b33:=w12y2 N b2 (3:Int)
 let b34:=w12y0 N b30 (3:Int)
 let b35:=w12y1 N b30 (3:Int)
 let b36:=w12y2 N b30 (3:Int)
 let b37:=Ex.mk (5:Int) (0:Int) [Ex.mk (7:Int) (0:Int) [Ex.mk b27 b28 b29,Ex.mk b34 b35 b36],Ex.mk (7:Int) (0:Int) [Ex.mk b31 b32 b33,Ex.mk b34 b35 b36]]
 let b9:=Ex.mk b37.op b37.num [Ex.mk (7:Int) (0:Int) [Ex.mk b27 b28 b29,Ex.mk b34 b35 b36],Ex.mk (7:Int) (0:Int) [Ex.mk b31 b32 b33,Ex.mk b34 b35 b36]]
 let b38:=Ex.mk (3:Int) (0:Int) [Ex.mk (5:Int) (0:Int) [Ex.mk b27 b28 b29,Ex.mk b31 b32 b33],Ex.mk (5:Int) (0:Int) [Ex.mk b27 b28 b29,Ex.mk b34 b35 b36]]
 let b12:=Ex.mk b38.op b38.num [Ex.mk (5:Int) (0:Int) [Ex.mk b27 b28 b29,Ex.mk b31 b32 b33],Ex.mk (5:Int) (0:Int) [Ex.mk b27 b28 b29,Ex.mk b34 b35 b36]]
 let b39:=Ex.mk (5:Int) (0:Int) [Ex.mk (8:Int) (0:Int) [Ex.mk b27 b28 b29],Ex.mk (8:Int) (0:Int) [Ex.mk b27 b28 b29]]
 let b15:=Ex.mk b39.op b39.num [Ex.mk (8:Int) (0:Int) [Ex.mk b27 b28 b29],Ex.mk (8:Int) (0:Int) [Ex.mk b27 b28 b29]]
 let b40:=Ex.mk (5:Int) (0:Int) [Ex.mk (6:Int) (0:Int) [Ex.mk b27 b28 b29,Ex.mk b31 b32 b33],Ex.mk b31 b32 b33]
 let b3:=Ex.mk b40.op b40.num [Ex.mk (6:Int) (0:Int) [Ex.mk b27 b28 b29,Ex.mk b31 b32 b33],Ex.mk b31 b32 b33]
 let b0:=w26y0 N b3.op b3.num b3.kids b10.op b10.num b10.kids b6&&w26y0 N b15.op b15.num b15.kids b10.op b10.num b10.kids b6
 let b21:=!w26y0 N b3.op b3.num b3.kids b10.op b10.num b10.kids b6||true
 let b24:=w26y0 N b3.op b3.num b3.kids b10.op b10.num b10.kids b6
 let b41:=Ex.mk (5:Int) (0:Int) [Ex.mk b27 b28 b29,Ex.mk (3:Int) (0:Int) [Ex.mk b31 b32 b33,Ex.mk b34 b35 b36]]
 let b13:=Ex.mk b41.op b41.num [Ex.mk b27 b28 b29,Ex.mk (3:Int) (0:Int) [Ex.mk b31 b32 b33,Ex.mk b34 b35 b36]]
 let b42:=Ex.mk (7:Int) (0:Int) [Ex.mk (5:Int) (0:Int) [Ex.mk b27 b28 b29,Ex.mk b31 b32 b33],Ex.mk b34 b35 b36]
 let b14:=Ex.mk b42.op b42.num [Ex.mk (5:Int) (0:Int) [Ex.mk b27 b28 b29,Ex.mk b31 b32 b33],Ex.mk b34 b35 b36]
 let b20:=w26y0 N b3.op b3.num b3.kids b10.op b10.num b10.kids b6&&w26y0 N b15.op b15.num b15.kids b10.op b10.num b10.kids b6&&w26y0 N b14.op b14.num b14.kids b9.op b9.num b9.kids b6
 let b43:=Ex.mk (3:Int) (0:Int) [Ex.mk b27 b28 b29,Ex.mk (2:Int) (0:Int) [Ex.mk b31 b32 b33]]
 let b16:=Ex.mk b43.op b43.num [Ex.mk b27 b28 b29,Ex.mk (2:Int) (0:Int) [Ex.mk b31 b32 b33]]
 let b44:=Ex.mk (5:Int) (0:Int) [Ex.mk b27 b28 b29,Ex.mk b31 b32 b33]
 let b4:=Ex.mk b44.op b44.num [Ex.mk b27 b28 b29,Ex.mk b31 b32 b33]
 let b45:=Ex.mk (5:Int) (0:Int) [Ex.mk b31 b32 b33,Ex.mk b27 b28 b29]
 let b5:=Ex.mk b45.op b45.num [Ex.mk b31 b32 b33,Ex.mk b27 b28 b29]
 let b18:=!w26y0 N b4.op b4.num b4.kids b5.op b5.num b5.kids b6||true
 let b19:=w26y0 N b4.op b4.num b4.kids b5.op b5.num b5.kids b6
 let b23:=w26y0 N b4.op b4.num b4.kids b5.op b5.num b5.kids b6&&w26y0 N b13.op b13.num b13.kids b12.op b12.num b12.kids b6
 let b46:=Ex.mk (3:Int) (0:Int) [Ex.mk b27 b28 b29,Ex.mk b31 b32 b33]
 let b7:=Ex.mk b46.op b46.num [Ex.mk b27 b28 b29,Ex.mk b31 b32 b33]
 let b47:=Ex.mk (3:Int) (0:Int) [Ex.mk b31 b32 b33,Ex.mk b27 b28 b29]
 let b8:=Ex.mk b47.op b47.num [Ex.mk b31 b32 b33,Ex.mk b27 b28 b29]
 let b22:=!w26y0 N b7.op b7.num b7.kids b8.op b8.num b8.kids b6||true
 let b25:=w26y0 N b7.op b7.num b7.kids b8.op b8.num b8.kids b6
 let b48:=Ex.mk (9:Int) (0:Int) [Ex.mk b27 b28 b29,Ex.mk b27 b28 b29]
 let b11:=Ex.mk b48.op b48.num [Ex.mk b27 b28 b29,Ex.mk b27 b28 b29]
 let b26:=!w28y1 N b11.op b11.num b11.kids b6||decide (w28y0 N b11.op b11.num b11.kids b6=(1:Int))
 let b49:=Ex.mk (4:Int) (0:Int) [Ex.mk b27 b28 b29,Ex.mk b31 b32 b33]
 let b17:=Ex.mk b49.op b49.num [Ex.mk b27 b28 b29,Ex.mk b31 b32 b33]
 ck (lim b1.length (8:Nat)) <|
 ck (w12p N b1 (3:Int)) <|
 ck (lim b2.length (8:Nat)) <|
 ck (w12p N b2 (3:Int)) <|
 ck (lim b30.length (8:Nat)) <|
 ck (w12p N b30 (3:Int)) <|
 ck (w25p N vars3 (26:Int)) <|
 ck (lim ([]++w25y0 N vars3 (26:Int)).length (8:Nat)) <|
 ck true <|
 ck (lim (([]++w25y0 N vars3 (26:Int)).length+(26:Nat)) (8:Nat)) <|
 ck true <|
 ck true <|
 ck (w26p N b7.op b7.num b7.kids b8.op b8.num b8.kids b6) <|
 br b25
  (ck b22 <|
  br b25
   (ck b22 <|
   br b25
    (ck b22 <|
    ck (!w26y0 N b7.op b7.num b7.kids b8.op b8.num b8.kids b6||w26p N b17.op b17.num b17.kids b16.op b16.num b16.kids b6) <|
    ck true <|
    ck true <|
    ck (w26p N b4.op b4.num b4.kids b5.op b5.num b5.kids b6) <|
    br b19
     (ck b18 <|
     br b19
      (ck b18 <|
      br b19
       (ck b18 <|
       br b19
        (ck b18 <|
        br b19
         (ck b18 <|
         ck (!w26y0 N b4.op b4.num b4.kids b5.op b5.num b5.kids b6||w26p N b13.op b13.num b13.kids b12.op b12.num b12.kids b6) <|
         ck true <|
         ck true <|
         ck (w26p N b3.op b3.num b3.kids b10.op b10.num b10.kids b6) <|
         br b24
          (ck b21 <|
          br b24
           (ck b21 <|
           br b24
            (ck b21 <|
            ck (!w26y0 N b3.op b3.num b3.kids b10.op b10.num b10.kids b6||w26p N b15.op b15.num b15.kids b10.op b10.num b10.kids b6) <|
            br b0
             (ck (!b0||true) <|
             br b0
              (ck (!b0||true) <|
              br b0
               (ck (!b0||true) <|
               br b0
                (ck (!b0||true) <|
                br b0
                 (ck (!b0||true) <|
                 ck (!b0||w26p N b14.op b14.num b14.kids b9.op b9.num b9.kids b6) <|
                 ck true <|
                 ck (w28p N b11.op b11.num b11.kids b6) <|
                 ck (w28p N b10.op b10.num b10.kids b6) <|
                 ck (!(w26y0 N b7.op b7.num b7.kids b8.op b8.num b8.kids b6&&w26y0 N b17.op b17.num b17.kids b16.op b16.num b16.kids b6&&b23&&b20&&w28y1 N b11.op b11.num b11.kids b6 == w28y1 N b10.op b10.num b10.kids b6&&b26)||true) <|
                 some (w7r0 (w26y0 N b7.op b7.num b7.kids b8.op b8.num b8.kids b6&&w26y0 N b17.op b17.num b17.kids b16.op b16.num b16.kids b6&&b23&&b20&&w28y1 N b11.op b11.num b11.kids b6 == w28y1 N b10.op b10.num b10.kids b6&&b26&&true)))
                 (none))
                (none))
               (none))
              (none))
             (none))
            (none))
           (none))
          (none))
         (none))
        (none))
       (none))
      (none))
     (none))
    (none))
   (none))
  (none)
def w7 [Alg] (N:Nat) (l0:(List Int)) (m1:(List Int)) (k2:(List Int)) (vars3:(List Int)):O:=w7G N  l0 m1 k2 vars3
noncomputable def w7h [Alg] (_:Nat):Hint:=.d
theorem w7hk (N:Nat):HintOk (w7c N) Tryd.f7.ntmps (w7h N) w7b:=hk_of _ _ trivial
theorem w7q [Alg] (N:Nat) (l0:(List Int)) (m1:(List Int)) (k2:(List Int)) (vars3:(List Int)):w7G N  l0 m1 k2 vars3=exec (w7c N) Tryd.f7.ntmps (w7h N) w7b ⟨argT 0 [.e (.sl (.i .i64)) l0,.e (.sl (.i .i64)) m1,.e (.sl (.i .i64)) k2,.e (.sl (.i .i64)) vars3],[],100⟩ (finX (w7c N) Tryd.f7 false):=by kernel_rfl
theorem w7does {N:Nat} (hc:CxOk (w7c N)) {l0:(List Int)} {m1:(List Int)} {k2:(List Int)} {vars3:(List Int)} {r:Res} (h:w7 N l0 m1 k2 vars3=some r):DoesR Tryd.prog 7 (([.e (.sl (.i .i64)) l0,.e (.sl (.i .i64)) m1,.e (.sl (.i .i64)) k2,.e (.sl (.i .i64)) vars3]:List X).map X.D) (HA []) r:=
 fun_ok hc (f:=7) (fn:=Tryd.f7) (code:=w7b) (by kernel_rfl) (by kernel_rfl) (w7hk N) (Nat.le_of_ble_eq_true (by kernel_rfl)) (ow:=false) ((w7q N l0 m1 k2 vars3).symm.trans (by exact h))
def w7un (r:Res):Option (Bool):=match r with
 | (x0,[])=>(match ue .bo x0 with | some a0=>some a0 | _=>none)
 | _=>none
theorem w7uo {r:Res} {d:Bool} (h:w7un r=some d):r=w7r0 (d):=by
 unfold w7un at h
 split at h
 ·split at h
  ·rename_i h0;cases h;rw [ue_some h0];rfl
  ·cases h
 ·cases h
def w7z (N:Nat) (l0:(List Int)) (m1:(List Int)) (k2:(List Int)) (vars3:(List Int)):Option (Bool):=(w7 N l0 m1 k2 vars3).bind w7un
theorem w7fin {N:Nat} (hc:CxOk (w7c N)) {l0:(List Int)} {m1:(List Int)} {k2:(List Int)} {vars3:(List Int)} {d:Bool} (hd:w7z N l0 m1 k2 vars3=some d):Does Tryd.prog 7 (([.e (.sl (.i .i64)) l0,.e (.sl (.i .i64)) m1,.e (.sl (.i .i64)) k2,.e (.sl (.i .i64)) vars3]:List X).map X.D) (HA []) (w7r0 (d)).1.D (HA (w7r0 (d)).2):=by
 obtain ⟨r,hr,hu⟩:=Option.bind_eq_some_iff.1 hd
 have:=w7does hc hr
 rw [w7uo hu] at this
 exact this
end
end Go.Proofs
