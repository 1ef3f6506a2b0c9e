/- Contracts of library functions. Conditions are in the theorems. -/
import Derived.Test.YtmbdfpgaokbkkaaDoorE4
import Derived.Lib.ItoaNum
import Derived.Lib.AtoiAll
import Derived.Shelf.LaysM
import Derived.Shelf.Strconv.Itoa3
import Derived.Shelf.LaysC
import Derived.Shelf.Strconv.AtoiAll
import Derived.Test.YtmbdfpgaokbkkaaDoorProg
import Derived.Test.YtmbdfpgaokbkkaaDoorE7
import Derived.Test.YtmbdfpgaokbkkaaDoorG0
import Derived.Lib.AppendIntMem
import Derived.Lib.AtoiErrMem
import Derived.KernelRfl
/- Contracts of library functions, as definitions. -/
namespace Go.Proofs
open Go.Ax
def w21p (_:Nat) (x:Int):Bool:=decide (-9223372036854775808<=x/\x<=9223372036854775807)
def w21y0 (_:Nat) (x:Int):List UInt8:=Lib.itoa x
def w21e (N:Nat):Ent':=E1 (.i .i64) fun x=>(w21p N x,(.e .tx (w21y0 N x),[]))
def w20p (_:Nat) (s:List UInt8):Bool:=decide (s.length<=1000000)
def w20y0 (_:Nat) (s:List UInt8):Int:=match Lib.atoiAll s with
 | .ok v=>v
 | .range=>Lib.atoiSat s
 | _=>0
def w20y1 (_:Nat) (s:List UInt8):Nat:=match Lib.atoiAll s with
 | .ok _=>1
 | _=>0
def w20e (N:Nat):Ent':=E1 .tx fun s=>(w20p N s,(.tup [.e (.i .i64) (w20y0 N s),.via 100 (w20y1 N s+2)],[(100,.row 5 .u8 [] true)]))
def lue (_:Nat):Ent':=fun _ _=>none
def l10e (_:Nat):Ent':=E0 (true,(.e .bo true,[]))
end Go.Proofs
/- Contracts of library functions, of the kit's shelf, laid at this dump. -/
namespace Go.Proofs
open Go.Shelf
def Tryd.laysM171_ren:Go.Shelf.Ren:=⟨fun | 171=>21 | 243=>32 | 246=>45 | 283=>52 | 284=>53 | 285=>54 | 286=>55 | 129=>59 | 317=>58 | 318=>60 | 319=>61 | 320=>62 | 337=>63 | 338=>64 | n=>n,fun | 3=>3 | 9=>9 | 2=>2 | 4=>4 | 171=>108 | 0=>0 | 53=>101 | 37=>44 | 5=>5 | 173=>111 | 212=>121 | 51=>122 | 20=>20 | 213=>123 | 46=>98 | 232=>126 | 233=>127 | n=>n,fun | 17=>2 | 18=>3 | 19=>4 | n=>n⟩
theorem Tryd.laysM171:Go.Proofs.LaysM.n171 Tryd.prog Tryd.laysM171_ren:={
 mixed:=by kernel_rfl
 f129:=Tryd.func59.trans (congrArg some (by kernel_rfl))
 f171:=Tryd.func21.trans (congrArg some (by kernel_rfl))
 f243:=Tryd.func32.trans (congrArg some (by kernel_rfl))
 f246:=Tryd.func45.trans (congrArg some (by kernel_rfl))
 f283:=Tryd.func52.trans (congrArg some (by kernel_rfl))
 f284:=Tryd.func53.trans (congrArg some (by kernel_rfl))
 f285:=Tryd.func54.trans (congrArg some (by kernel_rfl))
 f286:=Tryd.func55.trans (congrArg some (by kernel_rfl))
 f317:=Tryd.func58.trans (congrArg some (by kernel_rfl))
 f318:=Tryd.func60.trans (congrArg some (by kernel_rfl))
 f319:=Tryd.func61.trans (congrArg some (by kernel_rfl))
 f320:=Tryd.func62.trans (congrArg some (by kernel_rfl))
 f337:=Tryd.func63.trans (congrArg some (by kernel_rfl))
 f338:=Tryd.func64.trans (congrArg some (by kernel_rfl))
 t0:=Tryd.underlying0
 a0:=Tryd.isAgg0
 z0:=Tryd.sizeOf0
 v0:=Tryd.zeroValue0
 t2:=Tryd.underlying2
 a2:=Tryd.isAgg2
 z2:=Tryd.sizeOf2
 v2:=Tryd.zeroValue2
 t3:=Tryd.underlying3
 a3:=Tryd.isAgg3
 z3:=Tryd.sizeOf3
 v3:=Tryd.zeroValue3
 t4:=Tryd.underlying4
 a4:=Tryd.isAgg4
 z4:=Tryd.sizeOf4
 v4:=Tryd.zeroValue4
 t5:=Tryd.underlying5
 a5:=Tryd.isAgg5
 z5:=Tryd.sizeOf5
 v5:=Tryd.zeroValue5
 t9:=Tryd.underlying9
 a9:=Tryd.isAgg9
 z9:=Tryd.sizeOf9
 v9:=Tryd.zeroValue9
 t20:=Tryd.underlying20
 a20:=Tryd.isAgg20
 z20:=Tryd.sizeOf20
 v20:=Tryd.zeroValue20
 t37:=Tryd.underlying44
 a37:=Tryd.isAgg44
 z37:=Tryd.sizeOf44
 v37:=Tryd.zeroValue44
 t46:=Tryd.underlying98
 a46:=Tryd.isAgg98
 z46:=Tryd.sizeOf98
 v46:=Tryd.zeroValue98
 t51:=Tryd.underlying122
 a51:=Tryd.isAgg122
 z51:=Tryd.sizeOf122
 v51:=Tryd.zeroValue122
 t53:=Tryd.underlying101
 a53:=Tryd.isAgg101
 z53:=Tryd.sizeOf101
 v53:=Tryd.zeroValue101
 t171:=Tryd.underlying108
 a171:=Tryd.isAgg108
 z171:=Tryd.sizeOf108
 v171:=Tryd.zeroValue108
 t173:=Tryd.underlying111
 a173:=Tryd.isAgg111
 z173:=Tryd.sizeOf111
 v173:=Tryd.zeroValue111
 t212:=Tryd.underlying121
 a212:=Tryd.isAgg121
 z212:=Tryd.sizeOf121
 v212:=Tryd.zeroValue121
 t213:=Tryd.underlying123
 a213:=Tryd.isAgg123
 z213:=Tryd.sizeOf123
 t232:=Tryd.underlying126
 a232:=Tryd.isAgg126
 z232:=Tryd.sizeOf126
 v232:=Tryd.zeroValue126
 t233:=Tryd.underlying127
 a233:=Tryd.isAgg127
 z233:=Tryd.sizeOf127
 v233:=Tryd.zeroValue127
 g17:=by kernel_rfl
 g18:=by kernel_rfl
 g19:=by kernel_rfl
 i0:=by kernel_rfl
 i2:=by kernel_rfl
 i3:=by kernel_rfl
 i4:=by kernel_rfl
 i5:=by kernel_rfl
 i9:=by kernel_rfl
 i20:=by kernel_rfl
 i37:=by kernel_rfl
 i46:=by kernel_rfl
 i51:=by kernel_rfl
 i53:=by kernel_rfl
 i171:=by kernel_rfl
 i173:=by kernel_rfl
 i212:=by kernel_rfl
 i232:=by kernel_rfl
 i233:=by kernel_rfl
 m17:=by kernel_rfl
 m18:=by kernel_rfl
 m19:=by kernel_rfl }
open Go.RowKit Go.Sort Go.Lib in
theorem Tryd.strconv_Itoa (n : Int) (h0 : -9223372036854775808 ≤ n) (h1 : n ≤ 9223372036854775807) (w : World) (htab : Lib.TabIs Tryd.prog w "internal/strconv.uint64pow10" .u64 Lib.pow10Tab) :
    Calls Tryd.prog 21 #[.int .i64 n] w fun e w'=>e = .returned (.string ⟨(Lib.itoa n).toArray⟩)/\∃ k os,w'=grow (w.drewN k) os:=Any.strconv_Itoa Tryd.laysM171 n h0 h1 w htab
def Tryd.laysC172_ren:Go.Shelf.Ren:=⟨fun | 172=>20 | 244=>30 | 245=>31 | 247=>40 | 279=>41 | 280=>42 | 281=>43 | 282=>44 | 287=>49 | 316=>50 | 171=>21 | 205=>51 | 321=>56 | 322=>57 | 243=>32 | 246=>45 | 283=>52 | 284=>53 | 285=>54 | 286=>55 | 129=>59 | 317=>58 | 318=>60 | 319=>61 | 320=>62 | 337=>63 | 338=>64 | n=>n,fun | 9=>9 | 3=>3 | 75=>50 | 76=>51 | 4=>4 | 5=>5 | 167=>91 | 37=>44 | 0=>0 | 85=>92 | 2=>2 | 168=>94 | 53=>101 | 175=>102 | 46=>98 | 210=>106 | 127=>115 | 145=>118 | 143=>116 | 21=>21 | 171=>108 | 173=>111 | 212=>121 | 51=>122 | 20=>20 | 213=>123 | 232=>126 | 233=>127 | 80=>128 | n=>n,fun | 15=>0 | 16=>1 | 17=>2 | 18=>3 | 19=>4 | n=>n⟩
theorem Tryd.laysC172:Go.Proofs.LaysC.n172 Tryd.prog Tryd.laysC172_ren:={
 mixed:=by kernel_rfl
 f129:=Tryd.func59.trans (congrArg some (by kernel_rfl))
 f171:=Tryd.func21.trans (congrArg some (by kernel_rfl))
 f172:=Tryd.func20.trans (congrArg some (by kernel_rfl))
 f205:=Tryd.func51.trans (congrArg some (by kernel_rfl))
 f243:=Tryd.func32.trans (congrArg some (by kernel_rfl))
 f244:=Tryd.func30.trans (congrArg some (by kernel_rfl))
 f245:=Tryd.func31.trans (congrArg some (by kernel_rfl))
 f246:=Tryd.func45.trans (congrArg some (by kernel_rfl))
 f247:=Tryd.func40.trans (congrArg some (by kernel_rfl))
 f279:=Tryd.func41.trans (congrArg some (by kernel_rfl))
 f280:=Tryd.func42.trans (congrArg some (by kernel_rfl))
 f281:=Tryd.func43.trans (congrArg some (by kernel_rfl))
 f282:=Tryd.func44.trans (congrArg some (by kernel_rfl))
 f283:=Tryd.func52.trans (congrArg some (by kernel_rfl))
 f284:=Tryd.func53.trans (congrArg some (by kernel_rfl))
 f285:=Tryd.func54.trans (congrArg some (by kernel_rfl))
 f286:=Tryd.func55.trans (congrArg some (by kernel_rfl))
 f287:=Tryd.func49.trans (congrArg some (by kernel_rfl))
 f316:=Tryd.func50.trans (congrArg some (by kernel_rfl))
 f317:=Tryd.func58.trans (congrArg some (by kernel_rfl))
 f318:=Tryd.func60.trans (congrArg some (by kernel_rfl))
 f319:=Tryd.func61.trans (congrArg some (by kernel_rfl))
 f320:=Tryd.func62.trans (congrArg some (by kernel_rfl))
 f321:=Tryd.func56.trans (congrArg some (by kernel_rfl))
 f322:=Tryd.func57.trans (congrArg some (by kernel_rfl))
 f337:=Tryd.func63.trans (congrArg some (by kernel_rfl))
 f338:=Tryd.func64.trans (congrArg some (by kernel_rfl))
 t0:=Tryd.underlying0
 a0:=Tryd.isAgg0
 z0:=Tryd.sizeOf0
 v0:=Tryd.zeroValue0
 t2:=Tryd.underlying2
 a2:=Tryd.isAgg2
 z2:=Tryd.sizeOf2
 v2:=Tryd.zeroValue2
 t3:=Tryd.underlying3
 a3:=Tryd.isAgg3
 z3:=Tryd.sizeOf3
 v3:=Tryd.zeroValue3
 t4:=Tryd.underlying4
 a4:=Tryd.isAgg4
 z4:=Tryd.sizeOf4
 v4:=Tryd.zeroValue4
 t5:=Tryd.underlying5
 a5:=Tryd.isAgg5
 z5:=Tryd.sizeOf5
 v5:=Tryd.zeroValue5
 t9:=Tryd.underlying9
 a9:=Tryd.isAgg9
 z9:=Tryd.sizeOf9
 v9:=Tryd.zeroValue9
 t20:=Tryd.underlying20
 a20:=Tryd.isAgg20
 z20:=Tryd.sizeOf20
 v20:=Tryd.zeroValue20
 t21:=Tryd.underlying21
 a21:=Tryd.isAgg21
 z21:=Tryd.sizeOf21
 v21:=Tryd.zeroValue21
 t37:=Tryd.underlying44
 a37:=Tryd.isAgg44
 z37:=Tryd.sizeOf44
 v37:=Tryd.zeroValue44
 t46:=Tryd.underlying98
 a46:=Tryd.isAgg98
 z46:=Tryd.sizeOf98
 v46:=Tryd.zeroValue98
 t51:=Tryd.underlying122
 a51:=Tryd.isAgg122
 z51:=Tryd.sizeOf122
 v51:=Tryd.zeroValue122
 t53:=Tryd.underlying101
 a53:=Tryd.isAgg101
 z53:=Tryd.sizeOf101
 v53:=Tryd.zeroValue101
 t75:=Tryd.underlying50
 a75:=Tryd.isAgg50
 z75:=Tryd.sizeOf50
 v75:=Tryd.zeroValue50
 t76:=Tryd.underlying51
 a76:=Tryd.isAgg51
 z76:=Tryd.sizeOf51
 v76:=Tryd.zeroValue51
 t85:=Tryd.underlying92
 a85:=Tryd.isAgg92
 z85:=Tryd.sizeOf92
 v85:=Tryd.zeroValue92
 t127:=Tryd.underlying115
 a127:=Tryd.isAgg115
 z127:=Tryd.sizeOf115
 v127:=Tryd.zeroValue115
 t143:=Tryd.underlying116
 a143:=Tryd.isAgg116
 z143:=Tryd.sizeOf116
 v143:=Tryd.zeroValue116
 t145:=Tryd.underlying118
 a145:=Tryd.isAgg118
 z145:=Tryd.sizeOf118
 v145:=Tryd.zeroValue118
 t167:=Tryd.underlying91
 a167:=Tryd.isAgg91
 z167:=Tryd.sizeOf91
 v167:=Tryd.zeroValue91
 t168:=Tryd.underlying94
 a168:=Tryd.isAgg94
 z168:=Tryd.sizeOf94
 v168:=Tryd.zeroValue94
 t171:=Tryd.underlying108
 a171:=Tryd.isAgg108
 z171:=Tryd.sizeOf108
 v171:=Tryd.zeroValue108
 t173:=Tryd.underlying111
 a173:=Tryd.isAgg111
 z173:=Tryd.sizeOf111
 v173:=Tryd.zeroValue111
 t175:=Tryd.underlying102
 a175:=Tryd.isAgg102
 z175:=Tryd.sizeOf102
 v175:=Tryd.zeroValue102
 t210:=Tryd.underlying106
 a210:=Tryd.isAgg106
 z210:=Tryd.sizeOf106
 v210:=Tryd.zeroValue106
 t212:=Tryd.underlying121
 a212:=Tryd.isAgg121
 z212:=Tryd.sizeOf121
 v212:=Tryd.zeroValue121
 t213:=Tryd.underlying123
 a213:=Tryd.isAgg123
 z213:=Tryd.sizeOf123
 t232:=Tryd.underlying126
 a232:=Tryd.isAgg126
 z232:=Tryd.sizeOf126
 v232:=Tryd.zeroValue126
 t233:=Tryd.underlying127
 a233:=Tryd.isAgg127
 z233:=Tryd.sizeOf127
 v233:=Tryd.zeroValue127
 g15:=by kernel_rfl
 g16:=by kernel_rfl
 g17:=by kernel_rfl
 g18:=by kernel_rfl
 g19:=by kernel_rfl
 t80:=Tryd.underlying128
 a80:=Tryd.isAgg128
 z80:=Tryd.sizeOf128
 v80:=Tryd.zeroValue128
 i0:=by kernel_rfl
 i2:=by kernel_rfl
 i3:=by kernel_rfl
 i4:=by kernel_rfl
 i5:=by kernel_rfl
 i9:=by kernel_rfl
 i20:=by kernel_rfl
 i21:=by kernel_rfl
 i37:=by kernel_rfl
 i46:=by kernel_rfl
 i51:=by kernel_rfl
 i53:=by kernel_rfl
 i75:=by kernel_rfl
 i76:=by kernel_rfl
 i80:=by kernel_rfl
 i85:=by kernel_rfl
 i127:=by kernel_rfl
 i143:=by kernel_rfl
 i145:=by kernel_rfl
 i167:=by kernel_rfl
 i168:=by kernel_rfl
 i171:=by kernel_rfl
 i173:=by kernel_rfl
 i175:=by kernel_rfl
 i210:=by kernel_rfl
 i212:=by kernel_rfl
 i232:=by kernel_rfl
 i233:=by kernel_rfl
 m15:=by kernel_rfl
 m16:=by kernel_rfl
 m17:=by kernel_rfl
 m18:=by kernel_rfl
 m19:=by kernel_rfl
 c0:=by kernel_rfl
 c2:=by kernel_rfl
 c3:=by kernel_rfl
 c4:=by kernel_rfl
 c5:=by kernel_rfl
 c9:=by kernel_rfl
 c20:=by kernel_rfl
 c21:=by kernel_rfl
 c37:=by kernel_rfl
 c46:=by kernel_rfl
 c51:=by kernel_rfl
 c53:=by kernel_rfl
 c75:=by kernel_rfl
 c76:=by kernel_rfl
 c80:=by kernel_rfl
 c85:=by kernel_rfl
 c127:=by kernel_rfl
 c143:=by kernel_rfl
 c145:=by kernel_rfl
 c167:=by kernel_rfl
 c168:=by kernel_rfl
 c171:=by kernel_rfl
 c173:=by kernel_rfl
 c175:=by kernel_rfl
 c210:=by kernel_rfl
 c212:=by kernel_rfl
 c213:=by kernel_rfl
 c232:=by kernel_rfl
 c233:=by kernel_rfl }
open Go.RowKit in
theorem Tryd.strconv_Atoi_ok (s:ByteArray) (hmax:s.size<=9223372036854775806) (v:Int) (h:Lib.atoiAll s.data.toList = .ok v) (w:World):
    Calls Tryd.prog 20 #[.string s] w fun e w'=>e = .returned (.tuple #[.int .i64 v,.nilIface])/\(w'=w\/∃ t,w'=Lib.bytesWorld w 5 t):=Any.strconv_Atoi_ok Tryd.laysC172 s hmax v h w
open Go.RowKit in
theorem Tryd.strconv_Atoi_syntax (s:ByteArray) (hlim:s.size<=281474976710656) (h:Lib.atoiAll s.data.toList=Lib.atoiAll []) (ev:Value) (w:World) (hv:w.cell? ⟨0,0,none⟩=some ev) (hev:ev = .nilIface\/∃ te pe,ev = .iface te pe):
    Calls Tryd.prog 20 #[.string s] w fun e w'=>∃ N,e = .returned (.tuple #[.int .i64 (0),.iface 94 (.pointer (some ⟨N,0,none⟩))])/\w.heap.size<=N/\w'.heap[N]?=some (.cells #[.string ⟨#[65,116,111,105]⟩,.string s,ev] 106 (0,0))/\Below w.heap.size w w':=Any.strconv_Atoi_syntax Tryd.laysC172 s hlim h ev w hv hev
open Go.RowKit in
theorem Tryd.strconv_Atoi_range (s:ByteArray) (hlim:s.size<=281474976710656) (h:Lib.atoiAll s.data.toList = .range) (ev:Value) (w:World) (hv:w.cell? ⟨1,0,none⟩=some ev) (hev:ev = .nilIface\/∃ te pe,ev = .iface te pe):
    Calls Tryd.prog 20 #[.string s] w fun e w'=>∃ N,e = .returned (.tuple #[.int .i64 (Lib.atoiSat s.data.toList),.iface 94 (.pointer (some ⟨N,0,none⟩))])/\w.heap.size<=N/\w'.heap[N]?=some (.cells #[.string ⟨#[65,116,111,105]⟩,.string s,ev] 106 (0,0))/\Below w.heap.size w w':=Any.strconv_Atoi_range Tryd.laysC172 s hlim h ev w hv hev
end Go.Proofs
/- Contracts of library functions, proved. -/
namespace Go.Proofs
open Go Go.Ax Go.Ab Go.RowKit
theorem arg1 {vs:Array Value} {d:D} {ν:Nat->Value} {nm:Nat->Bool} {w:World} {G:Lim} (hs:vs.size=[d].length) (h:∀ (i:Nat) (d':D),[d][i]?=some d'->∃ v,vs[i]?=some v/\DR ν nm w G v d'):∃ v,vs = #[v]/\DR ν nm w G v d:=by
 obtain ⟨v,hv,hd⟩:=h 0 d rfl;refine ⟨v,?_,hd⟩;have h1:vs.size=1:=hs;apply Array.ext_getElem?;intro i;cases i with
 | zero=>rw [hv];rfl
 | succ i=>rw [Array.getElem?_eq_none (by omega)];simp
theorem w21d (x:Int) (h:w21p 0 x=true):Does Tryd.prog 21 [.t (.v (.int .i64 x))] [] (.t (.v (.string ⟨⟨Lib.itoa x⟩⟩))) []:=by
 have h:=of_decide_eq_true h;refine Does.lib fun w ht G ν nm vs hs ha=>?_
 obtain ⟨v,rfl,hd⟩:=arg1 hs ha;have:=bool_of hd;subst this;refine (Tryd.strconv_Itoa x h.1 h.2 w ht.1).mono ?_;rintro e w' ⟨rfl,k,os,rfl⟩;exact ⟨_,rfl,Lib.below_grow w.heap.size w (Nat.le_refl _) k os,G,fun _ _=>rfl,fun ν nm=>.t (.v _ rfl)⟩
theorem w21ok (N:Nat):EOk Tryd.prog 21 (w21e N):=EOk.e1 fun x h=>w21d x h
theorem fin20 {E:Env} {w w':World} {ν:Nat->Value} {G:Lim} {s:List UInt8} {tm:Array Value} (_hE0:E.w0=w) (I:Inv E (args [.t (.v (.string ⟨⟨s⟩⟩))] []) ν G w tm) (hA:Aft w w') (n:Int) (ev:Value) (j:Nat) (he:viaR (j+2) (.slice none 0 0) ev) (h1:ev.oneCell'=true):
    ∃ v,Ending.returned (.tuple #[.int .i64 n,ev]) = .returned v/\R { E with m:=1 } (res (.tup [.t (.v (.int .i64 n)),.via 100 (viaR (j+2))]) [(100,.row 5 1 0 [] true)]) #[v] w':=by
 have J:=I.aft (G':=G) hA fun _ _=>rfl
 have one:∀ k o,Ab.look k [(100,AObj.row 5 1 0 [] true)]=some o->k=100/\o = .row 5 1 0 [] true:=fun k o hk=>by
  unfold Ab.look at hk;split at hk
  ·rename_i e;cases hk;exact ⟨e.symm,rfl⟩
  ·cases hk
 refine ⟨_,rfl,fun k=>if k=100 then .slice none 0 0 else ν k,G,⟨J.kept.os,J.kept.tape,J.kept.output,J.kept.size,J.kept.block⟩,J.keep,fun k a1 a2=>?_,J.g0,rfl,fun t d ht=>?_,fun k o hk=>?_,fun k o k' o' hk hk' hne=>?_⟩
 ·have a2:k < 100:=a2
  show (if k=100 then _ else ν k)=_;rw [if_neg (by omega)];exact J.pin k a1 a2
 ·cases t with
  | zero=>
    cases ht;refine ⟨_,rfl,.tup rfl fun i u d hu hd=>?_⟩
    match i,hu,hd with
    | 0,hu,hd=>cases hu;cases hd;exact .t (.v _ rfl)
    | 1,hu,hd=>cases hu;cases hd;exact .via rfl he h1
    | i+2,hu,hd=>simp at hu
  | succ t=>exact absurd (show (none:Option D)=some _ from ht) (by simp)
 ·obtain ⟨rfl,rfl⟩:=one k o hk
  exact ⟨rfl,[],World.ownsRow_nil _ _ _ _,rfl,fun i u t hu=>by simp at hu,fun g hg=>by cases hg⟩
 ·obtain ⟨rfl,rfl⟩:=one k o hk
  obtain ⟨rfl,rfl⟩:=one k' o' hk';exact absurd rfl hne
theorem w20d (s:List UInt8) (h:w20p 0 s=true):Does Tryd.prog 20 [.t (.v (.string ⟨⟨s⟩⟩))] [] (.tup [.t (.v (.int .i64 (w20y0 0 s))),.via 100 (viaR (w20y1 0 s+2))]) [(100,.row 5 1 0 [] true)]:=by
 have h:s.length<=1000000:=of_decide_eq_true h;intro E w vs hE0 hm hsz ⟨ν,G,I⟩;obtain ⟨v,hv,hd⟩:=I.T 0 (.t (.v (.string ⟨⟨s⟩⟩))) rfl;have:=bool_of hd;subst this;obtain ⟨u,rfl,_⟩:=arg1 (d:=.t (.v (.string ⟨⟨s⟩⟩))) hsz (fun i d' hd'=>I.T i d' hd');cases hv;have ht:=E.tab E.w0 (Nat.le_refl _) fun _ _ _=>rfl
 rw [hE0] at ht;have hs:(⟨⟨s⟩⟩:ByteArray).size=s.length:=rfl;have hl:(⟨⟨s⟩⟩:ByteArray).data.toList=s:=rfl;cases ha:Lib.atoiAll s with
 | ok n=>
   have e0:w20y0 0 s=n:=by unfold w20y0;rw [ha]
   have e1:w20y1 0 s=1:=by unfold w20y1;rw [ha]
   rw [e0,e1];refine (Tryd.strconv_Atoi_ok ⟨⟨s⟩⟩ (by rw [hs];omega) n (by rw [hl];exact ha) w).mono ?_;rintro e w' ⟨rfl,hw⟩;have hA:Aft w w':=by
    rcases hw with rfl | ⟨t,rfl⟩
    ·exact Aft.refl _
    ·exact Lib.bytesWorld_below w 5 t
   exact fin20 hE0 I hA n .nilIface 1 (.inl ⟨rfl,rfl⟩) rfl
 | range=>
   have e0:w20y0 0 s=Lib.atoiSat s:=by unfold w20y0;rw [ha]
   have e1:w20y1 0 s=0:=by unfold w20y1;rw [ha]
   rw [e0,e1];obtain ⟨te,pe,hev⟩:=ht.2.2.2;refine (Tryd.strconv_Atoi_range ⟨⟨s⟩⟩ (by rw [hs];omega) (by rw [hl];exact ha) _ w hev (.inr ⟨te,pe,rfl⟩)).mono ?_;rintro e w' ⟨N,rfl,_,_,hB⟩;exact fin20 hE0 I hB _ _ 0 (.inr ⟨by decide,_,_,rfl⟩) rfl
 | _=>
   have e0:w20y0 0 s=0:=by unfold w20y0;rw [ha]
   have e1:w20y1 0 s=0:=by unfold w20y1;rw [ha]
   rw [e0,e1];obtain ⟨te,pe,hev⟩:=ht.2.2.1;refine (Tryd.strconv_Atoi_syntax ⟨⟨s⟩⟩ (by rw [hs];omega) (by rw [hl];exact ha) _ w hev (.inr ⟨te,pe,rfl⟩)).mono ?_;rintro e w' ⟨N,rfl,_,_,hB⟩;exact fin20 hE0 I hB 0 _ 0 (.inr ⟨by decide,_,_,rfl⟩) rfl
theorem w20ok (N:Nat):EOk Tryd.prog 20 (w20e N):=EOk.e1 fun s h=>w20d s h
theorem luok (N:Nat):EOk Tryd.prog 999999 (lue N):=fun _ _ _ _ h=>by cases h
end Go.Proofs
