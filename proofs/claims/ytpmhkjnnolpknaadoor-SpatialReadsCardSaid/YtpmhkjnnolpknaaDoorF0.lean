/- Contracts of library functions. Conditions are in the theorems. -/
import Derived.Test.YtpmhkjnnolpknaaDoorE4
import Derived.Lib.ItoaNum
import Derived.Lib.Atoi
import Derived.Shelf.Strconv.Atoi
import Derived.Shelf.Strconv.Itoa0
import Derived.Shelf.Strconv.Itoa1
import Derived.Shelf.LaysM
import Derived.Shelf.Strconv.Itoa2
import Derived.Shelf.Strconv.Itoa3
import Derived.Shelf.Bits.Mul64
import Derived.Test.YtpmhkjnnolpknaaDoorProg
import Derived.Test.YtpmhkjnnolpknaaDoorE7
import Derived.Lib.AppendIntMem
import Derived.Lib.AtoiErrMem
import Derived.Shelf.RegionOpenPlain
import Derived.WalkKit
import Derived.Deep.LoopGhost
import Derived.Lib.Walk
import Derived.Lib.SliceRun
open Array renaming ext_getElem?->O0,getElem?_eq_none->EC
open Int renaming eq_ofNat_of_zero_le->Va
open List renaming flatMap->b8,length->dN
open Nat renaming le_refl->cQ
/- Contracts of library functions, as definitions. -/
namespace Go.Proofs
open Go.Ax
def CC(_:Nat)(x:Int):Bool:=decide (-9223372036854775808<=x/\x<=9223372036854775807)
def nI(_:Nat)(x:Int):List UInt8:=Lib.itoa x
def Pa(N:Nat):bR:=E1 (.i .i64) λx=>(CC N x,(.e .tx (nI N x),[]))
def CB(_:Nat)(s:List UInt8):Bool:=decide (s.length<=18)&&(Lib.atoi s).isSome
def Ik(_:Nat)(s:List UInt8):Int:=(Lib.atoi s).getD 0
def YL(N:Nat):bR:=E1 .tx λs=>(CB N s,(.aU [.e (.i .i64) (Ik N s),.v .nilIface],[]))
def O4(_:Nat)(x y:Int):Bool:=decide (0<=x/\x<18446744073709551616/\0<=y/\y<18446744073709551616)
def Vo(_:Nat)(x y:Int):Int:=x*y / 18446744073709551616
def Vn(_:Nat)(x y:Int):Int:=x*y%18446744073709551616
def Vp(N:Nat):bR:=E2 (.i .u64) (.i .u64) λx y=>(O4 N x y,(.aU [.e (.i .u64) (Vo N x y),.e (.i .u64) (Vn N x y)],[]))
def yK(_:Nat)(l:List (List UInt8)):Bool:=b9 l.length 24
def XR(N:Nat):bR:=E1 (.sl (.sl .u8)) λl=>(yK N l,(.own 100,[(100,.row 42 (.sl .u8) l true)]))
def aF9(_:Nat):bR:=E0 (true,(.e .bo true,[]))
def lue(_:Nat):bR:=λ_ _=>none
end Go.Proofs
/-
 DERIVED: THE SHELF's CONTRACTS AT THIS DUMP, IN PLAIN WORDS (tools/lay-plain.mjs out of 'TrydShelf.lean', which tools/lay-shelf.mjs wrote): THE SAME DECLARATIONS UNDER THE SAME NAMES: 'import', 'namespace', 'open', 'def', 'theorem' AND NOTHING ELSE: no command of the shelf's: FOR A HAND-IN. Each laying: the table of numbers ('.._ren') and one theorem, a field a fact of the dump's own or the kernel's comparison; each contract: ONE APPLICATION.
-/
namespace Go.Proofs
open Go.Shelf
def Tryd.aYk:Go.Shelf.Ren:=⟨λ|172=>68|244=>84|245=>85|247=>93|279=>94|280=>95|281=>96|282=>97|287=>104|316=>105|171=>67|205=>106|321=>112|322=>113|243=>83|246=>92|283=>100|284=>101|285=>102|286=>103|129=>108|317=>107|318=>109|319=>110|320=>111|337=>114|338=>115|n=>n,λ|9=>9|3=>3|75=>86|76=>87|4=>4|5=>5|167=>115|37=>42|0=>0|85=>116|2=>2|168=>118|53=>124|175=>132|46=>111|210=>136|127=>143|145=>146|143=>144|21=>21|171=>127|173=>130|212=>139|51=>121|20=>20|213=>140|232=>148|233=>149|80=>150|n=>n,λ|15=>0|16=>1|17=>2|18=>3|19=>4|n=>n⟩
theorem Tryd.aYl:Go.Proofs.Lays.n172 Tryd.prog Tryd.aYk:={
 mixed:=by kernel_rfl
 f129:=Tryd.func108.trans (aY some (by kernel_rfl))
 f171:=Tryd.func67.trans (aY some (by kernel_rfl))
 f172:=Tryd.func68.trans (aY some (by kernel_rfl))
 f205:=Tryd.func106.trans (aY some (by kernel_rfl))
 f243:=Tryd.func83.trans (aY some (by kernel_rfl))
 f244:=Tryd.func84.trans (aY some (by kernel_rfl))
 f245:=Tryd.func85.trans (aY some (by kernel_rfl))
 f246:=Tryd.func92.trans (aY some (by kernel_rfl))
 f247:=Tryd.func93.trans (aY some (by kernel_rfl))
 f279:=Tryd.func94.trans (aY some (by kernel_rfl))
 f280:=Tryd.func95.trans (aY some (by kernel_rfl))
 f281:=Tryd.func96.trans (aY some (by kernel_rfl))
 f282:=Tryd.func97.trans (aY some (by kernel_rfl))
 f283:=Tryd.func100.trans (aY some (by kernel_rfl))
 f284:=Tryd.func101.trans (aY some (by kernel_rfl))
 f285:=Tryd.func102.trans (aY some (by kernel_rfl))
 f286:=Tryd.func103.trans (aY some (by kernel_rfl))
 f287:=Tryd.func104.trans (aY some (by kernel_rfl))
 f316:=Tryd.func105.trans (aY some (by kernel_rfl))
 f317:=Tryd.func107.trans (aY some (by kernel_rfl))
 f318:=Tryd.func109.trans (aY some (by kernel_rfl))
 f319:=Tryd.func110.trans (aY some (by kernel_rfl))
 f320:=Tryd.func111.trans (aY some (by kernel_rfl))
 f321:=Tryd.func112.trans (aY some (by kernel_rfl))
 f322:=Tryd.func113.trans (aY some (by kernel_rfl))
 f337:=Tryd.func114.trans (aY some (by kernel_rfl))
 f338:=Tryd.func115.trans (aY some (by kernel_rfl))
 t0:=Tryd.underlying0
 a0:=Tryd.isAgg0
 z0:=Tryd.sizeOf0
 v0:=Tryd.zeroValue0
 t2:=Tryd.underlying2
 a2:=Tryd.isAgg2
 z2:=Tryd.sizeOf2
 v2:=Tryd.zeroValue2
 t3:=Tryd.underlying3
 a3:=Tryd.isAgg3
 z3:=Tryd.sizeOf3
 v3:=Tryd.zeroValue3
 t4:=Tryd.underlying4
 a4:=Tryd.isAgg4
 z4:=Tryd.sizeOf4
 v4:=Tryd.zeroValue4
 t5:=Tryd.underlying5
 a5:=Tryd.isAgg5
 z5:=Tryd.sizeOf5
 v5:=Tryd.zeroValue5
 t9:=Tryd.underlying9
 a9:=Tryd.isAgg9
 z9:=Tryd.sizeOf9
 v9:=Tryd.zeroValue9
 t20:=Tryd.underlying20
 a20:=Tryd.isAgg20
 z20:=Tryd.sizeOf20
 v20:=Tryd.zeroValue20
 t21:=Tryd.underlying21
 a21:=Tryd.isAgg21
 z21:=Tryd.sizeOf21
 v21:=Tryd.zeroValue21
 t37:=Tryd.underlying42
 a37:=Tryd.isAgg42
 z37:=Tryd.sizeOf42
 v37:=Tryd.zeroValue42
 t46:=Tryd.underlying111
 a46:=Tryd.isAgg111
 z46:=Tryd.sizeOf111
 v46:=Tryd.zeroValue111
 t51:=Tryd.underlying121
 a51:=Tryd.isAgg121
 z51:=Tryd.sizeOf121
 v51:=Tryd.zeroValue121
 t53:=Tryd.underlying124
 a53:=Tryd.isAgg124
 z53:=Tryd.sizeOf124
 v53:=Tryd.zeroValue124
 t75:=Tryd.underlying86
 a75:=Tryd.isAgg86
 z75:=Tryd.sizeOf86
 v75:=Tryd.zeroValue86
 t76:=Tryd.underlying87
 a76:=Tryd.isAgg87
 z76:=Tryd.sizeOf87
 v76:=Tryd.zeroValue87
 t85:=Tryd.underlying116
 a85:=Tryd.isAgg116
 z85:=Tryd.sizeOf116
 v85:=Tryd.zeroValue116
 t127:=Tryd.underlying143
 a127:=Tryd.isAgg143
 z127:=Tryd.sizeOf143
 v127:=Tryd.zeroValue143
 t143:=Tryd.underlying144
 a143:=Tryd.isAgg144
 z143:=Tryd.sizeOf144
 v143:=Tryd.zeroValue144
 t145:=Tryd.underlying146
 a145:=Tryd.isAgg146
 z145:=Tryd.sizeOf146
 v145:=Tryd.zeroValue146
 t167:=Tryd.underlying115
 a167:=Tryd.isAgg115
 z167:=Tryd.sizeOf115
 v167:=Tryd.zeroValue115
 t168:=Tryd.underlying118
 a168:=Tryd.isAgg118
 z168:=Tryd.sizeOf118
 v168:=Tryd.zeroValue118
 t171:=Tryd.underlying127
 a171:=Tryd.isAgg127
 z171:=Tryd.sizeOf127
 v171:=Tryd.zeroValue127
 t173:=Tryd.underlying130
 a173:=Tryd.isAgg130
 z173:=Tryd.sizeOf130
 v173:=Tryd.zeroValue130
 t175:=Tryd.underlying132
 a175:=Tryd.isAgg132
 z175:=Tryd.sizeOf132
 v175:=Tryd.zeroValue132
 t210:=Tryd.underlying136
 a210:=Tryd.isAgg136
 z210:=Tryd.sizeOf136
 v210:=Tryd.zeroValue136
 t212:=Tryd.underlying139
 a212:=Tryd.isAgg139
 z212:=Tryd.sizeOf139
 v212:=Tryd.zeroValue139
 t213:=Tryd.underlying140
 a213:=Tryd.isAgg140
 z213:=Tryd.sizeOf140
 t232:=Tryd.underlying148
 a232:=Tryd.isAgg148
 z232:=Tryd.sizeOf148
 v232:=Tryd.zeroValue148
 t233:=Tryd.underlying149
 a233:=Tryd.isAgg149
 z233:=Tryd.sizeOf149
 v233:=Tryd.zeroValue149
 g15:=by kernel_rfl
 g16:=by kernel_rfl
 g17:=by kernel_rfl
 g18:=by kernel_rfl
 g19:=by kernel_rfl }
open Go.RowKit in
theorem Tryd.strconv_Atoi(s:ByteArray)(n:Int)(hl:s.size<=18)(h:Lib.atoi s.data.toList=some n)(w:World):
    Calls Tryd.prog 68 #[.string s] w λe w'=>e = .returned (.tuple #[.int .i64 n,.nilIface])/\∃t,w'=Lib.bytesWorld w 5 t:=Any.strconv_Atoi Tryd.aYl s n hl h w
def Tryd.aYg:Go.Shelf.Ren:=⟨λ|171=>67|243=>83|246=>92|283=>100|284=>101|285=>102|286=>103|129=>108|317=>107|318=>109|319=>110|320=>111|337=>114|338=>115|n=>n,λ|3=>3|9=>9|2=>2|4=>4|171=>127|0=>0|53=>124|37=>42|5=>5|173=>130|212=>139|51=>121|20=>20|213=>140|46=>111|232=>148|233=>149|n=>n,λ|17=>2|18=>3|19=>4|n=>n⟩
theorem Tryd.aYh:Go.Proofs.LaysM.n171 Tryd.prog Tryd.aYg:={
 mixed:=by kernel_rfl
 f129:=Tryd.func108.trans (aY some (by kernel_rfl))
 f171:=Tryd.func67.trans (aY some (by kernel_rfl))
 f243:=Tryd.func83.trans (aY some (by kernel_rfl))
 f246:=Tryd.func92.trans (aY some (by kernel_rfl))
 f283:=Tryd.func100.trans (aY some (by kernel_rfl))
 f284:=Tryd.func101.trans (aY some (by kernel_rfl))
 f285:=Tryd.func102.trans (aY some (by kernel_rfl))
 f286:=Tryd.func103.trans (aY some (by kernel_rfl))
 f317:=Tryd.func107.trans (aY some (by kernel_rfl))
 f318:=Tryd.func109.trans (aY some (by kernel_rfl))
 f319:=Tryd.func110.trans (aY some (by kernel_rfl))
 f320:=Tryd.func111.trans (aY some (by kernel_rfl))
 f337:=Tryd.func114.trans (aY some (by kernel_rfl))
 f338:=Tryd.func115.trans (aY some (by kernel_rfl))
 t0:=Tryd.underlying0
 a0:=Tryd.isAgg0
 z0:=Tryd.sizeOf0
 v0:=Tryd.zeroValue0
 t2:=Tryd.underlying2
 a2:=Tryd.isAgg2
 z2:=Tryd.sizeOf2
 v2:=Tryd.zeroValue2
 t3:=Tryd.underlying3
 a3:=Tryd.isAgg3
 z3:=Tryd.sizeOf3
 v3:=Tryd.zeroValue3
 t4:=Tryd.underlying4
 a4:=Tryd.isAgg4
 z4:=Tryd.sizeOf4
 v4:=Tryd.zeroValue4
 t5:=Tryd.underlying5
 a5:=Tryd.isAgg5
 z5:=Tryd.sizeOf5
 v5:=Tryd.zeroValue5
 t9:=Tryd.underlying9
 a9:=Tryd.isAgg9
 z9:=Tryd.sizeOf9
 v9:=Tryd.zeroValue9
 t20:=Tryd.underlying20
 a20:=Tryd.isAgg20
 z20:=Tryd.sizeOf20
 v20:=Tryd.zeroValue20
 t37:=Tryd.underlying42
 a37:=Tryd.isAgg42
 z37:=Tryd.sizeOf42
 v37:=Tryd.zeroValue42
 t46:=Tryd.underlying111
 a46:=Tryd.isAgg111
 z46:=Tryd.sizeOf111
 v46:=Tryd.zeroValue111
 t51:=Tryd.underlying121
 a51:=Tryd.isAgg121
 z51:=Tryd.sizeOf121
 v51:=Tryd.zeroValue121
 t53:=Tryd.underlying124
 a53:=Tryd.isAgg124
 z53:=Tryd.sizeOf124
 v53:=Tryd.zeroValue124
 t171:=Tryd.underlying127
 a171:=Tryd.isAgg127
 z171:=Tryd.sizeOf127
 v171:=Tryd.zeroValue127
 t173:=Tryd.underlying130
 a173:=Tryd.isAgg130
 z173:=Tryd.sizeOf130
 v173:=Tryd.zeroValue130
 t212:=Tryd.underlying139
 a212:=Tryd.isAgg139
 z212:=Tryd.sizeOf139
 v212:=Tryd.zeroValue139
 t213:=Tryd.underlying140
 a213:=Tryd.isAgg140
 z213:=Tryd.sizeOf140
 t232:=Tryd.underlying148
 a232:=Tryd.isAgg148
 z232:=Tryd.sizeOf148
 v232:=Tryd.zeroValue148
 t233:=Tryd.underlying149
 a233:=Tryd.isAgg149
 z233:=Tryd.sizeOf149
 v233:=Tryd.zeroValue149
 g17:=by kernel_rfl
 g18:=by kernel_rfl
 g19:=by kernel_rfl
 i0:=by kernel_rfl
 i2:=by kernel_rfl
 i3:=by kernel_rfl
 i4:=by kernel_rfl
 i5:=by kernel_rfl
 i9:=by kernel_rfl
 i20:=by kernel_rfl
 i37:=by kernel_rfl
 i46:=by kernel_rfl
 i51:=by kernel_rfl
 i53:=by kernel_rfl
 i171:=by kernel_rfl
 i173:=by kernel_rfl
 i212:=by kernel_rfl
 i232:=by kernel_rfl
 i233:=by kernel_rfl
 m17:=by kernel_rfl
 m18:=by kernel_rfl
 m19:=by kernel_rfl }
open Go.RowKit Go.Sort Go.Lib in
theorem Tryd.strconv_Itoa (n : Int) (h0 : -9223372036854775808 ≤ n) (h1 : n ≤ 9223372036854775807) (w : World) (htab : Lib.TabIs Tryd.prog w "internal/strconv.uint64pow10" .u64 Lib.pow10Tab) :
    Calls Tryd.prog 67 #[.int .i64 n] w λe w'=>e = .returned (.string ⟨(Lib.itoa n).toArray⟩)/\∃k os,w'=grow (w.drewN k) os:=Any.strconv_Itoa Tryd.aYh n h0 h1 w htab
def Tryd.aYi:Go.Shelf.Ren:=⟨λ|212=>91|263=>98|264=>99|n=>n,λ|46=>111|51=>121|146=>122|53=>124|148=>125|n=>n,λ|n=>n⟩
theorem Tryd.aYj:Go.Proofs.Lays.n212 Tryd.prog Tryd.aYi:={
 mixed:=by kernel_rfl
 f212:=Tryd.func91.trans (aY some (by kernel_rfl))
 f263:=Tryd.func98.trans (aY some (by kernel_rfl))
 f264:=Tryd.func99.trans (aY some (by kernel_rfl))
 t46:=Tryd.underlying111
 a46:=Tryd.isAgg111
 z46:=Tryd.sizeOf111
 v46:=Tryd.zeroValue111
 t51:=Tryd.underlying121
 a51:=Tryd.isAgg121
 z51:=Tryd.sizeOf121
 v51:=Tryd.zeroValue121
 t53:=Tryd.underlying124
 a53:=Tryd.isAgg124
 z53:=Tryd.sizeOf124
 v53:=Tryd.zeroValue124
 t146:=Tryd.underlying122
 a146:=Tryd.isAgg122
 z146:=Tryd.sizeOf122
 v146:=Tryd.zeroValue122
 t148:=Tryd.underlying125
 a148:=Tryd.isAgg125
 z148:=Tryd.sizeOf125
 v148:=Tryd.zeroValue125 }
open Go.RowKit Go.Lib in
theorem Tryd.bits_Mul(x y:Nat)(hx:x<18446744073709551616)(hy:y<18446744073709551616)(w:World):
    Calls Tryd.prog 91 #[.int .u64 x,.int .u64 y] w λe w'=>e = .returned (.tuple #[.int .u64 ((x*y / 18446744073709551616:Nat):Int),.int .u64 ((x*y%18446744073709551616:Nat):Int)])/\w'=w:=Any.bits_Mul Tryd.aYj x y hx hy w
end Go.Proofs
/- Contracts of library functions, proved. -/
namespace Go.Proofs
open Go Go.Ax Go.Ab Go.RowKit
theorem aG7{vs:Array Value}{d:D}{ν:Nat->Value}{nm:Nat->Bool}{w:World}{G:bT}(hs:vs.size=[d].length)(h:∀(i:Nat)(d':D),[d][i]?=some d'->∃v,vs[i]?=some v/\DR ν nm w G v d'):∃v,vs = #[v]/\DR ν nm w G v d:=by
 obtain⟨v,hv,hd⟩:=h 0 d rfl;refine⟨v,?_,hd⟩;have h1:vs.size=1:=hs;apply O0;intro i;cases i with
 |zero=>rw[hv];rfl
 |succ i=>rw[EC (by omega)];simp
theorem a1F{vs:Array Value}{d e:D}{ν:Nat->Value}{nm:Nat->Bool}{w:World}{G:bT}(hs:vs.size=[d,e].length)(h:∀(i:Nat)(d':D),[d,e][i]?=some d'->∃v,vs[i]?=some v/\DR ν nm w G v d'):∃v u,vs = #[v,u]/\DR ν nm w G v d/\DR ν nm w G u e:=by
 obtain⟨v,hv,hd⟩:=h 0 d rfl;obtain⟨u,hu,he⟩:=h 1 e rfl;refine⟨v,u,?_,hd,he⟩;have h1:vs.size=2:=hs;apply O0;intro i
 match i with
 |0=>rw[hv];rfl
 |1=>rw[hu];rfl
 |i+2=>rw[EC (by omega)];simp
theorem aKt(x:Int)(h:CC 0 x=true):dO Tryd.prog 67 [.t (.v (.int .i64 x))] [] (.t (.v (.string ⟨⟨Lib.itoa x⟩⟩))) []:=by
 have h:=cT h;refine dO.UO λw ht G ν nm vs hs ha=>?_
 obtain⟨v,rfl,hd⟩:=aG7 hs ha;have:=cC hd;subst this;refine(Tryd.strconv_Itoa x h.1 h.2 w ht.1).mono ?_;rintro e w' ⟨rfl,k,os,rfl⟩;exact⟨_,rfl,Lib.below_grow w.heap.size w (cQ _) k os,G,λ_ _=>rfl,λν nm=>.t (.v _ rfl)⟩
theorem YM(N:Nat):aX Tryd.prog 67 (Pa N):=aX.e1 λx h=>aKt x h
theorem aKr(x:List UInt8)(h:CB 0 x=true):dO Tryd.prog 68 [.t (.v (.string ⟨⟨x⟩⟩))] [] (.aU [.t (.v (.int .i64 ((Lib.atoi x).getD 0))),.t (.v .nilIface)]) []:=by
 unfold CB at h;rw[Bool.and_eq_true]at h;obtain⟨h1,h2⟩:=h;have h1:=cT h1;obtain⟨n,hn⟩:=Option.isSome_iff_exists.1 h2;rw[hn];refine dO.UO λw ht G ν nm vs hs ha=>?_
 obtain⟨v,rfl,hd⟩:=aG7 hs ha;have:=cC hd;subst this;refine(Tryd.strconv_Atoi ⟨⟨x⟩⟩ n h1 hn w).mono ?_;rintro e w' ⟨rfl,t,rfl⟩;exact⟨_,rfl,Lib.bytesWorld_below w 5 t,G,λ_ _=>rfl,λν nm=>Mg (.t (.v _ rfl)) (.t (.v _ rfl))⟩
theorem aKq(N:Nat):aX Tryd.prog 68 (YL N):=aX.e1 λx h=>aKr x h
theorem aHL(x y:Int)(h:O4 0 x y=true):dO Tryd.prog 91 [.t (.v (.int .u64 x)),.t (.v (.int .u64 y))] [] (.aU [.t (.v (.int .u64 (x*y / 18446744073709551616))),.t (.v (.int .u64 (x*y%18446744073709551616)))]) []:=by
 have h:=cT h;obtain⟨h1,h2,h3,h4⟩:=h;obtain⟨m,rfl⟩:=Va h1;obtain⟨n,rfl⟩:=Va h3;refine dO.UO λw ht G ν nm vs hs ha=>?_
 obtain⟨v,u,rfl,hd,he⟩:=a1F hs ha;have:=cC hd;subst this;have:=cC he;subst this;refine(Tryd.bits_Mul m n (by omega) (by omega) w).mono ?_;rintro e w' ⟨rfl,rfl⟩;exact⟨_,rfl,cG.refl _,G,λ_ _=>rfl,λν nm=>Mg (.t (.v _ rfl)) (.t (.v _ rfl))⟩
theorem aHK(N:Nat):aX Tryd.prog 91 (Vp N):=aX.e2 λx y h=>aHL x y h
theorem aY3(N:Nat):aX Tryd.prog 999999 (lue N):=λxs H pre r h _=>by cases h
end Go.Proofs
/- slices.Clone of a page: nil, or a row of the call's own. -/
namespace Go.Proofs
open Go Go.RowKit Go.Lib
set_option maxRecDepth 100000 in
theorem aGQ(ad:Addr)(n c:Nat)(news:List Value)(w:World)(hl:news.length=n)(hbig:n*24<=140737488355328)
    (hc:∀j u,news[j]?=some u->w.cell? (ad.add j)=some u) (h1:∀u∈news,u.oneCell'=true):
    Calls Tryd.prog 74 #[.slice (some ad) n c] w λe w'=>∃v',e = .returned v'/\w'.ownsRow w.heap.size 42 1 v' n news/\Below w.heap.size w w':=by
 have q22:∀(w:World)(a:Option Addr)(n c n' c':Nat),(binOp .eql 37 (.slice a n c) (.slice none n' c')).run Tryd.prog w = .ok (.bool a.isNone) w:=λw a n c n' c'=>Lib.run_eql_slice_nil w _ _ a n c n' c' Tryd.underlying37
 obtain⟨i0,hi,hq⟩:=Option.map_eq_some_iff.1 (show(Tryd.prog.info? 42).map (λi=>(i.zero,i.size,i.bytes))=some (some (.slice none 0 0),1,24)by kernel_rfl);simp only[Prod.mk.injEq]at hq;obtain⟨hz0,hz1,hz2⟩:=hq;have A:Aside (∀j u,news[j]?=some u->w.cell? (ad.add j)=some u):=hc;clear hc
 go_enter Tryd.func74,Tryd.ntmps74
 go_wp2_with (at_builtin;refine wpList_append_own _ rfl _ _ 37 rfl w.heap.size 42 i0 (.slice none 0 0) 1 24 Tryd.underlying37 hi hz0 hz1 hz2 rfl (by decide) _ _ _ rfl (World.ownsRow_made w #[] 0 (cQ _) (Nat.zero_le _) rfl) ad n c news rfl ?qc1 ?qc2 ?qc3 ?qc4 ?qc5 ?qc6 ?_)
 case qc1=>omega
 case qc2=>
  intro j u hj;exact Lib.cell?_alloc_some _ (A.out j u hj)
 case qc3=>exact h1
 case qc4=>rw[Nat.zero_add];unfold maxLen;omega
 case qc5=>rw[Nat.zero_add];exact hbig
 case qc6=>simp
 intro v' w1 hown hgrow hnil
 go_wp2
 go_ret
 exact⟨v',rfl,by simpa using hown,((Below.refl _ w).alloc (cQ _) _).grown hgrow (by simp) (by intro k hk;simp[Value.ownBlock]at hk;omega)⟩
theorem a0Z(n c:Nat)(w:World):
    Calls Tryd.prog 74 #[.slice none n c] w λe w'=>e = .returned (.slice none 0 0)/\w'=w:=by
 have q22:∀(w:World)(a:Option Addr)(n c n' c':Nat),(binOp .eql 37 (.slice a n c) (.slice none n' c')).run Tryd.prog w = .ok (.bool a.isNone) w:=λw a n c n' c'=>Lib.run_eql_slice_nil w _ _ a n c n' c' Tryd.underlying37
 go_enter Tryd.func74,Tryd.ntmps74
 go_wp2
 go_ret
 exact⟨rfl,rfl⟩
end Go.Proofs
/- slices.Clone of a page, as a contract. -/
namespace Go.Proofs
open Go Go.Ax Go.Ab Go.RowKit
theorem TR.fN{w w':World}{G G':bT}{v:Value}{t:Tree}(h:TR w G v t)(hA:cG w w')(hG:∀b,b<w.heap.size->G' b=G b):TR w' G' v t:=h.mono λ_ _ _ hc=>hc.fN hA hG
theorem dO.aWd{P:Program}{f:FuncId}{d:D}{e:TypeId}{n:Nat}{ts:List Tree}
    (h:∀(w:World)(G:bT)(ν:Nat->Value)(nm:Nat->Bool)(v:Value),DR ν nm w G v d->
     Calls P f #[v] w λen w'=>∃v' news,en = .returned v'/\w'.ownsRow w.heap.size e 1 v' n news/\cG w w'/\news.length=ts.length/\∀(i:Nat)(u:Value)(t:Tree),news[i]?=some u->ts[i]?=some t->TR w G u t):
    dO P f [d] [] (.own 100) [(100,.row e 1 n ts true)]:=by
 intro E w vs hE0 hm hsz ⟨ν,G,I⟩;obtain⟨v,hv,hd⟩:=I.T 0 d rfl;have hvs:vs = #[v]:=by
  have h1:vs.size=1:=hsz;apply O0;intro i;cases i with
  |zero=>rw[hv];rfl
  |succ i=>rw[EC (by omega)];simp
 subst hvs;refine(h w G ν _ v hd).mono ?_;rintro en w' ⟨v',news,rfl,hown,hA,hnl,hnews⟩;refine⟨v',rfl,λk=>if k=100 then v' else ν k,λb=>if b<w.heap.size then G b else n,?_⟩;have hG:∀b,b<w.heap.size->(λb=>if b<w.heap.size then G b else n) b=G b:=λb hb=>by simp[hb]
 have J:=I.fN hA hG;have hblk:∀g,aV v'=some g->w.heap.size<=g:=λg hg=>by
  rcases hown.2 with⟨rfl,_⟩|⟨g',cap,cur,rfl,h2,_⟩
  .cases hg
  .cases hg;exact h2
 have hE:E.w0.heap.size=w.heap.size:=by rw[hE0]
 refine⟨⟨J.kept.os,J.kept.tape,J.kept.output,J.kept.size,J.kept.block⟩,J.dY,λk h1 h2=>?_,J.g0,rfl,λt d' ht=>?_,λk o hk=>?_,λk o k' o' hk hk' hne=>?_⟩
 .show(if k=100 then v' else ν k)=_
  rw[aH (by omega)];exact J.fA k h1 h2
 .cases t with
  |zero=>
    cases ht;refine⟨v',rfl,?_⟩;have:DR (λk=>if k=100 then v' else ν k) (λk=>decide (k<108)) w' (λb=>if b<w.heap.size then G b else n) ((λk=>if k=100 then v' else ν k) 100) (.own 100):=.own rfl (by show(if 100=100 then v' else ν 100).oneCell'=true;rw[aJ rfl];exact lV hown);simpa using this
  |succ t=>exact absurd (show(none:Option D)=some _ from ht) (by simp)
 .have hk':Go.Ab.look k [(100,aQ.row e 1 n ts true)]=some o:=hk
  by_cases h100:k=100
  .subst h100
   have:o=aQ.row e 1 n ts true:=by simpa[Go.Ab.look]using hk'.symm
   subst this;refine⟨rfl,news,?_,hnl,λi u t hu ht=>TR.fN (hnews i u t hu ht) hA hG,λg hg=>?_⟩
   .show w'.ownsRow 0 e 1 (if 100=100 then v' else ν 100) n news
    rw[aJ rfl];exact⟨hown.1,hown.2.imp id λ⟨g,cap,cur,h1,_,h3⟩=>⟨g,cap,cur,h1,Nat.zero_le _,h3⟩⟩
   .have hg:aV (if 100=100 then v' else ν 100)=some g:=hg
    rw[aJ rfl]at hg;have:=hblk g hg;refine⟨.inl (by show E.w0.heap.size<=g;omega),?_⟩;show(if g<w.heap.size then G g else n)=n*1;rw[aH (by omega),Nat.mul_one]
  .exfalso
   simp[Go.Ab.look]at hk';exact h100 hk'.1.symm
 .exfalso
  have a1:Go.Ab.look k [(100,aQ.row e 1 n ts true)]=some o:=hk;have a2:Go.Ab.look k' [(100,aQ.row e 1 n ts true)]=some o':=hk';by_cases h1:k=100
  .by_cases h2:k'=100
   .exact hne (h1.trans h2.symm)
   .simp[Go.Ab.look]at a2
    exact h2 a2.1.symm
  .simp[Go.Ab.look]at a1
   exact h1 a1.1.symm
theorem aJU(N:Nat):aX Tryd.prog 74 (XR N):=aX.e1 λl h=>by
 have h:b9 (dN (α:=List UInt8) l) 24=true:=h;have hb:=(cT h).1;show dO Tryd.prog 74 [.t (.sl (dN (α:=List UInt8) l) (b8 (aR (.sl .u8)) l))] [] (.own 100) [(100,.row 42 1 (dN (α:=List UInt8) l) (b8 (aR (.sl .u8)) l) true)];have hlen:(b8 (aR (.sl .u8)) l).length=dN (α:=List UInt8) l:=(o7 (τ:=.sl .u8) l).trans (Nat.mul_one _);generalize b8 (aR (.sl .u8)) l=ts at *
 generalize dN (α:=List UInt8) l=n at *
 refine dO.aWd λw G ν nm v hd=>?_
 cases hd with
 |t hd=>
   cases hd with
   | @nil a c hc=>
     cases a with
     |none=>
       refine(a0Z 0 c w).mono ?_;rintro e w' ⟨rfl,rfl⟩;exact⟨_,[],rfl,⟨by simp,.inl ⟨rfl,rfl⟩⟩,cG.refl _,rfl,λi u t hu=>by cases hu⟩
     |some ad=>
       refine(aGQ ad 0 c [] w rfl (by omega) (λj u h=>by cases h) (λu h=>by cases h)).mono ?_;rintro e w' ⟨v',rfl,hown,hb⟩;exact⟨v',[],rfl,hown,hb,rfl,λi u t hu=>by cases hu⟩
   |sl b o n c us ts hl hc hn hr=>
     refine(aGQ ⟨b,o,none⟩ n c us w (by omega) hb (λj u hj=>?_) (λu hu=>?_)).mono ?_
     .have:=(hc j u hj).1
      rw[show(⟨b,o,none⟩:Addr).add j=⟨b,o+j,none⟩by unfold Addr.add;by_cases h0:j=0 <;> simp[h0]];exact this
     .obtain⟨i,hi⟩:=List.mem_iff_getElem?.1 hu
      obtain⟨t,ht⟩:∃t,ts[i]?=some t:=⟨_,List.getElem?_eq_getElem (by rw[<-hl];exact(List.getElem?_eq_some_iff.1 hi).1)⟩
      exact(hr i u t hi ht).one
     .rintro e w' ⟨v',rfl,hown,hb⟩
      exact⟨v',us,rfl,hown,hb,hl,λi u t hu ht=>hr i u t hu ht⟩
end Go.Proofs
