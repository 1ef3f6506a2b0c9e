/- Contracts of library functions; what a listing is made of. Conditions are in the theorems. -/
import Derived.Test.YtihfefggdgiodaaGreatDoorE4
import Derived.Lib.ItoaNum
import Derived.Lib.AtoiAll
import Derived.Lib.Repeat
import Derived.Shelf.LaysM
import Derived.Shelf.Strconv.Itoa3
import Derived.Shelf.LaysC
import Derived.Shelf.Strconv.AtoiAll
import Derived.Shelf.Strings.Repeat
import Derived.Shelf.Bytes.SlIndexSmall
import Derived.Shelf.Bytes.SlIndexAt
import Derived.Ground.SlbtProg
import Derived.Shelf.Bytes.SlCut
import Derived.Test.YtihfefggdgiodaaGreatDoorProg
import Derived.Test.YtihfefggdgiodaaGreatDoorE7
import Derived.Test.YtihfefggdgiodaaGreatDoorG0
import Derived.Lib.AppendIntMem
import Derived.Lib.AtoiErrMem
import Derived.Lib.AppendZeros
import Derived.Lib.IndexLaws
import Derived.Laws.Strings
import Derived.KernelRfl
open Array renaming ext_getElem?->Tw,getElem?_eq_none->GC
open List renaming getElem?_eq_getElem->bM,getElem?_map->cD
open Nat renaming le_refl->bX
open Option renaming map_eq_some_iff->b9
open UInt8 renaming toNat->gZ
/- Contracts of library functions, as definitions; the codes of strings and of lines. -/
namespace Go.Proofs
open Go.Ax
def dV(c:UInt8)(last:Bool):List UInt8:=
 if last then[32,2]else if(decide (97<=c)&&decide (c<=122))=true then[c-64]else if c=95 then[32,1]else if c=96 then[32,3]else if 123<=c then[32,c-64]else if(decide (64<=c)&&decide (c<=90))=true then[32,c-32]else[c-32]
def eV(s:List UInt8):Nat:=(s.reverse.dropWhile (· == 32)).length
def bV(s:List UInt8):List (List UInt8):=(List.range s.length).map λi=>dV (s.getD i 0) (decide (eV s<=i))
def cL(s:List UInt8):List UInt8:=s.dropWhile (· == 32)
def cB(s:List UInt8):List (List UInt8):=bV (Lib.itoa ((s.length-(cL s).length:Nat):Int))++(if cL s=[]then[]else[0]::bV (cL s))
def Lp(g:Nat)(xs:List X)(H:XH):Option (List UInt8):=match xs,H with
 |[.fn f [.ref 50 0]],[(50,.box e [x])]=>(match Nat.beq f g with
   |true=>(match Nat.beq e 9 with
     |true=>ue .tx x
     |false=>none)
   |false=>none)
 |_,_=>none
def SD(_:Nat)(s:List UInt8):Bool:=decide (s.length<=20000)
def LV(_:Nat)(s:List UInt8):List (List UInt8):=bV s
def aCS(N:Nat):bO:=vO (Lp 58) (λs=>SD N s) (λs=>(.e (.sl (.sl .u8)) (LV N s),[(50,.box 9 [.e .tx s])]))
def C1(_:Nat)(s:List UInt8):Bool:=decide (s.length<=20000)
def oB(_:Nat)(s:List UInt8):List (List UInt8):=cB s
def SC(N:Nat):bO:=vO (Lp 78) (λs=>C1 N s) (λs=>(.e (.sl (.sl .u8)) (oB N s),[(50,.box 9 [.e .tx s])]))
def NP(xs:List X)(H:XH):Option Int:=match xs,H with
 |[y,x],[]=>(match y with
   |.dE=>ue (.i .i64) x
   |_=>none)
 |_,_=>none
def DS(_:Nat)(n:Int):Bool:=decide (0<=n/\n<=1000000)
def V7(N:Nat):bO:=vO NP (λn=>DS N n) (λ_=>(.own 100,[(100,.row 5 .u8 [] true)]))
def Gg(_:Nat)(l s:List UInt8):Bool:=decide (l.length<=1000000/\s.length=1)
def fY(_:Nat)(l s:List UInt8):List UInt8:=l.takeWhile (· != s.headD 0)
def lT(_:Nat)(l s:List UInt8):List UInt8:=(l.dropWhile (· != s.headD 0)).drop 1
def DC(_:Nat)(l s:List UInt8):Bool:=l.contains (s.headD 0)
def Ud(N:Nat):bO:=E2 (.sl .u8) (.sl .u8) λl s=>(Gg N l s,(.aT [.e (.sl .u8) (fY N l s),.e (.sl .u8) (lT N l s),.e .bo (DC N l s)],[]))
def Gf(_:Nat)(s:List UInt8):Bool:=decide (s.length<=1000000)
def eA(_:Nat)(s:List UInt8):Int:=match Lib.atoiAll s with
 |.ok v=>v
 |.range=>Lib.atoiSat s
 |_=>0
def lS(_:Nat)(s:List UInt8):Nat:=match Lib.atoiAll s with
 |.ok _=>1
 |_=>0
def U8(N:Nat):bO:=E1 .tx λs=>(Gf N s,(.aT [.e (.i .i64) (eA N s),.via 100 (lS N s+2)],[(100,.row 5 .u8 [] true)]))
def DB(_:Nat)(s:List UInt8)(n:Int):Bool:=decide (0<=n/\n<=1000/\s.length<=1000)
def kP(_:Nat)(s:List UInt8)(n:Int):List UInt8:=Lib.repeatL s n.toNat
def U7(N:Nat):bO:=E2 .tx (.i .i64) λs n=>(DB N s n,(.e .tx (kP N s n),[]))
def aCV(_:Nat):bO:=E0 (true,(.e .bo true,[]))
end Go.Proofs
/- Contracts of library functions, of the kit's shelf, laid at this dump. -/
namespace Go.Proofs
open Go.Shelf
def Tryz.aUB:Go.Shelf.Ren:=⟨λ|171=>80|243=>96|246=>114|283=>126|284=>127|285=>128|286=>129|129=>134|317=>133|318=>135|319=>136|320=>137|337=>139|338=>140|n=>n,λ|3=>3|9=>9|2=>2|4=>4|171=>151|0=>0|53=>132|37=>23|5=>5|173=>154|212=>164|51=>129|20=>20|213=>165|46=>108|232=>169|233=>170|n=>n,λ|17=>5|18=>6|19=>7|n=>n⟩
theorem Tryz.aUC:Go.Proofs.LaysM.n171 Tryz.prog Tryz.aUB:={
 mixed:=by kernel_rfl
 f129:=Tryz.func134.trans (aO some (by kernel_rfl))
 f171:=Tryz.func80.trans (aO some (by kernel_rfl))
 f243:=Tryz.func96.trans (aO some (by kernel_rfl))
 f246:=Tryz.func114.trans (aO some (by kernel_rfl))
 f283:=Tryz.func126.trans (aO some (by kernel_rfl))
 f284:=Tryz.func127.trans (aO some (by kernel_rfl))
 f285:=Tryz.func128.trans (aO some (by kernel_rfl))
 f286:=Tryz.func129.trans (aO some (by kernel_rfl))
 f317:=Tryz.func133.trans (aO some (by kernel_rfl))
 f318:=Tryz.func135.trans (aO some (by kernel_rfl))
 f319:=Tryz.func136.trans (aO some (by kernel_rfl))
 f320:=Tryz.func137.trans (aO some (by kernel_rfl))
 f337:=Tryz.func139.trans (aO some (by kernel_rfl))
 f338:=Tryz.func140.trans (aO some (by kernel_rfl))
 t0:=Tryz.underlying0
 a0:=Tryz.isAgg0
 z0:=Tryz.sizeOf0
 v0:=Tryz.zeroValue0
 t2:=Tryz.underlying2
 a2:=Tryz.isAgg2
 z2:=Tryz.sizeOf2
 v2:=Tryz.zeroValue2
 t3:=Tryz.underlying3
 a3:=Tryz.isAgg3
 z3:=Tryz.sizeOf3
 v3:=Tryz.zeroValue3
 t4:=Tryz.underlying4
 a4:=Tryz.isAgg4
 z4:=Tryz.sizeOf4
 v4:=Tryz.zeroValue4
 t5:=Tryz.underlying5
 a5:=Tryz.isAgg5
 z5:=Tryz.sizeOf5
 v5:=Tryz.zeroValue5
 t9:=Tryz.underlying9
 a9:=Tryz.isAgg9
 z9:=Tryz.sizeOf9
 v9:=Tryz.zeroValue9
 t20:=Tryz.underlying20
 a20:=Tryz.isAgg20
 z20:=Tryz.sizeOf20
 v20:=Tryz.zeroValue20
 t37:=Tryz.underlying23
 a37:=Tryz.isAgg23
 z37:=Tryz.sizeOf23
 v37:=Tryz.zeroValue23
 t46:=Tryz.underlying108
 a46:=Tryz.isAgg108
 z46:=Tryz.sizeOf108
 v46:=Tryz.zeroValue108
 t51:=Tryz.underlying129
 a51:=Tryz.isAgg129
 z51:=Tryz.sizeOf129
 v51:=Tryz.zeroValue129
 t53:=Tryz.underlying132
 a53:=Tryz.isAgg132
 z53:=Tryz.sizeOf132
 v53:=Tryz.zeroValue132
 t171:=Tryz.underlying151
 a171:=Tryz.isAgg151
 z171:=Tryz.sizeOf151
 v171:=Tryz.zeroValue151
 t173:=Tryz.underlying154
 a173:=Tryz.isAgg154
 z173:=Tryz.sizeOf154
 v173:=Tryz.zeroValue154
 t212:=Tryz.underlying164
 a212:=Tryz.isAgg164
 z212:=Tryz.sizeOf164
 v212:=Tryz.zeroValue164
 t213:=Tryz.underlying165
 a213:=Tryz.isAgg165
 z213:=Tryz.sizeOf165
 t232:=Tryz.underlying169
 a232:=Tryz.isAgg169
 z232:=Tryz.sizeOf169
 v232:=Tryz.zeroValue169
 t233:=Tryz.underlying170
 a233:=Tryz.isAgg170
 z233:=Tryz.sizeOf170
 v233:=Tryz.zeroValue170
 g17:=by kernel_rfl
 g18:=by kernel_rfl
 g19:=by kernel_rfl
 i0:=by kernel_rfl
 i2:=by kernel_rfl
 i3:=by kernel_rfl
 i4:=by kernel_rfl
 i5:=by kernel_rfl
 i9:=by kernel_rfl
 i20:=by kernel_rfl
 i37:=by kernel_rfl
 i46:=by kernel_rfl
 i51:=by kernel_rfl
 i53:=by kernel_rfl
 i171:=by kernel_rfl
 i173:=by kernel_rfl
 i212:=by kernel_rfl
 i232:=by kernel_rfl
 i233:=by kernel_rfl
 m17:=by kernel_rfl
 m18:=by kernel_rfl
 m19:=by kernel_rfl }
open Go.RowKit Go.Sort Go.Lib in
theorem Tryz.strconv_Itoa (n : Int) (h0 : -9223372036854775808 ≤ n) (h1 : n ≤ 9223372036854775807) (w : World) (htab : Lib.TabIs Tryz.prog w "internal/strconv.uint64pow10" .u64 Lib.pow10Tab) :
    Calls Tryz.prog 80 #[.int .i64 n] w λe w'=>e = .returned (.string ⟨(Lib.itoa n).toArray⟩)/\∃k os,w'=grow (w.drewN k) os:=Any.strconv_Itoa Tryz.aUC n h0 h1 w htab
def Tryz.aUD:Go.Shelf.Ren:=⟨λ|172=>70|244=>82|245=>83|247=>101|279=>102|280=>103|281=>104|282=>105|287=>117|316=>118|171=>80|205=>119|321=>130|322=>131|243=>96|246=>114|283=>126|284=>127|285=>128|286=>129|129=>134|317=>133|318=>135|319=>136|320=>137|337=>139|338=>140|n=>n,λ|9=>9|3=>3|75=>92|76=>93|4=>4|5=>5|167=>123|37=>23|0=>0|85=>124|2=>2|168=>126|53=>132|175=>139|46=>108|210=>143|127=>135|145=>158|143=>156|21=>21|171=>151|173=>154|212=>164|51=>129|20=>20|213=>165|232=>169|233=>170|80=>117|n=>n,λ|15=>1|16=>2|17=>5|18=>6|19=>7|n=>n⟩
theorem Tryz.SB:Go.Proofs.LaysC.n172 Tryz.prog Tryz.aUD:={
 mixed:=by kernel_rfl
 f129:=Tryz.func134.trans (aO some (by kernel_rfl))
 f171:=Tryz.func80.trans (aO some (by kernel_rfl))
 f172:=Tryz.func70.trans (aO some (by kernel_rfl))
 f205:=Tryz.func119.trans (aO some (by kernel_rfl))
 f243:=Tryz.func96.trans (aO some (by kernel_rfl))
 f244:=Tryz.func82.trans (aO some (by kernel_rfl))
 f245:=Tryz.func83.trans (aO some (by kernel_rfl))
 f246:=Tryz.func114.trans (aO some (by kernel_rfl))
 f247:=Tryz.func101.trans (aO some (by kernel_rfl))
 f279:=Tryz.func102.trans (aO some (by kernel_rfl))
 f280:=Tryz.func103.trans (aO some (by kernel_rfl))
 f281:=Tryz.func104.trans (aO some (by kernel_rfl))
 f282:=Tryz.func105.trans (aO some (by kernel_rfl))
 f283:=Tryz.func126.trans (aO some (by kernel_rfl))
 f284:=Tryz.func127.trans (aO some (by kernel_rfl))
 f285:=Tryz.func128.trans (aO some (by kernel_rfl))
 f286:=Tryz.func129.trans (aO some (by kernel_rfl))
 f287:=Tryz.func117.trans (aO some (by kernel_rfl))
 f316:=Tryz.func118.trans (aO some (by kernel_rfl))
 f317:=Tryz.func133.trans (aO some (by kernel_rfl))
 f318:=Tryz.func135.trans (aO some (by kernel_rfl))
 f319:=Tryz.func136.trans (aO some (by kernel_rfl))
 f320:=Tryz.func137.trans (aO some (by kernel_rfl))
 f321:=Tryz.func130.trans (aO some (by kernel_rfl))
 f322:=Tryz.func131.trans (aO some (by kernel_rfl))
 f337:=Tryz.func139.trans (aO some (by kernel_rfl))
 f338:=Tryz.func140.trans (aO some (by kernel_rfl))
 t0:=Tryz.underlying0
 a0:=Tryz.isAgg0
 z0:=Tryz.sizeOf0
 v0:=Tryz.zeroValue0
 t2:=Tryz.underlying2
 a2:=Tryz.isAgg2
 z2:=Tryz.sizeOf2
 v2:=Tryz.zeroValue2
 t3:=Tryz.underlying3
 a3:=Tryz.isAgg3
 z3:=Tryz.sizeOf3
 v3:=Tryz.zeroValue3
 t4:=Tryz.underlying4
 a4:=Tryz.isAgg4
 z4:=Tryz.sizeOf4
 v4:=Tryz.zeroValue4
 t5:=Tryz.underlying5
 a5:=Tryz.isAgg5
 z5:=Tryz.sizeOf5
 v5:=Tryz.zeroValue5
 t9:=Tryz.underlying9
 a9:=Tryz.isAgg9
 z9:=Tryz.sizeOf9
 v9:=Tryz.zeroValue9
 t20:=Tryz.underlying20
 a20:=Tryz.isAgg20
 z20:=Tryz.sizeOf20
 v20:=Tryz.zeroValue20
 t21:=Tryz.underlying21
 a21:=Tryz.isAgg21
 z21:=Tryz.sizeOf21
 v21:=Tryz.zeroValue21
 t37:=Tryz.underlying23
 a37:=Tryz.isAgg23
 z37:=Tryz.sizeOf23
 v37:=Tryz.zeroValue23
 t46:=Tryz.underlying108
 a46:=Tryz.isAgg108
 z46:=Tryz.sizeOf108
 v46:=Tryz.zeroValue108
 t51:=Tryz.underlying129
 a51:=Tryz.isAgg129
 z51:=Tryz.sizeOf129
 v51:=Tryz.zeroValue129
 t53:=Tryz.underlying132
 a53:=Tryz.isAgg132
 z53:=Tryz.sizeOf132
 v53:=Tryz.zeroValue132
 t75:=Tryz.underlying92
 a75:=Tryz.isAgg92
 z75:=Tryz.sizeOf92
 v75:=Tryz.zeroValue92
 t76:=Tryz.underlying93
 a76:=Tryz.isAgg93
 z76:=Tryz.sizeOf93
 v76:=Tryz.zeroValue93
 t85:=Tryz.underlying124
 a85:=Tryz.isAgg124
 z85:=Tryz.sizeOf124
 v85:=Tryz.zeroValue124
 t127:=Tryz.underlying135
 a127:=Tryz.isAgg135
 z127:=Tryz.sizeOf135
 v127:=Tryz.zeroValue135
 t143:=Tryz.underlying156
 a143:=Tryz.isAgg156
 z143:=Tryz.sizeOf156
 v143:=Tryz.zeroValue156
 t145:=Tryz.underlying158
 a145:=Tryz.isAgg158
 z145:=Tryz.sizeOf158
 v145:=Tryz.zeroValue158
 t167:=Tryz.underlying123
 a167:=Tryz.isAgg123
 z167:=Tryz.sizeOf123
 v167:=Tryz.zeroValue123
 t168:=Tryz.underlying126
 a168:=Tryz.isAgg126
 z168:=Tryz.sizeOf126
 v168:=Tryz.zeroValue126
 t171:=Tryz.underlying151
 a171:=Tryz.isAgg151
 z171:=Tryz.sizeOf151
 v171:=Tryz.zeroValue151
 t173:=Tryz.underlying154
 a173:=Tryz.isAgg154
 z173:=Tryz.sizeOf154
 v173:=Tryz.zeroValue154
 t175:=Tryz.underlying139
 a175:=Tryz.isAgg139
 z175:=Tryz.sizeOf139
 v175:=Tryz.zeroValue139
 t210:=Tryz.underlying143
 a210:=Tryz.isAgg143
 z210:=Tryz.sizeOf143
 v210:=Tryz.zeroValue143
 t212:=Tryz.underlying164
 a212:=Tryz.isAgg164
 z212:=Tryz.sizeOf164
 v212:=Tryz.zeroValue164
 t213:=Tryz.underlying165
 a213:=Tryz.isAgg165
 z213:=Tryz.sizeOf165
 t232:=Tryz.underlying169
 a232:=Tryz.isAgg169
 z232:=Tryz.sizeOf169
 v232:=Tryz.zeroValue169
 t233:=Tryz.underlying170
 a233:=Tryz.isAgg170
 z233:=Tryz.sizeOf170
 v233:=Tryz.zeroValue170
 g15:=by kernel_rfl
 g16:=by kernel_rfl
 g17:=by kernel_rfl
 g18:=by kernel_rfl
 g19:=by kernel_rfl
 t80:=Tryz.underlying117
 a80:=Tryz.isAgg117
 z80:=Tryz.sizeOf117
 v80:=Tryz.zeroValue117
 i0:=by kernel_rfl
 i2:=by kernel_rfl
 i3:=by kernel_rfl
 i4:=by kernel_rfl
 i5:=by kernel_rfl
 i9:=by kernel_rfl
 i20:=by kernel_rfl
 i21:=by kernel_rfl
 i37:=by kernel_rfl
 i46:=by kernel_rfl
 i51:=by kernel_rfl
 i53:=by kernel_rfl
 i75:=by kernel_rfl
 i76:=by kernel_rfl
 i80:=by kernel_rfl
 i85:=by kernel_rfl
 i127:=by kernel_rfl
 i143:=by kernel_rfl
 i145:=by kernel_rfl
 i167:=by kernel_rfl
 i168:=by kernel_rfl
 i171:=by kernel_rfl
 i173:=by kernel_rfl
 i175:=by kernel_rfl
 i210:=by kernel_rfl
 i212:=by kernel_rfl
 i232:=by kernel_rfl
 i233:=by kernel_rfl
 m15:=by kernel_rfl
 m16:=by kernel_rfl
 m17:=by kernel_rfl
 m18:=by kernel_rfl
 m19:=by kernel_rfl
 c0:=by kernel_rfl
 c2:=by kernel_rfl
 c3:=by kernel_rfl
 c4:=by kernel_rfl
 c5:=by kernel_rfl
 c9:=by kernel_rfl
 c20:=by kernel_rfl
 c21:=by kernel_rfl
 c37:=by kernel_rfl
 c46:=by kernel_rfl
 c51:=by kernel_rfl
 c53:=by kernel_rfl
 c75:=by kernel_rfl
 c76:=by kernel_rfl
 c80:=by kernel_rfl
 c85:=by kernel_rfl
 c127:=by kernel_rfl
 c143:=by kernel_rfl
 c145:=by kernel_rfl
 c167:=by kernel_rfl
 c168:=by kernel_rfl
 c171:=by kernel_rfl
 c173:=by kernel_rfl
 c175:=by kernel_rfl
 c210:=by kernel_rfl
 c212:=by kernel_rfl
 c213:=by kernel_rfl
 c232:=by kernel_rfl
 c233:=by kernel_rfl }
open Go.RowKit in
theorem Tryz.strconv_Atoi_ok(s:ByteArray)(hmax:s.size<=9223372036854775806)(v:Int)(h:Lib.atoiAll s.data.toList = .ok v)(w:World):
    Calls Tryz.prog 70 #[.string s] w λe w'=>e = .returned (.tuple #[.int .i64 v,.nilIface])/\(w'=w\/∃t,w'=Lib.bytesWorld w 5 t):=Any.strconv_Atoi_ok Tryz.SB s hmax v h w
open Go.RowKit in
theorem Tryz.strconv_Atoi_syntax(s:ByteArray)(hlim:s.size<=281474976710656)(h:Lib.atoiAll s.data.toList=Lib.atoiAll [])(ev:Value)(w:World)(hv:w.cell? ⟨1,0,none⟩=some ev)(hev:ev = .nilIface\/∃te pe,ev = .iface te pe):
    Calls Tryz.prog 70 #[.string s] w λe w'=>∃N,e = .returned (.tuple #[.int .i64 (0),.iface 126 (.pointer (some ⟨N,0,none⟩))])/\w.heap.size<=N/\w'.heap[N]?=some (.cells #[.string ⟨#[65,116,111,105]⟩,.string s,ev] 143 (0,0))/\Below w.heap.size w w':=Any.strconv_Atoi_syntax Tryz.SB s hlim h ev w hv hev
open Go.RowKit in
theorem Tryz.strconv_Atoi_range(s:ByteArray)(hlim:s.size<=281474976710656)(h:Lib.atoiAll s.data.toList = .range)(ev:Value)(w:World)(hv:w.cell? ⟨2,0,none⟩=some ev)(hev:ev = .nilIface\/∃te pe,ev = .iface te pe):
    Calls Tryz.prog 70 #[.string s] w λe w'=>∃N,e = .returned (.tuple #[.int .i64 (Lib.atoiSat s.data.toList),.iface 126 (.pointer (some ⟨N,0,none⟩))])/\w.heap.size<=N/\w'.heap[N]?=some (.cells #[.string ⟨#[65,116,111,105]⟩,.string s,ev] 143 (0,0))/\Below w.heap.size w w':=Any.strconv_Atoi_range Tryz.SB s hlim h ev w hv hev
def Tryz.aCN:Go.Shelf.Ren:=⟨λ|105=>71|212=>84|99=>85|165=>86|166=>87|170=>88|169=>89|263=>106|264=>107|206=>108|240=>109|241=>110|276=>120|277=>121|n=>n,λ|9=>9|3=>3|4=>4|20=>20|0=>0|46=>108|109=>109|5=>5|72=>114|76=>93|51=>129|146=>130|53=>132|148=>133|70=>112|37=>23|75=>92|127=>135|164=>145|80=>117|n=>n,λ|n=>n⟩
theorem Tryz.aUF:Go.Proofs.Lays.n105 Tryz.prog Tryz.aCN:={
 mixed:=by kernel_rfl
 f99:=Tryz.func85.trans (aO some (by kernel_rfl))
 f105:=Tryz.func71.trans (aO some (by kernel_rfl))
 f165:=Tryz.func86.trans (aO some (by kernel_rfl))
 f166:=Tryz.func87.trans (aO some (by kernel_rfl))
 f169:=Tryz.func89.trans (aO some (by kernel_rfl))
 f170:=Tryz.func88.trans (aO some (by kernel_rfl))
 f206:=Tryz.func108.trans (aO some (by kernel_rfl))
 f212:=Tryz.func84.trans (aO some (by kernel_rfl))
 f240:=Tryz.func109.trans (aO some (by kernel_rfl))
 f241:=Tryz.func110.trans (aO some (by kernel_rfl))
 f263:=Tryz.func106.trans (aO some (by kernel_rfl))
 f264:=Tryz.func107.trans (aO some (by kernel_rfl))
 f276:=Tryz.func120.trans (aO some (by kernel_rfl))
 f277:=Tryz.func121.trans (aO some (by kernel_rfl))
 t0:=Tryz.underlying0
 a0:=Tryz.isAgg0
 z0:=Tryz.sizeOf0
 v0:=Tryz.zeroValue0
 t3:=Tryz.underlying3
 a3:=Tryz.isAgg3
 z3:=Tryz.sizeOf3
 v3:=Tryz.zeroValue3
 t4:=Tryz.underlying4
 a4:=Tryz.isAgg4
 z4:=Tryz.sizeOf4
 v4:=Tryz.zeroValue4
 t5:=Tryz.underlying5
 a5:=Tryz.isAgg5
 z5:=Tryz.sizeOf5
 v5:=Tryz.zeroValue5
 t9:=Tryz.underlying9
 a9:=Tryz.isAgg9
 z9:=Tryz.sizeOf9
 v9:=Tryz.zeroValue9
 t20:=Tryz.underlying20
 a20:=Tryz.isAgg20
 z20:=Tryz.sizeOf20
 v20:=Tryz.zeroValue20
 t37:=Tryz.underlying23
 a37:=Tryz.isAgg23
 z37:=Tryz.sizeOf23
 v37:=Tryz.zeroValue23
 t46:=Tryz.underlying108
 a46:=Tryz.isAgg108
 z46:=Tryz.sizeOf108
 v46:=Tryz.zeroValue108
 t51:=Tryz.underlying129
 a51:=Tryz.isAgg129
 z51:=Tryz.sizeOf129
 v51:=Tryz.zeroValue129
 t53:=Tryz.underlying132
 a53:=Tryz.isAgg132
 z53:=Tryz.sizeOf132
 v53:=Tryz.zeroValue132
 t70:=Tryz.underlying112
 a70:=Tryz.isAgg112
 z70:=Tryz.sizeOf112
 v70:=Tryz.zeroValue112
 t72:=Tryz.underlying114
 a72:=Tryz.isAgg114
 z72:=Tryz.sizeOf114
 v72:=Tryz.zeroValue114
 t75:=Tryz.underlying92
 a75:=Tryz.isAgg92
 z75:=Tryz.sizeOf92
 v75:=Tryz.zeroValue92
 t76:=Tryz.underlying93
 a76:=Tryz.isAgg93
 z76:=Tryz.sizeOf93
 v76:=Tryz.zeroValue93
 t109:=Tryz.underlying109
 a109:=Tryz.isAgg109
 z109:=Tryz.sizeOf109
 v109:=Tryz.zeroValue109
 t127:=Tryz.underlying135
 a127:=Tryz.isAgg135
 z127:=Tryz.sizeOf135
 v127:=Tryz.zeroValue135
 t146:=Tryz.underlying130
 a146:=Tryz.isAgg130
 z146:=Tryz.sizeOf130
 v146:=Tryz.zeroValue130
 t148:=Tryz.underlying133
 a148:=Tryz.isAgg133
 z148:=Tryz.sizeOf133
 v148:=Tryz.zeroValue133
 t164:=Tryz.underlying145
 a164:=Tryz.isAgg145
 z164:=Tryz.sizeOf145
 v164:=Tryz.zeroValue145 }
theorem Tryz.aX4:Builder.Extra Tryz.prog Tryz.aCN:={
 sizeBuilder:=by kernel_rfl
 liesBuilder:=by kernel_rfl
 t5:=Tryz.underlying5
 a5:=Tryz.isAgg5
 z5:=Tryz.sizeOf5
 v5:=Tryz.zeroValue5
 infoByte:=by kernel_rfl
 cellsByte:=by kernel_rfl
 sizeByte:=by kernel_rfl
 neB5:=by decide }
open Go.RowKit Go.Lib in
theorem Tryz.strings_Repeat(s:ByteArray)(c:Nat)(w:World)(hc:c<=9223372036854775807)(hlen:s.size*c<=140737488355328):
    Calls Tryz.prog 71 #[.string s,.int .i64 c] w λe w'=>e = .returned (.string ⟨(Lib.repeatL s.data.toList c).toArray⟩)/\Below w.heap.size w w':=Any.strings_Repeat Tryz.aUF Tryz.aX4 s c w hc hlen
def Tryz.aUE:Go.Shelf.Ren:=⟨λ|185=>81|187=>97|115=>42|253=>98|224=>99|254=>100|255=>115|291=>116|n=>n,λ|37=>23|3=>3|4=>4|0=>0|5=>5|46=>108|9=>9|146=>130|51=>129|n=>n,λ|1=>0|n=>n⟩
theorem Tryz.aCM:Go.Proofs.Lays.n185 Tryz.prog Tryz.aUE:={
 mixed:=by kernel_rfl
 f115:=Tryz.func42.trans (aO some (by kernel_rfl))
 f185:=Tryz.func81.trans (aO some (by kernel_rfl))
 f187:=Tryz.func97.trans (aO some (by kernel_rfl))
 f224:=Tryz.func99.trans (aO some (by kernel_rfl))
 f253:=Tryz.func98.trans (aO some (by kernel_rfl))
 f254:=Tryz.func100.trans (aO some (by kernel_rfl))
 f255:=Tryz.func115.trans (aO some (by kernel_rfl))
 f291:=Tryz.func116.trans (aO some (by kernel_rfl))
 t0:=Tryz.underlying0
 a0:=Tryz.isAgg0
 z0:=Tryz.sizeOf0
 v0:=Tryz.zeroValue0
 t3:=Tryz.underlying3
 a3:=Tryz.isAgg3
 z3:=Tryz.sizeOf3
 v3:=Tryz.zeroValue3
 t4:=Tryz.underlying4
 a4:=Tryz.isAgg4
 z4:=Tryz.sizeOf4
 v4:=Tryz.zeroValue4
 t5:=Tryz.underlying5
 a5:=Tryz.isAgg5
 z5:=Tryz.sizeOf5
 v5:=Tryz.zeroValue5
 t9:=Tryz.underlying9
 a9:=Tryz.isAgg9
 z9:=Tryz.sizeOf9
 v9:=Tryz.zeroValue9
 t37:=Tryz.underlying23
 a37:=Tryz.isAgg23
 z37:=Tryz.sizeOf23
 v37:=Tryz.zeroValue23
 t46:=Tryz.underlying108
 a46:=Tryz.isAgg108
 z46:=Tryz.sizeOf108
 v46:=Tryz.zeroValue108
 t51:=Tryz.underlying129
 a51:=Tryz.isAgg129
 z51:=Tryz.sizeOf129
 v51:=Tryz.zeroValue129
 t146:=Tryz.underlying130
 a146:=Tryz.isAgg130
 z146:=Tryz.sizeOf130
 v146:=Tryz.zeroValue130
 g1:=by kernel_rfl }
open Go.RowKit Go.Lib in
theorem Tryz.bytes_Index_one_nil(b2 o2 d:Nat)(cv:Int)(w:World)(hc2:w.cell? ⟨b2,o2,none⟩=some (.int .u8 cv)):
    Calls Tryz.prog 81 #[.slice none 0 0,.slice (some ⟨b2,o2,none⟩) 1 d] w λe w'=>e = .returned (.int .i64 (-1))/\w'=w:=Any.bytes_Index_one_nil Tryz.aCM b2 o2 d cv w hc2
open Go.RowKit Go.Lib in
theorem Tryz.bytes_Index_one_at(a:Addr)(n c b2 o2 d:Nat)(xs:List Int)(cv:Int)(w:World)(hx:xs.length=n)(hc:∀i,i<n->w.cell? (a.add i)=some (.int .u8 (xs.getD i 0)))(hc2:w.cell? ⟨b2,o2,none⟩=some (.int .u8 cv)):
    Calls Tryz.prog 81 #[.slice (some a) n c,.slice (some ⟨b2,o2,none⟩) 1 d] w λe w'=>e = .returned (.int .i64 (Lib.indexByte (Lib.bytesOf xs) cv.toNat.toUInt8))/\w'=w:=Any.bytes_Index_one_at Tryz.aCM a n c b2 o2 d xs cv w hx hc hc2
def Tryz.aTz:Go.Shelf.Ren:=⟨λ|4=>69|5=>81|6=>97|7=>42|8=>98|9=>99|10=>100|11=>115|12=>116|n=>n,λ|22=>23|4=>4|3=>3|0=>0|5=>5|29=>108|9=>9|31=>130|30=>129|n=>n,λ|0=>0|n=>n⟩
theorem Tryz.aUA:Go.Proofs.SlLaysT.n4 Tryz.prog Tryz.aTz:={
 mixed:=by kernel_rfl
 f4:=Tryz.func69.trans (aO some (by kernel_rfl))
 f5:=Tryz.func81.trans (aO some (by kernel_rfl))
 f6:=Tryz.func97.trans (aO some (by kernel_rfl))
 f7:=Tryz.func42.trans (aO some (by kernel_rfl))
 f8:=Tryz.func98.trans (aO some (by kernel_rfl))
 f9:=Tryz.func99.trans (aO some (by kernel_rfl))
 f10:=Tryz.func100.trans (aO some (by kernel_rfl))
 f11:=Tryz.func115.trans (aO some (by kernel_rfl))
 f12:=Tryz.func116.trans (aO some (by kernel_rfl))
 t0:=Tryz.underlying0
 a0:=Tryz.isAgg0
 z0:=Tryz.sizeOf0
 v0:=Tryz.zeroValue0
 t3:=Tryz.underlying3
 a3:=Tryz.isAgg3
 z3:=Tryz.sizeOf3
 v3:=Tryz.zeroValue3
 t4:=Tryz.underlying4
 a4:=Tryz.isAgg4
 z4:=Tryz.sizeOf4
 v4:=Tryz.zeroValue4
 t5:=Tryz.underlying5
 a5:=Tryz.isAgg5
 z5:=Tryz.sizeOf5
 v5:=Tryz.zeroValue5
 t9:=Tryz.underlying9
 a9:=Tryz.isAgg9
 z9:=Tryz.sizeOf9
 v9:=Tryz.zeroValue9
 t22:=Tryz.underlying23
 a22:=Tryz.isAgg23
 z22:=Tryz.sizeOf23
 v22:=Tryz.zeroValue23
 t29:=Tryz.underlying108
 a29:=Tryz.isAgg108
 z29:=Tryz.sizeOf108
 v29:=Tryz.zeroValue108
 t30:=Tryz.underlying129
 a30:=Tryz.isAgg129
 z30:=Tryz.sizeOf129
 v30:=Tryz.zeroValue129
 t31:=Tryz.underlying130
 a31:=Tryz.isAgg130
 z31:=Tryz.sizeOf130
 v31:=Tryz.zeroValue130
 g0:=by kernel_rfl }
theorem Tryz.bytes_Cut_of(p1 p2:Option Addr)(n c1 k c2:Nat)(i:Int)(w:World)(hcap:n<=c1)(hlo:-1<=i)(hroom:0<=i->i+k<=n)(hn:n<=4611686018427387904)(hidx:Calls Tryz.prog 81 #[.slice p1 n c1,.slice p2 k c2] w λe w'=>e = .returned (.int .i64 i)/\∃q,w'=w.drewN q):
    Calls Tryz.prog 69 #[.slice p1 n c1,.slice p2 k c2] w λe w'=>e = .returned (Lib.cutV p1 n c1 k i)/\∃q,w'=w.drewN q:=Any.bytes_Cut_of Tryz.aUA p1 p2 n c1 k c2 i w hcap hlo hroom hn hidx
end Go.Proofs
/- Contracts of library functions, proved. -/
namespace Go.Proofs
open Go Go.Ax Go.Ab Go.RowKit
theorem aWm{vs:Array Value}{d:D}{ν:Nat->Value}{nm:Nat->Bool}{w:World}{G:bQ}(hs:vs.size=[d].length)(h:∀(i:Nat)(d':D),[d][i]?=some d'->∃v,vs[i]?=some v/\DR ν nm w G v d'):∃v,vs = #[v]/\DR ν nm w G v d:=by
 obtain⟨v,hv,hd⟩:=h 0 d rfl;refine⟨v,?_,hd⟩;have h1:vs.size=1:=hs;apply Tw;intro i;cases i with
 |zero=>rw[hv];rfl
 |succ i=>rw[GC (by omega)];simp
theorem TT{vs:Array Value}{d e:D}{ν:Nat->Value}{nm:Nat->Bool}{w:World}{G:bQ}(hs:vs.size=[d,e].length)(h:∀(i:Nat)(d':D),[d,e][i]?=some d'->∃v,vs[i]?=some v/\DR ν nm w G v d'):∃v u,vs = #[v,u]/\DR ν nm w G v d/\DR ν nm w G u e:=by
 obtain⟨v,hv,hd⟩:=h 0 d rfl;obtain⟨u,hu,he⟩:=h 1 e rfl;refine⟨v,u,?_,hd,he⟩;have h1:vs.size=2:=hs;apply Tw;intro i
 match i with
 |0=>rw[hv];rfl
 |1=>rw[hu];rfl
 |i+2=>rw[GC (by omega)];simp
theorem aFc(s:List UInt8)(n:Int)(h:DB 0 s n=true):cN Tryz.prog 71 [.t (.v (.string ⟨⟨s⟩⟩)),.t (.v (.int .i64 n))] [] (.t (.v (.string ⟨⟨Lib.repeatL s n.toNat⟩⟩))) []:=by
 have h:=cH h;refine cN.lib λw ht G ν nm vs hs ha=>?_
 obtain⟨v,u,rfl,hd,hd2⟩:=TT hs ha;have:=bY hd;subst this;have:=bY hd2;subst this;obtain⟨k,rfl⟩:∃k:Nat,n=k:=⟨n.toNat,by omega⟩
 refine(Tryz.strings_Repeat ⟨⟨s⟩⟩ k w (by omega) ?_).mono ?_
 .show s.length*k<=140737488355328
  have:s.length*k<=1000*1000:=Nat.mul_le_mul h.2.2 (by omega);omega
 .rintro e w' ⟨rfl,hB⟩
  exact⟨_,rfl,hB,G,λ_ _=>rfl,λν nm=>.t (.v _ rfl)⟩
theorem aFb(N:Nat):aV Tryz.prog 71 (U7 N):=aV.e2 λs n h=>aFc s n h
theorem aCt(x:List UInt8):x.flatMap (aI .u8)=x.map λc0=>Tree.v (.int .u8 (gZ c0)):=by
 induction x with
 |nil=>rfl
 |cons c l ih=>exact aO (Tree.v (.int .u8 (gZ c)) :: ·) ih
theorem aDU{w:World}{G:bQ}{u:Value}{x:List UInt8}(h:TR w G u (.sl x.length (x.flatMap (aI .u8)))):
    (∃a c,u = .slice a 0 c/\x=[]/\(a=none->c=0))\/∃b o c,u = .slice (some ⟨b,o,none⟩) x.length c/\x.length<=c/\∀i c0,x[i]?=some c0->Cell w G b (o+i) (.int .u8 (gZ c0)):=by
 have hfl:=aCt x;rw[hfl]at h;generalize hm:x.length=m at h ⊢;generalize hts:(x.map λc0=>Tree.v (.int .u8 (gZ c0)))=ts at h;cases h with
 |nil h=>exact .inl ⟨_,_,rfl,List.length_eq_zero_iff.1 hm,h⟩
 |sl b o n c us ts hl hc hn h=>
   refine .inr ⟨b,o,c,rfl,hn,λi c0 hi=>?_⟩;have ht:ts[i]?=some (.v (.int .u8 (gZ c0))):=by rw[<-hts,cD,hi];rfl
   have hi':i<us.length:=by rw[hl];exact(List.getElem?_eq_some_iff.1 ht).1
   have hu:=bM hi';have:=h i _ _ hu ht;generalize us[i]=z at hu this;cases this with|v _ h1=>exact hc i _ hu
theorem aDV{w:World}{G:bQ}{b o n c:Nat}{x:List UInt8}(hn:x.length=n)(hc:n<=c)(h:∀i c0,x[i]?=some c0->Cell w G b (o+i) (.int .u8 (gZ c0))):TR w G (.slice (some ⟨b,o,none⟩) n c) (.sl x.length (x.flatMap (aI .u8))):=by
 subst hn;have hfl:=aCt x;rw[hfl];refine .sl b o _ c (x.map λc0=>.int .u8 (gZ c0)) _ (by simp) (λi u hu=>?_) hc (λi u t hu ht=>?_)
 .rw[cD]at hu
  obtain⟨c0,h0,rfl⟩:=b9.1 hu;exact h i c0 h0
 .rw[cD]at hu ht
  obtain⟨c0,h0,rfl⟩:=b9.1 hu;rw[h0]at ht;cases ht;exact .v _ rfl
theorem aEG(l:List UInt8):Lib.bytesOf (l.map λc=>(gZ c:Int))=l:=by
 unfold Lib.bytesOf;rw[List.map_map];exact(List.map_congr_left λc _=>by simp).trans (List.map_id l)
theorem Sn(c:UInt8):∀l:List UInt8,(Lib.indexByte l c = -1/\l.takeWhile (· != c)=l/\(l.dropWhile (· != c)).drop 1=[]/\l.contains c=false)\/∃k:Nat,Lib.indexByte l c=k/\k<l.length/\l.takeWhile (· != c)=l.take k/\(l.dropWhile (· != c)).drop 1=l.drop (k+1)/\l.contains c=true
 |[]=>.inl ⟨rfl,rfl,rfl,rfl⟩
 |b::l=>by
   unfold Lib.indexByte;by_cases hb:b=c
   .subst hb
    refine .inr ⟨0,?_,Nat.zero_lt_succ _,?_,?_,?_⟩ <;> simp
   .have hne:(b != c)=true:=by simpa using hb
    rw[aC (by simpa using hb),List.takeWhile_cons_of_pos (p:=λx=>x != c) hne,List.dropWhile_cons_of_pos (p:=λx=>x != c) hne];have hcon:(b::l).contains c=l.contains c:=by
     rw[List.contains_cons];have:(c == b)=false:=by simpa using λe=>hb e.symm
     rw[this,Bool.false_or]
    rcases Sn c l with⟨h1,h2,h3,h4⟩|⟨k,h1,h2,h3,h4,h5⟩
    .refine .inl ⟨?_,by rw[h2],h3,hcon.trans h4⟩
     rw[h1];rfl
    .refine .inr ⟨k+1,?_,Nat.succ_lt_succ h2,by rw[h3];rfl,h4,hcon.trans h5⟩
     rw[h1,aC (by intro e;have:=kX.1 e;omega)];rfl
theorem aFg(l s:List UInt8)(h:Gg 0 l s=true):cN Tryz.prog 69 [.t (.sl l.length (l.flatMap (aI .u8))),.t (.sl s.length (s.flatMap (aI .u8)))] []
    (.aT [.t (.sl (fY 0 l s).length ((fY 0 l s).flatMap (aI .u8))),.t (.sl (lT 0 l s).length ((lT 0 l s).flatMap (aI .u8))),.t (.v (.bool (DC 0 l s)))]) []:=by
 have h:=cH h;obtain⟨hll,hsl⟩:=h;obtain⟨c0,rfl⟩:∃c0,s=[c0]:=by
  match s,hsl with
  |[c0],_=>exact⟨c0,rfl⟩
 refine cN.lib λw ht G ν nm vs hs ha=>?_
 obtain⟨v,u,rfl,hd,hd2⟩:=TT hs ha;cases hd with
 |t hd=>
 cases hd2 with
 |t hd2=>
 rcases aDU hd2 with⟨_,_,_,h,_⟩|⟨b2,o2,c2,rfl,_,hc2⟩
 .cases h
 have hcell2:w.cell? ⟨b2,o2,none⟩=some (.int .u8 (gZ c0)):=(hc2 0 c0 rfl).1;have hcv:((gZ c0:Nat):Int).toNat.toUInt8=c0:=by simp
 have one:∀(i:Int)(p1:Option Addr)(n c1:Nat),n=l.length->n<=c1->i=Lib.indexByte l c0->
     (Calls Tryz.prog 81 #[.slice p1 n c1,.slice (some ⟨b2,o2,none⟩) 1 c2] w λe w'=>e = .returned (.int .i64 i)/\∃q,w'=w.drewN q)->
     Calls Tryz.prog 69 #[.slice p1 n c1,.slice (some ⟨b2,o2,none⟩) 1 c2] w λe w'=>e = .returned (Lib.cutV p1 n c1 1 i)/\∃q,w'=w.drewN q:=λi p1 n c1 hn hc hi hx=>
  Tryz.bytes_Cut_of p1 (some ⟨b2,o2,none⟩) n c1 1 c2 i w hc (hi ▸ Lib.indexByte_ge l c0) (λh0=>by
   rcases Sn c0 l with⟨h1,_⟩|⟨k,h1,h2,_⟩
   .omega
   .omega) (by omega) hx
 have hy0:fY 0 l [c0]=l.takeWhile (· != c0):=rfl;have hy1:lT 0 l [c0]=(l.dropWhile (· != c0)).drop 1:=rfl;have hy2:DC 0 l [c0]=l.contains c0:=rfl;have drew:∀q,bB w (w.drewN q):=λq=>⟨rfl,rfl,rfl,bX _,λ_ _=>rfl⟩
 rcases aDU hd with⟨a,c,rfl,hl0,hac⟩|⟨b,o,c,rfl,hcc,hc1⟩
 .have hx:Calls Tryz.prog 81 #[.slice a 0 c,.slice (some ⟨b2,o2,none⟩) 1 c2] w λe w'=>e = .returned (.int .i64 (-1))/\∃q,w'=w.drewN q:=by
   cases a with
   |none=>
     obtain rfl:=hac rfl;refine(Tryz.bytes_Index_one_nil b2 o2 c2 (gZ c0) w hcell2).mono ?_;rintro e w' ⟨rfl,rfl⟩;exact⟨rfl,0,rfl⟩
   |some a=>
     refine(Tryz.bytes_Index_one_at a 0 c b2 o2 c2 [] (gZ c0) w rfl (λi hi=>absurd hi (Nat.not_lt_zero _)) hcell2).mono ?_;rintro e w' ⟨rfl,rfl⟩;exact⟨rfl,0,rfl⟩
  subst hl0;refine(one (-1) a 0 c rfl (Nat.zero_le _) rfl hx).mono ?_;rintro e w' ⟨rfl,q,rfl⟩;refine⟨_,rfl,drew q,G,λ_ _=>rfl,λν nm=>?_⟩;refine .aT rfl λi u d hu hd=>?_
  match i,hu,hd with
  |0,hu,hd=>cases hu;cases hd;exact .t (.nil hac)
  |1,hu,hd=>cases hu;cases hd;exact .t (.nil λ_=>rfl)
  |2,hu,hd=>cases hu;cases hd;exact .t (.v _ rfl)
  |i+3,hu,hd=>simp at hu
 .have hx:Calls Tryz.prog 81 #[.slice (some ⟨b,o,none⟩) l.length c,.slice (some ⟨b2,o2,none⟩) 1 c2] w λe w'=>e = .returned (.int .i64 (Lib.indexByte l c0))/\∃q,w'=w.drewN q:=by
   refine(Tryz.bytes_Index_one_at ⟨b,o,none⟩ l.length c b2 o2 c2 (l.map λc=>(gZ c:Int)) (gZ c0) w (by simp) (λi hi=>?_) hcell2).mono ?_
   .rw[Addr.add_mid]
    have:=(hc1 i _ (bM hi)).1;rw[this];simp[List.getD,hi]
   .rintro e w' ⟨rfl,rfl⟩
    rw[aEG,hcv];exact⟨rfl,0,rfl⟩
  refine(one (Lib.indexByte l c0) (some ⟨b,o,none⟩) l.length c rfl hcc rfl hx).mono ?_;rintro e w' ⟨rfl,q,rfl⟩;refine⟨_,rfl,drew q,G,λ_ _=>rfl,λν nm=>?_⟩;have tr:∀{v t},TR w G v t->TR (w.drewN q) G v t:=λh=>h.mono λ_ _ _ hc=>hc.dI (drew q) λ_ _=>rfl
  unfold Lib.cutV;rcases Sn c0 l with⟨h1,h2,h3,h4⟩|⟨k,h1,h2,h3,h4,h5⟩
  .rw[h1,aC (by decide),hy0,hy1,hy2,h2,h3,h4]
   refine .aT rfl λi u d hu hd'=>?_
   match i,hu,hd' with
   |0,hu,hd'=>cases hu;cases hd';exact .t (tr hd)
   |1,hu,hd'=>cases hu;cases hd';exact .t (.nil λ_=>rfl)
   |2,hu,hd'=>cases hu;cases hd';exact .t (.v _ rfl)
   |i+3,hu,hd'=>simp at hu
  .rw[h1,aE (Int.natCast_nonneg k),hy0,hy1,hy2,h3,h4,h5,Int.toNat_natCast]
   refine .aT rfl λi u d hu hd'=>?_
   match i,hu,hd' with
   |0,hu,hd'=>
     cases hu;cases hd';refine .t (tr (aDV (by rw[List.length_take];omega) (by omega) λi c' hi=>hc1 i c' ?_));rw[List.getElem?_take]at hi;split at hi
     .exact hi
     .cases hi
   |1,hu,hd'=>
     cases hu;cases hd';unfold Lib.fromV;by_cases hck:c=k+1
     .rw[aE hck]
      have:l.drop (k+1)=[]:=List.drop_eq_nil_of_le (by omega);rw[this,show l.length-(k+1)=0 by omega];exact .t (.nil λh=>by cases h)
     .rw[aC hck]
      show DR ν nm _ G (.slice (some ((⟨b,o,none⟩:Addr).add (k+1))) _ _) _;rw[Addr.add_mid];refine .t (tr (aDV (by rw[List.length_drop]) (by omega) λi c' hi=>?_));rw[List.getElem?_drop]at hi;have:=hc1 _ _ hi
      rwa [<-Nat.add_assoc]at this
   |2,hu,hd'=>cases hu;cases hd';exact .t (.v _ rfl)
   |i+3,hu,hd'=>simp at hu
theorem aFf(N:Nat):aV Tryz.prog 69 (Ud N):=aV.e2 λl s h=>aFg l s h
theorem S4{E:Env}{w w':World}{ν:Nat->Value}{G:bQ}{s:List UInt8}{tm:Array Value}(_hE0:E.w0=w)(I:Inv E (args [.t (.v (.string ⟨⟨s⟩⟩))] []) ν G w tm)(hA:bB w w')(n:Int)(ev:Value)(j:Nat)(he:qH (j+2) (.slice none 0 0) ev)(h1:ev.oneCell'=true):
    ∃v,Ending.returned (.tuple #[.int .i64 n,ev]) = .returned v/\R { E with m:=1 } (res (.aT [.t (.v (.int .i64 n)),.via 100 (qH (j+2))]) [(100,.row 5 1 0 [] true)]) #[v] w':=by
 have J:=I.dI (G':=G) hA λ_ _=>rfl
 have one:∀k o,Ab.look k [(100,aM.row 5 1 0 [] true)]=some o->k=100/\o = .row 5 1 0 [] true:=λk o hk=>by
  unfold Ab.look at hk;split at hk
  .rename_i e;cases hk;exact⟨e.symm,rfl⟩
  .cases hk
 refine⟨_,rfl,λk=>if k=100 then .slice none 0 0 else ν k,G,⟨J.kept.os,J.kept.tape,J.kept.output,J.kept.size,J.kept.block⟩,J.cS,λk a1 a2=>?_,J.g0,rfl,λt d ht=>?_,λk o hk=>?_,λk o k' o' hk hk' hne=>?_⟩
 .have a2:k<100:=a2
  show(if k=100 then _ else ν k)=_;rw[aC (by omega)];exact J.eL k a1 a2
 .cases t with
  |zero=>
    cases ht;refine⟨_,rfl,.aT rfl λi u d hu hd=>?_⟩
    match i,hu,hd with
    |0,hu,hd=>cases hu;cases hd;exact .t (.v _ rfl)
    |1,hu,hd=>cases hu;cases hd;exact .via rfl he h1
    |i+2,hu,hd=>simp at hu
  |succ t=>exact absurd (show(none:Option D)=some _ from ht) (by simp)
 .obtain⟨rfl,rfl⟩:=one k o hk
  exact⟨rfl,[],World.ownsRow_nil _ _ _ _,rfl,λi u t hu=>by simp at hu,λg hg=>by cases hg⟩
 .obtain⟨rfl,rfl⟩:=one k o hk
  obtain⟨rfl,rfl⟩:=one k' o' hk';exact absurd rfl hne
theorem aFe(s:List UInt8)(h:Gf 0 s=true):cN Tryz.prog 70 [.t (.v (.string ⟨⟨s⟩⟩))] [] (.aT [.t (.v (.int .i64 (eA 0 s))),.via 100 (qH (lS 0 s+2))]) [(100,.row 5 1 0 [] true)]:=by
 have h:s.length<=1000000:=cH h;intro E w vs hE0 hm hsz ⟨ν,G,I⟩;obtain⟨v,hv,hd⟩:=I.T 0 (.t (.v (.string ⟨⟨s⟩⟩))) rfl;have:=bY hd;subst this;obtain⟨u,rfl,_⟩:=aWm (d:=.t (.v (.string ⟨⟨s⟩⟩))) hsz (λi d' hd'=>I.T i d' hd');cases hv;have ht:=E.tC E.w0 (bX _) λ_ _ _=>rfl
 rw[hE0]at ht;have hs:(⟨⟨s⟩⟩:ByteArray).size=s.length:=rfl;have hl:(⟨⟨s⟩⟩:ByteArray).data.toList=s:=rfl;cases ha:Lib.atoiAll s with
 |ok n=>
   have e0:eA 0 s=n:=by unfold eA;rw[ha]
   have e1:lS 0 s=1:=by unfold lS;rw[ha]
   rw[e0,e1];refine(Tryz.strconv_Atoi_ok ⟨⟨s⟩⟩ (by rw[hs];omega) n (by rw[hl];exact ha) w).mono ?_;rintro e w' ⟨rfl,hw⟩;have hA:bB w w':=by
    rcases hw with rfl|⟨t,rfl⟩
    .exact bB.refl _
    .exact Lib.bytesWorld_below w 5 t
   exact S4 hE0 I hA n .nilIface 1 (.inl ⟨rfl,rfl⟩) rfl
 |range=>
   have e0:eA 0 s=Lib.atoiSat s:=by unfold eA;rw[ha]
   have e1:lS 0 s=0:=by unfold lS;rw[ha]
   rw[e0,e1];obtain⟨te,pe,hev⟩:=ht.2.2.2;refine(Tryz.strconv_Atoi_range ⟨⟨s⟩⟩ (by rw[hs];omega) (by rw[hl];exact ha) _ w hev (.inr ⟨te,pe,rfl⟩)).mono ?_;rintro e w' ⟨N,rfl,_,_,hB⟩;exact S4 hE0 I hB _ _ 0 (.inr ⟨by decide,_,_,rfl⟩) rfl
 |_=>
   have e0:eA 0 s=0:=by unfold eA;rw[ha]
   have e1:lS 0 s=0:=by unfold lS;rw[ha]
   rw[e0,e1];obtain⟨te,pe,hev⟩:=ht.2.2.1;refine(Tryz.strconv_Atoi_syntax ⟨⟨s⟩⟩ (by rw[hs];omega) (by rw[hl];exact ha) _ w hev (.inr ⟨te,pe,rfl⟩)).mono ?_;rintro e w' ⟨N,rfl,_,_,hB⟩;exact S4 hE0 I hB 0 _ 0 (.inr ⟨by decide,_,_,rfl⟩) rfl
theorem aFd(N:Nat):aV Tryz.prog 70 (U8 N):=aV.e1 λs h=>aFe s h
theorem t5b:Tryz.t5.bytes=1:=by kernel_rfl
set_option maxHeartbeats 1000000 in
set_option maxRecDepth 100000 in
theorem aU1(n:Nat)(h0:0<n)(hn:n<=1000000)(w:World):Calls Tryz.prog 56 #[.slice none 0 0,.int .i64 n] w λe w'=>∃v,e = .returned v/\w'.ownsRow w.heap.size 5 1 v 0 []/\bB w w':=by
 have hc:Builtin.nextslicecap n 0=n:=by unfold Builtin.nextslicecap;rw[aE (by omega)]
 have hb:=t5b
 go_enter Tryz.func56,Tryz.ntmps56
 go_wp2
 all_goals first|(exfalso;omega)|(exfalso;rename_i h _ _ _;rw[hc]at h;omega)|skip
 refine bodyPost_ret (results_tmp (t:=4) (by kernel_rfl) _ _ _) rfl ⟨_,rfl,?_,?_⟩
 .have h1:=grownCap_ge w n 0 5
  have h2:=grownCap_le_maxLen w n 0 5 (Nat.le_trans hn (by decide));exact World.ownsRow_made w (Builtin.zeroCells #[Value.int IntKind.u8 0] n++Builtin.zeroCells #[Value.int IntKind.u8 0] (grownCap w n 0 5-n)) (grownCap w n 0 5) (bX _) h2 (by rw[Array.size_append,size_zeroCells,size_zeroCells];show n*1+(grownCap w n 0 5-n)*1=_;omega)
 .have h:=(bB.refl w).alloc (Obj.cells (Builtin.zeroCells #[Value.int IntKind.u8 0] n++Builtin.zeroCells #[Value.int IntKind.u8 0] (grownCap w n 0 5-n)) 5)
  exact⟨h.os,h.tape,h.output,h.size,λj hj=>h.block j hj⟩
set_option maxHeartbeats 1000000 in
set_option maxRecDepth 100000 in
theorem aU0(w:World):Calls Tryz.prog 56 #[.slice none 0 0,.int .i64 0] w λe w'=>∃v,e = .returned v/\w'.ownsRow w.heap.size 5 1 v 0 []/\bB w w':=by
 go_enter Tryz.func56,Tryz.ntmps56
 go_wp2
 refine bodyPost_ret (results_tmp (t:=4) (by kernel_rfl) _ _ _) rfl ?_;exact⟨_,rfl,World.ownsRow_nil _ _ _ _,bB.refl _⟩
theorem aHM(n:Int)(h:DS 0 n=true):cN Tryz.prog 56 [.t (.v (.slice none 0 0)),.t (.v (.int .i64 n))] [] (.own 100) [(100,.row 5 1 0 [] true)]:=by
 have h:=cH h;intro E w vs hE0 hm hsz ⟨ν,G,I⟩;obtain⟨v,u,rfl,hd,hd2⟩:=TT hsz (λi d' hd'=>I.T i d' hd');have:=bY hd;subst this;have:=bY hd2;subst this;obtain⟨k,rfl⟩:∃k:Nat,n=k:=⟨n.toNat,by omega⟩
 have hcall:Calls Tryz.prog 56 #[.slice none 0 0,.int .i64 k] w λe w'=>∃v,e = .returned v/\w'.ownsRow w.heap.size 5 1 v 0 []/\bB w w':=by
  rcases Nat.eq_zero_or_pos k with rfl|hk
  .exact aU0 w
  .exact aU1 k hk (by omega) w
 refine hcall.mono ?_;rintro e w' ⟨v,rfl,hown,hA⟩;have J:=I.dI (G':=λb=>if b<w.heap.size then G b else 0) hA (λb hb=>aE hb);have one:∀k o,Ab.look k [(100,aM.row 5 1 0 [] true)]=some o->k=100/\o = .row 5 1 0 [] true:=λk o hk=>by
  unfold Ab.look at hk;split at hk
  .rename_i e;cases hk;exact⟨e.symm,rfl⟩
  .cases hk
 refine⟨_,rfl,λk=>if k=100 then v else ν k,_,⟨J.kept.os,J.kept.tape,J.kept.output,J.kept.size,J.kept.block⟩,J.cS,λk a1 a2=>?_,J.g0,rfl,λt d ht=>?_,λk o hk=>?_,λk o k' o' hk hk' hne=>?_⟩
 .have a2:k<100:=a2
  show(if k=100 then _ else ν k)=_;rw[aC (by omega)];exact J.eL k a1 a2
 .cases t with
  |zero=>
    cases ht;exact⟨_,rfl,.own (ν:=λk=>if k=100 then v else ν k) (k:=100) rfl (kV hown)⟩
  |succ t=>exact absurd (show(none:Option D)=some _ from ht) (by simp)
 .obtain⟨rfl,rfl⟩:=one k o hk
  refine⟨rfl,[],?_,rfl,λi u t hu=>by simp at hu,λg hg=>?_⟩
  .obtain⟨q1,q2⟩:=hown
   exact⟨q1,q2.imp id λ⟨g,cap,cur,hv,_,r⟩=>⟨g,cap,cur,hv,Nat.zero_le _,r⟩⟩
  .have hg:aQ v=some g:=hg
   rw[iB hown]at hg;have:=(hown.lt g hg).1;exact⟨.inl (by rw[show({ E with m:=1 }:Env).w0=w from hE0];exact this),aC (by omega)⟩
 .obtain⟨rfl,rfl⟩:=one k o hk
  obtain⟨rfl,rfl⟩:=one k' o' hk';exact absurd rfl hne
theorem aHL{xs:List X}{H:XH}{d:Int}(h:NP xs H=some d):xs=[.dE,.e (.i .i64) d]/\H=[]:=by
 unfold NP at h;split at h
 .rename_i y x
  cases y with
  |dE=>
    rw[b7 h];exact⟨rfl,rfl⟩
  |_=>cases h
 .cases h
theorem aHK(N:Nat):aV Tryz.prog 56 (V7 N):=Cb (az:=λn=>[.dE,.e (.i .i64) n]) (HH:=λ_=>[]) aHL (λn h=>aHM n h)
end Go.Proofs
