/- Contracts of library functions. Conditions are in the theorems. -/
import Derived.Test.YtipllfcmdnellaaDoorE4
import Derived.Lib.ItoaNum
import Derived.Lib.Atoi
import Derived.Shelf.Strings.Builder1
import Derived.Shelf.Strings.Builder2
import Derived.Shelf.Strconv.Atoi
import Derived.Shelf.Strconv.Itoa0
import Derived.Shelf.Strconv.Itoa1
import Derived.Shelf.LaysM
import Derived.Shelf.Strconv.Itoa2
import Derived.Shelf.Strconv.Itoa3
import Derived.Test.YtipllfcmdnellaaDoorProg
import Derived.Test.YtipllfcmdnellaaDoorE7
import Derived.Lib.AppendIntMem
import Derived.Lib.AtoiErrMem
/- Contracts of library functions, as definitions. -/
namespace Go.Proofs
open Go.Ax
def w35p (_:Nat) (x:Int):Bool:=decide (-9223372036854775808<=x/\x<=9223372036854775807)
def w35y0 (_:Nat) (x:Int):List UInt8:=Lib.itoa x
def w35e (N:Nat):Ent':=E1 (.i .i64) fun x=>(w35p N x,(.e .tx (w35y0 N x),[]))
def w74p (_:Nat) (s:List UInt8):Bool:=decide (s.length<=18)&&(Lib.atoi s).isSome
def w74y0 (_:Nat) (s:List UInt8):Int:=(Lib.atoi s).getD 0
def w74e (N:Nat):Ent':=E1 .tx fun s=>(w74p N s,(.tup [.e (.i .i64) (w74y0 N s),.v .nilIface],[]))
def l15e (_:Nat):Ent':=E0 (true,(.e .bo true,[]))
def w52in (xs:List X) (H:XH):Option (Option (Bool×List UInt8)):=match xs,H with
 | [.ref 50 0],[(50,.box e l)]=>(match Nat.beq e 74 with
   | true=>(match l with
     | [.via 50 0,.nilS]=>some none
     | _=>none)
   | false=>none)
 | [.ref 50 0],[(50,.box e l),(51,x2)]=>(match Nat.beq e 74 with
   | true=>(match l with
     | [.via 50 0,.own 51]=>(match ur 5 .u8 true x2 with | some l=>some (some (true,l)) | none=>(match ur 5 .u8 false x2 with | some l=>some (some (false,l)) | none=>none))
     | _=>none)
   | false=>none)
 | _,_=>none
def w52H:Option (Bool×List UInt8)->XH
 | none=>[(50,.box 74 [.via 50 0,.nilS])]
 | some (st,l)=>[(50,.box 74 [.via 50 0,.own 51]),(51,.row 5 .u8 l st)]
def w52e (_:Nat):Ent':=entR w52in (fun _=>true) (fun d=>(.tup [],w52H d))
def w53in (xs:List X) (H:XH):Option Int:=match xs,H with
 | [.ref 50 0,x],[(50,.box e l)]=>(match Nat.beq e 74 with
   | true=>(match l with
     | [.via 50 0,.nilS]=>ue (.i .i64) x
     | _=>none)
   | false=>none)
 | _,_=>none
def w53e (_:Nat):Ent':=entR w53in (fun n=>decide (0 < n/\n<=140737488355328)) (fun _=>(.tup [],[(50,.box 74 [.via 50 0,.own 100]),(100,.row 5 .u8 [] true)]))
end Go.Proofs
/-
 DERIVED: THE SHELF's CONTRACTS AT THIS DUMP, IN PLAIN WORDS (tools/lay-plain.mjs out of 'TrydShelf.lean', which tools/lay-shelf.mjs wrote): THE SAME DECLARATIONS UNDER THE SAME NAMES: 'import', 'namespace', 'open', 'def', 'theorem' AND NOTHING ELSE: no command of the shelf's: FOR A HAND-IN. Each laying: the table of numbers ('.._ren') and one theorem, a field a fact of the dump's own or the kernel's comparison; each contract: ONE APPLICATION.
-/
namespace Go.Proofs
open Go.Shelf
def Tryd.lays172_ren:Go.Shelf.Ren:=⟨fun | 172=>74 | 244=>81 | 245=>82 | 247=>85 | 279=>86 | 280=>87 | 281=>88 | 282=>89 | 287=>90 | 316=>91 | 171=>35 | 205=>92 | 321=>93 | 322=>94 | 243=>51 | 246=>62 | 283=>68 | 284=>69 | 285=>70 | 286=>71 | 129=>76 | 317=>75 | 318=>77 | 319=>78 | 320=>79 | 337=>83 | 338=>84 | n=>n,fun | 9=>9 | 3=>3 | 75=>78 | 76=>79 | 4=>4 | 5=>5 | 167=>130 | 37=>72 | 0=>0 | 85=>131 | 2=>2 | 168=>133 | 53=>116 | 175=>138 | 46=>66 | 210=>142 | 127=>100 | 145=>148 | 143=>146 | 21=>21 | 171=>115 | 173=>119 | 212=>123 | 51=>124 | 20=>20 | 213=>125 | 232=>136 | 233=>137 | 80=>82 | n=>n,fun | 15=>4 | 16=>5 | 17=>0 | 18=>2 | 19=>3 | n=>n⟩
theorem Tryd.lays172:Go.Proofs.Lays.n172 Tryd.prog Tryd.lays172_ren:={
 mixed:=by kernel_rfl
 f129:=Tryd.func76.trans (congrArg some (by kernel_rfl))
 f171:=Tryd.func35.trans (congrArg some (by kernel_rfl))
 f172:=Tryd.func74.trans (congrArg some (by kernel_rfl))
 f205:=Tryd.func92.trans (congrArg some (by kernel_rfl))
 f243:=Tryd.func51.trans (congrArg some (by kernel_rfl))
 f244:=Tryd.func81.trans (congrArg some (by kernel_rfl))
 f245:=Tryd.func82.trans (congrArg some (by kernel_rfl))
 f246:=Tryd.func62.trans (congrArg some (by kernel_rfl))
 f247:=Tryd.func85.trans (congrArg some (by kernel_rfl))
 f279:=Tryd.func86.trans (congrArg some (by kernel_rfl))
 f280:=Tryd.func87.trans (congrArg some (by kernel_rfl))
 f281:=Tryd.func88.trans (congrArg some (by kernel_rfl))
 f282:=Tryd.func89.trans (congrArg some (by kernel_rfl))
 f283:=Tryd.func68.trans (congrArg some (by kernel_rfl))
 f284:=Tryd.func69.trans (congrArg some (by kernel_rfl))
 f285:=Tryd.func70.trans (congrArg some (by kernel_rfl))
 f286:=Tryd.func71.trans (congrArg some (by kernel_rfl))
 f287:=Tryd.func90.trans (congrArg some (by kernel_rfl))
 f316:=Tryd.func91.trans (congrArg some (by kernel_rfl))
 f317:=Tryd.func75.trans (congrArg some (by kernel_rfl))
 f318:=Tryd.func77.trans (congrArg some (by kernel_rfl))
 f319:=Tryd.func78.trans (congrArg some (by kernel_rfl))
 f320:=Tryd.func79.trans (congrArg some (by kernel_rfl))
 f321:=Tryd.func93.trans (congrArg some (by kernel_rfl))
 f322:=Tryd.func94.trans (congrArg some (by kernel_rfl))
 f337:=Tryd.func83.trans (congrArg some (by kernel_rfl))
 f338:=Tryd.func84.trans (congrArg some (by kernel_rfl))
 t0:=Tryd.underlying0
 a0:=Tryd.isAgg0
 z0:=Tryd.sizeOf0
 v0:=Tryd.zeroValue0
 t2:=Tryd.underlying2
 a2:=Tryd.isAgg2
 z2:=Tryd.sizeOf2
 v2:=Tryd.zeroValue2
 t3:=Tryd.underlying3
 a3:=Tryd.isAgg3
 z3:=Tryd.sizeOf3
 v3:=Tryd.zeroValue3
 t4:=Tryd.underlying4
 a4:=Tryd.isAgg4
 z4:=Tryd.sizeOf4
 v4:=Tryd.zeroValue4
 t5:=Tryd.underlying5
 a5:=Tryd.isAgg5
 z5:=Tryd.sizeOf5
 v5:=Tryd.zeroValue5
 t9:=Tryd.underlying9
 a9:=Tryd.isAgg9
 z9:=Tryd.sizeOf9
 v9:=Tryd.zeroValue9
 t20:=Tryd.underlying20
 a20:=Tryd.isAgg20
 z20:=Tryd.sizeOf20
 v20:=Tryd.zeroValue20
 t21:=Tryd.underlying21
 a21:=Tryd.isAgg21
 z21:=Tryd.sizeOf21
 v21:=Tryd.zeroValue21
 t37:=Tryd.underlying72
 a37:=Tryd.isAgg72
 z37:=Tryd.sizeOf72
 v37:=Tryd.zeroValue72
 t46:=Tryd.underlying66
 a46:=Tryd.isAgg66
 z46:=Tryd.sizeOf66
 v46:=Tryd.zeroValue66
 t51:=Tryd.underlying124
 a51:=Tryd.isAgg124
 z51:=Tryd.sizeOf124
 v51:=Tryd.zeroValue124
 t53:=Tryd.underlying116
 a53:=Tryd.isAgg116
 z53:=Tryd.sizeOf116
 v53:=Tryd.zeroValue116
 t75:=Tryd.underlying78
 a75:=Tryd.isAgg78
 z75:=Tryd.sizeOf78
 v75:=Tryd.zeroValue78
 t76:=Tryd.underlying79
 a76:=Tryd.isAgg79
 z76:=Tryd.sizeOf79
 v76:=Tryd.zeroValue79
 t85:=Tryd.underlying131
 a85:=Tryd.isAgg131
 z85:=Tryd.sizeOf131
 v85:=Tryd.zeroValue131
 t127:=Tryd.underlying100
 a127:=Tryd.isAgg100
 z127:=Tryd.sizeOf100
 v127:=Tryd.zeroValue100
 t143:=Tryd.underlying146
 a143:=Tryd.isAgg146
 z143:=Tryd.sizeOf146
 v143:=Tryd.zeroValue146
 t145:=Tryd.underlying148
 a145:=Tryd.isAgg148
 z145:=Tryd.sizeOf148
 v145:=Tryd.zeroValue148
 t167:=Tryd.underlying130
 a167:=Tryd.isAgg130
 z167:=Tryd.sizeOf130
 v167:=Tryd.zeroValue130
 t168:=Tryd.underlying133
 a168:=Tryd.isAgg133
 z168:=Tryd.sizeOf133
 v168:=Tryd.zeroValue133
 t171:=Tryd.underlying115
 a171:=Tryd.isAgg115
 z171:=Tryd.sizeOf115
 v171:=Tryd.zeroValue115
 t173:=Tryd.underlying119
 a173:=Tryd.isAgg119
 z173:=Tryd.sizeOf119
 v173:=Tryd.zeroValue119
 t175:=Tryd.underlying138
 a175:=Tryd.isAgg138
 z175:=Tryd.sizeOf138
 v175:=Tryd.zeroValue138
 t210:=Tryd.underlying142
 a210:=Tryd.isAgg142
 z210:=Tryd.sizeOf142
 v210:=Tryd.zeroValue142
 t212:=Tryd.underlying123
 a212:=Tryd.isAgg123
 z212:=Tryd.sizeOf123
 v212:=Tryd.zeroValue123
 t213:=Tryd.underlying125
 a213:=Tryd.isAgg125
 z213:=Tryd.sizeOf125
 t232:=Tryd.underlying136
 a232:=Tryd.isAgg136
 z232:=Tryd.sizeOf136
 v232:=Tryd.zeroValue136
 t233:=Tryd.underlying137
 a233:=Tryd.isAgg137
 z233:=Tryd.sizeOf137
 v233:=Tryd.zeroValue137
 g15:=by kernel_rfl
 g16:=by kernel_rfl
 g17:=by kernel_rfl
 g18:=by kernel_rfl
 g19:=by kernel_rfl }
open Go.RowKit in
theorem Tryd.strconv_Atoi (s:ByteArray) (n:Int) (hl:s.size<=18) (h:Lib.atoi s.data.toList=some n) (w:World):
    Calls Tryd.prog 74 #[.string s] w fun e w'=>e = .returned (.tuple #[.int .i64 n,.nilIface])/\∃ t,w'=Lib.bytesWorld w 5 t:=Any.strconv_Atoi Tryd.lays172 s n hl h w
def Tryd.laysM171_ren:Go.Shelf.Ren:=⟨fun | 171=>35 | 243=>51 | 246=>62 | 283=>68 | 284=>69 | 285=>70 | 286=>71 | 129=>76 | 317=>75 | 318=>77 | 319=>78 | 320=>79 | 337=>83 | 338=>84 | n=>n,fun | 3=>3 | 9=>9 | 2=>2 | 4=>4 | 171=>115 | 0=>0 | 53=>116 | 37=>72 | 5=>5 | 173=>119 | 212=>123 | 51=>124 | 20=>20 | 213=>125 | 46=>66 | 232=>136 | 233=>137 | n=>n,fun | 17=>0 | 18=>2 | 19=>3 | n=>n⟩
theorem Tryd.laysM171:Go.Proofs.LaysM.n171 Tryd.prog Tryd.laysM171_ren:={
 mixed:=by kernel_rfl
 f129:=Tryd.func76.trans (congrArg some (by kernel_rfl))
 f171:=Tryd.func35.trans (congrArg some (by kernel_rfl))
 f243:=Tryd.func51.trans (congrArg some (by kernel_rfl))
 f246:=Tryd.func62.trans (congrArg some (by kernel_rfl))
 f283:=Tryd.func68.trans (congrArg some (by kernel_rfl))
 f284:=Tryd.func69.trans (congrArg some (by kernel_rfl))
 f285:=Tryd.func70.trans (congrArg some (by kernel_rfl))
 f286:=Tryd.func71.trans (congrArg some (by kernel_rfl))
 f317:=Tryd.func75.trans (congrArg some (by kernel_rfl))
 f318:=Tryd.func77.trans (congrArg some (by kernel_rfl))
 f319:=Tryd.func78.trans (congrArg some (by kernel_rfl))
 f320:=Tryd.func79.trans (congrArg some (by kernel_rfl))
 f337:=Tryd.func83.trans (congrArg some (by kernel_rfl))
 f338:=Tryd.func84.trans (congrArg some (by kernel_rfl))
 t0:=Tryd.underlying0
 a0:=Tryd.isAgg0
 z0:=Tryd.sizeOf0
 v0:=Tryd.zeroValue0
 t2:=Tryd.underlying2
 a2:=Tryd.isAgg2
 z2:=Tryd.sizeOf2
 v2:=Tryd.zeroValue2
 t3:=Tryd.underlying3
 a3:=Tryd.isAgg3
 z3:=Tryd.sizeOf3
 v3:=Tryd.zeroValue3
 t4:=Tryd.underlying4
 a4:=Tryd.isAgg4
 z4:=Tryd.sizeOf4
 v4:=Tryd.zeroValue4
 t5:=Tryd.underlying5
 a5:=Tryd.isAgg5
 z5:=Tryd.sizeOf5
 v5:=Tryd.zeroValue5
 t9:=Tryd.underlying9
 a9:=Tryd.isAgg9
 z9:=Tryd.sizeOf9
 v9:=Tryd.zeroValue9
 t20:=Tryd.underlying20
 a20:=Tryd.isAgg20
 z20:=Tryd.sizeOf20
 v20:=Tryd.zeroValue20
 t37:=Tryd.underlying72
 a37:=Tryd.isAgg72
 z37:=Tryd.sizeOf72
 v37:=Tryd.zeroValue72
 t46:=Tryd.underlying66
 a46:=Tryd.isAgg66
 z46:=Tryd.sizeOf66
 v46:=Tryd.zeroValue66
 t51:=Tryd.underlying124
 a51:=Tryd.isAgg124
 z51:=Tryd.sizeOf124
 v51:=Tryd.zeroValue124
 t53:=Tryd.underlying116
 a53:=Tryd.isAgg116
 z53:=Tryd.sizeOf116
 v53:=Tryd.zeroValue116
 t171:=Tryd.underlying115
 a171:=Tryd.isAgg115
 z171:=Tryd.sizeOf115
 v171:=Tryd.zeroValue115
 t173:=Tryd.underlying119
 a173:=Tryd.isAgg119
 z173:=Tryd.sizeOf119
 v173:=Tryd.zeroValue119
 t212:=Tryd.underlying123
 a212:=Tryd.isAgg123
 z212:=Tryd.sizeOf123
 v212:=Tryd.zeroValue123
 t213:=Tryd.underlying125
 a213:=Tryd.isAgg125
 z213:=Tryd.sizeOf125
 t232:=Tryd.underlying136
 a232:=Tryd.isAgg136
 z232:=Tryd.sizeOf136
 v232:=Tryd.zeroValue136
 t233:=Tryd.underlying137
 a233:=Tryd.isAgg137
 z233:=Tryd.sizeOf137
 v233:=Tryd.zeroValue137
 g17:=by kernel_rfl
 g18:=by kernel_rfl
 g19:=by kernel_rfl
 i0:=by kernel_rfl
 i2:=by kernel_rfl
 i3:=by kernel_rfl
 i4:=by kernel_rfl
 i5:=by kernel_rfl
 i9:=by kernel_rfl
 i20:=by kernel_rfl
 i37:=by kernel_rfl
 i46:=by kernel_rfl
 i51:=by kernel_rfl
 i53:=by kernel_rfl
 i171:=by kernel_rfl
 i173:=by kernel_rfl
 i212:=by kernel_rfl
 i232:=by kernel_rfl
 i233:=by kernel_rfl
 m17:=by kernel_rfl
 m18:=by kernel_rfl
 m19:=by kernel_rfl }
open Go.RowKit Go.Sort Go.Lib in
theorem Tryd.strconv_Itoa (n : Int) (h0 : -9223372036854775808 ≤ n) (h1 : n ≤ 9223372036854775807) (w : World) (htab : Lib.TabIs Tryd.prog w "internal/strconv.uint64pow10" .u64 Lib.pow10Tab) :
    Calls Tryd.prog 35 #[.int .i64 n] w fun e w'=>e = .returned (.string ⟨(Lib.itoa n).toArray⟩)/\∃ k os,w'=grow (w.drewN k) os:=Any.strconv_Itoa Tryd.laysM171 n h0 h1 w htab
end Go.Proofs
/- Contracts of library functions, proved. -/
namespace Go.Proofs
open Go Go.Ax Go.Ab Go.RowKit
theorem arg1 {vs:Array Value} {d:D} {ν:Nat->Value} {nm:Nat->Bool} {w:World} {G:Lim} (hs:vs.size=[d].length) (h:∀ (i:Nat) (d':D),[d][i]?=some d'->∃ v,vs[i]?=some v/\DR ν nm w G v d'):∃ v,vs = #[v]/\DR ν nm w G v d:=by
 obtain ⟨v,hv,hd⟩:=h 0 d rfl;refine ⟨v,?_,hd⟩;have h1:vs.size=1:=hs;apply Array.ext_getElem?;intro i;cases i with
 | zero=>rw [hv];rfl
 | succ i=>rw [Array.getElem?_eq_none (by omega)];simp
theorem w35d (x:Int) (h:w35p 0 x=true):Does Tryd.prog 35 [.t (.v (.int .i64 x))] [] (.t (.v (.string ⟨⟨Lib.itoa x⟩⟩))) []:=by
 have h:=of_decide_eq_true h;refine Does.lib fun w ht G ν nm vs hs ha=>?_
 obtain ⟨v,rfl,hd⟩:=arg1 hs ha;have:=bool_of hd;subst this;refine (Tryd.strconv_Itoa x h.1 h.2 w ht.1).mono ?_;rintro e w' ⟨rfl,k,os,rfl⟩;exact ⟨_,rfl,Lib.below_grow w.heap.size w (Nat.le_refl _) k os,G,fun _ _=>rfl,fun ν nm=>.t (.v _ rfl)⟩
theorem w35ok (N:Nat):EOk Tryd.prog 35 (w35e N):=EOk.e1 fun x h=>w35d x h
theorem w74d (x:List UInt8) (h:w74p 0 x=true):Does Tryd.prog 74 [.t (.v (.string ⟨⟨x⟩⟩))] [] (.tup [.t (.v (.int .i64 ((Lib.atoi x).getD 0))),.t (.v .nilIface)]) []:=by
 unfold w74p at h;rw [Bool.and_eq_true] at h;obtain ⟨h1,h2⟩:=h;have h1:=of_decide_eq_true h1;obtain ⟨n,hn⟩:=Option.isSome_iff_exists.1 h2;rw [hn];refine Does.lib fun w ht G ν nm vs hs ha=>?_
 obtain ⟨v,rfl,hd⟩:=arg1 hs ha;have:=bool_of hd;subst this;refine (Tryd.strconv_Atoi ⟨⟨x⟩⟩ n h1 hn w).mono ?_;rintro e w' ⟨rfl,t,rfl⟩;exact ⟨_,rfl,Lib.bytesWorld_below w 5 t,G,fun _ _=>rfl,fun ν nm=>tup2 (.t (.v _ rfl)) (.t (.v _ rfl))⟩
theorem w74ok (N:Nat):EOk Tryd.prog 74 (w74e N):=EOk.e1 fun x h=>w74d x h
end Go.Proofs
