/- The abstract machine, run: data with types, states as lists, regions. Conditions are in the theorems. -/
import Derived.Test.YtmbdfpgaokbkkaaDoorE3
/- The abstract machine, run: data with types, states as lists, and one function that runs code on them and says what is left to be shown. -/
namespace Go.Ax
open Go.RowKit Go.Ab
inductive Ex where
 | mk (op n:Int) (kids:List Ex)
def Ex.op:Ex->Int | .mk a _ _=>a
def Ex.num:Ex->Int | .mk _ a _=>a
def Ex.kids:Ex->List Ex | .mk _ _ a=>a
inductive Ty where
 | i (k:IntKind)
 | u8 | bo | tx | ex | un
 | sl (e:Ty)
 | pr (x y:Ty)
def Ty.V:Ty->Type
 | .i _=>Int
 | .u8=>UInt8
 | .bo=>Bool
 | .tx=>List UInt8
 | .ex=>Ex
 | .un=>Unit
 | .sl e=>List e.V
 | .pr x y=>x.V×y.V
def teq:(a b:Ty)->Option (PLift (a=b))
 | .i k,.i k'=>if h:k=k' then some ⟨by rw [h]⟩ else none
 | .u8,.u8=>some ⟨rfl⟩
 | .bo,.bo=>some ⟨rfl⟩
 | .tx,.tx=>some ⟨rfl⟩
 | .ex,.ex=>some ⟨rfl⟩
 | .un,.un=>some ⟨rfl⟩
 | .sl a,.sl b=>match teq a b with | some ⟨h⟩=>some ⟨by rw [h]⟩ | none=>none
 | .pr a b,.pr c d=>match teq a c with
   | some ⟨h⟩=>match teq b d with | some ⟨g⟩=>some ⟨by rw [h,g]⟩ | none=>none
   | none=>none
 | _,_=>none
def castV {a b:Ty} (h:a=b) (x:a.V):b.V:=h ▸ x
def castA {a b:Ty} (h:a=b) (l:List a.V):List b.V:=h ▸ l
def Ty.size:Ty->Nat
 | .pr a b=>a.size+b.size
 | .ex=>3
 | .un=>0
 | _=>1
def Ty.one:Ty->Bool
 | .pr _ _=>false
 | .ex=>false
 | .un=>false
 | _=>true
def Ty.zero:(τ:Ty)->τ.V
 | .i _=>(0:Int)
 | .u8=>(0:UInt8)
 | .bo=>false
 | .tx=>([]:List UInt8)
 | .ex=>Ex.mk 0 0 []
 | .un=>()
 | .sl _=>[]
 | .pr a b=>(a.zero,b.zero)
inductive X where
 | e (τ:Ty) (x:τ.V)
 | nilS
 | agg (xs:List X)
 | tup (xs:List X)
 | own (k:Nat)
 | ref (k off:Nat)
 | rr (k i j s:Nat)
 | pt (τ:Ty) (y:τ.V) (j:Nat)
 | fn (f:FuncId) (xs:List X)
 | v (val:Value)
 | bit (j:Nat) (q:Bool)
 | cnd (key:Nat) (c:Bool) (x:X)
 | sub (k i:Nat)
 | sref (k i j:Nat)
 | vw (k i n s:Nat)
 | via (k j:Nat)
 | ifc (k te:Nat)
 | ag (τ:Ty) (l:List τ.V)
 | pan (val:Value)
inductive XO where
 | box (e:TypeId) (xs:List X)
 | row (e:TypeId) (τ:Ty) (l:List τ.V) (st:Bool)
 | nest (e e':TypeId) (τ:Ty) (l:List (List τ.V))
 | mp (τ:Ty) (l:List (τ.V×X))
 | it (s:List UInt8) (pos:Int)
 | nst (e e':TypeId) (κ ρ:Ty) (l:List (List κ.V×ρ.V)) (ln:Option (Int×Nat))
 | arr (e:TypeId) (τ:Ty) (l:List τ.V)
abbrev XT:=List (Nat×X)
abbrev XH:=List (Nat×XO)
abbrev Wx:=List (Nat×Option XO)
abbrev Res:=X×XH
abbrev O:=Option Res
structure Sg where
 T:XT
 H:XH
 N:Nat
abbrev Ent':=List X->XH->Option (Bool×Res)
abbrev EntP:=List X->XH->Option (Bool×Option Bool×Res×Res)
structure Cx where
 P:Program
 ex:TypeId
 G:List (Nat×Ent')
 Gp:List (Nat×EntP)
class Alg where
 br:Bool->O->O->O
 ck:Bool->O->O
 gx:{α:Type}->List α->Int->(α->O)->O
 gn:{α:Type}->List α->Nat->(α->O)->O
 gc:{α:Type}->Bool->α->List α->Int->(α->O)->O
open Alg
def br0 (b:Bool) (x y:O):O:=match b with | true=>x | false=>y
def ck0 (b:Bool) (x:O):O:=match b with | true=>x | false=>none
def gx0 {α:Type} (l:List α) (n:Int) (k:α->O):O:=match (if n < 0 then none else l[n.toNat]?) with | some y=>k y | none=>none
def gn0 {α:Type} (l:List α) (n:Nat) (k:α->O):O:=match l[n]? with | some y=>k y | none=>none
def gc0 {α:Type} (c:Bool) (z:α) (l:List α) (n:Int) (k:α->O):O:=match c with | true=>gx0 l n k | false=>k z
section
variable [Alg]
def ckg (g:Option Bool) (b:Bool) (k:O):O:=match g with | none=>ck b k | some c=>ck (!c||b) k
def gxg (g:Option Bool) (τ:Ty) (l:List τ.V) (n:Int) (k:τ.V->O):O:=match g with | none=>gx l n k | some c=>gc c τ.zero l n k
def ob {α:Type} (x:Option α) (k:α->O):O:=match x with | some y=>k y | none=>none
def lk {α:Type} (k:Nat):List (Nat×α)->Option α
 | []=>none
 | (k',x)::l=>match Nat.beq k' k with | true=>some x | false=>lk k l
def setK {α β:Type} (k:Nat) (x:α):List (Nat×α)->(List (Nat×α)->Option β)->Option β
 | [],f=>f [(k,x)]
 | (k',y)::l,f=>match Nat.beq k' k with
   | true=>f ((k,x)::l)
   | false=>setK k x l fun l'=>f ((k',y)::l')
def delK {α β:Type} (k:Nat):List (Nat×α)->(List (Nat×α)->Option β)->Option β
 | [],f=>f []
 | (k',y)::l,f=>match Nat.beq k' k with
   | true=>delK k l f
   | false=>delK k l fun l'=>f ((k',y)::l')
def updT (dst:Option Tmp) (x:X) (T:XT) (f:XT->O):O:=match dst with | none=>f T | some t=>setK t x T f
def updH:Wx->XH->(XH->O)->O
 | [],H,f=>f H
 | (k,some o)::W,H,f=>updH W H fun H'=>setK k o H' f
 | (k,none)::W,H,f=>updH W H fun H'=>delK k H' f
def cellsX:(τ:Ty)->τ.V->List X
 | .pr a b,x=>cellsX a x.1++cellsX b x.2
 | .ex,x=>[.e (.i .i64) (Ex.op x),.e (.i .i64) (Ex.num x),.e (.sl .ex) (Ex.kids x)]
 | .un,_=>[]
 | .i k,x=>[.e (.i k) x]
 | .u8,x=>[.e .u8 x]
 | .bo,x=>[.e .bo x]
 | .tx,x=>[.e .tx x]
 | .sl t,x=>[.e (.sl t) x]
def toX (τ:Ty) (x:τ.V):X:=match τ.one with | true=>.e τ x | false=>.agg (cellsX τ x)
def one? (τ:Ty):X->Option τ.V
 | .e τ' x=>match teq τ' τ with | some ⟨h⟩=>some (castV h x) | none=>none
 | .nilS=>match τ with | .sl _=>some [] | _=>none
 | _=>none
def joinX:(τ:Ty)->List X->Option (τ.V×List X)
 | .pr a b,xs=>match joinX a xs with
   | some (x,r)=>match joinX b r with
     | some (y,r')=>some ((x,y),r')
     | none=>none
   | none=>none
 | .ex,a::b::c::r=>match one? (.i .i64) a with
   | some x=>match one? (.i .i64) b with
     | some y=>match one? (.sl .ex) c with
       | some z=>some (Ex.mk x y z,r)
       | none=>none
     | none=>none
   | none=>none
 | .ex,_=>none
 | .un,xs=>some ((),xs)
 | .i k,x::r=>match one? (.i k) x with | some y=>some (y,r) | none=>none
 | .i _,[]=>none
 | .u8,x::r=>match one? .u8 x with | some y=>some (y,r) | none=>none
 | .u8,[]=>none
 | .bo,x::r=>match one? .bo x with | some y=>some (y,r) | none=>none
 | .bo,[]=>none
 | .tx,x::r=>match one? .tx x with | some y=>some (y,r) | none=>none
 | .tx,[]=>none
 | .sl t,x::r=>match one? (.sl t) x with | some y=>some (y,r) | none=>none
 | .sl _,[]=>none
def X.cells:X->List X
 | .agg xs=>xs
 | x=>[x]
def joinAll (τ:Ty) (xs:List X):Option τ.V:=match joinX τ xs with | some (y,[])=>some y | _=>none
def tyX (τ:Ty) (x:X):Option τ.V:=match τ.one with
 | true=>one? τ x
 | false=>match x with | .agg xs=>joinAll τ xs | _=>none
def atX:(τ:Ty)->τ.V->(j m:Nat)->((τ':Ty)->τ'.V->O)->O
 | .pr a b,x,j,m,k=>match Nat.beq j 0&&Nat.beq m (a.size+b.size) with
   | true=>k (.pr a b) x
   | false=>match Nat.blt j a.size with
     | true=>atX a x.1 j m k
     | false=>atX b x.2 (j - a.size) m k
 | .ex,x,j,m,k=>match j,m with
   | 0,3=>k .ex x
   | 0,1=>k (.i .i64) (Ex.op x)
   | 1,1=>k (.i .i64) (Ex.num x)
   | 2,1=>k (.sl .ex) (Ex.kids x)
   | _,_=>none
 | .un,_,_,_,_=>none
 | τ,x,j,m,k=>match Nat.beq j 0&&Nat.beq m 1 with
   | true=>k τ x
   | false=>none
def setAt:(τ:Ty)->τ.V->(j m:Nat)->List X->(τ.V->O)->O
 | .pr a b,x,j,m,xs,k=>match Nat.beq j 0&&Nat.beq m (a.size+b.size) with
   | true=>ob (joinAll (.pr a b) xs) k
   | false=>match Nat.blt j a.size with
     | true=>setAt a x.1 j m xs fun y=>k (y,x.2)
     | false=>setAt b x.2 (j - a.size) m xs fun y=>k (x.1,y)
 | .ex,_,j,m,xs,k=>match j,m with
   | 0,3=>ob (joinAll .ex xs) k
   | _,_=>none
 | .un,_,_,_,_,_=>none
 | τ,_,j,m,xs,k=>match Nat.beq j 0&&Nat.beq m 1 with
   | true=>ob (joinAll τ xs) k
   | false=>none
def prs:List Ty->Option Ty
 | []=>none
 | [a]=>some a
 | a::l=>match prs l with | some r=>some (.pr a r) | none=>none
def mapO {α β:Type} (f:α->Option β):List α->Option (List β)
 | []=>some []
 | x::l=>match f x with
   | some y=>match mapO f l with | some r=>some (y::r) | none=>none
   | none=>none
def repl {α:Type} (x:α):Nat->List α
 | 0=>[]
 | n+1=>x::repl x n
def tyOf (P:Program) (ex:TypeId):Nat->TypeId->Option Ty
 | 0,_=>none
 | n+1,t=>match Nat.beq t ex with
   | true=>some .ex
   | false=>match P.underlying t with
     | some (.int .u8)=>some .u8
     | some (.int k)=>some (.i k)
     | some .bool=>some .bo
     | some .string=>some .tx
     | some (.slice e)=>match tyOf P ex n e with | some τ=>some (.sl τ) | none=>none
     | some (.struct fs)=>match mapO (fun f=>tyOf P ex n f.type) fs.toList with | some l=>prs l | none=>none
     | some (.array m e)=>match tyOf P ex n e with | some τ=>prs (repl τ m) | none=>none
     | _=>none
def Cx.ty (c:Cx) (t:TypeId):Option Ty:=tyOf c.P c.ex 12 t
def sizeT (P:Program) (t:TypeId):Option Nat:=(P.info? t).map (·.size)
def elemT (P:Program) (t:TypeId):Option TypeId:=match P.underlying t with | some (.slice e)=>some e | _=>none
def ofV1:Value->X
 | .int .u8 n=>match decide (0<=n/\n < 256) with | true=>.e .u8 (UInt8.ofNat n.toNat) | false=>.v (.int .u8 n)
 | .int k n=>.e (.i k) n
 | .bool b=>.e .bo b
 | .string s=>.e .tx s.data.toList
 | .slice none 0 0=>.nilS
 | w=>.v w
def ofVX:Value->Option X
 | .agg cs=>match cs.toList.all (·.oneCell') with | true=>some (.agg (cs.toList.map ofV1)) | false=>none
 | .tuple _=>none
 | w=>some (ofV1 w)
def glob (g:Nat):X:=.v (.pointer (some ⟨g,0,none⟩))
structure Vw where
 T:Nat->Option X
 H:Nat->Option XO
 g:Option (Nat×Bool):=none
def unC (g:Option (Nat×Bool)):X->Option X
 | .bit _ q=>some (.e .bo q)
 | .cnd key _ x=>match g with
   | some (key',_)=>match Nat.beq key key' with
     | true=>match x with | .bit _ q=>some (.e .bo q) | .cnd ..=>none | x=>some x
     | false=>none
   | none=>none
 | x=>some x
def Vw.ev (σ:Vw):Operand->Option X
 | .tmp t=>match σ.T t with | some x=>unC σ.g x | none=>none
 | .const w=>ofVX w
 | .func f=>some (.fn f [])
 | .global g=>some (glob g)
def Vw.evs (σ:Vw):List Operand->(List X->O)->O
 | [],k=>k []
 | x::l,k=>ob (σ.ev x) fun y=>σ.evs l fun ys=>k (y::ys)
def Vw.give (σ:Vw):X->X
 | .own q=>match σ.H q with | some (.row _ τ l true)=>.e (.sl τ) l | _=>.own q
 | x=>x
def Vw.giveC (σ:Vw):X->X
 | .agg xs=>.agg (xs.map σ.give)
 | x=>σ.give x
def Vw.src (σ:Vw) (τ:Ty):X->Option (List τ.V)
 | .own q=>match σ.H q with
   | some (.row _ τ' l _)=>match teq τ' τ with | some ⟨h⟩=>some (castV (congrArg Ty.sl h) l) | none=>none
   | _=>none
 | x=>one? (.sl τ) x
def Vw.len (σ:Vw):X->(Int->O)->O
 | .own q,k=>match σ.H q with | some (.row _ _ l _)=>k l.length | some (.nest _ _ _ l)=>k (List.length l) | some (.nst _ _ _ _ l _)=>k (List.length l) | _=>none
 | .sub q i,k=>match σ.H q with | some (.nest _ _ _ l)=>gn l i fun r=>k (List.length r) | _=>none
 | .e (.sl _) l,k=>k (List.length l)
 | .nilS,k=>k 0
 | _,_=>none
def lenX (c:Cx) (σ:Vw) (t:TypeId) (v:X) (k:X->O):O:=match c.P.underlying t,v with
 | some (.slice _),v=>σ.len v fun n=>k (.e (.i .i64) n)
 | some .string,.e .tx l=>k (.e (.i .i64) (List.length (α:=UInt8) l:Int))
 | _,_=>none
def opEq:Operand->Operand->Bool
 | .tmp a,.tmp b=>Nat.beq a b
 | .const (.int k a),.const (.int k' b)=>decide (k=k')&&a == b
 | _,_=>false
def andX (q x:Bool) (k:X->O):O:=k (.e .bo (q&&x))
def orX (q x:Bool) (k:X->O):O:=k (.e .bo (q||x))
def Vw.evU (σ:Vw) (key:Nat):Operand->Option X
 | .tmp t=>match σ.T t with
   | some (.cnd key' _ x)=>match Nat.beq key' key with
     | true=>match x with | .bit _ q=>some (.e .bo q) | .cnd ..=>none | x=>some x
     | false=>unC σ.g (.cnd key' true x)
   | some x=>unC σ.g x
   | none=>none
 | x=>σ.ev x
def Vw.bitOf (σ:Vw):Operand->Option (Nat×Bool)
 | .tmp t=>match σ.T t with
   | some (.bit j q)=>some (j,q)
   | some (.cnd key _ (.bit j q))=>match σ.g with
     | some (key',_)=>match Nat.beq key key' with | true=>some (j,q) | false=>none
     | none=>none
   | _=>none
 | _=>none
def pickX (σ:Vw) (b x y:Operand) (k:X->O):O:=match σ.bitOf b with
 | some (j,q)=>ob (σ.evU (2 * j+1) x) fun v=>ob (σ.evU (2 * j) y) fun v'=>match v,v' with
   | .e .bo a,.e .bo a'=>match y,x with
     | .const (.bool false),_=>andX q a k
     | _,.const (.bool true)=>orX q a' k
     | _,_=>br q (k v) (k v')
   | v,v'=>br q (k v) (k v')
 | none=>ob (σ.ev b) fun v=>match v with
   | .e .bo q=>br q (ob (σ.ev x) k) (ob (σ.ev y) k)
   | .v (.bool true)=>ob (σ.ev x) k
   | .v (.bool false)=>ob (σ.ev y) k
   | _=>none
def lim (n b:Nat):Bool:=decide (n * b<=140737488355328/\n<=140737488355327)
def boolBin (op:BinOp) (m n:Bool) (k:X->O):O:=match op with
 | .eql=>k (.e .bo (m == n))
 | .neq=>k (.e .bo (!(m == n)))
 | _=>none
def negX (ik:IntKind) (n:Int) (k:X->O):O:=k (.e (.i ik) (ik.wrap (-n)))
def notX (q:Bool) (k:X->O):O:=k (.e .bo (!q))
def makeX (τ:Ty) (e:TypeId) (fr b:Nat) (st:Bool) (z:Int) (k:X->Wx->O):O:=ck (decide (0<=z)) (ck (lim z.toNat b) (k (.own fr) [(fr,some (.row e τ (List.replicate z.toNat τ.zero) st))]))
def makeN (κ:Ty) (e e':TypeId) (fr b:Nat) (z:Int) (k:X->Wx->O):O:=ck (decide (0<=z)) (ck (lim z.toNat b) (k (.own fr) [(fr,some (.nst e e' κ .un (List.replicate z.toNat ([],())) none))]))
def bytesOf (x:List UInt8):(τ:Ty)->Option (List τ.V)
 | .u8=>some x
 | _=>none
def appX (τ:Ty) (e:TypeId) (fr bt:Nat) (gone:Wx) (st:Bool) (l l':List τ.V) (k:X->Wx->O):O:=ck (lim (l++l').length bt) (k (.own fr) ((fr,some (.row e τ (l++l') st))::gone))
def maxX (m n:Int) (k:X->O):O:=k (.e (.i .i64) (max m n:Int))
def minX (m n:Int) (k:X->O):O:=k (.e (.i .i64) (min m n:Int))
def u8of (n:Int):UInt8:=UInt8.ofNat (n % 256).toNat
def andV (ik:IntKind) (m n:Int):Int:=ik.wrap (BitVec.ofInt ik.bits m &&& BitVec.ofInt ik.bits n).toNat
def orV (ik:IntKind) (m n:Int):Int:=ik.wrap (BitVec.ofInt ik.bits m ||| BitVec.ofInt ik.bits n).toNat
def xorV (ik:IntKind) (m n:Int):Int:=ik.wrap (BitVec.ofInt ik.bits m ^^^ BitVec.ofInt ik.bits n).toNat
def notV (ik:IntKind) (m n:Int):Int:=ik.wrap (BitVec.ofInt ik.bits m &&& ~~~BitVec.ofInt ik.bits n).toNat
def intBin (g:Option Bool) (op:BinOp) (ik:IntKind) (m n:Int) (k:X->O):O:=match op with
 | .add=>k (.e (.i ik) (ik.wrap (m+n)))
 | .sub=>k (.e (.i ik) (ik.wrap (m - n)))
 | .mul=>k (.e (.i ik) (ik.wrap (m * n)))
 | .quo=>ckg g (decide (n≠0)) (k (.e (.i ik) (ik.wrap (m.tdiv n))))
 | .rem=>ckg g (decide (n≠0)) (k (.e (.i ik) (m.tmod n)))
 | .lss=>k (.e .bo (decide (m < n)))
 | .leq=>k (.e .bo (decide (m<=n)))
 | .gtr=>k (.e .bo (decide (n < m)))
 | .geq=>k (.e .bo (decide (n<=m)))
 | .eql=>k (.e .bo (decide (m=n)))
 | .neq=>k (.e .bo (decide (m≠n)))
 | .and=>k (.e (.i ik) (andV ik m n))
 | .or=>k (.e (.i ik) (orV ik m n))
 | .xor=>k (.e (.i ik) (xorV ik m n))
 | .andNot=>k (.e (.i ik) (notV ik m n))
 | _=>none
def isShift:BinOp->Bool
 | .shl=>true
 | .shr=>true
 | _=>false
def shiftX (g:Option Bool) (op:BinOp) (ik:IntKind) (m n:Int) (k:X->O):O:=match op with
 | .shl=>ckg g (decide (0<=n)) (k (.e (.i ik) (ik.wrap (m * 2 ^ (min n.toNat ik.bits)))))
 | .shr=>ckg g (decide (0<=n)) (k (.e (.i ik) (m.fdiv (2 ^ (min n.toNat ik.bits)))))
 | _=>none
def u8Bin (op:BinOp) (m n:UInt8) (k:X->O):O:=match op with
 | .add=>k (.e .u8 (m+n))
 | .sub=>k (.e .u8 (m - n))
 | .lss=>k (.e .bo (decide (m < n)))
 | .leq=>k (.e .bo (decide (m<=n)))
 | .gtr=>k (.e .bo (decide (n < m)))
 | .geq=>k (.e .bo (decide (n<=m)))
 | .eql=>k (.e .bo (decide (m=n)))
 | .neq=>k (.e .bo (decide (m≠n)))
 | _=>none
def strBin (g:Option Bool) (op:BinOp) (m n:List UInt8) (k:X->O):O:=match op with
 | .add=>ckg g (decide ((m.length:Int)+n.length<=9223372036854775807)) (k (.e .tx (m++n)))
 | .eql=>k (.e .bo (decide (m=n)))
 | .neq=>k (.e .bo (decide (m≠n)))
 | _=>none
def binX (P:Program) (g:Option Bool) (op:BinOp) (xt:TypeId) (x y:X) (k:X->O):O:=match x,y with
 | .e (.i ik) m,.e (.i ik') n=>match isShift op with
   | true=>shiftX g op ik m n k
   | false=>match decide (ik=ik') with | true=>intBin g op ik m n k | false=>none
 | .e .u8 m,.e .u8 n=>u8Bin op m n k
 | .e .tx m,.e .tx n=>strBin g op m n k
 | .e .bo m,.e .bo n=>match P.underlying xt with
   | some .bool=>boolBin op m n k
   | _=>none
 | _,_=>none
def nilEq (P:Program) (t:TypeId) (op:BinOp) (v w:X) (y:Operand):Option Bool:=match v with
 | .v .nilIface=>match w,y,P.underlying t with
   | .v .nilIface,.const _,some (.interface _)=>(match op with | .eql=>some true | .neq=>some false | _=>none)
   | _,_,_=>none
 | .via _ (j+2)=>match w,y,P.underlying t with
   | .v .nilIface,.const _,some (.interface _)=>(match op with | .eql=>some (decide (j=1)) | .neq=>some (decide (j≠1)) | _=>none)
   | _,_,_=>none
 | _=>none
def asInt (x:X) (k:Int->O):O:=match x with
 | .e (.i _) n=>k n
 | .e .u8 c=>k (UInt8.toNat c:Int)
 | _=>none
def Vw.optI (σ:Vw):Option Operand->(Option Int->O)->O
 | none,f=>f none
 | some x,f=>ob (σ.ev x) fun w=>asInt w fun n=>f (some n)
def convX (P:Program) (s d:TypeId) (x:X) (k:X->O):O:=match P.underlying s,P.underlying d,x with
 | some _,some (.int .u8),.e (.i _) m=>k (.e .u8 (u8of m))
 | some _,some (.int .u8),.e .u8 c=>k (.e .u8 c)
 | some _,some (.int kd),.e (.i _) m=>k (.e (.i kd) (kd.wrap m))
 | some _,some (.int kd),.e .u8 c=>k (.e (.i kd) (kd.wrap (UInt8.toNat c:Int)))
 | _,_,_=>none
def drops {α:Type}:Nat->List α->List α
 | 0,l=>l
 | _+1,[]=>[]
 | n+1,_::l=>drops n l
def takes {α:Type}:Nat->List α->List α
 | 0,_=>[]
 | _+1,[]=>[]
 | n+1,x::l=>x::takes n l
def puts {α:Type}:List α->Nat->List α->List α
 | l,0,[]=>l
 | _::l,0,y::new=>y::puts l 0 new
 | [],_,_=>[]
 | x::l,n+1,new=>x::puts l n new
def loadX (c:Cx) (σ:Vw) (t:TypeId) (a:X) (k:X->O):O:=match rowT c.P t,sizeT c.P t with
 | some rw,some m=>match a with
   | .ref q off=>match σ.H q with
     | some (.box _ xs)=>match rw with
       | true=>match Nat.beq (takes m (drops off xs)).length m with | true=>k (.agg (takes m (drops off xs))) | false=>none
       | false=>ob xs[off]? k
     | _=>none
   | .rr q i j s=>match σ.H q with
     | some (.row _ τ l _)=>match Nat.beq s τ.size with
       | true=>gn l i fun y=>atX τ y j m fun τ' y'=>match rw,τ'.one with
         | true,false=>k (.agg (cellsX τ' y'))
         | false,true=>k (.e τ' y')
         | _,_=>none
       | false=>none
     | some (.nest _ _ _ l)=>match rw,Nat.beq j 0&&Nat.beq s 1 with
       | false,true=>gn l i fun _=>k (.sub q i)
       | _,_=>none
     | some (.nst _ _ _ ρ l ln)=>match Nat.beq s (1+ρ.size) with
       | true=>match Nat.beq j 0 with
         | true=>match rw,ln with
           | false,some (i',q')=>ck (decide (i=i'.toNat)) (gn l i fun _=>k (.own q'))
           | _,_=>none
         | false=>gn l i fun y=>atX ρ y.2 (j - 1) m fun τ' y'=>match rw,τ'.one with
           | true,false=>k (.agg (cellsX τ' y'))
           | false,true=>k (.e τ' y')
           | _,_=>none
       | false=>none
     | _=>none
   | .sref q i j=>match σ.H q with
     | some (.nest _ _ τ l)=>match rw,τ.one with
       | false,true=>gn l i fun r=>gn r j fun y=>k (.e τ y)
       | _,_=>none
     | _=>none
   | .pt τ y j=>atX τ y j m fun τ' y'=>match rw,τ'.one with
     | true,false=>k (.agg (cellsX τ' y'))
     | false,true=>k (.e τ' y')
     | _,_=>none
   | _=>none
 | _,_=>none
def storeX (c:Cx) (σ:Vw) (t:TypeId) (a y:X) (k:X->Wx->O):O:=match sizeT c.P t with
 | some m=>match Nat.beq y.cells.length m&&Nat.blt 0 m with
   | true=>match a with
     | .ref q off=>match σ.H q with
       | some (.box e xs)=>match Nat.ble (off+m) xs.length with
         | true=>k (.tup []) [(q,some (.box e (puts xs off y.cells)))]
         | false=>none
       | _=>none
     | .rr q i j s=>match σ.H q with
       | some (.row e τ l false)=>match Nat.beq s τ.size with
         | true=>gn l i fun z=>setAt τ z j m (σ.giveC y).cells fun z'=>k (.tup []) [(q,some (.row e τ (l.set i z') false))]
         | false=>none
       | some (.nst e e' κ ρ l ln)=>match Nat.beq s (1+ρ.size)&&Nat.beq m 1 with
         | true=>match Nat.beq j 0 with
           | true=>match y,ln with
             | .own q',some (i',_)=>ck (decide (i=i'.toNat)) (gn l i fun _=>k (.tup []) [(q,some (.nst e e' κ ρ l (some (i',q'))))])
             | _,_=>none
           | false=>match y with
             | .agg _=>none
             | y=>gn l i fun z=>setAt ρ z.2 (j - 1) m (σ.giveC y).cells fun z'=>k (.tup []) [(q,some (.nst e e' κ ρ (l.set i (z.1,z')) ln))]
         | false=>none
       | _=>none
     | .sref q i j=>match σ.H q with
       | some (.nest e e' τ l)=>match y with
         | .e τ' z=>match teq τ' τ with
           | some ⟨h⟩=>match τ.one with
             | true=>gn l i fun r=>gn r j fun _=>k (.tup []) [(q,some (.nest e e' τ (l.set i (r.set j (castV h z)))))]
             | false=>none
           | none=>none
         | _=>none
       | _=>none
     | _=>none
   | false=>none
 | none=>none
def slc {α:Type} (l:List α) (lo hi:Option Int):List α:=match lo,hi with
 | none,none=>l
 | some a,none=>l.drop a.toNat
 | none,some b=>l.take b.toNat
 | some a,some b=>(l.take b.toNat).drop a.toNat
def slcOk (n:Nat) (lo hi:Option Int):Bool:=match lo,hi with
 | none,none=>true
 | some a,none=>decide (0<=a/\a<=n)
 | none,some b=>decide (0<=b/\b<=n)
 | some a,some b=>decide (0<=a/\a<=b/\b<=n)
def slcX (τ:Ty) (g:Option Bool) (l:List τ.V) (lo hi:Option Int) (k:X->O):O:=ckg g (slcOk l.length lo hi) (k (.e (.sl τ) (slc l lo hi)))
def slcT (g:Option Bool) (l:List UInt8) (lo hi:Option Int) (k:X->O):O:=ckg g (slcOk l.length lo hi) (k (.e .tx (slc l lo hi)))
def splitP (τ:Ty):Nat->(σ:Ty)->σ.V->Option (List τ.V)
 | 0,_,_=>none
 | 1,σ,y=>match teq σ τ with | some ⟨h⟩=>some [castV h y] | none=>none
 | n+2,.pr a b,y=>match teq a τ with
   | some ⟨h⟩=>match splitP τ (n+1) b y.2 with | some l=>some (castV h y.1::l) | none=>none
   | none=>none
 | _+2,_,_=>none
def slcA (c:Cx) (t:TypeId) (a:X) (k:X->O):O:=match c.P.underlying t with
 | some (.array n e)=>match a with
   | .pt σ y 0=>match c.ty e with
     | some τ=>match sizeT c.P e with
       | some m=>match Nat.beq m τ.size with
         | true=>match splitP τ n σ y with
           | some l=>match Nat.beq l.length n with | true=>k (.e (.sl τ) l) | false=>none
           | none=>none
         | false=>none
       | none=>none
     | none=>none
   | _=>none
 | _=>none
def sliceX (c:Cx) (σ:Vw) (t:TypeId) (a:X) (lo hi:Option Int) (k:X->O):O:=match c.P.underlying t,σ.give a with
 | some (.slice e),.e (.sl τ) l=>match sizeT c.P e with
   | some m=>match Nat.beq m τ.size with | true=>slcX τ (σ.g.map (·.2)) l lo hi k | false=>none
   | none=>none
 | some .string,.e .tx l=>slcT (σ.g.map (·.2)) l lo hi k
 | _,_=>none
def loV:Option Int->Nat
 | none=>0
 | some a=>a.toNat
def hiV (n:Nat):Option Int->Nat
 | none=>n
 | some b=>b.toNat
def slcO (c:Cx) (σ:Vw) (t:TypeId) (q:Nat) (τ:Ty) (l:List τ.V) (lo hi:Option Int) (k:X->Wx->O):O:=match c.P.underlying t with
 | some (.slice e)=>match sizeT c.P e with
   | some m=>match Nat.beq m τ.size&&Nat.blt 0 m with
     | true=>ckg (σ.g.map (·.2)) (slcOk l.length lo hi) (k (.vw q (loV lo) (hiV l.length hi - loV lo) m) [])
     | false=>none
   | none=>none
 | _=>none
def copyTo (c:Cx) (t:TypeId) (q i n:Nat) (e:TypeId) (τ:Ty) (l src:List τ.V) (k:X->Wx->O):O:=match (elemT c.P t).bind (sizeT c.P) with
 | some 1=>match Nat.beq τ.size 1 with
   | true=>ck (decide (i+n<=l.length)) (k (.e (.i .i64) ((min src.length n:Nat):Int)) [(q,some (.row e τ (l.take i++src.take n++l.drop (i+min src.length n)) false))])
   | false=>none
 | _=>none
def copySrc (σ:Vw) (τ:Ty) (w:X) (k:List τ.V->O):O:=match w with
 | .vw q i n s=>match σ.H q with
   | some (.row _ τ' l _)=>match teq τ' τ with
     | some ⟨h⟩=>match Nat.beq s τ.size with
       | true=>ck (decide (i+n<=l.length)) (k (((castV (congrArg Ty.sl h) l:List τ.V).drop i).take n))
       | false=>none
     | none=>none
   | _=>none
 | w=>ob (σ.src τ w) k
def copyX (c:Cx) (σ:Vw) (t:TypeId) (v w:X) (k:X->Wx->O):O:=match v with
 | .own q=>match σ.H q with
   | some (.row e τ l false)=>copySrc σ τ w fun src=>copyTo c t q 0 l.length e τ l src k
   | _=>none
 | .vw q i n s=>match σ.H q with
   | some (.row e τ l false)=>match Nat.beq s 1 with
     | true=>copySrc σ τ w fun src=>copyTo c t q i n e τ l src k
     | false=>none
   | _=>none
 | _=>none
def preV:X->Option (Nat×Nat×Nat)
 | .vw q i n s=>match Nat.beq i 0 with | true=>some (q,n,s) | false=>none
 | _=>none
def appV (σ:Vw) (e:TypeId) (τ:Ty) (bt fr:Nat) (p:Nat×Nat×Nat) (w:X) (k:X->Wx->O):O:=match σ.H p.1 with
 | some (.row e' τ' l false)=>match teq τ' τ with
   | some ⟨h⟩=>match Nat.beq e' e&&(Nat.beq p.2.2 1&&Nat.beq τ.size 1) with
     | true=>ck (decide (p.2.1<=l.length)) (copySrc σ τ w fun src=>ck (lim (p.2.1+src.length) bt) (k (.own fr) [(fr,some (.row e τ ((castV (congrArg Ty.sl h) l:List τ.V).take p.2.1++src) false)),(p.1,none)]))
     | false=>none
   | none=>none
 | _=>none
def X.val:X->Bool
 | .e τ _=>τ.one
 | .tup _=>false
 | .cnd ..=>false
 | .bit ..=>false
 | .pan _=>false
 | .ag ..=>false
 | _=>true
def listOf (τ:Ty):List X->Option (List τ.V)
 | []=>some []
 | x::r=>match one? τ x with
   | some y=>match listOf τ r with | some l=>some (y::l) | none=>none
   | none=>none
def indexAddrX (c:Cx) (σ:Vw) (t:TypeId) (a:X) (x:X) (k:X->O):O:=asInt x fun n=>match a with
 | .e (.sl τ) l=>match elemSz c.P t with
   | some s=>match Nat.beq s τ.size with
     | true=>gxg (σ.g.map (·.2)) τ l n fun y=>k (.pt τ y 0)
     | false=>none
   | none=>none
 | .own q=>match σ.H q,elemSz c.P t with
   | some (.row _ τ l st),some s=>match Nat.beq s τ.size with
     | true=>match st with
       | true=>gxg (σ.g.map (·.2)) τ l n fun y=>k (.pt τ y 0)
       | false=>ckg (σ.g.map (·.2)) (decide (0<=n/\n < l.length)) (k (.rr q n.toNat 0 s))
     | false=>none
   | some (.nest _ _ _ l),some s=>match Nat.beq s 1 with
     | true=>ck (decide (0<=n/\n < l.length)) (k (.rr q n.toNat 0 s))
     | false=>none
   | some (.nst _ _ _ ρ l _),some s=>match Nat.beq s (1+ρ.size) with
     | true=>ckg (σ.g.map (·.2)) (decide (0<=n/\n < List.length l)) (k (.rr q n.toNat 0 s))
     | false=>none
   | _,_=>none
 | .sub q i=>match σ.H q,elemSz c.P t with
   | some (.nest _ _ _ l),some s=>match Nat.beq s 1 with
     | true=>gn l i fun r=>ck (decide (0<=n/\n < r.length)) (k (.sref q i n.toNat))
     | false=>none
   | _,_=>none
 | .ref q off=>match arrSz c.P t with
   | some (m,s)=>match decide (0<=n/\n < m) with
     | true=>k (.ref q (off+n.toNat * s))
     | false=>none
   | none=>none
 | .pt ρ y 0=>match c.P.underlying t,arrSz c.P t with
   | some (.array _ e),some (m,s)=>match c.ty e with
     | some τ=>match splitP τ m ρ y with
       | some l=>match Nat.beq s τ.size&&Nat.beq l.length m with
         | true=>gxg (σ.g.map (·.2)) τ l n fun y=>k (.pt τ y 0)
         | false=>none
       | none=>none
     | none=>none
   | _,_=>none
 | _=>none
def indexX (c:Cx) (t:TypeId) (g:Option Bool) (a:X) (x:X) (k:X->O):O:=asInt x fun n=>match c.P.underlying t,a with
 | some .string,.e .tx l=>gxg g .u8 l n fun c=>k (.e .u8 c)
 | some (.array m e),.agg (.e τ y::r)=>match τ.one&&Nat.beq m (r.length+1),rowT c.P e,sizeT c.P e with
   | true,some false,some 1=>ob (listOf τ (.e τ y::r)) fun l=>gxg g τ l n fun y=>k (.e τ y)
   | _,_,_=>none
 | _,_=>none
def indexSym (c:Cx) (σ:Vw) (t:TypeId) (a:X) (x:X) (k:X->O):O:=asInt x fun n=>match a with
 | .ref q off=>match arrSz c.P t with
   | some (m,s)=>ckg (σ.g.map (·.2)) (decide (0<=n/\n < m)) (k (.ref q (off+n.toNat * s)))
   | none=>none
 | _=>none
def listE (τ:Ty):List X->Option (List τ.V)
 | []=>some []
 | .e τ' x::r=>match teq τ' τ with
   | some ⟨h⟩=>match listE τ r with | some l=>some (castV h x::l) | none=>none
   | none=>none
 | _::_=>none
def loadSym (c:Cx) (σ:Vw) (t:TypeId) (a:X) (k:X->O):O:=match rowT c.P t,a with
 | some false,.ref q off=>match σ.H q with
   | some (.box _ (.e τ y::xs))=>match τ.one with
     | true=>ob (listE τ (.e τ y::xs)) fun l=>gxg (σ.g.map (·.2)) τ l (off:Int) fun y=>k (.e τ y)
     | false=>none
   | _=>none
 | _,_=>none
def sel {α:Type} (b:Bool) (x y:α):α:=match b with | true=>x | false=>y
def selL (τ:Ty) (off:Nat) (z:τ.V):Nat->List τ.V->List X
 | _,[]=>[]
 | i,y::l=>.e τ (sel (Nat.beq off i) z y)::selL τ off z (i+1) l
def storeSym (c:Cx) (σ:Vw) (t:TypeId) (a y:X) (k:X->Wx->O):O:=match sizeT c.P t,a,y with
 | some 1,.ref q off,.e τ z=>match τ.one with
   | true=>match σ.H q with
     | some (.box e xs)=>ob (listE τ xs) fun l=>ck (decide (off < l.length)) (k (.tup []) [(q,some (.box e (selL τ off z 0 l)))])
     | _=>none
   | false=>none
 | _,_,_=>none
def cutX (c:Cx) (σ:Vw) (fr:Nat) (t:TypeId) (q:Nat) (hi:Option Int) (k:X->Wx->O):O:=match c.P.underlying t,σ.H q,hi with
 | some (.slice e),some (.row e' τ l false),some n=>match sizeT c.P e with
   | some m=>match Nat.beq m τ.size with
     | true=>ck (decide (0<=n/\n<=l.length)) (k (.own fr) [(fr,some (.row e' τ (l.take n.toNat) false)),(q,none)])
     | false=>none
   | none=>none
 | _,_,_=>none
def zeroI:Option Int->Bool
 | none=>true
 | some n=>decide (n=0)
def fieldAddrX (c:Cx) (s:TypeId) (f:Nat) (a:X) (k:X->O):O:=ob (fieldOff c.P s f) fun q=>match a with
 | .ref p off=>k (.ref p (off+q))
 | .rr p i j z=>k (.rr p i (j+q) z)
 | .pt τ y j=>k (.pt τ y (j+q))
 | _=>none
def fieldX (c:Cx) (s:TypeId) (f:Nat) (a:X) (k:X->O):O:=match c.P.underlying s,a with
 | some (.struct fs),.agg xs=>match fs[f]? with
   | some fl=>match rowT c.P fl.type,sizeT c.P fl.type with
     | some rw,some m=>match rw with
       | true=>match Nat.beq (takes m (drops fl.offset xs)).length m with | true=>k (.agg (takes m (drops fl.offset xs))) | false=>none
       | false=>ob xs[fl.offset]? k
     | _,_=>none
   | none=>none
 | _,_=>none
def zeroX (P:Program) (t:TypeId):Option X:=match (P.info? t).bind (·.zero) with | some z=>ofVX z | none=>none
def places (P:Program) (t:TypeId):Option (List (Nat×Nat)):=match P.underlying t with
 | some (.struct fs)=>mapO (fun f=>match sizeT P f.type with | some m=>some (f.offset,m) | none=>none) fs.toList
 | some (.array n e)=>match sizeT P e with | some m=>some ((List.range n).map fun i=>(i * m,m)) | none=>none
 | _=>none
def fillX (pl:List (Nat×Nat)):List X->List (Nat×X)->(List X->O)->O
 | cells,[],k=>k cells
 | cells,(i,x)::rest,k=>match pl[i]? with
   | some (off,m)=>match x.val&&Nat.beq x.cells.length m&&Nat.ble (off+m) cells.length with
     | true=>fillX pl (puts cells off x.cells) rest k
     | false=>none
   | none=>none
def Vw.evp (σ:Vw):List (Nat×Operand)->(List (Nat×X)->O)->O
 | [],k=>k []
 | (i,x)::l,k=>ob (σ.ev x) fun y=>σ.evp l fun ys=>k ((i,y)::ys)
def putL {α:Type} (x:α):Nat->List α->List α
 | _,[]=>[]
 | 0,_::l=>x::l
 | n+1,y::l=>y::putL x n l
def zchk1 (τ:Ty) (v:Value):Bool:=match τ with
 | .i k=>match v with | .int k' n=>decide (k=k')&&decide (n=0) | _=>false
 | .u8=>match v with | .int .u8 n=>decide (n=0) | _=>false
 | .bo=>match v with | .bool false=>true | _=>false
 | .tx=>match v with | .string s=>(match s.data.toList with | []=>true | _=>false) | _=>false
 | .sl _=>match v with | .slice none 0 0=>true | _=>false
 | _=>false
def zone (τ:Ty):List Value->Option (List Value)
 | x::r=>match zchk1 τ x with | true=>some r | false=>none
 | []=>none
def zchk:Ty->List Value->Option (List Value)
 | .pr a b,l=>match zchk a l with | some l'=>zchk b l' | none=>none
 | .ex,l=>match zone (.i .i64) l with
   | some l=>match zone (.i .i64) l with
     | some l=>zone (.sl .ex) l
     | none=>none
   | none=>none
 | .un,l=>some l
 | .i k,l=>zone (.i k) l
 | .u8,l=>zone .u8 l
 | .bo,l=>zone .bo l
 | .tx,l=>zone .tx l
 | .sl e,l=>zone (.sl e) l
def appE (c:Cx) (t:TypeId):Option (TypeId×Ty×Nat):=match elemT c.P t with
 | some e=>match c.ty e,c.P.info? e with
   | some τ,some i=>match i.zero with
     | some z=>match zchk τ z.cells.toList with
       | some []=>match Nat.beq i.size τ.size&&(Nat.beq z.cells.size τ.size&&Nat.blt 0 τ.size) with | true=>some (e,τ,i.bytes) | false=>none
       | _=>none
     | none=>none
   | _,_=>none
 | none=>none
def growZ (τ:Ty) (e:TypeId) (fr bt q:Nat) (st:Bool) (l:List τ.V) (z:Int) (k:X->Wx->O):O:=ck (decide (0<=z)) (ck (lim (l.length+z.toNat) bt) (k (.own fr) [(fr,some (.row e τ (l++List.replicate z.toNat τ.zero) st)),(q,none)]))
def byteT (P:Program) (e:TypeId):Bool:=match P.info? e with
 | some i=>match i.zero with
   | some (.int .u8 (.ofNat 0))=>Nat.beq i.size 1&&Nat.beq i.bytes 1
   | _=>false
 | none=>false
def growS (e:TypeId) (fr q:Nat) (st:Bool) (l s:List UInt8) (k:X->Wx->O):O:=ck (lim (l.length+s.length) 1) (k (.own fr) [(fr,some (.row e .u8 (l++s) st)),(q,none)])
def appZ (c:Cx) (σ:Vw) (fr:Nat) (st:Bool) (t t':TypeId) (x y:Operand) (k:X->Wx->O):O:=ob (appE c t) fun p=>match p with
 | (e,τ,bt)=>ob (σ.ev x) fun v=>ob (σ.ev y) fun w=>match v,w,c.P.underlying t' with
   | .nilS,.e (.i .i64) n,some (.int .i64)=>makeX τ e fr bt st n k
   | .own q,.e (.i .i64) n,some (.int .i64)=>match σ.H q with
     | some (.row e' τ' l st')=>match teq τ' τ with
       | some ⟨h⟩=>match Nat.beq e' e with
         | true=>growZ τ e fr bt q st' (castV (congrArg Ty.sl h) l) n k
         | false=>none
       | none=>none
     | _=>none
   | .own q,.e .tx s,some .string=>match σ.H q with
     | some (.row e' .u8 l st')=>match Nat.beq e' e&&byteT c.P e with
       | true=>growS e fr q st' l s k
       | false=>none
     | _=>none
   | _,_,_=>none
def litX (τ:Ty) (σ:Vw):List τ.V->List (Nat×X)->(List τ.V->O)->O
 | l,[],k=>k l
 | l,(i,x)::rest,k=>match Nat.blt i l.length with
   | true=>ob (tyX τ (σ.giveC x)) fun y=>litX τ σ (putL y i l) rest k
   | false=>none
def ins (k:Nat):List Nat->List Nat
 | []=>[k]
 | x::l=>match Nat.beq x k with | true=>x::l | false=>x::ins k l
mutual
def namesX:X->List Nat->List Nat
 | .own q,acc=>ins q acc
 | .ref q _,acc=>ins q acc
 | .rr q _ _ _,acc=>ins q acc
 | .sub q _,acc=>ins q acc
 | .sref q _ _,acc=>ins q acc
 | .vw q _ _ _,acc=>ins q acc
 | .via q _,acc=>ins q acc
 | .ifc q _,acc=>ins q acc
 | .agg xs,acc=>namesL xs acc
 | .tup xs,acc=>namesL xs acc
 | .fn _ xs,acc=>namesL xs acc
 | _,acc=>acc
def namesL:List X->List Nat->List Nat
 | [],acc=>acc
 | x::l,acc=>namesL l (namesX x acc)
end
def namesM {α:Type}:List (α×X)->List Nat->List Nat
 | [],acc=>acc
 | (_,x)::l,acc=>namesM l (namesX x acc)
def namesO:XO->List Nat->List Nat
 | .box _ xs,acc=>namesL xs acc
 | .row ..,acc=>acc
 | .nest ..,acc=>acc
 | .mp _ l,acc=>namesM l acc
 | .it ..,acc=>acc
 | .arr ..,acc=>acc
 | .nst _ _ _ _ _ ln,acc=>match ln with | some (_,q)=>ins q acc | none=>acc
def reach (H:Nat->Option XO):Nat->List Nat->List Nat->List Nat
 | 0,_,acc=>acc
 | _+1,[],acc=>acc
 | n+1,q::todo,acc=>match H q with
   | some o=>reach H n (todo++(namesO o []).filter fun x=>!(acc.contains x)&&!(todo.contains x)&&!(Nat.beq x q)) (acc++[q])
   | none=>reach H n todo (acc++[q])
def old (rn:List (Nat×Nat)) (k:Nat):Option Nat:=match rn with
 | []=>none
 | (new,o)::l=>match Nat.beq o k with | true=>some new | false=>old l k
mutual
def renX (f:Nat->Option Nat):X->Option X
 | .own q=>match f q with | some q'=>some (.own q') | none=>none
 | .ref q off=>match f q with | some q'=>some (.ref q' off) | none=>none
 | .rr q i j s=>match f q with | some q'=>some (.rr q' i j s) | none=>none
 | .agg xs=>match renL f xs with | some ys=>some (.agg ys) | none=>none
 | .tup xs=>match renL f xs with | some ys=>some (.tup ys) | none=>none
 | .fn g xs=>match renL f xs with | some ys=>some (.fn g ys) | none=>none
 | .e τ x=>some (.e τ x)
 | .nilS=>some .nilS
 | .pt τ y j=>some (.pt τ y j)
 | .v w=>some (.v w)
 | .bit ..=>none
 | .cnd ..=>none
 | .sub ..=>none
 | .sref ..=>none
 | .vw ..=>none
 | .via q j=>match f q with | some q'=>some (.via q' j) | none=>none
 | .ifc q j=>match f q with | some q'=>some (.ifc q' j) | none=>none
 | .ag τ l=>some (.ag τ l)
 | .pan ..=>none
def renL (f:Nat->Option Nat):List X->Option (List X)
 | []=>some []
 | x::l=>match renX f x with
   | some y=>match renL f l with | some r=>some (y::r) | none=>none
   | none=>none
end
def renM {α:Type} (f:Nat->Option Nat):List (α×X)->Option (List (α×X))
 | []=>some []
 | (a,x)::l=>match renX f x with
   | some y=>match renM f l with | some r=>some ((a,y)::r) | none=>none
   | none=>none
def renO (f:Nat->Option Nat):XO->Option XO
 | .nest e e' τ l=>some (.nest e e' τ l)
 | .mp τ l=>match renM f l with | some r=>some (.mp τ r) | none=>none
 | .it s pos=>some (.it s pos)
 | .arr e τ l=>some (.arr e τ l)
 | .box e xs=>match renL f xs with | some ys=>some (.box e ys) | none=>none
 | .row e τ l st=>some (.row e τ l st)
 | .nst e e' κ ρ l ln=>match ln with
   | none=>some (.nst e e' κ ρ l none)
   | some (i,q)=>match f q with | some q'=>some (.nst e e' κ ρ l (some (i,q'))) | none=>none
def renH (f:Nat->Option Nat) (H:Nat->Option XO):List (Nat×Nat)->Option XH
 | []=>some []
 | (new,q)::l=>match H q with
   | some o=>match renO f o with
     | some o'=>match renH f H l with | some r=>some ((new,o')::r) | none=>none
     | none=>none
   | none=>none
def numb:Nat->List Nat->List (Nat×Nat)
 | _,[]=>[]
 | n,k::l=>(n,k)::numb (n+1) l
def canon (c:Cx) (σ:Vw) (t:TypeId) (x:X):X:=match c.ty t with
 | some τ=>match tyX τ (σ.giveC x) with
   | some y=>toX τ y
   | none=>x
 | none=>x
def canons (c:Cx) (σ:Vw):List TypeId->List X->List X
 | t::ts,x::xs=>canon c σ t x::canons c σ ts xs
 | _,xs=>xs
def backN (fr:Nat) (rb:List (Nat×Nat)) (k:Nat):Option Nat:=match Nat.ble 100 k with
 | true=>match Nat.blt k 108 with | true=>some (fr+(k - 100)) | false=>none
 | false=>lk k rb
def backW (f:Nat->Option Nat):XH->Option Wx
 | []=>some []
 | (k,o)::l=>match f k with
   | some k'=>match renO f o with
     | some o'=>match backW f l with | some r=>some ((k',some o')::r) | none=>none
     | none=>none
   | none=>none
def gone (H':XH):List (Nat×Nat)->Wx
 | []=>[]
 | (new,q)::l=>match lk new H' with | some _=>gone H' l | none=>(q,none)::gone H' l
def nodupB:List Nat->Bool
 | []=>true
 | k::l=>match l.contains k with | true=>false | false=>nodupB l
def rbOk (fr:Nat) (rn:List (Nat×Nat)):Bool:=rn.all (fun p=>Nat.ble 50 p.1&&Nat.blt p.1 100&&(Nat.blt p.2 fr||Nat.ble (fr+8) p.2)&&(match lk p.1 rn with | some q=>Nat.beq q p.2 | none=>false))&&nodupB (rn.map (·.2))
def callY (σ:Vw) (fr:Nat) (g:Ent') (ys:List X) (els:O) (k:X->Wx->O):O:=match numb 50 (reach σ.H 40 (namesL ys []) []) with
 | rn=>match rbOk fr rn with
   | false=>els
   | true=>match renL (old rn) ys with
     | none=>els
     | some zs=>match renH (old rn) σ.H rn with
       | none=>els
       | some H=>match g zs H with
         | some (pre,r)=>match nodupB (r.2.map (·.1)) with
           | true=>ob (renX (backN fr rn) r.1) fun x=>ob (backW (backN fr rn) r.2) fun W=>ckg (σ.g.map (·.2)) pre (k x (W++gone r.2 rn))
           | false=>none
         | none=>els
def callX (c:Cx) (σ:Vw) (fr:Nat) (f:FuncId) (xs:List X) (k:X->Wx->O):O:=
 ob (lk f c.G) fun g=>ob c.P.funcs[f]? fun fn=>match fn.body with
  | none=>none
  | some _=>callY σ fr g (canons c σ fn.params.toList xs) (callY σ fr g xs none k) k
def methX (P:Program) (te:TypeId) (name:String):Option (FuncId×Nat):=match P.info? te with
 | none=>none
 | some ti=>match ti.methods.toList.find? (fun m=>m.name == name) with
   | none=>none
   | some m=>match m.func with
     | some (f,true)=>match m.path.toList with
       | []=>match P.underlying te with
         | some (.pointer _)=>some (f,0)
         | _=>none
       | [s]=>match s.deref,P.underlying s.struct with
         | true,some (.struct fs)=>match fs[s.index]? with
           | some fl=>match P.underlying fl.type,P.info? fl.type with
             | some (.struct _),some ti'=>match ti'.size with
               | 0=>none
               | _=>some (f,fl.offset)
             | _,_=>none
           | none=>none
         | _,_=>none
       | _=>none
     | _=>none
def nestP (σ:Vw) (n:Nat):List (Nat×Operand)->Option (Nat×TypeId×(τ:Ty)×List τ.V)
 | [(0,x)]=>match Nat.beq n 1 with
   | true=>match σ.ev x with
     | some (.own q)=>match σ.H q with
       | some (.row e τ l false)=>some (q,e,⟨τ,l⟩)
       | _=>none
     | _=>none
   | false=>none
 | _=>none
def nestW (σ:Vw):X->Option (Nat×TypeId×TypeId×(τ:Ty)×List (List τ.V))
 | .own q=>match σ.H q with
   | some (.nest e e' τ l)=>some (q,e,e',⟨τ,l⟩)
   | _=>none
 | _=>none
def castLL {a b:Ty} (h:a=b) (l:List (List a.V)):List (List b.V):=h ▸ l
def appN (σ:Vw) (e:TypeId) (fr bt:Nat) (v:X) (q:Nat) (e1 e1':TypeId) (τ:Ty) (l':List (List τ.V)) (k:X->Wx->O):O:=match Nat.beq e1 e with
 | true=>match v with
   | .nilS=>ck (lim l'.length bt) (k (.own fr) [(fr,some (.nest e e1' τ l')),(q,none)])
   | v=>match nestW σ v with
     | some (q0,e0,e0',⟨τ0,l⟩)=>match teq τ0 τ with
       | some ⟨h⟩=>match Nat.beq e0 e&&Nat.beq e0' e1'&&!(Nat.beq q0 q) with
         | true=>ck (lim (l.length+l'.length) bt) (k (.own fr) [(fr,some (.nest e e1' τ (castLL h l++l'))),(q0,none),(q,none)])
         | false=>none
       | none=>none
     | none=>none
 | false=>none
def nstP (σ:Vw) (n:Nat):List (Nat×Operand)->Option (Nat×TypeId×((κ:Ty)×List κ.V)×List X)
 | [(0,x)]=>match Nat.beq n 1 with
   | true=>match σ.ev x with
     | some (.agg (.own q::ys))=>match σ.H q with
       | some (.row e κ l false)=>some (q,e,⟨κ,l⟩,ys)
       | _=>none
     | _=>none
   | false=>none
 | _=>none
def litNst (σ:Vw) (fr:Nat) (e e':TypeId) (q:Nat) (κ:Ty) (l:List κ.V) (ys:List X) (k:X->Wx->O):Ty->O
 | .pr (.sl κ') ρ=>match teq κ κ' with
   | some _=>match Nat.ble (1+ρ.size) 16777216 with
     | true=>match joinAll ρ (ys.map σ.give) with
       | some r=>k (.own fr) [(fr,some (.nst e e' κ ρ [(l,r)] none)),(q,none)]
       | none=>none
     | false=>none
   | none=>none
 | _=>none
def nstW (σ:Vw):X->Option (Nat×TypeId×TypeId×(κ:Ty)×(ρ:Ty)×List (List κ.V×ρ.V))
 | .own q=>match σ.H q with
   | some (.nst e e' κ ρ l none)=>some (q,e,e',⟨κ,ρ,l⟩)
   | _=>none
 | _=>none
def castN {κ κ' ρ ρ':Ty} (h:κ=κ') (g:ρ=ρ') (l:List (List κ.V×ρ.V)):List (List κ'.V×ρ'.V):=h ▸ g ▸ l
def nsTy:Ty->Option (Ty×Ty)
 | .pr (.sl κ) ρ=>some (κ,ρ)
 | .sl κ=>some (κ,.un)
 | _=>none
def appNst (σ:Vw) (e:TypeId) (fr bt:Nat) (v:X) (q:Nat) (e1 e1':TypeId) (κ ρ:Ty) (l':List (List κ.V×ρ.V)) (k:X->Wx->O) (τ0:Ty):O:=match nsTy τ0 with
 | some (κ1,ρ1)=>match teq κ1 κ with
   | some _=>match teq ρ1 ρ with
     | some _=>match Nat.beq e1 e with
       | true=>match v with
         | .nilS=>ck (lim (List.length l') bt) (k (.own fr) [(fr,some (.nst e e1' κ ρ l' none)),(q,none)])
         | v=>match nstW σ v with
           | some (q0,e0,e0',⟨κ0,ρ0,l⟩)=>match teq κ0 κ with
             | some ⟨h⟩=>match teq ρ0 ρ with
               | some ⟨g⟩=>match Nat.beq e0 e&&Nat.beq e0' e1'&&!(Nat.beq q0 q) with
                 | true=>ck (lim (List.length l+List.length l') bt) (k (.own fr) [(fr,some (.nst e e1' κ ρ (castN h g l++l') none)),(q0,none),(q,none)])
                 | false=>none
               | none=>none
             | none=>none
           | none=>none
       | false=>none
     | none=>none
   | none=>none
 | _=>none
def decI (a b:Int):Bool:=decide (a=b)
def decU (a b:UInt8):Bool:=decide (a=b)
def decT (a b:List UInt8):Bool:=decide (a=b)
def decB (a b:Bool):Bool:=decide (a=b)
def keq:(τ:Ty)->τ.V->τ.V->Bool
 | .i _,a,b=>decI a b
 | .u8,a,b=>decU a b
 | .tx,a,b=>decT a b
 | .bo,a,b=>decB a b
 | _,_,_=>false
def keyT:TypeDesc->Ty->Bool
 | .int k,.i k'=>decide (k=k')
 | .int .u8,.u8=>true
 | .string,.tx=>true
 | .bool,.bo=>true
 | _,_=>false
def kval (τ:Ty) (x:X) (k:τ.V->O):O:=match x with
 | .e τ' y=>match teq τ' τ with | some ⟨h⟩=>k (castV h y) | none=>none
 | _=>none
def mputX (c:Cx) (σ:Vw) (kt:TypeId) (a b v:X) (k:X->Wx->O):O:=match c.P.underlying kt,a with
 | some d,.own q=>match σ.H q with
   | some (.mp τ l)=>match keyT d τ&&v.val with
     | true=>kval τ b fun x=>ck (l.all fun p=>!(keq τ p.1 x)) (k (.tup []) [(q,some (.mp τ (l++[(x,v)])))])
     | false=>none
   | _=>none
 | _,_=>none
def okX (cm:Bool) (x:X) (b:Bool):X:=match cm with | true=>.tup [x,.e .bo b] | false=>x
def lookX (τ:Ty) (x:τ.V) (kf:X->O) (k0:O):List (τ.V×X)->O
 | []=>k0
 | (y,v)::r=>br (keq τ y x) (kf v) (lookX τ x kf k0 r)
def mgetX (c:Cx) (σ:Vw) (kt:TypeId) (a b z:X) (cm:Bool) (k:X->O):O:=match c.P.underlying kt,a with
 | some d,.own q=>match σ.H q with
   | some (.mp τ l)=>match keyT d τ with
     | true=>kval τ b fun x=>lookX τ x (fun v=>k (okX cm v true)) (k (okX cm z false)) l
     | false=>none
   | _=>none
 | _,_=>none
def nextX (s:List UInt8) (pos:Int) (q:Nat) (k:X->Wx->O):O:=br (decide (pos < s.length))
 (gx s pos fun b=>ck (decide (b.toNat < 128)) (k (.tup [.e .bo true,.e (.i .i64) pos,.e (.i .i32) (b.toNat:Int)]) [(q,some (.it s (pos+1)))]))
 (k (.tup [.e .bo false]) [])
def allE {α:Type} (f:α->Option Bool):List α->Option Bool
 | []=>some true
 | [x]=>f x
 | x::l=>match f x with
   | some a=>match allE f l with | some b=>some (a&&b) | none=>none
   | none=>none
def chunkE (s off:Nat) (xs ys:List X) (k:List X->List X->Option Bool):Option Bool:=
 match Nat.beq (takes s (drops off xs)).length s&&Nat.beq (takes s (drops off ys)).length s with
 | true=>k (takes s (drops off xs)) (takes s (drops off ys))
 | false=>none
def eqG (P:Program):Nat->TypeId->List X->List X->Option Bool
 | 0,_,_,_=>none
 | n+1,t,xs,ys=>match P.underlying t with
   | some (.int _)=>match xs,ys with
     | [.e (.i k) a],[.e (.i k') b]=>match decide (k=k') with | true=>some (decI a b) | false=>none
     | [.e .u8 a],[.e .u8 b]=>some (decU a b)
     | _,_=>none
   | some .bool=>match xs,ys with
     | [.e .bo a],[.e .bo b]=>some (decB a b)
     | _,_=>none
   | some .string=>match xs,ys with
     | [.e .tx a],[.e .tx b]=>some (decT a b)
     | _,_=>none
   | some (.array m e)=>match sizeT P e with
     | some s=>allE (fun i=>chunkE s (i * s) xs ys (eqG P n e)) (List.range m)
     | none=>none
   | some (.struct fs)=>match P.stoodInHeld t with
     | true=>none
     | false => allE (fun f => match sizeT P f.type with | some s => (match f.name == "_" with | true => none | false => chunkE s f.offset xs ys (eqG P n f.type)) | none => none) fs.toList
   | _=>none
def eqAgg (P:Program) (op:BinOp) (t:TypeId) (v w:X):Option Bool:=match v with
 | .agg xs=>match w with
   | .agg ys=>match rowT P t,P.eqGuardType P.depth t with
     | some true,false=>(match op with
       | .eql=>eqG P 12 t xs ys
       | .neq=>(match eqG P 12 t xs ys with | some b=>some (!b) | none=>none)
       | _=>none)
     | _,_=>none
   | _=>none
 | _=>none
def X.pl:X->Bool
 | .bit ..=>false
 | .cnd ..=>false
 | _=>true
def sdataX (c:Cx) (σ:Vw) (t:TypeId) (v:X) (k:X->Wx->O):O:=match c.P.underlying t with
 | some (.pointer _)=>match v with
   | .own q=>match σ.H q with
     | some (.row ..)=>k (.via q 1) []
     | _=>none
   | .nilS=>k (.v (.pointer none)) []
   | _=>none
 | _=>none
def ustrX (c:Cx) (σ:Vw) (pt:TypeId) (v w:X) (k:X->Wx->O):O:=match c.P.underlying pt with
 | some (.pointer e)=>match v,w with
   | .via q 1,.e (.i .i64) n=>match σ.H q with
     | some (.row e0 .u8 l _)=>match Nat.beq e0 e&&Nat.beq (c.P.cellsOf e) 1 with
       | true=>ck (decI n (List.length (α:=UInt8) l:Int)) (k (.e .tx l) [(q,none)])
       | false=>none
     | _=>none
   | .v (.pointer none),.e (.i .i64) n=>ck (decI n 0) (k (.e .tx []) [])
   | _,_=>none
 | _=>none
def bdc (fr:Nat):List X->List X
 | [.v (.pointer none),.nilS]=>[.via fr 0,.nilS]
 | l=>l
def plK (x:X) (k:X->Wx->O):O:=match x.pl with | true=>k x [] | false=>none
def appS (c:Cx) (σ:Vw) (fr:Nat) (st:Bool) (t:TypeId) (x y:Operand) (k:X->Wx->O):O:=ob (appE c t) fun p=>match p with
    | (e,τ,bt)=>ob (σ.ev x) fun v=>ob (σ.ev y) fun w=>match preV v with
    | some p=>appV σ e τ bt fr p w k
    | none=>match nestW σ w with
     | some (q,e1,e1',⟨τ1,l'⟩)=>match teq τ (.sl τ1) with
      | some _=>match τ1.one with
        | true=>appN σ e fr bt v q e1 e1' τ1 l' k
        | false=>none
      | none=>none
     | none=>match nstW σ w with
     | some (q,e1,e1',⟨κ,ρ,l'⟩)=>appNst σ e fr bt v q e1 e1' κ ρ l' k τ
     | none=>ob (σ.src τ w) fun l'=>match v with
      | .own q=>match σ.H q with
        | some (.row e' τ' l st')=>match teq τ' τ with
          | some ⟨h⟩=>match Nat.beq e' e with
            | true=>appX τ e fr bt [(q,none)] st' (castV (congrArg Ty.sl h) l) l' k
            | false=>none
          | none=>none
        | _=>none
      | .nilS=>ck (lim (List.length l') bt) (k (.own fr) [(fr,some (.row e τ l' st))])
      | _=>none
def bothSl (P:Program) (t t':TypeId):Bool:=match P.underlying t,P.underlying t' with
 | some (.slice _),some (.slice _)=>true
 | _,_=>false
def baseTy:Value->Option Ty
 | .bool false=>some .bo
 | .int .u8 0=>some .u8
 | .int k 0=>some (.i k)
 | _=>none
def sameV:Value->Value->Bool
 | .bool a,.bool b=>a == b
 | .int k a,.int k' b=>decide (k=k')&&decide (a=b)
 | _,_=>false
def flatA (P:Program) (e:TypeId):Option (Ty×Nat):=match (P.info? e).bind (·.zero) with
 | some (.agg cs)=>match Nat.ble 64 cs.size with
   | true=>match cs.toList with
     | z::r=>match baseTy z,r.all (sameV z) with
       | some τ,true=>some (τ,cs.size)
       | _,_=>none
     | []=>none
   | false=>none
 | _=>none
def arrR (σ:Vw) (v:X):Option (Nat×Nat×TypeId×(τ:Ty)×List τ.V):=match v with
 | .ref q off=>match σ.H q with
   | some (.arr e τ l)=>some (q,off,e,⟨τ,l⟩)
   | _=>none
 | _=>none
def loadA (c:Cx) (t:TypeId) (off:Nat) (τ:Ty) (l:List τ.V) (k:X->Wx->O):O:=match τ.one,rowT c.P t,sizeT c.P t with
 | true,some false,some 1=>gn l off fun y=>k (.e τ y) []
 | true,some true,some m=>ck (decide (off+m<=l.length)) (k (.ag τ ((l.drop off).take m)) [])
 | _,_,_=>none
def storeA (c:Cx) (t:TypeId) (q off:Nat) (e:TypeId) (τ:Ty) (l:List τ.V) (w:X) (k:X->Wx->O):O:=match τ.one,sizeT c.P t,w with
 | true,some 1,.e τ' y=>match teq τ' τ with
   | some ⟨h⟩=>gn l off fun _=>k (.tup []) [(q,some (.arr e τ (l.set off (castV h y))))]
   | none=>none
 | true,some m,.ag τ' l'=>match teq τ' τ with
   | some ⟨h⟩=>match Nat.beq off 0,sizeT c.P e with
     | true,some m'=>match Nat.beq m' m with
       | true=>ck (decide (0 < m/\List.length l'=m/\l.length=m)) (k (.tup []) [(q,some (.arr e τ (castA h l')))])
       | false=>none
     | _,_=>ck (decide (0 < m/\List.length l'=m/\off+m<=l.length)) (k (.tup []) [(q,some (.arr e τ (l.take off++castA h l'++l.drop (off+m))))])
   | none=>none
 | _,_,_=>none
def indexA (c:Cx) (g:Option Bool) (t:TypeId) (τ:Ty) (l:List τ.V) (x:X) (k:X->Wx->O):O:=asInt x fun n=>match τ.one,c.P.underlying t,arrSz c.P t with
 | true,some (.array _ e),some (m,s)=>ck (decide (l.length=m * s)) (match rowT c.P e,s with
   | some false,1=>gxg g τ l n fun y=>k (.e τ y) []
   | some true,s=>ckg g (decide (0<=n/\n < m)) (k (.ag τ ((l.drop (n.toNat * s)).take s)) [])
   | _,_=>none)
 | _,_,_=>none
def idxA (c:Cx) (g:Option Bool) (t:TypeId) (q off:Nat) (x:X) (k:X->Wx->O):O:=asInt x fun n=>match arrSz c.P t with
 | some (m,s)=>ckg g (decide (0<=n/\n < m)) (k (.ref q (off+n.toNat * s)) [])
 | none=>none
def unm (c:Cx):Bool:=match lk 999999 c.G with | some _=>true | none=>false
def stepX (c:Cx) (σ:Vw) (fr:Nat) (st:Bool) (o:Oper) (k:X->Wx->O):O:=match o.op with
 | .move x=>ob (σ.ev x) fun v=>k v []
 | .assign x=>ob (σ.ev x) fun v=>k v []
 | .pick b x y=>pickX σ b x y fun r=>k r []
 | .alloc e=>match flatA c.P e with
   | some (τ,n)=>k (.ref fr 0) [(fr,some (.arr e τ (List.replicate n τ.zero)))]
   | none=>ob (zeroX c.P e) fun z=>k (.ref fr 0) [(fr,some (.box e (bdc fr z.cells)))]
 | .box e x=>ob (σ.ev x) fun v=>match v with
   | .ag τ l=>k (.ref fr 0) [(fr,some (.arr e τ l))]
   | v=>match v.val with | true=>k (.ref fr 0) [(fr,some (.box e v.cells))] | false=>none
 | .build t ps=>match flatA c.P t,ps.toList,places c.P t with
   | some (τ,n),[],some _=>k (.ag τ (List.replicate n τ.zero)) []
   | _,_,_=>ob (zeroX c.P t) fun z=>ob (places c.P t) fun pl=>σ.evp ps.toList fun xs=>fillX pl z.cells xs fun cs=>k (.agg cs) []
 | .buildSlice t n ps=>ob (appE c t) fun p=>match p with
   | (e,τ,_)=>match nestP σ n ps.toList with
    | some (q,e',⟨τ',l⟩)=>match teq τ (.sl τ') with
     | some _=>match τ'.one with
       | true=>match unm c with
         | true=>k (.own fr) [(fr,some (.nst e e' τ' .un [(l,())] none)),(q,none)]
         | false=>k (.own fr) [(fr,some (.nest e e' τ' [l])),(q,none)]
       | false=>none
     | none=>none
    | none=>match nstP σ n ps.toList with
     | some (q,e',⟨κ,l⟩,ys)=>litNst σ fr e e' q κ l ys k τ
     | none=>match Nat.ble (n * τ.size) 16777216 with
      | true=>σ.evp ps.toList fun xs=>litX τ σ (repl τ.zero n) xs fun l=>k (.own fr) [(fr,some (.row e τ l st))]
      | false=>none
 | .makeMap t r=>match r with
   | none=>match c.P.underlying t with
     | some (.map kt _)=>match c.ty kt with
       | some τ=>k (.own fr) [(fr,some (.mp τ []))]
       | none=>none
     | _=>none
   | some _=>none
 | .insert t m x y=>match c.P.underlying t with
   | some (.map kt _)=>ob (σ.ev m) fun a=>ob (σ.ev x) fun b=>ob (σ.ev y) fun v=>mputX c σ kt a b v k
   | _=>none
 | .range t x=>match c.P.underlying t with
   | some .string=>ob (σ.ev x) fun v=>match v with
     | .e .tx s=>k (.own fr) [(fr,some (.it s 0))]
     | _=>none
   | _=>none
 | .next i b=>match b with
   | true=>ob (σ.ev i) fun v=>match v with
     | .own q=>match σ.H q with
       | some (.it s pos)=>nextX s pos q k
       | _=>none
     | _=>none
   | false=>none
 | .lookup t m x cm=>match c.P.underlying t with
   | some (.map kt et)=>ob (σ.ev m) fun a=>ob (σ.ev x) fun b=>ob (zeroX c.P et) fun z=>mgetX c σ kt a b z cm fun r=>plK r k
   | _=>none
 | .load t a=>ob (σ.ev a) fun v=>match arrR σ v with
   | some (_,off,_,⟨τ,l⟩)=>loadA c t off τ l k
   | none=>match st with
     | true=>loadX c σ t v fun y=>plK y k
     | false=>loadSym c σ t v fun y=>k y []
 | .store t a y=>ob (σ.ev a) fun v=>ob (σ.ev y) fun w=>match arrR σ v with
   | some (q,off,e,⟨τ,l⟩)=>storeA c t q off e τ l w k
   | none=>match w.val with | true=>(match st with | true=>storeX c σ t v w k | false=>storeSym c σ t v w k) | false=>none
 | .nilCheck x=>ob (σ.ev x) fun v=>match v with
   | .ref ..=>k v []
   | .rr ..=>k v []
   | .pt ..=>k v []
   | .fn ..=>k v []
   | _=>none
 | .binOp op xt x y _=>ob (σ.ev x) fun v=>ob (σ.ev y) fun w=>match nilEq c.P xt op v w y with
   | some b=>k (.e .bo b) []
   | none=>match eqAgg c.P op xt v w with
   | some b=>k (.e .bo b) []
   | none=>binX c.P (σ.g.map (·.2)) op xt v w fun r=>k r []
 | .unOp op _ x=>ob (σ.ev x) fun v=>match op,v with
   | .not,.e .bo q=>notX q fun r=>k r []
   | .neg,.e (.i ik) n=>negX ik n fun r=>k r []
   | _,_=>none
 | .convert s d x=>ob (σ.ev x) fun v=>match c.P.underlying s,c.P.underlying d,v with
   | some (.slice e),some .string,v=>match c.P.underlying e with
     | some (.int .u8)=>ob (σ.src .u8 v) fun l=>k (.e .tx l) []
     | _=>none
   | some .string,some (.slice e),.e .tx l=>match c.P.underlying e with
     | some (.int .u8)=>k (.e (.sl .u8) l) []
     | _=>none
   | _,_,v=>convX c.P s d v fun r=>k r []
 | .makeInterface t x=>ob (σ.ev x) fun v=>match c.P.underlying t,v with
   | some (.int _),.e (.i ik) n=>k (.v (.iface t (.int ik n))) []
   | some (.pointer _),.ref q 0=>match σ.H q with
     | some (.box _ _)=>k (.ifc q t) []
     | some (.arr _ _ _)=>k (.ifc q t) []
     | _=>none
   | _,_=>none
 | .makeFunc (.func f) first caps=>match first.toList with
   | []=>σ.evs caps.toList fun xs=>k (.fn f xs) []
   | _=>none
 | .makeSlice t n m=>match opEq n m with
   | true=>ob (σ.ev n) fun v=>match v with
     | .e (.i .i64) z=>ob (appE c t) fun p=>match p with
       | (e,τ,b)=>match unm c,τ,elemT c.P e with
         | true,.sl κ,some e'=>makeN κ e e' fr b z k
         | _,τ,_=>makeX τ e fr b (!st) z k
     | _=>none
   | false=>none
 | .slice t x lo hi mx=>match mx with
   | none=>ob (σ.ev x) fun v=>match v,lo,hi with
     | .nilS,lo,hi=>σ.optI lo fun lo=>σ.optI hi fun hi=>match c.P.underlying t with
       | some (.slice e)=>match sizeT c.P e with
         | some _=>ckg (σ.g.map (·.2)) (zeroI lo&&zeroI hi) (k .nilS [])
         | none=>none
       | _=>none
     | .pt σ y j,none,none=>slcA c t (.pt σ y j) fun r=>k r []
     | .own q,lo,hi=>match σ.H q with
       | some (.row _ τ l false)=>σ.optI lo fun lo=>σ.optI hi fun hi=>match st with
         | true=>slcO c σ t q τ l lo hi k
         | false=>match lo with | none=>cutX c σ fr t q hi k | some _=>none
       | _=>σ.optI lo fun lo=>σ.optI hi fun hi=>sliceX c σ t (.own q) lo hi fun r=>k r []
     | v,lo,hi=>σ.optI lo fun lo=>σ.optI hi fun hi=>sliceX c σ t v lo hi fun r=>k r []
   | some _=>none
 | .fieldAddr s x f=>ob (σ.ev x) fun v=>fieldAddrX c s f v fun r=>k r []
 | .field s x f=>ob (σ.ev x) fun v=>fieldX c s f v fun r=>plK r k
 | .indexAddr t x n=>ob (σ.ev x) fun v=>ob (σ.ev n) fun w=>match arrR σ v with
   | some (q,off,_)=>idxA c (σ.g.map (·.2)) t q off w k
   | none=>match st with
     | true=>indexAddrX c σ t v w fun r=>k r []
     | false=>indexSym c σ t v w fun r=>k r []
 | .index t x n=>ob (σ.ev x) fun v=>ob (σ.ev n) fun w=>match v with
   | .ag τ l=>indexA c (σ.g.map (·.2)) t τ l w k
   | v=>indexX c t (σ.g.map (·.2)) v w fun r=>k r []
 | .extract x n=>ob (σ.ev x) fun v=>match v with
   | .tup xs=>ob xs[n]? fun r=>plK r k
   | _=>none
 | .call { callee:=.builtin b,args,argTypes }=>match b,args.toList,argTypes.toList with
   | .len,[x],[t]=>ob (σ.ev x) fun v=>lenX c σ t v fun r=>k r []
   | .append,[x,y],[t,t']=>match Nat.beq t t'||bothSl c.P t t' with
     | false=>appZ c σ fr st t t' x y k
     | true=>appS c σ fr st t x y k
   | .unsafeSliceData,[x],[_]=>ob (σ.ev x) fun v=>sdataX c σ o.type v k
   | .unsafeString,[x,y],[pt,_]=>ob (σ.ev x) fun v=>ob (σ.ev y) fun w=>ustrX c σ pt v w k
   | .cap,[x],[t]=>ob (σ.ev x) fun v=>match v,c.P.underlying t with
     | .nilS,some (.slice _)=>k (.e (.i .i64) (0:Int)) []
     | _,_=>none
   | .copy,[x,y],[t,_]=>ob (σ.ev x) fun v=>ob (σ.ev y) fun w=>copyX c σ t v w k
   | .max,[x,y],_=>ob (σ.ev x) fun v=>ob (σ.ev y) fun w=>match v,w with
     | .e (.i .i64) m,.e (.i .i64) n=>maxX m n fun r=>k r []
     | _,_=>none
   | .max,[x,y,z],_=>ob (σ.ev x) fun v=>ob (σ.ev y) fun w=>ob (σ.ev z) fun u=>match v,w,u with
     | .e (.i .i64) m,.e (.i .i64) n,.e (.i .i64) p=>maxX (max (m:Int) n) p fun r=>k r []
     | _,_,_=>none
   | .min,[x,y],_=>ob (σ.ev x) fun v=>ob (σ.ev y) fun w=>match v,w with
     | .e (.i .i64) m,.e (.i .i64) n=>minX m n fun r=>k r []
     | _,_=>none
   | _,_,_=>none
 | .call { callee:=.value f,args,.. }=>ob (σ.ev f) fun v=>match v with
   | .fn g caps=>σ.evs args.toList fun xs=>callX c σ fr g (xs++caps) k
   | _=>none
 | .call { callee:=.invoke rv name,args,.. }=>ob (σ.ev rv) fun v=>match v with
   | .ifc q te=>match σ.H q with
     | some (.box _ _)=>ob (methX c.P te name) fun m=>σ.evs args.toList fun xs=>callX c σ fr m.1 (.ref q m.2::xs) k
     | some (.arr _ _ _)=>ob (methX c.P te name) fun m=>σ.evs args.toList fun xs=>callX c σ fr m.1 (.ref q m.2::xs) k
     | _=>none
   | _=>none
 | _=>none
def brO (b:Option Bool) (x y:O):O:=match b with | some b=>br b x y | none=>y
def callPY (σ:Vw) (fr:Nat) (g:EntP) (ys:List X) (els:O) (k:X->Wx->O) (kp:Value->Wx->O):O:=match numb 50 (reach σ.H 40 (namesL ys []) []) with
 | rn=>match rbOk fr rn with
   | false=>els
   | true=>match renL (old rn) ys with
     | none=>els
     | some zs=>match renH (old rn) σ.H rn with
       | none=>els
       | some H=>match g zs H with
         | some (pre,b,r,(.pan v,H'))=>match nodupB (r.2.map (·.1))&&nodupB (H'.map (·.1)) with
           | true=>ck pre (brO b
             (ob (renX (backN fr rn) r.1) fun x=>ob (backW (backN fr rn) r.2) fun W=>k x (W++gone r.2 rn))
             (ob (backW (backN fr rn) H') fun W=>kp v (W++gone H' rn)))
           | false=>none
         | _=>els
def callP (c:Cx) (σ:Vw) (fr:Nat) (f:FuncId) (gp:EntP) (xs:List X) (k:X->Wx->O) (kp:Value->Wx->O):O:=ob c.P.funcs[f]? fun fn=>match fn.body with
 | none=>none
 | some _=>callPY σ fr gp (canons c σ fn.params.toList xs) (callPY σ fr gp xs none k kp) k kp
def panX (c:Cx) (σ:Vw) (fr:Nat) (o:Oper) (k:X->Wx->O) (kp:Value->Wx->O) (els:O):O:=match o.op with
 | .panic x=>ob (σ.ev x) fun v=>match v with
   | .v (.iface t w)=>kp (.iface t w) []
   | _=>none
 | .call { callee:=.value f,args,.. }=>match σ.ev f with
   | some (.fn g caps)=>match lk g c.Gp with
     | some gp=>σ.evs args.toList fun xs=>callP c σ fr g gp (xs++caps) k kp
     | none=>els
   | _=>els
 | _=>els
def Sg.vw (σ:Sg):Vw:=⟨fun t=>lk t σ.T,fun k=>lk k σ.H,none⟩
def condOp:Op->Bool
 | .move _=>true
 | .assign _=>true
 | .pick ..=>true
 | .load ..=>true
 | .binOp ..=>true
 | .unOp ..=>true
 | .convert ..=>true
 | .nilCheck _=>true
 | .fieldAddr ..=>true
 | .field ..=>true
 | .indexAddr ..=>true
 | .index ..=>true
 | .extract ..=>true
 | .slice ..=>true
 | .call { callee:=.builtin .len,.. }=>true
 | .call { callee:=.builtin .max,.. }=>true
 | .call { callee:=.builtin .min,.. }=>true
 | .call { callee:=.value _,.. }=>true
 | _=>false
def bkey (j:Nat) (w:Bool):Nat:=match w with | true=>2 * j+1 | false=>2 * j
def bval (w q:Bool):Bool:=match w with | true=>q | false=>!q
inductive Gd where
 | on | off
 | cd (key:Nat) (c:Bool) (t:Tmp) (j:Nat) (x:X) (new:Bool)
 | kn (b:Bool)
def guardX (o:Oper) (ops:List Oper) (T:Nat->Option X):Option Gd:=match o.guard with
 | none=>some .on
 | some (j,w)=>match ops[j]? with
   | some oj=>match oj.dst with
     | some t=>match T t with
       | some (.e .bo q)=>some (.cd (bkey j w) (bval w q) t j (.bit j q) true)
       | some (.bit j' q)=>match Nat.beq j' j with
         | true=>some (.cd (bkey j w) (bval w q) t j (.bit j q) false)
         | false=>none
       | some (.cnd key c (.e .bo q))=>some (.cd (bkey j w) (c&&bval w q) t j (.cnd key c (.bit j q)) true)
       | some (.cnd key c (.bit j' q))=>match Nat.beq j' j with
         | true=>some (.cd (bkey j w) (c&&bval w q) t j (.cnd key c (.bit j q)) false)
         | false=>none
       | some (.tup [])=>some .off
       | some (.v (.bool b))=>some (.kn (match b,w with | true,true=>true | false,false=>true | _,_=>false))
       | _=>none
     | none=>none
   | none=>none
def usesJ (j:Nat):X->Bool
 | .bit j' _=>Nat.beq j' j
 | .cnd key _ x=>Nat.beq key (2 * j)||Nat.beq key (2 * j+1)||(match x with | .bit j' _=>Nat.beq j' j | _=>false)
 | _=>false
def freeT (j:Nat):XT->Bool
 | []=>true
 | (_,x)::l=>match usesJ j x with | true=>false | false=>freeT j l
def plB:XT->Bool
 | []=>true
 | (_,x)::l=>match x.pl with | true=>plB l | false=>false
def plainT:XT->(XT->O)->O
 | [],f=>f []
 | (t,x)::l,f=>match x with
   | .bit _ q=>plainT l fun l'=>f ((t,.e .bo q)::l')
   | .cnd ..=>plainT l fun l'=>delK t l' f
   | .v (.bool q)=>plainT l fun l'=>f ((t,.e .bo q)::l')
   | x=>plainT l fun l'=>f ((t,x)::l')
def nilW:Wx->O->O
 | [],k=>k
 | _,_=>none
def runX (c:Cx) (σ:Sg) (T:XT) (st:Bool) (o:Oper) (m:Nat) (K:Exit->Sg->O) (next:Sg->O):O:=
 panX c ⟨fun t=>lk t T,fun k=>lk k σ.H,none⟩ σ.N o
  (fun x W=>updT o.dst x T fun T=>updH W σ.H fun H=>next ⟨T,H,σ.N+8⟩)
  (fun v W=>updH W σ.H fun H=>plainT T fun T=>K (.panic [pent v]) ⟨T,H,σ.N+8 * m⟩)
  (stepX c ⟨fun t=>lk t T,fun k=>lk k σ.H,none⟩ σ.N st o fun x W=>updT o.dst x T fun T=>updH W σ.H fun H=>next ⟨T,H,σ.N+8⟩)
def skipX (σ:Sg) (T:XT) (o:Oper) (next:Sg->O):O:=updT o.dst (.tup []) T fun T=>next ⟨T,σ.H,σ.N+8⟩
def regX (c:Cx) (stF:List Nat) (all:List Oper):List Oper->Nat->Sg->(Exit->Sg->O)->O
 | [],_,σ,k=>plainT σ.T fun T=>k .normal ⟨T,σ.H,σ.N⟩
 | o::rest,i,σ,k=>ob (guardX o all fun t=>lk t σ.T) fun g=>match g with
   | .on=>runX c σ σ.T (!(stF.contains i)) o (rest.length+1) k fun σ'=>regX c stF all rest (i+1) σ' k
   | .off=>skipX σ σ.T o fun σ'=>regX c stF all rest (i+1) σ' k
   | .kn true=>runX c σ σ.T (!(stF.contains i)) o (rest.length+1) k fun σ'=>regX c stF all rest (i+1) σ' k
   | .kn false=>skipX σ σ.T o fun σ'=>regX c stF all rest (i+1) σ' k
   | .cd key b t j y new=>match stF.contains (i+1000) with
     | true=>match y,new,o.guard with
       | .bit _ q,true,some (_,w)=>br q
         (setK t (.v (.bool true)) σ.T fun T=>match w with
          | true=>runX c σ T (!(stF.contains i)) o (rest.length+1) k fun σ'=>regX c stF all rest (i+1) σ' k
          | false=>skipX σ T o fun σ'=>regX c stF all rest (i+1) σ' k)
         (setK t (.v (.bool false)) σ.T fun T=>match w with
          | true=>skipX σ T o fun σ'=>regX c stF all rest (i+1) σ' k
          | false=>runX c σ T (!(stF.contains i)) o (rest.length+1) k fun σ'=>regX c stF all rest (i+1) σ' k)
       | _,_,_=>none
     | false=>match !new||freeT j σ.T with
       | true=>setK t y σ.T fun T=>match condOp o.op&&!(stF.contains i) with
         | true=>stepX c ⟨fun t=>lk t T,fun k=>lk k σ.H,some (key,b)⟩ σ.N (!(stF.contains i)) o fun x W=>nilW W (updT o.dst (.cnd key b x) T fun T=>regX c stF all rest (i+1) ⟨T,σ.H,σ.N+8⟩ k)
         | false=>br b
           (stepX c ⟨fun t=>lk t T,fun k=>lk k σ.H,some (key,b)⟩ σ.N (!(stF.contains i)) o fun x W=>updT o.dst x T fun T=>updH W σ.H fun H=>regX c stF all rest (i+1) ⟨T,H,σ.N+8⟩ k)
           (updT o.dst (.tup []) T fun T=>regX c stF all rest (i+1) ⟨T,σ.H,σ.N+8⟩ k)
       | false=>none
abbrev Rx:=List (X×Wx)
def updV (σ:Vw) (dst:Option Tmp) (x:X) (W:Wx):Vw:=⟨fun t=>match dst with | some t'=>(match Nat.beq t' t with | true=>some x | false=>σ.T t) | none=>σ.T t,fun k=>match lk k W with | some r=>r | none=>σ.H k,none⟩
def stX (dst:Nat->Option Tmp) (S:Nat->Bool):Nat->Rx->Vw->Vw
 | _,[],σ=>σ
 | i,(x,W)::rs,σ=>stX dst S (i+1) rs (match S i with | true=>updV σ (dst i) x W | false=>σ)
def ctxX (ops:Array Oper) (pre kl:List (List Nat)) (fr i:Nat) (rs:Rx) (σ:Vw) (g:Option (Nat×Bool)):Vw:=
 ⟨fun t=>match (List.range ops.size).any (fun p=>apart pre i p&&(Region.dstOf ops p == some t)) with | true=>none | false=>(stX (Region.dstOf ops) (fun j=>(pre.getD i []).contains j) 0 rs σ).T t,
  fun k=>match (List.range ops.size).any (fun p=>apart pre i p&&keyIn kl fr p k) with | true=>none | false=>(stX (Region.dstOf ops) (fun j=>(pre.getD i []).contains j) 0 rs σ).H k,g⟩
def setR (j:Nat) (y:X) (rs:Rx) (f:Rx->O):O:=match rs[j]? with
 | some (_,W)=>f (putL (y,W) j rs)
 | none=>none
def onlyD (t:Tmp) (j:Nat):Nat->List Oper->Bool
 | _,[]=>true
 | p,o::l=>match o.dst with
   | some t'=>match Nat.beq t' t&&!(Nat.beq p j) with | true=>false | false=>onlyD t j (p+1) l
   | none=>onlyD t j (p+1) l
def freeR (j:Nat):Rx->Bool
 | []=>true
 | (x,_)::l=>match usesJ j x with | true=>false | false=>freeR j l
def lastP (pre:List (List Nat)) (n i:Nat):Bool:=(List.range n).all fun p=>Nat.ble p i||(pre.getD p []).contains i
def nilRs:Rx->Bool
 | []=>true
 | (_,[])::l=>nilRs l
 | _::_=>false
def runD (c:Cx) (stF:List Nat) (ops:Array Oper) (pre kl:List (List Nat)) (fr:Nat) (σ:Vw) (HL:XH) (K:Exit->Sg->O) (o:Oper) (i:Nat) (rs:Rx) (next:Rx->O):O:=
 panX c (ctxX ops pre kl fr i rs σ none) (fr+8 * i) o
  (fun x W=>match W.all (fun p=>keyIn kl fr i p.1) with
  | true=>next (rs++[(x,W)])
  | false=>none)
  (fun v W=>match lastP pre ops.size i&&nilRs rs with
  | true=>updH W HL fun H=>K (.panic [pent v]) ⟨[],H,fr+8 * ops.size⟩
  | false=>none)
  (stepX c (ctxX ops pre kl fr i rs σ none) (fr+8 * i) (!(stF.contains i)) o fun x W=>match W.all (fun p=>keyIn kl fr i p.1) with
  | true=>next (rs++[(x,W)])
  | false=>none)
def drX (c:Cx) (stF:List Nat) (ops:Array Oper) (pre kl:List (List Nat)) (fr:Nat) (σ:Vw) (HL:XH) (K:Exit->Sg->O):List Oper->Nat->Rx->(Rx->O)->O
 | [],_,rs,k=>k rs
 | o::rest,i,rs,k=>ob (guardX o ops.toList (ctxX ops pre kl fr i rs σ none).T) fun g=>match g with
   | .on=>runD c stF ops pre kl fr σ HL K o i rs fun rs=>drX c stF ops pre kl fr σ HL K rest (i+1) rs k
   | .off=>drX c stF ops pre kl fr σ HL K rest (i+1) (rs++[(.tup [],[])]) k
   | .kn true=>runD c stF ops pre kl fr σ HL K o i rs fun rs=>drX c stF ops pre kl fr σ HL K rest (i+1) rs k
   | .kn false=>drX c stF ops pre kl fr σ HL K rest (i+1) (rs++[(.tup [],[])]) k
   | .cd key b t j y new=>match stF.contains (i+1000) with
     | true=>match y,new,o.guard,onlyD t j 0 ops.toList&&(pre.getD i []).contains j with
       | .bit _ q,true,some (_,w),true=>br q
         (setR j (.v (.bool true)) rs fun rs=>match w with
          | true=>runD c stF ops pre kl fr σ HL K o i rs fun rs=>drX c stF ops pre kl fr σ HL K rest (i+1) rs k
          | false=>drX c stF ops pre kl fr σ HL K rest (i+1) (rs++[(.tup [],[])]) k)
         (setR j (.v (.bool false)) rs fun rs=>match w with
          | true=>drX c stF ops pre kl fr σ HL K rest (i+1) (rs++[(.tup [],[])]) k
          | false=>runD c stF ops pre kl fr σ HL K o i rs fun rs=>drX c stF ops pre kl fr σ HL K rest (i+1) rs k)
       | _,_,_,_=>none
     | false=>match (!new||freeR j rs)&&(onlyD t j 0 ops.toList&&(pre.getD i []).contains j) with
       | true=>setR j y rs fun rs=>match condOp o.op&&!(stF.contains i) with
         | true=>stepX c (ctxX ops pre kl fr i rs σ (some (key,b))) (fr+8 * i) (!(stF.contains i)) o fun x W=>nilW W (drX c stF ops pre kl fr σ HL K rest (i+1) (rs++[(.cnd key b x,[])]) k)
         | false=>br b
           (stepX c (ctxX ops pre kl fr i rs σ (some (key,b))) (fr+8 * i) (!(stF.contains i)) o fun x W=>match W.all (fun p=>keyIn kl fr i p.1) with
            | true=>drX c stF ops pre kl fr σ HL K rest (i+1) (rs++[(x,W)]) k
            | false=>none)
           (drX c stF ops pre kl fr σ HL K rest (i+1) (rs++[(.tup [],[])]) k)
       | false=>none
def foldRx:List Oper->Rx->XT->XH->(XT->XH->O)->O
 | o::ops,(x,W)::rs,T,H,k=>updT o.dst x T fun T'=>updH W H fun H'=>foldRx ops rs T' H' k
 | _,_,T,H,k=>k T H
inductive Mv where
 | slr (t:Nat)
 | nilR (t:Nat) (o:XO)
 | nilC (t i:Nat) (o:XO)
 | fz (t:Nat) (τ:Ty)
 | cv (t i:Nat) (τ:Ty)
 | rn (t i:Nat)
 | lend (t x:Nat)
 | bk (t:Nat)
structure Nm where
 ts:List Nat
 gv:List (Nat×Ty)
 mv:List Mv
inductive Hint:Type 1 where
 | d
 | seq (a b:Hint)
 | cond (a b:Hint)
 | block (a:Hint)
 | reg (stF:List Nat) (mv:List Mv) (kl:List (List Nat))
 | sub (nm:Nm) (Y1 Y2 Y3:Type) (I1:Y1->Exit×Sg) (I2:Y2->Exit×Sg) (I3:Y3->Exit×Sg) (L:Sg->(Y1->O)->(Y2->O)->(Y3->O)->O)
def emptyO:XO->Bool
 | .row _ _ [] _=>true
 | .nest _ _ _ []=>true
 | .nst _ _ _ _ [] none=>true
 | _=>false
def sealN (e:TypeId) (κ:Ty):(ρ:Ty)->List (List κ.V×ρ.V)->XO
 | .un,l=>.row e (.sl κ) (l.map fun x=>x.1) true
 | ρ,l=>.row e (.pr (.sl κ) ρ) l true
def sealO:XO->Option XO
 | .row e τ xs false=>some (.row e τ xs true)
 | .nest e _ τ l=>match τ.one with | true=>some (.row e (.sl τ) l true) | false=>none
 | .nst e _ κ ρ l none=>some (sealN e κ ρ l)
 | _=>none
def sealAt (q:Nat) (σ:Sg) (k:Sg->O):O:=match lk q σ.H with
 | some o=>match sealO o with
   | some o'=>setK q o' σ.H fun H=>k ⟨σ.T,H,σ.N⟩
   | none=>k σ
 | none=>k σ
def nilAt (q i:Nat) (o:XO) (σ:Sg) (k:Sg->O):O:=match lk q σ.H with
 | some (.box e' xs)=>match xs[i]? with
   | some .nilS=>setK q (.box e' (putL (.own σ.N) i xs)) σ.H fun H=>setK σ.N o H fun H=>k ⟨σ.T,H,σ.N+8⟩
   | _=>k σ
 | _=>k σ
def cvAt (q i:Nat) (τ:Ty) (σ:Sg) (k:Sg->O):O:=match lk q σ.H with
 | some (.box e xs)=>match xs[i]? with
   | some x=>match τ.one with
     | true=>match tyX τ (Vw.give ⟨fun t=>lk t σ.T,fun k=>lk k σ.H,none⟩ x) with
       | some y=>setK q (.box e (putL (.e τ y) i xs)) σ.H fun H=>k ⟨σ.T,H,σ.N⟩
       | none=>k σ
     | false=>k σ
   | none=>k σ
 | _=>k σ
def rnAt (q i:Nat) (σ:Sg) (k:Sg->O):O:=match lk q σ.H with
 | some (.box e xs)=>match xs[i]? with
   | some (.own q')=>match lk q' σ.H with
     | some o=>match Nat.ble 50 q'&&Nat.blt q' 100&&!(Nat.beq q' q) with
       | true=>setK q (.box e (putL (.own σ.N) i xs)) σ.H fun H=>delK q' H fun H=>setK σ.N o H fun H=>k ⟨σ.T,H,σ.N+8⟩
       | false=>k σ
     | none=>k σ
   | _=>k σ
 | _=>k σ
def lendAt (q:Nat) (n:Int) (σ:Sg) (k:Sg->O):O:=match lk q σ.H with
 | some (.nst e e' κ ρ l none)=>gx l n fun y=>setK q (.nst e e' κ ρ l (some (n,σ.N))) σ.H fun H=>setK σ.N (.row e' κ y.1 false) H fun H=>k ⟨σ.T,H,σ.N+8⟩
 | _=>k σ
def backAt (q:Nat) (σ:Sg) (k:Sg->O):O:=match lk q σ.H with
 | some (.nst e e' κ ρ l (some (n,f)))=>match lk f σ.H with
   | some (.row e1 κ1 xs false)=>match teq κ1 κ with
     | some ⟨h⟩=>match Nat.beq e1 e'&&!(Nat.beq f q) with
       | true=>gx l n fun y=>setK q (.nst e e' κ ρ (l.set n.toNat (castV (congrArg Ty.sl h) xs,y.2)) none) σ.H fun H=>delK f H fun H=>k ⟨σ.T,H,σ.N⟩
       | false=>k σ
     | none=>k σ
   | _=>k σ
 | _=>k σ
def lendI (x:Nat) (n:Int):Int:=match Nat.ble 1000 x with | true=>n - 1 | false=>n
def mv1 (m:Mv) (σ:Sg) (k:Sg->O):O:=match m with
 | .slr t=>match lk t σ.T with
   | some (.own q)=>sealAt q σ k
   | some (.ref q 0)=>match lk q σ.H with
     | some (.box _ (.own q'::_))=>sealAt q' σ k
     | _=>k σ
   | _=>k σ
 | .nilR t o=>match lk t σ.T,emptyO o with
   | some .nilS,true=>setK t (.own σ.N) σ.T fun T=>setK σ.N o σ.H fun H=>k ⟨T,H,σ.N+8⟩
   | _,_=>k σ
 | .nilC t i o=>match lk t σ.T,emptyO o with
   | some (.ref q 0),true=>nilAt q i o σ k
   | some (.ifc q _),true=>nilAt q i o σ k
   | _,_=>k σ
 | .fz t τ=>match lk t σ.T with
   | some (.ref q 0)=>match lk q σ.H with
     | some (.box _ xs)=>match joinAll τ xs with
       | some y=>setK t (.pt τ y 0) σ.T fun T=>delK q σ.H fun H=>k ⟨T,H,σ.N⟩
       | none=>k σ
     | _=>k σ
   | _=>k σ
 | .cv t i τ=>match lk t σ.T with
   | some (.ref q 0)=>cvAt q i τ σ k
   | _=>k σ
 | .rn t i=>match lk t σ.T with
   | some (.ref q 0)=>rnAt q i σ k
   | _=>k σ
 | .lend t x=>match lk t σ.T,lk (x % 1000) σ.T with
   | some (.own q),some (.e (.i _) n)=>lendAt q (lendI x n) σ k
   | _,_=>k σ
 | .bk t=>match lk t σ.T with
   | some (.own q)=>backAt q σ k
   | _=>k σ
def mvX:List Mv->Sg->(Sg->O)->O
 | [],σ,k=>k σ
 | m::l,σ,k=>mv1 m σ fun σ=>mvX l σ k
def asTy (σ:Vw) (τ:Ty) (x:X):X:=match tyX τ (σ.giveC x) with | some y=>toX τ y | none=>x
def pickT (σ:Sg) (gv:List (Nat×Ty)):List Nat->Option XT
 | []=>some []
 | t::l=>match lk t σ.T with
   | some x=>match pickT σ gv l with
     | some r=>some ((t,match lk t gv with | some τ=>asTy σ.vw τ x | none=>x)::r)
     | none=>none
   | none=>none
def namesT:XT->List Nat->List Nat
 | [],acc=>acc
 | (_,x)::l,acc=>namesT l (namesX x acc)
def handed:XH->List Nat
 | []=>[]
 | (k,_)::l=>match Nat.ble 50 k&&Nat.blt k 100 with | true=>k::handed l | false=>handed l
def live (H:XH):List Nat:=(handed H).filter fun k=>(reach (fun j=>lk j H) 60 [k] []).all fun q=>(lk q H).isSome
def isH (k:Nat):Bool:=Nat.ble 50 k&&Nat.blt k 100
def numb':Nat->List Nat->List (Nat×Nat)
 | _,[]=>[]
 | n,k::l=>match isH k with | true=>numb' n l | false=>(n,k)::numb' (n+1) l
def same':List Nat->List (Nat×Nat)
 | []=>[]
 | k::l=>match isH k with | true=>(k,k)::same' l | false=>same' l
def oldH (rn:List (Nat×Nat)) (k:Nat):Option Nat:=match isH k with | true=>some k | false=>old rn k
def rnOk (rn al:List (Nat×Nat)) (lo hi:Nat):Bool:=rn.all (fun p=>Nat.ble lo p.1&&Nat.blt p.1 hi&&!(isH p.1)&&(match lk p.1 rn with | some q=>Nat.beq q p.2 | none=>false))&&nodupB (al.map (·.2))&&al.all (fun p=>(isH p.1&&Nat.beq p.1 p.2)||(match lk p.1 rn with | some q=>Nat.beq q p.2 | none=>false))
def renT (f:Nat->Option Nat):XT->Option XT
 | []=>some []
 | (t,x)::l=>match renX f x with
   | some y=>match renT f l with | some r=>some ((t,y)::r) | none=>none
   | none=>none
def normX (nm:Nm) (σ:Sg) (k:Sg->O):O:=mvX nm.mv σ fun σ=>ob (pickT σ nm.gv nm.ts) fun T=>
 match reach σ.vw.H 60 (namesT T (handed σ.H)) [] with
 | ns=>match numb' 0 ns with
   | rn=>match same' ns++rn with
     | al=>match rnOk rn al 0 50 with
       | true=>ob (renT (oldH rn) T) fun T'=>ob (renH (oldH rn) σ.vw.H al) fun H'=>k ⟨T',H',100⟩
       | false=>none
def preOf:List Oper->List (List Nat)->List (List Nat)
 | [],acc=>acc
 | o::l,acc=>preOf l (acc++[o.after.toList.foldl (fun s e=>match Region.binds .any e with | true=>(acc.getD e.on []).foldl (fun s q=>ins q s) (ins e.on s) | false=>s) []])
def dstB (M:Nat):List Oper->Bool
 | []=>true
 | o::l=>match o.dst with
   | some t=>match Nat.blt t M with | true=>dstB M l | false=>false
   | none=>dstB M l
def regionX (c:Cx) (M:Nat) (stF:List Nat) (mv:List Mv) (kl:List (List Nat)) (ops:Array Oper) (draw:Bool) (σ:Sg) (k:Exit->Sg->O):O:=mvX mv σ fun σ=>match plB σ.T with
 | false=>none
 | true=>match draw with
   | false=>match dstB M ops.toList with
     | true=>regX c stF ops.toList ops.toList 0 σ k
     | false=>none
   | true=>match anyOk ops (preOf ops.toList []) kl σ.N M with
     | true=>drX c stF ops (preOf ops.toList []) kl σ.N σ.vw σ.H k ops.toList 0 [] fun rs=>foldRx ops.toList rs σ.T σ.H fun T H=>plainT T fun T=>k .normal ⟨T,H,σ.N+8 * ops.size⟩
     | false=>none
def kk (k:Exit->Sg->O) (p:Exit×Sg):O:=match p.1 with | .goto _=>none | e=>k e p.2
def exec (c:Cx) (M:Nat) (h:Hint) (code:Code) (σ:Sg) (k:Exit->Sg->O):O:=match h with
 | .sub nm _ _ _ I1 I2 I3 L=>normX nm σ fun σ'=>L σ' (fun y=>kk k (I1 y)) (fun y=>kk k (I2 y)) (fun y=>kk k (I3 y))
 | h=>match code with
   | .skip=>k .normal σ
   | .label _=>k .normal σ
   | .exit id=>k (.exit id) σ
   | .ret=>k .ret σ
   | .region _ ops draw=>match h with
     | .reg stF mv kl=>regionX c M stF mv kl ops draw σ k
     | _=>regionX c M [] [] [] ops draw σ k
   | .seq a b=>exec c M (match h with | .seq x _=>x | _=>.d) a σ fun e σ'=>match e with
     | .normal=>exec c M (match h with | .seq _ y=>y | _=>.d) b σ' k
     | e=>k e σ'
   | .cond x a b=>ob (σ.vw.ev x) fun v=>match v with
     | .e .bo q=>br q (exec c M (match h with | .cond x _=>x | _=>.d) a σ k) (exec c M (match h with | .cond _ y=>y | _=>.d) b σ k)
     | _=>none
   | .block id a=>exec c M (match h with | .block x=>x | _=>.d) a σ fun e σ'=>match e with
     | .exit id'=>match Nat.beq id' id with | true=>k .normal σ' | false=>k (.exit id') σ'
     | e=>k e σ'
   | .scope a=>exec c M (match h with | .block x=>x | _=>.d) a σ fun e σ'=>match e with
     | .goto _=>none
     | e=>k e σ'
   | _=>none
termination_by structural code
def exEq:Exit->Exit->Bool
 | .normal,.normal=>true
 | .ret,.ret=>true
 | .exit a,.exit b=>Nat.beq a b
 | .panic _,.panic _=>true
 | _,_=>false
def outNm (out:List (Exit×Nm)) (e:Exit):Option Nm:=match out with
 | []=>none
 | (e',nm)::l=>match exEq e' e with | true=>some nm | false=>outNm l e
def roundX (nm:Nm) (out:List (Exit×Nm)) (self:Sg->O) (K:Exit->Sg->O) (e:Exit) (σ:Sg):O:=match e with
 | .normal=>normX nm σ self
 | e=>ob (outNm out e) fun nm'=>normX nm' σ (K e)
def loopX (c:Cx) (M:Nat) (h:Hint) (body:Code) (nm:Nm) (out:List (Exit×Nm)):Nat->Sg->(Exit->Sg->O)->O
 | 0,_,_=>none
 | n+1,σ,K=>exec c M h body σ (roundX nm out (fun σ'=>loopX c M h body nm out n σ' K) K)
def partX (out:List (Exit×Nm)) (K:Exit->Sg->O) (e:Exit) (σ:Sg):O:=ob (outNm out e) fun nm'=>normX nm' σ (K e)
def resV (P:Program) (σ:Sg):ResultVar->Option X
 | .tmp t=>lk t σ.T
 | .cell p t=>match lk p σ.T with
   | some (.ref q 0)=>match lk q σ.H with
     | some (.box _ xs)=>match rowT P t,sizeT P t,xs with
       | some true,some m,xs=>match Nat.beq xs.length m with | true=>some (.agg xs) | false=>none
       | some false,_,[x]=>some x
       | _,_,_=>none
     | _=>none
   | _=>none
def sealAll:XH->XH
 | []=>[]
 | (k,.row e τ l _)::H=>(k,.row e τ l true)::sealAll H
 | (k,.nest e e' τ l)::H=>(k,match τ.one with | true=>.row e (.sl τ) l true | false=>.nest e e' τ l)::sealAll H
 | (k,.nst e _ κ ρ l none)::H=>(k,sealN e κ ρ l)::sealAll H
 | p::H=>p::sealAll H
def argT:Nat->List X->XT
 | _,[]=>[]
 | t,x::l=>(t,x)::argT (t+1) l
def sealIf (ow:Bool) (σ:Sg):Sg:=match ow with | true=>σ | false=>⟨σ.T,sealAll σ.H,σ.N⟩
def canIf (c:Cx) (fn:Func) (ow:Bool) (σ:Sg) (xs:List X):List X:=match ow with | true=>xs | false=>canons c σ.vw fn.resultTypes.toList xs
def finP (ch:List PanicEntry) (σ:Sg):O:=match ch with
 | [p]=>match p.recovered||p.goexit with
   | true=>none
   | false=>match reach σ.vw.H 60 (handed σ.H) [] with
     | ns=>match numb' 100 ns with
       | rn=>match same' ns++rn with
         | al=>match rnOk rn al 100 108 with
           | true=>ob (renH (oldH rn) σ.vw.H al) fun H'=>some (.pan p.v,H')
           | false=>none
 | _=>none
def finR (c:Cx) (fn:Func) (ow:Bool) (e:Exit) (σ:Sg):O:=match (match e with | .normal=>true | .ret=>true | _=>false) with
 | true=>match sealIf ow σ with
   | σ=>ob (mapO (resV c.P σ) fn.results.toList) fun xs=>
   match canIf c fn ow σ xs with
   | ys=>match reach σ.vw.H 60 (namesL ys (live σ.H)) [] with
       | ns=>match numb' 100 ns with
         | rn=>match same' ns++rn with
           | al=>match rnOk rn al 100 108 with
             | true=>ob (renL (oldH rn) ys) fun zs=>ob (renH (oldH rn) σ.vw.H al) fun H'=>match zs with
               | [z]=>some (z,H')
               | []=>some (.tup [],H')
               | [x,y]=>some (.tup [x,y],H')
               | [x,y,z]=>some (.tup [x,y,z],H')
               | [x,y,z,u]=>some (.tup [x,y,z,u],H')
               | [x,y,z,u,v]=>some (.tup [x,y,z,u,v],H')
               | _=>none
             | false=>none
 | false=>none
def finX (c:Cx) (fn:Func) (ow:Bool) (e:Exit) (σ:Sg):O:=match e with
 | .panic ch=>finP ch σ
 | e=>finR c fn ow e σ
noncomputable def subL {ι Y1 Y2 Y3:Type} (I:ι->Sg) (un:Sg->ι) (L:ι->(Y1->O)->(Y2->O)->(Y3->O)->O) (σ:Sg) (k1:Y1->O) (k2:Y2->O) (k3:Y3->O):O:=
 @ite _ (σ=I (un σ)) (Classical.propDecidable _) (L (un σ) k1 k2 k3) none
def noX (n:Nat) (_:Unit):Exit×Sg:=(.goto n,⟨[],[],100⟩)
def lvX (τ:Ty) (x:Option X):τ.V:=match x with
 | some (.e τ' y)=>(match teq τ' τ with | some ⟨h⟩=>castV h y | none=>τ.zero)
 | some (.pt τ' y _)=>(match teq τ' τ with | some ⟨h⟩=>castV h y | none=>τ.zero)
 | _=>τ.zero
def lvT (τ:Ty) (t i:Nat) (σ:Sg):τ.V:=match lk t σ.T with
 | some x=>lvX τ (match x with | .agg xs=>xs[i]? | .tup xs=>xs[i]? | .fn _ xs=>xs[i]? | x=>some x)
 | none=>τ.zero
def lvH (τ:Ty) (q i:Nat) (σ:Sg):τ.V:=match lk q σ.H with
 | some (.box _ xs)=>lvX τ xs[i]?
 | _=>τ.zero
def lvA (τ:Ty) (t:Nat) (σ:Sg):List τ.V:=match lk t σ.T with
 | some (.ag τ' l)=>(match teq τ' τ with | some ⟨h⟩=>castA h l | none=>[])
 | _=>[]
def lvQ (τ:Ty) (q:Nat) (σ:Sg):List τ.V:=match lk q σ.H with
 | some (.arr _ τ' l)=>(match teq τ' τ with | some ⟨h⟩=>castA h l | none=>[])
 | _=>[]
def lvR (τ:Ty) (q:Nat) (σ:Sg):List τ.V:=match lk q σ.H with
 | some (.row _ τ' l _)=>(match teq τ' τ with | some ⟨h⟩=>castV (congrArg Ty.sl h) l | none=>[])
 | _=>[]
def lvS (κ ρ:Ty) (q:Nat) (σ:Sg):List (List κ.V×ρ.V):=match lk q σ.H with
 | some (.nst _ _ κ' ρ' l _)=>(match teq κ' κ with | some ⟨h⟩=>(match teq ρ' ρ with | some ⟨g⟩=>castN h g l | none=>[]) | none=>[])
 | _=>[]
def E0 (f:Bool×Res):Ent':=fun xs H=>match xs,H with | [],[]=>some f | _,_=>none
def E1 (a:Ty) (f:a.V->Bool×Res):Ent':=fun xs H=>match xs,H with
 | [x],[]=>match tyX a x with | some x=>some (f x) | none=>none
 | _,_=>none
def E2 (a b:Ty) (f:a.V->b.V->Bool×Res):Ent':=fun xs H=>match xs,H with
 | [x,y],[]=>match tyX a x with | some x=>(match tyX b y with | some y=>some (f x y) | none=>none) | none=>none
 | _,_=>none
def E3 (a b d:Ty) (f:a.V->b.V->d.V->Bool×Res):Ent':=fun xs H=>match xs,H with
 | [x,y,z],[]=>match tyX a x with | some x=>(match tyX b y with | some y=>(match tyX d z with | some z=>some (f x y z) | none=>none) | none=>none) | none=>none
 | _,_=>none
def E4 (a b d e:Ty) (f:a.V->b.V->d.V->e.V->Bool×Res):Ent':=fun xs H=>match xs,H with
 | [x,y,z,u],[]=>match tyX a x with | some x=>(match tyX b y with | some y=>(match tyX d z with | some z=>(match tyX e u with | some u=>some (f x y z u) | none=>none) | none=>none) | none=>none) | none=>none
 | _,_=>none
def Ef1 (a:Ty) (g:FuncId) (f:a.V->Bool×Res):Ent':=fun xs H=>match xs,H with
 | [x,.fn g' []],[]=>match Nat.beq g' g with
   | true=>match tyX a x with | some x=>some (f x) | none=>none
   | false=>none
 | _,_=>none
def Ef2 (a b:Ty) (g:FuncId) (f:a.V->b.V->Bool×Res):Ent':=fun xs H=>match xs,H with
 | [x,y,.fn g' []],[]=>match Nat.beq g' g with
   | true=>match tyX a x with
     | some x=>match tyX b y with | some y=>some (f x y) | none=>none
     | none=>none
   | false=>none
 | _,_=>none
def Eor (f g:Ent'):Ent':=fun xs H=>match f xs H with | some r=>some r | none=>g xs H
def ue (τ:Ty):X->Option τ.V
 | .e τ' x=>match teq τ' τ with | some ⟨h⟩=>some (castV h x) | none=>none
 | _=>none
def ur (e:TypeId) (τ:Ty) (st:Bool):XO->Option (List τ.V)
 | .row e' τ' l st'=>match Nat.beq e' e&&(st' == st) with
   | true=>match teq τ' τ with | some ⟨h⟩=>some (castV (congrArg Ty.sl h) l) | none=>none
   | false=>none
 | _=>none
def uz (e:TypeId) (τ:Ty):XO->Option (List τ.V)
 | .arr e' τ' z=>match Nat.beq e' e with
   | true=>(match teq τ' τ with | some ⟨h⟩=>some (castA h z) | none=>none)
   | false=>none
 | _=>none
end
instance std:Alg:=⟨br0,ck0,gx0,gn0,gc0⟩
end Go.Ax
/- What data of the run mean: trees of values. -/
namespace Go.Ax
open Alg
open Go.RowKit Go.Ab
mutual
def encE:Ex->List Tree
 | .mk a n ks=>[.v (.int .i64 a),.v (.int .i64 n),.sl ks.length (encEs ks)]
def encEs:List Ex->List Tree
 | []=>[]
 | x::l=>encE x++encEs l
end
def encs:(τ:Ty)->τ.V->List Tree
 | .i k,x=>[.v (.int k x)]
 | .u8,x=>[.v (.int .u8 (UInt8.toNat x))]
 | .bo,x=>[.v (.bool x)]
 | .tx,x=>[.v (.string ⟨⟨x⟩⟩)]
 | .ex,x=>encE x
 | .un,_=>[]
 | .sl e,l=>[.sl (List.length l) (List.flatMap (encs e) l)]
 | .pr a b,x=>encs a x.1++encs b x.2
def enc1 (τ:Ty) (x:τ.V):Tree:=(encs τ x).headD (.sl 0 [])
theorem encEs_eq:∀ l:List Ex,encEs l=l.flatMap encE
 | []=>rfl
 | x::l=>by rw [encEs,encEs_eq l];rfl
theorem encE_eq (x:Ex):encE x=[.v (.int .i64 (Ex.op x)),.v (.int .i64 (Ex.num x)),.sl (List.length (Ex.kids x)) ((Ex.kids x).flatMap encE)]:=by
 cases x with | mk a n ks=>rw [encE,encEs_eq];rfl
theorem encs_ex (x:Ex):encs .ex x=[.v (.int .i64 (Ex.op x)),.v (.int .i64 (Ex.num x)),.sl (List.length (Ex.kids x)) ((Ex.kids x).flatMap encE)]:=encE_eq x
theorem encs_len:∀ (τ:Ty) (x:τ.V),(encs τ x).length=τ.size
 | .i _,_=>rfl
 | .u8,_=>rfl
 | .bo,_=>rfl
 | .tx,_=>rfl
 | .ex,x=>by have:=congrArg List.length (encs_ex x);exact this
 | .un,_=>rfl
 | .sl _,_=>rfl
 | .pr a b,x=>by rw [encs,List.length_append,encs_len a,encs_len b];rfl
theorem encs_one {τ:Ty} (h:τ.one=true) (x:τ.V):encs τ x=[enc1 τ x]:=by
 cases τ <;> first | rfl | cases h
theorem size_one {τ:Ty} (h:τ.one=true):τ.size=1:=by cases τ <;> first | rfl | cases h
def viaR:Nat->Value->Value->Prop
 | 0,a,v=>v = .pointer none\/v=a
 | 1,a,v=>∃ p,v = .pointer p/\∀ x n c,a = .slice x n c->0 < n->p=x
 | j+2,_,v=>(j=1/\v = .nilIface)\/(j≠1/\∃ te pe,v = .iface te pe)
mutual
def X.D:X->D
 | .e τ x=>match τ.one with | true=>.t (enc1 τ x) | false=>.any
 | .nilS=>.t (.v (.slice none 0 0))
 | .agg xs=>.agg (Ds xs)
 | .tup xs=>.tup (Ds xs)
 | .own k=>.own k
 | .ref k off=>.ref k off
 | .rr k i j s=>.ref k (i * s+j)
 | .pt τ y j=>.ptr (encs τ y) j
 | .fn f xs=>.fn f (Ds xs)
 | .v w=>.t (.v w)
 | .bit _ q=>.t (.v (.bool q))
 | .cnd _ c x=>match c with | true=>X.D x | false=>.tup []
 | .sub k i=>.sub k i
 | .sref k i j=>.sref k i j
 | .vw k i n s=>.vw k (i * s) n
 | .via k j=>.via k (viaR j)
 | .ifc k t=>.via k fun p v=>v = .iface t p
 | .ag τ l=>.agg ((List.flatMap (encs τ) l).map .t)
 | .pan _=>.any
def Ds:List X->List D
 | []=>[]
 | x::l=>X.D x::Ds l
end
theorem glob_D (g:Nat):(glob g).D=globD g:=rfl
theorem Ds_map:∀ l:List X,Ds l=l.map X.D
 | []=>rfl
 | x::l=>by rw [Ds,Ds_map l];rfl
def kv:(τ:Ty)->τ.V->Value
 | .i k,x=>.int k x
 | .u8,x=>.int .u8 (UInt8.toNat x)
 | .bo,x=>.bool x
 | .tx,x=>.string ⟨⟨x⟩⟩
 | _,_=>.nilFunc
def cellsN {κ ρ:Ty} (x:List κ.V×ρ.V):List NC:=.inn (List.length x.1) (List.flatMap (encs κ) x.1)::(encs ρ x.2).map fun t=>.dat (.t t)
def lentN (m:Nat) (cs:List NC):Option (Int×Nat)->List NC
 | none=>cs
 | some (i,q)=>cs.set (i.toNat * m) (.dat (.own q))
def XO.A:XO->AObj
 | .nst e e' κ ρ l ln=>.nst e e' (1+ρ.size) κ.size l.length (lentN (1+ρ.size) (List.flatMap cellsN l) ln)
 | .box e xs=>.box e (xs.map X.D)
 | .row e τ l st=>.row e τ.size l.length (l.flatMap (encs τ)) st
 | .nest e e' τ l=>.nest e e' τ.size (l.map fun r=>(List.length r,List.flatMap (encs τ) r))
 | .mp τ l=>.mp (l.map fun p=>(kv τ p.1,p.2.D))
 | .it s pos=>.it ⟨s.toArray⟩ pos.toNat
 | .arr e τ l=>.box e ((List.flatMap (encs τ) l).map .t)
theorem e_D {τ:Ty} (h:τ.one=true) (x:τ.V):(X.e τ x).D = .t (enc1 τ x):=by unfold X.D;rw [h]
theorem cellsX_D:∀ (τ:Ty) (x:τ.V),(cellsX τ x).map X.D=(encs τ x).map .t
 | .un,_=>rfl
 | .i _,_=>rfl
 | .u8,_=>rfl
 | .bo,_=>rfl
 | .tx,_=>rfl
 | .ex,x=>by
   have:=congrArg (List.map D.t) (encs_ex x);exact this.symm
 | .sl _,_=>rfl
 | .pr a b,x=>by rw [cellsX,encs,List.map_append,List.map_append,cellsX_D a,cellsX_D b]
theorem castV_encs {a b:Ty} (h:a=b) (x:a.V):encs b (castV h x)=encs a x:=by subst h;rfl
theorem DWk.nil {H:Nat->Option AObj}:DWk H (.t (.v (.slice none 0 0))) (.t (.sl 0 [])):=fun _ _ _ _ _ _ _ _ v hv=>by
 have:=bool_of hv;subst this;exact .t (.nil fun _=>rfl)
theorem DWk.own {H:Nat->Option AObj} {k:Nat} {e:TypeId} {s n:Nat} {ts:List Tree} (h:H k=some (.row e s n ts true)):DWk H (.own k) (.t (.sl n ts)):=fun _ _ _ _ _ _ hH I v hv=>by
 cases hv with | own _ _=>exact .t (I.rows _ _ _ _ _ _ (hH _ _ h) rfl)
theorem one?_ok {H:Nat->Option AObj} {τ:Ty} {x:X} {y:τ.V} (h1:τ.one=true) (h:one? τ x=some y):DWk H x.D (.t (enc1 τ y)):=by
 unfold one? at h;split at h
 ·rename_i τ' z
  split at h
  ·rename_i he _
   cases h;have e:=he;subst e;rw [e_D h1];exact DWk.refl
  ·cases h
 ·split at h
  ·cases h;exact DWk.nil
  ·cases h
 ·cases h
inductive DWs (H:Nat->Option AObj):List D->List D->Prop
 | nil:DWs H [] []
 | cons {a b:D} {l m:List D} (h:DWk H a b) (r:DWs H l m):DWs H (a::l) (b::m)
theorem DWs.refl {H:Nat->Option AObj}:∀ {l:List D},DWs H l l
 | []=>.nil
 | _::_=>.cons DWk.refl DWs.refl
theorem DWs.trans {H:Nat->Option AObj}:∀ {a b c:List D},DWs H a b->DWs H b c->DWs H a c
 | _,_,_,.nil,.nil=>.nil
 | _,_,_,.cons h r,.cons h' r'=>.cons (h.trans h') (r.trans r')
theorem DWs.app {H:Nat->Option AObj}:∀ {a b c d:List D},DWs H a b->DWs H c d->DWs H (a++c) (b++d)
 | _,_,_,_,.nil,h=>h
 | _,_,_,_,.cons h r,h'=>.cons h (r.app h')
theorem DWs.len {H:Nat->Option AObj} {a b:List D} (h:DWs H a b):a.length=b.length:=by
 induction h with
 | nil=>rfl
 | cons _ _ ih=>simp [ih]
theorem DWs.get {H:Nat->Option AObj} {a b:List D} (h:DWs H a b):∀ (i:Nat) (d:D),b[i]?=some d->∃ d0,a[i]?=some d0/\DWk H d0 d:=by
 induction h with
 | nil=>intro i d h;simp at h
 | cons h r ih=>
   intro i d hi;cases i with
   | zero=>simp at hi;subst hi;exact ⟨_,rfl,h⟩
   | succ i=>exact ih i d (by simpa using hi)
theorem DWs.of_map {H:Nat->Option AObj} {f g:X->D}:∀ {l:List X},(∀ x ∈ l,DWk H (f x) (g x))->DWs H (l.map f) (l.map g)
 | [],_=>.nil
 | _::_,h=>.cons (h _ (by simp)) (DWs.of_map fun x hx=>h x (by simp [hx]))
theorem DWk.agg {H:Nat->Option AObj} {a b:List D} (h:DWs H a b):DWk H (.agg a) (.agg b):=fun E s ν G w tm hH I v hv=>by
 cases hv with
 | agg hl hr h1=>
   refine .agg (hl.trans h.len) (fun i u d hu hd=>?_) h1;obtain ⟨d0,e0,hw⟩:=h.get i d hd;exact hw E s ν G w tm hH I u (hr i u d0 hu e0)
theorem joinX_ok {H:Nat->Option AObj}:∀ (τ:Ty) (xs:List X) (y:τ.V) (r:List X),joinX τ xs=some (y,r)->∃ pre,xs=pre++r/\DWs H (pre.map X.D) ((encs τ y).map .t)
 | .pr a b,xs,y,r,h=>by
   unfold joinX at h;split at h
   ·rename_i x r1 h1
    split at h
    ·rename_i z r2 h2
     cases h;obtain ⟨p1,e1,w1⟩:=joinX_ok (H:=H) a xs x r1 h1;obtain ⟨p2,e2,w2⟩:=joinX_ok (H:=H) b r1 z r h2;refine ⟨p1++p2,by rw [e1,e2,List.append_assoc],?_⟩;have e3:(encs (.pr a b) (x,z)).map D.t=(encs a x).map D.t++(encs b z).map D.t:=by rw [← List.map_append];rfl
     rw [e3,List.map_append];exact w1.app w2
    ·cases h
   ·cases h
 | .un,xs,y,r,h=>by cases h;exact ⟨[],rfl,.nil⟩
 | .ex,[],y,r,h=>by cases h
 | .ex,[_],y,r,h=>by cases h
 | .ex,[_,_],y,r,h=>by cases h
 | .ex,a::b::c::r',y,r,h=>by
   simp only [joinX] at h;split at h
   ·rename_i x h1
    split at h
    ·rename_i z h2
     split at h
     ·rename_i u h3
      cases h;refine ⟨[a,b,c],rfl,?_⟩;rw [encs_ex];exact .cons (one?_ok rfl h1) (.cons (one?_ok rfl h2) (.cons (one?_ok rfl h3) .nil))
     ·cases h
    ·cases h
   ·cases h
 | .i k,[],y,r,h=>by cases h
 | .i k,x::l,y,r,h=>by
   unfold joinX at h;split at h
   ·rename_i z h1;cases h;exact ⟨[x],rfl,.cons (one?_ok rfl h1) .nil⟩
   ·cases h
 | .u8,[],y,r,h=>by cases h
 | .u8,x::l,y,r,h=>by
   unfold joinX at h;split at h
   ·rename_i z h1;cases h;exact ⟨[x],rfl,.cons (one?_ok rfl h1) .nil⟩
   ·cases h
 | .bo,[],y,r,h=>by cases h
 | .bo,x::l,y,r,h=>by
   unfold joinX at h;split at h
   ·rename_i z h1;cases h;exact ⟨[x],rfl,.cons (one?_ok rfl h1) .nil⟩
   ·cases h
 | .tx,[],y,r,h=>by cases h
 | .tx,x::l,y,r,h=>by
   unfold joinX at h;split at h
   ·rename_i z h1;cases h;exact ⟨[x],rfl,.cons (one?_ok rfl h1) .nil⟩
   ·cases h
 | .sl t,[],y,r,h=>by cases h
 | .sl t,x::l,y,r,h=>by
   unfold joinX at h;split at h
   ·rename_i z h1;cases h;exact ⟨[x],rfl,.cons (one?_ok rfl h1) .nil⟩
   ·cases h
theorem joinAll_ok {H:Nat->Option AObj} {τ:Ty} {xs:List X} {y:τ.V} (h:joinAll τ xs=some y):DWs H (xs.map X.D) ((encs τ y).map .t):=by
 unfold joinAll at h;split at h
 ·rename_i z h1
  cases h;obtain ⟨pre,e,hw⟩:=joinX_ok (H:=H) τ xs y [] h1;rw [e,List.append_nil];exact hw
 ·cases h
def Vw.den (σ:Vw):St:=⟨fun t=>(σ.T t).map X.D,fun k=>(σ.H k).map XO.A,fun _=>false⟩
theorem den_H {σ:Vw} {k:Nat} {o:XO} (h:σ.H k=some o):σ.den.H k=some o.A:=by simp [Vw.den,h]
theorem den_T {σ:Vw} {t:Nat} {x:X} (h:σ.T t=some x):σ.den.T t=some x.D:=by simp [Vw.den,h]
theorem give_ok (σ:Vw) (x:X):DWk σ.den.H x.D (σ.give x).D:=by
 unfold Vw.give;split
 ·rename_i q
  split
  ·rename_i e τ l h
   exact DWk.own (e:=e) (s:=τ.size) (by rw [den_H h];rfl)
  ·exact DWk.refl
 ·exact DWk.refl
theorem giveC_ok (σ:Vw) (x:X):DWk σ.den.H x.D (σ.giveC x).D:=by
 unfold Vw.giveC;split
 ·rename_i xs
  unfold X.D;rw [Ds_map,Ds_map,List.map_map];exact DWk.agg (DWs.of_map (f:=X.D) (g:=X.D ∘ σ.give) fun x _=>give_ok σ x)
 ·exact give_ok σ _
theorem cells_D {x:X} (h:x.val=true) (h':x.D.val=true):x.D.cells=x.cells.map X.D:=by
 cases x with
 | agg xs=>unfold X.D;rw [Ds_map];rfl
 | e τ y=>
   unfold X.D X.cells;cases hτ:τ.one with
   | true=>simp [D.cells,e_D hτ]
   | false=>rw [show (X.e τ y).D = .any by unfold X.D;rw [hτ]] at h';cases h'
 | tup xs=>cases h
 | cnd key c x=>cases h
 | bit j q=>cases h
 | nilS=>rfl
 | own k=>rfl
 | ref k off=>rfl
 | rr k i j s=>rfl
 | pt τ y j=>rfl
 | fn f xs=>rfl
 | v w=>rfl
 | sub k i=>rfl
 | sref k i j=>rfl
 | vw k i n s=>rfl
 | via k j=>rfl
 | ifc k j=>rfl
 | ag τ l=>cases h
 | pan v=>cases h
end Go.Ax
/- States of the run, and a region whose operations run one after the other. -/
namespace Go.Ax
open Alg
open Go.RowKit Go.Ab
theorem ob_some {α:Type} {x:Option α} {k:α->O} {r:Res} (h:ob x k=some r):∃ y,x=some y/\k y=some r:=by
 unfold ob at h;split at h
 ·exact ⟨_,rfl,h⟩
 ·cases h
theorem br_some {b:Bool} {x y:O} {r:Res} (h:br b x y=some r):(b=true/\x=some r)\/(b=false/\y=some r):=by
 cases b
 ·exact .inr ⟨rfl,h⟩
 ·exact .inl ⟨rfl,h⟩
theorem ck_some {b:Bool} {x:O} {r:Res} (h:ck b x=some r):b=true/\x=some r:=by
 cases b
 ·cases h
 ·exact ⟨rfl,h⟩
theorem gx_some {α:Type} {l:List α} {n:Int} {k:α->O} {r:Res} (h:gx l n k=some r):∃ y,0<=n/\l[n.toNat]?=some y/\k y=some r:=by
 change gx0 l n k=some r at h;unfold gx0 at h;split at h
 ·rename_i y hy
  split at hy
  ·cases hy
  ·exact ⟨y,by omega,hy,h⟩
 ·cases h
theorem gn_some {α:Type} {l:List α} {n:Nat} {k:α->O} {r:Res} (h:gn l n k=some r):∃ y,l[n]?=some y/\k y=some r:=by
 change gn0 l n k=some r at h;unfold gn0 at h;split at h
 ·exact ⟨_,‹_›,h⟩
 ·cases h
theorem beq_ne {a b:Nat} (h:Nat.beq a b=false):a≠b:=fun e=>by subst e;simp at h
theorem ne_beq {a b:Nat} (h:a≠b):Nat.beq a b=false:=by
 cases hb:Nat.beq a b with
 | false=>rfl
 | true=>exact absurd (Nat.eq_of_beq_eq_true hb) h
theorem bval_t {w q:Bool} (h:bval w q=true):q=w:=by cases w <;> cases q <;> first | rfl | cases h
theorem bval_f {w q:Bool} (h:bval w q=false):q=!w:=by cases w <;> cases q <;> first | rfl | cases h
theorem lk_eq {α:Type} {k:Nat}:∀ {l:List (Nat×α)},lk k l=Ab.look k l
 | []=>rfl
 | (k',x)::l=>by
   unfold lk Ab.look;by_cases e:k'=k
   ·subst e;simp
   ·have:Nat.beq k' k=false:=ne_beq e
    rw [this,if_neg e];exact lk_eq
theorem setK_some {α β:Type} {k:Nat} {x:α}:∀ {l:List (Nat×α)} {f:List (Nat×α)->Option β} {r:β},setK k x l f=some r->∃ l',f l'=some r/\∀ k',lk k' l'=if k=k' then some x else lk k' l
 | [],f,r,h=>⟨_,h,fun k'=>by
   simp only [lk];by_cases e:k=k'
   ·subst e;simp
   ·have:Nat.beq k k'=false:=ne_beq e
    rw [this,if_neg e]⟩
 | (k',y)::l,f,r,h=>by
   unfold setK at h;split at h
   ·rename_i he
    have he:=Nat.eq_of_beq_eq_true he;subst he;refine ⟨_,h,fun j=>?_⟩;simp only [lk];by_cases e:k'=j
    ·subst e;simp
    ·have:Nat.beq k' j=false:=ne_beq e
     rw [this,if_neg e]
   ·rename_i he
    have he:=beq_ne he;obtain ⟨l',h1,h2⟩:=setK_some h;refine ⟨_,h1,fun j=>?_⟩;simp only [lk];by_cases e:k'=j
    ·subst e
     rw [if_neg (fun e=>he e.symm)];simp
    ·have:Nat.beq k' j=false:=ne_beq e
     rw [this];exact h2 j
theorem delK_some {α β:Type} {k:Nat}:∀ {l:List (Nat×α)} {f:List (Nat×α)->Option β} {r:β},delK k l f=some r->∃ l',f l'=some r/\∀ k',lk k' l'=if k=k' then none else lk k' l
 | [],f,r,h=>⟨_,h,fun k'=>by simp [lk]⟩
 | (k',y)::l,f,r,h=>by
   unfold delK at h;split at h
   ·rename_i he
    have he:=Nat.eq_of_beq_eq_true he;subst he;obtain ⟨l',h1,h2⟩:=delK_some h;refine ⟨_,h1,fun j=>?_⟩;rw [h2];simp only [lk];by_cases e:k'=j
    ·simp [e]
    ·have:Nat.beq k' j=false:=ne_beq e
     rw [this]
   ·rename_i he
    have he:=beq_ne he;obtain ⟨l',h1,h2⟩:=delK_some h;refine ⟨_,h1,fun j=>?_⟩;simp only [lk];by_cases e:k'=j
    ·subst e
     rw [if_neg (fun e=>he e.symm)];simp
    ·have:Nat.beq k' j=false:=ne_beq e
     rw [this];exact h2 j
theorem updT_some {dst:Option Tmp} {x:X} {T:XT} {f:XT->O} {r:Res} (h:updT dst x T f=some r):∃ T',f T'=some r/\∀ t,lk t T'=if dst=some t then some x else lk t T:=by
 cases dst with
 | none=>exact ⟨T,h,fun t=>by simp⟩
 | some d=>
   obtain ⟨T',h1,h2⟩:=setK_some h;refine ⟨T',h1,fun t=>?_⟩;rw [h2];by_cases e:d=t
   ·simp [e]
   ·simp [e]
theorem updH_some:∀ {W:Wx} {H:XH} {f:XH->O} {r:Res},updH W H f=some r->∃ H',f H'=some r/\∀ k,lk k H'=match Ab.look k W with | some o=>o | none=>lk k H
 | [],H,f,r,h=>⟨H,h,fun k=>rfl⟩
 | (k0,some o)::W,H,f,r,h=>by
   unfold updH at h;obtain ⟨H1,h1,h2⟩:=updH_some h;obtain ⟨H2,h3,h4⟩:=setK_some h1;refine ⟨H2,h3,fun k=>?_⟩;rw [h4];unfold Ab.look;by_cases e:k0=k
   ·simp [e]
   ·simp only [if_neg e];exact h2 k
 | (k0,none)::W,H,f,r,h=>by
   unfold updH at h;obtain ⟨H1,h1,h2⟩:=updH_some h;obtain ⟨H2,h3,h4⟩:=delK_some h1;refine ⟨H2,h3,fun k=>?_⟩;rw [h4];unfold Ab.look;by_cases e:k0=k
   ·simp [e]
   ·simp only [if_neg e];exact h2 k
def Good (κ:Nat->Bool):X->Prop
 | .bit j q=>κ (2 * j+1)=q/\κ (2 * j)=!q
 | .cnd key c x=>c=κ key/\(match x with | .bit j q=>κ (2 * j+1)=(c&&q)/\κ (2 * j)=(c&&!q) | .cnd ..=>False | _=>True)
 | _=>True
theorem pl_good {κ:Nat->Bool} {x:X} (h:x.pl=true):Good κ x:=by
 cases x <;> first | exact True.intro | cases h
structure Vw.Ok (σ:Vw) (κ:Nat->Bool):Prop where
 good:∀ t x,σ.T t=some x->Good κ x
 g:∀ key c,σ.g=some (key,c)->c=κ key
def Vw.On (σ:Vw):Prop:=∀ key c,σ.g=some (key,c)->c=true
def WA (W:Wx):Wr:=W.map fun p=>(p.1,p.2.map XO.A)
theorem look_WA {k:Nat}:∀ {W:Wx},Ab.look k (WA W)=(Ab.look k W).map (·.map XO.A)
 | []=>rfl
 | (k',o)::W=>by
   unfold WA Ab.look;simp only [List.map_cons];by_cases e:k'=k
   ·simp [e]
   ·rw [if_neg e]
    have:=look_WA (k:=k) (W:=W);unfold WA at this;simp only [if_neg e];exact this
def StepX (c:Cx):Prop:=∀ (σ:Vw) (κ:Nat->Bool) (fr:Nat) (st:Bool) (o:Oper) (k:X->Wx->O) (r:Res),σ.Ok κ->stepX c σ fr st o k=some r->∃ x W,k x W=some r/\x.pl=true/\(σ.On->OpOk c.P o σ.den fr x.D (WA W))
def PanOk (c:Cx):Prop:=∀ (σ:Vw) (κ:Nat->Bool) (fr:Nat) (o:Oper) (k:X->Wx->O) (kp:Value->Wx->O) (els:O) (r:Res),σ.Ok κ->σ.g=none->panX c σ fr o k kp els=some r->
 els=some r\/(∃ x W,k x W=some r/\x.pl=true/\(σ.On->OpOk c.P o σ.den fr x.D (WA W)))\/∃ v W,kp v W=some r/\(σ.On->OpPan c.P o σ.den fr v (WA W))
structure LeX (T:XT) (H:XH) (s:St):Prop where
 T:∀ t x,lk t T=some x->s.T t=some x.D
 H:∀ k o,lk k H=some o->s.H k=some o.A
theorem OpOk_le {P:Program} {o:Oper} {σ s:St} {fr:Nat} {d:D} {W:Wr} (h:OpOk P o σ fr d W) (hT:∀ t d,σ.T t=some d->s.T t=some d) (hH:∀ k o,σ.H k=some o->s.H k=some o):OpOk P o s fr d W:=
 fun E σ₁ a w h1 h2 h3 h4 h5 h6 Q=>h E σ₁ a w (fun t d ht=>h1 t d (hT t d ht)) (fun k o hk=>h2 k o (hH k o hk)) h3 h4 h5 h6 Q
theorem OpPan_le {P:Program} {o:Oper} {σ s:St} {fr:Nat} {v:Value} {W:Wr} (h:OpPan P o σ fr v W) (hT:∀ t d,σ.T t=some d->s.T t=some d) (hH:∀ k o,σ.H k=some o->s.H k=some o):OpPan P o s fr v W:=
 fun E σ₁ a w h1 h2 h3 h4 h5=>h E σ₁ a w (fun t d ht=>h1 t d (hT t d ht)) (fun k o hk=>h2 k o (hH k o hk)) h3 h4 h5
theorem LeX.upd {T T':XT} {H H':XH} {s:St} (h:LeX T H s) {dst:Option Tmp} {x:X} {W:Wx} {fr:Nat} (hT:∀ t,lk t T'=if dst=some t then some x else lk t T) (hH:∀ k,lk k H'=match Ab.look k W with | some o=>o | none=>lk k H):
    LeX T' H' (s.upd dst x.D (WA W) fr) where
 T:=fun t y ht=>by
  rw [hT] at ht;simp only [St.upd];by_cases e:dst=some t
  ·rw [if_pos e] at ht ⊢;cases ht;rfl
  ·rw [if_neg e] at ht ⊢;exact h.T t y ht
 H:=fun k o hk=>by
  rw [hH] at hk;simp only [St.upd,look_WA];cases hl:Ab.look k W with
  | none=>simp only [hl] at hk;exact h.H k o hk
  | some o'=>simp only [hl] at hk;simp [hk]
def κset (κ:Nat->Bool) (j:Nat) (a b:Bool) (k:Nat):Bool:=if k=2 * j+1 then a else if k=2 * j then b else κ k
theorem κset1 {κ:Nat->Bool} {j:Nat} {a b:Bool}:κset κ j a b (2 * j+1)=a:=by simp [κset]
theorem κset0 {κ:Nat->Bool} {j:Nat} {a b:Bool}:κset κ j a b (2 * j)=b:=by
 unfold κset;rw [if_neg (by omega),if_pos rfl]
theorem Good.set {κ:Nat->Bool} {j:Nat} {a b:Bool} {x:X} (h:Good κ x) (hu:usesJ j x=false):Good (κset κ j a b) x:=by
 have bt:∀ j',Nat.beq j' j=false->κset κ j a b (2 * j'+1)=κ (2 * j'+1)/\κset κ j a b (2 * j')=κ (2 * j'):=fun j' hj=>by
  have:=beq_ne hj;unfold κset;exact ⟨by rw [if_neg (by omega),if_neg (by omega)],by rw [if_neg (by omega),if_neg (by omega)]⟩
 cases x with
 | bit j' q=>
   simp only [usesJ] at hu;obtain ⟨h1,h2⟩:=h;exact ⟨(bt j' hu).1.trans h1,(bt j' hu).2.trans h2⟩
 | cnd key c y=>
   simp only [usesJ,Bool.or_eq_false_iff] at hu;obtain ⟨⟨hu1,hu2⟩,hu3⟩:=hu;obtain ⟨h1,h2⟩:=h;have hk:κset κ j a b key=κ key:=by
    have:=beq_ne hu1;have:=beq_ne hu2;unfold κset;rw [if_neg (by omega),if_neg (by omega)]
   refine ⟨h1.trans hk.symm,?_⟩;cases y with
   | bit j' q=>
     simp only at hu3 h2 ⊢;exact ⟨(bt j' hu3).1.trans h2.1,(bt j' hu3).2.trans h2.2⟩
   | cnd _ _ _=>exact h2
   | _=>exact True.intro
 | _=>exact True.intro
theorem freeT_get {j:Nat}:∀ {T:XT},freeT j T=true->∀ t x,lk t T=some x->usesJ j x=false
 | [],_,t,x,h=>by cases h
 | (t',y)::l,hf,t,x,h=>by
   unfold freeT at hf;split at hf
   ·cases hf
   ·rename_i hu
    unfold lk at h;split at h
    ·cases h;exact hu
    ·exact freeT_get hf t x h
theorem bkey_val {κ:Nat->Bool} {j:Nat} {q w:Bool} (h1:κ (2 * j+1)=q) (h2:κ (2 * j)=!q):κ (bkey j w)=bval w q:=by
 cases w
 ·exact h2
 ·exact h1
theorem bkey_val' {κ:Nat->Bool} {j:Nat} {c q w:Bool} (h1:κ (2 * j+1)=(c&&q)) (h2:κ (2 * j)=(c&&!q)):κ (bkey j w)=(c&&bval w q):=by
 cases w
 ·exact h2
 ·exact h1
theorem guardX_some {o:Oper} {ops:List Oper} {T:Nat->Option X} {g:Gd} (h:guardX o ops T=some g):match g with
    | .on=>o.guard=none
    | .off=>∃ j w t,o.guard=some (j,w)/\(ops[j]?).bind (·.dst)=some t/\T t=some (.tup [])
    | .kn b=>∃ j w t v,o.guard=some (j,w)/\(ops[j]?).bind (·.dst)=some t/\T t=some (.v (.bool v))/\(b=true->v=w)/\(b=false->v=!w)
    | .cd key b t j y new=>∃ w x,o.guard=some (j,w)/\(ops[j]?).bind (·.dst)=some t/\T t=some x/\key=bkey j w/\y.D=x.D/\(b=true->x.D = .t (.v (.bool w)))/\(b=false->x.D = .tup []\/x.D = .t (.v (.bool (!w)))) /\
        ∀ κ:Nat->Bool,Good κ x->(new=false->Good κ y/\b=κ key)/\(new=true->∃ a c,∀ κ':Nat->Bool,κ' (2 * j+1)=a->κ' (2 * j)=c->(∀ key' c' x',x = .cnd key' c' x'->κ' key'=κ key')->Good κ' y/\b=κ' key):=by
 unfold guardX at h;split at h
 ·cases h;assumption
 ·rename_i j w hg
  split at h
  case h_2=>cases h
  rename_i oj hj;split at h
  case h_2=>cases h
  rename_i t ht;have hdst:(ops[j]?).bind (·.dst)=some t:=by rw [hj];exact ht
  split at h
  ·rename_i q hT
   cases h;refine ⟨w,_,hg,hdst,hT,rfl,rfl,fun hb=>?_,fun hb=>?_,fun κ _=>⟨fun h=>(by cases h),fun _=>⟨q,!q,fun κ' h1 h2 _=>⟨⟨h1,h2⟩,(bkey_val h1 h2).symm⟩⟩⟩⟩
   ·exact congrArg (fun b=>D.t (.v (.bool b))) (bval_t hb)
   ·exact .inr (congrArg (fun b=>D.t (.v (.bool b))) (bval_f hb))
  ·rename_i j' q hT
   split at h
   ·rename_i he
    have he:=Nat.eq_of_beq_eq_true he;subst he;cases h;refine ⟨w,_,hg,hdst,hT,rfl,rfl,fun hb=>?_,fun hb=>?_,fun κ hG=>⟨fun _=>⟨hG,(bkey_val hG.1 hG.2).symm⟩,fun h=>by cases h⟩⟩
    ·exact congrArg (fun b=>D.t (.v (.bool b))) (bval_t hb)
    ·exact .inr (congrArg (fun b=>D.t (.v (.bool b))) (bval_f hb))
   ·cases h
  ·rename_i key c q hT
   cases h;refine ⟨w,_,hg,hdst,hT,rfl,by cases c <;> rfl,fun hb=>?_,fun hb=>?_,fun κ hG=>⟨fun h=>(by cases h),fun _=>⟨c&&q,c&&!q,fun κ' h1 h2 h3=>⟨⟨hG.1.trans (h3 key c _ rfl).symm,h1,h2⟩,(bkey_val' h1 h2).symm⟩⟩⟩⟩
   ·simp only [Bool.and_eq_true] at hb
    obtain ⟨hc,hb⟩:=hb;subst hc;exact congrArg (fun b=>D.t (.v (.bool b))) (bval_t hb)
   ·cases c
    ·left;rfl
    ·right
     exact congrArg (fun b=>D.t (.v (.bool b))) (bval_f hb)
  ·rename_i key c j' q hT
   split at h
   ·rename_i he
    have he:=Nat.eq_of_beq_eq_true he;subst he;cases h;refine ⟨w,_,hg,hdst,hT,rfl,rfl,fun hb=>?_,fun hb=>?_,fun κ hG=>⟨fun _=>⟨hG,(bkey_val' hG.2.1 hG.2.2).symm⟩,fun h=>by cases h⟩⟩
    ·simp only [Bool.and_eq_true] at hb
     obtain ⟨hc,hb⟩:=hb;subst hc;exact congrArg (fun b=>D.t (.v (.bool b))) (bval_t hb)
    ·cases c
     ·left;rfl
     ·right
      exact congrArg (fun b=>D.t (.v (.bool b))) (bval_f hb)
   ·cases h
  ·rename_i hT
   cases h;exact ⟨j,w,t,hg,hdst,hT⟩
  ·rename_i v hT
   cases h;refine ⟨j,w,t,v,hg,hdst,hT,fun h=>?_,fun h=>?_⟩
   ·cases v <;> cases w <;> first | rfl | cases h
   ·cases v <;> cases w <;> first | rfl | cases h
  ·cases h
end Go.Ax
/- A region whose operations run one after the other. -/
namespace Go.Ax
open Alg
open Go.RowKit Go.Ab
theorem delK_pl {k:Nat}:∀ {l:XT} {f:XT->O} {r:Res},delK k l f=some r->plB l=true->∃ l',f l'=some r/\(∀ k',lk k' l'=if k=k' then none else lk k' l)/\plB l'=true
 | [],f,r,h,_=>⟨_,h,(fun k'=>by simp [lk]),rfl⟩
 | (k',y)::l,f,r,h,hp=>by
   have hp':=hp;unfold plB at hp';split at hp'
   case h_2=>cases hp'
   rename_i hy;unfold delK at h;split at h
   ·rename_i he
    have he:=Nat.eq_of_beq_eq_true he;subst he;obtain ⟨l',h1,h2,h3⟩:=delK_pl h hp';refine ⟨l',h1,fun j=>?_,h3⟩;rw [h2];simp only [lk];by_cases e:k'=j
    ·simp [e]
    ·rw [ne_beq e]
   ·rename_i he
    have he:=beq_ne he;obtain ⟨l',h1,h2,h3⟩:=delK_pl h hp';refine ⟨_,h1,fun j=>?_,by unfold plB;rw [hy];exact h3⟩;simp only [lk];by_cases e:k'=j
    ·subst e
     rw [if_neg (fun e=>he e.symm)];simp
    ·rw [ne_beq e]
     exact h2 j
theorem plB_get:∀ {T:XT},plB T=true->∀ t x,lk t T=some x->x.pl=true
 | [],_,t,x,h=>by cases h
 | (t',y)::l,hf,t,x,h=>by
   unfold plB at hf;split at hf
   case h_2=>cases hf
   rename_i hy;unfold lk at h;split at h
   ·cases h;exact hy
   ·exact plB_get hf t x h
theorem plainT_some:∀ {T:XT} {f:XT->O} {r:Res},plainT T f=some r->∃ T',f T'=some r/\(∀ t x,lk t T'=some x->∃ y,lk t T=some y/\x.D=y.D)/\plB T'=true
 | [],f,r,h=>⟨[],h,(fun t x h=>by cases h),rfl⟩
 | (t0,x0)::l,f,r,h=>by
   unfold plainT at h;have key:∀ (x1:X) (_:x1.pl=true) (_:x1.D=x0.D) (_:plainT l (fun l'=>f ((t0,x1)::l'))=some r),∃ T',f T'=some r/\(∀ t x,lk t T'=some x->∃ y,lk t ((t0,x0)::l)=some y/\x.D=y.D)/\plB T'=true:=fun x1 hp hD hh=>by
    obtain ⟨l',h1,h2,h3⟩:=plainT_some hh;refine ⟨_,h1,fun t x ht=>?_,by unfold plB;rw [hp];exact h3⟩;unfold lk at ht ⊢;split at ht
    ·rename_i he;cases ht;exact ⟨x0,rfl,hD⟩
    ·rename_i he;exact h2 t x ht
   split at h
   ·rename_i j q;exact key (.e .bo q) rfl rfl h
   ·rename_i key0 c y
    obtain ⟨l',h1,h2,h3⟩:=plainT_some h;obtain ⟨l2,h4,h5,h6⟩:=delK_pl h1 h3;refine ⟨l2,h4,fun t x ht=>?_,h6⟩;rw [h5] at ht;split at ht
    ·cases ht
    ·rename_i he
     unfold lk;rw [ne_beq he];exact h2 t x ht
   ·rename_i q;exact key (.e .bo q) rfl rfl h
   ·rename_i h1 h2 h3
    refine key x0 ?_ rfl h;cases x0 with
    | bit j q=>exact absurd rfl (h1 j q)
    | cnd k c y=>exact absurd rfl (h2 k c y)
    | _=>rfl
theorem nilW_some {W:Wx} {k:O} {r:Res} (h:nilW W k=some r):W=[]/\k=some r:=by
 cases W with
 | nil=>exact ⟨rfl,h⟩
 | cons _ _=>cases h
theorem LeX.T' {T T':XT} {H:XH} {s:St} (h:LeX T H s) (hT:∀ t x,lk t T'=some x->∃ y,lk t T=some y/\x.D=y.D):LeX T' H s:=
 ⟨fun t x ht=>let ⟨y,h1,h2⟩:=hT t x ht;by rw [h2];exact h.T t y h1,h.H⟩
theorem regX_ok {c:Cx} (hs:StepX c) (hpn:PanOk c) {stF:List Nat} {all:List Oper}:∀ (l:List Oper) (i:Nat) (σ:Sg) (k:Exit->Sg->O) (r:Res) (s:St) (κ:Nat->Bool),regX c stF all l i σ k=some r->LeX σ.T σ.H s->(∀ t x,lk t σ.T=some x->Good κ x)->
    ∃ e σ',k e σ'=some r/\σ'.N=σ.N+8 * l.length/\plB σ'.T=true/\SeqGo c.P all.toArray (fun e' s'=>e'=e/\LeX σ'.T σ'.H s') l σ.N s
 | [],i,σ,k,r,s,κ,h,hL,hG=>by
   unfold regX at h;obtain ⟨T',h1,h2,h3⟩:=plainT_some h;exact ⟨.normal,_,h1,rfl,h3,rfl,hL.T' h2⟩
 | o::rest,i,σ,k,r,s,κ,h,hL,hG=>by
   unfold regX at h;obtain ⟨g,hg,h⟩:=ob_some h;have hg':=guardX_some hg;have hall:∀ {j:Nat} {t:Tmp},(all[j]?).bind (·.dst)=some t->((all.toArray[j]?).bind (·.dst))=some t:=fun h=>by simpa using h
   have onK:∀ (T1:XT),LeX T1 σ.H s->(∀ t x,lk t T1=some x->Good κ x)->Guard all.toArray o s->(runX c σ T1 (!(stF.contains i)) o (rest.length+1) k fun σ'=>regX c stF all rest (i+1) σ' k)=some r->
       ∃ e σ',k e σ'=some r/\σ'.N=σ.N+8 * (o::rest).length/\plB σ'.T=true/\SeqGo c.P all.toArray (fun e' s'=>e'=e/\LeX σ'.T σ'.H s') (o::rest) σ.N s:=fun T1 hL1 hG1 hgd h=>by
    have hok:Vw.Ok ⟨fun t=>lk t T1,fun k=>lk k σ.H,none⟩ κ:=⟨hG1,fun key c h=>by cases h⟩;have hTT:∀ t d,(Vw.den ⟨fun t=>lk t T1,fun k=>lk k σ.H,none⟩).T t=some d->s.T t=some d:=fun t d ht=>by
     simp only [Vw.den] at ht;obtain ⟨y,hy,rfl⟩:=Option.map_eq_some_iff.1 ht;exact hL1.T t y hy
    have hHH:∀ q d,(Vw.den ⟨fun t=>lk t T1,fun k=>lk k σ.H,none⟩).H q=some d->s.H q=some d:=fun q d ht=>by
     simp only [Vw.den] at ht;obtain ⟨y,hy,rfl⟩:=Option.map_eq_some_iff.1 ht;exact hL1.H q y hy
    have nx:∀ x W,(updT o.dst x T1 fun T=>updH W σ.H fun H=>regX c stF all rest (i+1) ⟨T,H,σ.N+8⟩ k)=some r->x.pl=true->OpOk c.P o (Vw.den ⟨fun t=>lk t T1,fun k=>lk k σ.H,none⟩) σ.N x.D (WA W)->
        ∃ e σ',k e σ'=some r/\σ'.N=σ.N+8 * (o::rest).length/\plB σ'.T=true/\SeqGo c.P all.toArray (fun e' s'=>e'=e/\LeX σ'.T σ'.H s') (o::rest) σ.N s:=fun x W h hp hop=>by
     obtain ⟨T',h,hT⟩:=updT_some h;obtain ⟨H',h,hH⟩:=updH_some h;have hop:=OpOk_le (s:=s) hop hTT hHH;obtain ⟨e,σ',h1,h2,h3,h4⟩:=regX_ok hs hpn rest (i+1) _ k r (s.upd o.dst x.D (WA W) σ.N) κ h (hL1.upd hT hH) (fun t y ht=>by
      rw [hT] at ht;split at ht
      ·cases ht;exact pl_good hp
      ·exact hG1 t y ht)
     exact ⟨e,σ',h1,by rw [h2];simp only [List.length_cons];omega,h3,.inl ⟨x.D,WA W,.inl ⟨hgd,hop⟩,h4⟩⟩
    unfold runX at h;rcases hpn _ κ _ _ _ _ _ _ hok rfl h with h | ⟨x,W,h,hp,hop⟩ | ⟨v,W,h,hop⟩
    ·obtain ⟨x,W,h,hp,hop⟩:=hs _ κ _ _ _ _ _ hok h
     exact nx x W h hp (hop (fun key c h=>by cases h))
    ·exact nx x W h hp (hop (fun key c h=>by cases h))
    ·obtain ⟨H',h,hH⟩:=updH_some h
     obtain ⟨T',h1,h2,h3⟩:=plainT_some h;have hL2:LeX T1 H' (s.upd none .any (WA W) σ.N):=hL1.upd (dst:=none) (x:=.tup []) (fun t=>by simp) hH;exact ⟨_,_,h1,by simp only [List.length_cons],h3,.inr (.inr ⟨v,WA W,hgd,OpPan_le (hop (fun key c h=>by cases h)) hTT hHH,rfl,hL2.T' h2⟩)⟩
   have offK:∀ (T1:XT),LeX T1 σ.H s->(∀ t x,lk t T1=some x->Good κ x)->Off all.toArray o s->(skipX σ T1 o fun σ'=>regX c stF all rest (i+1) σ' k)=some r->
       ∃ e σ',k e σ'=some r/\σ'.N=σ.N+8 * (o::rest).length/\plB σ'.T=true/\SeqGo c.P all.toArray (fun e' s'=>e'=e/\LeX σ'.T σ'.H s') (o::rest) σ.N s:=fun T1 hL1 hG1 hgd h=>by
    unfold skipX at h;obtain ⟨T',h,hT⟩:=updT_some h;obtain ⟨e,σ',h1,h2,h3,h4⟩:=regX_ok hs hpn rest (i+1) _ k r (s.upd o.dst (X.tup []).D (WA []) σ.N) κ h (hL1.upd hT (fun q=>rfl)) (fun t y ht=>by
     rw [hT] at ht;split at ht
     ·cases ht;exact True.intro
     ·exact hG1 t y ht)
    exact ⟨e,σ',h1,by rw [h2];simp only [List.length_cons];omega,h3,.inl ⟨_,_,.inr ⟨hgd,rfl,rfl⟩,h4⟩⟩
   cases g with
   | on=>
     simp only at h hg';exact onK σ.T hL hG (.inl hg') h
   | off=>
     simp only at h hg';obtain ⟨j,w,t,e1,e2,e3⟩:=hg';exact offK σ.T hL hG ⟨j,w,t,_,e1,hall e2,hL.T t _ e3,.inl rfl⟩ h
   | kn b=>
     obtain ⟨j,w,t,v,e1,e2,e3,e4,e5⟩:=hg';cases b with
     | true=>
       have:=e4 rfl;subst this;exact onK σ.T hL hG (.inr ⟨j,v,t,e1,hall e2,hL.T t _ e3⟩) h
     | false=>
       have:=e5 rfl;subst this;exact offK σ.T hL hG ⟨j,w,t,_,e1,hall e2,hL.T t _ e3,.inr rfl⟩ h
   | cd key b t j y new=>
     simp only at h hg';obtain ⟨w,x0,e1,e2,e3,e4,e5,e6,e7,e8⟩:=hg';split at h
     ·split at h
      case h_2=>cases h
      rename_i jj q jg w' hgw;rw [e1] at hgw;obtain ⟨rfl,rfl⟩:=Prod.mk.inj (Option.some.inj hgw);have hx0:x0.D = .t (.v (.bool q)):=e5.symm;have key:∀ (T1:XT) (v:Bool),q=v->(∀ t',lk t' T1=if t=t' then some (.v (.bool v)) else lk t' σ.T)->LeX T1 σ.H s/\(∀ t x,lk t T1=some x->Good κ x)/\s.T t=some (.t (.v (.bool v))):=fun T1 v hq hT=>by
       subst hq;refine ⟨hL.T' fun t' x ht=>?_,fun t' x ht=>?_,by rw [hL.T t x0 e3,hx0]⟩
       ·rw [hT] at ht
        split at ht
        ·rename_i he;cases ht;subst he;exact ⟨x0,e3,hx0.symm⟩
        ·exact ⟨x,ht,rfl⟩
       ·rw [hT] at ht
        split at ht
        ·cases ht;exact True.intro
        ·exact hG t' x ht
      rcases br_some h with ⟨hq,h⟩ | ⟨hq,h⟩
      ·obtain ⟨T1,h,hT1⟩:=setK_some h
       obtain ⟨k1,k2,k3⟩:=key T1 true hq hT1;cases w with
       | true=>exact onK T1 k1 k2 (.inr ⟨_,_,t,e1,hall e2,k3⟩) h
       | false=>exact offK T1 k1 k2 ⟨_,_,t,_,e1,hall e2,k3,.inr rfl⟩ h
      ·obtain ⟨T1,h,hT1⟩:=setK_some h
       obtain ⟨k1,k2,k3⟩:=key T1 false hq hT1;cases w with
       | true=>exact offK T1 k1 k2 ⟨_,_,t,_,e1,hall e2,k3,.inr rfl⟩ h
       | false=>exact onK T1 k1 k2 (.inr ⟨_,_,t,e1,hall e2,k3⟩) h
     split at h
     case h_2=>cases h
     rename_i hfree;obtain ⟨T1,h,hT1⟩:=setK_some h
     -- the keys
     have hκ:∃ κ':Nat->Bool,(∀ t x,lk t T1=some x->Good κ' x)/\b=κ' key:=by
      obtain ⟨k1,k2⟩:=e8 κ (hG t x0 e3);cases hn:new with
      | false=>
        obtain ⟨g1,g2⟩:=k1 hn;refine ⟨κ,fun t' x' ht=>?_,g2⟩;rw [hT1] at ht;split at ht
        ·cases ht;exact g1
        ·exact hG t' x' ht
      | true=>
        obtain ⟨a,cc,k3⟩:=k2 hn;rw [hn] at hfree;have hf:freeT j σ.T=true:=by simpa using hfree
        obtain ⟨g1,g2⟩:=k3 (κset κ j a cc) κset1 κset0 (fun key' c' x' hx=>by
         have:=freeT_get hf t x0 e3;rw [hx] at this;simp only [usesJ,Bool.or_eq_false_iff] at this;have h1:=beq_ne this.1.1;have h2:=beq_ne this.1.2;unfold κset;rw [if_neg (by omega),if_neg (by omega)])
        refine ⟨κset κ j a cc,fun t' x' ht=>?_,g2⟩;rw [hT1] at ht;split at ht
        ·cases ht;exact g1
        ·exact (hG t' x' ht).set (freeT_get hf t' x' ht)
     obtain ⟨κ',hG1,hb⟩:=hκ;have hL1:LeX T1 σ.H s:=⟨fun t' x' ht=>by
      rw [hT1] at ht;split at ht
      ·rename_i he
       cases ht;subst he;rw [e5];exact hL.T t x0 e3
      ·exact hL.T t' x' ht,hL.H⟩
     have hok:Vw.Ok ⟨fun t=>lk t T1,fun k=>lk k σ.H,some (key,b)⟩ κ':=⟨hG1,fun key' c' h=>by cases h;exact hb⟩;have hle:∀ {x:D} {W:Wr},OpOk c.P o (Vw.den ⟨fun t=>lk t T1,fun k=>lk k σ.H,some (key,b)⟩) σ.N x W->OpOk c.P o s σ.N x W:=fun hop=>OpOk_le hop (fun t d ht=>by
      simp only [Vw.den] at ht;obtain ⟨y,hy,rfl⟩:=Option.map_eq_some_iff.1 ht;exact hL1.T t y hy) (fun q d ht=>by
      simp only [Vw.den] at ht;obtain ⟨y,hy,rfl⟩:=Option.map_eq_some_iff.1 ht;exact hL1.H q y hy)
     have hTt:=hL.T t x0 e3;have hoff:b=false->StepOk c.P all.toArray o s σ.N (.tup []) []:=fun hb'=>.inr ⟨⟨j,w,t,_,e1,hall e2,hTt,e7 hb'⟩,rfl,rfl⟩
     have hgd:b=true->Guard all.toArray o s:=fun hb'=>.inr ⟨j,w,t,e1,hall e2,by rw [hTt,e6 hb']⟩
     split at h
     ·-- it runs under a condition
      obtain ⟨x,W,h,hp,hop⟩:=hs _ κ' _ _ _ _ _ hok h;obtain ⟨hW,h9⟩:=nilW_some h;subst hW;clear h;obtain ⟨T',h,hT⟩:=updT_some h9;have hG':∀ t y,lk t T'=some y->Good κ' y:=fun t' y' ht=>by
       rw [hT] at ht;split at ht
       ·cases ht
        refine ⟨hb,?_⟩;cases x with
        | bit j q=>cases hp
        | cnd k c y=>cases hp
        | _=>exact True.intro
       ·exact hG1 t' y' ht
      obtain ⟨e,σ',h1,h2,h3,h4⟩:=regX_ok hs hpn rest (i+1) _ k r (s.upd o.dst (X.cnd key b x).D (WA []) σ.N) κ' h (hL1.upd hT (fun q=>rfl)) hG';refine ⟨e,σ',h1,by rw [h2];simp only [List.length_cons];omega,h3,.inl ⟨_,_,?_,h4⟩⟩;cases hbb:b with
      | false=>rw [hbb] at hoff;exact hoff rfl
      | true=>rw [hbb] at hgd hop hle;exact .inl ⟨hgd rfl,hle (hop (fun key' c' h=>by cases h;rfl))⟩
     ·-- two ways
      rcases br_some h with ⟨hb',h⟩ | ⟨hb',h⟩
      ·obtain ⟨x,W,h,hp,hop⟩:=hs _ κ' _ _ _ _ _ hok h
       obtain ⟨T',h,hT⟩:=updT_some h;obtain ⟨H',h,hH⟩:=updH_some h;obtain ⟨e,σ',h1,h2,h3,h4⟩:=regX_ok hs hpn rest (i+1) _ k r (s.upd o.dst x.D (WA W) σ.N) κ' h (hL1.upd hT hH) (fun t y ht=>by
        rw [hT] at ht;split at ht
        ·cases ht;exact pl_good hp
        ·exact hG1 t y ht)
       exact ⟨e,σ',h1,by rw [h2];simp only [List.length_cons];omega,h3,.inl ⟨x.D,WA W,.inl ⟨hgd hb',hle (hop (fun key' c' h=>by cases h;exact hb'))⟩,h4⟩⟩
      ·obtain ⟨T',h,hT⟩:=updT_some h
       obtain ⟨e,σ',h1,h2,h3,h4⟩:=regX_ok hs hpn rest (i+1) _ k r (s.upd o.dst (X.tup []).D (WA []) σ.N) κ' h (hL1.upd hT (fun q=>rfl)) (fun t y ht=>by
        rw [hT] at ht;split at ht
        ·cases ht;exact True.intro
        ·exact hG1 t y ht)
       exact ⟨e,σ',h1,by rw [h2];simp only [List.length_cons];omega,h3,.inl ⟨_,_,hoff hb',h4⟩⟩
end Go.Ax
/- A region that draws its order. -/
namespace Go.Ax
open Alg
open Go.RowKit Go.Ab
def mapD (rs:Rx):Rs:=rs.map fun p=>(p.1.D,WA p.2)
theorem onlyD_get {t:Tmp} {j:Nat}:∀ {l:List Oper} {p:Nat},onlyD t j p l=true->∀ q o,l[q]?=some o->o.dst=some t->p+q=j
 | [],_,_,q,o,h,_=>by simp at h
 | o'::l,p,hu,q,o,h,hd=>by
   unfold onlyD at hu;have rest:onlyD t j (p+1) l=true->∀ q',q=q'+1->p+q=j:=fun hr q' e=>by
    subst e;have:=onlyD_get hr q' o (by simpa using h) hd;omega
   cases q with
   | succ q'=>
     split at hu
     ·split at hu
      ·cases hu
      ·exact rest hu q' rfl
     ·exact rest hu q' rfl
   | zero=>
     simp at h;subst h;rw [hd] at hu;simp only at hu;split at hu
     ·cases hu
     ·rename_i hb
      simp only [Bool.and_eq_false_iff,Bool.not_eq_false'] at hb;rcases hb with hb | hb
      ·simp at hb
      ·have:=Nat.eq_of_beq_eq_true hb;omega
section
variable {ops:Array Oper} {pre kl:List (List Nat)} {fr:Nat}
theorem updV_T {σ:Vw} {dst:Option Tmp} {x:X} {W:Wx} (t:Nat):(updV σ dst x W).T t=if dst=some t then some x else σ.T t:=by
 unfold updV;cases dst with
 | none=>simp
 | some d=>
   simp only;by_cases e:d=t
   ·subst e;simp
   ·rw [ne_beq e];simp [e]
theorem stX_D {S:Nat->Bool}:∀ (rs:Rx) (j:Nat) (σ:Vw) (s:St),(∀ t x,σ.T t=some x->s.T t=some x.D)->(∀ k o,σ.H k=some o->s.H k=some o.A)->
    (∀ t x,(stX (Region.dstOf ops) S j rs σ).T t=some x->(stOf ops fr S j (mapD rs) s).T t=some x.D)/\(∀ k o,(stX (Region.dstOf ops) S j rs σ).H k=some o->(stOf ops fr S j (mapD rs) s).H k=some o.A)
 | [],j,σ,s,h1,h2=>⟨h1,h2⟩
 | (x,W)::rs,j,σ,s,h1,h2=>by
   unfold stX;simp only [mapD,List.map_cons];unfold stOf;cases hS:S j with
   | false=>simp only [Bool.false_eq_true,if_false];exact stX_D rs (j+1) σ s h1 h2
   | true=>
     simp only [if_true];refine stX_D rs (j+1) _ _ (fun t y hy=>?_) (fun k o hk=>?_)
     ·rw [updV_T] at hy
      simp only [St.upd];split at hy
      ·rename_i e;cases hy;rw [if_pos e]
      ·rename_i e;rw [if_neg e];exact h1 t y hy
     ·simp only [updV,lk_eq] at hk
      simp only [St.upd,look_WA];cases hl:Ab.look k W with
      | none=>simp only [hl] at hk;exact h2 k o hk
      | some o'=>simp only [hl] at hk;simp [hk]
theorem stX_src {dst:Nat->Option Tmp} {S:Nat->Bool}:∀ (rs:Rx) (j:Nat) (σ:Vw) (t:Nat) (x:X),(stX dst S j rs σ).T t=some x->(∃ p ∈ rs,p.1=x)\/σ.T t=some x
 | [],j,σ,t,x,h=>.inr h
 | (y,W)::rs,j,σ,t,x,h=>by
   unfold stX at h;split at h
   ·rcases stX_src rs (j+1) _ t x h with ⟨p,hp,e⟩ | h
    ·exact .inl ⟨p,List.mem_cons_of_mem _ hp,e⟩
    ·rw [updV_T] at h
     split at h
     ·cases h;exact .inl ⟨_,List.mem_cons_self ..,rfl⟩
     ·exact .inr h
   ·rcases stX_src rs (j+1) _ t x h with ⟨p,hp,e⟩ | h
    ·exact .inl ⟨p,List.mem_cons_of_mem _ hp,e⟩
    ·exact .inr h
theorem stX_keep {dst:Nat->Option Tmp} {S:Nat->Bool} {t:Nat}:∀ (rs:Rx) (p:Nat) (σ:Vw),(∀ q,p<=q->dst q≠some t)->(stX dst S p rs σ).T t=σ.T t
 | [],p,σ,_=>rfl
 | (y,W)::rs,p,σ,h=>by
   unfold stX;rw [stX_keep rs (p+1) _ (fun q hq=>h q (by omega))];split
   ·rw [updV_T,if_neg (h p (Nat.le_refl _))]
   ·rfl
theorem stX_at {dst:Nat->Option Tmp} {S:Nat->Bool} {t j:Nat} (hS:S j=true) (hd:dst j=some t) (hu:∀ q,q≠j->dst q≠some t):∀ (rs:Rx) (p:Nat) (σ:Vw) (x:X) (W:Wx),p<=j->rs[j - p]?=some (x,W)->(stX dst S p rs σ).T t=some x
 | [],p,σ,x,W,_,h=>by simp at h
 | (y,W')::rs,p,σ,x,W,hp,h=>by
   unfold stX;by_cases e:p=j
   ·subst e
    simp only [Nat.sub_self,List.getElem?_cons_zero,Option.some.injEq,Prod.mk.injEq] at h;obtain ⟨rfl,rfl⟩:=h;rw [hS];simp only;rw [stX_keep rs (p+1) _ (fun q hq=>hu q (by omega)),updV_T,if_pos hd]
   ·refine stX_at hS hd hu rs (p+1) _ x W (by omega) ?_
    rw [show j - p=(j - (p+1))+1 by omega] at h;simpa using h
theorem ctxX_D {i:Nat} {rs:Rx} {σ:Vw} {s:St} {g:Option (Nat×Bool)} (h1:∀ t x,σ.T t=some x->s.T t=some x.D) (h2:∀ k o,σ.H k=some o->s.H k=some o.A):
    (∀ t d,(ctxX ops pre kl fr i rs σ g).den.T t=some d->(ctx ops pre kl fr i (mapD rs) s).T t=some d)/\(∀ k o,(ctxX ops pre kl fr i rs σ g).den.H k=some o->(ctx ops pre kl fr i (mapD rs) s).H k=some o):=by
 obtain ⟨q1,q2⟩:=stX_D (ops:=ops) (fr:=fr) (S:=fun j=>(pre.getD i []).contains j) rs 0 σ s h1 h2;refine ⟨fun t d h=>?_,fun k o h=>?_⟩
 ·simp only [Vw.den,ctxX] at h
  obtain ⟨x,hx,rfl⟩:=Option.map_eq_some_iff.1 h;simp only [ctx];split at hx
  ·cases hx
  ·rename_i hf
   rw [if_neg (by rw [hf];simp)];exact q1 t x hx
 ·simp only [Vw.den,ctxX] at h
  obtain ⟨x,hx,rfl⟩:=Option.map_eq_some_iff.1 h;simp only [ctx];split at hx
  ·cases hx
  ·rename_i hf
   rw [if_neg (by rw [hf];simp)];exact q2 k x hx
theorem ctxX_src {i:Nat} {rs:Rx} {σ:Vw} {g:Option (Nat×Bool)} {t:Nat} {x:X} (h:(ctxX ops pre kl fr i rs σ g).T t=some x):(∃ p ∈ rs,p.1=x)\/σ.T t=some x:=by
 simp only [ctxX] at h;split at h
 ·cases h
 ·exact stX_src rs 0 σ t x h
theorem putL_map {α β:Type} (f:α->β):∀ (l:List α) (j:Nat) (x y:α),l[j]?=some y->f x=f y->(putL x j l).map f=l.map f
 | [],_,_,_,h,_=>by simp at h
 | z::l,0,x,y,h,e=>by simp at h;subst h;simp [putL,e]
 | z::l,j+1,x,y,h,e=>by simp only [putL,List.map_cons];rw [putL_map f l j x y (by simpa using h) e]
theorem putL_nil {α:Type} (x:α) (j:Nat):putL x j []=[]:=by cases j <;> rfl
theorem putL_len {α:Type}:∀ (l:List α) (j:Nat) (x:α),(putL x j l).length=l.length
 | [],j,x=>by rw [putL_nil]
 | _::_,0,_=>rfl
 | _::l,j+1,x=>by simp only [putL,List.length_cons];rw [putL_len l j x]
theorem putL_mem {α:Type}:∀ (l:List α) (j:Nat) (x z:α),z ∈ putL x j l->z=x\/z ∈ l
 | [],j,x,z,h=>by rw [putL_nil] at h;cases h
 | y::l,0,x,z,h=>by
   rcases List.mem_cons.1 h with h | h
   ·exact .inl h
   ·exact .inr (List.mem_cons_of_mem _ h)
 | y::l,j+1,x,z,h=>by
   rcases List.mem_cons.1 h with h | h
   ·exact .inr (by rw [h];exact List.mem_cons_self ..)
   ·rcases putL_mem l j x z h with h | h
    ·exact .inl h
    ·exact .inr (List.mem_cons_of_mem _ h)
theorem freeR_get {j:Nat}:∀ {rs:Rx},freeR j rs=true->∀ p ∈ rs,usesJ j p.1=false
 | [],_,p,h=>by cases h
 | (x,W)::l,hf,p,h=>by
   unfold freeR at hf;split at hf
   ·cases hf
   ·rename_i hu
    rcases List.mem_cons.1 h with h | h
    ·rw [h];exact hu
    ·exact freeR_get hf p h
theorem all_WA {W:Wx} {f:Nat->Bool} (h:W.all (fun p=>f p.1)=true):((WA W).all fun p=>f p.1)=true:=by
 rw [List.all_eq_true] at h ⊢;intro p hp;obtain ⟨q,hq,rfl⟩:=List.mem_map.1 hp;exact h q hq
theorem nilRs_get:∀ {rs:Rx},nilRs rs=true->∀ q ∈ mapD rs,q.2=[]
 | [],_,q,hq=>by cases hq
 | (x,[])::l,h,q,hq=>by
   unfold nilRs at h;rcases List.mem_cons.1 hq with rfl | hq
   ·rfl
   ·exact nilRs_get h q hq
 | (x,_::_)::l,h,q,hq=>by cases h
theorem lastP_get {n i:Nat} (h:lastP pre n i=true):∀ p,i < p->p < n->i ∈ pre.getD p []:=fun p h1 h2=>by
 have:=List.all_eq_true.1 h p (List.mem_range.2 h2);rw [Bool.or_eq_true] at this;rcases this with h | h
 ·have:=Nat.le_of_ble_eq_true h;omega
 ·exact List.contains_iff_mem.1 h
abbrev DrPost (ops:Array Oper) (fr:Nat) (s:St) (k:Rx->O) (K:Exit->Sg->O) (r:Res) (n:Nat) (e:Exit) (s':St):Prop:=
 (e = .normal/\∃ rs',k rs'=some r/\rs'.length=n/\s'=stOf ops fr (fun _=>true) 0 (mapD rs') s)\/∃ σ',K e σ'=some r/\σ'.N=fr+8 * ops.size/\LeX σ'.T σ'.H s'
theorem drX_ok {c:Cx} (hs:StepX c) (hpn:PanOk c) {stF:List Nat} {σ:Vw} {s:St} {HL:XH} {K:Exit->Sg->O} (h1:∀ t x,σ.T t=some x->s.T t=some x.D) (h2:∀ k o,σ.H k=some o->s.H k=some o.A) (hpl:∀ t x,σ.T t=some x->x.pl=true) (hHL:∀ k o,lk k HL=some o->s.H k=some o.A) {n:Nat}:
    ∀ (l:List Oper) (i:Nat) (rs:Rx) (k:Rx->O) (r:Res) (κ:Nat->Bool),drX c stF ops pre kl fr σ HL K l i rs k=some r->rs.length=i->n=i+l.length->(∀ p ∈ rs,Good κ p.1)->
    AnyGoP c.P ops pre kl fr s (DrPost ops fr s k K r n) l i (mapD rs)
 | [],i,rs,k,r,κ,h,hl,hn,hG=>.inl ⟨rfl,rs,h,by rw [hl,hn];rfl,rfl⟩
 | o::rest,i,rs,k,r,κ,h,hl,hn,hG=>by
   have hn':n=i+1+rest.length:=by rw [hn,List.length_cons];omega
   unfold drX at h;obtain ⟨g,hg,h⟩:=ob_some h;have hg':=guardX_some hg;have hall:∀ {j:Nat} {t:Tmp},(ops.toList[j]?).bind (·.dst)=some t->((ops[j]?).bind (·.dst))=some t:=fun h=>by simpa using h
   have good:∀ {κ:Nat->Bool} {rs:Rx},(∀ p ∈ rs,Good κ p.1)->∀ {g:Option (Nat×Bool)} t x,(ctxX ops pre kl fr i rs σ g).T t=some x->Good κ x:=fun hG _ t x hx=>by
    rcases ctxX_src hx with ⟨p,hp,rfl⟩ | hx
    ·exact hG p hp
    ·exact pl_good (hpl t x hx)
   have push:∀ {κ:Nat->Bool} {rs:Rx},(∀ p ∈ rs,Good κ p.1)->∀ {x:X} {W:Wx},Good κ x->∀ p ∈ rs++[(x,W)],Good κ p.1:=fun hG _ _ hx p hp=>by
    rcases List.mem_append.1 hp with hp | hp
    ·exact hG p hp
    ·rw [List.mem_singleton.1 hp];exact hx
   have hcx:=fun (rs:Rx) (g:Option (Nat×Bool))=>ctxX_D (ops:=ops) (pre:=pre) (kl:=kl) (fr:=fr) (i:=i) (rs:=rs) (g:=g) h1 h2
   have runK:∀ (rs:Rx),rs.length=i->(∀ p ∈ rs,Good κ p.1)->Guard ops o (ctx ops pre kl fr i (mapD rs) s)->(runD c stF ops pre kl fr σ HL K o i rs fun rs=>drX c stF ops pre kl fr σ HL K rest (i+1) rs k)=some r->
       AnyGoP c.P ops pre kl fr s (DrPost ops fr s k K r n) (o::rest) i (mapD rs):=fun rs hl hG hg' h=>by
    unfold runD at h;have hok:Vw.Ok (ctxX ops pre kl fr i rs σ none) κ:=⟨good hG,fun key c h=>by cases h⟩;have nx:∀ x W,(match W.all (fun p=>keyIn kl fr i p.1) with
     | true=>drX c stF ops pre kl fr σ HL K rest (i+1) (rs++[(x,W)]) k
     | false=>none)=some r->x.pl=true->OpOk c.P o (Vw.den (ctxX ops pre kl fr i rs σ none)) (fr+8 * i) x.D (WA W)->AnyGoP c.P ops pre kl fr s (DrPost ops fr s k K r n) (o::rest) i (mapD rs):=fun x W h hp hop=>by
     split at h
     case h_2=>cases h
     rename_i hW;have e3:=drX_ok hs hpn h1 h2 hpl hHL rest (i+1) _ k r κ h (by simp [hl]) hn' (push hG (pl_good hp));refine .inl ⟨x.D,WA W,.inl ⟨hg',OpOk_le hop (hcx rs none).1 (hcx rs none).2⟩,all_WA hW,?_⟩;simpa [mapD] using e3
    rcases hpn _ κ _ _ _ _ _ _ hok rfl h with h | ⟨x,W,h,hp,hop⟩ | ⟨v,W,h,hop⟩
    ·obtain ⟨x,W,h,hp,hop⟩:=hs _ κ _ _ _ _ _ hok h
     exact nx x W h hp (hop (fun key c h=>by cases h))
    ·exact nx x W h hp (hop (fun key c h=>by cases h))
    ·split at h
     case h_2=>cases h
     rename_i hb;rw [Bool.and_eq_true] at hb;obtain ⟨H',h,hH⟩:=updH_some h;have hL0:LeX [] HL ⟨fun _=>none,s.H,s.nm⟩:=⟨(fun t x ht=>by cases ht),hHL⟩;exact .inr ⟨v,WA W,hg',OpPan_le (hop (fun key c h=>by cases h)) (hcx rs none).1 (hcx rs none).2,lastP_get hb.1,nilRs_get hb.2,.inr ⟨_,h,rfl,hL0.upd (dst:=none) (x:=.tup []) (fun t=>by simp) hH⟩⟩
   have skipK:∀ (rs:Rx),rs.length=i->(∀ p ∈ rs,Good κ p.1)->Off ops o (ctx ops pre kl fr i (mapD rs) s)->drX c stF ops pre kl fr σ HL K rest (i+1) (rs++[(.tup [],[])]) k=some r->
       AnyGoP c.P ops pre kl fr s (DrPost ops fr s k K r n) (o::rest) i (mapD rs):=fun rs hl hG hg' h=>by
    have e3:=drX_ok hs hpn h1 h2 hpl hHL rest (i+1) _ k r κ h (by simp [hl]) hn' (push hG True.intro);refine .inl ⟨.tup [],[],.inr ⟨hg',rfl,rfl⟩,rfl,?_⟩;simpa [mapD,X.D,Ds,WA] using e3
   cases g with
   | on=>
     simp only at h hg';exact runK rs hl hG (.inl hg') h
   | off=>
     simp only at h hg';obtain ⟨j,w,t,z1,z2,z3⟩:=hg';exact skipK rs hl hG ⟨j,w,t,_,z1,hall z2,(hcx rs none).1 t _ (den_T z3),.inl rfl⟩ h
   | kn b=>
     obtain ⟨j,w,t,v,z1,z2,z3,z4,z5⟩:=hg';cases b with
     | true=>
       have:=z4 rfl;subst this;exact runK rs hl hG (.inr ⟨j,v,t,z1,hall z2,(hcx rs none).1 t _ (den_T z3)⟩) h
     | false=>
       have:=z5 rfl;subst this;exact skipK rs hl hG ⟨j,w,t,_,z1,hall z2,(hcx rs none).1 t _ (den_T z3),.inr rfl⟩ h
   | cd key b t j y new=>
     simp only at h hg';obtain ⟨w,x0,z1,z2,z3,z4,z5,z6,z7,z8⟩:=hg';split at h
     ·split at h
      case h_2=>cases h
      rename_i jj q jg w' hgw hon;rw [z1] at hgw;obtain ⟨rfl,rfl⟩:=Prod.mk.inj (Option.some.inj hgw);simp only [Bool.and_eq_true] at hon;obtain ⟨honly,hpre⟩:=hon;have hx0:x0.D = .t (.v (.bool q)):=z5.symm;have hdst:Region.dstOf ops j=some t:=by unfold Region.dstOf;exact hall z2
      have hTt:(ctx ops pre kl fr i (mapD rs) s).T t=some (.t (.v (.bool q))):=by rw [(hcx rs none).1 t _ (den_T z3),hx0]
      have key:∀ (v:Bool),q=v->∀ {f:Rx->O},setR j (.v (.bool v)) rs f=some r->∃ rs',f rs'=some r/\rs'.length=i/\(∀ p ∈ rs',Good κ p.1)/\mapD rs'=mapD rs:=fun v hq f h=>by
       subst hq;unfold setR at h;split at h
       case h_2=>cases h
       rename_i xj Wj hj;have hxx:xj=x0:=by
        have hz:=z3;simp only [ctxX] at hz;split at hz
        ·cases hz
        ·rw [stX_at (j:=j) hpre hdst (fun q hq he=>hq (by
          unfold Region.dstOf at he;obtain ⟨oq,ho1,ho2⟩:=Option.bind_eq_some_iff.1 he;have:=onlyD_get honly q oq (by simpa using ho1) ho2;omega)) rs 0 σ xj Wj (Nat.zero_le _) (by simpa using hj)] at hz
         cases hz;rfl
       subst hxx;refine ⟨_,h,by rw [putL_len];exact hl,fun p hp=>?_,putL_map _ rs j _ _ hj (by simp [hx0,X.D])⟩;rcases putL_mem _ _ _ _ hp with rfl | hp
       ·exact True.intro
       ·exact hG p hp
      rcases br_some h with ⟨hq,h⟩ | ⟨hq,h⟩
      ·obtain ⟨rs',h,k1,k2,k3⟩:=key true hq h
       rw [hq] at hTt;rw [← k3] at hTt ⊢;cases w with
       | true=>exact runK rs' k1 k2 (.inr ⟨_,_,t,z1,hall z2,hTt⟩) h
       | false=>exact skipK rs' k1 k2 ⟨_,_,t,_,z1,hall z2,hTt,.inr rfl⟩ h
      ·obtain ⟨rs',h,k1,k2,k3⟩:=key false hq h
       rw [hq] at hTt;rw [← k3] at hTt ⊢;cases w with
       | true=>exact skipK rs' k1 k2 ⟨_,_,t,_,z1,hall z2,hTt,.inr rfl⟩ h
       | false=>exact runK rs' k1 k2 (.inr ⟨_,_,t,z1,hall z2,hTt⟩) h
     split at h
     case h_2=>cases h
     rename_i hchk;simp only [Bool.and_eq_true] at hchk;obtain ⟨hfree,honly,hpre⟩:=hchk;unfold setR at h;split at h
     case h_2=>cases h
     rename_i xj Wj hj
     -- what the test lies in is what was looked up
     have hdst:Region.dstOf ops j=some t:=by unfold Region.dstOf;exact hall z2
     have hx0:xj=x0:=by
      have hz:=z3;simp only [ctxX] at hz;split at hz
      ·cases hz
      ·rw [stX_at (j:=j) hpre hdst (fun q hq he=>hq (by
        unfold Region.dstOf at he;obtain ⟨oq,ho1,ho2⟩:=Option.bind_eq_some_iff.1 he;have:=onlyD_get honly q oq (by simpa using ho1) ho2;omega)) rs 0 σ xj Wj (Nat.zero_le _) (by simpa using hj)] at hz
       cases hz;rfl
     subst hx0;have hmap:mapD (putL (y,Wj) j rs)=mapD rs:=putL_map _ rs j _ _ hj (by simp [z5]);have hlen:(putL (y,Wj) j rs).length=i:=by rw [putL_len];exact hl
     have hκ:∃ κ':Nat->Bool,(∀ p ∈ putL (y,Wj) j rs,Good κ' p.1)/\b=κ' key:=by
      obtain ⟨k1,k2⟩:=z8 κ (good hG t xj z3);cases hn:new with
      | false=>
        obtain ⟨g1,g2⟩:=k1 hn;refine ⟨κ,fun p hp=>?_,g2⟩;rcases putL_mem _ _ _ _ hp with rfl | hp
        ·exact g1
        ·exact hG p hp
      | true=>
        obtain ⟨a,cc,k3⟩:=k2 hn;rw [hn] at hfree;have hf:freeR j rs=true:=by simpa using hfree
        have hxf:usesJ j xj=false:=freeR_get hf _ (List.mem_iff_getElem?.2 ⟨j,hj⟩);obtain ⟨g1,g2⟩:=k3 (κset κ j a cc) κset1 κset0 (fun key' c' x' hx=>by
         rw [hx] at hxf;simp only [usesJ,Bool.or_eq_false_iff] at hxf;have h1:=beq_ne hxf.1.1;have h2:=beq_ne hxf.1.2;unfold κset;rw [if_neg (by omega),if_neg (by omega)])
        refine ⟨κset κ j a cc,fun p hp=>?_,g2⟩;rcases putL_mem _ _ _ _ hp with rfl | hp
        ·exact g1
        ·exact (hG p hp).set (freeR_get hf p hp)
     obtain ⟨κ',hG1,hb⟩:=hκ;have hok:Vw.Ok (ctxX ops pre kl fr i (putL (y,Wj) j rs) σ (some (key,b))) κ':=⟨good hG1,fun key' c' h=>by cases h;exact hb⟩;have hTt:(ctx ops pre kl fr i (mapD rs) s).T t=some xj.D:=(hcx rs none).1 t _ (den_T z3);have hoff:b=false->StepOk c.P ops o (ctx ops pre kl fr i (mapD rs) s) (fr+8 * i) (.tup []) []:=fun hb'=>.inr ⟨⟨j,w,t,_,z1,hall z2,hTt,z7 hb'⟩,rfl,rfl⟩
     have hgd:b=true->Guard ops o (ctx ops pre kl fr i (mapD rs) s):=fun hb'=>.inr ⟨j,w,t,z1,hall z2,by rw [hTt,z6 hb']⟩
     have hle:∀ {x:D} {W:Wr},OpOk c.P o (Vw.den (ctxX ops pre kl fr i (putL (y,Wj) j rs) σ (some (key,b)))) (fr+8 * i) x W->OpOk c.P o (ctx ops pre kl fr i (mapD rs) s) (fr+8 * i) x W:=fun hop=>by
      have:=hcx (putL (y,Wj) j rs) (some (key,b));rw [hmap] at this;exact OpOk_le hop this.1 this.2
     have hsnoc:∀ (x:X) (W:Wx),mapD (putL (y,Wj) j rs++[(x,W)])=mapD rs++[(x.D,WA W)]:=fun x W=>by
      have:mapD (putL (y,Wj) j rs++[(x,W)])=mapD (putL (y,Wj) j rs)++[(x.D,WA W)]:=by simp [mapD]
      rw [this,hmap]
     split at h
     ·obtain ⟨x,W,h,hp,hop⟩:=hs _ κ' _ _ _ _ _ hok h
      obtain ⟨hW,h9⟩:=nilW_some h;subst hW;clear h;have e3:=drX_ok hs hpn h1 h2 hpl hHL rest (i+1) _ k r κ' h9 (by simp [hlen]) hn' (push hG1 (by
       refine ⟨hb,?_⟩;cases x with
       | bit j q=>cases hp
       | cnd k c y=>cases hp
       | _=>exact True.intro))
      rw [hsnoc] at e3;refine .inl ⟨(X.cnd key b x).D,WA [],?_,rfl,e3⟩;cases hbb:b with
      | false=>rw [hbb] at hoff;exact hoff rfl
      | true=>rw [hbb] at hgd hop hle;exact .inl ⟨hgd rfl,hle (hop (fun key' c' h=>by cases h;rfl))⟩
     ·rcases br_some h with ⟨hb',h⟩ | ⟨hb',h⟩
      ·obtain ⟨x,W,h,hp,hop⟩:=hs _ κ' _ _ _ _ _ hok h
       split at h
       case h_2=>cases h
       rename_i hW;have e3:=drX_ok hs hpn h1 h2 hpl hHL rest (i+1) _ k r κ' h (by simp [hlen]) hn' (push hG1 (pl_good hp));rw [hsnoc] at e3;exact .inl ⟨x.D,WA W,.inl ⟨hgd hb',hle (hop (fun key' c' h=>by cases h;exact hb'))⟩,all_WA hW,e3⟩
      ·have e3:=drX_ok hs hpn h1 h2 hpl hHL rest (i+1) _ k r κ' h (by simp [hlen]) hn' (push hG1 True.intro)
       rw [hsnoc] at e3;exact .inl ⟨_,_,hoff hb',rfl,e3⟩
end
theorem foldRx_some {ops:Array Oper} {fr:Nat}:∀ (l:List Oper) (i:Nat) (rs:Rx) (T:XT) (H:XH) (k:XT->XH->O) (r:Res) (s:St),(∀ q o,l[q]?=some o->Region.dstOf ops (i+q)=o.dst)->l.length=rs.length->foldRx l rs T H k=some r->LeX T H s->
    ∃ T' H',k T' H'=some r/\LeX T' H' (stOf ops fr (fun _=>true) i (mapD rs) s)
 | [],i,[],T,H,k,r,s,_,_,h,hL=>⟨T,H,h,hL⟩
 | [],i,_::_,T,H,k,r,s,_,hl,h,hL=>by cases hl
 | _::_,i,[],T,H,k,r,s,_,hl,h,hL=>by cases hl
 | o::l,i,(x,W)::rs,T,H,k,r,s,hd,hl,h,hL=>by
   unfold foldRx at h;obtain ⟨T',h,hT⟩:=updT_some h;obtain ⟨H',h,hH⟩:=updH_some h;have hd0:=hd 0 o rfl;rw [Nat.add_zero] at hd0;obtain ⟨T2,H2,e1,e2⟩:=foldRx_some (fr:=fr) l (i+1) rs T' H' k r (s.upd o.dst x.D (WA W) (fr+8 * i)) (fun q o' hq=>by have:=hd (q+1) o' (by simpa using hq);rwa [show i+(q+1)=i+1+q by omega] at this) (by simpa using hl) h (hL.upd hT hH);refine ⟨T2,H2,e1,?_⟩;simp only [mapD,List.map_cons];unfold stOf;rw [hd0];simpa [mapD] using e2
end Go.Ax
