/- The abstract machine, run: data with types, states as lists, regions. Conditions are in the theorems. -/
import Derived.Test.YtihfefggdgiodaaGreatDoorE3
open Bool renaming and_eq_true->bA,or_eq_false_iff->ML
open List renaming all_eq_true->cT,flatMap->bZ,length->dX,length_cons->dK,map_append->l7,map_cons->gL,mem_cons->eD,mem_cons_of_mem->gF,mem_cons_self->jF,range->fJ,replicate->dA
open Nat renaming beq->aX,ble->j3,blt->nD,eq_of_beq_eq_true->bH
open Option renaming bind_eq_some_iff->jK,map_eq_some_iff->b9
open Option.some renaming inj->eX
open Prod.mk renaming inj->aWu
open True renaming intro->rC
open UInt8 renaming toNat->gZ
/- The abstract machine, run: data with types, states as lists, and one function that runs code on them and says what is left to be shown. -/
namespace Go.Ax
open Go.RowKit Go.Ab
inductive Ex where
 |mk (op n:Int) (kids:List Ex)
def Ex.op:Ex->Int|.mk a _ _=>a
def Ex.num:Ex->Int|.mk _ a _=>a
def Ex.kids:Ex->List Ex|.mk _ _ a=>a
inductive Ty where
 |i (k:IntKind)
 |u8|bo|tx|ex|un
 |sl (e:Ty)
 |pr (x y:Ty)
def Ty.V:Ty->Type
 |.i _=>Int
 |.u8=>UInt8
 |.bo=>Bool
 |.tx=>List UInt8
 |.ex=>Ex
 |.un=>Unit
 |.sl e=>List e.V
 |.pr x y=>x.V×y.V
def eS:(a b:Ty)->Option (PLift (a=b))
 |.i k,.i k'=>if h:k=k' then some ⟨by rw[h]⟩else none
 |.u8,.u8=>some ⟨rfl⟩
 |.bo,.bo=>some ⟨rfl⟩
 |.tx,.tx=>some ⟨rfl⟩
 |.ex,.ex=>some ⟨rfl⟩
 |.un,.un=>some ⟨rfl⟩
 |.sl a,.sl b=>match eS a b with|some ⟨h⟩=>some ⟨by rw[h]⟩|none=>none
 |.pr a b,.pr c d=>match eS a c with
   |some ⟨h⟩=>match eS b d with|some ⟨g⟩=>some ⟨by rw[h,g]⟩|none=>none
   |none=>none
 |_,_=>none
def jB{a b:Ty}(h:a=b)(x:a.V):b.V:=h ▸ x
def Ty.size:Ty->Nat
 |.pr a b=>a.size+b.size
 |.ex=>3
 |.un=>0
 |_=>1
def Ty.one:Ty->Bool
 |.pr _ _=>false
 |.ex=>false
 |.un=>false
 |_=>true
def Ty.zero:(τ:Ty)->τ.V
 |.i _=>(0:Int)
 |.u8=>(0:UInt8)
 |.bo=>false
 |.tx=>([]:List UInt8)
 |.ex=>Ex.mk 0 0 []
 |.un=>()
 |.sl _=>[]
 |.pr a b=>(a.zero,b.zero)
inductive X where
 |e (τ:Ty) (x:τ.V)
 |dE
 |agg (xs:List X)
 |aT (xs:List X)
 |own (k:Nat)
 |ref (k off:Nat)
 |rr (k i j s:Nat)
 |pt (τ:Ty) (y:τ.V) (j:Nat)
 |fn (f:FuncId) (xs:List X)
 |v (val:Value)
 |bit (j:Nat) (q:Bool)
 |eO (key:Nat) (c:Bool) (x:X)
 |sub (k i:Nat)
 |gM (k i j:Nat)
 |vw (k i n s:Nat)
 |via (k j:Nat)
 |iO (val:Value)
inductive XO where
 |box (e:TypeId) (xs:List X)
 |row (e:TypeId) (τ:Ty) (l:List τ.V) (st:Bool)
 |nest (e e':TypeId) (τ:Ty) (l:List (List τ.V))
 |mp (τ:Ty) (l:List (τ.V×X))
 |it (s:List UInt8) (pos:Int)
 |bI (e e':TypeId) (κ ρ:Ty) (l:List (List κ.V×ρ.V)) (ln:Option (Int×Nat))
abbrev XT:=List (Nat×X)
abbrev XH:=List (Nat×XO)
abbrev Wx:=List (Nat×Option XO)
abbrev aH:=X×XH
abbrev O:=Option aH
structure Sg where
 T:XT
 H:XH
 N:Nat
abbrev bO:=List X->XH->Option (Bool×aH)
abbrev tW:=List X->XH->Option (Bool×Option Bool×aH×aH)
structure Cx where
 P:Program
 ex:TypeId
 G:List (Nat×bO)
 Gp:List (Nat×tW)
class aA where
 br:Bool->O->O->O
 ck:Bool->O->O
 gx:{α:Type}->List α->Int->(α->O)->O
 gn:{α:Type}->List α->Nat->(α->O)->O
 gc:{α:Type}->Bool->α->List α->Int->(α->O)->O
open aA
def br0(b:Bool)(x y:O):O:=match b with|true=>x|false=>y
def ck0(b:Bool)(x:O):O:=match b with|true=>x|false=>none
def vK{α:Type}(l:List α)(n:Int)(k:α->O):O:=match(if n<0 then none else l[n.toNat]?)with|some y=>k y|none=>none
def FU{α:Type}(l:List α)(n:Nat)(k:α->O):O:=match l[n]? with|some y=>k y|none=>none
def SU{α:Type}(c:Bool)(z:α)(l:List α)(n:Int)(k:α->O):O:=match c with|true=>vK l n k|false=>k z
section
variable[aA]
def kI(g:Option Bool)(b:Bool)(k:O):O:=match g with |none=>ck b k |some c=>ck (!c||b) k
def vJ(g:Option Bool)(τ:Ty)(l:List τ.V)(n:Int)(k:τ.V->O):O:=match g with|none=>gx l n k|some c=>gc c τ.zero l n k
def ob{α:Type}(x:Option α)(k:α->O):O:=match x with|some y=>k y|none=>none
def lk{α:Type}(k:Nat):List (Nat×α)->Option α
 |[]=>none
 |(k',x)::l=>match aX k' k with|true=>some x|false=>lk k l
def iW{α β:Type}(k:Nat)(x:α):List (Nat×α)->(List (Nat×α)->Option β)->Option β
 |[],f=>f [(k,x)]
 |(k',y)::l,f=>match aX k' k with
   |true=>f ((k,x)::l)
   |false=>iW k x l λl'=>f ((k',y)::l')
def pM{α β:Type}(k:Nat):List (Nat×α)->(List (Nat×α)->Option β)->Option β
 |[],f=>f []
 |(k',y)::l,f=>match aX k' k with
   |true=>pM k l f
   |false=>pM k l λl'=>f ((k',y)::l')
def s9(dst:Option Tmp)(x:X)(T:XT)(f:XT->O):O:=match dst with|none=>f T|some t=>iW t x T f
def nT:Wx->XH->(XH->O)->O
 |[],H,f=>f H
 |(k,some o)::W,H,f=>nT W H λH'=>iW k o H' f
 |(k,none)::W,H,f=>nT W H λH'=>pM k H' f
def vR:(τ:Ty)->τ.V->List X
 |.pr a b,x=>vR a x.1++vR b x.2
 |.ex,x=>[.e (.i .i64) (Ex.op x),.e (.i .i64) (Ex.num x),.e (.sl .ex) (Ex.kids x)]
 |.un,_=>[]
 |.i k,x=>[.e (.i k) x]
 |.u8,x=>[.e .u8 x]
 |.bo,x=>[.e .bo x]
 |.tx,x=>[.e .tx x]
 |.sl t,x=>[.e (.sl t) x]
def gT(τ:Ty)(x:τ.V):X:=match τ.one with|true=>.e τ x|false=>.agg (vR τ x)
def one?(τ:Ty):X->Option τ.V
 |.e τ' x=>match eS τ' τ with|some ⟨h⟩=>some (jB h x)|none=>none
 |.dE=>match τ with|.sl _=>some []|_=>none
 |_=>none
def pF:(τ:Ty)->List X->Option (τ.V×List X)
 |.pr a b,xs=>match pF a xs with
   |some (x,r)=>match pF b r with
     |some (y,r')=>some ((x,y),r')
     |none=>none
   |none=>none
 |.ex,a::b::c::r=>match one? (.i .i64) a with
   |some x=>match one? (.i .i64) b with
     |some y=>match one? (.sl .ex) c with
       |some z=>some (Ex.mk x y z,r)
       |none=>none
     |none=>none
   |none=>none
 |.ex,_=>none
 |.un,xs=>some ((),xs)
 |.i k,x::r=>match one? (.i k) x with|some y=>some (y,r)|none=>none
 |.i _,[]=>none
 |.u8,x::r=>match one? .u8 x with|some y=>some (y,r)|none=>none
 |.u8,[]=>none
 |.bo,x::r=>match one? .bo x with|some y=>some (y,r)|none=>none
 |.bo,[]=>none
 |.tx,x::r=>match one? .tx x with|some y=>some (y,r)|none=>none
 |.tx,[]=>none
 |.sl t,x::r=>match one? (.sl t) x with|some y=>some (y,r)|none=>none
 |.sl _,[]=>none
def X.cells:X->List X
 |.agg xs=>xs
 |x=>[x]
def tH(τ:Ty)(xs:List X):Option τ.V:=match pF τ xs with|some (y,[])=>some y|_=>none
def iN(τ:Ty)(x:X):Option τ.V:=match τ.one with
 |true=>one? τ x
 |false=>match x with|.agg xs=>tH τ xs|_=>none
def l6:(τ:Ty)->τ.V->(j m:Nat)->((τ':Ty)->τ'.V->O)->O
 |.pr a b,x,j,m,k=>match aX j 0&&aX m (a.size+b.size)with
   |true=>k (.pr a b) x
   |false=>match nD j a.size with
     |true=>l6 a x.1 j m k
     |false=>l6 b x.2 (j-a.size) m k
 |.ex,x,j,m,k=>match j,m with
   |0,3=>k .ex x
   |0,1=>k (.i .i64) (Ex.op x)
   |1,1=>k (.i .i64) (Ex.num x)
   |2,1=>k (.sl .ex) (Ex.kids x)
   |_,_=>none
 |.un,_,_,_,_=>none
 |τ,x,j,m,k=>match aX j 0&&aX m 1 with
   |true=>k τ x
   |false=>none
def setAt:(τ:Ty)->τ.V->(j m:Nat)->List X->(τ.V->O)->O
 |.pr a b,x,j,m,xs,k=>match aX j 0&&aX m (a.size+b.size)with
   |true=>ob (tH (.pr a b) xs) k
   |false=>match nD j a.size with
     |true=>setAt a x.1 j m xs λy=>k (y,x.2)
     |false=>setAt b x.2 (j-a.size) m xs λy=>k (x.1,y)
 |.ex,_,j,m,xs,k=>match j,m with
   |0,3=>ob (tH .ex xs) k
   |_,_=>none
 |.un,_,_,_,_,_=>none
 |τ,_,j,m,xs,k=>match aX j 0&&aX m 1 with
   |true=>ob (tH τ xs) k
   |false=>none
def Es:List Ty->Option Ty
 |[]=>none
 |[a]=>some a
 |a::l=>match Es l with|some r=>some (.pr a r)|none=>none
def vC{α β:Type}(f:α->Option β):List α->Option (List β)
 |[]=>some []
 |x::l=>match f x with
   |some y=>match vC f l with|some r=>some (y::r)|none=>none
   |none=>none
def CN{α:Type}(x:α):Nat->List α
 |0=>[]
 |n+1=>x::CN x n
def K2(P:Program)(ex:TypeId):Nat->TypeId->Option Ty
 |0,_=>none
 |n+1,t=>match aX t ex with
   |true=>some .ex
   |false=>match P.underlying t with
     |some (.int .u8)=>some .u8
     |some (.int k)=>some (.i k)
     |some .bool=>some .bo
     |some .string=>some .tx
     |some (.slice e)=>match K2 P ex n e with|some τ=>some (.sl τ)|none=>none
     |some (.struct fs)=>match vC (λf=>K2 P ex n f.type) fs.toList with|some l=>Es l|none=>none
     |some (.array m e)=>match K2 P ex n e with|some τ=>Es (CN τ m)|none=>none
     |_=>none
def Cx.ty(c:Cx)(t:TypeId):Option Ty:=K2 c.P c.ex 12 t
def fN(P:Program)(t:TypeId):Option Nat:=(P.info? t).map (·.size)
def Lj(P:Program)(t:TypeId):Option TypeId:=match P.underlying t with|some (.slice e)=>some e|_=>none
def mP:Value->X
 |.int .u8 n=>match decide (0<=n/\n<256)with|true=>.e .u8 (UInt8.ofNat n.toNat)|false=>.v (.int .u8 n)
 |.int k n=>.e (.i k) n
 |.bool b=>.e .bo b
 |.string s=>.e .tx s.data.toList
 |.slice none 0 0=>.dE
 |w=>.v w
def qQ:Value->Option X
 |.agg cs=>match cs.toList.all (·.oneCell')with|true=>some (.agg (cs.toList.map mP))|false=>none
 |.tuple _=>none
 |w=>some (mP w)
def FW(g:Nat):X:=.v (.pointer (some ⟨g,0,none⟩))
structure Vw where
 T:Nat->Option X
 H:Nat->Option XO
 g:Option (Nat×Bool):=none
def tA(g:Option (Nat×Bool)):X->Option X
 |.bit _ q=>some (.e .bo q)
 |.eO key _ x=>match g with
   |some (key',_)=>match aX key key' with
     |true=>match x with|.bit _ q=>some (.e .bo q)|.eO ..=>none|x=>some x
     |false=>none
   |none=>none
 |x=>some x
def Vw.ev(σ:Vw):Operand->Option X
 |.tmp t=>match σ.T t with|some x=>tA σ.g x|none=>none
 |.const w=>qQ w
 |.func f=>some (.fn f [])
 |.global g=>some (FW g)
def Vw.tM(σ:Vw):List Operand->(List X->O)->O
 |[],k=>k []
 |x::l,k=>ob (σ.ev x) λy=>σ.tM l λys=>k (y::ys)
def Vw.iE(σ:Vw):X->X
 |.own q=>match σ.H q with|some (.row _ τ l true)=>.e (.sl τ) l|_=>.own q
 |x=>x
def Vw.lI(σ:Vw):X->X
 |.agg xs=>.agg (xs.map σ.iE)
 |x=>σ.iE x
def Vw.src(σ:Vw)(τ:Ty):X->Option (List τ.V)
 |.own q=>match σ.H q with
   |some (.row _ τ' l _)=>match eS τ' τ with|some ⟨h⟩=>some (jB (aO Ty.sl h) l)|none=>none
   |_=>none
 |x=>one? (.sl τ) x
def Vw.len(σ:Vw):X->(Int->O)->O
 |.own q,k=>match σ.H q with|some (.row _ _ l _)=>k l.length|some (.nest _ _ _ l)=>k (dX l)|some (.bI _ _ _ _ l _)=>k (dX l)|_=>none
 |.sub q i,k=>match σ.H q with|some (.nest _ _ _ l)=>gn l i λr=>k (dX r)|_=>none
 |.e (.sl _) l,k=>k (dX l)
 |.dE,k=>k 0
 |_,_=>none
def Rz(c:Cx)(σ:Vw)(t:TypeId)(v:X)(k:X->O):O:=match c.P.underlying t,v with
 |some (.slice _),v=>σ.len v λn=>k (.e (.i .i64) n)
 |some .string,.e .tx l=>k (.e (.i .i64) (dX (α:=UInt8) l:Int))
 |_,_=>none
def RM:Operand->Operand->Bool
 |.tmp a,.tmp b=>aX a b
 |.const (.int k a),.const (.int k' b)=>decide (k=k')&&a == b
 |_,_=>false
def aD9(q x:Bool)(k:X->O):O:=k (.e .bo (q&&x))
def orX(q x:Bool)(k:X->O):O:=k (.e .bo (q||x))
def Vw.Ca(σ:Vw)(key:Nat):Operand->Option X
 |.tmp t=>match σ.T t with
   |some (.eO key' _ x)=>match aX key' key with
     |true=>match x with|.bit _ q=>some (.e .bo q)|.eO ..=>none|x=>some x
     |false=>tA σ.g (.eO key' true x)
   |some x=>tA σ.g x
   |none=>none
 |x=>σ.ev x
def Vw.TH(σ:Vw):Operand->Option (Nat×Bool)
 |.tmp t=>match σ.T t with
   |some (.bit j q)=>some (j,q)
   |some (.eO key _ (.bit j q))=>match σ.g with
     |some (key',_)=>match aX key key' with|true=>some (j,q)|false=>none
     |none=>none
   |_=>none
 |_=>none
def RF(σ:Vw)(b x y:Operand)(k:X->O):O:=match σ.TH b with
 |some (j,q)=>ob (σ.Ca (2*j+1) x) λv=>ob (σ.Ca (2*j) y) λv'=>match v,v' with
   |.e .bo a,.e .bo a'=>match y,x with
     |.const (.bool false),_=>aD9 q a k
     |_,.const (.bool true)=>orX q a' k
     |_,_=>br q (k v) (k v')
   |v,v'=>br q (k v) (k v')
 |none=>ob (σ.ev b) λv=>match v with
   |.e .bo q=>br q (ob (σ.ev x) k) (ob (σ.ev y) k)
   |.v (.bool true)=>ob (σ.ev x) k
   |.v (.bool false)=>ob (σ.ev y) k
   |_=>none
def b8(n b:Nat):Bool:=decide (n*b<=140737488355328/\n<=140737488355327)
def aDZ(op:BinOp)(m n:Bool)(k:X->O):O:=match op with
 |.eql=>k (.e .bo (m == n))
 |.neq=>k (.e .bo (!(m == n)))
 |_=>none
def aBx(ik:IntKind)(n:Int)(k:X->O):O:=k (.e (.i ik) (ik.wrap (-n)))
def aBt(q:Bool)(k:X->O):O:=k (.e .bo (!q))
def FM(τ:Ty)(e:TypeId)(fr b:Nat)(st:Bool)(z:Int)(k:X->Wx->O):O:=ck (decide (0<=z)) (ck (b8 z.toNat b) (k (.own fr) [(fr,some (.row e τ (dA z.toNat τ.zero) st))]))
def bytesOf(x:List UInt8):(τ:Ty)->Option (List τ.V)
 |.u8=>some x
 |_=>none
def TV(τ:Ty)(e:TypeId)(fr bt:Nat)(gone:Wx)(st:Bool)(l l':List τ.V)(k:X->Wx->O):O:=ck (b8 (l++l').length bt) (k (.own fr) ((fr,some (.row e τ (l++l') st))::gone))
def LO(m n:Int)(k:X->O):O:=k (.e (.i .i64) (max m n:Int))
def aCB(m n:Int)(k:X->O):O:=k (.e (.i .i64) (min m n:Int))
def nU(n:Int):UInt8:=UInt8.ofNat (n%256).toNat
def SJ(g:Option Bool)(op:BinOp)(ik:IntKind)(m n:Int)(k:X->O):O:=match op with
 |.add=>k (.e (.i ik) (ik.wrap (m+n)))
 |.sub=>k (.e (.i ik) (ik.wrap (m-n)))
 |.mul=>k (.e (.i ik) (ik.wrap (m*n)))
 |.quo=>kI g (decide (n≠0)) (k (.e (.i ik) (ik.wrap (m.tdiv n))))
 |.rem=>kI g (decide (n≠0)) (k (.e (.i ik) (m.tmod n)))
 |.lss=>k (.e .bo (decide (m<n)))
 |.leq=>k (.e .bo (decide (m<=n)))
 |.gtr=>k (.e .bo (decide (n<m)))
 |.geq=>k (.e .bo (decide (n<=m)))
 |.eql=>k (.e .bo (decide (m=n)))
 |.neq=>k (.e .bo (decide (m≠n)))
 |_=>none
def aUO:BinOp->Bool
 |.shl=>true
 |.shr=>true
 |_=>false
def Qr(g:Option Bool)(op:BinOp)(ik:IntKind)(m n:Int)(k:X->O):O:=match op with
 |.shl=>kI g (decide (0<=n)) (k (.e (.i ik) (ik.wrap (m*2^(min n.toNat ik.bits)))))
 |.shr=>kI g (decide (0<=n)) (k (.e (.i ik) (m.fdiv (2^(min n.toNat ik.bits)))))
 |_=>none
def Q3(op:BinOp)(m n:UInt8)(k:X->O):O:=match op with
 |.add=>k (.e .u8 (m+n))
 |.sub=>k (.e .u8 (m-n))
 |.lss=>k (.e .bo (decide (m<n)))
 |.leq=>k (.e .bo (decide (m<=n)))
 |.gtr=>k (.e .bo (decide (n<m)))
 |.geq=>k (.e .bo (decide (n<=m)))
 |.eql=>k (.e .bo (decide (m=n)))
 |.neq=>k (.e .bo (decide (m≠n)))
 |_=>none
def Q9(g:Option Bool)(op:BinOp)(m n:List UInt8)(k:X->O):O:=match op with
 |.add=>kI g (decide ((m.length:Int)+n.length<=9223372036854775807)) (k (.e .tx (m++n)))
 |.eql=>k (.e .bo (decide (m=n)))
 |.neq=>k (.e .bo (decide (m≠n)))
 |_=>none
def TI(P:Program)(g:Option Bool)(op:BinOp)(xt:TypeId)(x y:X)(k:X->O):O:=match x,y with
 |.e (.i ik) m,.e (.i ik') n=>match aUO op with
   |true=>Qr g op ik m n k
   |false=>match decide (ik=ik')with|true=>SJ g op ik m n k|false=>none
 |.e .u8 m,.e .u8 n=>Q3 op m n k
 |.e .tx m,.e .tx n=>Q9 g op m n k
 |.e .bo m,.e .bo n=>match P.underlying xt with
   |some .bool=>aDZ op m n k
   |_=>none
 |_,_=>none
def R7(P:Program)(t:TypeId)(op:BinOp)(v w:X)(y:Operand):Option Bool:=match v with
 |.v .nilIface=>match w,y,P.underlying t with
   |.v .nilIface,.const _,some (.interface _)=>(match op with|.eql=>some true|.neq=>some false|_=>none)
   |_,_,_=>none
 |.via _ (j+2)=>match w,y,P.underlying t with
   |.v .nilIface,.const _,some (.interface _)=>(match op with|.eql=>some (decide (j=1))|.neq=>some (decide (j≠1))|_=>none)
   |_,_,_=>none
 |_=>none
def asInt(x:X)(k:Int->O):O:=match x with
 |.e (.i _) n=>k n
 |.e .u8 c=>k (gZ c:Int)
 |_=>none
def Vw.kE(σ:Vw):Option Operand->(Option Int->O)->O
 |none,f=>f none
 |some x,f=>ob (σ.ev x) λw=>asInt w λn=>f (some n)
def Lo(P:Program)(s d:TypeId)(x:X)(k:X->O):O:=match P.underlying s,P.underlying d,x with
 |some _,some (.int .u8),.e (.i _) m=>k (.e .u8 (nU m))
 |some _,some (.int .u8),.e .u8 c=>k (.e .u8 c)
 |some _,some (.int kd),.e (.i _) m=>k (.e (.i kd) (kd.wrap m))
 |some _,some (.int kd),.e .u8 c=>k (.e (.i kd) (kd.wrap (gZ c:Int)))
 |_,_,_=>none
def oH{α:Type}:Nat->List α->List α
 |0,l=>l
 |_+1,[]=>[]
 |n+1,_::l=>oH n l
def mK{α:Type}:Nat->List α->List α
 |0,_=>[]
 |_+1,[]=>[]
 |n+1,x::l=>x::mK n l
def oA{α:Type}:List α->Nat->List α->List α
 |l,0,[]=>l
 |_::l,0,y::new=>y::oA l 0 new
 |[],_,_=>[]
 |x::l,n+1,new=>x::oA l n new
def Rq(c:Cx)(σ:Vw)(t:TypeId)(a:X)(k:X->O):O:=match iX c.P t,fN c.P t with
 |some rw,some m=>match a with
   |.ref q off=>match σ.H q with
     |some (.box _ xs)=>match rw with
       |true=>match aX (mK m (oH off xs)).length m with|true=>k (.agg (mK m (oH off xs)))|false=>none
       |false=>ob xs[off]? k
     |_=>none
   |.rr q i j s=>match σ.H q with
     |some (.row _ τ l _)=>match aX s τ.size with
       |true=>gn l i λy=>l6 τ y j m λτ' y'=>match rw,τ'.one with
         |true,false=>k (.agg (vR τ' y'))
         |false,true=>k (.e τ' y')
         |_,_=>none
       |false=>none
     |some (.nest _ _ _ l)=>match rw,aX j 0&&aX s 1 with
       |false,true=>gn l i λ_=>k (.sub q i)
       |_,_=>none
     |some (.bI _ _ _ ρ l ln)=>match aX s (1+ρ.size)with
       |true=>match aX j 0 with
         |true=>match rw,ln with
           |false,some (i',q')=>ck (decide (i=i'.toNat)) (gn l i λ_=>k (.own q'))
           |_,_=>none
         |false=>gn l i λy=>l6 ρ y.2 (j-1) m λτ' y'=>match rw,τ'.one with
           |true,false=>k (.agg (vR τ' y'))
           |false,true=>k (.e τ' y')
           |_,_=>none
       |false=>none
     |_=>none
   |.gM q i j=>match σ.H q with
     |some (.nest _ _ τ l)=>match rw,τ.one with
       |false,true=>gn l i λr=>gn r j λy=>k (.e τ y)
       |_,_=>none
     |_=>none
   |.pt τ y j=>l6 τ y j m λτ' y'=>match rw,τ'.one with
     |true,false=>k (.agg (vR τ' y'))
     |false,true=>k (.e τ' y')
     |_,_=>none
   |_=>none
 |_,_=>none
def Qa(c:Cx)(σ:Vw)(t:TypeId)(a y:X)(k:X->Wx->O):O:=match fN c.P t with
 |some m=>match aX y.cells.length m&&nD 0 m with
   |true=>match a with
     |.ref q off=>match σ.H q with
       |some (.box e xs)=>match j3 (off+m) xs.length with
         |true=>k (.aT []) [(q,some (.box e (oA xs off y.cells)))]
         |false=>none
       |_=>none
     |.rr q i j s=>match σ.H q with
       |some (.row e τ l false)=>match aX s τ.size with
         |true=>gn l i λz=>setAt τ z j m (σ.lI y).cells λz'=>k (.aT []) [(q,some (.row e τ (l.set i z') false))]
         |false=>none
       |some (.bI e e' κ ρ l ln)=>match aX s (1+ρ.size)&&aX m 1 with
         |true=>match aX j 0 with
           |true=>match y,ln with
             |.own q',some (i',_)=>ck (decide (i=i'.toNat)) (gn l i λ_=>k (.aT []) [(q,some (.bI e e' κ ρ l (some (i',q'))))])
             |_,_=>none
           |false=>match y with
             |.agg _=>none
             |y=>gn l i λz=>setAt ρ z.2 (j-1) m (σ.lI y).cells λz'=>k (.aT []) [(q,some (.bI e e' κ ρ (l.set i (z.1,z')) ln))]
         |false=>none
       |_=>none
     |.gM q i j=>match σ.H q with
       |some (.nest e e' τ l)=>match y with
         |.e τ' z=>match eS τ' τ with
           |some ⟨h⟩=>match τ.one with
             |true=>gn l i λr=>gn r j λ_=>k (.aT []) [(q,some (.nest e e' τ (l.set i (r.set j (jB h z)))))]
             |false=>none
           |none=>none
         |_=>none
       |_=>none
     |_=>none
   |false=>none
 |none=>none
def cA{α:Type}(l:List α)(lo hi:Option Int):List α:=match lo,hi with
 |none,none=>l
 |some a,none=>l.drop a.toNat
 |none,some b=>l.take b.toNat
 |some a,some b=>(l.take b.toNat).drop a.toNat
def dJ(n:Nat)(lo hi:Option Int):Bool:=match lo,hi with
 |none,none=>true
 |some a,none=>decide (0<=a/\a<=n)
 |none,some b=>decide (0<=b/\b<=n)
 |some a,some b=>decide (0<=a/\a<=b/\b<=n)
def Qo(τ:Ty)(g:Option Bool)(l:List τ.V)(lo hi:Option Int)(k:X->O):O:=kI g (dJ l.length lo hi) (k (.e (.sl τ) (cA l lo hi)))
def aAq(g:Option Bool)(l:List UInt8)(lo hi:Option Int)(k:X->O):O:=kI g (dJ l.length lo hi) (k (.e .tx (cA l lo hi)))
def mL(τ:Ty):Nat->(σ:Ty)->σ.V->Option (List τ.V)
 |0,_,_=>none
 |1,σ,y=>match eS σ τ with|some ⟨h⟩=>some [jB h y]|none=>none
 |n+2,.pr a b,y=>match eS a τ with
   |some ⟨h⟩=>match mL τ (n+1) b y.2 with|some l=>some (jB h y.1::l)|none=>none
   |none=>none
 |_+2,_,_=>none
def Qq(c:Cx)(t:TypeId)(a:X)(k:X->O):O:=match c.P.underlying t with
 |some (.array n e)=>match a with
   |.pt σ y 0=>match c.ty e with
     |some τ=>match fN c.P e with
       |some m=>match aX m τ.size with
         |true=>match mL τ n σ y with
           |some l=>match aX l.length n with|true=>k (.e (.sl τ) l)|false=>none
           |none=>none
         |false=>none
       |none=>none
     |none=>none
   |_=>none
 |_=>none
def K9(c:Cx)(σ:Vw)(t:TypeId)(a:X)(lo hi:Option Int)(k:X->O):O:=match c.P.underlying t,σ.iE a with
 |some (.slice e),.e (.sl τ) l=>match fN c.P e with
   |some m=>match aX m τ.size with|true=>Qo τ (σ.g.map (·.2)) l lo hi k|false=>none
   |none=>none
 |some .string,.e .tx l=>aAq (σ.g.map (·.2)) l lo hi k
 |_,_=>none
def Rt:Option Int->Nat
 |none=>0
 |some a=>a.toNat
def qX(n:Nat):Option Int->Nat
 |none=>n
 |some b=>b.toNat
def Qp(c:Cx)(σ:Vw)(t:TypeId)(q:Nat)(τ:Ty)(l:List τ.V)(lo hi:Option Int)(k:X->Wx->O):O:=match c.P.underlying t with
 |some (.slice e)=>match fN c.P e with
   |some m=>match aX m τ.size&&nD 0 m with
     |true=>kI (σ.g.map (·.2)) (dJ l.length lo hi) (k (.vw q (Rt lo) (qX l.length hi-Rt lo) m) [])
     |false=>none
   |none=>none
 |_=>none
def Ln(c:Cx)(t:TypeId)(q i n:Nat)(e:TypeId)(τ:Ty)(l src:List τ.V)(k:X->Wx->O):O:=match(Lj c.P t).bind (fN c.P)with
 |some 1=>match aX τ.size 1 with
   |true=>ck (decide (i+n<=l.length)) (k (.e (.i .i64) ((min src.length n:Nat):Int)) [(q,some (.row e τ (l.take i++src.take n++l.drop (i+min src.length n)) false))])
   |false=>none
 |_=>none
def F8(σ:Vw)(τ:Ty)(w:X)(k:List τ.V->O):O:=match w with
 |.vw q i n s=>match σ.H q with
   |some (.row _ τ' l _)=>match eS τ' τ with
     |some ⟨h⟩=>match aX s τ.size with
       |true=>ck (decide (i+n<=l.length)) (k (((jB (aO Ty.sl h) l:List τ.V).drop i).take n))
       |false=>none
     |none=>none
   |_=>none
 |w=>ob (σ.src τ w) k
def Sp(c:Cx)(σ:Vw)(t:TypeId)(v w:X)(k:X->Wx->O):O:=match v with
 |.own q=>match σ.H q with
   |some (.row e τ l false)=>F8 σ τ w λsrc=>Ln c t q 0 l.length e τ l src k
   |_=>none
 |.vw q i n s=>match σ.H q with
   |some (.row e τ l false)=>match aX s 1 with
     |true=>F8 σ τ w λsrc=>Ln c t q i n e τ l src k
     |false=>none
   |_=>none
 |_=>none
def RD:X->Option (Nat×Nat×Nat)
 |.vw q i n s=>match aX i 0 with|true=>some (q,n,s)|false=>none
 |_=>none
def TW(σ:Vw)(e:TypeId)(τ:Ty)(bt fr:Nat)(p:Nat×Nat×Nat)(w:X)(k:X->Wx->O):O:=match σ.H p.1 with
 |some (.row e' τ' l false)=>match eS τ' τ with
   |some ⟨h⟩=>match aX e' e&&(aX p.2.2 1&&aX τ.size 1)with
     |true=>ck (decide (p.2.1<=l.length)) (F8 σ τ w λsrc=>ck (b8 (p.2.1+src.length) bt) (k (.own fr) [(fr,some (.row e τ ((jB (aO Ty.sl h) l:List τ.V).take p.2.1++src) false)),(p.1,none)]))
     |false=>none
   |none=>none
 |_=>none
def X.val:X->Bool
 |.e τ _=>τ.one
 |.aT _=>false
 |.eO ..=>false
 |.bit ..=>false
 |.iO _=>false
 |_=>true
def LS(τ:Ty):List X->Option (List τ.V)
 |[]=>some []
 |x::r=>match one? τ x with
   |some y=>match LS τ r with|some l=>some (y::l)|none=>none
   |none=>none
def SM(c:Cx)(σ:Vw)(t:TypeId)(a:X)(x:X)(k:X->O):O:=asInt x λn=>match a with
 |.e (.sl τ) l=>match lJ c.P t with
   |some s=>match aX s τ.size with
     |true=>vJ (σ.g.map (·.2)) τ l n λy=>k (.pt τ y 0)
     |false=>none
   |none=>none
 |.own q=>match σ.H q,lJ c.P t with
   |some (.row _ τ l st),some s=>match aX s τ.size with
     |true=>match st with
       |true=>vJ (σ.g.map (·.2)) τ l n λy=>k (.pt τ y 0)
       |false=>kI (σ.g.map (·.2)) (decide (0<=n/\n<l.length)) (k (.rr q n.toNat 0 s))
     |false=>none
   |some (.nest _ _ _ l),some s=>match aX s 1 with
     |true=>ck (decide (0<=n/\n<l.length)) (k (.rr q n.toNat 0 s))
     |false=>none
   |some (.bI _ _ _ ρ l _),some s=>match aX s (1+ρ.size)with
     |true=>kI (σ.g.map (·.2)) (decide (0<=n/\n<dX l)) (k (.rr q n.toNat 0 s))
     |false=>none
   |_,_=>none
 |.sub q i=>match σ.H q,lJ c.P t with
   |some (.nest _ _ _ l),some s=>match aX s 1 with
     |true=>gn l i λr=>ck (decide (0<=n/\n<r.length)) (k (.gM q i n.toNat))
     |false=>none
   |_,_=>none
 |.ref q off=>match A0 c.P t with
   |some (m,s)=>match decide (0<=n/\n<m)with
     |true=>k (.ref q (off+n.toNat*s))
     |false=>none
   |none=>none
 |.pt ρ y 0=>match c.P.underlying t,A0 c.P t with
   |some (.array _ e),some (m,s)=>match c.ty e with
     |some τ=>match mL τ m ρ y with
       |some l=>match aX s τ.size&&aX l.length m with
         |true=>vJ (σ.g.map (·.2)) τ l n λy=>k (.pt τ y 0)
         |false=>none
       |none=>none
     |none=>none
   |_,_=>none
 |_=>none
def SK(c:Cx)(t:TypeId)(g:Option Bool)(a:X)(x:X)(k:X->O):O:=asInt x λn=>match c.P.underlying t,a with
 |some .string,.e .tx l=>vJ g .u8 l n λc=>k (.e .u8 c)
 |some (.array m e),.agg (.e τ y::r)=>match τ.one&&aX m (r.length+1),iX c.P e,fN c.P e with
   |true,some false,some 1=>ob (LS τ (.e τ y::r)) λl=>vJ g τ l n λy=>k (.e τ y)
   |_,_,_=>none
 |_,_=>none
def SL(c:Cx)(σ:Vw)(t:TypeId)(a:X)(x:X)(k:X->O):O:=asInt x λn=>match a with
 |.ref q off=>match A0 c.P t with
   |some (m,s)=>kI (σ.g.map (·.2)) (decide (0<=n/\n<m)) (k (.ref q (off+n.toNat*s)))
   |none=>none
 |_=>none
def FO(τ:Ty):List X->Option (List τ.V)
 |[]=>some []
 |.e τ' x::r=>match eS τ' τ with
   |some ⟨h⟩=>match FO τ r with|some l=>some (jB h x::l)|none=>none
   |none=>none
 |_::_=>none
def Rr(c:Cx)(σ:Vw)(t:TypeId)(a:X)(k:X->O):O:=match iX c.P t,a with
 |some false,.ref q off=>match σ.H q with
   |some (.box _ (.e τ y::xs))=>match τ.one with
     |true=>ob (FO τ (.e τ y::xs)) λl=>vJ (σ.g.map (·.2)) τ l (off:Int) λy=>k (.e τ y)
     |false=>none
   |_=>none
 |_,_=>none
def Qs{α:Type}(b:Bool)(x y:α):α:=match b with|true=>x|false=>y
def uY(τ:Ty)(off:Nat)(z:τ.V):Nat->List τ.V->List X
 |_,[]=>[]
 |i,y::l=>.e τ (Qs (aX off i) z y)::uY τ off z (i+1) l
def Qb(c:Cx)(σ:Vw)(t:TypeId)(a y:X)(k:X->Wx->O):O:=match fN c.P t,a,y with
 |some 1,.ref q off,.e τ z=>match τ.one with
   |true=>match σ.H q with
     |some (.box e xs)=>ob (FO τ xs) λl=>ck (decide (off<l.length)) (k (.aT []) [(q,some (.box e (uY τ off z 0 l)))])
     |_=>none
   |false=>none
 |_,_,_=>none
def So(c:Cx)(σ:Vw)(fr:Nat)(t:TypeId)(q:Nat)(hi:Option Int)(k:X->Wx->O):O:=match c.P.underlying t,σ.H q,hi with
 |some (.slice e),some (.row e' τ l false),some n=>match fN c.P e with
   |some m=>match aX m τ.size with
     |true=>ck (decide (0<=n/\n<=l.length)) (k (.own fr) [(fr,some (.row e' τ (l.take n.toNat) false)),(q,none)])
     |false=>none
   |none=>none
 |_,_,_=>none
def Al:Option Int->Bool
 |none=>true
 |some n=>decide (n=0)
def S6(c:Cx)(s:TypeId)(f:Nat)(a:X)(k:X->O):O:=ob (F1 c.P s f) λq=>match a with
 |.ref p off=>k (.ref p (off+q))
 |.rr p i j z=>k (.rr p i (j+q) z)
 |.pt τ y j=>k (.pt τ y (j+q))
 |_=>none
def S5(c:Cx)(s:TypeId)(f:Nat)(a:X)(k:X->O):O:=match c.P.underlying s,a with
 |some (.struct fs),.agg xs=>match fs[f]? with
   |some fl=>match iX c.P fl.type,fN c.P fl.type with
     |some rw,some m=>match rw with
       |true=>match aX (mK m (oH fl.offset xs)).length m with|true=>k (.agg (mK m (oH fl.offset xs)))|false=>none
       |false=>ob xs[fl.offset]? k
     |_,_=>none
   |none=>none
 |_,_=>none
def rO(P:Program)(t:TypeId):Option X:=match(P.info? t).bind (·.zero)with|some z=>qQ z|none=>none
def places(P:Program)(t:TypeId):Option (List (Nat×Nat)):=match P.underlying t with
 |some (.struct fs)=>vC (λf=>match fN P f.type with|some m=>some (f.offset,m)|none=>none) fs.toList
 |some (.array n e)=>match fN P e with|some m=>some ((fJ n).map λi=>(i*m,m))|none=>none
 |_=>none
def F0(pl:List (Nat×Nat)):List X->List (Nat×X)->(List X->O)->O
 |cells,[],k=>k cells
 |cells,(i,x)::rest,k=>match pl[i]? with
   |some (off,m)=>match x.val&&aX x.cells.length m&&j3 (off+m) cells.length with
     |true=>F0 pl (oA cells off x.cells) rest k
     |false=>none
   |none=>none
def Vw.AT(σ:Vw):List (Nat×Operand)->(List (Nat×X)->O)->O
 |[],k=>k []
 |(i,x)::l,k=>ob (σ.ev x) λy=>σ.AT l λys=>k ((i,y)::ys)
def gJ{α:Type}(x:α):Nat->List α->List α
 |_,[]=>[]
 |0,_::l=>x::l
 |n+1,y::l=>y::gJ x n l
def Am(τ:Ty)(v:Value):Bool:=match τ with
 |.i k=>match v with|.int k' n=>decide (k=k')&&decide (n=0)|_=>false
 |.u8=>match v with|.int .u8 n=>decide (n=0)|_=>false
 |.bo=>match v with|.bool false=>true|_=>false
 |.tx=>match v with|.string s=>(match s.data.toList with|[]=>true|_=>false)|_=>false
 |.sl _=>match v with|.slice none 0 0=>true|_=>false
 |_=>false
def p7(τ:Ty):List Value->Option (List Value)
 |x::r=>match Am τ x with|true=>some r|false=>none
 |[]=>none
def An:Ty->List Value->Option (List Value)
 |.pr a b,l=>match An a l with|some l'=>An b l'|none=>none
 |.ex,l=>match p7 (.i .i64) l with
   |some l=>match p7 (.i .i64) l with
     |some l=>p7 (.sl .ex) l
     |none=>none
   |none=>none
 |.un,l=>some l
 |.i k,l=>p7 (.i k) l
 |.u8,l=>p7 .u8 l
 |.bo,l=>p7 .bo l
 |.tx,l=>p7 .tx l
 |.sl e,l=>p7 (.sl e) l
def lK(c:Cx)(t:TypeId):Option (TypeId×Ty×Nat):=match Lj c.P t with
 |some e=>match c.ty e,c.P.info? e with
   |some τ,some i=>match i.zero with
     |some z=>match An τ z.cells.toList with
       |some []=>match aX i.size τ.size&&(aX z.cells.size τ.size&&nD 0 τ.size)with|true=>some (e,τ,i.bytes)|false=>none
       |_=>none
     |none=>none
   |_,_=>none
 |none=>none
def SO(τ:Ty)(e:TypeId)(fr bt q:Nat)(st:Bool)(l:List τ.V)(z:Int)(k:X->Wx->O):O:=ck (decide (0<=z)) (ck (b8 (l.length+z.toNat) bt) (k (.own fr) [(fr,some (.row e τ (l++dA z.toNat τ.zero) st)),(q,none)]))
def Lu(P:Program)(e:TypeId):Bool:=match P.info? e with
 |some i=>match i.zero with
   |some (.int .u8 (.ofNat 0))=>aX i.size 1&&aX i.bytes 1
   |_=>false
 |none=>false
def SP(e:TypeId)(fr q:Nat)(st:Bool)(l s:List UInt8)(k:X->Wx->O):O:=ck (b8 (l.length+s.length) 1) (k (.own fr) [(fr,some (.row e .u8 (l++s) st)),(q,none)])
def TU(c:Cx)(σ:Vw)(fr:Nat)(st:Bool)(t t':TypeId)(x y:Operand)(k:X->Wx->O):O:=ob (lK c t) λp=>match p with
 |(e,τ,bt)=>ob (σ.ev x) λv=>ob (σ.ev y) λw=>match v,w,c.P.underlying t' with
   |.dE,.e (.i .i64) n,some (.int .i64)=>FM τ e fr bt st n k
   |.own q,.e (.i .i64) n,some (.int .i64)=>match σ.H q with
     |some (.row e' τ' l st')=>match eS τ' τ with
       |some ⟨h⟩=>match aX e' e with
         |true=>SO τ e fr bt q st' (jB (aO Ty.sl h) l) n k
         |false=>none
       |none=>none
     |_=>none
   |.own q,.e .tx s,some .string=>match σ.H q with
     |some (.row e' .u8 l st')=>match aX e' e&&Lu c.P e with
       |true=>SP e fr q st' l s k
       |false=>none
     |_=>none
   |_,_,_=>none
def FN(τ:Ty)(σ:Vw):List τ.V->List (Nat×X)->(List τ.V->O)->O
 |l,[],k=>k l
 |l,(i,x)::rest,k=>match nD i l.length with
   |true=>ob (iN τ (σ.lI x)) λy=>FN τ σ (gJ y i l) rest k
   |false=>none
def ins(k:Nat):List Nat->List Nat
 |[]=>[k]
 |x::l=>match aX x k with|true=>x::l|false=>x::ins k l
mutual
def Rf:X->List Nat->List Nat
 |.own q,acc=>ins q acc
 |.ref q _,acc=>ins q acc
 |.rr q _ _ _,acc=>ins q acc
 |.sub q _,acc=>ins q acc
 |.gM q _ _,acc=>ins q acc
 |.vw q _ _ _,acc=>ins q acc
 |.via q _,acc=>ins q acc
 |.agg xs,acc=>jV xs acc
 |.aT xs,acc=>jV xs acc
 |.fn _ xs,acc=>jV xs acc
 |_,acc=>acc
def jV:List X->List Nat->List Nat
 |[],acc=>acc
 |x::l,acc=>jV l (Rf x acc)
end
def aCA{α:Type}:List (α×X)->List Nat->List Nat
 |[],acc=>acc
 |(_,x)::l,acc=>aCA l (Rf x acc)
def aT9:XO->List Nat->List Nat
 |.box _ xs,acc=>jV xs acc
 |.row ..,acc=>acc
 |.nest ..,acc=>acc
 |.mp _ l,acc=>aCA l acc
 |.it ..,acc=>acc
 |.bI _ _ _ _ _ ln,acc=>match ln with|some (_,q)=>ins q acc|none=>acc
def reach(H:Nat->Option XO):Nat->List Nat->List Nat->List Nat
 |0,_,acc=>acc
 |_+1,[],acc=>acc
 |n+1,q::todo,acc=>match H q with
   |some o=>reach H n (todo++(aT9 o []).filter λx=>!(acc.contains x)&&!(todo.contains x)&&!(aX x q)) (acc++[q])
   |none=>reach H n todo (acc++[q])
def old(rn:List (Nat×Nat))(k:Nat):Option Nat:=match rn with
 |[]=>none
 |(new,o)::l=>match aX o k with|true=>some new|false=>old l k
mutual
def fG(f:Nat->Option Nat):X->Option X
 |.own q=>match f q with|some q'=>some (.own q')|none=>none
 |.ref q off=>match f q with|some q'=>some (.ref q' off)|none=>none
 |.rr q i j s=>match f q with|some q'=>some (.rr q' i j s)|none=>none
 |.agg xs=>match mM f xs with|some ys=>some (.agg ys)|none=>none
 |.aT xs=>match mM f xs with|some ys=>some (.aT ys)|none=>none
 |.fn g xs=>match mM f xs with|some ys=>some (.fn g ys)|none=>none
 |.e τ x=>some (.e τ x)
 |.dE=>some .dE
 |.pt τ y j=>some (.pt τ y j)
 |.v w=>some (.v w)
 |.bit ..=>none
 |.eO ..=>none
 |.sub ..=>none
 |.gM ..=>none
 |.vw ..=>none
 |.via q j=>match f q with|some q'=>some (.via q' j)|none=>none
 |.iO ..=>none
def mM(f:Nat->Option Nat):List X->Option (List X)
 |[]=>some []
 |x::l=>match fG f x with
   |some y=>match mM f l with|some r=>some (y::r)|none=>none
   |none=>none
end
def Kl{α:Type}(f:Nat->Option Nat):List (α×X)->Option (List (α×X))
 |[]=>some []
 |(a,x)::l=>match fG f x with
   |some y=>match Kl f l with|some r=>some ((a,y)::r)|none=>none
   |none=>none
def qJ(f:Nat->Option Nat):XO->Option XO
 |.nest e e' τ l=>some (.nest e e' τ l)
 |.mp τ l=>match Kl f l with|some r=>some (.mp τ r)|none=>none
 |.it s pos=>some (.it s pos)
 |.box e xs=>match mM f xs with|some ys=>some (.box e ys)|none=>none
 |.row e τ l st=>some (.row e τ l st)
 |.bI e e' κ ρ l ln=>match ln with
   |none=>some (.bI e e' κ ρ l none)
   |some (i,q)=>match f q with|some q'=>some (.bI e e' κ ρ l (some (i,q')))|none=>none
def nY(f:Nat->Option Nat)(H:Nat->Option XO):List (Nat×Nat)->Option XH
 |[]=>some []
 |(new,q)::l=>match H q with
   |some o=>match qJ f o with
     |some o'=>match nY f H l with|some r=>some ((new,o')::r)|none=>none
     |none=>none
   |none=>none
def FH:Nat->List Nat->List (Nat×Nat)
 |_,[]=>[]
 |n,k::l=>(n,k)::FH (n+1) l
def canon(c:Cx)(σ:Vw)(t:TypeId)(x:X):X:=match c.ty t with
 |some τ=>match iN τ (σ.lI x)with
   |some y=>gT τ y
   |none=>x
 |none=>x
def Ch(c:Cx)(σ:Vw):List TypeId->List X->List X
 |t::ts,x::xs=>canon c σ t x::Ch c σ ts xs
 |_,xs=>xs
def jJ(fr:Nat)(rb:List (Nat×Nat))(k:Nat):Option Nat:=match j3 100 k with
 |true=>match nD k 108 with|true=>some (fr+(k-100))|false=>none
 |false=>lk k rb
def mZ(f:Nat->Option Nat):XH->Option Wx
 |[]=>some []
 |(k,o)::l=>match f k with
   |some k'=>match qJ f o with
     |some o'=>match mZ f l with|some r=>some ((k',some o')::r)|none=>none
     |none=>none
   |none=>none
def gone(H':XH):List (Nat×Nat)->Wx
 |[]=>[]
 |(new,q)::l=>match lk new H' with|some _=>gone H' l|none=>(q,none)::gone H' l
def nodupB:List Nat->Bool
 |[]=>true
 |k::l=>match l.contains k with|true=>false|false=>nodupB l
def Kq(fr:Nat)(rn:List (Nat×Nat)):Bool:=rn.all (λp=>j3 50 p.1&&nD p.1 100&&(nD p.2 fr||j3 (fr+8) p.2)&&(match lk p.1 rn with |some q=>aX q p.2 |none=>false))&&nodupB (rn.map (·.2))
def Ff(σ:Vw)(fr:Nat)(g:bO)(ys:List X)(els:O)(k:X->Wx->O):O:=match FH 50 (reach σ.H 40 (jV ys []) [])with
 |rn=>match Kq fr rn with
   |false=>els
   |true=>match mM (old rn) ys with
     |none=>els
     |some zs=>match nY (old rn) σ.H rn with
       |none=>els
       |some H=>match g zs H with
         |some (pre,r)=>match nodupB (r.2.map (·.1))with
           |true=>ob (fG (jJ fr rn) r.1) λx=>ob (mZ (jJ fr rn) r.2) λW=>kI (σ.g.map (·.2)) pre (k x (W++gone r.2 rn))
           |false=>none
         |none=>els
def TD(c:Cx)(σ:Vw)(fr:Nat)(f:FuncId)(xs:List X)(k:X->Wx->O):O:=
 ob (lk f c.G) λg=>ob c.P.funcs[f]? λfn=>match fn.body with
  |none=>none
  |some _=>Ff σ fr g (Ch c σ fn.params.toList xs) (Ff σ fr g xs none k) k
def FL(σ:Vw)(n:Nat):List (Nat×Operand)->Option (Nat×TypeId×(τ:Ty)×List τ.V)
 |[(0,x)]=>match aX n 1 with
   |true=>match σ.ev x with
     |some (.own q)=>match σ.H q with
       |some (.row e τ l false)=>some (q,e,⟨τ,l⟩)
       |_=>none
     |_=>none
   |false=>none
 |_=>none
def FK(σ:Vw):X->Option (Nat×TypeId×TypeId×(τ:Ty)×List (List τ.V))
 |.own q=>match σ.H q with
   |some (.nest e e' τ l)=>some (q,e,e',⟨τ,l⟩)
   |_=>none
 |_=>none
def aDS{a b:Ty}(h:a=b)(l:List (List a.V)):List (List b.V):=h ▸ l
def TZ(σ:Vw)(e:TypeId)(fr bt:Nat)(v:X)(q:Nat)(e1 e1':TypeId)(τ:Ty)(l':List (List τ.V))(k:X->Wx->O):O:=match aX e1 e with
 |true=>match v with
   |.dE=>ck (b8 l'.length bt) (k (.own fr) [(fr,some (.nest e e1' τ l')),(q,none)])
   |v=>match FK σ v with
     |some (q0,e0,e0',⟨τ0,l⟩)=>match eS τ0 τ with
       |some ⟨h⟩=>match aX e0 e&&aX e0' e1'&&!(aX q0 q)with
         |true=>ck (b8 (l.length+l'.length) bt) (k (.own fr) [(fr,some (.nest e e1' τ (aDS h l++l'))),(q0,none),(q,none)])
         |false=>none
       |none=>none
     |none=>none
 |false=>none
def R3(σ:Vw)(n:Nat):List (Nat×Operand)->Option (Nat×TypeId×((κ:Ty)×List κ.V)×List X)
 |[(0,x)]=>match aX n 1 with
   |true=>match σ.ev x with
     |some (.agg (.own q::ys))=>match σ.H q with
       |some (.row e κ l false)=>some (q,e,⟨κ,l⟩,ys)
       |_=>none
     |_=>none
   |false=>none
 |_=>none
def Ru(σ:Vw)(fr:Nat)(e e':TypeId)(q:Nat)(κ:Ty)(l:List κ.V)(ys:List X)(k:X->Wx->O):Ty->O
 |.pr (.sl κ') ρ=>match eS κ κ' with
   |some _=>match j3 (1+ρ.size) 16777216 with
     |true=>match tH ρ (ys.map σ.iE)with
       |some r=>k (.own fr) [(fr,some (.bI e e' κ ρ [(l,r)] none)),(q,none)]
       |none=>none
     |false=>none
   |none=>none
 |_=>none
def FI(σ:Vw):X->Option (Nat×TypeId×TypeId×(κ:Ty)×(ρ:Ty)×List (List κ.V×ρ.V))
 |.own q=>match σ.H q with
   |some (.bI e e' κ ρ l none)=>some (q,e,e',⟨κ,ρ,l⟩)
   |_=>none
 |_=>none
def aWW{κ κ' ρ ρ':Ty}(h:κ=κ')(g:ρ=ρ')(l:List (List κ.V×ρ.V)):List (List κ'.V×ρ'.V):=h ▸ g ▸ l
def R4:Ty->Option (Ty×Ty)
 |.pr (.sl κ) ρ=>some (κ,ρ)
 |.sl κ=>some (κ,.un)
 |_=>none
def TY(σ:Vw)(e:TypeId)(fr bt:Nat)(v:X)(q:Nat)(e1 e1':TypeId)(κ ρ:Ty)(l':List (List κ.V×ρ.V))(k:X->Wx->O)(τ0:Ty):O:=match R4 τ0 with
 |some (κ1,ρ1)=>match eS κ1 κ with
   |some _=>match eS ρ1 ρ with
     |some _=>match aX e1 e with
       |true=>match v with
         |.dE=>ck (b8 (dX l') bt) (k (.own fr) [(fr,some (.bI e e1' κ ρ l' none)),(q,none)])
         |v=>match FI σ v with
           |some (q0,e0,e0',⟨κ0,ρ0,l⟩)=>match eS κ0 κ with
             |some ⟨h⟩=>match eS ρ0 ρ with
               |some ⟨g⟩=>match aX e0 e&&aX e0' e1'&&!(aX q0 q)with
                 |true=>ck (b8 (dX l+dX l') bt) (k (.own fr) [(fr,some (.bI e e1' κ ρ (aWW h g l++l') none)),(q0,none),(q,none)])
                 |false=>none
               |none=>none
             |none=>none
           |none=>none
       |false=>none
     |none=>none
   |none=>none
 |_=>none
def vP(a b:Int):Bool:=decide (a=b)
def F6(a b:UInt8):Bool:=decide (a=b)
def Lm(a b:List UInt8):Bool:=decide (a=b)
def F7(a b:Bool):Bool:=decide (a=b)
def C3:(τ:Ty)->τ.V->τ.V->Bool
 |.i _,a,b=>vP a b
 |.u8,a,b=>F6 a b
 |.tx,a,b=>Lm a b
 |.bo,a,b=>F7 a b
 |_,_,_=>false
def C2:TypeDesc->Ty->Bool
 |.int k,.i k'=>decide (k=k')
 |.int .u8,.u8=>true
 |.string,.tx=>true
 |.bool,.bo=>true
 |_,_=>false
def LW(τ:Ty)(x:X)(k:τ.V->O):O:=match x with
 |.e τ' y=>match eS τ' τ with|some ⟨h⟩=>k (jB h y)|none=>none
 |_=>none
def Rj(c:Cx)(σ:Vw)(kt:TypeId)(a b v:X)(k:X->Wx->O):O:=match c.P.underlying kt,a with
 |some d,.own q=>match σ.H q with
   |some (.mp τ l)=>match C2 d τ&&v.val with
     |true=>LW τ b λx=>ck (l.all λp=>!(C3 τ p.1 x)) (k (.aT []) [(q,some (.mp τ (l++[(x,v)])))])
     |false=>none
   |_=>none
 |_,_=>none
def RS(cm:Bool)(x:X)(b:Bool):X:=match cm with|true=>.aT [x,.e .bo b]|false=>x
def Rp(τ:Ty)(x:τ.V)(kf:X->O)(k0:O):List (τ.V×X)->O
 |[]=>k0
 |(y,v)::r=>br (C3 τ y x) (kf v) (Rp τ x kf k0 r)
def Rk(c:Cx)(σ:Vw)(kt:TypeId)(a b z:X)(cm:Bool)(k:X->O):O:=match c.P.underlying kt,a with
 |some d,.own q=>match σ.H q with
   |some (.mp τ l)=>match C2 d τ with
     |true=>LW τ b λx=>Rp τ x (λv=>k (RS cm v true)) (k (RS cm z false)) l
     |false=>none
   |_=>none
 |_,_=>none
def Ra(s:List UInt8)(pos:Int)(q:Nat)(k:X->Wx->O):O:=br (decide (pos<s.length))
 (gx s pos λb=>ck (decide (b.toNat<128)) (k (.aT [.e .bo true,.e (.i .i64) pos,.e (.i .i32) (b.toNat:Int)]) [(q,some (.it s (pos+1)))]))
 (k (.aT [.e .bo false]) [])
def Fm{α:Type}(f:α->Option Bool):List α->Option Bool
 |[]=>some true
 |[x]=>f x
 |x::l=>match f x with
   |some a=>match Fm f l with|some b=>some (a&&b)|none=>none
   |none=>none
def Cf(s off:Nat)(xs ys:List X)(k:List X->List X->Option Bool):Option Bool:=
 match aX (mK s (oH off xs)).length s&&aX (mK s (oH off ys)).length s with
 |true=>k (mK s (oH off xs)) (mK s (oH off ys))
 |false=>none
def mT(P:Program):Nat->TypeId->List X->List X->Option Bool
 |0,_,_,_=>none
 |n+1,t,xs,ys=>match P.underlying t with
   |some (.int _)=>match xs,ys with
     |[.e (.i k) a],[.e (.i k') b]=>match decide (k=k')with|true=>some (vP a b)|false=>none
     |[.e .u8 a],[.e .u8 b]=>some (F6 a b)
     |_,_=>none
   |some .bool=>match xs,ys with
     |[.e .bo a],[.e .bo b]=>some (F7 a b)
     |_,_=>none
   |some .string=>match xs,ys with
     |[.e .tx a],[.e .tx b]=>some (Lm a b)
     |_,_=>none
   |some (.array m e)=>match fN P e with
     |some s=>Fm (λi=>Cf s (i*s) xs ys (mT P n e)) (fJ m)
     |none=>none
   |some (.struct fs)=>match P.stoodInHeld t with
     |true=>none
     | false => Fm (fun f => match fN P f.type with | some s => (match f.name == "_" with | true => none | false => Cf s f.offset xs ys (mT P n f.type)) | none => none) fs.toList
   |_=>none
def Sa(P:Program)(op:BinOp)(t:TypeId)(v w:X):Option Bool:=match v with
 |.agg xs=>match w with
   |.agg ys=>match iX P t,P.eqGuardType P.depth t with
     |some true,false=>(match op with
       |.eql=>mT P 12 t xs ys
       |.neq=>(match mT P 12 t xs ys with|some b=>some (!b)|none=>none)
       |_=>none)
     |_,_=>none
   |_=>none
 |_=>none
def X.pl:X->Bool
 |.bit ..=>false
 |.eO ..=>false
 |_=>true
def Qu(c:Cx)(σ:Vw)(t:TypeId)(v:X)(k:X->Wx->O):O:=match c.P.underlying t with
 |some (.pointer _)=>match v with
   |.own q=>match σ.H q with
     |some (.row ..)=>k (.via q 1) []
     |_=>none
   |.dE=>k (.v (.pointer none)) []
   |_=>none
 |_=>none
def QZ(c:Cx)(σ:Vw)(pt:TypeId)(v w:X)(k:X->Wx->O):O:=match c.P.underlying pt with
 |some (.pointer e)=>match v,w with
   |.via q 1,.e (.i .i64) n=>match σ.H q with
     |some (.row e0 .u8 l _)=>match aX e0 e&&aX (c.P.cellsOf e) 1 with
       |true=>ck (vP n (dX (α:=UInt8) l:Int)) (k (.e .tx l) [(q,none)])
       |false=>none
     |_=>none
   |.v (.pointer none),.e (.i .i64) n=>ck (vP n 0) (k (.e .tx []) [])
   |_,_=>none
 |_=>none
def Fi(fr:Nat):List X->List X
 |[.v (.pointer none),.dE]=>[.via fr 0,.dE]
 |l=>l
def u7(x:X)(k:X->Wx->O):O:=match x.pl with|true=>k x []|false=>none
def TX(c:Cx)(σ:Vw)(fr:Nat)(st:Bool)(t:TypeId)(x y:Operand)(k:X->Wx->O):O:=ob (lK c t) λp=>match p with
    |(e,τ,bt)=>ob (σ.ev x) λv=>ob (σ.ev y) λw=>match RD v with
    |some p=>TW σ e τ bt fr p w k
    |none=>match FK σ w with
     |some (q,e1,e1',⟨τ1,l'⟩)=>match eS τ (.sl τ1)with
      |some _=>match τ1.one with
        |true=>TZ σ e fr bt v q e1 e1' τ1 l' k
        |false=>none
      |none=>none
     |none=>match FI σ w with
     |some (q,e1,e1',⟨κ,ρ,l'⟩)=>TY σ e fr bt v q e1 e1' κ ρ l' k τ
     |none=>ob (σ.src τ w) λl'=>match v with
      |.own q=>match σ.H q with
        |some (.row e' τ' l st')=>match eS τ' τ with
          |some ⟨h⟩=>match aX e' e with
            |true=>TV τ e fr bt [(q,none)] st' (jB (aO Ty.sl h) l) l' k
            |false=>none
          |none=>none
        |_=>none
      |.dE=>ck (b8 (dX l') bt) (k (.own fr) [(fr,some (.row e τ l' st))])
      |_=>none
def TF(P:Program)(t t':TypeId):Bool:=match P.underlying t,P.underlying t' with
 |some (.slice _),some (.slice _)=>true
 |_,_=>false
def unm(c:Cx):Bool:=match lk 999999 c.G with|some _=>true|none=>false
def eI(c:Cx)(σ:Vw)(fr:Nat)(st:Bool)(o:Oper)(k:X->Wx->O):O:=match o.op with
 |.move x=>ob (σ.ev x) λv=>k v []
 |.assign x=>ob (σ.ev x) λv=>k v []
 |.pick b x y=>RF σ b x y λr=>k r []
 |.alloc e=>ob (rO c.P e) λz=>k (.ref fr 0) [(fr,some (.box e (Fi fr z.cells)))]
 |.box e x=>ob (σ.ev x) λv=>match v.val with|true=>k (.ref fr 0) [(fr,some (.box e v.cells))]|false=>none
 |.build t ps=>ob (rO c.P t) λz=>ob (places c.P t) λpl=>σ.AT ps.toList λxs=>F0 pl z.cells xs λcs=>k (.agg cs) []
 |.buildSlice t n ps=>ob (lK c t) λp=>match p with
   |(e,τ,_)=>match FL σ n ps.toList with
    |some (q,e',⟨τ',l⟩)=>match eS τ (.sl τ')with
     |some _=>match τ'.one with
       |true=>match unm c with
         |true=>k (.own fr) [(fr,some (.bI e e' τ' .un [(l,())] none)),(q,none)]
         |false=>k (.own fr) [(fr,some (.nest e e' τ' [l])),(q,none)]
       |false=>none
     |none=>none
    |none=>match R3 σ n ps.toList with
     |some (q,e',⟨κ,l⟩,ys)=>Ru σ fr e e' q κ l ys k τ
     |none=>match j3 (n*τ.size) 16777216 with
      |true=>σ.AT ps.toList λxs=>FN τ σ (CN τ.zero n) xs λl=>k (.own fr) [(fr,some (.row e τ l st))]
      |false=>none
 |.makeMap t r=>match r with
   |none=>match c.P.underlying t with
     |some (.map kt _)=>match c.ty kt with
       |some τ=>k (.own fr) [(fr,some (.mp τ []))]
       |none=>none
     |_=>none
   |some _=>none
 |.insert t m x y=>match c.P.underlying t with
   |some (.map kt _)=>ob (σ.ev m) λa=>ob (σ.ev x) λb=>ob (σ.ev y) λv=>Rj c σ kt a b v k
   |_=>none
 |.range t x=>match c.P.underlying t with
   |some .string=>ob (σ.ev x) λv=>match v with
     |.e .tx s=>k (.own fr) [(fr,some (.it s 0))]
     |_=>none
   |_=>none
 |.next i b=>match b with
   |true=>ob (σ.ev i) λv=>match v with
     |.own q=>match σ.H q with
       |some (.it s pos)=>Ra s pos q k
       |_=>none
     |_=>none
   |false=>none
 |.lookup t m x cm=>match c.P.underlying t with
   |some (.map kt et)=>ob (σ.ev m) λa=>ob (σ.ev x) λb=>ob (rO c.P et) λz=>Rk c σ kt a b z cm λr=>u7 r k
   |_=>none
 |.load t a=>ob (σ.ev a) λv=>match st with
   |true=>Rq c σ t v λy=>u7 y k
   |false=>Rr c σ t v λy=>k y []
 |.store t a y=>ob (σ.ev a) λv=>ob (σ.ev y) λw=>match w.val with|true=>(match st with|true=>Qa c σ t v w k|false=>Qb c σ t v w k)|false=>none
 |.nilCheck x=>ob (σ.ev x) λv=>match v with
   |.ref ..=>k v []
   |.rr ..=>k v []
   |.pt ..=>k v []
   |.fn ..=>k v []
   |_=>none
 |.binOp op xt x y _=>ob (σ.ev x) λv=>ob (σ.ev y) λw=>match R7 c.P xt op v w y with
   |some b=>k (.e .bo b) []
   |none=>match Sa c.P op xt v w with
   |some b=>k (.e .bo b) []
   |none=>TI c.P (σ.g.map (·.2)) op xt v w λr=>k r []
 |.unOp op _ x=>ob (σ.ev x) λv=>match op,v with
   |.not,.e .bo q=>aBt q λr=>k r []
   |.neg,.e (.i ik) n=>aBx ik n λr=>k r []
   |_,_=>none
 |.convert s d x=>ob (σ.ev x) λv=>match c.P.underlying s,c.P.underlying d,v with
   |some (.slice e),some .string,v=>match c.P.underlying e with
     |some (.int .u8)=>ob (σ.src .u8 v) λl=>k (.e .tx l) []
     |_=>none
   |some .string,some (.slice e),.e .tx l=>match c.P.underlying e with
     |some (.int .u8)=>k (.e (.sl .u8) l) []
     |_=>none
   |_,_,v=>Lo c.P s d v λr=>k r []
 |.makeInterface t x=>ob (σ.ev x) λv=>match c.P.underlying t,v with
   |some (.int _),.e (.i ik) n=>k (.v (.iface t (.int ik n))) []
   |_,_=>none
 |.makeFunc (.func f) first caps=>match first.toList with
   |[]=>σ.tM caps.toList λxs=>k (.fn f xs) []
   |_=>none
 |.makeSlice t n m=>match RM n m with
   |true=>ob (σ.ev n) λv=>match v with
     |.e (.i .i64) z=>ob (lK c t) λp=>match p with|(e,τ,b)=>FM τ e fr b (!st) z k
     |_=>none
   |false=>none
 |.slice t x lo hi mx=>match mx with
   |none=>ob (σ.ev x) λv=>match v,lo,hi with
     |.dE,lo,hi=>σ.kE lo λlo=>σ.kE hi λhi=>match c.P.underlying t with
       |some (.slice e)=>match fN c.P e with
         |some _=>kI (σ.g.map (·.2)) (Al lo&&Al hi) (k .dE [])
         |none=>none
       |_=>none
     |.pt σ y j,none,none=>Qq c t (.pt σ y j) λr=>k r []
     |.own q,lo,hi=>match σ.H q with
       |some (.row _ τ l false)=>σ.kE lo λlo=>σ.kE hi λhi=>match st with
         |true=>Qp c σ t q τ l lo hi k
         |false=>match lo with|none=>So c σ fr t q hi k|some _=>none
       |_=>σ.kE lo λlo=>σ.kE hi λhi=>K9 c σ t (.own q) lo hi λr=>k r []
     |v,lo,hi=>σ.kE lo λlo=>σ.kE hi λhi=>K9 c σ t v lo hi λr=>k r []
   |some _=>none
 |.fieldAddr s x f=>ob (σ.ev x) λv=>S6 c s f v λr=>k r []
 |.field s x f=>ob (σ.ev x) λv=>S5 c s f v λr=>u7 r k
 |.indexAddr t x n=>ob (σ.ev x) λv=>ob (σ.ev n) λw=>match st with
   |true=>SM c σ t v w λr=>k r []
   |false=>SL c σ t v w λr=>k r []
 |.index t x n=>ob (σ.ev x) λv=>ob (σ.ev n) λw=>SK c t (σ.g.map (·.2)) v w λr=>k r []
 |.extract x n=>ob (σ.ev x) λv=>match v with
   |.aT xs=>ob xs[n]? λr=>u7 r k
   |_=>none
 |.call { callee:=.builtin b,args,argTypes }=>match b,args.toList,argTypes.toList with
   |.len,[x],[t]=>ob (σ.ev x) λv=>Rz c σ t v λr=>k r []
   |.append,[x,y],[t,t']=>match aX t t'||TF c.P t t' with
     |false=>TU c σ fr st t t' x y k
     |true=>TX c σ fr st t x y k
   |.unsafeSliceData,[x],[_]=>ob (σ.ev x) λv=>Qu c σ o.type v k
   |.unsafeString,[x,y],[pt,_]=>ob (σ.ev x) λv=>ob (σ.ev y) λw=>QZ c σ pt v w k
   |.cap,[x],[t]=>ob (σ.ev x) λv=>match v,c.P.underlying t with
     |.dE,some (.slice _)=>k (.e (.i .i64) (0:Int)) []
     |_,_=>none
   |.copy,[x,y],[t,_]=>ob (σ.ev x) λv=>ob (σ.ev y) λw=>Sp c σ t v w k
   |.max,[x,y],_=>ob (σ.ev x) λv=>ob (σ.ev y) λw=>match v,w with
     |.e (.i .i64) m,.e (.i .i64) n=>LO m n λr=>k r []
     |_,_=>none
   |.max,[x,y,z],_=>ob (σ.ev x) λv=>ob (σ.ev y) λw=>ob (σ.ev z) λu=>match v,w,u with
     |.e (.i .i64) m,.e (.i .i64) n,.e (.i .i64) p=>LO (max (m:Int) n) p λr=>k r []
     |_,_,_=>none
   |.min,[x,y],_=>ob (σ.ev x) λv=>ob (σ.ev y) λw=>match v,w with
     |.e (.i .i64) m,.e (.i .i64) n=>aCB m n λr=>k r []
     |_,_=>none
   |_,_,_=>none
 |.call { callee:=.value f,args,.. }=>ob (σ.ev f) λv=>match v with
   |.fn g caps=>σ.tM args.toList λxs=>TD c σ fr g (xs++caps) k
   |_=>none
 |_=>none
def brO(b:Option Bool)(x y:O):O:=match b with|some b=>br b x y|none=>y
def Lt(σ:Vw)(fr:Nat)(g:tW)(ys:List X)(els:O)(k:X->Wx->O)(kp:Value->Wx->O):O:=match FH 50 (reach σ.H 40 (jV ys []) [])with
 |rn=>match Kq fr rn with
   |false=>els
   |true=>match mM (old rn) ys with
     |none=>els
     |some zs=>match nY (old rn) σ.H rn with
       |none=>els
       |some H=>match g zs H with
         |some (pre,b,r,(.iO v,H'))=>match nodupB (r.2.map (·.1))&&nodupB (H'.map (·.1))with
           |true=>ck pre (brO b
             (ob (fG (jJ fr rn) r.1) λx=>ob (mZ (jJ fr rn) r.2) λW=>k x (W++gone r.2 rn))
             (ob (mZ (jJ fr rn) H') λW=>kp v (W++gone H' rn)))
           |false=>none
         |_=>els
def TE(c:Cx)(σ:Vw)(fr:Nat)(f:FuncId)(gp:tW)(xs:List X)(k:X->Wx->O)(kp:Value->Wx->O):O:=ob c.P.funcs[f]? λfn=>match fn.body with
 |none=>none
 |some _=>Lt σ fr gp (Ch c σ fn.params.toList xs) (Lt σ fr gp xs none k kp) k kp
def Ku(c:Cx)(σ:Vw)(fr:Nat)(o:Oper)(k:X->Wx->O)(kp:Value->Wx->O)(els:O):O:=match o.op with
 |.panic x=>ob (σ.ev x) λv=>match v with
   |.v (.iface t w)=>kp (.iface t w) []
   |_=>none
 |.call { callee:=.value f,args,.. }=>match σ.ev f with
   |some (.fn g caps)=>match lk g c.Gp with
     |some gp=>σ.tM args.toList λxs=>TE c σ fr g gp (xs++caps) k kp
     |none=>els
   |_=>els
 |_=>els
def Sg.vw(σ:Sg):Vw:=⟨λt=>lk t σ.T,λk=>lk k σ.H,none⟩
def aDE:Op->Bool
 |.move _=>true
 |.assign _=>true
 |.pick ..=>true
 |.load ..=>true
 |.binOp ..=>true
 |.unOp ..=>true
 |.convert ..=>true
 |.nilCheck _=>true
 |.fieldAddr ..=>true
 |.field ..=>true
 |.indexAddr ..=>true
 |.index ..=>true
 |.extract ..=>true
 |.slice ..=>true
 |.call { callee:=.builtin .len,.. }=>true
 |.call { callee:=.builtin .max,.. }=>true
 |.call { callee:=.builtin .min,.. }=>true
 |.call { callee:=.value _,.. }=>true
 |_=>false
def AX(j:Nat)(w:Bool):Nat:=match w with|true=>2*j+1|false=>2*j
def vS(w q:Bool):Bool:=match w with|true=>q|false=>!q
inductive Gd where
 |on|off
 |cd (key:Nat) (c:Bool) (t:Tmp) (j:Nat) (x:X) (new:Bool)
 |kn (b:Bool)
def L3(o:Oper)(ops:List Oper)(T:Nat->Option X):Option Gd:=match o.guard with
 |none=>some .on
 |some (j,w)=>match ops[j]? with
   |some oj=>match oj.dst with
     |some t=>match T t with
       |some (.e .bo q)=>some (.cd (AX j w) (vS w q) t j (.bit j q) true)
       |some (.bit j' q)=>match aX j' j with
         |true=>some (.cd (AX j w) (vS w q) t j (.bit j q) false)
         |false=>none
       |some (.eO key c (.e .bo q))=>some (.cd (AX j w) (c&&vS w q) t j (.eO key c (.bit j q)) true)
       |some (.eO key c (.bit j' q))=>match aX j' j with
         |true=>some (.cd (AX j w) (c&&vS w q) t j (.eO key c (.bit j q)) false)
         |false=>none
       |some (.aT [])=>some .off
       |some (.v (.bool b))=>some (.kn (match b,w with|true,true=>true|false,false=>true|_,_=>false))
       |_=>none
     |none=>none
   |none=>none
def qI(j:Nat):X->Bool
 |.bit j' _=>aX j' j
 |.eO key _ x=>aX key (2*j)||aX key (2*j+1)||(match x with |.bit j' _=>aX j' j |_=>false)
 |_=>false
def FX(j:Nat):XT->Bool
 |[]=>true
 |(_,x)::l=>match qI j x with|true=>false|false=>FX j l
def lH:XT->Bool
 |[]=>true
 |(_,x)::l=>match x.pl with|true=>lH l|false=>false
def qM:XT->(XT->O)->O
 |[],f=>f []
 |(t,x)::l,f=>match x with
   |.bit _ q=>qM l λl'=>f ((t,.e .bo q)::l')
   |.eO ..=>qM l λl'=>pM t l' f
   |.v (.bool q)=>qM l λl'=>f ((t,.e .bo q)::l')
   |x=>qM l λl'=>f ((t,x)::l')
def R6:Wx->O->O
 |[],k=>k
 |_,_=>none
def CI(c:Cx)(σ:Sg)(T:XT)(st:Bool)(o:Oper)(m:Nat)(K:Exit->Sg->O)(next:Sg->O):O:=
 Ku c ⟨λt=>lk t T,λk=>lk k σ.H,none⟩ σ.N o
  (λx W=>s9 o.dst x T λT=>nT W σ.H λH=>next ⟨T,H,σ.N+8⟩)
  (λv W=>nT W σ.H λH=>qM T λT=>K (.panic [qN v]) ⟨T,H,σ.N+8*m⟩)
  (eI c ⟨λt=>lk t T,λk=>lk k σ.H,none⟩ σ.N st o λx W=>s9 o.dst x T λT=>nT W σ.H λH=>next ⟨T,H,σ.N+8⟩)
def CF(σ:Sg)(T:XT)(o:Oper)(next:Sg->O):O:=s9 o.dst (.aT []) T λT=>next ⟨T,σ.H,σ.N+8⟩
def jR(c:Cx)(stF:List Nat)(all:List Oper):List Oper->Nat->Sg->(Exit->Sg->O)->O
 |[],_,σ,k=>qM σ.T λT=>k .normal ⟨T,σ.H,σ.N⟩
 |o::rest,i,σ,k=>ob (L3 o all λt=>lk t σ.T) λg=>match g with
   |.on=>CI c σ σ.T (!(stF.contains i)) o (rest.length+1) k λσ'=>jR c stF all rest (i+1) σ' k
   |.off=>CF σ σ.T o λσ'=>jR c stF all rest (i+1) σ' k
   |.kn true=>CI c σ σ.T (!(stF.contains i)) o (rest.length+1) k λσ'=>jR c stF all rest (i+1) σ' k
   |.kn false=>CF σ σ.T o λσ'=>jR c stF all rest (i+1) σ' k
   |.cd key b t j y new=>match stF.contains (i+1000)with
     |true=>match y,new,o.guard with
       |.bit _ q,true,some (_,w)=>br q
         (iW t (.v (.bool true)) σ.T λT=>match w with
          |true=>CI c σ T (!(stF.contains i)) o (rest.length+1) k λσ'=>jR c stF all rest (i+1) σ' k
          |false=>CF σ T o λσ'=>jR c stF all rest (i+1) σ' k)
         (iW t (.v (.bool false)) σ.T λT=>match w with
          |true=>CF σ T o λσ'=>jR c stF all rest (i+1) σ' k
          |false=>CI c σ T (!(stF.contains i)) o (rest.length+1) k λσ'=>jR c stF all rest (i+1) σ' k)
       |_,_,_=>none
     |false=>match !new||FX j σ.T with
       |true=>iW t y σ.T λT=>match aDE o.op&&!(stF.contains i)with
         |true=>eI c ⟨λt=>lk t T,λk=>lk k σ.H,some (key,b)⟩ σ.N (!(stF.contains i)) o λx W=>R6 W (s9 o.dst (.eO key b x) T λT=>jR c stF all rest (i+1) ⟨T,σ.H,σ.N+8⟩ k)
         |false=>br b
           (eI c ⟨λt=>lk t T,λk=>lk k σ.H,some (key,b)⟩ σ.N (!(stF.contains i)) o λx W=>s9 o.dst x T λT=>nT W σ.H λH=>jR c stF all rest (i+1) ⟨T,H,σ.N+8⟩ k)
           (s9 o.dst (.aT []) T λT=>jR c stF all rest (i+1) ⟨T,σ.H,σ.N+8⟩ k)
       |false=>none
abbrev Rx:=List (X×Wx)
def K1(σ:Vw)(dst:Option Tmp)(x:X)(W:Wx):Vw:=⟨λt=>match dst with|some t'=>(match aX t' t with|true=>some x|false=>σ.T t)|none=>σ.T t,λk=>match lk k W with|some r=>r|none=>σ.H k,none⟩
def nW(dst:Nat->Option Tmp)(S:Nat->Bool):Nat->Rx->Vw->Vw
 |_,[],σ=>σ
 |i,(x,W)::rs,σ=>nW dst S (i+1) rs (match S i with|true=>K1 σ (dst i) x W|false=>σ)
def jZ(ops:Array Oper)(pre kl:List (List Nat))(fr i:Nat)(rs:Rx)(σ:Vw)(g:Option (Nat×Bool)):Vw:=
 ⟨λt=>match(fJ ops.size).any (λp=>apart pre i p&&(Region.dP ops p == some t))with|true=>none|false=>(nW (Region.dP ops) (λj=>(pre.getD i []).contains j) 0 rs σ).T t,
  λk=>match(fJ ops.size).any (λp=>apart pre i p&&eB kl fr p k)with|true=>none|false=>(nW (Region.dP ops) (λj=>(pre.getD i []).contains j) 0 rs σ).H k,g⟩
def CG(j:Nat)(y:X)(rs:Rx)(f:Rx->O):O:=match rs[j]? with
 |some (_,W)=>f (gJ (y,W) j rs)
 |none=>none
def AE(t:Tmp)(j:Nat):Nat->List Oper->Bool
 |_,[]=>true
 |p,o::l=>match o.dst with
   |some t'=>match aX t' t&&!(aX p j)with|true=>false|false=>AE t j (p+1) l
   |none=>AE t j (p+1) l
def FY(j:Nat):Rx->Bool
 |[]=>true
 |(x,_)::l=>match qI j x with|true=>false|false=>FY j l
def aCO(pre:List (List Nat))(n i:Nat):Bool:=(fJ n).all λp=>j3 p i||(pre.getD p []).contains i
def LL:Rx->Bool
 |[]=>true
 |(_,[])::l=>LL l
 |_::_=>false
def CJ(c:Cx)(stF:List Nat)(ops:Array Oper)(pre kl:List (List Nat))(fr:Nat)(σ:Vw)(HL:XH)(K:Exit->Sg->O)(o:Oper)(i:Nat)(rs:Rx)(next:Rx->O):O:=
 Ku c (jZ ops pre kl fr i rs σ none) (fr+8*i) o
  (λx W=>match W.all (λp=>eB kl fr i p.1)with
  |true=>next (rs++[(x,W)])
  |false=>none)
  (λv W=>match aCO pre ops.size i&&LL rs with
  |true=>nT W HL λH=>K (.panic [qN v]) ⟨[],H,fr+8*ops.size⟩
  |false=>none)
  (eI c (jZ ops pre kl fr i rs σ none) (fr+8*i) (!(stF.contains i)) o λx W=>match W.all (λp=>eB kl fr i p.1)with
  |true=>next (rs++[(x,W)])
  |false=>none)
def kH(c:Cx)(stF:List Nat)(ops:Array Oper)(pre kl:List (List Nat))(fr:Nat)(σ:Vw)(HL:XH)(K:Exit->Sg->O):List Oper->Nat->Rx->(Rx->O)->O
 |[],_,rs,k=>k rs
 |o::rest,i,rs,k=>ob (L3 o ops.toList (jZ ops pre kl fr i rs σ none).T) λg=>match g with
   |.on=>CJ c stF ops pre kl fr σ HL K o i rs λrs=>kH c stF ops pre kl fr σ HL K rest (i+1) rs k
   |.off=>kH c stF ops pre kl fr σ HL K rest (i+1) (rs++[(.aT [],[])]) k
   |.kn true=>CJ c stF ops pre kl fr σ HL K o i rs λrs=>kH c stF ops pre kl fr σ HL K rest (i+1) rs k
   |.kn false=>kH c stF ops pre kl fr σ HL K rest (i+1) (rs++[(.aT [],[])]) k
   |.cd key b t j y new=>match stF.contains (i+1000)with
     |true=>match y,new,o.guard,AE t j 0 ops.toList&&(pre.getD i []).contains j with
       |.bit _ q,true,some (_,w),true=>br q
         (CG j (.v (.bool true)) rs λrs=>match w with
          |true=>CJ c stF ops pre kl fr σ HL K o i rs λrs=>kH c stF ops pre kl fr σ HL K rest (i+1) rs k
          |false=>kH c stF ops pre kl fr σ HL K rest (i+1) (rs++[(.aT [],[])]) k)
         (CG j (.v (.bool false)) rs λrs=>match w with
          |true=>kH c stF ops pre kl fr σ HL K rest (i+1) (rs++[(.aT [],[])]) k
          |false=>CJ c stF ops pre kl fr σ HL K o i rs λrs=>kH c stF ops pre kl fr σ HL K rest (i+1) rs k)
       |_,_,_,_=>none
     |false=>match(!new||FY j rs)&&(AE t j 0 ops.toList&&(pre.getD i []).contains j)with
       |true=>CG j y rs λrs=>match aDE o.op&&!(stF.contains i)with
         |true=>eI c (jZ ops pre kl fr i rs σ (some (key,b))) (fr+8*i) (!(stF.contains i)) o λx W=>R6 W (kH c stF ops pre kl fr σ HL K rest (i+1) (rs++[(.eO key b x,[])]) k)
         |false=>br b
           (eI c (jZ ops pre kl fr i rs σ (some (key,b))) (fr+8*i) (!(stF.contains i)) o λx W=>match W.all (λp=>eB kl fr i p.1)with
            |true=>kH c stF ops pre kl fr σ HL K rest (i+1) (rs++[(x,W)]) k
            |false=>none)
           (kH c stF ops pre kl fr σ HL K rest (i+1) (rs++[(.aT [],[])]) k)
       |false=>none
def L9:List Oper->Rx->XT->XH->(XT->XH->O)->O
 |o::ops,(x,W)::rs,T,H,k=>s9 o.dst x T λT'=>nT W H λH'=>L9 ops rs T' H' k
 |_,_,T,H,k=>k T H
inductive Mv where
 |lZ (t:Nat)
 |kG (t:Nat) (o:XO)
 |R8 (t i:Nat) (o:XO)
 |fz (t:Nat) (τ:Ty)
 |cv (t i:Nat) (τ:Ty)
 |rn (t i:Nat)
 |aTy (t x:Nat)
 |bk (t:Nat)
structure Nm where
 ts:List Nat
 gv:List (Nat×Ty)
 mv:List Mv
inductive Hint:Type 1 where
 |d
 |seq (a b:Hint)
 |cond (a b:Hint)
 |block (a:Hint)
 |jS (stF:List Nat) (mv:List Mv) (kl:List (List Nat))
 |sub (nm:Nm) (Y1 Y2 Y3:Type) (I1:Y1->Exit×Sg) (I2:Y2->Exit×Sg) (I3:Y3->Exit×Sg) (L:Sg->(Y1->O)->(Y2->O)->(Y3->O)->O)
def Li:XO->Bool
 |.row _ _ [] _=>true
 |.nest _ _ _ []=>true
 |.bI _ _ _ _ [] none=>true
 |_=>false
def Qt(e:TypeId)(κ:Ty):(ρ:Ty)->List (List κ.V×ρ.V)->XO
 |.un,l=>.row e (.sl κ) (l.map λx=>x.1) true
 |ρ,l=>.row e (.pr (.sl κ) ρ) l true
def Ef:XO->Option XO
 |.row e τ xs false=>some (.row e τ xs true)
 |.nest e _ τ l=>match τ.one with|true=>some (.row e (.sl τ) l true)|false=>none
 |.bI e _ κ ρ l none=>some (Qt e κ ρ l)
 |_=>none
def Kf(q:Nat)(σ:Sg)(k:Sg->O):O:=match lk q σ.H with
 |some o=>match Ef o with
   |some o'=>iW q o' σ.H λH=>k ⟨σ.T,H,σ.N⟩
   |none=>k σ
 |none=>k σ
def R9(q i:Nat)(o:XO)(σ:Sg)(k:Sg->O):O:=match lk q σ.H with
 |some (.box e' xs)=>match xs[i]? with
   |some .dE=>iW q (.box e' (gJ (.own σ.N) i xs)) σ.H λH=>iW σ.N o H λH=>k ⟨σ.T,H,σ.N+8⟩
   |_=>k σ
 |_=>k σ
def Sm(q i:Nat)(τ:Ty)(σ:Sg)(k:Sg->O):O:=match lk q σ.H with
 |some (.box e xs)=>match xs[i]? with
   |some x=>match τ.one with
     |true=>match iN τ (Vw.iE ⟨λt=>lk t σ.T,λk=>lk k σ.H,none⟩ x)with
       |some y=>iW q (.box e (gJ (.e τ y) i xs)) σ.H λH=>k ⟨σ.T,H,σ.N⟩
       |none=>k σ
     |false=>k σ
   |none=>k σ
 |_=>k σ
def Qx(q i:Nat)(σ:Sg)(k:Sg->O):O:=match lk q σ.H with
 |some (.box e xs)=>match xs[i]? with
   |some (.own q')=>match lk q' σ.H with
     |some o=>match j3 50 q'&&nD q' 100&&!(aX q' q)with
       |true=>iW q (.box e (gJ (.own σ.N) i xs)) σ.H λH=>pM q' H λH=>iW σ.N o H λH=>k ⟨σ.T,H,σ.N+8⟩
       |false=>k σ
     |none=>k σ
   |_=>k σ
 |_=>k σ
def Ry(q:Nat)(n:Int)(σ:Sg)(k:Sg->O):O:=match lk q σ.H with
 |some (.bI e e' κ ρ l none)=>gx l n λy=>iW q (.bI e e' κ ρ l (some (n,σ.N))) σ.H λH=>iW σ.N (.row e' κ y.1 false) H λH=>k ⟨σ.T,H,σ.N+8⟩
 |_=>k σ
def TL(q:Nat)(σ:Sg)(k:Sg->O):O:=match lk q σ.H with
 |some (.bI e e' κ ρ l (some (n,f)))=>match lk f σ.H with
   |some (.row e1 κ1 xs false)=>match eS κ1 κ with
     |some ⟨h⟩=>match aX e1 e'&&!(aX f q)with
       |true=>gx l n λy=>iW q (.bI e e' κ ρ (l.set n.toNat (jB (aO Ty.sl h) xs,y.2)) none) σ.H λH=>pM f H λH=>k ⟨σ.T,H,σ.N⟩
       |false=>k σ
     |none=>k σ
   |_=>k σ
 |_=>k σ
def aTw(x:Nat)(n:Int):Int:=match j3 1000 x with|true=>n-1|false=>n
def Ri(m:Mv)(σ:Sg)(k:Sg->O):O:=match m with
 |.lZ t=>match lk t σ.T with
   |some (.own q)=>Kf q σ k
   |some (.ref q 0)=>match lk q σ.H with
     |some (.box _ (.own q'::_))=>Kf q' σ k
     |_=>k σ
   |_=>k σ
 |.kG t o=>match lk t σ.T,Li o with
   |some .dE,true=>iW t (.own σ.N) σ.T λT=>iW σ.N o σ.H λH=>k ⟨T,H,σ.N+8⟩
   |_,_=>k σ
 |.R8 t i o=>match lk t σ.T,Li o with
   |some (.ref q 0),true=>R9 q i o σ k
   |_,_=>k σ
 |.fz t τ=>match lk t σ.T with
   |some (.ref q 0)=>match lk q σ.H with
     |some (.box _ xs)=>match tH τ xs with
       |some y=>iW t (.pt τ y 0) σ.T λT=>pM q σ.H λH=>k ⟨T,H,σ.N⟩
       |none=>k σ
     |_=>k σ
   |_=>k σ
 |.cv t i τ=>match lk t σ.T with
   |some (.ref q 0)=>Sm q i τ σ k
   |_=>k σ
 |.rn t i=>match lk t σ.T with
   |some (.ref q 0)=>Qx q i σ k
   |_=>k σ
 |.aTy t x=>match lk t σ.T,lk (x%1000) σ.T with
   |some (.own q),some (.e (.i _) n)=>Ry q (aTw x n) σ k
   |_,_=>k σ
 |.bk t=>match lk t σ.T with
   |some (.own q)=>TL q σ k
   |_=>k σ
def LN:List Mv->Sg->(Sg->O)->O
 |[],σ,k=>k σ
 |m::l,σ,k=>Ri m σ λσ=>LN l σ k
def TP(σ:Vw)(τ:Ty)(x:X):X:=match iN τ (σ.lI x)with|some y=>gT τ y|none=>x
def Kt(σ:Sg)(gv:List (Nat×Ty)):List Nat->Option XT
 |[]=>some []
 |t::l=>match lk t σ.T with
   |some x=>match Kt σ gv l with
     |some r=>some ((t,match lk t gv with|some τ=>TP σ.vw τ x|none=>x)::r)
     |none=>none
   |none=>none
def Rg:XT->List Nat->List Nat
 |[],acc=>acc
 |(_,x)::l,acc=>Rg l (Rf x acc)
def handed:XH->List Nat
 |[]=>[]
 |(k,_)::l=>match j3 50 k&&nD k 100 with|true=>k::handed l|false=>handed l
def live(H:XH):List Nat:=(handed H).filter λk=>(reach (λj=>lk j H) 60 [k] []).all λq=>(lk q H).isSome
def qW(k:Nat):Bool:=j3 50 k&&nD k 100
def iP:Nat->List Nat->List (Nat×Nat)
 |_,[]=>[]
 |n,k::l=>match qW k with|true=>iP n l|false=>(n,k)::iP (n+1) l
def Eg:List Nat->List (Nat×Nat)
 |[]=>[]
 |k::l=>match qW k with|true=>(k,k)::Eg l|false=>Eg l
def pB(rn:List (Nat×Nat))(k:Nat):Option Nat:=match qW k with|true=>some k|false=>old rn k
def Ek(rn al:List (Nat×Nat))(lo hi:Nat):Bool:=rn.all (λp=>j3 lo p.1&&nD p.1 hi&&!(qW p.1)&&(match lk p.1 rn with |some q=>aX q p.2 |none=>false))&&nodupB (al.map (·.2))&&al.all (λp=>(qW p.1&&aX p.1 p.2)||(match lk p.1 rn with |some q=>aX q p.2 |none=>false))
def Kk(f:Nat->Option Nat):XT->Option XT
 |[]=>some []
 |(t,x)::l=>match fG f x with
   |some y=>match Kk f l with|some r=>some ((t,y)::r)|none=>none
   |none=>none
def AM(nm:Nm)(σ:Sg)(k:Sg->O):O:=LN nm.mv σ λσ=>ob (Kt σ nm.gv nm.ts) λT=>
 match reach σ.vw.H 60 (Rg T (handed σ.H)) []with
 |ns=>match iP 0 ns with
   |rn=>match Eg ns++rn with
     |al=>match Ek rn al 0 50 with
       |true=>ob (Kk (pB rn) T) λT'=>ob (nY (pB rn) σ.vw.H al) λH'=>k ⟨T',H',100⟩
       |false=>none
def Et:List Oper->List (List Nat)->List (List Nat)
 |[],acc=>acc
 |o::l,acc=>Et l (acc++[o.after.toList.foldl (λs e=>match Region.binds .any e with|true=>(acc.getD e.on []).foldl (λs q=>ins q s) (ins e.on s)|false=>s) []])
def F4(M:Nat):List Oper->Bool
 |[]=>true
 |o::l=>match o.dst with
   |some t=>match nD t M with|true=>F4 M l|false=>false
   |none=>F4 M l
def Km(c:Cx)(M:Nat)(stF:List Nat)(mv:List Mv)(kl:List (List Nat))(ops:Array Oper)(draw:Bool)(σ:Sg)(k:Exit->Sg->O):O:=LN mv σ λσ=>match lH σ.T with
 |false=>none
 |true=>match draw with
   |false=>match F4 M ops.toList with
     |true=>jR c stF ops.toList ops.toList 0 σ k
     |false=>none
   |true=>match Cj ops (Et ops.toList []) kl σ.N M with
     |true=>kH c stF ops (Et ops.toList []) kl σ.N σ.vw σ.H k ops.toList 0 [] λrs=>L9 ops.toList rs σ.T σ.H λT H=>qM T λT=>k .normal ⟨T,H,σ.N+8*ops.size⟩
     |false=>none
def kk(k:Exit->Sg->O)(p:Exit×Sg):O:=match p.1 with|.goto _=>none|e=>k e p.2
def exec(c:Cx)(M:Nat)(h:Hint)(code:Code)(σ:Sg)(k:Exit->Sg->O):O:=match h with
 |.sub nm _ _ _ I1 I2 I3 L=>AM nm σ λσ'=>L σ' (λy=>kk k (I1 y)) (λy=>kk k (I2 y)) (λy=>kk k (I3 y))
 |h=>match code with
   |.skip=>k .normal σ
   |.label _=>k .normal σ
   |.exit id=>k (.exit id) σ
   |.ret=>k .ret σ
   |.region _ ops draw=>match h with
     |.jS stF mv kl=>Km c M stF mv kl ops draw σ k
     |_=>Km c M [] [] [] ops draw σ k
   |.seq a b=>exec c M (match h with|.seq x _=>x|_=>.d) a σ λe σ'=>match e with
     |.normal=>exec c M (match h with|.seq _ y=>y|_=>.d) b σ' k
     |e=>k e σ'
   |.cond x a b=>ob (σ.vw.ev x) λv=>match v with
     |.e .bo q=>br q (exec c M (match h with|.cond x _=>x|_=>.d) a σ k) (exec c M (match h with|.cond _ y=>y|_=>.d) b σ k)
     |_=>none
   |.block id a=>exec c M (match h with|.block x=>x|_=>.d) a σ λe σ'=>match e with
     |.exit id'=>match aX id' id with|true=>k .normal σ'|false=>k (.exit id') σ'
     |e=>k e σ'
   |.scope a=>exec c M (match h with|.block x=>x|_=>.d) a σ λe σ'=>match e with
     |.goto _=>none
     |e=>k e σ'
   |_=>none
termination_by structural code
def aV3:Exit->Exit->Bool
 |.normal,.normal=>true
 |.ret,.ret=>true
 |.exit a,.exit b=>aX a b
 |.panic _,.panic _=>true
 |_,_=>false
def RI(out:List (Exit×Nm))(e:Exit):Option Nm:=match out with
 |[]=>none
 |(e',nm)::l=>match aV3 e' e with|true=>some nm|false=>RI l e
def dQ(nm:Nm)(out:List (Exit×Nm))(self:Sg->O)(K:Exit->Sg->O)(e:Exit)(σ:Sg):O:=match e with
 |.normal=>AM nm σ self
 |e=>ob (RI out e) λnm'=>AM nm' σ (K e)
def iQ(c:Cx)(M:Nat)(h:Hint)(body:Code)(nm:Nm)(out:List (Exit×Nm)):Nat->Sg->(Exit->Sg->O)->O
 |0,_,_=>none
 |n+1,σ,K=>exec c M h body σ (dQ nm out (λσ'=>iQ c M h body nm out n σ' K) K)
def Ew(out:List (Exit×Nm))(K:Exit->Sg->O)(e:Exit)(σ:Sg):O:=ob (RI out e) λnm'=>AM nm' σ (K e)
def Kj(P:Program)(σ:Sg):ResultVar->Option X
 |.tmp t=>lk t σ.T
 |.cell p t=>match lk p σ.T with
   |some (.ref q 0)=>match lk q σ.H with
     |some (.box _ xs)=>match iX P t,fN P t,xs with
       |some true,some m,xs=>match aX xs.length m with|true=>some (.agg xs)|false=>none
       |some false,_,[x]=>some x
       |_,_,_=>none
     |_=>none
   |_=>none
def lF:XH->XH
 |[]=>[]
 |(k,.row e τ l _)::H=>(k,.row e τ l true)::lF H
 |(k,.nest e e' τ l)::H=>(k,match τ.one with|true=>.row e (.sl τ) l true|false=>.nest e e' τ l)::lF H
 |(k,.bI e _ κ ρ l none)::H=>(k,Qt e κ ρ l)::lF H
 |p::H=>p::lF H
def cC:Nat->List X->XT
 |_,[]=>[]
 |t,x::l=>(t,x)::cC (t+1) l
def Ke(ow:Bool)(σ:Sg):Sg:=match ow with|true=>σ|false=>⟨σ.T,lF σ.H,σ.N⟩
def TB(c:Cx)(fn:Func)(ow:Bool)(σ:Sg)(xs:List X):List X:=match ow with|true=>xs|false=>Ch c σ.vw fn.resultTypes.toList xs
def Ld(ch:List PanicEntry)(σ:Sg):O:=match ch with
 |[p]=>match p.recovered||p.goexit with
   |true=>none
   |false=>match reach σ.vw.H 60 (handed σ.H) []with
     |ns=>match iP 100 ns with
       |rn=>match Eg ns++rn with
         |al=>match Ek rn al 100 108 with
           |true=>ob (nY (pB rn) σ.vw.H al) λH'=>some (.iO p.v,H')
           |false=>none
 |_=>none
def C7(c:Cx)(fn:Func)(ow:Bool)(e:Exit)(σ:Sg):O:=match(match e with|.normal=>true|.ret=>true|_=>false)with
 |true=>match Ke ow σ with
   |σ=>ob (vC (Kj c.P σ) fn.results.toList) λxs=>
   match TB c fn ow σ xs with
   |ys=>match reach σ.vw.H 60 (jV ys (live σ.H)) []with
       |ns=>match iP 100 ns with
         |rn=>match Eg ns++rn with
           |al=>match Ek rn al 100 108 with
             |true=>ob (mM (pB rn) ys) λzs=>ob (nY (pB rn) σ.vw.H al) λH'=>match zs with
               |[z]=>some (z,H')
               |[]=>some (.aT [],H')
               |[x,y]=>some (.aT [x,y],H')
               |[x,y,z]=>some (.aT [x,y,z],H')
               |[x,y,z,u]=>some (.aT [x,y,z,u],H')
               |[x,y,z,u,v]=>some (.aT [x,y,z,u,v],H')
               |_=>none
             |false=>none
 |false=>none
def cJ(c:Cx)(fn:Func)(ow:Bool)(e:Exit)(σ:Sg):O:=match e with
 |.panic ch=>Ld ch σ
 |e=>C7 c fn ow e σ
noncomputable def aW{ι Y1 Y2 Y3:Type}(I:ι->Sg)(un:Sg->ι)(L:ι->(Y1->O)->(Y2->O)->(Y3->O)->O)(σ:Sg)(k1:Y1->O)(k2:Y2->O)(k3:Y3->O):O:=
 @ite _ (σ=I (un σ)) (Classical.propDecidable _) (L (un σ) k1 k2 k3) none
def aR(n:Nat)(_:Unit):Exit×Sg:=(.goto n,⟨[],[],100⟩)
def lvX(τ:Ty)(x:Option X):τ.V:=match x with
 |some (.e τ' y)=>(match eS τ' τ with|some ⟨h⟩=>jB h y|none=>τ.zero)
 |some (.pt τ' y _)=>(match eS τ' τ with|some ⟨h⟩=>jB h y|none=>τ.zero)
 |_=>τ.zero
def aG(τ:Ty)(t i:Nat)(σ:Sg):τ.V:=match lk t σ.T with
 |some x=>lvX τ (match x with|.agg xs=>xs[i]?|.aT xs=>xs[i]?|.fn _ xs=>xs[i]?|x=>some x)
 |none=>τ.zero
def cI(τ:Ty)(q:Nat)(σ:Sg):List τ.V:=match lk q σ.H with
 |some (.row _ τ' l _)=>(match eS τ' τ with|some ⟨h⟩=>jB (aO Ty.sl h) l|none=>[])
 |_=>[]
def vO{δ:Type}(cE:List X->XH->Option δ)(p:δ->Bool)(R:δ->aH):bO:=λxs H=>match cE xs H with
 |some d=>some (p d,R d)
 |none=>none
def E0(f:Bool×aH):bO:=λxs H=>match xs,H with|[],[]=>some f|_,_=>none
def E1(a:Ty)(f:a.V->Bool×aH):bO:=λxs H=>match xs,H with
 |[x],[]=>match iN a x with|some x=>some (f x)|none=>none
 |_,_=>none
def E2(a b:Ty)(f:a.V->b.V->Bool×aH):bO:=λxs H=>match xs,H with
 |[x,y],[]=>match iN a x with|some x=>(match iN b y with|some y=>some (f x y)|none=>none)|none=>none
 |_,_=>none
def E3(a b d:Ty)(f:a.V->b.V->d.V->Bool×aH):bO:=λxs H=>match xs,H with
 |[x,y,z],[]=>match iN a x with|some x=>(match iN b y with|some y=>(match iN d z with|some z=>some (f x y z)|none=>none)|none=>none)|none=>none
 |_,_=>none
def E4(a b d e:Ty)(f:a.V->b.V->d.V->e.V->Bool×aH):bO:=λxs H=>match xs,H with
 |[x,y,z,u],[]=>match iN a x with|some x=>(match iN b y with|some y=>(match iN d z with|some z=>(match iN e u with|some u=>some (f x y z u)|none=>none)|none=>none)|none=>none)|none=>none
 |_,_=>none
def v8(a:Ty)(g:FuncId)(f:a.V->Bool×aH):bO:=λxs H=>match xs,H with
 |[x,.fn g' []],[]=>match aX g' g with
   |true=>match iN a x with|some x=>some (f x)|none=>none
   |false=>none
 |_,_=>none
def Tm(a b:Ty)(g:FuncId)(f:a.V->b.V->Bool×aH):bO:=λxs H=>match xs,H with
 |[x,y,.fn g' []],[]=>match aX g' g with
   |true=>match iN a x with
     |some x=>match iN b y with|some y=>some (f x y)|none=>none
     |none=>none
   |false=>none
 |_,_=>none
def Tl(f g:bO):bO:=λxs H=>match f xs H with|some r=>some r|none=>g xs H
def ue(τ:Ty):X->Option τ.V
 |.e τ' x=>match eS τ' τ with|some ⟨h⟩=>some (jB h x)|none=>none
 |_=>none
def ur(e:TypeId)(τ:Ty)(st:Bool):XO->Option (List τ.V)
 |.row e' τ' l st'=>match aX e' e&&(st' == st)with
   |true=>match eS τ' τ with|some ⟨h⟩=>some (jB (aO Ty.sl h) l)|none=>none
   |false=>none
 |_=>none
def uq(e e1:TypeId)(τ:Ty):XO->Option (List (List τ.V))
 |.nest e' e1' τ' l=>match aX e' e&&aX e1' e1 with
   |true=>match eS τ' τ with|some ⟨h⟩=>some (aDS h l)|none=>none
   |false=>none
 |_=>none
end
instance std:aA:=⟨br0,ck0,vK,FU,SU⟩
end Go.Ax
/- What data of the run mean: trees of values. -/
namespace Go.Ax
open aA
open Go.RowKit Go.Ab
mutual
def tN:Ex->List Tree
 |.mk a n ks=>[.v (.int .i64 a),.v (.int .i64 n),.sl ks.length (Lh ks)]
def Lh:List Ex->List Tree
 |[]=>[]
 |x::l=>tN x++Lh l
end
def aI:(τ:Ty)->τ.V->List Tree
 |.i k,x=>[.v (.int k x)]
 |.u8,x=>[.v (.int .u8 (gZ x))]
 |.bo,x=>[.v (.bool x)]
 |.tx,x=>[.v (.string ⟨⟨x⟩⟩)]
 |.ex,x=>tN x
 |.un,_=>[]
 |.sl e,l=>[.sl (dX l) (bZ (aI e) l)]
 |.pr a b,x=>aI a x.1++aI b x.2
def oF(τ:Ty)(x:τ.V):Tree:=(aI τ x).headD (.sl 0 [])
theorem aCu:∀l:List Ex,Lh l=l.flatMap tN
 |[]=>rfl
 |x::l=>by rw[Lh,aCu l];rfl
theorem aVl(x:Ex):tN x=[.v (.int .i64 (Ex.op x)),.v (.int .i64 (Ex.num x)),.sl (dX (Ex.kids x)) ((Ex.kids x).flatMap tN)]:=by
 cases x with|mk a n ks=>rw[tN,aCu];rfl
theorem Cc(x:Ex):aI .ex x=[.v (.int .i64 (Ex.op x)),.v (.int .i64 (Ex.num x)),.sl (dX (Ex.kids x)) ((Ex.kids x).flatMap tN)]:=aVl x
theorem cW:∀(τ:Ty)(x:τ.V),(aI τ x).length=τ.size
 |.i _,_=>rfl
 |.u8,_=>rfl
 |.bo,_=>rfl
 |.tx,_=>rfl
 |.ex,x=>by have:=aO dX (Cc x);exact this
 |.un,_=>rfl
 |.sl _,_=>rfl
 |.pr a b,x=>by rw[aI,List.length_append,cW a,cW b];rfl
theorem F2{τ:Ty}(h:τ.one=true)(x:τ.V):aI τ x=[oF τ x]:=by
 cases τ <;> first|rfl|cases h
theorem aQ9{τ:Ty}(h:τ.one=true):τ.size=1:=by cases τ <;> first|rfl|cases h
def qH:Nat->Value->Value->Prop
 |0,a,v=>v = .pointer none\/v=a
 |1,a,v=>∃p,v = .pointer p/\∀x n c,a = .slice x n c->0<n->p=x
 |j+2,_,v=>(j=1/\v = .nilIface)\/(j≠1/\∃te pe,v = .iface te pe)
mutual
def X.D:X->D
 |.e τ x=>match τ.one with|true=>.t (oF τ x)|false=>.any
 |.dE=>.t (.v (.slice none 0 0))
 |.agg xs=>.agg (Ds xs)
 |.aT xs=>.aT (Ds xs)
 |.own k=>.own k
 |.ref k off=>.ref k off
 |.rr k i j s=>.ref k (i*s+j)
 |.pt τ y j=>.ptr (aI τ y) j
 |.fn f xs=>.fn f (Ds xs)
 |.v w=>.t (.v w)
 |.bit _ q=>.t (.v (.bool q))
 |.eO _ c x=>match c with|true=>X.D x|false=>.aT []
 |.sub k i=>.sub k i
 |.gM k i j=>.gM k i j
 |.vw k i n s=>.vw k (i*s) n
 |.via k j=>.via k (qH j)
 |.iO _=>.any
def Ds:List X->List D
 |[]=>[]
 |x::l=>X.D x::Ds l
end
theorem aC6(g:Nat):(FW g).D=L7 g:=rfl
theorem fA:∀l:List X,Ds l=l.map X.D
 |[]=>rfl
 |x::l=>by rw[Ds,fA l];rfl
def kv:(τ:Ty)->τ.V->Value
 |.i k,x=>.int k x
 |.u8,x=>.int .u8 (gZ x)
 |.bo,x=>.bool x
 |.tx,x=>.string ⟨⟨x⟩⟩
 |_,_=>.nilFunc
def eQ{κ ρ:Ty}(x:List κ.V×ρ.V):List NC:=.cE (dX x.1) (bZ (aI κ) x.1)::(aI ρ x.2).map λt=>.dH (.t t)
def jA(m:Nat)(cs:List NC):Option (Int×Nat)->List NC
 |none=>cs
 |some (i,q)=>cs.set (i.toNat*m) (.dH (.own q))
def XO.A:XO->aM
 |.bI e e' κ ρ l ln=>.bI e e' (1+ρ.size) κ.size l.length (jA (1+ρ.size) (bZ eQ l) ln)
 |.box e xs=>.box e (xs.map X.D)
 |.row e τ l st=>.row e τ.size l.length (l.flatMap (aI τ)) st
 |.nest e e' τ l=>.nest e e' τ.size (l.map λr=>(dX r,bZ (aI τ) r))
 |.mp τ l=>.mp (l.map λp=>(kv τ p.1,p.2.D))
 |.it s pos=>.it ⟨s.toArray⟩ pos.toNat
theorem pK{τ:Ty}(h:τ.one=true)(x:τ.V):(X.e τ x).D = .t (oF τ x):=by unfold X.D;rw[h]
theorem Cg:∀(τ:Ty)(x:τ.V),(vR τ x).map X.D=(aI τ x).map .t
 |.un,_=>rfl
 |.i _,_=>rfl
 |.u8,_=>rfl
 |.bo,_=>rfl
 |.tx,_=>rfl
 |.ex,x=>by
   have:=aO (List.map D.t) (Cc x);exact this.symm
 |.sl _,_=>rfl
 |.pr a b,x=>by rw[vR,aI,l7,l7,Cg a,Cg b]
theorem aDR{a b:Ty}(h:a=b)(x:a.V):aI b (jB h x)=aI a x:=by subst h;rfl
theorem bR.nil{H:Nat->Option aM}:bR H (.t (.v (.slice none 0 0))) (.t (.sl 0 [])):=λ_ _ _ _ _ _ _ _ v hv=>by
 have:=bY hv;subst this;exact .t (.nil λ_=>rfl)
theorem bR.own{H:Nat->Option aM}{k:Nat}{e:TypeId}{s n:Nat}{ts:List Tree}(h:H k=some (.row e s n ts true)):bR H (.own k) (.t (.sl n ts)):=λ_ _ _ _ _ _ hH I v hv=>by
 cases hv with|own _ _=>exact .t (I.rows _ _ _ _ _ _ (hH _ _ h) rfl)
theorem pA{H:Nat->Option aM}{τ:Ty}{x:X}{y:τ.V}(h1:τ.one=true)(h:one? τ x=some y):bR H x.D (.t (oF τ y)):=by
 unfold one? at h;split at h
 .rename_i τ' z
  split at h
  .rename_i he _
   cases h;have e:=he;subst e;rw[pK h1];exact bR.refl
  .cases h
 .split at h
  .cases h;exact bR.nil
  .cases h
 .cases h
inductive dM (H:Nat->Option aM):List D->List D->Prop
 |nil:dM H [] []
 |cons {a b:D} {l m:List D} (h:bR H a b) (r:dM H l m):dM H (a::l) (b::m)
theorem dM.refl{H:Nat->Option aM}:∀{l:List D},dM H l l
 |[]=>.nil
 |_::_=>.cons bR.refl dM.refl
theorem dM.trans{H:Nat->Option aM}:∀{a b c:List D},dM H a b->dM H b c->dM H a c
 |_,_,_,.nil,.nil=>.nil
 |_,_,_,.cons h r,.cons h' r'=>.cons (h.trans h') (r.trans r')
theorem dM.app{H:Nat->Option aM}:∀{a b c d:List D},dM H a b->dM H c d->dM H (a++c) (b++d)
 |_,_,_,_,.nil,h=>h
 |_,_,_,_,.cons h r,h'=>.cons h (r.app h')
theorem dM.len{H:Nat->Option aM}{a b:List D}(h:dM H a b):a.length=b.length:=by
 induction h with
 |nil=>rfl
 |cons _ _ ih=>simp[ih]
theorem dM.get{H:Nat->Option aM}{a b:List D}(h:dM H a b):∀(i:Nat)(d:D),b[i]?=some d->∃d0,a[i]?=some d0/\bR H d0 d:=by
 induction h with
 |nil=>intro i d h;simp at h
 |cons h r ih=>
   intro i d hi;cases i with
   |zero=>simp at hi;subst hi;exact⟨_,rfl,h⟩
   |succ i=>exact ih i d (by simpa using hi)
theorem dM.of_map{H:Nat->Option aM}{f g:X->D}:∀{l:List X},(∀x∈l,bR H (f x) (g x))->dM H (l.map f) (l.map g)
 |[],_=>.nil
 |_::_,h=>.cons (h _ (by simp)) (dM.of_map λx hx=>h x (by simp[hx]))
theorem bR.agg{H:Nat->Option aM}{a b:List D}(h:dM H a b):bR H (.agg a) (.agg b):=λE s ν G w tm hH I v hv=>by
 cases hv with
 |agg hl hr h1=>
   refine .agg (hl.trans h.len) (λi u d hu hd=>?_) h1;obtain⟨d0,e0,hw⟩:=h.get i d hd;exact hw E s ν G w tm hH I u (hr i u d0 hu e0)
theorem SH{H:Nat->Option aM}:∀(τ:Ty)(xs:List X)(y:τ.V)(r:List X),pF τ xs=some (y,r)->∃pre,xs=pre++r/\dM H (pre.map X.D) ((aI τ y).map .t)
 |.pr a b,xs,y,r,h=>by
   unfold pF at h;split at h
   .rename_i x r1 h1
    split at h
    .rename_i z r2 h2
     cases h;obtain⟨p1,e1,w1⟩:=SH (H:=H) a xs x r1 h1;obtain⟨p2,e2,w2⟩:=SH (H:=H) b r1 z r h2;refine⟨p1++p2,by rw[e1,e2,List.append_assoc],?_⟩;have e3:(aI (.pr a b) (x,z)).map D.t=(aI a x).map D.t++(aI b z).map D.t:=by rw[<-l7];rfl
     rw[e3,l7];exact w1.app w2
    .cases h
   .cases h
 |.un,xs,y,r,h=>by cases h;exact⟨[],rfl,.nil⟩
 |.ex,[],y,r,h=>by cases h
 |.ex,[_],y,r,h=>by cases h
 |.ex,[_,_],y,r,h=>by cases h
 |.ex,a::b::c::r',y,r,h=>by
   simp only[pF]at h;split at h
   .rename_i x h1
    split at h
    .rename_i z h2
     split at h
     .rename_i u h3
      cases h;refine⟨[a,b,c],rfl,?_⟩;rw[Cc];exact .cons (pA rfl h1) (.cons (pA rfl h2) (.cons (pA rfl h3) .nil))
     .cases h
    .cases h
   .cases h
 |.i k,[],y,r,h=>by cases h
 |.i k,x::l,y,r,h=>by
   unfold pF at h;split at h
   .rename_i z h1;cases h;exact⟨[x],rfl,.cons (pA rfl h1) .nil⟩
   .cases h
 |.u8,[],y,r,h=>by cases h
 |.u8,x::l,y,r,h=>by
   unfold pF at h;split at h
   .rename_i z h1;cases h;exact⟨[x],rfl,.cons (pA rfl h1) .nil⟩
   .cases h
 |.bo,[],y,r,h=>by cases h
 |.bo,x::l,y,r,h=>by
   unfold pF at h;split at h
   .rename_i z h1;cases h;exact⟨[x],rfl,.cons (pA rfl h1) .nil⟩
   .cases h
 |.tx,[],y,r,h=>by cases h
 |.tx,x::l,y,r,h=>by
   unfold pF at h;split at h
   .rename_i z h1;cases h;exact⟨[x],rfl,.cons (pA rfl h1) .nil⟩
   .cases h
 |.sl t,[],y,r,h=>by cases h
 |.sl t,x::l,y,r,h=>by
   unfold pF at h;split at h
   .rename_i z h1;cases h;exact⟨[x],rfl,.cons (pA rfl h1) .nil⟩
   .cases h
theorem pG{H:Nat->Option aM}{τ:Ty}{xs:List X}{y:τ.V}(h:tH τ xs=some y):dM H (xs.map X.D) ((aI τ y).map .t):=by
 unfold tH at h;split at h
 .rename_i z h1
  cases h;obtain⟨pre,e,hw⟩:=SH (H:=H) τ xs y [] h1;rw[e,List.append_nil];exact hw
 .cases h
def Vw.den(σ:Vw):St:=⟨λt=>(σ.T t).map X.D,λk=>(σ.H k).map XO.A,λ_=>false⟩
theorem dG{σ:Vw}{k:Nat}{o:XO}(h:σ.H k=some o):σ.den.H k=some o.A:=by simp[Vw.den,h]
theorem pL{σ:Vw}{t:Nat}{x:X}(h:σ.T t=some x):σ.den.T t=some x.D:=by simp[Vw.den,h]
theorem vL(σ:Vw)(x:X):bR σ.den.H x.D (σ.iE x).D:=by
 unfold Vw.iE;split
 .rename_i q
  split
  .rename_i e τ l h
   exact bR.own (e:=e) (s:=τ.size) (by rw[dG h];rfl)
  .exact bR.refl
 .exact bR.refl
theorem SS(σ:Vw)(x:X):bR σ.den.H x.D (σ.lI x).D:=by
 unfold Vw.lI;split
 .rename_i xs
  unfold X.D;rw[fA,fA,List.map_map];exact bR.agg (dM.of_map (f:=X.D) (g:=X.D ∘ σ.iE) λx _=>vL σ x)
 .exact vL σ _
theorem aWU{x:X}(h:x.val=true)(h':x.D.val=true):x.D.cells=x.cells.map X.D:=by
 cases x with
 |agg xs=>unfold X.D;rw[fA];rfl
 |e τ y=>
   unfold X.D X.cells;cases hτ:τ.one with
   |true=>simp[D.cells,pK hτ]
   |false=>rw[show(X.e τ y).D = .any by unfold X.D;rw[hτ]]at h';cases h'
 |aT xs=>cases h
 |eO key c x=>cases h
 |bit j q=>cases h
 |dE=>rfl
 |own k=>rfl
 |ref k off=>rfl
 |rr k i j s=>rfl
 |pt τ y j=>rfl
 |fn f xs=>rfl
 |v w=>rfl
 |sub k i=>rfl
 |gM k i j=>rfl
 |vw k i n s=>rfl
 |via k j=>rfl
 |iO v=>cases h
end Go.Ax
/- States of the run, and a region whose operations run one after the other. -/
namespace Go.Ax
open aA
open Go.RowKit Go.Ab
theorem bG{α:Type}{x:Option α}{k:α->O}{r:aH}(h:ob x k=some r):∃y,x=some y/\k y=some r:=by
 unfold ob at h;split at h
 .exact⟨_,rfl,h⟩
 .cases h
theorem tO{b:Bool}{x y:O}{r:aH}(h:br b x y=some r):(b=true/\x=some r)\/(b=false/\y=some r):=by
 cases b
 .exact .inr ⟨rfl,h⟩
 .exact .inl ⟨rfl,h⟩
theorem fF{b:Bool}{x:O}{r:aH}(h:ck b x=some r):b=true/\x=some r:=by
 cases b
 .cases h
 .exact⟨rfl,h⟩
theorem FT{α:Type}{l:List α}{n:Int}{k:α->O}{r:aH}(h:gx l n k=some r):∃y,0<=n/\l[n.toNat]?=some y/\k y=some r:=by
 change vK l n k=some r at h;unfold vK at h;split at h
 .rename_i y hy
  split at hy
  .cases hy
  .exact⟨y,by omega,hy,h⟩
 .cases h
theorem mS{α:Type}{l:List α}{n:Nat}{k:α->O}{r:aH}(h:gn l n k=some r):∃y,l[n]?=some y/\k y=some r:=by
 change FU l n k=some r at h;unfold FU at h;split at h
 .exact⟨_,‹_›,h⟩
 .cases h
theorem mY{a b:Nat}(h:aX a b=false):a≠b:=λe=>by subst e;simp at h
theorem mQ{a b:Nat}(h:a≠b):aX a b=false:=by
 cases hb:aX a b with
 |false=>rfl
 |true=>exact absurd (bH hb) h
theorem Lv{w q:Bool}(h:vS w q=true):q=w:=by cases w <;> cases q <;> first|rfl|cases h
theorem Lw{w q:Bool}(h:vS w q=false):q=!w:=by cases w <;> cases q <;> first|rfl|cases h
theorem LR{α:Type}{k:Nat}:∀{l:List (Nat×α)},lk k l=Ab.look k l
 |[]=>rfl
 |(k',x)::l=>by
   unfold lk Ab.look;by_cases e:k'=k
   .subst e;simp
   .have:aX k' k=false:=mQ e
    rw[this,aC e];exact LR
theorem jQ{α β:Type}{k:Nat}{x:α}:∀{l:List (Nat×α)}{f:List (Nat×α)->Option β}{r:β},iW k x l f=some r->∃l',f l'=some r/\∀k',lk k' l'=if k=k' then some x else lk k' l
 |[],f,r,h=>⟨_,h,λk'=>by
   simp only[lk];by_cases e:k=k'
   .subst e;simp
   .have:aX k k'=false:=mQ e
    rw[this,aC e]⟩
 |(k',y)::l,f,r,h=>by
   unfold iW at h;split at h
   .rename_i he
    have he:=bH he;subst he;refine⟨_,h,λj=>?_⟩;simp only[lk];by_cases e:k'=j
    .subst e;simp
    .have:aX k' j=false:=mQ e
     rw[this,aC e]
   .rename_i he
    have he:=mY he;obtain⟨l',h1,h2⟩:=jQ h;refine⟨_,h1,λj=>?_⟩;simp only[lk];by_cases e:k'=j
    .subst e
     rw[aC (λe=>he e.symm)];simp
    .have:aX k' j=false:=mQ e
     rw[this];exact h2 j
theorem Ce{α β:Type}{k:Nat}:∀{l:List (Nat×α)}{f:List (Nat×α)->Option β}{r:β},pM k l f=some r->∃l',f l'=some r/\∀k',lk k' l'=if k=k' then none else lk k' l
 |[],f,r,h=>⟨_,h,λk'=>by simp[lk]⟩
 |(k',y)::l,f,r,h=>by
   unfold pM at h;split at h
   .rename_i he
    have he:=bH he;subst he;obtain⟨l',h1,h2⟩:=Ce h;refine⟨_,h1,λj=>?_⟩;rw[h2];simp only[lk];by_cases e:k'=j
    .simp[e]
    .have:aX k' j=false:=mQ e
     rw[this]
   .rename_i he
    have he:=mY he;obtain⟨l',h1,h2⟩:=Ce h;refine⟨_,h1,λj=>?_⟩;simp only[lk];by_cases e:k'=j
    .subst e
     rw[aC (λe=>he e.symm)];simp
    .have:aX k' j=false:=mQ e
     rw[this];exact h2 j
theorem Bv{dst:Option Tmp}{x:X}{T:XT}{f:XT->O}{r:aH}(h:s9 dst x T f=some r):∃T',f T'=some r/\∀t,lk t T'=if dst=some t then some x else lk t T:=by
 cases dst with
 |none=>exact⟨T,h,λt=>by simp⟩
 |some d=>
   obtain⟨T',h1,h2⟩:=jQ h;refine⟨T',h1,λt=>?_⟩;rw[h2];by_cases e:d=t
   .simp[e]
   .simp[e]
theorem zX:∀{W:Wx}{H:XH}{f:XH->O}{r:aH},nT W H f=some r->∃H',f H'=some r/\∀k,lk k H'=match Ab.look k W with|some o=>o|none=>lk k H
 |[],H,f,r,h=>⟨H,h,λk=>rfl⟩
 |(k0,some o)::W,H,f,r,h=>by
   unfold nT at h;obtain⟨H1,h1,h2⟩:=zX h;obtain⟨H2,h3,h4⟩:=jQ h1;refine⟨H2,h3,λk=>?_⟩;rw[h4];unfold Ab.look;by_cases e:k0=k
   .simp[e]
   .simp only[aC e];exact h2 k
 |(k0,none)::W,H,f,r,h=>by
   unfold nT at h;obtain⟨H1,h1,h2⟩:=zX h;obtain⟨H2,h3,h4⟩:=Ce h1;refine⟨H2,h3,λk=>?_⟩;rw[h4];unfold Ab.look;by_cases e:k0=k
   .simp[e]
   .simp only[aC e];exact h2 k
def Good(κ:Nat->Bool):X->Prop
 |.bit j q=>κ (2*j+1)=q/\κ (2*j)=!q
 |.eO key c x=>c=κ key/\(match x with|.bit j q=>κ (2*j+1)=(c&&q)/\κ (2*j)=(c&&!q)|.eO ..=>False|_=>True)
 |_=>True
theorem CQ{κ:Nat->Bool}{x:X}(h:x.pl=true):Good κ x:=by
 cases x <;> first|exact rC|cases h
structure Vw.Ok(σ:Vw)(κ:Nat->Bool):Prop where
 pH:∀t x,σ.T t=some x->Good κ x
 g:∀key c,σ.g=some (key,c)->c=κ key
def Vw.On(σ:Vw):Prop:=∀key c,σ.g=some (key,c)->c=true
def WA(W:Wx):Wr:=W.map λp=>(p.1,p.2.map XO.A)
theorem Ro{k:Nat}:∀{W:Wx},Ab.look k (WA W)=(Ab.look k W).map (·.map XO.A)
 |[]=>rfl
 |(k',o)::W=>by
   unfold WA Ab.look;simp only[gL];by_cases e:k'=k
   .simp[e]
   .rw[aC e]
    have:=Ro (k:=k) (W:=W);unfold WA at this;simp only[aC e];exact this
def Ly(c:Cx):Prop:=∀(σ:Vw)(κ:Nat->Bool)(fr:Nat)(st:Bool)(o:Oper)(k:X->Wx->O)(r:aH),σ.Ok κ->eI c σ fr st o k=some r->∃x W,k x W=some r/\x.pl=true/\(σ.On->aU c.P o σ.den fr x.D (WA W))
def MA(c:Cx):Prop:=∀(σ:Vw)(κ:Nat->Bool)(fr:Nat)(o:Oper)(k:X->Wx->O)(kp:Value->Wx->O)(els:O)(r:aH),σ.Ok κ->σ.g=none->Ku c σ fr o k kp els=some r->
 els=some r\/(∃x W,k x W=some r/\x.pl=true/\(σ.On->aU c.P o σ.den fr x.D (WA W)))\/∃v W,kp v W=some r/\(σ.On->rG c.P o σ.den fr v (WA W))
structure fW(T:XT)(H:XH)(s:St):Prop where
 T:∀t x,lk t T=some x->s.T t=some x.D
 H:∀k o,lk k H=some o->s.H k=some o.A
theorem MC{P:Program}{o:Oper}{σ s:St}{fr:Nat}{d:D}{W:Wr}(h:aU P o σ fr d W)(hT:∀t d,σ.T t=some d->s.T t=some d)(hH:∀k o,σ.H k=some o->s.H k=some o):aU P o s fr d W:=
 λE σ₁ a w h1 h2 h3 h4 h5 h6 Q=>h E σ₁ a w (λt d ht=>h1 t d (hT t d ht)) (λk o hk=>h2 k o (hH k o hk)) h3 h4 h5 h6 Q
theorem aDi{P:Program}{o:Oper}{σ s:St}{fr:Nat}{v:Value}{W:Wr}(h:rG P o σ fr v W)(hT:∀t d,σ.T t=some d->s.T t=some d)(hH:∀k o,σ.H k=some o->s.H k=some o):rG P o s fr v W:=
 λE σ₁ a w h1 h2 h3 h4 h5=>h E σ₁ a w (λt d ht=>h1 t d (hT t d ht)) (λk o hk=>h2 k o (hH k o hk)) h3 h4 h5
theorem fW.aN{T T':XT}{H H':XH}{s:St}(h:fW T H s){dst:Option Tmp}{x:X}{W:Wx}{fr:Nat}(hT:∀t,lk t T'=if dst=some t then some x else lk t T)(hH:∀k,lk k H'=match Ab.look k W with|some o=>o|none=>lk k H):
    fW T' H' (s.aN dst x.D (WA W) fr) where
 T:=λt y ht=>by
  rw[hT]at ht;simp only[St.aN];by_cases e:dst=some t
  .rw[aE e]at ht ⊢;cases ht;rfl
  .rw[aC e]at ht ⊢;exact h.T t y ht
 H:=λk o hk=>by
  rw[hH]at hk;simp only[St.aN,Ro];cases hl:Ab.look k W with
  |none=>simp only[hl]at hk;exact h.H k o hk
  |some o'=>simp only[hl]at hk;simp[hk]
def kO(κ:Nat->Bool)(j:Nat)(a b:Bool)(k:Nat):Bool:=if k=2*j+1 then a else if k=2*j then b else κ k
theorem Tx{κ:Nat->Bool}{j:Nat}{a b:Bool}:kO κ j a b (2*j+1)=a:=by simp[kO]
theorem Tz{κ:Nat->Bool}{j:Nat}{a b:Bool}:kO κ j a b (2*j)=b:=by
 unfold kO;rw[aC (by omega),aE rfl]
theorem Good.set{κ:Nat->Bool}{j:Nat}{a b:Bool}{x:X}(h:Good κ x)(hu:qI j x=false):Good (kO κ j a b) x:=by
 have bt:∀j',aX j' j=false->kO κ j a b (2*j'+1)=κ (2*j'+1)/\kO κ j a b (2*j')=κ (2*j'):=λj' hj=>by
  have:=mY hj;unfold kO;exact⟨by rw[aC (by omega),aC (by omega)],by rw[aC (by omega),aC (by omega)]⟩
 cases x with
 |bit j' q=>
   simp only[qI]at hu;obtain⟨h1,h2⟩:=h;exact⟨(bt j' hu).1.trans h1,(bt j' hu).2.trans h2⟩
 |eO key c y=>
   simp only[qI,ML]at hu;obtain⟨⟨hu1,hu2⟩,hu3⟩:=hu;obtain⟨h1,h2⟩:=h;have hk:kO κ j a b key=κ key:=by
    have:=mY hu1;have:=mY hu2;unfold kO;rw[aC (by omega),aC (by omega)]
   refine⟨h1.trans hk.symm,?_⟩;cases y with
   |bit j' q=>
     simp only at hu3 h2 ⊢;exact⟨(bt j' hu3).1.trans h2.1,(bt j' hu3).2.trans h2.2⟩
   |eO _ _ _=>exact h2
   |_=>exact rC
 |_=>exact rC
theorem SX{j:Nat}:∀{T:XT},FX j T=true->∀t x,lk t T=some x->qI j x=false
 |[],_,t,x,h=>by cases h
 |(t',y)::l,hf,t,x,h=>by
   unfold FX at hf;split at hf
   .cases hf
   .rename_i hu
    unfold lk at h;split at h
    .cases h;exact hu
    .exact SX hf t x h
theorem aD1{κ:Nat->Bool}{j:Nat}{q w:Bool}(h1:κ (2*j+1)=q)(h2:κ (2*j)=!q):κ (AX j w)=vS w q:=by
 cases w
 .exact h2
 .exact h1
theorem aD0{κ:Nat->Bool}{j:Nat}{c q w:Bool}(h1:κ (2*j+1)=(c&&q))(h2:κ (2*j)=(c&&!q)):κ (AX j w)=(c&&vS w q):=by
 cases w
 .exact h2
 .exact h1
theorem aC5{o:Oper}{ops:List Oper}{T:Nat->Option X}{g:Gd}(h:L3 o ops T=some g):match g with
    |.on=>o.guard=none
    |.off=>∃j w t,o.guard=some (j,w)/\(ops[j]?).bind (·.dst)=some t/\T t=some (.aT [])
    |.kn b=>∃j w t v,o.guard=some (j,w)/\(ops[j]?).bind (·.dst)=some t/\T t=some (.v (.bool v))/\(b=true->v=w)/\(b=false->v=!w)
    |.cd key b t j y new=>∃w x,o.guard=some (j,w)/\(ops[j]?).bind (·.dst)=some t/\T t=some x/\key=AX j w/\y.D=x.D/\(b=true->x.D = .t (.v (.bool w)))/\(b=false->x.D = .aT []\/x.D = .t (.v (.bool (!w)))) /\
        ∀κ:Nat->Bool,Good κ x->(new=false->Good κ y/\b=κ key)/\(new=true->∃a c,∀κ':Nat->Bool,κ' (2*j+1)=a->κ' (2*j)=c->(∀key' c' x',x = .eO key' c' x'->κ' key'=κ key')->Good κ' y/\b=κ' key):=by
 unfold L3 at h;split at h
 .cases h;assumption
 .rename_i j w hg
  split at h
  case h_2=>cases h
  rename_i oj hj;split at h
  case h_2=>cases h
  rename_i t ht;have hdst:(ops[j]?).bind (·.dst)=some t:=by rw[hj];exact ht
  split at h
  .rename_i q hT
   cases h;refine⟨w,_,hg,hdst,hT,rfl,rfl,λhb=>?_,λhb=>?_,λκ _=>⟨λh=>(by cases h),λ_=>⟨q,!q,λκ' h1 h2 _=>⟨⟨h1,h2⟩,(aD1 h1 h2).symm⟩⟩⟩⟩
   .exact aO (λb=>D.t (.v (.bool b))) (Lv hb)
   .exact .inr (aO (λb=>D.t (.v (.bool b))) (Lw hb))
  .rename_i j' q hT
   split at h
   .rename_i he
    have he:=bH he;subst he;cases h;refine⟨w,_,hg,hdst,hT,rfl,rfl,λhb=>?_,λhb=>?_,λκ hG=>⟨λ_=>⟨hG,(aD1 hG.1 hG.2).symm⟩,λh=>by cases h⟩⟩
    .exact aO (λb=>D.t (.v (.bool b))) (Lv hb)
    .exact .inr (aO (λb=>D.t (.v (.bool b))) (Lw hb))
   .cases h
  .rename_i key c q hT
   cases h;refine⟨w,_,hg,hdst,hT,rfl,by cases c <;> rfl,λhb=>?_,λhb=>?_,λκ hG=>⟨λh=>(by cases h),λ_=>⟨c&&q,c&&!q,λκ' h1 h2 h3=>⟨⟨hG.1.trans (h3 key c _ rfl).symm,h1,h2⟩,(aD0 h1 h2).symm⟩⟩⟩⟩
   .simp only[bA]at hb
    obtain⟨hc,hb⟩:=hb;subst hc;exact aO (λb=>D.t (.v (.bool b))) (Lv hb)
   .cases c
    .left;rfl
    .right
     exact aO (λb=>D.t (.v (.bool b))) (Lw hb)
  .rename_i key c j' q hT
   split at h
   .rename_i he
    have he:=bH he;subst he;cases h;refine⟨w,_,hg,hdst,hT,rfl,rfl,λhb=>?_,λhb=>?_,λκ hG=>⟨λ_=>⟨hG,(aD0 hG.2.1 hG.2.2).symm⟩,λh=>by cases h⟩⟩
    .simp only[bA]at hb
     obtain⟨hc,hb⟩:=hb;subst hc;exact aO (λb=>D.t (.v (.bool b))) (Lv hb)
    .cases c
     .left;rfl
     .right
      exact aO (λb=>D.t (.v (.bool b))) (Lw hb)
   .cases h
  .rename_i hT
   cases h;exact⟨j,w,t,hg,hdst,hT⟩
  .rename_i v hT
   cases h;refine⟨j,w,t,v,hg,hdst,hT,λh=>?_,λh=>?_⟩
   .cases v <;> cases w <;> first|rfl|cases h
   .cases v <;> cases w <;> first|rfl|cases h
  .cases h
end Go.Ax
/- A region whose operations run one after the other. -/
namespace Go.Ax
open aA
open Go.RowKit Go.Ab
theorem Sj{k:Nat}:∀{l:XT}{f:XT->O}{r:aH},pM k l f=some r->lH l=true->∃l',f l'=some r/\(∀k',lk k' l'=if k=k' then none else lk k' l)/\lH l'=true
 |[],f,r,h,_=>⟨_,h,(λk'=>by simp[lk]),rfl⟩
 |(k',y)::l,f,r,h,hp=>by
   have hp':=hp;unfold lH at hp';split at hp'
   case h_2=>cases hp'
   rename_i hy;unfold pM at h;split at h
   .rename_i he
    have he:=bH he;subst he;obtain⟨l',h1,h2,h3⟩:=Sj h hp';refine⟨l',h1,λj=>?_,h3⟩;rw[h2];simp only[lk];by_cases e:k'=j
    .simp[e]
    .rw[mQ e]
   .rename_i he
    have he:=mY he;obtain⟨l',h1,h2,h3⟩:=Sj h hp';refine⟨_,h1,λj=>?_,by unfold lH;rw[hy];exact h3⟩;simp only[lk];by_cases e:k'=j
    .subst e
     rw[aC (λe=>he e.symm)];simp
    .rw[mQ e]
     exact h2 j
theorem RE:∀{T:XT},lH T=true->∀t x,lk t T=some x->x.pl=true
 |[],_,t,x,h=>by cases h
 |(t',y)::l,hf,t,x,h=>by
   unfold lH at hf;split at hf
   case h_2=>cases hf
   rename_i hy;unfold lk at h;split at h
   .cases h;exact hy
   .exact RE hf t x h
theorem Eu:∀{T:XT}{f:XT->O}{r:aH},qM T f=some r->∃T',f T'=some r/\(∀t x,lk t T'=some x->∃y,lk t T=some y/\x.D=y.D)/\lH T'=true
 |[],f,r,h=>⟨[],h,(λt x h=>by cases h),rfl⟩
 |(t0,x0)::l,f,r,h=>by
   unfold qM at h;have key:∀(x1:X)(_:x1.pl=true)(_:x1.D=x0.D)(_:qM l (λl'=>f ((t0,x1)::l'))=some r),∃T',f T'=some r/\(∀t x,lk t T'=some x->∃y,lk t ((t0,x0)::l)=some y/\x.D=y.D)/\lH T'=true:=λx1 hp hD hh=>by
    obtain⟨l',h1,h2,h3⟩:=Eu hh;refine⟨_,h1,λt x ht=>?_,by unfold lH;rw[hp];exact h3⟩;unfold lk at ht ⊢;split at ht
    .rename_i he;cases ht;exact⟨x0,rfl,hD⟩
    .rename_i he;exact h2 t x ht
   split at h
   .rename_i j q;exact key (.e .bo q) rfl rfl h
   .rename_i key0 c y
    obtain⟨l',h1,h2,h3⟩:=Eu h;obtain⟨l2,h4,h5,h6⟩:=Sj h1 h3;refine⟨l2,h4,λt x ht=>?_,h6⟩;rw[h5]at ht;split at ht
    .cases ht
    .rename_i he
     unfold lk;rw[mQ he];exact h2 t x ht
   .rename_i q;exact key (.e .bo q) rfl rfl h
   .rename_i h1 h2 h3
    refine key x0 ?_ rfl h;cases x0 with
    |bit j q=>exact absurd rfl (h1 j q)
    |eO k c y=>exact absurd rfl (h2 k c y)
    |_=>rfl
theorem aBu{W:Wx}{k:O}{r:aH}(h:R6 W k=some r):W=[]/\k=some r:=by
 cases W with
 |nil=>exact⟨rfl,h⟩
 |cons _ _=>cases h
theorem fW.T'{T T':XT}{H:XH}{s:St}(h:fW T H s)(hT:∀t x,lk t T'=some x->∃y,lk t T=some y/\x.D=y.D):fW T' H s:=
 ⟨λt x ht=>let⟨y,h1,h2⟩:=hT t x ht;by rw[h2];exact h.T t y h1,h.H⟩
theorem CO{c:Cx}(hs:Ly c)(hpn:MA c){stF:List Nat}{all:List Oper}:∀(l:List Oper)(i:Nat)(σ:Sg)(k:Exit->Sg->O)(r:aH)(s:St)(κ:Nat->Bool),jR c stF all l i σ k=some r->fW σ.T σ.H s->(∀t x,lk t σ.T=some x->Good κ x)->
    ∃e σ',k e σ'=some r/\σ'.N=σ.N+8*l.length/\lH σ'.T=true/\kJ c.P all.toArray (λe' s'=>e'=e/\fW σ'.T σ'.H s') l σ.N s
 |[],i,σ,k,r,s,κ,h,hL,hG=>by
   unfold jR at h;obtain⟨T',h1,h2,h3⟩:=Eu h;exact⟨.normal,_,h1,rfl,h3,rfl,hL.T' h2⟩
 |o::rest,i,σ,k,r,s,κ,h,hL,hG=>by
   unfold jR at h;obtain⟨g,hg,h⟩:=bG h;have hg':=aC5 hg;have hall:∀{j:Nat}{t:Tmp},(all[j]?).bind (·.dst)=some t->((all.toArray[j]?).bind (·.dst))=some t:=λh=>by simpa using h
   have onK:∀(T1:XT),fW T1 σ.H s->(∀t x,lk t T1=some x->Good κ x)->pX all.toArray o s->(CI c σ T1 (!(stF.contains i)) o (rest.length+1) k λσ'=>jR c stF all rest (i+1) σ' k)=some r->
       ∃e σ',k e σ'=some r/\σ'.N=σ.N+8*(o::rest).length/\lH σ'.T=true/\kJ c.P all.toArray (λe' s'=>e'=e/\fW σ'.T σ'.H s') (o::rest) σ.N s:=λT1 hL1 hG1 hgd h=>by
    have hok:Vw.Ok ⟨λt=>lk t T1,λk=>lk k σ.H,none⟩ κ:=⟨hG1,λkey c h=>by cases h⟩;have hTT:∀t d,(Vw.den ⟨λt=>lk t T1,λk=>lk k σ.H,none⟩).T t=some d->s.T t=some d:=λt d ht=>by
     simp only[Vw.den]at ht;obtain⟨y,hy,rfl⟩:=b9.1 ht;exact hL1.T t y hy
    have hHH:∀q d,(Vw.den ⟨λt=>lk t T1,λk=>lk k σ.H,none⟩).H q=some d->s.H q=some d:=λq d ht=>by
     simp only[Vw.den]at ht;obtain⟨y,hy,rfl⟩:=b9.1 ht;exact hL1.H q y hy
    have nx:∀x W,(s9 o.dst x T1 λT=>nT W σ.H λH=>jR c stF all rest (i+1) ⟨T,H,σ.N+8⟩ k)=some r->x.pl=true->aU c.P o (Vw.den ⟨λt=>lk t T1,λk=>lk k σ.H,none⟩) σ.N x.D (WA W)->
        ∃e σ',k e σ'=some r/\σ'.N=σ.N+8*(o::rest).length/\lH σ'.T=true/\kJ c.P all.toArray (λe' s'=>e'=e/\fW σ'.T σ'.H s') (o::rest) σ.N s:=λx W h hp hop=>by
     obtain⟨T',h,hT⟩:=Bv h;obtain⟨H',h,hH⟩:=zX h;have hop:=MC (s:=s) hop hTT hHH;obtain⟨e,σ',h1,h2,h3,h4⟩:=CO hs hpn rest (i+1) _ k r (s.aN o.dst x.D (WA W) σ.N) κ h (hL1.aN hT hH) (λt y ht=>by
      rw[hT]at ht;split at ht
      .cases ht;exact CQ hp
      .exact hG1 t y ht)
     exact⟨e,σ',h1,by rw[h2];simp only[dK];omega,h3,.inl ⟨x.D,WA W,.inl ⟨hgd,hop⟩,h4⟩⟩
    unfold CI at h;rcases hpn _ κ _ _ _ _ _ _ hok rfl h with h|⟨x,W,h,hp,hop⟩|⟨v,W,h,hop⟩
    .obtain⟨x,W,h,hp,hop⟩:=hs _ κ _ _ _ _ _ hok h
     exact nx x W h hp (hop (λkey c h=>by cases h))
    .exact nx x W h hp (hop (λkey c h=>by cases h))
    .obtain⟨H',h,hH⟩:=zX h
     obtain⟨T',h1,h2,h3⟩:=Eu h;have hL2:fW T1 H' (s.aN none .any (WA W) σ.N):=hL1.aN (dst:=none) (x:=.aT []) (λt=>by simp) hH;exact⟨_,_,h1,by simp only[dK],h3,.inr (.inr ⟨v,WA W,hgd,aDi (hop (λkey c h=>by cases h)) hTT hHH,rfl,hL2.T' h2⟩)⟩
   have offK:∀(T1:XT),fW T1 σ.H s->(∀t x,lk t T1=some x->Good κ x)->Fq all.toArray o s->(CF σ T1 o λσ'=>jR c stF all rest (i+1) σ' k)=some r->
       ∃e σ',k e σ'=some r/\σ'.N=σ.N+8*(o::rest).length/\lH σ'.T=true/\kJ c.P all.toArray (λe' s'=>e'=e/\fW σ'.T σ'.H s') (o::rest) σ.N s:=λT1 hL1 hG1 hgd h=>by
    unfold CF at h;obtain⟨T',h,hT⟩:=Bv h;obtain⟨e,σ',h1,h2,h3,h4⟩:=CO hs hpn rest (i+1) _ k r (s.aN o.dst (X.aT []).D (WA []) σ.N) κ h (hL1.aN hT (λq=>rfl)) (λt y ht=>by
     rw[hT]at ht;split at ht
     .cases ht;exact rC
     .exact hG1 t y ht)
    exact⟨e,σ',h1,by rw[h2];simp only[dK];omega,h3,.inl ⟨_,_,.inr ⟨hgd,rfl,rfl⟩,h4⟩⟩
   cases g with
   |on=>
     simp only at h hg';exact onK σ.T hL hG (.inl hg') h
   |off=>
     simp only at h hg';obtain⟨j,w,t,e1,e2,e3⟩:=hg';exact offK σ.T hL hG ⟨j,w,t,_,e1,hall e2,hL.T t _ e3,.inl rfl⟩ h
   |kn b=>
     obtain⟨j,w,t,v,e1,e2,e3,e4,e5⟩:=hg';cases b with
     |true=>
       have:=e4 rfl;subst this;exact onK σ.T hL hG (.inr ⟨j,v,t,e1,hall e2,hL.T t _ e3⟩) h
     |false=>
       have:=e5 rfl;subst this;exact offK σ.T hL hG ⟨j,w,t,_,e1,hall e2,hL.T t _ e3,.inr rfl⟩ h
   |cd key b t j y new=>
     simp only at h hg';obtain⟨w,x0,e1,e2,e3,e4,e5,e6,e7,e8⟩:=hg';split at h
     .split at h
      case h_2=>cases h
      rename_i jj q jg w' hgw;rw[e1]at hgw;obtain⟨rfl,rfl⟩:=aWu (eX hgw);have hx0:x0.D = .t (.v (.bool q)):=e5.symm;have key:∀(T1:XT)(v:Bool),q=v->(∀t',lk t' T1=if t=t' then some (.v (.bool v))else lk t' σ.T)->fW T1 σ.H s/\(∀t x,lk t T1=some x->Good κ x)/\s.T t=some (.t (.v (.bool v))):=λT1 v hq hT=>by
       subst hq;refine⟨hL.T' λt' x ht=>?_,λt' x ht=>?_,by rw[hL.T t x0 e3,hx0]⟩
       .rw[hT]at ht
        split at ht
        .rename_i he;cases ht;subst he;exact⟨x0,e3,hx0.symm⟩
        .exact⟨x,ht,rfl⟩
       .rw[hT]at ht
        split at ht
        .cases ht;exact rC
        .exact hG t' x ht
      rcases tO h with⟨hq,h⟩|⟨hq,h⟩
      .obtain⟨T1,h,hT1⟩:=jQ h
       obtain⟨k1,k2,k3⟩:=key T1 true hq hT1;cases w with
       |true=>exact onK T1 k1 k2 (.inr ⟨_,_,t,e1,hall e2,k3⟩) h
       |false=>exact offK T1 k1 k2 ⟨_,_,t,_,e1,hall e2,k3,.inr rfl⟩ h
      .obtain⟨T1,h,hT1⟩:=jQ h
       obtain⟨k1,k2,k3⟩:=key T1 false hq hT1;cases w with
       |true=>exact offK T1 k1 k2 ⟨_,_,t,_,e1,hall e2,k3,.inr rfl⟩ h
       |false=>exact onK T1 k1 k2 (.inr ⟨_,_,t,e1,hall e2,k3⟩) h
     split at h
     case h_2=>cases h
     rename_i hfree;obtain⟨T1,h,hT1⟩:=jQ h
     -- the keys
     have hκ:∃κ':Nat->Bool,(∀t x,lk t T1=some x->Good κ' x)/\b=κ' key:=by
      obtain⟨k1,k2⟩:=e8 κ (hG t x0 e3);cases hn:new with
      |false=>
        obtain⟨g1,g2⟩:=k1 hn;refine⟨κ,λt' x' ht=>?_,g2⟩;rw[hT1]at ht;split at ht
        .cases ht;exact g1
        .exact hG t' x' ht
      |true=>
        obtain⟨a,cc,k3⟩:=k2 hn;rw[hn]at hfree;have hf:FX j σ.T=true:=by simpa using hfree
        obtain⟨g1,g2⟩:=k3 (kO κ j a cc) Tx Tz (λkey' c' x' hx=>by
         have:=SX hf t x0 e3;rw[hx]at this;simp only[qI,ML]at this;have h1:=mY this.1.1;have h2:=mY this.1.2;unfold kO;rw[aC (by omega),aC (by omega)])
        refine⟨kO κ j a cc,λt' x' ht=>?_,g2⟩;rw[hT1]at ht;split at ht
        .cases ht;exact g1
        .exact(hG t' x' ht).set (SX hf t' x' ht)
     obtain⟨κ',hG1,hb⟩:=hκ;have hL1:fW T1 σ.H s:=⟨λt' x' ht=>by
      rw[hT1]at ht;split at ht
      .rename_i he
       cases ht;subst he;rw[e5];exact hL.T t x0 e3
      .exact hL.T t' x' ht,hL.H⟩
     have hok:Vw.Ok ⟨λt=>lk t T1,λk=>lk k σ.H,some (key,b)⟩ κ':=⟨hG1,λkey' c' h=>by cases h;exact hb⟩;have hle:∀{x:D}{W:Wr},aU c.P o (Vw.den ⟨λt=>lk t T1,λk=>lk k σ.H,some (key,b)⟩) σ.N x W->aU c.P o s σ.N x W:=λhop=>MC hop (λt d ht=>by
      simp only[Vw.den]at ht;obtain⟨y,hy,rfl⟩:=b9.1 ht;exact hL1.T t y hy) (λq d ht=>by
      simp only[Vw.den]at ht;obtain⟨y,hy,rfl⟩:=b9.1 ht;exact hL1.H q y hy)
     have hTt:=hL.T t x0 e3;have hoff:b=false->nB c.P all.toArray o s σ.N (.aT []) []:=λhb'=>.inr ⟨⟨j,w,t,_,e1,hall e2,hTt,e7 hb'⟩,rfl,rfl⟩
     have hgd:b=true->pX all.toArray o s:=λhb'=>.inr ⟨j,w,t,e1,hall e2,by rw[hTt,e6 hb']⟩
     split at h
     ·-- it runs under a condition
      obtain⟨x,W,h,hp,hop⟩:=hs _ κ' _ _ _ _ _ hok h;obtain⟨hW,h9⟩:=aBu h;subst hW;clear h;obtain⟨T',h,hT⟩:=Bv h9;have hG':∀t y,lk t T'=some y->Good κ' y:=λt' y' ht=>by
       rw[hT]at ht;split at ht
       .cases ht
        refine⟨hb,?_⟩;cases x with
        |bit j q=>cases hp
        |eO k c y=>cases hp
        |_=>exact rC
       .exact hG1 t' y' ht
      obtain⟨e,σ',h1,h2,h3,h4⟩:=CO hs hpn rest (i+1) _ k r (s.aN o.dst (X.eO key b x).D (WA []) σ.N) κ' h (hL1.aN hT (λq=>rfl)) hG';refine⟨e,σ',h1,by rw[h2];simp only[dK];omega,h3,.inl ⟨_,_,?_,h4⟩⟩;cases hbb:b with
      |false=>rw[hbb]at hoff;exact hoff rfl
      |true=>rw[hbb]at hgd hop hle;exact .inl ⟨hgd rfl,hle (hop (λkey' c' h=>by cases h;rfl))⟩
     ·-- two ways
      rcases tO h with⟨hb',h⟩|⟨hb',h⟩
      .obtain⟨x,W,h,hp,hop⟩:=hs _ κ' _ _ _ _ _ hok h
       obtain⟨T',h,hT⟩:=Bv h;obtain⟨H',h,hH⟩:=zX h;obtain⟨e,σ',h1,h2,h3,h4⟩:=CO hs hpn rest (i+1) _ k r (s.aN o.dst x.D (WA W) σ.N) κ' h (hL1.aN hT hH) (λt y ht=>by
        rw[hT]at ht;split at ht
        .cases ht;exact CQ hp
        .exact hG1 t y ht)
       exact⟨e,σ',h1,by rw[h2];simp only[dK];omega,h3,.inl ⟨x.D,WA W,.inl ⟨hgd hb',hle (hop (λkey' c' h=>by cases h;exact hb'))⟩,h4⟩⟩
      .obtain⟨T',h,hT⟩:=Bv h
       obtain⟨e,σ',h1,h2,h3,h4⟩:=CO hs hpn rest (i+1) _ k r (s.aN o.dst (X.aT []).D (WA []) σ.N) κ' h (hL1.aN hT (λq=>rfl)) (λt y ht=>by
        rw[hT]at ht;split at ht
        .cases ht;exact rC
        .exact hG1 t y ht)
       exact⟨e,σ',h1,by rw[h2];simp only[dK];omega,h3,.inl ⟨_,_,hoff hb',h4⟩⟩
end Go.Ax
/- A region that draws its order. -/
namespace Go.Ax
open aA
open Go.RowKit Go.Ab
def fE(rs:Rx):Rs:=rs.map λp=>(p.1.D,WA p.2)
theorem RN{t:Tmp}{j:Nat}:∀{l:List Oper}{p:Nat},AE t j p l=true->∀q o,l[q]?=some o->o.dst=some t->p+q=j
 |[],_,_,q,o,h,_=>by simp at h
 |o'::l,p,hu,q,o,h,hd=>by
   unfold AE at hu;have rest:AE t j (p+1) l=true->∀q',q=q'+1->p+q=j:=λhr q' e=>by
    subst e;have:=RN hr q' o (by simpa using h) hd;omega
   cases q with
   |succ q'=>
     split at hu
     .split at hu
      .cases hu
      .exact rest hu q' rfl
     .exact rest hu q' rfl
   |zero=>
     simp at h;subst h;rw[hd]at hu;simp only at hu;split at hu
     .cases hu
     .rename_i hb
      simp only[Bool.and_eq_false_iff,Bool.not_eq_false']at hb;rcases hb with hb|hb
      .simp at hb
      .have:=bH hb;omega
section
variable{ops:Array Oper}{pre kl:List (List Nat)}{fr:Nat}
theorem K0{σ:Vw}{dst:Option Tmp}{x:X}{W:Wx}(t:Nat):(K1 σ dst x W).T t=if dst=some t then some x else σ.T t:=by
 unfold K1;cases dst with
 |none=>simp
 |some d=>
   simp only;by_cases e:d=t
   .subst e;simp
   .rw[mQ e];simp[e]
theorem Qe{S:Nat->Bool}:∀(rs:Rx)(j:Nat)(σ:Vw)(s:St),(∀t x,σ.T t=some x->s.T t=some x.D)->(∀k o,σ.H k=some o->s.H k=some o.A)->
    (∀t x,(nW (Region.dP ops) S j rs σ).T t=some x->(bS ops fr S j (fE rs) s).T t=some x.D)/\(∀k o,(nW (Region.dP ops) S j rs σ).H k=some o->(bS ops fr S j (fE rs) s).H k=some o.A)
 |[],j,σ,s,h1,h2=>⟨h1,h2⟩
 |(x,W)::rs,j,σ,s,h1,h2=>by
   unfold nW;simp only[fE,gL];unfold bS;cases hS:S j with
   |false=>simp only[Bool.false_eq_true,if_false];exact Qe rs (j+1) σ s h1 h2
   |true=>
     simp only[fH];refine Qe rs (j+1) _ _ (λt y hy=>?_) (λk o hk=>?_)
     .rw[K0]at hy
      simp only[St.aN];split at hy
      .rename_i e;cases hy;rw[aE e]
      .rename_i e;rw[aC e];exact h1 t y hy
     .simp only[K1,LR]at hk
      simp only[St.aN,Ro];cases hl:Ab.look k W with
      |none=>simp only[hl]at hk;exact h2 k o hk
      |some o'=>simp only[hl]at hk;simp[hk]
theorem Qc{dst:Nat->Option Tmp}{S:Nat->Bool}:∀(rs:Rx)(j:Nat)(σ:Vw)(t:Nat)(x:X),(nW dst S j rs σ).T t=some x->(∃p∈rs,p.1=x)\/σ.T t=some x
 |[],j,σ,t,x,h=>.inr h
 |(y,W)::rs,j,σ,t,x,h=>by
   unfold nW at h;split at h
   .rcases Qc rs (j+1) _ t x h with⟨p,hp,e⟩|h
    .exact .inl ⟨p,gF _ hp,e⟩
    .rw[K0]at h
     split at h
     .cases h;exact .inl ⟨_,jF ..,rfl⟩
     .exact .inr h
   .rcases Qc rs (j+1) _ t x h with⟨p,hp,e⟩|h
    .exact .inl ⟨p,gF _ hp,e⟩
    .exact .inr h
theorem aAi{dst:Nat->Option Tmp}{S:Nat->Bool}{t:Nat}:∀(rs:Rx)(p:Nat)(σ:Vw),(∀q,p<=q->dst q≠some t)->(nW dst S p rs σ).T t=σ.T t
 |[],p,σ,_=>rfl
 |(y,W)::rs,p,σ,h=>by
   unfold nW;rw[aAi rs (p+1) _ (λq hq=>h q (by omega))];split
   .rw[K0,aC (h p (Nat.le_refl _))]
   .rfl
theorem Qd{dst:Nat->Option Tmp}{S:Nat->Bool}{t j:Nat}(hS:S j=true)(hd:dst j=some t)(hu:∀q,q≠j->dst q≠some t):∀(rs:Rx)(p:Nat)(σ:Vw)(x:X)(W:Wx),p<=j->rs[j-p]?=some (x,W)->(nW dst S p rs σ).T t=some x
 |[],p,σ,x,W,_,h=>by simp at h
 |(y,W')::rs,p,σ,x,W,hp,h=>by
   unfold nW;by_cases e:p=j
   .subst e
    simp only[Nat.sub_self,List.getElem?_cons_zero,Option.some.injEq,Prod.mk.injEq]at h;obtain⟨rfl,rfl⟩:=h;rw[hS];simp only;rw[aAi rs (p+1) _ (λq hq=>hu q (by omega)),K0,aE hd]
   .refine Qd hS hd hu rs (p+1) _ x W (by omega) ?_
    rw[show j-p=(j-(p+1))+1 by omega]at h;simpa using h
theorem aWH{i:Nat}{rs:Rx}{σ:Vw}{s:St}{g:Option (Nat×Bool)}(h1:∀t x,σ.T t=some x->s.T t=some x.D)(h2:∀k o,σ.H k=some o->s.H k=some o.A):
    (∀t d,(jZ ops pre kl fr i rs σ g).den.T t=some d->(ctx ops pre kl fr i (fE rs) s).T t=some d)/\(∀k o,(jZ ops pre kl fr i rs σ g).den.H k=some o->(ctx ops pre kl fr i (fE rs) s).H k=some o):=by
 obtain⟨q1,q2⟩:=Qe (ops:=ops) (fr:=fr) (S:=λj=>(pre.getD i []).contains j) rs 0 σ s h1 h2;refine⟨λt d h=>?_,λk o h=>?_⟩
 .simp only[Vw.den,jZ]at h
  obtain⟨x,hx,rfl⟩:=b9.1 h;simp only[ctx];split at hx
  .cases hx
  .rename_i hf
   rw[aC (by rw[hf];simp)];exact q1 t x hx
 .simp only[Vw.den,jZ]at h
  obtain⟨x,hx,rfl⟩:=b9.1 h;simp only[ctx];split at hx
  .cases hx
  .rename_i hf
   rw[aC (by rw[hf];simp)];exact q2 k x hx
theorem aWG{i:Nat}{rs:Rx}{σ:Vw}{g:Option (Nat×Bool)}{t:Nat}{x:X}(h:(jZ ops pre kl fr i rs σ g).T t=some x):(∃p∈rs,p.1=x)\/σ.T t=some x:=by
 simp only[jZ]at h;split at h
 .cases h
 .exact Qc rs 0 σ t x h
theorem RB{α β:Type}(f:α->β):∀(l:List α)(j:Nat)(x y:α),l[j]?=some y->f x=f y->(gJ x j l).map f=l.map f
 |[],_,_,_,h,_=>by simp at h
 |z::l,0,x,y,h,e=>by simp at h;subst h;simp[gJ,e]
 |z::l,j+1,x,y,h,e=>by simp only[gJ,gL];rw[RB f l j x y (by simpa using h) e]
theorem RA{α:Type}(x:α)(j:Nat):gJ x j []=[]:=by cases j <;> rfl
theorem RC{α:Type}:∀(l:List α)(j:Nat)(x:α),(gJ x j l).length=l.length
 |[],j,x=>by rw[RA]
 |_::_,0,_=>rfl
 |_::l,j+1,x=>by simp only[gJ,dK];rw[RC l j x]
theorem Ks{α:Type}:∀(l:List α)(j:Nat)(x z:α),z∈gJ x j l->z=x\/z∈l
 |[],j,x,z,h=>by rw[RA]at h;cases h
 |y::l,0,x,z,h=>by
   rcases eD.1 h with h|h
   .exact .inl h
   .exact .inr (gF _ h)
 |y::l,j+1,x,z,h=>by
   rcases eD.1 h with h|h
   .exact .inr (by rw[h];exact jF ..)
   .rcases Ks l j x z h with h|h
    .exact .inl h
    .exact .inr (gF _ h)
theorem SY{j:Nat}:∀{rs:Rx},FY j rs=true->∀p∈rs,qI j p.1=false
 |[],_,p,h=>by cases h
 |(x,W)::l,hf,p,h=>by
   unfold FY at hf;split at hf
   .cases hf
   .rename_i hu
    rcases eD.1 h with h|h
    .rw[h];exact hu
    .exact SY hf p h
theorem aDb{W:Wx}{f:Nat->Bool}(h:W.all (λp=>f p.1)=true):((WA W).all λp=>f p.1)=true:=by
 rw[cT]at h ⊢;intro p hp;obtain⟨q,hq,rfl⟩:=List.mem_map.1 hp;exact h q hq
theorem aBv:∀{rs:Rx},LL rs=true->∀q∈fE rs,q.2=[]
 |[],_,q,hq=>by cases hq
 |(x,[])::l,h,q,hq=>by
   unfold LL at h;rcases eD.1 hq with rfl|hq
   .rfl
   .exact aBv h q hq
 |(x,_::_)::l,h,q,hq=>by cases h
theorem aUH{n i:Nat}(h:aCO pre n i=true):∀p,i<p->p<n->i∈pre.getD p []:=λp h1 h2=>by
 have:=cT.1 h p (List.mem_range.2 h2);rw[Bool.or_eq_true]at this;rcases this with h|h
 .have:=Nat.le_of_ble_eq_true h;omega
 .exact List.contains_iff_mem.1 h
abbrev MK(ops:Array Oper)(fr:Nat)(s:St)(k:Rx->O)(K:Exit->Sg->O)(r:aH)(n:Nat)(e:Exit)(s':St):Prop:=
 (e = .normal/\∃rs',k rs'=some r/\rs'.length=n/\s'=bS ops fr (λ_=>true) 0 (fE rs') s)\/∃σ',K e σ'=some r/\σ'.N=fr+8*ops.size/\fW σ'.T σ'.H s'
theorem Cd{c:Cx}(hs:Ly c)(hpn:MA c){stF:List Nat}{σ:Vw}{s:St}{HL:XH}{K:Exit->Sg->O}(h1:∀t x,σ.T t=some x->s.T t=some x.D)(h2:∀k o,σ.H k=some o->s.H k=some o.A)(hpl:∀t x,σ.T t=some x->x.pl=true)(hHL:∀k o,lk k HL=some o->s.H k=some o.A){n:Nat}:
    ∀(l:List Oper)(i:Nat)(rs:Rx)(k:Rx->O)(r:aH)(κ:Nat->Bool),kH c stF ops pre kl fr σ HL K l i rs k=some r->rs.length=i->n=i+l.length->(∀p∈rs,Good κ p.1)->
    oR c.P ops pre kl fr s (MK ops fr s k K r n) l i (fE rs)
 |[],i,rs,k,r,κ,h,hl,hn,hG=>.inl ⟨rfl,rs,h,by rw[hl,hn];rfl,rfl⟩
 |o::rest,i,rs,k,r,κ,h,hl,hn,hG=>by
   have hn':n=i+1+rest.length:=by rw[hn,dK];omega
   unfold kH at h;obtain⟨g,hg,h⟩:=bG h;have hg':=aC5 hg;have hall:∀{j:Nat}{t:Tmp},(ops.toList[j]?).bind (·.dst)=some t->((ops[j]?).bind (·.dst))=some t:=λh=>by simpa using h
   have pH:∀{κ:Nat->Bool}{rs:Rx},(∀p∈rs,Good κ p.1)->∀{g:Option (Nat×Bool)} t x,(jZ ops pre kl fr i rs σ g).T t=some x->Good κ x:=λhG _ t x hx=>by
    rcases aWG hx with⟨p,hp,rfl⟩|hx
    .exact hG p hp
    .exact CQ (hpl t x hx)
   have push:∀{κ:Nat->Bool}{rs:Rx},(∀p∈rs,Good κ p.1)->∀{x:X}{W:Wx},Good κ x->∀p∈rs++[(x,W)],Good κ p.1:=λhG _ _ hx p hp=>by
    rcases List.mem_append.1 hp with hp|hp
    .exact hG p hp
    .rw[List.mem_singleton.1 hp];exact hx
   have hcx:=λ(rs:Rx)(g:Option (Nat×Bool))=>aWH (ops:=ops) (pre:=pre) (kl:=kl) (fr:=fr) (i:=i) (rs:=rs) (g:=g) h1 h2
   have runK:∀(rs:Rx),rs.length=i->(∀p∈rs,Good κ p.1)->pX ops o (ctx ops pre kl fr i (fE rs) s)->(CJ c stF ops pre kl fr σ HL K o i rs λrs=>kH c stF ops pre kl fr σ HL K rest (i+1) rs k)=some r->
       oR c.P ops pre kl fr s (MK ops fr s k K r n) (o::rest) i (fE rs):=λrs hl hG hg' h=>by
    unfold CJ at h;have hok:Vw.Ok (jZ ops pre kl fr i rs σ none) κ:=⟨pH hG,λkey c h=>by cases h⟩;have nx:∀x W,(match W.all (λp=>eB kl fr i p.1)with
     |true=>kH c stF ops pre kl fr σ HL K rest (i+1) (rs++[(x,W)]) k
     |false=>none)=some r->x.pl=true->aU c.P o (Vw.den (jZ ops pre kl fr i rs σ none)) (fr+8*i) x.D (WA W)->oR c.P ops pre kl fr s (MK ops fr s k K r n) (o::rest) i (fE rs):=λx W h hp hop=>by
     split at h
     case h_2=>cases h
     rename_i hW;have e3:=Cd hs hpn h1 h2 hpl hHL rest (i+1) _ k r κ h (by simp[hl]) hn' (push hG (CQ hp));refine .inl ⟨x.D,WA W,.inl ⟨hg',MC hop (hcx rs none).1 (hcx rs none).2⟩,aDb hW,?_⟩;simpa[fE]using e3
    rcases hpn _ κ _ _ _ _ _ _ hok rfl h with h|⟨x,W,h,hp,hop⟩|⟨v,W,h,hop⟩
    .obtain⟨x,W,h,hp,hop⟩:=hs _ κ _ _ _ _ _ hok h
     exact nx x W h hp (hop (λkey c h=>by cases h))
    .exact nx x W h hp (hop (λkey c h=>by cases h))
    .split at h
     case h_2=>cases h
     rename_i hb;rw[bA]at hb;obtain⟨H',h,hH⟩:=zX h;have hL0:fW [] HL ⟨λ_=>none,s.H,s.nm⟩:=⟨(λt x ht=>by cases ht),hHL⟩;exact .inr ⟨v,WA W,hg',aDi (hop (λkey c h=>by cases h)) (hcx rs none).1 (hcx rs none).2,aUH hb.1,aBv hb.2,.inr ⟨_,h,rfl,hL0.aN (dst:=none) (x:=.aT []) (λt=>by simp) hH⟩⟩
   have skipK:∀(rs:Rx),rs.length=i->(∀p∈rs,Good κ p.1)->Fq ops o (ctx ops pre kl fr i (fE rs) s)->kH c stF ops pre kl fr σ HL K rest (i+1) (rs++[(.aT [],[])]) k=some r->
       oR c.P ops pre kl fr s (MK ops fr s k K r n) (o::rest) i (fE rs):=λrs hl hG hg' h=>by
    have e3:=Cd hs hpn h1 h2 hpl hHL rest (i+1) _ k r κ h (by simp[hl]) hn' (push hG rC);refine .inl ⟨.aT [],[],.inr ⟨hg',rfl,rfl⟩,rfl,?_⟩;simpa[fE,X.D,Ds,WA]using e3
   cases g with
   |on=>
     simp only at h hg';exact runK rs hl hG (.inl hg') h
   |off=>
     simp only at h hg';obtain⟨j,w,t,z1,z2,z3⟩:=hg';exact skipK rs hl hG ⟨j,w,t,_,z1,hall z2,(hcx rs none).1 t _ (pL z3),.inl rfl⟩ h
   |kn b=>
     obtain⟨j,w,t,v,z1,z2,z3,z4,z5⟩:=hg';cases b with
     |true=>
       have:=z4 rfl;subst this;exact runK rs hl hG (.inr ⟨j,v,t,z1,hall z2,(hcx rs none).1 t _ (pL z3)⟩) h
     |false=>
       have:=z5 rfl;subst this;exact skipK rs hl hG ⟨j,w,t,_,z1,hall z2,(hcx rs none).1 t _ (pL z3),.inr rfl⟩ h
   |cd key b t j y new=>
     simp only at h hg';obtain⟨w,x0,z1,z2,z3,z4,z5,z6,z7,z8⟩:=hg';split at h
     .split at h
      case h_2=>cases h
      rename_i jj q jg w' hgw hon;rw[z1]at hgw;obtain⟨rfl,rfl⟩:=aWu (eX hgw);simp only[bA]at hon;obtain⟨honly,hpre⟩:=hon;have hx0:x0.D = .t (.v (.bool q)):=z5.symm;have hdst:Region.dP ops j=some t:=by unfold Region.dP;exact hall z2
      have hTt:(ctx ops pre kl fr i (fE rs) s).T t=some (.t (.v (.bool q))):=by rw[(hcx rs none).1 t _ (pL z3),hx0]
      have key:∀(v:Bool),q=v->∀{f:Rx->O},CG j (.v (.bool v)) rs f=some r->∃rs',f rs'=some r/\rs'.length=i/\(∀p∈rs',Good κ p.1)/\fE rs'=fE rs:=λv hq f h=>by
       subst hq;unfold CG at h;split at h
       case h_2=>cases h
       rename_i xj Wj hj;have hxx:xj=x0:=by
        have hz:=z3;simp only[jZ]at hz;split at hz
        .cases hz
        .rw[Qd (j:=j) hpre hdst (λq hq he=>hq (by
          unfold Region.dP at he;obtain⟨oq,ho1,ho2⟩:=jK.1 he;have:=RN honly q oq (by simpa using ho1) ho2;omega)) rs 0 σ xj Wj (Nat.zero_le _) (by simpa using hj)]at hz
         cases hz;rfl
       subst hxx;refine⟨_,h,by rw[RC];exact hl,λp hp=>?_,RB _ rs j _ _ hj (by simp[hx0,X.D])⟩;rcases Ks _ _ _ _ hp with rfl|hp
       .exact rC
       .exact hG p hp
      rcases tO h with⟨hq,h⟩|⟨hq,h⟩
      .obtain⟨rs',h,k1,k2,k3⟩:=key true hq h
       rw[hq]at hTt;rw[<-k3]at hTt ⊢;cases w with
       |true=>exact runK rs' k1 k2 (.inr ⟨_,_,t,z1,hall z2,hTt⟩) h
       |false=>exact skipK rs' k1 k2 ⟨_,_,t,_,z1,hall z2,hTt,.inr rfl⟩ h
      .obtain⟨rs',h,k1,k2,k3⟩:=key false hq h
       rw[hq]at hTt;rw[<-k3]at hTt ⊢;cases w with
       |true=>exact skipK rs' k1 k2 ⟨_,_,t,_,z1,hall z2,hTt,.inr rfl⟩ h
       |false=>exact runK rs' k1 k2 (.inr ⟨_,_,t,z1,hall z2,hTt⟩) h
     split at h
     case h_2=>cases h
     rename_i hchk;simp only[bA]at hchk;obtain⟨hfree,honly,hpre⟩:=hchk;unfold CG at h;split at h
     case h_2=>cases h
     rename_i xj Wj hj
     -- what the test lies in is what was looked up
     have hdst:Region.dP ops j=some t:=by unfold Region.dP;exact hall z2
     have hx0:xj=x0:=by
      have hz:=z3;simp only[jZ]at hz;split at hz
      .cases hz
      .rw[Qd (j:=j) hpre hdst (λq hq he=>hq (by
        unfold Region.dP at he;obtain⟨oq,ho1,ho2⟩:=jK.1 he;have:=RN honly q oq (by simpa using ho1) ho2;omega)) rs 0 σ xj Wj (Nat.zero_le _) (by simpa using hj)]at hz
       cases hz;rfl
     subst hx0;have hmap:fE (gJ (y,Wj) j rs)=fE rs:=RB _ rs j _ _ hj (by simp[z5]);have hlen:(gJ (y,Wj) j rs).length=i:=by rw[RC];exact hl
     have hκ:∃κ':Nat->Bool,(∀p∈gJ (y,Wj) j rs,Good κ' p.1)/\b=κ' key:=by
      obtain⟨k1,k2⟩:=z8 κ (pH hG t xj z3);cases hn:new with
      |false=>
        obtain⟨g1,g2⟩:=k1 hn;refine⟨κ,λp hp=>?_,g2⟩;rcases Ks _ _ _ _ hp with rfl|hp
        .exact g1
        .exact hG p hp
      |true=>
        obtain⟨a,cc,k3⟩:=k2 hn;rw[hn]at hfree;have hf:FY j rs=true:=by simpa using hfree
        have hxf:qI j xj=false:=SY hf _ (List.mem_iff_getElem?.2 ⟨j,hj⟩);obtain⟨g1,g2⟩:=k3 (kO κ j a cc) Tx Tz (λkey' c' x' hx=>by
         rw[hx]at hxf;simp only[qI,ML]at hxf;have h1:=mY hxf.1.1;have h2:=mY hxf.1.2;unfold kO;rw[aC (by omega),aC (by omega)])
        refine⟨kO κ j a cc,λp hp=>?_,g2⟩;rcases Ks _ _ _ _ hp with rfl|hp
        .exact g1
        .exact(hG p hp).set (SY hf p hp)
     obtain⟨κ',hG1,hb⟩:=hκ;have hok:Vw.Ok (jZ ops pre kl fr i (gJ (y,Wj) j rs) σ (some (key,b))) κ':=⟨pH hG1,λkey' c' h=>by cases h;exact hb⟩;have hTt:(ctx ops pre kl fr i (fE rs) s).T t=some xj.D:=(hcx rs none).1 t _ (pL z3);have hoff:b=false->nB c.P ops o (ctx ops pre kl fr i (fE rs) s) (fr+8*i) (.aT []) []:=λhb'=>.inr ⟨⟨j,w,t,_,z1,hall z2,hTt,z7 hb'⟩,rfl,rfl⟩
     have hgd:b=true->pX ops o (ctx ops pre kl fr i (fE rs) s):=λhb'=>.inr ⟨j,w,t,z1,hall z2,by rw[hTt,z6 hb']⟩
     have hle:∀{x:D}{W:Wr},aU c.P o (Vw.den (jZ ops pre kl fr i (gJ (y,Wj) j rs) σ (some (key,b)))) (fr+8*i) x W->aU c.P o (ctx ops pre kl fr i (fE rs) s) (fr+8*i) x W:=λhop=>by
      have:=hcx (gJ (y,Wj) j rs) (some (key,b));rw[hmap]at this;exact MC hop this.1 this.2
     have hsnoc:∀(x:X)(W:Wx),fE (gJ (y,Wj) j rs++[(x,W)])=fE rs++[(x.D,WA W)]:=λx W=>by
      have:fE (gJ (y,Wj) j rs++[(x,W)])=fE (gJ (y,Wj) j rs)++[(x.D,WA W)]:=by simp[fE]
      rw[this,hmap]
     split at h
     .obtain⟨x,W,h,hp,hop⟩:=hs _ κ' _ _ _ _ _ hok h
      obtain⟨hW,h9⟩:=aBu h;subst hW;clear h;have e3:=Cd hs hpn h1 h2 hpl hHL rest (i+1) _ k r κ' h9 (by simp[hlen]) hn' (push hG1 (by
       refine⟨hb,?_⟩;cases x with
       |bit j q=>cases hp
       |eO k c y=>cases hp
       |_=>exact rC))
      rw[hsnoc]at e3;refine .inl ⟨(X.eO key b x).D,WA [],?_,rfl,e3⟩;cases hbb:b with
      |false=>rw[hbb]at hoff;exact hoff rfl
      |true=>rw[hbb]at hgd hop hle;exact .inl ⟨hgd rfl,hle (hop (λkey' c' h=>by cases h;rfl))⟩
     .rcases tO h with⟨hb',h⟩|⟨hb',h⟩
      .obtain⟨x,W,h,hp,hop⟩:=hs _ κ' _ _ _ _ _ hok h
       split at h
       case h_2=>cases h
       rename_i hW;have e3:=Cd hs hpn h1 h2 hpl hHL rest (i+1) _ k r κ' h (by simp[hlen]) hn' (push hG1 (CQ hp));rw[hsnoc]at e3;exact .inl ⟨x.D,WA W,.inl ⟨hgd hb',hle (hop (λkey' c' h=>by cases h;exact hb'))⟩,aDb hW,e3⟩
      .have e3:=Cd hs hpn h1 h2 hpl hHL rest (i+1) _ k r κ' h (by simp[hlen]) hn' (push hG1 rC)
       rw[hsnoc]at e3;exact .inl ⟨_,_,hoff hb',rfl,e3⟩
end
theorem aCb{ops:Array Oper}{fr:Nat}:∀(l:List Oper)(i:Nat)(rs:Rx)(T:XT)(H:XH)(k:XT->XH->O)(r:aH)(s:St),(∀q o,l[q]?=some o->Region.dP ops (i+q)=o.dst)->l.length=rs.length->L9 l rs T H k=some r->fW T H s->
    ∃T' H',k T' H'=some r/\fW T' H' (bS ops fr (λ_=>true) i (fE rs) s)
 |[],i,[],T,H,k,r,s,_,_,h,hL=>⟨T,H,h,hL⟩
 |[],i,_::_,T,H,k,r,s,_,hl,h,hL=>by cases hl
 |_::_,i,[],T,H,k,r,s,_,hl,h,hL=>by cases hl
 |o::l,i,(x,W)::rs,T,H,k,r,s,hd,hl,h,hL=>by
   unfold L9 at h;obtain⟨T',h,hT⟩:=Bv h;obtain⟨H',h,hH⟩:=zX h;have hd0:=hd 0 o rfl;rw[Nat.add_zero]at hd0;obtain⟨T2,H2,e1,e2⟩:=aCb (fr:=fr) l (i+1) rs T' H' k r (s.aN o.dst x.D (WA W) (fr+8*i)) (λq o' hq=>by have:=hd (q+1) o' (by simpa using hq);rwa [show i+(q+1)=i+1+q by omega]at this) (by simpa using hl) h (hL.aN hT hH);refine⟨T2,H2,e1,?_⟩;simp only[fE,gL];unfold bS;rw[hd0];simpa[fE]using e2
end Go.Ax
