/- The abstract machine, run: data with types, states as lists, regions. Conditions are in the theorems. -/
import Derived.Test.YtlhdefefoaldfaaGreatDoorE3
import Derived.KernelRfl
open Bool renaming and_eq_true->bM,or_eq_false_iff->aJI
open List renaming all_eq_true->eC,flatMap->iP,length->gK,length_cons->eB,map_append->qM,map_cons->iN,mem_cons->fA,mem_cons_of_mem->fM,mem_cons_self->iA,range->pA,replicate->eR
open Nat renaming beq->bQ,ble->kH,blt->qK,eq_of_beq_eq_true->bY,one_pos->PE
open Option renaming bind_eq_some_iff->kY,map_eq_some_iff->cN
open Option.some renaming inj->fL
open Prod.mk renaming inj->a4L
open True renaming intro->r7
open UInt8 renaming toNat->X1
/- The abstract machine, run: data with types, states as lists, and one function that runs code on them and says what is left to be shown. -/
namespace Go.Ax
open Go.RowKit Go.Ab
inductive Ex where
 |mk (op n:Int) (kids:List Ex)
def Ex.op:Ex->Int|.mk a _ _=>a
def Ex.num:Ex->Int|.mk _ a _=>a
def Ex.kids:Ex->List Ex|.mk _ _ a=>a
inductive Ty where
 |i (k:IntKind)
 |u8|bo|tx|ex
 |sl (e:Ty)
 |pr (x y:Ty)
def Ty.V:Ty->Type
 |.i _=>Int
 |.u8=>UInt8
 |.bo=>Bool
 |.tx=>List UInt8
 |.ex=>Ex
 |.sl e=>List e.V
 |.pr x y=>x.V×y.V
def hM:(a b:Ty)->Option (PLift (a=b))
 |.i k,.i k'=>if h:k=k' then some ⟨by rw[h]⟩else none
 |.u8,.u8=>some ⟨rfl⟩
 |.bo,.bo=>some ⟨rfl⟩
 |.tx,.tx=>some ⟨rfl⟩
 |.ex,.ex=>some ⟨rfl⟩
 |.sl a,.sl b=>match hM a b with|some ⟨h⟩=>some ⟨by rw[h]⟩|none=>none
 |.pr a b,.pr c d=>match hM a c with
   |some ⟨h⟩=>match hM b d with|some ⟨g⟩=>some ⟨by rw[h,g]⟩|none=>none
   |none=>none
 |_,_=>none
def nU{a b:Ty}(h:a=b)(x:a.V):b.V:=h ▸ x
def Ty.size:Ty->Nat
 |.pr a b=>a.size+b.size
 |.ex=>3
 |_=>1
def Ty.one:Ty->Bool
 |.pr _ _=>false
 |.ex=>false
 |_=>true
def Ty.zero:(τ:Ty)->τ.V
 |.i _=>(0:Int)
 |.u8=>(0:UInt8)
 |.bo=>false
 |.tx=>([]:List UInt8)
 |.ex=>Ex.mk 0 0 []
 |.sl _=>[]
 |.pr a b=>(a.zero,b.zero)
inductive X where
 |e (τ:Ty) (x:τ.V)
 |cH
 |agg (xs:List X)
 |bD (xs:List X)
 |own (k:Nat)
 |ref (k off:Nat)
 |rr (k i j s:Nat)
 |pt (τ:Ty) (y:τ.V) (j:Nat)
 |fn (f:FuncId) (xs:List X)
 |v (val:Value)
 |bit (j:Nat) (q:Bool)
 |eO (key:Nat) (c:Bool) (x:X)
 |sub (k i:Nat)
 |iY (k i j:Nat)
 |vw (k i n s:Nat)
 |via (k j:Nat)
 |dP (val:Value)
inductive XO where
 |box (e:TypeId) (xs:List X)
 |row (e:TypeId) (τ:Ty) (l:List τ.V) (st:Bool)
 |nest (e e':TypeId) (τ:Ty) (l:List (List τ.V))
 |mp (τ:Ty) (l:List (τ.V×X))
 |it (s:List UInt8) (pos:Int)
 |dQ (e e':TypeId) (κ ρ:Ty) (l:List (List κ.V×ρ.V)) (ln:Option (Int×Nat))
abbrev XT:=List (Nat×X)
abbrev XH:=List (Nat×XO)
abbrev Wx:=List (Nat×Option XO)
abbrev aC:=X×XH
abbrev O:=Option aC
structure Sg where
 T:XT
 H:XH
 N:Nat
abbrev bK:=List X->XH->Option (Bool×aC)
abbrev kI:=List X->XH->Option (Bool×Option Bool×aC×aC)
structure Cx where
 P:Program
 ex:TypeId
 G:List (Nat×bK)
 Gp:List (Nat×kI)
class aA where
 br:Bool->O->O->O
 ck:Bool->O->O
 gx:{α:Type}->List α->Int->(α->O)->O
 gn:{α:Type}->List α->Nat->(α->O)->O
 gc:{α:Type}->Bool->α->List α->Int->(α->O)->O
open aA
def br0(b:Bool)(x y:O):O:=match b with|true=>x|false=>y
def ck0(b:Bool)(x:O):O:=match b with|true=>x|false=>none
def Dz{α:Type}(l:List α)(n:Int)(k:α->O):O:=match(if n<0 then none else l[n.toNat]?)with|some y=>k y|none=>none
def WU{α:Type}(l:List α)(n:Nat)(k:α->O):O:=match l[n]? with|some y=>k y|none=>none
def WZ{α:Type}(c:Bool)(z:α)(l:List α)(n:Int)(k:α->O):O:=match c with|true=>Dz l n k|false=>k z
section
variable[aA]
def kW(g:Option Bool)(b:Bool)(k:O):O:=match g with |none=>ck b k |some c=>ck (!c||b) k
def xN(g:Option Bool)(τ:Ty)(l:List τ.V)(n:Int)(k:τ.V->O):O:=match g with|none=>gx l n k|some c=>gc c τ.zero l n k
def ob{α:Type}(x:Option α)(k:α->O):O:=match x with|some y=>k y|none=>none
def lk{α:Type}(k:Nat):List (Nat×α)->Option α
 |[]=>none
 |(k',x)::l=>match bQ k' k with|true=>some x|false=>lk k l
def kP{α β:Type}(k:Nat)(x:α):List (Nat×α)->(List (Nat×α)->Option β)->Option β
 |[],f=>f [(k,x)]
 |(k',y)::l,f=>match bQ k' k with
   |true=>f ((k,x)::l)
   |false=>kP k x l λl'=>f ((k',y)::l')
def rW{α β:Type}(k:Nat):List (Nat×α)->(List (Nat×α)->Option β)->Option β
 |[],f=>f []
 |(k',y)::l,f=>match bQ k' k with
   |true=>rW k l f
   |false=>rW k l λl'=>f ((k',y)::l')
def tX(dst:Option Tmp)(x:X)(T:XT)(f:XT->O):O:=match dst with|none=>f T|some t=>kP t x T f
def oO:Wx->XH->(XH->O)->O
 |[],H,f=>f H
 |(k,some o)::W,H,f=>oO W H λH'=>kP k o H' f
 |(k,none)::W,H,f=>oO W H λH'=>rW k H' f
def xT:(τ:Ty)->τ.V->List X
 |.pr a b,x=>xT a x.1++xT b x.2
 |.ex,x=>[.e (.i .i64) (Ex.op x),.e (.i .i64) (Ex.num x),.e (.sl .ex) (Ex.kids x)]
 |.i k,x=>[.e (.i k) x]
 |.u8,x=>[.e .u8 x]
 |.bo,x=>[.e .bo x]
 |.tx,x=>[.e .tx x]
 |.sl t,x=>[.e (.sl t) x]
def iE(τ:Ty)(x:τ.V):X:=match τ.one with|true=>.e τ x|false=>.agg (xT τ x)
def one?(τ:Ty):X->Option τ.V
 |.e τ' x=>match hM τ' τ with|some ⟨h⟩=>some (nU h x)|none=>none
 |.cH=>match τ with|.sl _=>some []|_=>none
 |_=>none
def pY:(τ:Ty)->List X->Option (τ.V×List X)
 |.pr a b,xs=>match pY a xs with
   |some (x,r)=>match pY b r with
     |some (y,r')=>some ((x,y),r')
     |none=>none
   |none=>none
 |.ex,a::b::c::r=>match one? (.i .i64) a with
   |some x=>match one? (.i .i64) b with
     |some y=>match one? (.sl .ex) c with
       |some z=>some (Ex.mk x y z,r)
       |none=>none
     |none=>none
   |none=>none
 |.ex,_=>none
 |.i k,x::r=>match one? (.i k) x with|some y=>some (y,r)|none=>none
 |.i _,[]=>none
 |.u8,x::r=>match one? .u8 x with|some y=>some (y,r)|none=>none
 |.u8,[]=>none
 |.bo,x::r=>match one? .bo x with|some y=>some (y,r)|none=>none
 |.bo,[]=>none
 |.tx,x::r=>match one? .tx x with|some y=>some (y,r)|none=>none
 |.tx,[]=>none
 |.sl t,x::r=>match one? (.sl t) x with|some y=>some (y,r)|none=>none
 |.sl _,[]=>none
def X.cells:X->List X
 |.agg xs=>xs
 |x=>[x]
def xM(τ:Ty)(xs:List X):Option τ.V:=match pY τ xs with|some (y,[])=>some y|_=>none
def iX(τ:Ty)(x:X):Option τ.V:=match τ.one with
 |true=>one? τ x
 |false=>match x with|.agg xs=>xM τ xs|_=>none
def nW:(τ:Ty)->τ.V->(j m:Nat)->((τ':Ty)->τ'.V->O)->O
 |.pr a b,x,j,m,k=>match bQ j 0&&bQ m (a.size+b.size)with
   |true=>k (.pr a b) x
   |false=>match qK j a.size with
     |true=>nW a x.1 j m k
     |false=>nW b x.2 (j-a.size) m k
 |.ex,x,j,m,k=>match j,m with
   |0,3=>k .ex x
   |0,1=>k (.i .i64) (Ex.op x)
   |1,1=>k (.i .i64) (Ex.num x)
   |2,1=>k (.sl .ex) (Ex.kids x)
   |_,_=>none
 |τ,x,j,m,k=>match bQ j 0&&bQ m 1 with
   |true=>k τ x
   |false=>none
def setAt:(τ:Ty)->τ.V->(j m:Nat)->List X->(τ.V->O)->O
 |.pr a b,x,j,m,xs,k=>match bQ j 0&&bQ m (a.size+b.size)with
   |true=>ob (xM (.pr a b) xs) k
   |false=>match qK j a.size with
     |true=>setAt a x.1 j m xs λy=>k (y,x.2)
     |false=>setAt b x.2 (j-a.size) m xs λy=>k (x.1,y)
 |.ex,_,j,m,xs,k=>match j,m with
   |0,3=>ob (xM .ex xs) k
   |_,_=>none
 |τ,_,j,m,xs,k=>match bQ j 0&&bQ m 1 with
   |true=>ob (xM τ xs) k
   |false=>none
def H8:List Ty->Option Ty
 |[]=>none
 |[a]=>some a
 |a::l=>match H8 l with|some r=>some (.pr a r)|none=>none
def xG{α β:Type}(f:α->Option β):List α->Option (List β)
 |[]=>some []
 |x::l=>match f x with
   |some y=>match xG f l with|some r=>some (y::r)|none=>none
   |none=>none
def De{α:Type}(x:α):Nat->List α
 |0=>[]
 |n+1=>x::De x n
def N5(P:Program)(ex:TypeId):Nat->TypeId->Option Ty
 |0,_=>none
 |n+1,t=>match bQ t ex with
   |true=>some .ex
   |false=>match P.underlying t with
     |some (.int .u8)=>some .u8
     |some (.int k)=>some (.i k)
     |some .bool=>some .bo
     |some .string=>some .tx
     |some (.slice e)=>match N5 P ex n e with|some τ=>some (.sl τ)|none=>none
     |some (.struct fs)=>match xG (λf=>N5 P ex n f.type) fs.toList with|some l=>H8 l|none=>none
     |some (.array m e)=>match N5 P ex n e with|some τ=>H8 (De τ m)|none=>none
     |_=>none
def Cx.ty(c:Cx)(t:TypeId):Option Ty:=N5 c.P c.ex 12 t
def iF(P:Program)(t:TypeId):Option Nat:=(P.info? t).map (·.size)
def aIH(P:Program)(t:TypeId):Option TypeId:=match P.underlying t with|some (.slice e)=>some e|_=>none
def nN:Value->X
 |.int .u8 n=>match decide (0<=n/\n<256)with|true=>.e .u8 (UInt8.ofNat n.toNat)|false=>.v (.int .u8 n)
 |.int k n=>.e (.i k) n
 |.bool b=>.e .bo b
 |.string s=>.e .tx s.data.toList
 |.slice none 0 0=>.cH
 |w=>.v w
def rN:Value->Option X
 |.agg cs=>match cs.toList.all (·.oneCell')with|true=>some (.agg (cs.toList.map nN))|false=>none
 |.tuple _=>none
 |w=>some (nN w)
def Hl(g:Nat):X:=match g with
 |0=>.pt (.pr .u8 (.pr .u8 (.pr .u8 (.pr .u8 (.pr .u8 (.pr .u8 (.pr .u8 (.pr .u8 (.pr .u8 .u8))))))))) ((26:UInt8),(1:UInt8),(3:UInt8),(9:UInt8),(25:UInt8),(17:UInt8),(11:UInt8),(27:UInt8),(19:UInt8),(10:UInt8)) 0
 |1=>.pt (.pr .u8 (.pr .u8 (.pr .u8 (.pr .u8 (.pr .u8 (.pr .u8 (.pr .u8 (.pr .u8 (.pr .u8 (.pr .u8 (.pr .u8 (.pr .u8 (.pr .u8 (.pr .u8 (.pr .u8 (.pr .u8 (.pr .u8 (.pr .u8 (.pr .u8 (.pr .u8 (.pr .u8 (.pr .u8 (.pr .u8 (.pr .u8 (.pr .u8 .u8))))))))))))))))))))))))) ((1:UInt8),(3:UInt8),(9:UInt8),(25:UInt8),(17:UInt8),(11:UInt8),(27:UInt8),(19:UInt8),(10:UInt8),(26:UInt8),(5:UInt8),(7:UInt8),(13:UInt8),(29:UInt8),(21:UInt8),(15:UInt8),(31:UInt8),(23:UInt8),(14:UInt8),(30:UInt8),(37:UInt8),(39:UInt8),(58:UInt8),(45:UInt8),(61:UInt8),(53:UInt8)) 0
 |2=>.pt (.pr .u8 (.pr .u8 (.pr .u8 (.pr .u8 (.pr .u8 (.pr .u8 (.pr .u8 (.pr .u8 (.pr .u8 .u8))))))))) ((22:UInt8),(36:UInt8),(33:UInt8),(12:UInt8),(24:UInt8),(54:UInt8),(42:UInt8),(28:UInt8),(55:UInt8),(62:UInt8)) 0
 |3=>.pt (.pr (.pr (.i .i64) (.pr (.i .i64) (.pr (.i .i64) .u8))) (.pr (.pr (.i .i64) (.pr (.i .i64) (.pr (.i .i64) .u8))) (.pr (.pr (.i .i64) (.pr (.i .i64) (.pr (.i .i64) .u8))) (.pr (.pr (.i .i64) (.pr (.i .i64) (.pr (.i .i64) .u8))) (.pr (.pr (.i .i64) (.pr (.i .i64) (.pr (.i .i64) .u8))) (.pr (.pr (.i .i64) (.pr (.i .i64) (.pr (.i .i64) .u8))) (.pr (.pr (.i .i64) (.pr (.i .i64) (.pr (.i .i64) .u8))) (.pr (.pr (.i .i64) (.pr (.i .i64) (.pr (.i .i64) .u8))) (.pr (.pr (.i .i64) (.pr (.i .i64) (.pr (.i .i64) .u8))) (.pr (.pr (.i .i64) (.pr (.i .i64) (.pr (.i .i64) .u8))) (.pr (.i .i64) (.pr (.i .i64) (.pr (.i .i64) .u8))))))))))))) (((0:Int),(999999:Int),(4:Int),(0:UInt8)),((0:Int),(25:Int),(4:Int),(0:UInt8)),((1:Int),(0:Int),(3:Int),(45:UInt8)),((2:Int),(0:Int),(1:Int),(43:UInt8)),((2:Int),(0:Int),(1:Int),(45:UInt8)),((2:Int),(0:Int),(2:Int),(42:UInt8)),((2:Int),(0:Int),(2:Int),(47:UInt8)),((2:Int),(0:Int),(3:Int),(94:UInt8)),((1:Int),(0:Int),(4:Int),(82:UInt8)),((2:Int),(0:Int),(0:Int),(61:UInt8)),((2:Int),(0:Int),(0:Int),(60:UInt8))) 0
 |g=>.v (.pointer (some ⟨g,0,none⟩))
structure Vw where
 T:Nat->Option X
 H:Nat->Option XO
 g:Option (Nat×Bool):=none
def tY(g:Option (Nat×Bool)):X->Option X
 |.bit _ q=>some (.e .bo q)
 |.eO key _ x=>match g with
   |some (key',_)=>match bQ key key' with
     |true=>match x with|.bit _ q=>some (.e .bo q)|.eO ..=>none|x=>some x
     |false=>none
   |none=>none
 |x=>some x
def Vw.ev(σ:Vw):Operand->Option X
 |.tmp t=>match σ.T t with|some x=>tY σ.g x|none=>none
 |.const w=>rN w
 |.func f=>some (.fn f [])
 |.global g=>some (Hl g)
def Vw.uJ(σ:Vw):List Operand->(List X->O)->O
 |[],k=>k []
 |x::l,k=>ob (σ.ev x) λy=>σ.uJ l λys=>k (y::ys)
def Vw.kU(σ:Vw):X->X
 |.own q=>match σ.H q with|some (.row _ τ l true)=>.e (.sl τ) l|_=>.own q
 |x=>x
def Vw.p7(σ:Vw):X->X
 |.agg xs=>.agg (xs.map σ.kU)
 |x=>σ.kU x
def Vw.src(σ:Vw)(τ:Ty):X->Option (List τ.V)
 |.own q=>match σ.H q with
   |some (.row _ τ' l _)=>match hM τ' τ with|some ⟨h⟩=>some (nU (bG Ty.sl h) l)|none=>none
   |_=>none
 |x=>one? (.sl τ) x
def Vw.len(σ:Vw):X->(Int->O)->O
 |.own q,k=>match σ.H q with|some (.row _ _ l _)=>k l.length|some (.nest _ _ _ l)=>k (gK l)|some (.dQ _ _ _ _ l _)=>k (gK l)|_=>none
 |.sub q i,k=>match σ.H q with|some (.nest _ _ _ l)=>gn l i λr=>k (gK r)|_=>none
 |.e (.sl _) l,k=>k (gK l)
 |.cH,k=>k 0
 |_,_=>none
def WI(c:Cx)(σ:Vw)(t:TypeId)(v:X)(k:X->O):O:=match c.P.underlying t,v with
 |some (.slice _),v=>σ.len v λn=>k (.e (.i .i64) n)
 |some .string,.e .tx l=>k (.e (.i .i64) (gK (α:=UInt8) l:Int))
 |_,_=>none
def V4:Operand->Operand->Bool
 |.tmp a,.tmp b=>bQ a b
 |.const (.int k a),.const (.int k' b)=>decide (k=k')&&a == b
 |_,_=>false
def aIb(q x:Bool)(k:X->O):O:=k (.e .bo (q&&x))
def orX(q x:Bool)(k:X->O):O:=k (.e .bo (q||x))
def Vw.EC(σ:Vw)(key:Nat):Operand->Option X
 |.tmp t=>match σ.T t with
   |some (.eO key' _ x)=>match bQ key' key with
     |true=>match x with|.bit _ q=>some (.e .bo q)|.eO ..=>none|x=>some x
     |false=>tY σ.g (.eO key' true x)
   |some x=>tY σ.g x
   |none=>none
 |x=>σ.ev x
def Vw.XE(σ:Vw):Operand->Option (Nat×Bool)
 |.tmp t=>match σ.T t with
   |some (.bit j q)=>some (j,q)
   |some (.eO key _ (.bit j q))=>match σ.g with
     |some (key',_)=>match bQ key key' with|true=>some (j,q)|false=>none
     |none=>none
   |_=>none
 |_=>none
def VZ(σ:Vw)(b x y:Operand)(k:X->O):O:=match σ.XE b with
 |some (j,q)=>ob (σ.EC (2*j+1) x) λv=>ob (σ.EC (2*j) y) λv'=>match v,v' with
   |.e .bo a,.e .bo a'=>match y,x with
     |.const (.bool false),_=>aIb q a k
     |_,.const (.bool true)=>orX q a' k
     |_,_=>br q (k v) (k v')
   |v,v'=>br q (k v) (k v')
 |none=>ob (σ.ev b) λv=>match v with
   |.e .bo q=>br q (ob (σ.ev x) k) (ob (σ.ev y) k)
   |.v (.bool true)=>ob (σ.ev x) k
   |.v (.bool false)=>ob (σ.ev y) k
   |_=>none
def cZ(n b:Nat):Bool:=decide (n*b<=140737488355328/\n<=140737488355327)
def aI1(op:BinOp)(m n:Bool)(k:X->O):O:=match op with
 |.eql=>k (.e .bo (m == n))
 |.neq=>k (.e .bo (!(m == n)))
 |_=>none
def aHL(ik:IntKind)(n:Int)(k:X->O):O:=k (.e (.i ik) (ik.wrap (-n)))
def aHF(q:Bool)(k:X->O):O:=k (.e .bo (!q))
def Hf(τ:Ty)(e:TypeId)(fr b:Nat)(st:Bool)(z:Int)(k:X->Wx->O):O:=ck (decide (0<=z)) (ck (cZ z.toNat b) (k (.own fr) [(fr,some (.row e τ (eR z.toNat τ.zero) st))]))
def bytesOf(x:List UInt8):(τ:Ty)->Option (List τ.V)
 |.u8=>some x
 |_=>none
def XU(τ:Ty)(e:TypeId)(fr bt:Nat)(gone:Wx)(st:Bool)(l l':List τ.V)(k:X->Wx->O):O:=ck (cZ (l++l').length bt) (k (.own fr) ((fr,some (.row e τ (l++l') st))::gone))
def OR(m n:Int)(k:X->O):O:=k (.e (.i .i64) (max m n:Int))
def aHO(m n:Int)(k:X->O):O:=k (.e (.i .i64) (min m n:Int))
def dV(n:Int):UInt8:=UInt8.ofNat (n%256).toNat
def WM(g:Option Bool)(op:BinOp)(ik:IntKind)(m n:Int)(k:X->O):O:=match op with
 |.add=>k (.e (.i ik) (ik.wrap (m+n)))
 |.sub=>k (.e (.i ik) (ik.wrap (m-n)))
 |.mul=>k (.e (.i ik) (ik.wrap (m*n)))
 |.quo=>kW g (decide (n≠0)) (k (.e (.i ik) (ik.wrap (m.tdiv n))))
 |.rem=>kW g (decide (n≠0)) (k (.e (.i ik) (m.tmod n)))
 |.lss=>k (.e .bo (decide (m<n)))
 |.leq=>k (.e .bo (decide (m<=n)))
 |.gtr=>k (.e .bo (decide (n<m)))
 |.geq=>k (.e .bo (decide (n<=m)))
 |.eql=>k (.e .bo (decide (m=n)))
 |.neq=>k (.e .bo (decide (m≠n)))
 |_=>none
def a1h:BinOp->Bool
 |.shl=>true
 |.shr=>true
 |_=>false
def VG(g:Option Bool)(op:BinOp)(ik:IntKind)(m n:Int)(k:X->O):O:=match op with
 |.shl=>kW g (decide (0<=n)) (k (.e (.i ik) (ik.wrap (m*2^(min n.toNat ik.bits)))))
 |.shr=>kW g (decide (0<=n)) (k (.e (.i ik) (m.fdiv (2^(min n.toNat ik.bits)))))
 |_=>none
def Uh(op:BinOp)(m n:UInt8)(k:X->O):O:=match op with
 |.add=>k (.e .u8 (m+n))
 |.sub=>k (.e .u8 (m-n))
 |.lss=>k (.e .bo (decide (m<n)))
 |.leq=>k (.e .bo (decide (m<=n)))
 |.gtr=>k (.e .bo (decide (n<m)))
 |.geq=>k (.e .bo (decide (n<=m)))
 |.eql=>k (.e .bo (decide (m=n)))
 |.neq=>k (.e .bo (decide (m≠n)))
 |_=>none
def Uk(g:Option Bool)(op:BinOp)(m n:List UInt8)(k:X->O):O:=match op with
 |.add=>kW g (decide ((m.length:Int)+n.length<=9223372036854775807)) (k (.e .tx (m++n)))
 |.eql=>k (.e .bo (decide (m=n)))
 |.neq=>k (.e .bo (decide (m≠n)))
 |_=>none
def XF(P:Program)(g:Option Bool)(op:BinOp)(xt:TypeId)(x y:X)(k:X->O):O:=match x,y with
 |.e (.i ik) m,.e (.i ik') n=>match a1h op with
   |true=>VG g op ik m n k
   |false=>match decide (ik=ik')with|true=>WM g op ik m n k|false=>none
 |.e .u8 m,.e .u8 n=>Uh op m n k
 |.e .tx m,.e .tx n=>Uk g op m n k
 |.e .bo m,.e .bo n=>match P.underlying xt with
   |some .bool=>aI1 op m n k
   |_=>none
 |_,_=>none
def Vf(P:Program)(t:TypeId)(op:BinOp)(v w:X)(y:Operand):Option Bool:=match v with
 |.v .nilIface=>match w,y,P.underlying t with
   |.v .nilIface,.const _,some (.interface _)=>(match op with|.eql=>some true|.neq=>some false|_=>none)
   |_,_,_=>none
 |_=>none
def asInt(x:X)(k:Int->O):O:=match x with
 |.e (.i _) n=>k n
 |.e .u8 c=>k (X1 c:Int)
 |_=>none
def Vw.kR(σ:Vw):Option Operand->(Option Int->O)->O
 |none,f=>f none
 |some x,f=>ob (σ.ev x) λw=>asInt w λn=>f (some n)
def Of(P:Program)(s d:TypeId)(x:X)(k:X->O):O:=match P.underlying s,P.underlying d,x with
 |some _,some (.int .u8),.e (.i _) m=>k (.e .u8 (dV m))
 |some _,some (.int .u8),.e .u8 c=>k (.e .u8 c)
 |some _,some (.int kd),.e (.i _) m=>k (.e (.i kd) (kd.wrap m))
 |some _,some (.int kd),.e .u8 c=>k (.e (.i kd) (kd.wrap (X1 c:Int)))
 |_,_,_=>none
def xQ{α:Type}:Nat->List α->List α
 |0,l=>l
 |_+1,[]=>[]
 |n+1,_::l=>xQ n l
def tZ{α:Type}:Nat->List α->List α
 |0,_=>[]
 |_+1,[]=>[]
 |n+1,x::l=>x::tZ n l
def kQ{α:Type}:List α->Nat->List α->List α
 |l,0,[]=>l
 |_::l,0,y::new=>y::kQ l 0 new
 |[],_,_=>[]
 |x::l,n+1,new=>x::kQ l n new
def Vy(c:Cx)(σ:Vw)(t:TypeId)(a:X)(k:X->O):O:=match j9 c.P t,iF c.P t with
 |some rw,some m=>match a with
   |.ref q off=>match σ.H q with
     |some (.box _ xs)=>match rw with
       |true=>match bQ (tZ m (xQ off xs)).length m with|true=>k (.agg (tZ m (xQ off xs)))|false=>none
       |false=>ob xs[off]? k
     |_=>none
   |.rr q i j s=>match σ.H q with
     |some (.row _ τ l _)=>match bQ s τ.size with
       |true=>gn l i λy=>nW τ y j m λτ' y'=>match rw,τ'.one with
         |true,false=>k (.agg (xT τ' y'))
         |false,true=>k (.e τ' y')
         |_,_=>none
       |false=>none
     |some (.nest _ _ _ l)=>match rw,bQ j 0&&bQ s 1 with
       |false,true=>gn l i λ_=>k (.sub q i)
       |_,_=>none
     |some (.dQ _ _ _ ρ l ln)=>match bQ s (1+ρ.size)with
       |true=>match bQ j 0 with
         |true=>match rw,ln with
           |false,some (i',q')=>ck (decide (i=i'.toNat)) (gn l i λ_=>k (.own q'))
           |_,_=>none
         |false=>gn l i λy=>nW ρ y.2 (j-1) m λτ' y'=>match rw,τ'.one with
           |true,false=>k (.agg (xT τ' y'))
           |false,true=>k (.e τ' y')
           |_,_=>none
       |false=>none
     |_=>none
   |.iY q i j=>match σ.H q with
     |some (.nest _ _ τ l)=>match rw,τ.one with
       |false,true=>gn l i λr=>gn r j λy=>k (.e τ y)
       |_,_=>none
     |_=>none
   |.pt τ y j=>nW τ y j m λτ' y'=>match rw,τ'.one with
     |true,false=>k (.agg (xT τ' y'))
     |false,true=>k (.e τ' y')
     |_,_=>none
   |_=>none
 |_,_=>none
def Ul(c:Cx)(σ:Vw)(t:TypeId)(a y:X)(k:X->Wx->O):O:=match iF c.P t with
 |some m=>match bQ y.cells.length m&&qK 0 m with
   |true=>match a with
     |.ref q off=>match σ.H q with
       |some (.box e xs)=>match kH (off+m) xs.length with
         |true=>k (.bD []) [(q,some (.box e (kQ xs off y.cells)))]
         |false=>none
       |_=>none
     |.rr q i j s=>match σ.H q with
       |some (.row e τ l false)=>match bQ s τ.size with
         |true=>gn l i λz=>setAt τ z j m (σ.p7 y).cells λz'=>k (.bD []) [(q,some (.row e τ (l.set i z') false))]
         |false=>none
       |_=>none
     |_=>none
   |false=>none
 |none=>none
def dY{α:Type}(l:List α)(lo hi:Option Int):List α:=match lo,hi with
 |none,none=>l
 |some a,none=>l.drop a.toNat
 |none,some b=>l.take b.toNat
 |some a,some b=>(l.take b.toNat).drop a.toNat
def eQ(n:Nat)(lo hi:Option Int):Bool:=match lo,hi with
 |none,none=>true
 |some a,none=>decide (0<=a/\a<=n)
 |none,some b=>decide (0<=b/\b<=n)
 |some a,some b=>decide (0<=a/\a<=b/\b<=n)
def VC(τ:Ty)(g:Option Bool)(l:List τ.V)(lo hi:Option Int)(k:X->O):O:=kW g (eQ l.length lo hi) (k (.e (.sl τ) (dY l lo hi)))
def aGN(g:Option Bool)(l:List UInt8)(lo hi:Option Int)(k:X->O):O:=kW g (eQ l.length lo hi) (k (.e .tx (dY l lo hi)))
def nK(τ:Ty):Nat->(σ:Ty)->σ.V->Option (List τ.V)
 |0,_,_=>none
 |1,σ,y=>match hM σ τ with|some ⟨h⟩=>some [nU h y]|none=>none
 |n+2,.pr a b,y=>match hM a τ with
   |some ⟨h⟩=>match nK τ (n+1) b y.2 with|some l=>some (nU h y.1::l)|none=>none
   |none=>none
 |_+2,_,_=>none
def VE(c:Cx)(t:TypeId)(a:X)(k:X->O):O:=match c.P.underlying t with
 |some (.array n e)=>match a with
   |.pt σ y 0=>match c.ty e with
     |some τ=>match iF c.P e with
       |some m=>match bQ m τ.size with
         |true=>match nK τ n σ y with
           |some l=>match bQ l.length n with|true=>k (.e (.sl τ) l)|false=>none
           |none=>none
         |false=>none
       |none=>none
     |none=>none
   |_=>none
 |_=>none
def Nc(c:Cx)(σ:Vw)(t:TypeId)(a:X)(lo hi:Option Int)(k:X->O):O:=match c.P.underlying t,σ.kU a with
 |some (.slice e),.e (.sl τ) l=>match iF c.P e with
   |some m=>match bQ m τ.size with|true=>VC τ (σ.g.map (·.2)) l lo hi k|false=>none
   |none=>none
 |some .string,.e .tx l=>aGN (σ.g.map (·.2)) l lo hi k
 |_,_=>none
def WC:Option Int->Nat
 |none=>0
 |some a=>a.toNat
def hiV(n:Nat):Option Int->Nat
 |none=>n
 |some b=>b.toNat
def VD(c:Cx)(σ:Vw)(t:TypeId)(q:Nat)(τ:Ty)(l:List τ.V)(lo hi:Option Int)(k:X->Wx->O):O:=match c.P.underlying t with
 |some (.slice e)=>match iF c.P e with
   |some m=>match bQ m τ.size with
     |true=>kW (σ.g.map (·.2)) (eQ l.length lo hi) (k (.vw q (WC lo) (hiV l.length hi-WC lo) m) [])
     |false=>none
   |none=>none
 |_=>none
def Wu(_c:Cx)(_σ:Vw)(_t:TypeId)(_v _w:X)(_k:X->Wx->O):O:=none
def X.val:X->Bool
 |.e τ _=>τ.one
 |.bD _=>false
 |.eO ..=>false
 |.bit ..=>false
 |.dP _=>false
 |_=>true
def OT(τ:Ty):List X->Option (List τ.V)
 |[]=>some []
 |x::r=>match one? τ x with
   |some y=>match OT τ r with|some l=>some (y::l)|none=>none
   |none=>none
def WQ(c:Cx)(σ:Vw)(t:TypeId)(a:X)(x:X)(k:X->O):O:=asInt x λn=>match a with
 |.e (.sl τ) l=>match rV c.P t with
   |some s=>match bQ s τ.size with
     |true=>xN (σ.g.map (·.2)) τ l n λy=>k (.pt τ y 0)
     |false=>none
   |none=>none
 |.own q=>match σ.H q,rV c.P t with
   |some (.row _ τ l st),some s=>match bQ s τ.size with
     |true=>match st with
       |true=>xN (σ.g.map (·.2)) τ l n λy=>k (.pt τ y 0)
       |false=>kW (σ.g.map (·.2)) (decide (0<=n/\n<l.length)) (k (.rr q n.toNat 0 s))
     |false=>none
   |some (.nest _ _ _ l),some s=>match bQ s 1 with
     |true=>ck (decide (0<=n/\n<l.length)) (k (.rr q n.toNat 0 s))
     |false=>none
   |some (.dQ _ _ _ ρ l _),some s=>match bQ s (1+ρ.size)with
     |true=>kW (σ.g.map (·.2)) (decide (0<=n/\n<gK l)) (k (.rr q n.toNat 0 s))
     |false=>none
   |_,_=>none
 |.sub q i=>match σ.H q,rV c.P t with
   |some (.nest _ _ _ l),some s=>match bQ s 1 with
     |true=>gn l i λr=>ck (decide (0<=n/\n<r.length)) (k (.iY q i n.toNat))
     |false=>none
   |_,_=>none
 |.ref q off=>match BW c.P t with
   |some (m,s)=>match decide (0<=n/\n<m)with
     |true=>k (.ref q (off+n.toNat*s))
     |false=>none
   |none=>none
 |.pt ρ y 0=>match c.P.underlying t,BW c.P t with
   |some (.array _ e),some (m,s)=>match c.ty e with
     |some τ=>match nK τ m ρ y with
       |some l=>match bQ s τ.size&&bQ l.length m with
         |true=>xN (σ.g.map (·.2)) τ l n λy=>k (.pt τ y 0)
         |false=>none
       |none=>none
     |none=>none
   |_,_=>none
 |_=>none
def WN(c:Cx)(t:TypeId)(g:Option Bool)(a:X)(x:X)(k:X->O):O:=asInt x λn=>match c.P.underlying t,a with
 |some .string,.e .tx l=>xN g .u8 l n λc=>k (.e .u8 c)
 |some (.array m e),.agg (.e τ y::r)=>match τ.one&&bQ m (r.length+1),j9 c.P e,iF c.P e with
   |true,some false,some 1=>ob (OT τ (.e τ y::r)) λl=>xN g τ l n λy=>k (.e τ y)
   |_,_,_=>none
 |_,_=>none
def WO(c:Cx)(σ:Vw)(t:TypeId)(a:X)(x:X)(k:X->O):O:=asInt x λn=>match a with
 |.ref q off=>match BW c.P t with
   |some (m,s)=>kW (σ.g.map (·.2)) (decide (0<=n/\n<m)) (k (.ref q (off+n.toNat*s)))
   |none=>none
 |_=>none
def Hh(τ:Ty):List X->Option (List τ.V)
 |[]=>some []
 |.e τ' x::r=>match hM τ' τ with
   |some ⟨h⟩=>match Hh τ r with|some l=>some (nU h x::l)|none=>none
   |none=>none
 |_::_=>none
def Vz(c:Cx)(σ:Vw)(t:TypeId)(a:X)(k:X->O):O:=match j9 c.P t,a with
 |some false,.ref q off=>match σ.H q with
   |some (.box _ (.e τ y::xs))=>match τ.one with
     |true=>ob (Hh τ (.e τ y::xs)) λl=>xN (σ.g.map (·.2)) τ l (off:Int) λy=>k (.e τ y)
     |false=>none
   |_=>none
 |_,_=>none
def VJ{α:Type}(b:Bool)(x y:α):α:=match b with|true=>x|false=>y
def wT(τ:Ty)(off:Nat)(z:τ.V):Nat->List τ.V->List X
 |_,[]=>[]
 |i,y::l=>.e τ (VJ (bQ off i) z y)::wT τ off z (i+1) l
def Um(c:Cx)(σ:Vw)(t:TypeId)(a y:X)(k:X->Wx->O):O:=match iF c.P t,a,y with
 |some 1,.ref q off,.e τ z=>match τ.one with
   |true=>match σ.H q with
     |some (.box e xs)=>ob (Hh τ xs) λl=>ck (decide (off<l.length)) (k (.bD []) [(q,some (.box e (wT τ off z 0 l)))])
     |_=>none
   |false=>none
 |_,_,_=>none
def Wt(c:Cx)(σ:Vw)(fr:Nat)(t:TypeId)(q:Nat)(hi:Option Int)(k:X->Wx->O):O:=match c.P.underlying t,σ.H q,hi with
 |some (.slice e),some (.row e' τ l false),some n=>match iF c.P e with
   |some m=>match bQ m τ.size with
     |true=>ck (decide (0<=n/\n<=l.length)) (k (.own fr) [(fr,some (.row e' τ (l.take n.toNat) false)),(q,none)])
     |false=>none
   |none=>none
 |_,_,_=>none
def B5:Option Int->Bool
 |none=>true
 |some n=>decide (n=0)
def Wa(c:Cx)(s:TypeId)(f:Nat)(a:X)(k:X->O):O:=ob (Hq c.P s f) λq=>match a with
 |.ref p off=>k (.ref p (off+q))
 |.rr p i j z=>k (.rr p i (j+q) z)
 |.pt τ y j=>k (.pt τ y (j+q))
 |_=>none
def W9(c:Cx)(s:TypeId)(f:Nat)(a:X)(k:X->O):O:=match c.P.underlying s,a with
 |some (.struct fs),.agg xs=>match fs[f]? with
   |some fl=>match j9 c.P fl.type,iF c.P fl.type with
     |some rw,some m=>match rw with
       |true=>match bQ (tZ m (xQ fl.offset xs)).length m with|true=>k (.agg (tZ m (xQ fl.offset xs)))|false=>none
       |false=>ob xs[fl.offset]? k
     |_,_=>none
   |none=>none
 |_,_=>none
def u9(P:Program)(t:TypeId):Option X:=match(P.info? t).bind (·.zero)with|some z=>rN z|none=>none
def places(P:Program)(t:TypeId):Option (List (Nat×Nat)):=match P.underlying t with
 |some (.struct fs)=>xG (λf=>match iF P f.type with|some m=>some (f.offset,m)|none=>none) fs.toList
 |some (.array n e)=>match iF P e with|some m=>some ((pA n).map λi=>(i*m,m))|none=>none
 |_=>none
def Hp(pl:List (Nat×Nat)):List X->List (Nat×X)->(List X->O)->O
 |cells,[],k=>k cells
 |cells,(i,x)::rest,k=>match pl[i]? with
   |some (off,m)=>match x.val&&bQ x.cells.length m&&kH (off+m) cells.length with
     |true=>Hp pl (kQ cells off x.cells) rest k
     |false=>none
   |none=>none
def Vw.BP(σ:Vw):List (Nat×Operand)->(List (Nat×X)->O)->O
 |[],k=>k []
 |(i,x)::l,k=>ob (σ.ev x) λy=>σ.BP l λys=>k ((i,y)::ys)
def gQ{α:Type}(x:α):Nat->List α->List α
 |_,[]=>[]
 |0,_::l=>x::l
 |n+1,y::l=>y::gQ x n l
def B6(τ:Ty)(v:Value):Bool:=match τ with
 |.i k=>match v with|.int k' n=>decide (k=k')&&decide (n=0)|_=>false
 |.u8=>match v with|.int .u8 n=>decide (n=0)|_=>false
 |.bo=>match v with|.bool false=>true|_=>false
 |.tx=>match v with|.string s=>(match s.data.toList with|[]=>true|_=>false)|_=>false
 |.sl _=>match v with|.slice none 0 0=>true|_=>false
 |_=>false
def qR(τ:Ty):List Value->Option (List Value)
 |x::r=>match B6 τ x with|true=>some r|false=>none
 |[]=>none
def B7:Ty->List Value->Option (List Value)
 |.pr a b,l=>match B7 a l with|some l'=>B7 b l'|none=>none
 |.ex,l=>match qR (.i .i64) l with
   |some l=>match qR (.i .i64) l with
     |some l=>qR (.sl .ex) l
     |none=>none
   |none=>none
 |.i k,l=>qR (.i k) l
 |.u8,l=>qR .u8 l
 |.bo,l=>qR .bo l
 |.tx,l=>qR .tx l
 |.sl e,l=>qR (.sl e) l
def nX(c:Cx)(t:TypeId):Option (TypeId×Ty×Nat):=match aIH c.P t with
 |some e=>match c.ty e,c.P.info? e with
   |some τ,some i=>match i.zero with
     |some z=>match B7 τ z.cells.toList with
       |some []=>match bQ i.size τ.size&&bQ z.cells.size τ.size with|true=>some (e,τ,i.bytes)|false=>none
       |_=>none
     |none=>none
   |_,_=>none
 |none=>none
def WT(τ:Ty)(e:TypeId)(fr bt q:Nat)(st:Bool)(l:List τ.V)(z:Int)(k:X->Wx->O):O:=ck (decide (0<=z)) (ck (cZ (l.length+z.toNat) bt) (k (.own fr) [(fr,some (.row e τ (l++eR z.toNat τ.zero) st)),(q,none)]))
def XS(c:Cx)(σ:Vw)(fr:Nat)(st:Bool)(t t':TypeId)(x y:Operand)(k:X->Wx->O):O:=ob (nX c t) λp=>match p with
 |(e,τ,bt)=>ob (σ.ev x) λv=>ob (σ.ev y) λw=>match v,w,c.P.underlying t' with
   |.cH,.e (.i .i64) n,some (.int .i64)=>Hf τ e fr bt st n k
   |.own q,.e (.i .i64) n,some (.int .i64)=>match σ.H q with
     |some (.row e' τ' l st')=>match hM τ' τ with
       |some ⟨h⟩=>match bQ e' e with
         |true=>WT τ e fr bt q st' (nU (bG Ty.sl h) l) n k
         |false=>none
       |none=>none
     |_=>none
   |_,_,_=>none
def Hg(τ:Ty)(σ:Vw):List τ.V->List (Nat×X)->(List τ.V->O)->O
 |l,[],k=>k l
 |l,(i,x)::rest,k=>match qK i l.length with
   |true=>ob (iX τ (σ.p7 x)) λy=>Hg τ σ (gQ y i l) rest k
   |false=>none
def ins(k:Nat):List Nat->List Nat
 |[]=>[k]
 |x::l=>match bQ x k with|true=>x::l|false=>x::ins k l
mutual
def Vj:X->List Nat->List Nat
 |.own q,acc=>ins q acc
 |.ref q _,acc=>ins q acc
 |.rr q _ _ _,acc=>ins q acc
 |.sub q _,acc=>ins q acc
 |.iY q _ _,acc=>ins q acc
 |.vw q _ _ _,acc=>ins q acc
 |.via q _,acc=>ins q acc
 |.agg xs,acc=>kC xs acc
 |.bD xs,acc=>kC xs acc
 |.fn _ xs,acc=>kC xs acc
 |_,acc=>acc
def kC:List X->List Nat->List Nat
 |[],acc=>acc
 |x::l,acc=>kC l (Vj x acc)
end
def aHM{α:Type}:List (α×X)->List Nat->List Nat
 |[],acc=>acc
 |(_,x)::l,acc=>aHM l (Vj x acc)
def a0o:XO->List Nat->List Nat
 |.box _ xs,acc=>kC xs acc
 |.row ..,acc=>acc
 |.nest ..,acc=>acc
 |.mp _ l,acc=>aHM l acc
 |.it ..,acc=>acc
 |.dQ _ _ _ _ _ ln,acc=>match ln with|some (_,q)=>ins q acc|none=>acc
def reach(H:Nat->Option XO):Nat->List Nat->List Nat->List Nat
 |0,_,acc=>acc
 |_+1,[],acc=>acc
 |n+1,q::todo,acc=>match H q with
   |some o=>reach H n (todo++(a0o o []).filter λx=>!(acc.contains x)&&!(todo.contains x)&&!(bQ x q)) (acc++[q])
   |none=>reach H n todo (acc++[q])
def old(rn:List (Nat×Nat))(k:Nat):Option Nat:=match rn with
 |[]=>none
 |(new,o)::l=>match bQ o k with|true=>some new|false=>old l k
mutual
def fJ(f:Nat->Option Nat):X->Option X
 |.own q=>match f q with|some q'=>some (.own q')|none=>none
 |.ref q off=>match f q with|some q'=>some (.ref q' off)|none=>none
 |.rr q i j s=>match f q with|some q'=>some (.rr q' i j s)|none=>none
 |.agg xs=>match nM f xs with|some ys=>some (.agg ys)|none=>none
 |.bD xs=>match nM f xs with|some ys=>some (.bD ys)|none=>none
 |.fn g xs=>match nM f xs with|some ys=>some (.fn g ys)|none=>none
 |.e τ x=>some (.e τ x)
 |.cH=>some .cH
 |.pt τ y j=>some (.pt τ y j)
 |.v w=>some (.v w)
 |.bit ..=>none
 |.eO ..=>none
 |.sub ..=>none
 |.iY ..=>none
 |.vw ..=>none
 |.via q j=>match f q with|some q'=>some (.via q' j)|none=>none
 |.dP ..=>none
def nM(f:Nat->Option Nat):List X->Option (List X)
 |[]=>some []
 |x::l=>match fJ f x with
   |some y=>match nM f l with|some r=>some (y::r)|none=>none
   |none=>none
end
def Nn{α:Type}(f:Nat->Option Nat):List (α×X)->Option (List (α×X))
 |[]=>some []
 |(a,x)::l=>match fJ f x with
   |some y=>match Nn f l with|some r=>some ((a,y)::r)|none=>none
   |none=>none
def rI(f:Nat->Option Nat):XO->Option XO
 |.nest e e' τ l=>some (.nest e e' τ l)
 |.mp τ l=>match Nn f l with|some r=>some (.mp τ r)|none=>none
 |.it s pos=>some (.it s pos)
 |.box e xs=>match nM f xs with|some ys=>some (.box e ys)|none=>none
 |.row e τ l st=>some (.row e τ l st)
 |.dQ e e' κ ρ l ln=>match ln with
   |none=>some (.dQ e e' κ ρ l none)
   |some (i,q)=>match f q with|some q'=>some (.dQ e e' κ ρ l (some (i,q')))|none=>none
def oS(f:Nat->Option Nat)(H:Nat->Option XO):List (Nat×Nat)->Option XH
 |[]=>some []
 |(new,q)::l=>match H q with
   |some o=>match rI f o with
     |some o'=>match oS f H l with|some r=>some ((new,o')::r)|none=>none
     |none=>none
   |none=>none
def Hd:Nat->List Nat->List (Nat×Nat)
 |_,[]=>[]
 |n,k::l=>(n,k)::Hd (n+1) l
def canon(c:Cx)(σ:Vw)(t:TypeId)(x:X):X:=match c.ty t with
 |some τ=>match iX τ (σ.p7 x)with
   |some y=>iE τ y
   |none=>x
 |none=>x
def EL(c:Cx)(σ:Vw):List TypeId->List X->List X
 |t::ts,x::xs=>canon c σ t x::EL c σ ts xs
 |_,xs=>xs
def jZ(fr:Nat)(rb:List (Nat×Nat))(k:Nat):Option Nat:=match kH 100 k with
 |true=>match qK k 108 with|true=>some (fr+(k-100))|false=>none
 |false=>lk k rb
def nV(f:Nat->Option Nat):XH->Option Wx
 |[]=>some []
 |(k,o)::l=>match f k with
   |some k'=>match rI f o with
     |some o'=>match nV f l with|some r=>some ((k',some o')::r)|none=>none
     |none=>none
   |none=>none
def gone(H':XH):List (Nat×Nat)->Wx
 |[]=>[]
 |(new,q)::l=>match lk new H' with|some _=>gone H' l|none=>(q,none)::gone H' l
def rO:List Nat->Bool
 |[]=>true
 |k::l=>match l.contains k with|true=>false|false=>rO l
def Nr(fr:Nat)(rn:List (Nat×Nat)):Bool:=rn.all (λp=>kH 50 p.1&&qK p.1 100&&(qK p.2 fr||kH (fr+8) p.2)&&(match lk p.1 rn with |some q=>bQ q p.2 |none=>false))&&rO (rn.map (·.2))
def Hx(σ:Vw)(fr:Nat)(g:bK)(ys:List X)(els:O)(k:X->Wx->O):O:=match Hd 50 (reach σ.H 40 (kC ys []) [])with
 |rn=>match Nr fr rn with
   |false=>els
   |true=>match nM (old rn) ys with
     |none=>els
     |some zs=>match oS (old rn) σ.H rn with
       |none=>els
       |some H=>match g zs H with
         |some (pre,r)=>match rO (r.2.map (·.1))with
           |true=>ob (fJ (jZ fr rn) r.1) λx=>ob (nV (jZ fr rn) r.2) λW=>kW (σ.g.map (·.2)) pre (k x (W++gone r.2 rn))
           |false=>none
         |none=>els
def XB(c:Cx)(σ:Vw)(fr:Nat)(f:FuncId)(xs:List X)(k:X->Wx->O):O:=
 ob (lk f c.G) λg=>ob c.P.funcs[f]? λfn=>match fn.body with
  |none=>none
  |some _=>Hx σ fr g (EL c σ fn.params.toList xs) (Hx σ fr g xs none k) k
def Vi(_σ:Vw)(_n:Nat):List (Nat×Operand)->Option (Nat×TypeId×(τ:Ty)×List τ.V):=λ_=>none
def aHK(σ:Vw):X->Option (Nat×TypeId×TypeId×(τ:Ty)×List (List τ.V))
 |.own q=>match σ.H q with
   |some (.nest e e' τ l)=>some (q,e,e',⟨τ,l⟩)
   |_=>none
 |_=>none
def XW(_σ:Vw)(_e:TypeId)(_fr _bt:Nat)(_v:X)(_q:Nat)(_e1 _e1':TypeId)(τ:Ty)(_l':List (List τ.V))(_k:X->Wx->O):O:=none
def aHE(_σ:Vw)(_n:Nat):List (Nat×Operand)->Option (Nat×TypeId×((κ:Ty)×List κ.V)×List X):=λ_=>none
def WD(_σ:Vw)(_fr:Nat)(_e _e':TypeId)(_q:Nat)(κ:Ty)(_l:List κ.V)(_ys:List X)(_k:X->Wx->O):Ty->O:=λ_=>none
def aHD(σ:Vw):X->Option (Nat×TypeId×TypeId×(κ:Ty)×(ρ:Ty)×List (List κ.V×ρ.V))
 |.own q=>match σ.H q with
   |some (.dQ e e' κ ρ l none)=>some (q,e,e',⟨κ,ρ,l⟩)
   |_=>none
 |_=>none
def XV(_σ:Vw)(_e:TypeId)(_fr _bt:Nat)(_v:X)(_q:Nat)(_e1 _e1':TypeId)(κ ρ:Ty)(_l':List (List κ.V×ρ.V))(_k:X->Wx->O):Ty->O:=λ_=>none
def Wp(a b:Int):Bool:=decide (a=b)
def Vn(_c:Cx)(_σ:Vw)(_kt:TypeId)(_a _b _v:X)(_k:X->Wx->O):O:=none
def Vp(_c:Cx)(_σ:Vw)(_kt:TypeId)(_a _b _z:X)(_cm:Bool)(_k:X->O):O:=none
def Vh(s:List UInt8)(pos:Int)(q:Nat)(k:X->Wx->O):O:=br (decide (pos<s.length))
 (gx s pos λb=>ck (decide (b.toNat<128)) (k (.bD [.e .bo true,.e (.i .i64) pos,.e (.i .i32) (b.toNat:Int)]) [(q,some (.it s (pos+1)))]))
 (k (.bD [.e .bo false]) [])
def Wd(_P:Program)(_op:BinOp)(_t:TypeId)(_v _w:X):Option Bool:=none
def X.pl:X->Bool
 |.bit ..=>false
 |.eO ..=>false
 |_=>true
def VK(c:Cx)(σ:Vw)(t:TypeId)(v:X)(k:X->Wx->O):O:=match c.P.underlying t with
 |some (.pointer _)=>match v with
   |.own q=>match σ.H q with
     |some (.row ..)=>k (.via q 1) []
     |_=>none
   |.cH=>k (.v (.pointer none)) []
   |_=>none
 |_=>none
def Ud(c:Cx)(σ:Vw)(pt:TypeId)(v w:X)(k:X->Wx->O):O:=match c.P.underlying pt with
 |some (.pointer e)=>match v,w with
   |.via q 1,.e (.i .i64) n=>match σ.H q with
     |some (.row e0 .u8 l _)=>match bQ e0 e&&bQ (c.P.cellsOf e) 1 with
       |true=>ck (Wp n (gK (α:=UInt8) l:Int)) (k (.e .tx l) [(q,none)])
       |false=>none
     |_=>none
   |.v (.pointer none),.e (.i .i64) n=>ck (Wp n 0) (k (.e .tx []) [])
   |_,_=>none
 |_=>none
def Hz(fr:Nat):List X->List X
 |[.v (.pointer none),.cH]=>[.via fr 0,.cH]
 |l=>l
def wY(x:X)(k:X->Wx->O):O:=match x.pl with|true=>k x []|false=>none
def eG(c:Cx)(σ:Vw)(fr:Nat)(st:Bool)(o:Oper)(k:X->Wx->O):O:=match o.op with
 |.move x=>ob (σ.ev x) λv=>k v []
 |.assign x=>ob (σ.ev x) λv=>k v []
 |.pick b x y=>VZ σ b x y λr=>k r []
 |.alloc e=>ob (u9 c.P e) λz=>k (.ref fr 0) [(fr,some (.box e (Hz fr z.cells)))]
 |.box e x=>ob (σ.ev x) λv=>match v.val with|true=>k (.ref fr 0) [(fr,some (.box e v.cells))]|false=>none
 |.build t ps=>ob (u9 c.P t) λz=>ob (places c.P t) λpl=>σ.BP ps.toList λxs=>Hp pl z.cells xs λcs=>k (.agg cs) []
 |.buildSlice t n ps=>ob (nX c t) λp=>match p with
   |(e,τ,_)=>match Vi σ n ps.toList with
    |some (q,e',⟨τ',l⟩)=>match hM τ (.sl τ')with
     |some _=>match τ'.one with
       |true=>k (.own fr) [(fr,some (.nest e e' τ' [l])),(q,none)]
       |false=>none
     |none=>none
    |none=>match aHE σ n ps.toList with
     |some (q,e',⟨κ,l⟩,ys)=>WD σ fr e e' q κ l ys k τ
     |none=>match kH (n*τ.size) 16777216 with
      |true=>σ.BP ps.toList λxs=>Hg τ σ (De τ.zero n) xs λl=>k (.own fr) [(fr,some (.row e τ l st))]
      |false=>none
 |.makeMap t r=>match r with
   |none=>match c.P.underlying t with
     |some (.map kt _)=>match c.ty kt with
       |some τ=>k (.own fr) [(fr,some (.mp τ []))]
       |none=>none
     |_=>none
   |some _=>none
 |.insert t m x y=>match c.P.underlying t with
   |some (.map kt _)=>ob (σ.ev m) λa=>ob (σ.ev x) λb=>ob (σ.ev y) λv=>Vn c σ kt a b v k
   |_=>none
 |.range t x=>match c.P.underlying t with
   |some .string=>ob (σ.ev x) λv=>match v with
     |.e .tx s=>k (.own fr) [(fr,some (.it s 0))]
     |_=>none
   |_=>none
 |.next i b=>match b with
   |true=>ob (σ.ev i) λv=>match v with
     |.own q=>match σ.H q with
       |some (.it s pos)=>Vh s pos q k
       |_=>none
     |_=>none
   |false=>none
 |.lookup t m x cm=>match c.P.underlying t with
   |some (.map kt et)=>ob (σ.ev m) λa=>ob (σ.ev x) λb=>ob (u9 c.P et) λz=>Vp c σ kt a b z cm λr=>wY r k
   |_=>none
 |.load t a=>ob (σ.ev a) λv=>match st with
   |true=>Vy c σ t v λy=>wY y k
   |false=>Vz c σ t v λy=>k y []
 |.store t a y=>ob (σ.ev a) λv=>ob (σ.ev y) λw=>match w.val with|true=>(match st with|true=>Ul c σ t v w k|false=>Um c σ t v w k)|false=>none
 |.nilCheck x=>ob (σ.ev x) λv=>match v with
   |.ref ..=>k v []
   |.rr ..=>k v []
   |.pt ..=>k v []
   |.fn ..=>k v []
   |_=>none
 |.binOp op xt x y _=>ob (σ.ev x) λv=>ob (σ.ev y) λw=>match Vf c.P xt op v w y with
   |some b=>k (.e .bo b) []
   |none=>match Wd c.P op xt v w with
   |some b=>k (.e .bo b) []
   |none=>XF c.P (σ.g.map (·.2)) op xt v w λr=>k r []
 |.unOp op _ x=>ob (σ.ev x) λv=>match op,v with
   |.not,.e .bo q=>aHF q λr=>k r []
   |.neg,.e (.i ik) n=>aHL ik n λr=>k r []
   |_,_=>none
 |.convert s d x=>ob (σ.ev x) λv=>match c.P.underlying s,c.P.underlying d,v with
   |some (.slice e),some .string,v=>match c.P.underlying e with
     |some (.int .u8)=>ob (σ.src .u8 v) λl=>k (.e .tx l) []
     |_=>none
   |_,_,v=>Of c.P s d v λr=>k r []
 |.makeInterface t x=>ob (σ.ev x) λv=>match c.P.underlying t,v with
   |some (.int _),.e (.i ik) n=>k (.v (.iface t (.int ik n))) []
   |_,_=>none
 |.makeFunc (.func f) first caps=>match first.toList with
   |[]=>σ.uJ caps.toList λxs=>k (.fn f xs) []
   |_=>none
 |.makeSlice t n m=>match V4 n m with
   |true=>ob (σ.ev n) λv=>match v with
     |.e (.i .i64) z=>ob (nX c t) λp=>match p with|(e,τ,b)=>Hf τ e fr b false z k
     |_=>none
   |false=>none
 |.slice t x lo hi mx=>match mx with
   |none=>ob (σ.ev x) λv=>match v,lo,hi with
     |.cH,lo,hi=>σ.kR lo λlo=>σ.kR hi λhi=>match c.P.underlying t with
       |some (.slice e)=>match iF c.P e with
         |some _=>kW (σ.g.map (·.2)) (B5 lo&&B5 hi) (k .cH [])
         |none=>none
       |_=>none
     |.pt σ y j,none,none=>VE c t (.pt σ y j) λr=>k r []
     |.own q,lo,hi=>match σ.H q with
       |some (.row _ τ l false)=>σ.kR lo λlo=>σ.kR hi λhi=>match st with
         |true=>VD c σ t q τ l lo hi k
         |false=>match lo with|none=>Wt c σ fr t q hi k|some _=>none
       |_=>σ.kR lo λlo=>σ.kR hi λhi=>Nc c σ t (.own q) lo hi λr=>k r []
     |v,lo,hi=>σ.kR lo λlo=>σ.kR hi λhi=>Nc c σ t v lo hi λr=>k r []
   |some _=>none
 |.fieldAddr s x f=>ob (σ.ev x) λv=>Wa c s f v λr=>k r []
 |.field s x f=>ob (σ.ev x) λv=>W9 c s f v λr=>wY r k
 |.indexAddr t x n=>ob (σ.ev x) λv=>ob (σ.ev n) λw=>match st with
   |true=>WQ c σ t v w λr=>k r []
   |false=>WO c σ t v w λr=>k r []
 |.index t x n=>ob (σ.ev x) λv=>ob (σ.ev n) λw=>WN c t (σ.g.map (·.2)) v w λr=>k r []
 |.extract x n=>ob (σ.ev x) λv=>match v with
   |.bD xs=>ob xs[n]? λr=>wY r k
   |_=>none
 |.call { callee:=.builtin b,args,argTypes }=>match b,args.toList,argTypes.toList with
   |.len,[x],[t]=>ob (σ.ev x) λv=>WI c σ t v λr=>k r []
   |.append,[x,y],[t,t']=>match bQ t t' with
     |false=>XS c σ fr st t t' x y k
     |true=>ob (nX c t) λp=>match p with
       |(e,τ,bt)=>ob (σ.ev x) λv=>ob (σ.ev y) λw=>match aHK σ w with
        |some (q,e1,e1',⟨τ1,l'⟩)=>match hM τ (.sl τ1)with
         |some _=>match τ1.one with
           |true=>XW σ e fr bt v q e1 e1' τ1 l' k
           |false=>none
         |none=>none
        |none=>match aHD σ w with
        |some (q,e1,e1',⟨κ,ρ,l'⟩)=>XV σ e fr bt v q e1 e1' κ ρ l' k τ
        |none=>ob (σ.src τ w) λl'=>match v with
         |.own q=>match σ.H q with
           |some (.row e' τ' l st')=>match hM τ' τ with
             |some ⟨h⟩=>match bQ e' e with
               |true=>XU τ e fr bt [(q,none)] st' (nU (bG Ty.sl h) l) l' k
               |false=>none
             |none=>none
           |_=>none
         |.cH=>ck (cZ (gK l') bt) (k (.own fr) [(fr,some (.row e τ l' st))])
         |_=>none
   |.unsafeSliceData,[x],[_]=>ob (σ.ev x) λv=>VK c σ o.type v k
   |.unsafeString,[x,y],[pt,_]=>ob (σ.ev x) λv=>ob (σ.ev y) λw=>Ud c σ pt v w k
   |.cap,[x],[t]=>ob (σ.ev x) λv=>match v,c.P.underlying t with
     |.cH,some (.slice _)=>k (.e (.i .i64) (0:Int)) []
     |_,_=>none
   |.copy,[x,y],[t,_]=>ob (σ.ev x) λv=>ob (σ.ev y) λw=>Wu c σ t v w k
   |.max,[x,y],_=>ob (σ.ev x) λv=>ob (σ.ev y) λw=>match v,w with
     |.e (.i .i64) m,.e (.i .i64) n=>OR m n λr=>k r []
     |_,_=>none
   |.max,[x,y,z],_=>ob (σ.ev x) λv=>ob (σ.ev y) λw=>ob (σ.ev z) λu=>match v,w,u with
     |.e (.i .i64) m,.e (.i .i64) n,.e (.i .i64) p=>OR (max (m:Int) n) p λr=>k r []
     |_,_,_=>none
   |.min,[x,y],_=>ob (σ.ev x) λv=>ob (σ.ev y) λw=>match v,w with
     |.e (.i .i64) m,.e (.i .i64) n=>aHO m n λr=>k r []
     |_,_=>none
   |_,_,_=>none
 |.call { callee:=.value f,args,.. }=>ob (σ.ev f) λv=>match v with
   |.fn g caps=>σ.uJ args.toList λxs=>XB c σ fr g (xs++caps) k
   |_=>none
 |_=>none
def brO(b:Option Bool)(x y:O):O:=match b with|some b=>br b x y|none=>y
def Ol(σ:Vw)(fr:Nat)(g:kI)(ys:List X)(els:O)(k:X->Wx->O)(kp:Value->Wx->O):O:=match Hd 50 (reach σ.H 40 (kC ys []) [])with
 |rn=>match Nr fr rn with
   |false=>els
   |true=>match nM (old rn) ys with
     |none=>els
     |some zs=>match oS (old rn) σ.H rn with
       |none=>els
       |some H=>match g zs H with
         |some (pre,b,r,(.dP v,H'))=>match rO (r.2.map (·.1))&&rO (H'.map (·.1))with
           |true=>ck pre (brO b
             (ob (fJ (jZ fr rn) r.1) λx=>ob (nV (jZ fr rn) r.2) λW=>k x (W++gone r.2 rn))
             (ob (nV (jZ fr rn) H') λW=>kp v (W++gone H' rn)))
           |false=>none
         |_=>els
def XC(c:Cx)(σ:Vw)(fr:Nat)(f:FuncId)(gp:kI)(xs:List X)(k:X->Wx->O)(kp:Value->Wx->O):O:=ob c.P.funcs[f]? λfn=>match fn.body with
 |none=>none
 |some _=>Ol σ fr gp (EL c σ fn.params.toList xs) (Ol σ fr gp xs none k kp) k kp
def Nx(c:Cx)(σ:Vw)(fr:Nat)(o:Oper)(k:X->Wx->O)(kp:Value->Wx->O)(els:O):O:=match o.op with
 |.panic x=>ob (σ.ev x) λv=>match v with
   |.v (.iface t w)=>kp (.iface t w) []
   |_=>none
 |.call { callee:=.value f,args,.. }=>match σ.ev f with
   |some (.fn g caps)=>match lk g c.Gp with
     |some gp=>σ.uJ args.toList λxs=>XC c σ fr g gp (xs++caps) k kp
     |none=>els
   |_=>els
 |_=>els
def Sg.vw(σ:Sg):Vw:=⟨λt=>lk t σ.T,λk=>lk k σ.H,none⟩
def aIS:Op->Bool
 |.move _=>true
 |.assign _=>true
 |.pick ..=>true
 |.load ..=>true
 |.binOp ..=>true
 |.unOp ..=>true
 |.convert ..=>true
 |.nilCheck _=>true
 |.fieldAddr ..=>true
 |.field ..=>true
 |.indexAddr ..=>true
 |.index ..=>true
 |.extract ..=>true
 |.slice ..=>true
 |.call { callee:=.builtin .len,.. }=>true
 |.call { callee:=.builtin .max,.. }=>true
 |.call { callee:=.builtin .min,.. }=>true
 |.call { callee:=.value _,.. }=>true
 |_=>false
def BU(j:Nat)(w:Bool):Nat:=match w with|true=>2*j+1|false=>2*j
def xU(w q:Bool):Bool:=match w with|true=>q|false=>!q
inductive Gd where
 |on|off
 |cd (key:Nat) (c:Bool) (t:Tmp) (j:Nat) (x:X) (new:Bool)
 |kn (b:Bool)
def O0(o:Oper)(ops:List Oper)(T:Nat->Option X):Option Gd:=match o.guard with
 |none=>some .on
 |some (j,w)=>match ops[j]? with
   |some oj=>match oj.dst with
     |some t=>match T t with
       |some (.e .bo q)=>some (.cd (BU j w) (xU w q) t j (.bit j q) true)
       |some (.bit j' q)=>match bQ j' j with
         |true=>some (.cd (BU j w) (xU w q) t j (.bit j q) false)
         |false=>none
       |some (.eO key c (.e .bo q))=>some (.cd (BU j w) (c&&xU w q) t j (.eO key c (.bit j q)) true)
       |some (.eO key c (.bit j' q))=>match bQ j' j with
         |true=>some (.cd (BU j w) (c&&xU w q) t j (.eO key c (.bit j q)) false)
         |false=>none
       |some (.bD [])=>some .off
       |some (.v (.bool b))=>some (.kn (match b,w with|true,true=>true|false,false=>true|_,_=>false))
       |_=>none
     |none=>none
   |none=>none
def rF(j:Nat):X->Bool
 |.bit j' _=>bQ j' j
 |.eO key _ x=>bQ key (2*j)||bQ key (2*j+1)||(match x with |.bit j' _=>bQ j' j |_=>false)
 |_=>false
def Hn(j:Nat):XT->Bool
 |[]=>true
 |(_,x)::l=>match rF j x with|true=>false|false=>Hn j l
def lR:XT->Bool
 |[]=>true
 |(_,x)::l=>match x.pl with|true=>lR l|false=>false
def rM:XT->(XT->O)->O
 |[],f=>f []
 |(t,x)::l,f=>match x with
   |.bit _ q=>rM l λl'=>f ((t,.e .bo q)::l')
   |.eO ..=>rM l λl'=>rW t l' f
   |.v (.bool q)=>rM l λl'=>f ((t,.e .bo q)::l')
   |x=>rM l λl'=>f ((t,x)::l')
def Ve:Wx->O->O
 |[],k=>k
 |_,_=>none
def Da(c:Cx)(σ:Sg)(T:XT)(st:Bool)(o:Oper)(m:Nat)(K:Exit->Sg->O)(next:Sg->O):O:=
 Nx c ⟨λt=>lk t T,λk=>lk k σ.H,none⟩ σ.N o
  (λx W=>tX o.dst x T λT=>oO W σ.H λH=>next ⟨T,H,σ.N+8⟩)
  (λv W=>oO W σ.H λH=>rM T λT=>K (.panic [lD v]) ⟨T,H,σ.N+8*m⟩)
  (eG c ⟨λt=>lk t T,λk=>lk k σ.H,none⟩ σ.N st o λx W=>tX o.dst x T λT=>oO W σ.H λH=>next ⟨T,H,σ.N+8⟩)
def D8(σ:Sg)(T:XT)(o:Oper)(next:Sg->O):O:=tX o.dst (.bD []) T λT=>next ⟨T,σ.H,σ.N+8⟩
def kA(c:Cx)(stF:List Nat)(all:List Oper):List Oper->Nat->Sg->(Exit->Sg->O)->O
 |[],_,σ,k=>rM σ.T λT=>k .normal ⟨T,σ.H,σ.N⟩
 |o::rest,i,σ,k=>ob (O0 o all λt=>lk t σ.T) λg=>match g with
   |.on=>Da c σ σ.T (!(stF.contains i)) o (rest.length+1) k λσ'=>kA c stF all rest (i+1) σ' k
   |.off=>D8 σ σ.T o λσ'=>kA c stF all rest (i+1) σ' k
   |.kn true=>Da c σ σ.T (!(stF.contains i)) o (rest.length+1) k λσ'=>kA c stF all rest (i+1) σ' k
   |.kn false=>D8 σ σ.T o λσ'=>kA c stF all rest (i+1) σ' k
   |.cd key b t j y new=>match stF.contains (i+1000)with
     |true=>match y,new,o.guard with
       |.bit _ q,true,some (_,w)=>br q
         (kP t (.v (.bool true)) σ.T λT=>match w with
          |true=>Da c σ T (!(stF.contains i)) o (rest.length+1) k λσ'=>kA c stF all rest (i+1) σ' k
          |false=>D8 σ T o λσ'=>kA c stF all rest (i+1) σ' k)
         (kP t (.v (.bool false)) σ.T λT=>match w with
          |true=>D8 σ T o λσ'=>kA c stF all rest (i+1) σ' k
          |false=>Da c σ T (!(stF.contains i)) o (rest.length+1) k λσ'=>kA c stF all rest (i+1) σ' k)
       |_,_,_=>none
     |false=>match !new||Hn j σ.T with
       |true=>kP t y σ.T λT=>match aIS o.op&&!(stF.contains i)with
         |true=>eG c ⟨λt=>lk t T,λk=>lk k σ.H,some (key,b)⟩ σ.N (!(stF.contains i)) o λx W=>Ve W (tX o.dst (.eO key b x) T λT=>kA c stF all rest (i+1) ⟨T,σ.H,σ.N+8⟩ k)
         |false=>br b
           (eG c ⟨λt=>lk t T,λk=>lk k σ.H,some (key,b)⟩ σ.N (!(stF.contains i)) o λx W=>tX o.dst x T λT=>oO W σ.H λH=>kA c stF all rest (i+1) ⟨T,H,σ.N+8⟩ k)
           (tX o.dst (.bD []) T λT=>kA c stF all rest (i+1) ⟨T,σ.H,σ.N+8⟩ k)
       |false=>none
abbrev Rx:=List (X×Wx)
def N3(σ:Vw)(dst:Option Tmp)(x:X)(W:Wx):Vw:=⟨λt=>match dst with|some t'=>(match bQ t' t with|true=>some x|false=>σ.T t)|none=>σ.T t,λk=>match lk k W with|some r=>r|none=>σ.H k,none⟩
def oQ(dst:Nat->Option Tmp)(S:Nat->Bool):Nat->Rx->Vw->Vw
 |_,[],σ=>σ
 |i,(x,W)::rs,σ=>oQ dst S (i+1) rs (match S i with|true=>N3 σ (dst i) x W|false=>σ)
def kF(ops:Array Oper)(pre kl:List (List Nat))(fr i:Nat)(rs:Rx)(σ:Vw)(g:Option (Nat×Bool)):Vw:=
 ⟨λt=>match(pA ops.size).any (λp=>apart pre i p&&(Region.eV ops p == some t))with|true=>none|false=>(oQ (Region.eV ops) (λj=>(pre.getD i []).contains j) 0 rs σ).T t,
  λk=>match(pA ops.size).any (λp=>apart pre i p&&eT kl fr p k)with|true=>none|false=>(oQ (Region.eV ops) (λj=>(pre.getD i []).contains j) 0 rs σ).H k,g⟩
def D9(j:Nat)(y:X)(rs:Rx)(f:Rx->O):O:=match rs[j]? with
 |some (_,W)=>f (gQ (y,W) j rs)
 |none=>none
def BE(t:Tmp)(j:Nat):Nat->List Oper->Bool
 |_,[]=>true
 |p,o::l=>match o.dst with
   |some t'=>match bQ t' t&&!(bQ p j)with|true=>false|false=>BE t j (p+1) l
   |none=>BE t j (p+1) l
def Ho(j:Nat):Rx->Bool
 |[]=>true
 |(x,_)::l=>match rF j x with|true=>false|false=>Ho j l
def aH1(pre:List (List Nat))(n i:Nat):Bool:=(pA n).all λp=>kH p i||(pre.getD p []).contains i
def OH:Rx->Bool
 |[]=>true
 |(_,[])::l=>OH l
 |_::_=>false
def Db(c:Cx)(stF:List Nat)(ops:Array Oper)(pre kl:List (List Nat))(fr:Nat)(σ:Vw)(HL:XH)(K:Exit->Sg->O)(o:Oper)(i:Nat)(rs:Rx)(next:Rx->O):O:=
 Nx c (kF ops pre kl fr i rs σ none) (fr+8*i) o
  (λx W=>match W.all (λp=>eT kl fr i p.1)with
  |true=>next (rs++[(x,W)])
  |false=>none)
  (λv W=>match aH1 pre ops.size i&&OH rs with
  |true=>oO W HL λH=>K (.panic [lD v]) ⟨[],H,fr+8*ops.size⟩
  |false=>none)
  (eG c (kF ops pre kl fr i rs σ none) (fr+8*i) (!(stF.contains i)) o λx W=>match W.all (λp=>eT kl fr i p.1)with
  |true=>next (rs++[(x,W)])
  |false=>none)
def kV(c:Cx)(stF:List Nat)(ops:Array Oper)(pre kl:List (List Nat))(fr:Nat)(σ:Vw)(HL:XH)(K:Exit->Sg->O):List Oper->Nat->Rx->(Rx->O)->O
 |[],_,rs,k=>k rs
 |o::rest,i,rs,k=>ob (O0 o ops.toList (kF ops pre kl fr i rs σ none).T) λg=>match g with
   |.on=>Db c stF ops pre kl fr σ HL K o i rs λrs=>kV c stF ops pre kl fr σ HL K rest (i+1) rs k
   |.off=>kV c stF ops pre kl fr σ HL K rest (i+1) (rs++[(.bD [],[])]) k
   |.kn true=>Db c stF ops pre kl fr σ HL K o i rs λrs=>kV c stF ops pre kl fr σ HL K rest (i+1) rs k
   |.kn false=>kV c stF ops pre kl fr σ HL K rest (i+1) (rs++[(.bD [],[])]) k
   |.cd key b t j y new=>match stF.contains (i+1000)with
     |true=>match y,new,o.guard,BE t j 0 ops.toList&&(pre.getD i []).contains j with
       |.bit _ q,true,some (_,w),true=>br q
         (D9 j (.v (.bool true)) rs λrs=>match w with
          |true=>Db c stF ops pre kl fr σ HL K o i rs λrs=>kV c stF ops pre kl fr σ HL K rest (i+1) rs k
          |false=>kV c stF ops pre kl fr σ HL K rest (i+1) (rs++[(.bD [],[])]) k)
         (D9 j (.v (.bool false)) rs λrs=>match w with
          |true=>kV c stF ops pre kl fr σ HL K rest (i+1) (rs++[(.bD [],[])]) k
          |false=>Db c stF ops pre kl fr σ HL K o i rs λrs=>kV c stF ops pre kl fr σ HL K rest (i+1) rs k)
       |_,_,_,_=>none
     |false=>match(!new||Ho j rs)&&(BE t j 0 ops.toList&&(pre.getD i []).contains j)with
       |true=>D9 j y rs λrs=>match aIS o.op&&!(stF.contains i)with
         |true=>eG c (kF ops pre kl fr i rs σ (some (key,b))) (fr+8*i) (!(stF.contains i)) o λx W=>Ve W (kV c stF ops pre kl fr σ HL K rest (i+1) (rs++[(.eO key b x,[])]) k)
         |false=>br b
           (eG c (kF ops pre kl fr i rs σ (some (key,b))) (fr+8*i) (!(stF.contains i)) o λx W=>match W.all (λp=>eT kl fr i p.1)with
            |true=>kV c stF ops pre kl fr σ HL K rest (i+1) (rs++[(x,W)]) k
            |false=>none)
           (kV c stF ops pre kl fr σ HL K rest (i+1) (rs++[(.bD [],[])]) k)
       |false=>none
def O4:List Oper->Rx->XT->XH->(XT->XH->O)->O
 |o::ops,(x,W)::rs,T,H,k=>tX o.dst x T λT'=>oO W H λH'=>O4 ops rs T' H' k
 |_,_,T,H,k=>k T H
inductive Mv where
 |VA (t:Nat)
 |Dp (t:Nat) (o:XO)
 |OI (t i:Nat) (o:XO)
 |fz (t:Nat) (τ:Ty)
 |cv (t i:Nat) (τ:Ty)
 |rn (t i:Nat)
 |a1Q (t x:Nat)
 |bk (t:Nat)
structure Nm where
 ts:List Nat
 gv:List (Nat×Ty)
 mv:List Mv
inductive Hint:Type 1 where
 |d
 |seq (a b:Hint)
 |cond (a b:Hint)
 |block (a:Hint)
 |gO (stF:List Nat) (mv:List Mv) (kl:List (List Nat))
 |sub (nm:Nm) (Y1 Y2 Y3:Type) (I1:Y1->Exit×Sg) (I2:Y2->Exit×Sg) (I3:Y3->Exit×Sg) (L:Sg->(Y1->O)->(Y2->O)->(Y3->O)->O)
def O9:XO->Bool
 |.row _ _ [] _=>true
 |.nest _ _ _ []=>true
 |.dQ _ _ _ _ [] none=>true
 |_=>false
def Nh:XO->Option XO
 |.row e τ xs false=>some (.row e τ xs true)
 |_=>none
def Nj(q:Nat)(σ:Sg)(k:Sg->O):O:=match lk q σ.H with
 |some o=>match Nh o with
   |some o'=>kP q o' σ.H λH=>k ⟨σ.T,H,σ.N⟩
   |none=>k σ
 |none=>k σ
def Vg(q i:Nat)(o:XO)(σ:Sg)(k:Sg->O):O:=match lk q σ.H with
 |some (.box e' xs)=>match xs[i]? with
   |some .cH=>kP q (.box e' (gQ (.own σ.N) i xs)) σ.H λH=>kP σ.N o H λH=>k ⟨σ.T,H,σ.N+8⟩
   |_=>k σ
 |_=>k σ
def Ws(q i:Nat)(τ:Ty)(σ:Sg)(k:Sg->O):O:=match lk q σ.H with
 |some (.box e xs)=>match xs[i]? with
   |some x=>match τ.one with
     |true=>match iX τ (Vw.kU ⟨λt=>lk t σ.T,λk=>lk k σ.H,none⟩ x)with
       |some y=>kP q (.box e (gQ (.e τ y) i xs)) σ.H λH=>k ⟨σ.T,H,σ.N⟩
       |none=>k σ
     |false=>k σ
   |none=>k σ
 |_=>k σ
def VQ(q i:Nat)(σ:Sg)(k:Sg->O):O:=match lk q σ.H with
 |some (.box e xs)=>match xs[i]? with
   |some (.own q')=>match lk q' σ.H with
     |some o=>match kH 50 q'&&qK q' 100&&!(bQ q' q)with
       |true=>kP q (.box e (gQ (.own σ.N) i xs)) σ.H λH=>rW q' H λH=>kP σ.N o H λH=>k ⟨σ.T,H,σ.N+8⟩
       |false=>k σ
     |none=>k σ
   |_=>k σ
 |_=>k σ
def WH(_q:Nat)(_n:Int)(σ:Sg)(k:Sg->O):O:=k σ
def XJ(_q:Nat)(σ:Sg)(k:Sg->O):O:=k σ
def Vm(m:Mv)(σ:Sg)(k:Sg->O):O:=match m with
 |.VA t=>match lk t σ.T with
   |some (.own q)=>Nj q σ k
   |some (.ref q 0)=>match lk q σ.H with
     |some (.box _ (.own q'::_))=>Nj q' σ k
     |_=>k σ
   |_=>k σ
 |.Dp t o=>match lk t σ.T,O9 o with
   |some .cH,true=>kP t (.own σ.N) σ.T λT=>kP σ.N o σ.H λH=>k ⟨T,H,σ.N+8⟩
   |_,_=>k σ
 |.OI t i o=>match lk t σ.T,O9 o with
   |some (.ref q 0),true=>Vg q i o σ k
   |_,_=>k σ
 |.fz t τ=>match lk t σ.T with
   |some (.ref q 0)=>match lk q σ.H with
     |some (.box _ xs)=>match xM τ xs with
       |some y=>kP t (.pt τ y 0) σ.T λT=>rW q σ.H λH=>k ⟨T,H,σ.N⟩
       |none=>k σ
     |_=>k σ
   |_=>k σ
 |.cv t i τ=>match lk t σ.T with
   |some (.ref q 0)=>Ws q i τ σ k
   |_=>k σ
 |.rn t i=>match lk t σ.T with
   |some (.ref q 0)=>VQ q i σ k
   |_=>k σ
 |.a1Q t x=>match lk t σ.T,lk x σ.T with
   |some (.own q),some (.e (.i _) n)=>WH q n σ k
   |_,_=>k σ
 |.bk t=>match lk t σ.T with
   |some (.own q)=>XJ q σ k
   |_=>k σ
def OP:List Mv->Sg->(Sg->O)->O
 |[],σ,k=>k σ
 |m::l,σ,k=>Vm m σ λσ=>OP l σ k
def XP(σ:Vw)(τ:Ty)(x:X):X:=match iX τ (σ.p7 x)with|some y=>iE τ y|none=>x
def Nw(σ:Sg)(gv:List (Nat×Ty)):List Nat->Option XT
 |[]=>some []
 |t::l=>match lk t σ.T with
   |some x=>match Nw σ gv l with
     |some r=>some ((t,match lk t gv with|some τ=>XP σ.vw τ x|none=>x)::r)
     |none=>none
   |none=>none
def Vk:XT->List Nat->List Nat
 |[],acc=>acc
 |(_,x)::l,acc=>Vk l (Vj x acc)
def nQ:XH->List Nat
 |[]=>[]
 |(k,_)::l=>match kH 50 k&&qK k 100 with|true=>k::nQ l|false=>nQ l
def live(H:XH):List Nat:=(nQ H).filter λk=>(reach (λj=>lk j H) 60 [k] []).all λq=>(lk q H).isSome
def rT(k:Nat):Bool:=kH 50 k&&qK k 100
def jA:Nat->List Nat->List (Nat×Nat)
 |_,[]=>[]
 |n,k::l=>match rT k with|true=>jA n l|false=>(n,k)::jA (n+1) l
def HN:List Nat->List (Nat×Nat)
 |[]=>[]
 |k::l=>match rT k with|true=>(k,k)::HN l|false=>HN l
def pU(rn:List (Nat×Nat))(k:Nat):Option Nat:=match rT k with|true=>some k|false=>old rn k
def HZ(rn al:List (Nat×Nat))(lo hi:Nat):Bool:=rn.all (λp=>kH lo p.1&&qK p.1 hi&&!(rT p.1)&&(match lk p.1 rn with |some q=>bQ q p.2 |none=>false))&&rO (al.map (·.2))&&al.all (λp=>(rT p.1&&bQ p.1 p.2)||(match lk p.1 rn with |some q=>bQ q p.2 |none=>false))
def Nl(f:Nat->Option Nat):XT->Option XT
 |[]=>some []
 |(t,x)::l=>match fJ f x with
   |some y=>match Nl f l with|some r=>some ((t,y)::r)|none=>none
   |none=>none
def BG(nm:Nm)(σ:Sg)(k:Sg->O):O:=OP nm.mv σ λσ=>ob (Nw σ nm.gv nm.ts) λT=>
 match reach σ.vw.H 60 (Vk T (nQ σ.H)) []with
 |ns=>match jA 0 ns with
   |rn=>match HN ns++rn with
     |al=>match HZ rn al 0 50 with
       |true=>ob (Nl (pU rn) T) λT'=>ob (oS (pU rn) σ.vw.H al) λH'=>k ⟨T',H',100⟩
       |false=>none
def H9:List Oper->List (List Nat)->List (List Nat)
 |[],acc=>acc
 |o::l,acc=>H9 l (acc++[o.after.toList.foldl (λs e=>match Region.binds .any e with|true=>(acc.getD e.on []).foldl (λs q=>ins q s) (ins e.on s)|false=>s) []])
def Hu(M:Nat):List Oper->Bool
 |[]=>true
 |o::l=>match o.dst with
   |some t=>match qK t M with|true=>Hu M l|false=>false
   |none=>Hu M l
def No(c:Cx)(M:Nat)(stF:List Nat)(mv:List Mv)(kl:List (List Nat))(ops:Array Oper)(draw:Bool)(σ:Sg)(k:Exit->Sg->O):O:=OP mv σ λσ=>match lR σ.T with
 |false=>none
 |true=>match draw with
   |false=>match Hu M ops.toList with
     |true=>kA c stF ops.toList ops.toList 0 σ k
     |false=>none
   |true=>match IG ops (H9 ops.toList []) kl σ.N M with
     |true=>kV c stF ops (H9 ops.toList []) kl σ.N σ.vw σ.H k ops.toList 0 [] λrs=>O4 ops.toList rs σ.T σ.H λT H=>rM T λT=>k .normal ⟨T,H,σ.N+8*ops.size⟩
     |false=>none
def kk(k:Exit->Sg->O)(p:Exit×Sg):O:=match p.1 with|.goto _=>none|e=>k e p.2
def exec(c:Cx)(M:Nat)(h:Hint)(code:Code)(σ:Sg)(k:Exit->Sg->O):O:=match h with
 |.sub nm _ _ _ I1 I2 I3 L=>BG nm σ λσ'=>L σ' (λy=>kk k (I1 y)) (λy=>kk k (I2 y)) (λy=>kk k (I3 y))
 |h=>match code with
   |.skip=>k .normal σ
   |.label _=>k .normal σ
   |.exit id=>k (.exit id) σ
   |.ret=>k .ret σ
   |.region _ ops draw=>match h with
     |.gO stF mv kl=>No c M stF mv kl ops draw σ k
     |_=>No c M [] [] [] ops draw σ k
   |.seq a b=>exec c M (match h with|.seq x _=>x|_=>.d) a σ λe σ'=>match e with
     |.normal=>exec c M (match h with|.seq _ y=>y|_=>.d) b σ' k
     |e=>k e σ'
   |.cond x a b=>ob (σ.vw.ev x) λv=>match v with
     |.e .bo q=>br q (exec c M (match h with|.cond x _=>x|_=>.d) a σ k) (exec c M (match h with|.cond _ y=>y|_=>.d) b σ k)
     |_=>none
   |.block id a=>exec c M (match h with|.block x=>x|_=>.d) a σ λe σ'=>match e with
     |.exit id'=>match bQ id' id with|true=>k .normal σ'|false=>k (.exit id') σ'
     |e=>k e σ'
   |_=>none
termination_by structural code
def a2f:Exit->Exit->Bool
 |.normal,.normal=>true
 |.ret,.ret=>true
 |.exit a,.exit b=>bQ a b
 |.panic _,.panic _=>true
 |_,_=>false
def V2(out:List (Exit×Nm))(e:Exit):Option Nm:=match out with
 |[]=>none
 |(e',nm)::l=>match a2f e' e with|true=>some nm|false=>V2 l e
def fE(nm:Nm)(out:List (Exit×Nm))(self:Sg->O)(K:Exit->Sg->O)(e:Exit)(σ:Sg):O:=match e with
 |.normal=>BG nm σ self
 |e=>ob (V2 out e) λnm'=>BG nm' σ (K e)
def uD(c:Cx)(M:Nat)(h:Hint)(body:Code)(nm:Nm)(out:List (Exit×Nm)):Nat->Sg->(Exit->Sg->O)->O
 |0,_,_=>none
 |n+1,σ,K=>exec c M h body σ (fE nm out (λσ'=>uD c M h body nm out n σ' K) K)
def iH(out:List (Exit×Nm))(K:Exit->Sg->O)(e:Exit)(σ:Sg):O:=ob (V2 out e) λnm'=>BG nm' σ (K e)
def Nk(P:Program)(σ:Sg):ResultVar->Option X
 |.tmp t=>lk t σ.T
 |.cell p t=>match lk p σ.T with
   |some (.ref q 0)=>match lk q σ.H with
     |some (.box _ xs)=>match j9 P t,iF P t,xs with
       |some true,some m,xs=>match bQ xs.length m with|true=>some (.agg xs)|false=>none
       |some false,_,[x]=>some x
       |_,_,_=>none
     |_=>none
   |_=>none
def nL:XH->XH
 |[]=>[]
 |(k,.row e τ l _)::H=>(k,.row e τ l true)::nL H
 |p::H=>p::nL H
def bW:Nat->List X->XT
 |_,[]=>[]
 |t,x::l=>(t,x)::bW (t+1) l
def Ni(ow:Bool)(σ:Sg):Sg:=match ow with|true=>σ|false=>⟨σ.T,nL σ.H,σ.N⟩
def XA(c:Cx)(fn:Func)(ow:Bool)(σ:Sg)(xs:List X):List X:=match ow with|true=>xs|false=>EL c σ.vw fn.resultTypes.toList xs
def O5(ch:List PanicEntry)(σ:Sg):O:=match ch with
 |[p]=>match p.recovered||p.goexit with
   |true=>none
   |false=>match reach σ.vw.H 60 (nQ σ.H) []with
     |ns=>match jA 100 ns with
       |rn=>match HN ns++rn with
         |al=>match HZ rn al 100 108 with
           |true=>ob (oS (pU rn) σ.vw.H al) λH'=>some (.dP p.v,H')
           |false=>none
 |_=>none
def p9(c:Cx)(fn:Func)(ow:Bool)(e:Exit)(σ:Sg):O:=match(match e with|.normal=>true|.ret=>true|_=>false)with
 |true=>match Ni ow σ with
   |σ=>ob (xG (Nk c.P σ) fn.results.toList) λxs=>
   match XA c fn ow σ xs with
   |ys=>match reach σ.vw.H 60 (kC ys (live σ.H)) []with
       |ns=>match jA 100 ns with
         |rn=>match HN ns++rn with
           |al=>match HZ rn al 100 108 with
             |true=>ob (nM (pU rn) ys) λzs=>ob (oS (pU rn) σ.vw.H al) λH'=>match zs with
               |[z]=>some (z,H')
               |[]=>some (.bD [],H')
               |[x,y]=>some (.bD [x,y],H')
               |[x,y,z]=>some (.bD [x,y,z],H')
               |[x,y,z,u]=>some (.bD [x,y,z,u],H')
               |[x,y,z,u,v]=>some (.bD [x,y,z,u,v],H')
               |_=>none
             |false=>none
 |false=>none
def bX(c:Cx)(fn:Func)(ow:Bool)(e:Exit)(σ:Sg):O:=match e with
 |.panic ch=>O5 ch σ
 |e=>p9 c fn ow e σ
noncomputable def bB{ι Y1 Y2 Y3:Type}(I:ι->Sg)(un:Sg->ι)(L:ι->(Y1->O)->(Y2->O)->(Y3->O)->O)(σ:Sg)(k1:Y1->O)(k2:Y2->O)(k3:Y3->O):O:=
 @ite _ (σ=I (un σ)) (Classical.propDecidable _) (L (un σ) k1 k2 k3) none
def aV(n:Nat)(_:Unit):Exit×Sg:=(.goto n,⟨[],[],100⟩)
def lvX(τ:Ty)(x:Option X):τ.V:=match x with
 |some (.e τ' y)=>(match hM τ' τ with|some ⟨h⟩=>nU h y|none=>τ.zero)
 |some (.pt τ' y _)=>(match hM τ' τ with|some ⟨h⟩=>nU h y|none=>τ.zero)
 |_=>τ.zero
def aW(τ:Ty)(t i:Nat)(σ:Sg):τ.V:=match lk t σ.T with
 |some x=>lvX τ (match x with|.agg xs=>xs[i]?|.bD xs=>xs[i]?|.fn _ xs=>xs[i]?|x=>some x)
 |none=>τ.zero
def lvP:Exit->Int
 |.panic [p]=>match p.v with|.iface _ (.int _ n)=>n|_=>0
 |_=>0
def aL(τ:Ty)(q i:Nat)(σ:Sg):τ.V:=match lk q σ.H with
 |some (.box _ xs)=>lvX τ xs[i]?
 |_=>τ.zero
def fX(τ:Ty)(q:Nat)(σ:Sg):List τ.V:=match lk q σ.H with
 |some (.row _ τ' l _)=>(match hM τ' τ with|some ⟨h⟩=>nU (bG Ty.sl h) l|none=>[])
 |_=>[]
def a0z(q:Nat)(σ:Sg):List UInt8:=match lk q σ.H with
 |some (.it s _)=>s
 |_=>[]
def a1A(q:Nat)(σ:Sg):Int:=match lk q σ.H with
 |some (.it _ n)=>n
 |_=>0
def Vd:X->Bool
 |.e τ _=>τ.one
 |.agg xs=>xs.all λx=>match x with|.e τ _=>τ.one|_=>false
 |_=>false
def Vc:aC->Bool
 |(x,H)=>(match x with|.own k=>kH 100 k|.e τ _=>τ.one|_=>false)&&H.all λp=>kH 100 p.1&&(match p.2 with|.row ..=>true|_=>false)
def IU(e:TypeId)(τ:Ty)(g:bK):bK:=λxs H=>match g xs H with
 |some r=>some r
 |none=>match xs,H with
   |.cH::l,[]=>match g (.own 50::l) [(50,.row e τ [] true)]with
     |some (pre,r)=>match Vc r&&l.all Vd with|true=>some (pre,r)|false=>none
     |none=>none
   |_,_=>none
def kD{α β:Type}:Option (α ⊕ β)->Bool
 |some (.inl _)=>true
 |_=>false
def bC{α β:Type}(d:α):Option (α ⊕ β)->α
 |some (.inl x)=>x
 |_=>d
def c7{α β:Type}(d:β):Option (α ⊕ β)->β
 |some (.inr x)=>x
 |_=>d
def eU{δ:Type}(fH:List X->XH->Option δ)(p:δ->Bool)(R:δ->aC):bK:=λxs H=>match fH xs H with
 |some d=>some (p d,R d)
 |none=>none
def uL{δ:Type}(fH:List X->XH->Option δ)(p:δ->Bool)(b:δ->Option Bool)(R R':δ->aC):kI:=λxs H=>match fH xs H with
 |some d=>some (p d,b d,R d,R' d)
 |none=>none
def E0(f:Bool×aC):bK:=λxs H=>match xs,H with|[],[]=>some f|_,_=>none
def E1(a:Ty)(f:a.V->Bool×aC):bK:=λxs H=>match xs,H with
 |[x],[]=>match iX a x with|some x=>some (f x)|none=>none
 |_,_=>none
def E2(a b:Ty)(f:a.V->b.V->Bool×aC):bK:=λxs H=>match xs,H with
 |[x,y],[]=>match iX a x with|some x=>(match iX b y with|some y=>some (f x y)|none=>none)|none=>none
 |_,_=>none
def E3(a b d:Ty)(f:a.V->b.V->d.V->Bool×aC):bK:=λxs H=>match xs,H with
 |[x,y,z],[]=>match iX a x with|some x=>(match iX b y with|some y=>(match iX d z with|some z=>some (f x y z)|none=>none)|none=>none)|none=>none
 |_,_=>none
def E4(a b d e:Ty)(f:a.V->b.V->d.V->e.V->Bool×aC):bK:=λxs H=>match xs,H with
 |[x,y,z,u],[]=>match iX a x with|some x=>(match iX b y with|some y=>(match iX d z with|some z=>(match iX e u with|some u=>some (f x y z u)|none=>none)|none=>none)|none=>none)|none=>none
 |_,_=>none
def Ef1(a:Ty)(g:FuncId)(f:a.V->Bool×aC):bK:=λxs H=>match xs,H with
 |[x,.fn g' []],[]=>match bQ g' g with
   |true=>match iX a x with|some x=>some (f x)|none=>none
   |false=>none
 |_,_=>none
def Ef2(a b:Ty)(g:FuncId)(f:a.V->b.V->Bool×aC):bK:=λxs H=>match xs,H with
 |[x,y,.fn g' []],[]=>match bQ g' g with
   |true=>match iX a x with
     |some x=>match iX b y with|some y=>some (f x y)|none=>none
     |none=>none
   |false=>none
 |_,_=>none
def Eor(f g:bK):bK:=λxs H=>match f xs H with|some r=>some r|none=>g xs H
def ue(τ:Ty):X->Option τ.V
 |.e τ' x=>match hM τ' τ with|some ⟨h⟩=>some (nU h x)|none=>none
 |_=>none
def ur(e:TypeId)(τ:Ty)(st:Bool):XO->Option (List τ.V)
 |.row e' τ' l st'=>match bQ e' e&&(st' == st)with
   |true=>match hM τ' τ with|some ⟨h⟩=>some (nU (bG Ty.sl h) l)|none=>none
   |false=>none
 |_=>none
end
instance std:aA:=⟨br0,ck0,Dz,WU,WZ⟩
end Go.Ax
/- What data of the run mean: trees of values. -/
namespace Go.Ax
open aA
open Go.RowKit Go.Ab
mutual
def cO:Ex->List Tree
 |.mk a n ks=>[.v (.int .i64 a),.v (.int .i64 n),.sl ks.length (O8 ks)]
def O8:List Ex->List Tree
 |[]=>[]
 |x::l=>cO x++O8 l
end
def bH:(τ:Ty)->τ.V->List Tree
 |.i k,x=>[.v (.int k x)]
 |.u8,x=>[.v (.int .u8 (X1 x))]
 |.bo,x=>[.v (.bool x)]
 |.tx,x=>[.v (.string ⟨⟨x⟩⟩)]
 |.ex,x=>cO x
 |.sl e,l=>[.sl (gK l) (iP (bH e) l)]
 |.pr a b,x=>bH a x.1++bH b x.2
def uM(τ:Ty)(x:τ.V):Tree:=(bH τ x).headD (.sl 0 [])
theorem aIF:∀l:List Ex,O8 l=l.flatMap cO
 |[]=>rfl
 |x::l=>by rw[O8,aIF l];rfl
theorem a2u(x:Ex):cO x=[.v (.int .i64 (Ex.op x)),.v (.int .i64 (Ex.num x)),.sl (gK (Ex.kids x)) ((Ex.kids x).flatMap cO)]:=by
 cases x with|mk a n ks=>rw[cO,aIF];rfl
theorem EE(x:Ex):bH .ex x=[.v (.int .i64 (Ex.op x)),.v (.int .i64 (Ex.num x)),.sl (gK (Ex.kids x)) ((Ex.kids x).flatMap cO)]:=a2u x
theorem dR:∀(τ:Ty)(x:τ.V),(bH τ x).length=τ.size
 |.i _,_=>rfl
 |.u8,_=>rfl
 |.bo,_=>rfl
 |.tx,_=>rfl
 |.ex,x=>by have:=bG gK (EE x);exact this
 |.sl _,_=>rfl
 |.pr a b,x=>by rw[bH,List.length_append,dR a,dR b];rfl
theorem size_pos:∀τ:Ty,0<τ.size
 |.i _=>PE
 |.u8=>PE
 |.bo=>PE
 |.tx=>PE
 |.ex=>by decide
 |.sl _=>PE
 |.pr a b=>by have:=size_pos a;simp only[Ty.size];omega
theorem Ht{τ:Ty}(h:τ.one=true)(x:τ.V):bH τ x=[uM τ x]:=by
 cases τ <;> first|rfl|cases h
def mA:Nat->Value->Value->Prop
 |0,a,v=>v = .pointer none\/v=a
 |_,a,v=>∃p,v = .pointer p/\∀x n c,a = .slice x n c->0<n->p=x
mutual
def X.D:X->D
 |.e τ x=>match τ.one with|true=>.t (uM τ x)|false=>.any
 |.cH=>.t (.v (.slice none 0 0))
 |.agg xs=>.agg (Ds xs)
 |.bD xs=>.bD (Ds xs)
 |.own k=>.own k
 |.ref k off=>.ref k off
 |.rr k i j s=>.ref k (i*s+j)
 |.pt τ y j=>.ptr (bH τ y) j
 |.fn f xs=>.fn f (Ds xs)
 |.v w=>.t (.v w)
 |.bit _ q=>.t (.v (.bool q))
 |.eO _ c x=>match c with|true=>X.D x|false=>.bD []
 |.sub k i=>.sub k i
 |.iY k i j=>.iY k i j
 |.vw k i n s=>.vw k (i*s) n
 |.via k j=>.via k (mA j)
 |.dP _=>.any
def Ds:List X->List D
 |[]=>[]
 |x::l=>X.D x::Ds l
end
theorem aHa(g:Nat):(Hl g).D=O3 g:=match g with
 |0=>by kernel_rfl
 |1=>by kernel_rfl
 |2=>by kernel_rfl
 |3=>by kernel_rfl
 |g+4=>rfl
theorem fD:∀l:List X,Ds l=l.map X.D
 |[]=>rfl
 |x::l=>by rw[Ds,fD l];rfl
def kv:(τ:Ty)->τ.V->Value
 |.i k,x=>.int k x
 |.u8,x=>.int .u8 (X1 x)
 |.bo,x=>.bool x
 |.tx,x=>.string ⟨⟨x⟩⟩
 |_,_=>.nilFunc
def mG{κ ρ:Ty}(x:List κ.V×ρ.V):List NC:=.fH (gK x.1) (iP (bH κ) x.1)::(bH ρ x.2).map λt=>.qC (.t t)
def uF(m:Nat)(cs:List NC):Option (Int×Nat)->List NC
 |none=>cs
 |some (i,q)=>cs.set (i.toNat*m) (.qC (.own q))
def XO.A:XO->aS
 |.dQ e e' κ ρ l ln=>.dQ e e' (1+ρ.size) κ.size l.length (uF (1+ρ.size) (iP mG l) ln)
 |.box e xs=>.box e (xs.map X.D)
 |.row e τ l st=>.row e τ.size l.length (l.flatMap (bH τ)) st
 |.nest e e' τ l=>.nest e e' τ.size (l.map λr=>(gK r,iP (bH τ) r))
 |.mp τ l=>.mp (l.map λp=>(kv τ p.1,p.2.D))
 |.it s pos=>.it ⟨s.toArray⟩ pos.toNat
theorem qA{τ:Ty}(h:τ.one=true)(x:τ.V):(X.e τ x).D = .t (uM τ x):=by unfold X.D;rw[h]
theorem EJ:∀(τ:Ty)(x:τ.V),(xT τ x).map X.D=(bH τ x).map .t
 |.i _,_=>rfl
 |.u8,_=>rfl
 |.bo,_=>rfl
 |.tx,_=>rfl
 |.ex,x=>by
   have:=bG (List.map D.t) (EE x);exact this.symm
 |.sl _,_=>rfl
 |.pr a b,x=>by rw[xT,bH,qM,qM,EJ a,EJ b]
theorem aIX{a b:Ty}(h:a=b)(x:a.V):bH b (nU h x)=bH a x:=by subst h;rfl
theorem cC.nil{H:Nat->Option aS}:cC H (.t (.v (.slice none 0 0))) (.t (.sl 0 [])):=λ_ _ _ _ _ _ _ _ v hv=>by
 have:=cG hv;subst this;exact .t (.nil λ_=>rfl)
theorem cC.own{H:Nat->Option aS}{k:Nat}{e:TypeId}{s n:Nat}{ts:List Tree}(h:H k=some (.row e s n ts true)):cC H (.own k) (.t (.sl n ts)):=λ_ _ _ _ _ _ hH I v hv=>by
 cases hv with|own _ _=>exact .t (I.rows _ _ _ _ _ _ (hH _ _ h) rfl)
theorem pT{H:Nat->Option aS}{τ:Ty}{x:X}{y:τ.V}(h1:τ.one=true)(h:one? τ x=some y):cC H x.D (.t (uM τ y)):=by
 unfold one? at h;split at h
 .rename_i τ' z
  split at h
  .rename_i he _
   cases h;have e:=he;subst e;rw[qA h1];exact cC.refl
  .cases h
 .split at h
  .cases h;exact cC.nil
  .cases h
 .cases h
inductive eD (H:Nat->Option aS):List D->List D->Prop
 |nil:eD H [] []
 |cons {a b:D} {l m:List D} (h:cC H a b) (r:eD H l m):eD H (a::l) (b::m)
theorem eD.refl{H:Nat->Option aS}:∀{l:List D},eD H l l
 |[]=>.nil
 |_::_=>.cons cC.refl eD.refl
theorem eD.trans{H:Nat->Option aS}:∀{a b c:List D},eD H a b->eD H b c->eD H a c
 |_,_,_,.nil,.nil=>.nil
 |_,_,_,.cons h r,.cons h' r'=>.cons (h.trans h') (r.trans r')
theorem eD.app{H:Nat->Option aS}:∀{a b c d:List D},eD H a b->eD H c d->eD H (a++c) (b++d)
 |_,_,_,_,.nil,h=>h
 |_,_,_,_,.cons h r,h'=>.cons h (r.app h')
theorem eD.len{H:Nat->Option aS}{a b:List D}(h:eD H a b):a.length=b.length:=by
 induction h with
 |nil=>rfl
 |cons _ _ ih=>simp[ih]
theorem eD.get{H:Nat->Option aS}{a b:List D}(h:eD H a b):∀(i:Nat)(d:D),b[i]?=some d->∃d0,a[i]?=some d0/\cC H d0 d:=by
 induction h with
 |nil=>intro i d h;simp at h
 |cons h r ih=>
   intro i d hi;cases i with
   |zero=>simp at hi;subst hi;exact⟨_,rfl,h⟩
   |succ i=>exact ih i d (by simpa using hi)
theorem eD.of_map{H:Nat->Option aS}{f g:X->D}:∀{l:List X},(∀x∈l,cC H (f x) (g x))->eD H (l.map f) (l.map g)
 |[],_=>.nil
 |_::_,h=>.cons (h _ (by simp)) (eD.of_map λx hx=>h x (by simp[hx]))
theorem cC.agg{H:Nat->Option aS}{a b:List D}(h:eD H a b):cC H (.agg a) (.agg b):=λE s ν G w tm hH I v hv=>by
 cases hv with
 |agg hl hr h1=>
   refine .agg (hl.trans h.len) (λi u d hu hd=>?_) h1;obtain⟨d0,e0,hw⟩:=h.get i d hd;exact hw E s ν G w tm hH I u (hr i u d0 hu e0)
theorem WL{H:Nat->Option aS}:∀(τ:Ty)(xs:List X)(y:τ.V)(r:List X),pY τ xs=some (y,r)->∃pre,xs=pre++r/\eD H (pre.map X.D) ((bH τ y).map .t)
 |.pr a b,xs,y,r,h=>by
   unfold pY at h;split at h
   .rename_i x r1 h1
    split at h
    .rename_i z r2 h2
     cases h;obtain⟨p1,e1,w1⟩:=WL (H:=H) a xs x r1 h1;obtain⟨p2,e2,w2⟩:=WL (H:=H) b r1 z r h2;refine⟨p1++p2,by rw[e1,e2,List.append_assoc],?_⟩;have e3:(bH (.pr a b) (x,z)).map D.t=(bH a x).map D.t++(bH b z).map D.t:=by rw[<-qM];rfl
     rw[e3,qM];exact w1.app w2
    .cases h
   .cases h
 |.ex,[],y,r,h=>by cases h
 |.ex,[_],y,r,h=>by cases h
 |.ex,[_,_],y,r,h=>by cases h
 |.ex,a::b::c::r',y,r,h=>by
   simp only[pY]at h;split at h
   .rename_i x h1
    split at h
    .rename_i z h2
     split at h
     .rename_i u h3
      cases h;refine⟨[a,b,c],rfl,?_⟩;rw[EE];exact .cons (pT rfl h1) (.cons (pT rfl h2) (.cons (pT rfl h3) .nil))
     .cases h
    .cases h
   .cases h
 |.i k,[],y,r,h=>by cases h
 |.i k,x::l,y,r,h=>by
   unfold pY at h;split at h
   .rename_i z h1;cases h;exact⟨[x],rfl,.cons (pT rfl h1) .nil⟩
   .cases h
 |.u8,[],y,r,h=>by cases h
 |.u8,x::l,y,r,h=>by
   unfold pY at h;split at h
   .rename_i z h1;cases h;exact⟨[x],rfl,.cons (pT rfl h1) .nil⟩
   .cases h
 |.bo,[],y,r,h=>by cases h
 |.bo,x::l,y,r,h=>by
   unfold pY at h;split at h
   .rename_i z h1;cases h;exact⟨[x],rfl,.cons (pT rfl h1) .nil⟩
   .cases h
 |.tx,[],y,r,h=>by cases h
 |.tx,x::l,y,r,h=>by
   unfold pY at h;split at h
   .rename_i z h1;cases h;exact⟨[x],rfl,.cons (pT rfl h1) .nil⟩
   .cases h
 |.sl t,[],y,r,h=>by cases h
 |.sl t,x::l,y,r,h=>by
   unfold pY at h;split at h
   .rename_i z h1;cases h;exact⟨[x],rfl,.cons (pT rfl h1) .nil⟩
   .cases h
theorem rR{H:Nat->Option aS}{τ:Ty}{xs:List X}{y:τ.V}(h:xM τ xs=some y):eD H (xs.map X.D) ((bH τ y).map .t):=by
 unfold xM at h;split at h
 .rename_i z h1
  cases h;obtain⟨pre,e,hw⟩:=WL (H:=H) τ xs y [] h1;rw[e,List.append_nil];exact hw
 .cases h
def Vw.den(σ:Vw):St:=⟨λt=>(σ.T t).map X.D,λk=>(σ.H k).map XO.A,λ_=>false⟩
theorem fZ{σ:Vw}{k:Nat}{o:XO}(h:σ.H k=some o):σ.den.H k=some o.A:=by simp[Vw.den,h]
theorem qB{σ:Vw}{t:Nat}{x:X}(h:σ.T t=some x):σ.den.T t=some x.D:=by simp[Vw.den,h]
theorem EA(σ:Vw)(x:X):cC σ.den.H x.D (σ.kU x).D:=by
 unfold Vw.kU;split
 .rename_i q
  split
  .rename_i e τ l h
   exact cC.own (e:=e) (s:=τ.size) (by rw[fZ h];rfl)
  .exact cC.refl
 .exact cC.refl
theorem WW(σ:Vw)(x:X):cC σ.den.H x.D (σ.p7 x).D:=by
 unfold Vw.p7;split
 .rename_i xs
  unfold X.D;rw[fD,fD,List.map_map];exact cC.agg (eD.of_map (f:=X.D) (g:=X.D ∘ σ.kU) λx _=>EA σ x)
 .exact EA σ _
theorem a3Y{x:X}(h:x.val=true)(h':x.D.val=true):x.D.cells=x.cells.map X.D:=by
 cases x with
 |agg xs=>unfold X.D;rw[fD];rfl
 |e τ y=>
   unfold X.D X.cells;cases hτ:τ.one with
   |true=>simp[D.cells,qA hτ]
   |false=>rw[show(X.e τ y).D = .any by unfold X.D;rw[hτ]]at h';cases h'
 |bD xs=>cases h
 |eO key c x=>cases h
 |bit j q=>cases h
 |cH=>rfl
 |own k=>rfl
 |ref k off=>rfl
 |rr k i j s=>rfl
 |pt τ y j=>rfl
 |fn f xs=>rfl
 |v w=>rfl
 |sub k i=>rfl
 |iY k i j=>rfl
 |vw k i n s=>rfl
 |via k j=>rfl
 |dP v=>cases h
end Go.Ax
/- States of the run, and a region whose operations run one after the other. -/
namespace Go.Ax
open aA
open Go.RowKit Go.Ab
theorem bL{α:Type}{x:Option α}{k:α->O}{r:aC}(h:ob x k=some r):∃y,x=some y/\k y=some r:=by
 unfold ob at h;split at h
 .exact⟨_,rfl,h⟩
 .cases h
theorem xV{b:Bool}{x y:O}{r:aC}(h:br b x y=some r):(b=true/\x=some r)\/(b=false/\y=some r):=by
 cases b
 .exact .inr ⟨rfl,h⟩
 .exact .inl ⟨rfl,h⟩
theorem jD{b:Bool}{x:O}{r:aC}(h:ck b x=some r):b=true/\x=some r:=by
 cases b
 .cases h
 .exact⟨rfl,h⟩
theorem WS{α:Type}{l:List α}{n:Int}{k:α->O}{r:aC}(h:gx l n k=some r):∃y,0<=n/\l[n.toNat]?=some y/\k y=some r:=by
 change Dz l n k=some r at h;unfold Dz at h;split at h
 .rename_i y hy
  split at hy
  .cases hy
  .exact⟨y,by omega,hy,h⟩
 .cases h
theorem uH{α:Type}{l:List α}{n:Nat}{k:α->O}{r:aC}(h:gn l n k=some r):∃y,l[n]?=some y/\k y=some r:=by
 change WU l n k=some r at h;unfold WU at h;split at h
 .exact⟨_,‹_›,h⟩
 .cases h
theorem qF{a b:Nat}(h:bQ a b=false):a≠b:=λe=>by subst e;simp at h
theorem nO{a b:Nat}(h:a≠b):bQ a b=false:=by
 cases hb:bQ a b with
 |false=>rfl
 |true=>exact absurd (bY hb) h
theorem Om{w q:Bool}(h:xU w q=true):q=w:=by cases w <;> cases q <;> first|rfl|cases h
theorem Oo{w q:Bool}(h:xU w q=false):q=!w:=by cases w <;> cases q <;> first|rfl|cases h
theorem oY{α:Type}{k:Nat}:∀{l:List (Nat×α)},lk k l=Ab.look k l
 |[]=>rfl
 |(k',x)::l=>by
   unfold lk Ab.look;by_cases e:k'=k
   .subst e;simp
   .have:bQ k' k=false:=nO e
    rw[this,aF e];exact oY
theorem lO{α β:Type}{k:Nat}{x:α}:∀{l:List (Nat×α)}{f:List (Nat×α)->Option β}{r:β},kP k x l f=some r->∃l',f l'=some r/\∀k',lk k' l'=if k=k' then some x else lk k' l
 |[],f,r,h=>⟨_,h,λk'=>by
   simp only[lk];by_cases e:k=k'
   .subst e;simp
   .have:bQ k k'=false:=nO e
    rw[this,aF e]⟩
 |(k',y)::l,f,r,h=>by
   unfold kP at h;split at h
   .rename_i he
    have he:=bY he;subst he;refine⟨_,h,λj=>?_⟩;simp only[lk];by_cases e:k'=j
    .subst e;simp
    .have:bQ k' j=false:=nO e
     rw[this,aF e]
   .rename_i he
    have he:=qF he;obtain⟨l',h1,h2⟩:=lO h;refine⟨_,h1,λj=>?_⟩;simp only[lk];by_cases e:k'=j
    .subst e
     rw[aF (λe=>he e.symm)];simp
    .have:bQ k' j=false:=nO e
     rw[this];exact h2 j
theorem Hv{α β:Type}{k:Nat}:∀{l:List (Nat×α)}{f:List (Nat×α)->Option β}{r:β},rW k l f=some r->∃l',f l'=some r/\∀k',lk k' l'=if k=k' then none else lk k' l
 |[],f,r,h=>⟨_,h,λk'=>by simp[lk]⟩
 |(k',y)::l,f,r,h=>by
   unfold rW at h;split at h
   .rename_i he
    have he:=bY he;subst he;obtain⟨l',h1,h2⟩:=Hv h;refine⟨_,h1,λj=>?_⟩;rw[h2];simp only[lk];by_cases e:k'=j
    .simp[e]
    .have:bQ k' j=false:=nO e
     rw[this]
   .rename_i he
    have he:=qF he;obtain⟨l',h1,h2⟩:=Hv h;refine⟨_,h1,λj=>?_⟩;simp only[lk];by_cases e:k'=j
    .subst e
     rw[aF (λe=>he e.symm)];simp
    .have:bQ k' j=false:=nO e
     rw[this];exact h2 j
theorem D3{dst:Option Tmp}{x:X}{T:XT}{f:XT->O}{r:aC}(h:tX dst x T f=some r):∃T',f T'=some r/\∀t,lk t T'=if dst=some t then some x else lk t T:=by
 cases dst with
 |none=>exact⟨T,h,λt=>by simp⟩
 |some d=>
   obtain⟨T',h1,h2⟩:=lO h;refine⟨T',h1,λt=>?_⟩;rw[h2];by_cases e:d=t
   .simp[e]
   .simp[e]
theorem Au:∀{W:Wx}{H:XH}{f:XH->O}{r:aC},oO W H f=some r->∃H',f H'=some r/\∀k,lk k H'=match Ab.look k W with|some o=>o|none=>lk k H
 |[],H,f,r,h=>⟨H,h,λk=>rfl⟩
 |(k0,some o)::W,H,f,r,h=>by
   unfold oO at h;obtain⟨H1,h1,h2⟩:=Au h;obtain⟨H2,h3,h4⟩:=lO h1;refine⟨H2,h3,λk=>?_⟩;rw[h4];unfold Ab.look;by_cases e:k0=k
   .simp[e]
   .simp only[aF e];exact h2 k
 |(k0,none)::W,H,f,r,h=>by
   unfold oO at h;obtain⟨H1,h1,h2⟩:=Au h;obtain⟨H2,h3,h4⟩:=Hv h1;refine⟨H2,h3,λk=>?_⟩;rw[h4];unfold Ab.look;by_cases e:k0=k
   .simp[e]
   .simp only[aF e];exact h2 k
def Good(κ:Nat->Bool):X->Prop
 |.bit j q=>κ (2*j+1)=q/\κ (2*j)=!q
 |.eO key c x=>c=κ key/\(match x with|.bit j q=>κ (2*j+1)=(c&&q)/\κ (2*j)=(c&&!q)|.eO ..=>False|_=>True)
 |_=>True
theorem Di{κ:Nat->Bool}{x:X}(h:x.pl=true):Good κ x:=by
 cases x <;> first|exact r7|cases h
structure Vw.Ok(σ:Vw)(κ:Nat->Bool):Prop where
 p6:∀t x,σ.T t=some x->Good κ x
 g:∀key c,σ.g=some (key,c)->c=κ key
def Vw.On(σ:Vw):Prop:=∀key c,σ.g=some (key,c)->c=true
def WA(W:Wx):Wr:=W.map λp=>(p.1,p.2.map XO.A)
theorem Vx{k:Nat}:∀{W:Wx},Ab.look k (WA W)=(Ab.look k W).map (·.map XO.A)
 |[]=>rfl
 |(k',o)::W=>by
   unfold WA Ab.look;simp only[iN];by_cases e:k'=k
   .simp[e]
   .rw[aF e]
    have:=Vx (k:=k) (W:=W);unfold WA at this;simp only[aF e];exact this
def Ow(c:Cx):Prop:=∀(σ:Vw)(κ:Nat->Bool)(fr:Nat)(st:Bool)(o:Oper)(k:X->Wx->O)(r:aC),σ.Ok κ->eG c σ fr st o k=some r->∃x W,k x W=some r/\x.pl=true/\(σ.On->bI c.P o σ.den fr x.D (WA W))
def Oz(c:Cx):Prop:=∀(σ:Vw)(κ:Nat->Bool)(fr:Nat)(o:Oper)(k:X->Wx->O)(kp:Value->Wx->O)(els:O)(r:aC),σ.Ok κ->σ.g=none->Nx c σ fr o k kp els=some r->
 els=some r\/(∃x W,k x W=some r/\x.pl=true/\(σ.On->bI c.P o σ.den fr x.D (WA W)))\/∃v W,kp v W=some r/\(σ.On->sC c.P o σ.den fr v (WA W))
structure gG(T:XT)(H:XH)(s:St):Prop where
 T:∀t x,lk t T=some x->s.T t=some x.D
 H:∀k o,lk k H=some o->s.H k=some o.A
theorem PD{P:Program}{o:Oper}{σ s:St}{fr:Nat}{d:D}{W:Wr}(h:bI P o σ fr d W)(hT:∀t d,σ.T t=some d->s.T t=some d)(hH:∀k o,σ.H k=some o->s.H k=some o):bI P o s fr d W:=
 λE σ₁ a w h1 h2 h3 h4 h5 h6 Q=>h E σ₁ a w (λt d ht=>h1 t d (hT t d ht)) (λk o hk=>h2 k o (hH k o hk)) h3 h4 h5 h6 Q
theorem aIh{P:Program}{o:Oper}{σ s:St}{fr:Nat}{v:Value}{W:Wr}(h:sC P o σ fr v W)(hT:∀t d,σ.T t=some d->s.T t=some d)(hH:∀k o,σ.H k=some o->s.H k=some o):sC P o s fr v W:=
 λE σ₁ a w h1 h2 h3 h4 h5=>h E σ₁ a w (λt d ht=>h1 t d (hT t d ht)) (λk o hk=>h2 k o (hH k o hk)) h3 h4 h5
theorem gG.aZ{T T':XT}{H H':XH}{s:St}(h:gG T H s){dst:Option Tmp}{x:X}{W:Wx}{fr:Nat}(hT:∀t,lk t T'=if dst=some t then some x else lk t T)(hH:∀k,lk k H'=match Ab.look k W with|some o=>o|none=>lk k H):
    gG T' H' (s.aZ dst x.D (WA W) fr) where
 T:=λt y ht=>by
  rw[hT]at ht;simp only[St.aZ];by_cases e:dst=some t
  .rw[aN e]at ht ⊢;cases ht;rfl
  .rw[aF e]at ht ⊢;exact h.T t y ht
 H:=λk o hk=>by
  rw[hH]at hk;simp only[St.aZ,Vx];cases hl:Ab.look k W with
  |none=>simp only[hl]at hk;exact h.H k o hk
  |some o'=>simp only[hl]at hk;simp[hk]
def k6(κ:Nat->Bool)(j:Nat)(a b:Bool)(k:Nat):Bool:=if k=2*j+1 then a else if k=2*j then b else κ k
theorem Xo{κ:Nat->Bool}{j:Nat}{a b:Bool}:k6 κ j a b (2*j+1)=a:=by simp[k6]
theorem Xp{κ:Nat->Bool}{j:Nat}{a b:Bool}:k6 κ j a b (2*j)=b:=by
 unfold k6;rw[aF (by omega),aN rfl]
theorem Good.set{κ:Nat->Bool}{j:Nat}{a b:Bool}{x:X}(h:Good κ x)(hu:rF j x=false):Good (k6 κ j a b) x:=by
 have bt:∀j',bQ j' j=false->k6 κ j a b (2*j'+1)=κ (2*j'+1)/\k6 κ j a b (2*j')=κ (2*j'):=λj' hj=>by
  have:=qF hj;unfold k6;exact⟨by rw[aF (by omega),aF (by omega)],by rw[aF (by omega),aF (by omega)]⟩
 cases x with
 |bit j' q=>
   simp only[rF]at hu;obtain⟨h1,h2⟩:=h;exact⟨(bt j' hu).1.trans h1,(bt j' hu).2.trans h2⟩
 |eO key c y=>
   simp only[rF,aJI]at hu;obtain⟨⟨hu1,hu2⟩,hu3⟩:=hu;obtain⟨h1,h2⟩:=h;have hk:k6 κ j a b key=κ key:=by
    have:=qF hu1;have:=qF hu2;unfold k6;rw[aF (by omega),aF (by omega)]
   refine⟨h1.trans hk.symm,?_⟩;cases y with
   |bit j' q=>
     simp only at hu3 h2 ⊢;exact⟨(bt j' hu3).1.trans h2.1,(bt j' hu3).2.trans h2.2⟩
   |eO _ _ _=>exact h2
   |_=>exact r7
 |_=>exact r7
theorem W4{j:Nat}:∀{T:XT},Hn j T=true->∀t x,lk t T=some x->rF j x=false
 |[],_,t,x,h=>by cases h
 |(t',y)::l,hf,t,x,h=>by
   unfold Hn at hf;split at hf
   .cases hf
   .rename_i hu
    unfold lk at h;split at h
    .cases h;exact hu
    .exact W4 hf t x h
theorem aI3{κ:Nat->Bool}{j:Nat}{q w:Bool}(h1:κ (2*j+1)=q)(h2:κ (2*j)=!q):κ (BU j w)=xU w q:=by
 cases w
 .exact h2
 .exact h1
theorem aI2{κ:Nat->Bool}{j:Nat}{c q w:Bool}(h1:κ (2*j+1)=(c&&q))(h2:κ (2*j)=(c&&!q)):κ (BU j w)=(c&&xU w q):=by
 cases w
 .exact h2
 .exact h1
theorem aH9{o:Oper}{ops:List Oper}{T:Nat->Option X}{g:Gd}(h:O0 o ops T=some g):match g with
    |.on=>o.guard=none
    |.off=>∃j w t,o.guard=some (j,w)/\(ops[j]?).bind (·.dst)=some t/\T t=some (.bD [])
    |.kn b=>∃j w t v,o.guard=some (j,w)/\(ops[j]?).bind (·.dst)=some t/\T t=some (.v (.bool v))/\(b=true->v=w)/\(b=false->v=!w)
    |.cd key b t j y new=>∃w x,o.guard=some (j,w)/\(ops[j]?).bind (·.dst)=some t/\T t=some x/\key=BU j w/\y.D=x.D/\(b=true->x.D = .t (.v (.bool w)))/\(b=false->x.D = .bD []\/x.D = .t (.v (.bool (!w)))) /\
        ∀κ:Nat->Bool,Good κ x->(new=false->Good κ y/\b=κ key)/\(new=true->∃a c,∀κ':Nat->Bool,κ' (2*j+1)=a->κ' (2*j)=c->(∀key' c' x',x = .eO key' c' x'->κ' key'=κ key')->Good κ' y/\b=κ' key):=by
 unfold O0 at h;split at h
 .cases h;assumption
 .rename_i j w hg
  split at h
  case h_2=>cases h
  rename_i oj hj;split at h
  case h_2=>cases h
  rename_i t ht;have hdst:(ops[j]?).bind (·.dst)=some t:=by rw[hj];exact ht
  split at h
  .rename_i q hT
   cases h;refine⟨w,_,hg,hdst,hT,rfl,rfl,λhb=>?_,λhb=>?_,λκ _=>⟨λh=>(by cases h),λ_=>⟨q,!q,λκ' h1 h2 _=>⟨⟨h1,h2⟩,(aI3 h1 h2).symm⟩⟩⟩⟩
   .exact bG (λb=>D.t (.v (.bool b))) (Om hb)
   .exact .inr (bG (λb=>D.t (.v (.bool b))) (Oo hb))
  .rename_i j' q hT
   split at h
   .rename_i he
    have he:=bY he;subst he;cases h;refine⟨w,_,hg,hdst,hT,rfl,rfl,λhb=>?_,λhb=>?_,λκ hG=>⟨λ_=>⟨hG,(aI3 hG.1 hG.2).symm⟩,λh=>by cases h⟩⟩
    .exact bG (λb=>D.t (.v (.bool b))) (Om hb)
    .exact .inr (bG (λb=>D.t (.v (.bool b))) (Oo hb))
   .cases h
  .rename_i key c q hT
   cases h;refine⟨w,_,hg,hdst,hT,rfl,by cases c <;> rfl,λhb=>?_,λhb=>?_,λκ hG=>⟨λh=>(by cases h),λ_=>⟨c&&q,c&&!q,λκ' h1 h2 h3=>⟨⟨hG.1.trans (h3 key c _ rfl).symm,h1,h2⟩,(aI2 h1 h2).symm⟩⟩⟩⟩
   .simp only[bM]at hb
    obtain⟨hc,hb⟩:=hb;subst hc;exact bG (λb=>D.t (.v (.bool b))) (Om hb)
   .cases c
    .left;rfl
    .right
     exact bG (λb=>D.t (.v (.bool b))) (Oo hb)
  .rename_i key c j' q hT
   split at h
   .rename_i he
    have he:=bY he;subst he;cases h;refine⟨w,_,hg,hdst,hT,rfl,rfl,λhb=>?_,λhb=>?_,λκ hG=>⟨λ_=>⟨hG,(aI2 hG.2.1 hG.2.2).symm⟩,λh=>by cases h⟩⟩
    .simp only[bM]at hb
     obtain⟨hc,hb⟩:=hb;subst hc;exact bG (λb=>D.t (.v (.bool b))) (Om hb)
    .cases c
     .left;rfl
     .right
      exact bG (λb=>D.t (.v (.bool b))) (Oo hb)
   .cases h
  .rename_i hT
   cases h;exact⟨j,w,t,hg,hdst,hT⟩
  .rename_i v hT
   cases h;refine⟨j,w,t,v,hg,hdst,hT,λh=>?_,λh=>?_⟩
   .cases v <;> cases w <;> first|rfl|cases h
   .cases v <;> cases w <;> first|rfl|cases h
  .cases h
end Go.Ax
/- A region whose operations run one after the other. -/
namespace Go.Ax
open aA
open Go.RowKit Go.Ab
theorem Wm{k:Nat}:∀{l:XT}{f:XT->O}{r:aC},rW k l f=some r->lR l=true->∃l',f l'=some r/\(∀k',lk k' l'=if k=k' then none else lk k' l)/\lR l'=true
 |[],f,r,h,_=>⟨_,h,(λk'=>by simp[lk]),rfl⟩
 |(k',y)::l,f,r,h,hp=>by
   have hp':=hp;unfold lR at hp';split at hp'
   case h_2=>cases hp'
   rename_i hy;unfold rW at h;split at h
   .rename_i he
    have he:=bY he;subst he;obtain⟨l',h1,h2,h3⟩:=Wm h hp';refine⟨l',h1,λj=>?_,h3⟩;rw[h2];simp only[lk];by_cases e:k'=j
    .simp[e]
    .rw[nO e]
   .rename_i he
    have he:=qF he;obtain⟨l',h1,h2,h3⟩:=Wm h hp';refine⟨_,h1,λj=>?_,by unfold lR;rw[hy];exact h3⟩;simp only[lk];by_cases e:k'=j
    .subst e
     rw[aF (λe=>he e.symm)];simp
    .rw[nO e]
     exact h2 j
theorem VY:∀{T:XT},lR T=true->∀t x,lk t T=some x->x.pl=true
 |[],_,t,x,h=>by cases h
 |(t',y)::l,hf,t,x,h=>by
   unfold lR at hf;split at hf
   case h_2=>cases hf
   rename_i hy;unfold lk at h;split at h
   .cases h;exact hy
   .exact VY hf t x h
theorem Ha:∀{T:XT}{f:XT->O}{r:aC},rM T f=some r->∃T',f T'=some r/\(∀t x,lk t T'=some x->∃y,lk t T=some y/\x.D=y.D)/\lR T'=true
 |[],f,r,h=>⟨[],h,(λt x h=>by cases h),rfl⟩
 |(t0,x0)::l,f,r,h=>by
   unfold rM at h;have key:∀(x1:X)(_:x1.pl=true)(_:x1.D=x0.D)(_:rM l (λl'=>f ((t0,x1)::l'))=some r),∃T',f T'=some r/\(∀t x,lk t T'=some x->∃y,lk t ((t0,x0)::l)=some y/\x.D=y.D)/\lR T'=true:=λx1 hp hD hh=>by
    obtain⟨l',h1,h2,h3⟩:=Ha hh;refine⟨_,h1,λt x ht=>?_,by unfold lR;rw[hp];exact h3⟩;unfold lk at ht ⊢;split at ht
    .rename_i he;cases ht;exact⟨x0,rfl,hD⟩
    .rename_i he;exact h2 t x ht
   split at h
   .rename_i j q;exact key (.e .bo q) rfl rfl h
   .rename_i key0 c y
    obtain⟨l',h1,h2,h3⟩:=Ha h;obtain⟨l2,h4,h5,h6⟩:=Wm h1 h3;refine⟨l2,h4,λt x ht=>?_,h6⟩;rw[h5]at ht;split at ht
    .cases ht
    .rename_i he
     unfold lk;rw[nO he];exact h2 t x ht
   .rename_i q;exact key (.e .bo q) rfl rfl h
   .rename_i h1 h2 h3
    refine key x0 ?_ rfl h;cases x0 with
    |bit j q=>exact absurd rfl (h1 j q)
    |eO k c y=>exact absurd rfl (h2 k c y)
    |_=>rfl
theorem aHH{W:Wx}{k:O}{r:aC}(h:Ve W k=some r):W=[]/\k=some r:=by
 cases W with
 |nil=>exact⟨rfl,h⟩
 |cons _ _=>cases h
theorem gG.T'{T T':XT}{H:XH}{s:St}(h:gG T H s)(hT:∀t x,lk t T'=some x->∃y,lk t T=some y/\x.D=y.D):gG T' H s:=
 ⟨λt x ht=>let⟨y,h1,h2⟩:=hT t x ht;by rw[h2];exact h.T t y h1,h.H⟩
theorem Df{c:Cx}(hs:Ow c)(hpn:Oz c){stF:List Nat}{all:List Oper}:∀(l:List Oper)(i:Nat)(σ:Sg)(k:Exit->Sg->O)(r:aC)(s:St)(κ:Nat->Bool),kA c stF all l i σ k=some r->gG σ.T σ.H s->(∀t x,lk t σ.T=some x->Good κ x)->
    ∃e σ',k e σ'=some r/\σ'.N=σ.N+8*l.length/\lR σ'.T=true/\mK c.P all.toArray (λe' s'=>e'=e/\gG σ'.T σ'.H s') l σ.N s
 |[],i,σ,k,r,s,κ,h,hL,hG=>by
   unfold kA at h;obtain⟨T',h1,h2,h3⟩:=Ha h;exact⟨.normal,_,h1,rfl,h3,rfl,hL.T' h2⟩
 |o::rest,i,σ,k,r,s,κ,h,hL,hG=>by
   unfold kA at h;obtain⟨g,hg,h⟩:=bL h;have hg':=aH9 hg;have hall:∀{j:Nat}{t:Tmp},(all[j]?).bind (·.dst)=some t->((all.toArray[j]?).bind (·.dst))=some t:=λh=>by simpa using h
   have onK:∀(T1:XT),gG T1 σ.H s->(∀t x,lk t T1=some x->Good κ x)->qO all.toArray o s->(Da c σ T1 (!(stF.contains i)) o (rest.length+1) k λσ'=>kA c stF all rest (i+1) σ' k)=some r->
       ∃e σ',k e σ'=some r/\σ'.N=σ.N+8*(o::rest).length/\lR σ'.T=true/\mK c.P all.toArray (λe' s'=>e'=e/\gG σ'.T σ'.H s') (o::rest) σ.N s:=λT1 hL1 hG1 hgd h=>by
    have hok:Vw.Ok ⟨λt=>lk t T1,λk=>lk k σ.H,none⟩ κ:=⟨hG1,λkey c h=>by cases h⟩;have hTT:∀t d,(Vw.den ⟨λt=>lk t T1,λk=>lk k σ.H,none⟩).T t=some d->s.T t=some d:=λt d ht=>by
     simp only[Vw.den]at ht;obtain⟨y,hy,rfl⟩:=cN.1 ht;exact hL1.T t y hy
    have hHH:∀q d,(Vw.den ⟨λt=>lk t T1,λk=>lk k σ.H,none⟩).H q=some d->s.H q=some d:=λq d ht=>by
     simp only[Vw.den]at ht;obtain⟨y,hy,rfl⟩:=cN.1 ht;exact hL1.H q y hy
    have nx:∀x W,(tX o.dst x T1 λT=>oO W σ.H λH=>kA c stF all rest (i+1) ⟨T,H,σ.N+8⟩ k)=some r->x.pl=true->bI c.P o (Vw.den ⟨λt=>lk t T1,λk=>lk k σ.H,none⟩) σ.N x.D (WA W)->
        ∃e σ',k e σ'=some r/\σ'.N=σ.N+8*(o::rest).length/\lR σ'.T=true/\mK c.P all.toArray (λe' s'=>e'=e/\gG σ'.T σ'.H s') (o::rest) σ.N s:=λx W h hp hop=>by
     obtain⟨T',h,hT⟩:=D3 h;obtain⟨H',h,hH⟩:=Au h;have hop:=PD (s:=s) hop hTT hHH;obtain⟨e,σ',h1,h2,h3,h4⟩:=Df hs hpn rest (i+1) _ k r (s.aZ o.dst x.D (WA W) σ.N) κ h (hL1.aZ hT hH) (λt y ht=>by
      rw[hT]at ht;split at ht
      .cases ht;exact Di hp
      .exact hG1 t y ht)
     exact⟨e,σ',h1,by rw[h2];simp only[eB];omega,h3,.inl ⟨x.D,WA W,.inl ⟨hgd,hop⟩,h4⟩⟩
    unfold Da at h;rcases hpn _ κ _ _ _ _ _ _ hok rfl h with h|⟨x,W,h,hp,hop⟩|⟨v,W,h,hop⟩
    .obtain⟨x,W,h,hp,hop⟩:=hs _ κ _ _ _ _ _ hok h
     exact nx x W h hp (hop (λkey c h=>by cases h))
    .exact nx x W h hp (hop (λkey c h=>by cases h))
    .obtain⟨H',h,hH⟩:=Au h
     obtain⟨T',h1,h2,h3⟩:=Ha h;have hL2:gG T1 H' (s.aZ none .any (WA W) σ.N):=hL1.aZ (dst:=none) (x:=.bD []) (λt=>by simp) hH;exact⟨_,_,h1,by simp only[eB],h3,.inr (.inr ⟨v,WA W,hgd,aIh (hop (λkey c h=>by cases h)) hTT hHH,rfl,hL2.T' h2⟩)⟩
   have offK:∀(T1:XT),gG T1 σ.H s->(∀t x,lk t T1=some x->Good κ x)->II all.toArray o s->(D8 σ T1 o λσ'=>kA c stF all rest (i+1) σ' k)=some r->
       ∃e σ',k e σ'=some r/\σ'.N=σ.N+8*(o::rest).length/\lR σ'.T=true/\mK c.P all.toArray (λe' s'=>e'=e/\gG σ'.T σ'.H s') (o::rest) σ.N s:=λT1 hL1 hG1 hgd h=>by
    unfold D8 at h;obtain⟨T',h,hT⟩:=D3 h;obtain⟨e,σ',h1,h2,h3,h4⟩:=Df hs hpn rest (i+1) _ k r (s.aZ o.dst (X.bD []).D (WA []) σ.N) κ h (hL1.aZ hT (λq=>rfl)) (λt y ht=>by
     rw[hT]at ht;split at ht
     .cases ht;exact r7
     .exact hG1 t y ht)
    exact⟨e,σ',h1,by rw[h2];simp only[eB];omega,h3,.inl ⟨_,_,.inr ⟨hgd,rfl,rfl⟩,h4⟩⟩
   cases g with
   |on=>
     simp only at h hg';exact onK σ.T hL hG (.inl hg') h
   |off=>
     simp only at h hg';obtain⟨j,w,t,e1,e2,e3⟩:=hg';exact offK σ.T hL hG ⟨j,w,t,_,e1,hall e2,hL.T t _ e3,.inl rfl⟩ h
   |kn b=>
     obtain⟨j,w,t,v,e1,e2,e3,e4,e5⟩:=hg';cases b with
     |true=>
       have:=e4 rfl;subst this;exact onK σ.T hL hG (.inr ⟨j,v,t,e1,hall e2,hL.T t _ e3⟩) h
     |false=>
       have:=e5 rfl;subst this;exact offK σ.T hL hG ⟨j,w,t,_,e1,hall e2,hL.T t _ e3,.inr rfl⟩ h
   |cd key b t j y new=>
     simp only at h hg';obtain⟨w,x0,e1,e2,e3,e4,e5,e6,e7,e8⟩:=hg';split at h
     .split at h
      case h_2=>cases h
      rename_i jj q jg w' hgw;rw[e1]at hgw;obtain⟨rfl,rfl⟩:=a4L (fL hgw);have hx0:x0.D = .t (.v (.bool q)):=e5.symm;have key:∀(T1:XT)(v:Bool),q=v->(∀t',lk t' T1=if t=t' then some (.v (.bool v))else lk t' σ.T)->gG T1 σ.H s/\(∀t x,lk t T1=some x->Good κ x)/\s.T t=some (.t (.v (.bool v))):=λT1 v hq hT=>by
       subst hq;refine⟨hL.T' λt' x ht=>?_,λt' x ht=>?_,by rw[hL.T t x0 e3,hx0]⟩
       .rw[hT]at ht
        split at ht
        .rename_i he;cases ht;subst he;exact⟨x0,e3,hx0.symm⟩
        .exact⟨x,ht,rfl⟩
       .rw[hT]at ht
        split at ht
        .cases ht;exact r7
        .exact hG t' x ht
      rcases xV h with⟨hq,h⟩|⟨hq,h⟩
      .obtain⟨T1,h,hT1⟩:=lO h
       obtain⟨k1,k2,k3⟩:=key T1 true hq hT1;cases w with
       |true=>exact onK T1 k1 k2 (.inr ⟨_,_,t,e1,hall e2,k3⟩) h
       |false=>exact offK T1 k1 k2 ⟨_,_,t,_,e1,hall e2,k3,.inr rfl⟩ h
      .obtain⟨T1,h,hT1⟩:=lO h
       obtain⟨k1,k2,k3⟩:=key T1 false hq hT1;cases w with
       |true=>exact offK T1 k1 k2 ⟨_,_,t,_,e1,hall e2,k3,.inr rfl⟩ h
       |false=>exact onK T1 k1 k2 (.inr ⟨_,_,t,e1,hall e2,k3⟩) h
     split at h
     case h_2=>cases h
     rename_i hfree;obtain⟨T1,h,hT1⟩:=lO h
     -- the keys
     have hκ:∃κ':Nat->Bool,(∀t x,lk t T1=some x->Good κ' x)/\b=κ' key:=by
      obtain⟨k1,k2⟩:=e8 κ (hG t x0 e3);cases hn:new with
      |false=>
        obtain⟨g1,g2⟩:=k1 hn;refine⟨κ,λt' x' ht=>?_,g2⟩;rw[hT1]at ht;split at ht
        .cases ht;exact g1
        .exact hG t' x' ht
      |true=>
        obtain⟨a,cc,k3⟩:=k2 hn;rw[hn]at hfree;have hf:Hn j σ.T=true:=by simpa using hfree
        obtain⟨g1,g2⟩:=k3 (k6 κ j a cc) Xo Xp (λkey' c' x' hx=>by
         have:=W4 hf t x0 e3;rw[hx]at this;simp only[rF,aJI]at this;have h1:=qF this.1.1;have h2:=qF this.1.2;unfold k6;rw[aF (by omega),aF (by omega)])
        refine⟨k6 κ j a cc,λt' x' ht=>?_,g2⟩;rw[hT1]at ht;split at ht
        .cases ht;exact g1
        .exact(hG t' x' ht).set (W4 hf t' x' ht)
     obtain⟨κ',hG1,hb⟩:=hκ;have hL1:gG T1 σ.H s:=⟨λt' x' ht=>by
      rw[hT1]at ht;split at ht
      .rename_i he
       cases ht;subst he;rw[e5];exact hL.T t x0 e3
      .exact hL.T t' x' ht,hL.H⟩
     have hok:Vw.Ok ⟨λt=>lk t T1,λk=>lk k σ.H,some (key,b)⟩ κ':=⟨hG1,λkey' c' h=>by cases h;exact hb⟩;have hle:∀{x:D}{W:Wr},bI c.P o (Vw.den ⟨λt=>lk t T1,λk=>lk k σ.H,some (key,b)⟩) σ.N x W->bI c.P o s σ.N x W:=λhop=>PD hop (λt d ht=>by
      simp only[Vw.den]at ht;obtain⟨y,hy,rfl⟩:=cN.1 ht;exact hL1.T t y hy) (λq d ht=>by
      simp only[Vw.den]at ht;obtain⟨y,hy,rfl⟩:=cN.1 ht;exact hL1.H q y hy)
     have hTt:=hL.T t x0 e3;have hoff:b=false->nY c.P all.toArray o s σ.N (.bD []) []:=λhb'=>.inr ⟨⟨j,w,t,_,e1,hall e2,hTt,e7 hb'⟩,rfl,rfl⟩
     have hgd:b=true->qO all.toArray o s:=λhb'=>.inr ⟨j,w,t,e1,hall e2,by rw[hTt,e6 hb']⟩
     split at h
     ·-- it runs under a condition
      obtain⟨x,W,h,hp,hop⟩:=hs _ κ' _ _ _ _ _ hok h;obtain⟨hW,h9⟩:=aHH h;subst hW;clear h;obtain⟨T',h,hT⟩:=D3 h9;have hG':∀t y,lk t T'=some y->Good κ' y:=λt' y' ht=>by
       rw[hT]at ht;split at ht
       .cases ht
        refine⟨hb,?_⟩;cases x with
        |bit j q=>cases hp
        |eO k c y=>cases hp
        |_=>exact r7
       .exact hG1 t' y' ht
      obtain⟨e,σ',h1,h2,h3,h4⟩:=Df hs hpn rest (i+1) _ k r (s.aZ o.dst (X.eO key b x).D (WA []) σ.N) κ' h (hL1.aZ hT (λq=>rfl)) hG';refine⟨e,σ',h1,by rw[h2];simp only[eB];omega,h3,.inl ⟨_,_,?_,h4⟩⟩;cases hbb:b with
      |false=>rw[hbb]at hoff;exact hoff rfl
      |true=>rw[hbb]at hgd hop hle;exact .inl ⟨hgd rfl,hle (hop (λkey' c' h=>by cases h;rfl))⟩
     ·-- two ways
      rcases xV h with⟨hb',h⟩|⟨hb',h⟩
      .obtain⟨x,W,h,hp,hop⟩:=hs _ κ' _ _ _ _ _ hok h
       obtain⟨T',h,hT⟩:=D3 h;obtain⟨H',h,hH⟩:=Au h;obtain⟨e,σ',h1,h2,h3,h4⟩:=Df hs hpn rest (i+1) _ k r (s.aZ o.dst x.D (WA W) σ.N) κ' h (hL1.aZ hT hH) (λt y ht=>by
        rw[hT]at ht;split at ht
        .cases ht;exact Di hp
        .exact hG1 t y ht)
       exact⟨e,σ',h1,by rw[h2];simp only[eB];omega,h3,.inl ⟨x.D,WA W,.inl ⟨hgd hb',hle (hop (λkey' c' h=>by cases h;exact hb'))⟩,h4⟩⟩
      .obtain⟨T',h,hT⟩:=D3 h
       obtain⟨e,σ',h1,h2,h3,h4⟩:=Df hs hpn rest (i+1) _ k r (s.aZ o.dst (X.bD []).D (WA []) σ.N) κ' h (hL1.aZ hT (λq=>rfl)) (λt y ht=>by
        rw[hT]at ht;split at ht
        .cases ht;exact r7
        .exact hG1 t y ht)
       exact⟨e,σ',h1,by rw[h2];simp only[eB];omega,h3,.inl ⟨_,_,hoff hb',h4⟩⟩
end Go.Ax
/- A region that draws its order. -/
namespace Go.Ax
open aA
open Go.RowKit Go.Ab
def fG(rs:Rx):Rs:=rs.map λp=>(p.1.D,WA p.2)
theorem V5{t:Tmp}{j:Nat}:∀{l:List Oper}{p:Nat},BE t j p l=true->∀q o,l[q]?=some o->o.dst=some t->p+q=j
 |[],_,_,q,o,h,_=>by simp at h
 |o'::l,p,hu,q,o,h,hd=>by
   unfold BE at hu;have rest:BE t j (p+1) l=true->∀q',q=q'+1->p+q=j:=λhr q' e=>by
    subst e;have:=V5 hr q' o (by simpa using h) hd;omega
   cases q with
   |succ q'=>
     split at hu
     .split at hu
      .cases hu
      .exact rest hu q' rfl
     .exact rest hu q' rfl
   |zero=>
     simp at h;subst h;rw[hd]at hu;simp only at hu;split at hu
     .cases hu
     .rename_i hb
      simp only[Bool.and_eq_false_iff,Bool.not_eq_false']at hb;rcases hb with hb|hb
      .simp at hb
      .have:=bY hb;omega
section
variable{ops:Array Oper}{pre kl:List (List Nat)}{fr:Nat}
theorem N2{σ:Vw}{dst:Option Tmp}{x:X}{W:Wx}(t:Nat):(N3 σ dst x W).T t=if dst=some t then some x else σ.T t:=by
 unfold N3;cases dst with
 |none=>simp
 |some d=>
   simp only;by_cases e:d=t
   .subst e;simp
   .rw[nO e];simp[e]
theorem Uq{S:Nat->Bool}:∀(rs:Rx)(j:Nat)(σ:Vw)(s:St),(∀t x,σ.T t=some x->s.T t=some x.D)->(∀k o,σ.H k=some o->s.H k=some o.A)->
    (∀t x,(oQ (Region.eV ops) S j rs σ).T t=some x->(cF ops fr S j (fG rs) s).T t=some x.D)/\(∀k o,(oQ (Region.eV ops) S j rs σ).H k=some o->(cF ops fr S j (fG rs) s).H k=some o.A)
 |[],j,σ,s,h1,h2=>⟨h1,h2⟩
 |(x,W)::rs,j,σ,s,h1,h2=>by
   unfold oQ;simp only[fG,iN];unfold cF;cases hS:S j with
   |false=>simp only[Bool.false_eq_true,if_false];exact Uq rs (j+1) σ s h1 h2
   |true=>
     simp only[gV];refine Uq rs (j+1) _ _ (λt y hy=>?_) (λk o hk=>?_)
     .rw[N2]at hy
      simp only[St.aZ];split at hy
      .rename_i e;cases hy;rw[aN e]
      .rename_i e;rw[aF e];exact h1 t y hy
     .simp only[N3,oY]at hk
      simp only[St.aZ,Vx];cases hl:Ab.look k W with
      |none=>simp only[hl]at hk;exact h2 k o hk
      |some o'=>simp only[hl]at hk;simp[hk]
theorem Uo{dst:Nat->Option Tmp}{S:Nat->Bool}:∀(rs:Rx)(j:Nat)(σ:Vw)(t:Nat)(x:X),(oQ dst S j rs σ).T t=some x->(∃p∈rs,p.1=x)\/σ.T t=some x
 |[],j,σ,t,x,h=>.inr h
 |(y,W)::rs,j,σ,t,x,h=>by
   unfold oQ at h;split at h
   .rcases Uo rs (j+1) _ t x h with⟨p,hp,e⟩|h
    .exact .inl ⟨p,fM _ hp,e⟩
    .rw[N2]at h
     split at h
     .cases h;exact .inl ⟨_,iA ..,rfl⟩
     .exact .inr h
   .rcases Uo rs (j+1) _ t x h with⟨p,hp,e⟩|h
    .exact .inl ⟨p,fM _ hp,e⟩
    .exact .inr h
theorem aGJ{dst:Nat->Option Tmp}{S:Nat->Bool}{t:Nat}:∀(rs:Rx)(p:Nat)(σ:Vw),(∀q,p<=q->dst q≠some t)->(oQ dst S p rs σ).T t=σ.T t
 |[],p,σ,_=>rfl
 |(y,W)::rs,p,σ,h=>by
   unfold oQ;rw[aGJ rs (p+1) _ (λq hq=>h q (by omega))];split
   .rw[N2,aF (h p (Nat.le_refl _))]
   .rfl
theorem Up{dst:Nat->Option Tmp}{S:Nat->Bool}{t j:Nat}(hS:S j=true)(hd:dst j=some t)(hu:∀q,q≠j->dst q≠some t):∀(rs:Rx)(p:Nat)(σ:Vw)(x:X)(W:Wx),p<=j->rs[j-p]?=some (x,W)->(oQ dst S p rs σ).T t=some x
 |[],p,σ,x,W,_,h=>by simp at h
 |(y,W')::rs,p,σ,x,W,hp,h=>by
   unfold oQ;by_cases e:p=j
   .subst e
    simp only[Nat.sub_self,List.getElem?_cons_zero,Option.some.injEq,Prod.mk.injEq]at h;obtain⟨rfl,rfl⟩:=h;rw[hS];simp only;rw[aGJ rs (p+1) _ (λq hq=>hu q (by omega)),N2,aN hd]
   .refine Up hS hd hu rs (p+1) _ x W (by omega) ?_
    rw[show j-p=(j-(p+1))+1 by omega]at h;simpa using h
theorem a3P{i:Nat}{rs:Rx}{σ:Vw}{s:St}{g:Option (Nat×Bool)}(h1:∀t x,σ.T t=some x->s.T t=some x.D)(h2:∀k o,σ.H k=some o->s.H k=some o.A):
    (∀t d,(kF ops pre kl fr i rs σ g).den.T t=some d->(ctx ops pre kl fr i (fG rs) s).T t=some d)/\(∀k o,(kF ops pre kl fr i rs σ g).den.H k=some o->(ctx ops pre kl fr i (fG rs) s).H k=some o):=by
 obtain⟨q1,q2⟩:=Uq (ops:=ops) (fr:=fr) (S:=λj=>(pre.getD i []).contains j) rs 0 σ s h1 h2;refine⟨λt d h=>?_,λk o h=>?_⟩
 .simp only[Vw.den,kF]at h
  obtain⟨x,hx,rfl⟩:=cN.1 h;simp only[ctx];split at hx
  .cases hx
  .rename_i hf
   rw[aF (by rw[hf];simp)];exact q1 t x hx
 .simp only[Vw.den,kF]at h
  obtain⟨x,hx,rfl⟩:=cN.1 h;simp only[ctx];split at hx
  .cases hx
  .rename_i hf
   rw[aF (by rw[hf];simp)];exact q2 k x hx
theorem a3O{i:Nat}{rs:Rx}{σ:Vw}{g:Option (Nat×Bool)}{t:Nat}{x:X}(h:(kF ops pre kl fr i rs σ g).T t=some x):(∃p∈rs,p.1=x)\/σ.T t=some x:=by
 simp only[kF]at h;split at h
 .cases h
 .exact Uo rs 0 σ t x h
theorem VV{α β:Type}(f:α->β):∀(l:List α)(j:Nat)(x y:α),l[j]?=some y->f x=f y->(gQ x j l).map f=l.map f
 |[],_,_,_,h,_=>by simp at h
 |z::l,0,x,y,h,e=>by simp at h;subst h;simp[gQ,e]
 |z::l,j+1,x,y,h,e=>by simp only[gQ,iN];rw[VV f l j x y (by simpa using h) e]
theorem VU{α:Type}(x:α)(j:Nat):gQ x j []=[]:=by cases j <;> rfl
theorem VW{α:Type}:∀(l:List α)(j:Nat)(x:α),(gQ x j l).length=l.length
 |[],j,x=>by rw[VU]
 |_::_,0,_=>rfl
 |_::l,j+1,x=>by simp only[gQ,eB];rw[VW l j x]
theorem Nv{α:Type}:∀(l:List α)(j:Nat)(x z:α),z∈gQ x j l->z=x\/z∈l
 |[],j,x,z,h=>by rw[VU]at h;cases h
 |y::l,0,x,z,h=>by
   rcases fA.1 h with h|h
   .exact .inl h
   .exact .inr (fM _ h)
 |y::l,j+1,x,z,h=>by
   rcases fA.1 h with h|h
   .exact .inr (by rw[h];exact iA ..)
   .rcases Nv l j x z h with h|h
    .exact .inl h
    .exact .inr (fM _ h)
theorem W5{j:Nat}:∀{rs:Rx},Ho j rs=true->∀p∈rs,rF j p.1=false
 |[],_,p,h=>by cases h
 |(x,W)::l,hf,p,h=>by
   unfold Ho at hf;split at hf
   .cases hf
   .rename_i hu
    rcases fA.1 h with h|h
    .rw[h];exact hu
    .exact W5 hf p h
theorem aIc{W:Wx}{f:Nat->Bool}(h:W.all (λp=>f p.1)=true):((WA W).all λp=>f p.1)=true:=by
 rw[eC]at h ⊢;intro p hp;obtain⟨q,hq,rfl⟩:=List.mem_map.1 hp;exact h q hq
theorem aHI:∀{rs:Rx},OH rs=true->∀q∈fG rs,q.2=[]
 |[],_,q,hq=>by cases hq
 |(x,[])::l,h,q,hq=>by
   unfold OH at h;rcases fA.1 hq with rfl|hq
   .rfl
   .exact aHI h q hq
 |(x,_::_)::l,h,q,hq=>by cases h
theorem a1b{n i:Nat}(h:aH1 pre n i=true):∀p,i<p->p<n->i∈pre.getD p []:=λp h1 h2=>by
 have:=eC.1 h p (List.mem_range.2 h2);rw[Bool.or_eq_true]at this;rcases this with h|h
 .have:=Nat.le_of_ble_eq_true h;omega
 .exact List.contains_iff_mem.1 h
abbrev PL(ops:Array Oper)(fr:Nat)(s:St)(k:Rx->O)(K:Exit->Sg->O)(r:aC)(n:Nat)(e:Exit)(s':St):Prop:=
 (e = .normal/\∃rs',k rs'=some r/\rs'.length=n/\s'=cF ops fr (λ_=>true) 0 (fG rs') s)\/∃σ',K e σ'=some r/\σ'.N=fr+8*ops.size/\gG σ'.T σ'.H s'
theorem EF{c:Cx}(hs:Ow c)(hpn:Oz c){stF:List Nat}{σ:Vw}{s:St}{HL:XH}{K:Exit->Sg->O}(h1:∀t x,σ.T t=some x->s.T t=some x.D)(h2:∀k o,σ.H k=some o->s.H k=some o.A)(hpl:∀t x,σ.T t=some x->x.pl=true)(hHL:∀k o,lk k HL=some o->s.H k=some o.A){n:Nat}:
    ∀(l:List Oper)(i:Nat)(rs:Rx)(k:Rx->O)(r:aC)(κ:Nat->Bool),kV c stF ops pre kl fr σ HL K l i rs k=some r->rs.length=i->n=i+l.length->(∀p∈rs,Good κ p.1)->
    pH c.P ops pre kl fr s (PL ops fr s k K r n) l i (fG rs)
 |[],i,rs,k,r,κ,h,hl,hn,hG=>.inl ⟨rfl,rs,h,by rw[hl,hn];rfl,rfl⟩
 |o::rest,i,rs,k,r,κ,h,hl,hn,hG=>by
   have hn':n=i+1+rest.length:=by rw[hn,eB];omega
   unfold kV at h;obtain⟨g,hg,h⟩:=bL h;have hg':=aH9 hg;have hall:∀{j:Nat}{t:Tmp},(ops.toList[j]?).bind (·.dst)=some t->((ops[j]?).bind (·.dst))=some t:=λh=>by simpa using h
   have p6:∀{κ:Nat->Bool}{rs:Rx},(∀p∈rs,Good κ p.1)->∀{g:Option (Nat×Bool)} t x,(kF ops pre kl fr i rs σ g).T t=some x->Good κ x:=λhG _ t x hx=>by
    rcases a3O hx with⟨p,hp,rfl⟩|hx
    .exact hG p hp
    .exact Di (hpl t x hx)
   have push:∀{κ:Nat->Bool}{rs:Rx},(∀p∈rs,Good κ p.1)->∀{x:X}{W:Wx},Good κ x->∀p∈rs++[(x,W)],Good κ p.1:=λhG _ _ hx p hp=>by
    rcases List.mem_append.1 hp with hp|hp
    .exact hG p hp
    .rw[List.mem_singleton.1 hp];exact hx
   have hcx:=λ(rs:Rx)(g:Option (Nat×Bool))=>a3P (ops:=ops) (pre:=pre) (kl:=kl) (fr:=fr) (i:=i) (rs:=rs) (g:=g) h1 h2
   have runK:∀(rs:Rx),rs.length=i->(∀p∈rs,Good κ p.1)->qO ops o (ctx ops pre kl fr i (fG rs) s)->(Db c stF ops pre kl fr σ HL K o i rs λrs=>kV c stF ops pre kl fr σ HL K rest (i+1) rs k)=some r->
       pH c.P ops pre kl fr s (PL ops fr s k K r n) (o::rest) i (fG rs):=λrs hl hG hg' h=>by
    unfold Db at h;have hok:Vw.Ok (kF ops pre kl fr i rs σ none) κ:=⟨p6 hG,λkey c h=>by cases h⟩;have nx:∀x W,(match W.all (λp=>eT kl fr i p.1)with
     |true=>kV c stF ops pre kl fr σ HL K rest (i+1) (rs++[(x,W)]) k
     |false=>none)=some r->x.pl=true->bI c.P o (Vw.den (kF ops pre kl fr i rs σ none)) (fr+8*i) x.D (WA W)->pH c.P ops pre kl fr s (PL ops fr s k K r n) (o::rest) i (fG rs):=λx W h hp hop=>by
     split at h
     case h_2=>cases h
     rename_i hW;have e3:=EF hs hpn h1 h2 hpl hHL rest (i+1) _ k r κ h (by simp[hl]) hn' (push hG (Di hp));refine .inl ⟨x.D,WA W,.inl ⟨hg',PD hop (hcx rs none).1 (hcx rs none).2⟩,aIc hW,?_⟩;simpa[fG]using e3
    rcases hpn _ κ _ _ _ _ _ _ hok rfl h with h|⟨x,W,h,hp,hop⟩|⟨v,W,h,hop⟩
    .obtain⟨x,W,h,hp,hop⟩:=hs _ κ _ _ _ _ _ hok h
     exact nx x W h hp (hop (λkey c h=>by cases h))
    .exact nx x W h hp (hop (λkey c h=>by cases h))
    .split at h
     case h_2=>cases h
     rename_i hb;rw[bM]at hb;obtain⟨H',h,hH⟩:=Au h;have hL0:gG [] HL ⟨λ_=>none,s.H,s.nm⟩:=⟨(λt x ht=>by cases ht),hHL⟩;exact .inr ⟨v,WA W,hg',aIh (hop (λkey c h=>by cases h)) (hcx rs none).1 (hcx rs none).2,a1b hb.1,aHI hb.2,.inr ⟨_,h,rfl,hL0.aZ (dst:=none) (x:=.bD []) (λt=>by simp) hH⟩⟩
   have skipK:∀(rs:Rx),rs.length=i->(∀p∈rs,Good κ p.1)->II ops o (ctx ops pre kl fr i (fG rs) s)->kV c stF ops pre kl fr σ HL K rest (i+1) (rs++[(.bD [],[])]) k=some r->
       pH c.P ops pre kl fr s (PL ops fr s k K r n) (o::rest) i (fG rs):=λrs hl hG hg' h=>by
    have e3:=EF hs hpn h1 h2 hpl hHL rest (i+1) _ k r κ h (by simp[hl]) hn' (push hG r7);refine .inl ⟨.bD [],[],.inr ⟨hg',rfl,rfl⟩,rfl,?_⟩;simpa[fG,X.D,Ds,WA]using e3
   cases g with
   |on=>
     simp only at h hg';exact runK rs hl hG (.inl hg') h
   |off=>
     simp only at h hg';obtain⟨j,w,t,z1,z2,z3⟩:=hg';exact skipK rs hl hG ⟨j,w,t,_,z1,hall z2,(hcx rs none).1 t _ (qB z3),.inl rfl⟩ h
   |kn b=>
     obtain⟨j,w,t,v,z1,z2,z3,z4,z5⟩:=hg';cases b with
     |true=>
       have:=z4 rfl;subst this;exact runK rs hl hG (.inr ⟨j,v,t,z1,hall z2,(hcx rs none).1 t _ (qB z3)⟩) h
     |false=>
       have:=z5 rfl;subst this;exact skipK rs hl hG ⟨j,w,t,_,z1,hall z2,(hcx rs none).1 t _ (qB z3),.inr rfl⟩ h
   |cd key b t j y new=>
     simp only at h hg';obtain⟨w,x0,z1,z2,z3,z4,z5,z6,z7,z8⟩:=hg';split at h
     .split at h
      case h_2=>cases h
      rename_i jj q jg w' hgw hon;rw[z1]at hgw;obtain⟨rfl,rfl⟩:=a4L (fL hgw);simp only[bM]at hon;obtain⟨honly,hpre⟩:=hon;have hx0:x0.D = .t (.v (.bool q)):=z5.symm;have hdst:Region.eV ops j=some t:=by unfold Region.eV;exact hall z2
      have hTt:(ctx ops pre kl fr i (fG rs) s).T t=some (.t (.v (.bool q))):=by rw[(hcx rs none).1 t _ (qB z3),hx0]
      have key:∀(v:Bool),q=v->∀{f:Rx->O},D9 j (.v (.bool v)) rs f=some r->∃rs',f rs'=some r/\rs'.length=i/\(∀p∈rs',Good κ p.1)/\fG rs'=fG rs:=λv hq f h=>by
       subst hq;unfold D9 at h;split at h
       case h_2=>cases h
       rename_i xj Wj hj;have hxx:xj=x0:=by
        have hz:=z3;simp only[kF]at hz;split at hz
        .cases hz
        .rw[Up (j:=j) hpre hdst (λq hq he=>hq (by
          unfold Region.eV at he;obtain⟨oq,ho1,ho2⟩:=kY.1 he;have:=V5 honly q oq (by simpa using ho1) ho2;omega)) rs 0 σ xj Wj (Nat.zero_le _) (by simpa using hj)]at hz
         cases hz;rfl
       subst hxx;refine⟨_,h,by rw[VW];exact hl,λp hp=>?_,VV _ rs j _ _ hj (by simp[hx0,X.D])⟩;rcases Nv _ _ _ _ hp with rfl|hp
       .exact r7
       .exact hG p hp
      rcases xV h with⟨hq,h⟩|⟨hq,h⟩
      .obtain⟨rs',h,k1,k2,k3⟩:=key true hq h
       rw[hq]at hTt;rw[<-k3]at hTt ⊢;cases w with
       |true=>exact runK rs' k1 k2 (.inr ⟨_,_,t,z1,hall z2,hTt⟩) h
       |false=>exact skipK rs' k1 k2 ⟨_,_,t,_,z1,hall z2,hTt,.inr rfl⟩ h
      .obtain⟨rs',h,k1,k2,k3⟩:=key false hq h
       rw[hq]at hTt;rw[<-k3]at hTt ⊢;cases w with
       |true=>exact skipK rs' k1 k2 ⟨_,_,t,_,z1,hall z2,hTt,.inr rfl⟩ h
       |false=>exact runK rs' k1 k2 (.inr ⟨_,_,t,z1,hall z2,hTt⟩) h
     split at h
     case h_2=>cases h
     rename_i hchk;simp only[bM]at hchk;obtain⟨hfree,honly,hpre⟩:=hchk;unfold D9 at h;split at h
     case h_2=>cases h
     rename_i xj Wj hj
     -- what the test lies in is what was looked up
     have hdst:Region.eV ops j=some t:=by unfold Region.eV;exact hall z2
     have hx0:xj=x0:=by
      have hz:=z3;simp only[kF]at hz;split at hz
      .cases hz
      .rw[Up (j:=j) hpre hdst (λq hq he=>hq (by
        unfold Region.eV at he;obtain⟨oq,ho1,ho2⟩:=kY.1 he;have:=V5 honly q oq (by simpa using ho1) ho2;omega)) rs 0 σ xj Wj (Nat.zero_le _) (by simpa using hj)]at hz
       cases hz;rfl
     subst hx0;have hmap:fG (gQ (y,Wj) j rs)=fG rs:=VV _ rs j _ _ hj (by simp[z5]);have hlen:(gQ (y,Wj) j rs).length=i:=by rw[VW];exact hl
     have hκ:∃κ':Nat->Bool,(∀p∈gQ (y,Wj) j rs,Good κ' p.1)/\b=κ' key:=by
      obtain⟨k1,k2⟩:=z8 κ (p6 hG t xj z3);cases hn:new with
      |false=>
        obtain⟨g1,g2⟩:=k1 hn;refine⟨κ,λp hp=>?_,g2⟩;rcases Nv _ _ _ _ hp with rfl|hp
        .exact g1
        .exact hG p hp
      |true=>
        obtain⟨a,cc,k3⟩:=k2 hn;rw[hn]at hfree;have hf:Ho j rs=true:=by simpa using hfree
        have hxf:rF j xj=false:=W5 hf _ (List.mem_iff_getElem?.2 ⟨j,hj⟩);obtain⟨g1,g2⟩:=k3 (k6 κ j a cc) Xo Xp (λkey' c' x' hx=>by
         rw[hx]at hxf;simp only[rF,aJI]at hxf;have h1:=qF hxf.1.1;have h2:=qF hxf.1.2;unfold k6;rw[aF (by omega),aF (by omega)])
        refine⟨k6 κ j a cc,λp hp=>?_,g2⟩;rcases Nv _ _ _ _ hp with rfl|hp
        .exact g1
        .exact(hG p hp).set (W5 hf p hp)
     obtain⟨κ',hG1,hb⟩:=hκ;have hok:Vw.Ok (kF ops pre kl fr i (gQ (y,Wj) j rs) σ (some (key,b))) κ':=⟨p6 hG1,λkey' c' h=>by cases h;exact hb⟩;have hTt:(ctx ops pre kl fr i (fG rs) s).T t=some xj.D:=(hcx rs none).1 t _ (qB z3);have hoff:b=false->nY c.P ops o (ctx ops pre kl fr i (fG rs) s) (fr+8*i) (.bD []) []:=λhb'=>.inr ⟨⟨j,w,t,_,z1,hall z2,hTt,z7 hb'⟩,rfl,rfl⟩
     have hgd:b=true->qO ops o (ctx ops pre kl fr i (fG rs) s):=λhb'=>.inr ⟨j,w,t,z1,hall z2,by rw[hTt,z6 hb']⟩
     have hle:∀{x:D}{W:Wr},bI c.P o (Vw.den (kF ops pre kl fr i (gQ (y,Wj) j rs) σ (some (key,b)))) (fr+8*i) x W->bI c.P o (ctx ops pre kl fr i (fG rs) s) (fr+8*i) x W:=λhop=>by
      have:=hcx (gQ (y,Wj) j rs) (some (key,b));rw[hmap]at this;exact PD hop this.1 this.2
     have hsnoc:∀(x:X)(W:Wx),fG (gQ (y,Wj) j rs++[(x,W)])=fG rs++[(x.D,WA W)]:=λx W=>by
      have:fG (gQ (y,Wj) j rs++[(x,W)])=fG (gQ (y,Wj) j rs)++[(x.D,WA W)]:=by simp[fG]
      rw[this,hmap]
     split at h
     .obtain⟨x,W,h,hp,hop⟩:=hs _ κ' _ _ _ _ _ hok h
      obtain⟨hW,h9⟩:=aHH h;subst hW;clear h;have e3:=EF hs hpn h1 h2 hpl hHL rest (i+1) _ k r κ' h9 (by simp[hlen]) hn' (push hG1 (by
       refine⟨hb,?_⟩;cases x with
       |bit j q=>cases hp
       |eO k c y=>cases hp
       |_=>exact r7))
      rw[hsnoc]at e3;refine .inl ⟨(X.eO key b x).D,WA [],?_,rfl,e3⟩;cases hbb:b with
      |false=>rw[hbb]at hoff;exact hoff rfl
      |true=>rw[hbb]at hgd hop hle;exact .inl ⟨hgd rfl,hle (hop (λkey' c' h=>by cases h;rfl))⟩
     .rcases xV h with⟨hb',h⟩|⟨hb',h⟩
      .obtain⟨x,W,h,hp,hop⟩:=hs _ κ' _ _ _ _ _ hok h
       split at h
       case h_2=>cases h
       rename_i hW;have e3:=EF hs hpn h1 h2 hpl hHL rest (i+1) _ k r κ' h (by simp[hlen]) hn' (push hG1 (Di hp));rw[hsnoc]at e3;exact .inl ⟨x.D,WA W,.inl ⟨hgd hb',hle (hop (λkey' c' h=>by cases h;exact hb'))⟩,aIc hW,e3⟩
      .have e3:=EF hs hpn h1 h2 hpl hHL rest (i+1) _ k r κ' h (by simp[hlen]) hn' (push hG1 r7)
       rw[hsnoc]at e3;exact .inl ⟨_,_,hoff hb',rfl,e3⟩
end
theorem aHi{ops:Array Oper}{fr:Nat}:∀(l:List Oper)(i:Nat)(rs:Rx)(T:XT)(H:XH)(k:XT->XH->O)(r:aC)(s:St),(∀q o,l[q]?=some o->Region.eV ops (i+q)=o.dst)->l.length=rs.length->O4 l rs T H k=some r->gG T H s->
    ∃T' H',k T' H'=some r/\gG T' H' (cF ops fr (λ_=>true) i (fG rs) s)
 |[],i,[],T,H,k,r,s,_,_,h,hL=>⟨T,H,h,hL⟩
 |[],i,_::_,T,H,k,r,s,_,hl,h,hL=>by cases hl
 |_::_,i,[],T,H,k,r,s,_,hl,h,hL=>by cases hl
 |o::l,i,(x,W)::rs,T,H,k,r,s,hd,hl,h,hL=>by
   unfold O4 at h;obtain⟨T',h,hT⟩:=D3 h;obtain⟨H',h,hH⟩:=Au h;have hd0:=hd 0 o rfl;rw[Nat.add_zero]at hd0;obtain⟨T2,H2,e1,e2⟩:=aHi (fr:=fr) l (i+1) rs T' H' k r (s.aZ o.dst x.D (WA W) (fr+8*i)) (λq o' hq=>by have:=hd (q+1) o' (by simpa using hq);rwa [show i+(q+1)=i+1+q by omega]at this) (by simpa using hl) h (hL.aZ hT hH);refine⟨T2,H2,e1,?_⟩;simp only[fG,iN];unfold cF;rw[hd0];simpa[fG]using e2
end Go.Ax
