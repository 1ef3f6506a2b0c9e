/- The abstract machine, run: data with types, states as lists, regions. Conditions are in the theorems. -/
import Derived.Test.YtlhdefefoaldfaaGreatDoorE3
import Derived.KernelRfl
open Bool renaming and_eq_true->bM,or_eq_false_iff->aNF
open List renaming all_eq_true->eI,flatMap->iY,length->gW,length_cons->dD,map_append->rG,map_cons->iB,mem_cons->eP,mem_cons_of_mem->eY,mem_cons_self->gN,range->pX,replicate->e9
open Nat renaming beq->bR,ble->kQ,blt->rE,eq_of_beq_eq_true->cA,one_pos->Rz
open Option renaming bind_eq_some_iff->lH,map_eq_some_iff->cV
open Option.some renaming inj->fV
open Prod.mk renaming inj->a9u
open True renaming intro->sX
open UInt8 renaming toNat->aAe
/- The abstract machine, run: data with types, states as lists, and one function that runs code on them and says what is left to be shown. -/
namespace Go.Ax
open Go.RowKit Go.Ab
inductive Ex where
 |mk (op n:Int) (kids:List Ex)
def Ex.op:Ex->Int|.mk a _ _=>a
def Ex.num:Ex->Int|.mk _ a _=>a
def Ex.kids:Ex->List Ex|.mk _ _ a=>a
inductive Ty where
 |i (k:IntKind)
 |u8|bo|tx|ex
 |sl (e:Ty)
 |pr (x y:Ty)
def Ty.V:Ty->Type
 |.i _=>Int
 |.u8=>UInt8
 |.bo=>Bool
 |.tx=>List UInt8
 |.ex=>Ex
 |.sl e=>List e.V
 |.pr x y=>x.V×y.V
def iI:(a b:Ty)->Option (PLift (a=b))
 |.i k,.i k'=>if h:k=k' then some ⟨by rw[h]⟩else none
 |.u8,.u8=>some ⟨rfl⟩
 |.bo,.bo=>some ⟨rfl⟩
 |.tx,.tx=>some ⟨rfl⟩
 |.ex,.ex=>some ⟨rfl⟩
 |.sl a,.sl b=>match iI a b with|some ⟨h⟩=>some ⟨by rw[h]⟩|none=>none
 |.pr a b,.pr c d=>match iI a c with
   |some ⟨h⟩=>match iI b d with|some ⟨g⟩=>some ⟨by rw[h,g]⟩|none=>none
   |none=>none
 |_,_=>none
def oI{a b:Ty}(h:a=b)(x:a.V):b.V:=h ▸ x
def Ty.size:Ty->Nat
 |.pr a b=>a.size+b.size
 |.ex=>3
 |_=>1
def Ty.one:Ty->Bool
 |.pr _ _=>false
 |.ex=>false
 |_=>true
def Ty.zero:(τ:Ty)->τ.V
 |.i _=>(0:Int)
 |.u8=>(0:UInt8)
 |.bo=>false
 |.tx=>([]:List UInt8)
 |.ex=>Ex.mk 0 0 []
 |.sl _=>[]
 |.pr a b=>(a.zero,b.zero)
inductive X where
 |e (τ:Ty) (x:τ.V)
 |cC
 |agg (xs:List X)
 |bD (xs:List X)
 |own (k:Nat)
 |ref (k off:Nat)
 |rr (k i j s:Nat)
 |pt (τ:Ty) (y:τ.V) (j:Nat)
 |fn (f:FuncId) (xs:List X)
 |v (val:Value)
 |bit (j:Nat) (q:Bool)
 |eX (key:Nat) (c:Bool) (x:X)
 |sub (k i:Nat)
 |jH (k i j:Nat)
 |vw (k i n s:Nat)
 |via (k j:Nat)
 |dY (val:Value)
inductive XO where
 |box (e:TypeId) (xs:List X)
 |row (e:TypeId) (τ:Ty) (l:List τ.V) (st:Bool)
 |nest (e e':TypeId) (τ:Ty) (l:List (List τ.V))
 |mp (τ:Ty) (l:List (τ.V×X))
 |it (s:List UInt8) (pos:Int)
 |dZ (e e':TypeId) (κ ρ:Ty) (l:List (List κ.V×ρ.V)) (ln:Option (Int×Nat))
abbrev XT:=List (Nat×X)
abbrev XH:=List (Nat×XO)
abbrev Wx:=List (Nat×Option XO)
abbrev aE:=X×XH
abbrev O:=Option aE
structure Sg where
 T:XT
 H:XH
 N:Nat
abbrev bK:=List X->XH->Option (Bool×aE)
abbrev kT:=List X->XH->Option (Bool×Option Bool×aE×aE)
structure Cx where
 P:Program
 ex:TypeId
 G:List (Nat×bK)
 Gp:List (Nat×kT)
class aA where
 br:Bool->O->O->O
 ck:Bool->O->O
 gx:{α:Type}->List α->Int->(α->O)->O
 gn:{α:Type}->List α->Nat->(α->O)->O
 gc:{α:Type}->Bool->α->List α->Int->(α->O)->O
open aA
def br0(b:Bool)(x y:O):O:=match b with|true=>x|false=>y
def ck0(b:Bool)(x:O):O:=match b with|true=>x|false=>none
def FT{α:Type}(l:List α)(n:Int)(k:α->O):O:=match(if n<0 then none else l[n.toNat]?)with|some y=>k y|none=>none
def J7{α:Type}(l:List α)(n:Nat)(k:α->O):O:=match l[n]? with|some y=>k y|none=>none
def Zl{α:Type}(c:Bool)(z:α)(l:List α)(n:Int)(k:α->O):O:=match c with|true=>FT l n k|false=>k z
section
variable[aA]
def lF(g:Option Bool)(b:Bool)(k:O):O:=match g with |none=>ck b k |some c=>ck (!c||b) k
def yT(g:Option Bool)(τ:Ty)(l:List τ.V)(n:Int)(k:τ.V->O):O:=match g with|none=>gx l n k|some c=>gc c τ.zero l n k
def ob{α:Type}(x:Option α)(k:α->O):O:=match x with|some y=>k y|none=>none
def lk{α:Type}(k:Nat):List (Nat×α)->Option α
 |[]=>none
 |(k',x)::l=>match bR k' k with|true=>some x|false=>lk k l
def k9{α β:Type}(k:Nat)(x:α):List (Nat×α)->(List (Nat×α)->Option β)->Option β
 |[],f=>f [(k,x)]
 |(k',y)::l,f=>match bR k' k with
   |true=>f ((k,x)::l)
   |false=>k9 k x l λl'=>f ((k',y)::l')
def sT{α β:Type}(k:Nat):List (Nat×α)->(List (Nat×α)->Option β)->Option β
 |[],f=>f []
 |(k',y)::l,f=>match bR k' k with
   |true=>sT k l f
   |false=>sT k l λl'=>f ((k',y)::l')
def u5(dst:Option Tmp)(x:X)(T:XT)(f:XT->O):O:=match dst with|none=>f T|some t=>k9 t x T f
def pD:Wx->XH->(XH->O)->O
 |[],H,f=>f H
 |(k,some o)::W,H,f=>pD W H λH'=>k9 k o H' f
 |(k,none)::W,H,f=>pD W H λH'=>sT k H' f
def yZ:(τ:Ty)->τ.V->List X
 |.pr a b,x=>yZ a x.1++yZ b x.2
 |.ex,x=>[.e (.i .i64) (Ex.op x),.e (.i .i64) (Ex.num x),.e (.sl .ex) (Ex.kids x)]
 |.i k,x=>[.e (.i k) x]
 |.u8,x=>[.e .u8 x]
 |.bo,x=>[.e .bo x]
 |.tx,x=>[.e .tx x]
 |.sl t,x=>[.e (.sl t) x]
def iO(τ:Ty)(x:τ.V):X:=match τ.one with|true=>.e τ x|false=>.agg (yZ τ x)
def one?(τ:Ty):X->Option τ.V
 |.e τ' x=>match iI τ' τ with|some ⟨h⟩=>some (oI h x)|none=>none
 |.cC=>match τ with|.sl _=>some []|_=>none
 |_=>none
def qS:(τ:Ty)->List X->Option (τ.V×List X)
 |.pr a b,xs=>match qS a xs with
   |some (x,r)=>match qS b r with
     |some (y,r')=>some ((x,y),r')
     |none=>none
   |none=>none
 |.ex,a::b::c::r=>match one? (.i .i64) a with
   |some x=>match one? (.i .i64) b with
     |some y=>match one? (.sl .ex) c with
       |some z=>some (Ex.mk x y z,r)
       |none=>none
     |none=>none
   |none=>none
 |.ex,_=>none
 |.i k,x::r=>match one? (.i k) x with|some y=>some (y,r)|none=>none
 |.i _,[]=>none
 |.u8,x::r=>match one? .u8 x with|some y=>some (y,r)|none=>none
 |.u8,[]=>none
 |.bo,x::r=>match one? .bo x with|some y=>some (y,r)|none=>none
 |.bo,[]=>none
 |.tx,x::r=>match one? .tx x with|some y=>some (y,r)|none=>none
 |.tx,[]=>none
 |.sl t,x::r=>match one? (.sl t) x with|some y=>some (y,r)|none=>none
 |.sl _,[]=>none
def X.cells:X->List X
 |.agg xs=>xs
 |x=>[x]
def yS(τ:Ty)(xs:List X):Option τ.V:=match qS τ xs with|some (y,[])=>some y|_=>none
def jG(τ:Ty)(x:X):Option τ.V:=match τ.one with
 |true=>one? τ x
 |false=>match x with|.agg xs=>yS τ xs|_=>none
def oK:(τ:Ty)->τ.V->(j m:Nat)->((τ':Ty)->τ'.V->O)->O
 |.pr a b,x,j,m,k=>match bR j 0&&bR m (a.size+b.size)with
   |true=>k (.pr a b) x
   |false=>match rE j a.size with
     |true=>oK a x.1 j m k
     |false=>oK b x.2 (j-a.size) m k
 |.ex,x,j,m,k=>match j,m with
   |0,3=>k .ex x
   |0,1=>k (.i .i64) (Ex.op x)
   |1,1=>k (.i .i64) (Ex.num x)
   |2,1=>k (.sl .ex) (Ex.kids x)
   |_,_=>none
 |τ,x,j,m,k=>match bR j 0&&bR m 1 with
   |true=>k τ x
   |false=>none
def setAt:(τ:Ty)->τ.V->(j m:Nat)->List X->(τ.V->O)->O
 |.pr a b,x,j,m,xs,k=>match bR j 0&&bR m (a.size+b.size)with
   |true=>ob (yS (.pr a b) xs) k
   |false=>match rE j a.size with
     |true=>setAt a x.1 j m xs λy=>k (y,x.2)
     |false=>setAt b x.2 (j-a.size) m xs λy=>k (x.1,y)
 |.ex,_,j,m,xs,k=>match j,m with
   |0,3=>ob (yS .ex xs) k
   |_,_=>none
 |τ,_,j,m,xs,k=>match bR j 0&&bR m 1 with
   |true=>ob (yS τ xs) k
   |false=>none
def JS:List Ty->Option Ty
 |[]=>none
 |[a]=>some a
 |a::l=>match JS l with|some r=>some (.pr a r)|none=>none
def yM{α β:Type}(f:α->Option β):List α->Option (List β)
 |[]=>some []
 |x::l=>match f x with
   |some y=>match yM f l with|some r=>some (y::r)|none=>none
   |none=>none
def Ew{α:Type}(x:α):Nat->List α
 |0=>[]
 |n+1=>x::Ew x n
def QN(P:Program)(ex:TypeId):Nat->TypeId->Option Ty
 |0,_=>none
 |n+1,t=>match bR t ex with
   |true=>some .ex
   |false=>match P.underlying t with
     |some (.int .u8)=>some .u8
     |some (.int k)=>some (.i k)
     |some .bool=>some .bo
     |some .string=>some .tx
     |some (.slice e)=>match QN P ex n e with|some τ=>some (.sl τ)|none=>none
     |some (.struct fs)=>match yM (λf=>QN P ex n f.type) fs.toList with|some l=>JS l|none=>none
     |some (.array m e)=>match QN P ex n e with|some τ=>JS (Ew τ m)|none=>none
     |_=>none
def Cx.ty(c:Cx)(t:TypeId):Option Ty:=QN c.P c.ex 12 t
def iP(P:Program)(t:TypeId):Option Nat:=(P.info? t).map (·.size)
def aMC(P:Program)(t:TypeId):Option TypeId:=match P.underlying t with|some (.slice e)=>some e|_=>none
def oA:Value->X
 |.int .u8 n=>match decide (0<=n/\n<256)with|true=>.e .u8 (UInt8.ofNat n.toNat)|false=>.v (.int .u8 n)
 |.int k n=>.e (.i k) n
 |.bool b=>.e .bo b
 |.string s=>.e .tx s.data.toList
 |.slice none 0 0=>.cC
 |w=>.v w
def sJ:Value->Option X
 |.agg cs=>match cs.toList.all (·.oneCell')with|true=>some (.agg (cs.toList.map oA))|false=>none
 |.tuple _=>none
 |w=>some (oA w)
def J8(g:Nat):X:=match g with
 |0=>.pt (.pr .u8 (.pr .u8 (.pr .u8 (.pr .u8 (.pr .u8 (.pr .u8 (.pr .u8 (.pr .u8 (.pr .u8 .u8))))))))) ((26:UInt8),(1:UInt8),(3:UInt8),(9:UInt8),(25:UInt8),(17:UInt8),(11:UInt8),(27:UInt8),(19:UInt8),(10:UInt8)) 0
 |1=>.pt (.pr .u8 (.pr .u8 (.pr .u8 (.pr .u8 (.pr .u8 (.pr .u8 (.pr .u8 (.pr .u8 (.pr .u8 (.pr .u8 (.pr .u8 (.pr .u8 (.pr .u8 (.pr .u8 (.pr .u8 (.pr .u8 (.pr .u8 (.pr .u8 (.pr .u8 (.pr .u8 (.pr .u8 (.pr .u8 (.pr .u8 (.pr .u8 (.pr .u8 .u8))))))))))))))))))))))))) ((1:UInt8),(3:UInt8),(9:UInt8),(25:UInt8),(17:UInt8),(11:UInt8),(27:UInt8),(19:UInt8),(10:UInt8),(26:UInt8),(5:UInt8),(7:UInt8),(13:UInt8),(29:UInt8),(21:UInt8),(15:UInt8),(31:UInt8),(23:UInt8),(14:UInt8),(30:UInt8),(37:UInt8),(39:UInt8),(58:UInt8),(45:UInt8),(61:UInt8),(53:UInt8)) 0
 |2=>.pt (.pr .u8 (.pr .u8 (.pr .u8 (.pr .u8 (.pr .u8 (.pr .u8 (.pr .u8 (.pr .u8 (.pr .u8 .u8))))))))) ((22:UInt8),(36:UInt8),(33:UInt8),(12:UInt8),(24:UInt8),(54:UInt8),(42:UInt8),(28:UInt8),(55:UInt8),(62:UInt8)) 0
 |3=>.pt (.pr (.pr (.i .i64) (.pr (.i .i64) (.pr (.i .i64) .u8))) (.pr (.pr (.i .i64) (.pr (.i .i64) (.pr (.i .i64) .u8))) (.pr (.pr (.i .i64) (.pr (.i .i64) (.pr (.i .i64) .u8))) (.pr (.pr (.i .i64) (.pr (.i .i64) (.pr (.i .i64) .u8))) (.pr (.pr (.i .i64) (.pr (.i .i64) (.pr (.i .i64) .u8))) (.pr (.pr (.i .i64) (.pr (.i .i64) (.pr (.i .i64) .u8))) (.pr (.pr (.i .i64) (.pr (.i .i64) (.pr (.i .i64) .u8))) (.pr (.pr (.i .i64) (.pr (.i .i64) (.pr (.i .i64) .u8))) (.pr (.pr (.i .i64) (.pr (.i .i64) (.pr (.i .i64) .u8))) (.pr (.pr (.i .i64) (.pr (.i .i64) (.pr (.i .i64) .u8))) (.pr (.i .i64) (.pr (.i .i64) (.pr (.i .i64) .u8))))))))))))) (((0:Int),(999999:Int),(4:Int),(0:UInt8)),((0:Int),(25:Int),(4:Int),(0:UInt8)),((1:Int),(0:Int),(3:Int),(45:UInt8)),((2:Int),(0:Int),(1:Int),(43:UInt8)),((2:Int),(0:Int),(1:Int),(45:UInt8)),((2:Int),(0:Int),(2:Int),(42:UInt8)),((2:Int),(0:Int),(2:Int),(47:UInt8)),((2:Int),(0:Int),(3:Int),(94:UInt8)),((1:Int),(0:Int),(4:Int),(82:UInt8)),((2:Int),(0:Int),(0:Int),(61:UInt8)),((2:Int),(0:Int),(0:Int),(60:UInt8))) 0
 |g=>.v (.pointer (some ⟨g,0,none⟩))
structure Vw where
 T:Nat->Option X
 H:Nat->Option XO
 g:Option (Nat×Bool):=none
def u7(g:Option (Nat×Bool)):X->Option X
 |.bit _ q=>some (.e .bo q)
 |.eX key _ x=>match g with
   |some (key',_)=>match bR key key' with
     |true=>match x with|.bit _ q=>some (.e .bo q)|.eX ..=>none|x=>some x
     |false=>none
   |none=>none
 |x=>some x
def Vw.ev(σ:Vw):Operand->Option X
 |.tmp t=>match σ.T t with|some x=>u7 σ.g x|none=>none
 |.const w=>sJ w
 |.func f=>some (.fn f [])
 |.global g=>some (J8 g)
def Vw.vK(σ:Vw):List Operand->(List X->O)->O
 |[],k=>k []
 |x::l,k=>ob (σ.ev x) λy=>σ.vK l λys=>k (y::ys)
def Vw.lD(σ:Vw):X->X
 |.own q=>match σ.H q with|some (.row _ τ l true)=>.e (.sl τ) l|_=>.own q
 |x=>x
def Vw.qW(σ:Vw):X->X
 |.agg xs=>.agg (xs.map σ.lD)
 |x=>σ.lD x
def Vw.src(σ:Vw)(τ:Ty):X->Option (List τ.V)
 |.own q=>match σ.H q with
   |some (.row _ τ' l _)=>match iI τ' τ with|some ⟨h⟩=>some (oI (bE Ty.sl h) l)|none=>none
   |_=>none
 |x=>one? (.sl τ) x
def Vw.len(σ:Vw):X->(Int->O)->O
 |.own q,k=>match σ.H q with|some (.row _ _ l _)=>k l.length|some (.nest _ _ _ l)=>k (gW l)|some (.dZ _ _ _ _ l _)=>k (gW l)|_=>none
 |.sub q i,k=>match σ.H q with|some (.nest _ _ _ l)=>gn l i λr=>k (gW r)|_=>none
 |.e (.sl _) l,k=>k (gW l)
 |.cC,k=>k 0
 |_,_=>none
def Z6(c:Cx)(σ:Vw)(t:TypeId)(v:X)(k:X->O):O:=match c.P.underlying t,v with
 |some (.slice _),v=>σ.len v λn=>k (.e (.i .i64) n)
 |some .string,.e .tx l=>k (.e (.i .i64) (gW (α:=UInt8) l:Int))
 |_,_=>none
def Yw:Operand->Operand->Bool
 |.tmp a,.tmp b=>bR a b
 |.const (.int k a),.const (.int k' b)=>decide (k=k')&&a == b
 |_,_=>false
def aM9(q x:Bool)(k:X->O):O:=k (.e .bo (q&&x))
def orX(q x:Bool)(k:X->O):O:=k (.e .bo (q||x))
def Vw.FX(σ:Vw)(key:Nat):Operand->Option X
 |.tmp t=>match σ.T t with
   |some (.eX key' _ x)=>match bR key' key with
     |true=>match x with|.bit _ q=>some (.e .bo q)|.eX ..=>none|x=>some x
     |false=>u7 σ.g (.eX key' true x)
   |some x=>u7 σ.g x
   |none=>none
 |x=>σ.ev x
def Vw.aAT(σ:Vw):Operand->Option (Nat×Bool)
 |.tmp t=>match σ.T t with
   |some (.bit j q)=>some (j,q)
   |some (.eX key _ (.bit j q))=>match σ.g with
     |some (key',_)=>match bR key key' with|true=>some (j,q)|false=>none
     |none=>none
   |_=>none
 |_=>none
def Yr(σ:Vw)(b x y:Operand)(k:X->O):O:=match σ.aAT b with
 |some (j,q)=>ob (σ.FX (2*j+1) x) λv=>ob (σ.FX (2*j) y) λv'=>match v,v' with
   |.e .bo a,.e .bo a'=>match y,x with
     |.const (.bool false),_=>aM9 q a k
     |_,.const (.bool true)=>orX q a' k
     |_,_=>br q (k v) (k v')
   |v,v'=>br q (k v) (k v')
 |none=>ob (σ.ev b) λv=>match v with
   |.e .bo q=>br q (ob (σ.ev x) k) (ob (σ.ev y) k)
   |.v (.bool true)=>ob (σ.ev x) k
   |.v (.bool false)=>ob (σ.ev y) k
   |_=>none
def cF(n b:Nat):Bool:=decide (n*b<=140737488355328/\n<=140737488355327)
def aM0(op:BinOp)(m n:Bool)(k:X->O):O:=match op with
 |.eql=>k (.e .bo (m == n))
 |.neq=>k (.e .bo (!(m == n)))
 |_=>none
def aLC(ik:IntKind)(n:Int)(k:X->O):O:=k (.e (.i ik) (ik.wrap (-n)))
def aKw(q:Bool)(k:X->O):O:=k (.e .bo (!q))
def J0(τ:Ty)(e:TypeId)(fr b:Nat)(st:Bool)(z:Int)(k:X->Wx->O):O:=ck (decide (0<=z)) (ck (cF z.toNat b) (k (.own fr) [(fr,some (.row e τ (e9 z.toNat τ.zero) st))]))
def bytesOf(x:List UInt8):(τ:Ty)->Option (List τ.V)
 |.u8=>some x
 |_=>none
def aA7(τ:Ty)(e:TypeId)(fr bt:Nat)(gone:Wx)(st:Bool)(l l':List τ.V)(k:X->Wx->O):O:=ck (cF (l++l').length bt) (k (.own fr) ((fr,some (.row e τ (l++l') st))::gone))
def RA(m n:Int)(k:X->O):O:=k (.e (.i .i64) (max m n:Int))
def aLG(m n:Int)(k:X->O):O:=k (.e (.i .i64) (min m n:Int))
def eD(n:Int):UInt8:=UInt8.ofNat (n%256).toNat
def Za(g:Option Bool)(op:BinOp)(ik:IntKind)(m n:Int)(k:X->O):O:=match op with
 |.add=>k (.e (.i ik) (ik.wrap (m+n)))
 |.sub=>k (.e (.i ik) (ik.wrap (m-n)))
 |.mul=>k (.e (.i ik) (ik.wrap (m*n)))
 |.quo=>lF g (decide (n≠0)) (k (.e (.i ik) (ik.wrap (m.tdiv n))))
 |.rem=>lF g (decide (n≠0)) (k (.e (.i ik) (m.tmod n)))
 |.lss=>k (.e .bo (decide (m<n)))
 |.leq=>k (.e .bo (decide (m<=n)))
 |.gtr=>k (.e .bo (decide (n<m)))
 |.geq=>k (.e .bo (decide (n<=m)))
 |.eql=>k (.e .bo (decide (m=n)))
 |.neq=>k (.e .bo (decide (m≠n)))
 |_=>none
def a7W:BinOp->Bool
 |.shl=>true
 |.shr=>true
 |_=>false
def Y6(g:Option Bool)(op:BinOp)(ik:IntKind)(m n:Int)(k:X->O):O:=match op with
 |.shl=>lF g (decide (0<=n)) (k (.e (.i ik) (ik.wrap (m*2^(min n.toNat ik.bits)))))
 |.shr=>lF g (decide (0<=n)) (k (.e (.i ik) (m.fdiv (2^(min n.toNat ik.bits)))))
 |_=>none
def YG(op:BinOp)(m n:UInt8)(k:X->O):O:=match op with
 |.add=>k (.e .u8 (m+n))
 |.sub=>k (.e .u8 (m-n))
 |.lss=>k (.e .bo (decide (m<n)))
 |.leq=>k (.e .bo (decide (m<=n)))
 |.gtr=>k (.e .bo (decide (n<m)))
 |.geq=>k (.e .bo (decide (n<=m)))
 |.eql=>k (.e .bo (decide (m=n)))
 |.neq=>k (.e .bo (decide (m≠n)))
 |_=>none
def YJ(g:Option Bool)(op:BinOp)(m n:List UInt8)(k:X->O):O:=match op with
 |.add=>lF g (decide ((m.length:Int)+n.length<=9223372036854775807)) (k (.e .tx (m++n)))
 |.eql=>k (.e .bo (decide (m=n)))
 |.neq=>k (.e .bo (decide (m≠n)))
 |_=>none
def aAU(P:Program)(g:Option Bool)(op:BinOp)(xt:TypeId)(x y:X)(k:X->O):O:=match x,y with
 |.e (.i ik) m,.e (.i ik') n=>match a7W op with
   |true=>Y6 g op ik m n k
   |false=>match decide (ik=ik')with|true=>Za g op ik m n k|false=>none
 |.e .u8 m,.e .u8 n=>YG op m n k
 |.e .tx m,.e .tx n=>YJ g op m n k
 |.e .bo m,.e .bo n=>match P.underlying xt with
   |some .bool=>aM0 op m n k
   |_=>none
 |_,_=>none
def ZH(P:Program)(t:TypeId)(op:BinOp)(v w:X)(y:Operand):Option Bool:=match v with
 |.v .nilIface=>match w,y,P.underlying t with
   |.v .nilIface,.const _,some (.interface _)=>(match op with|.eql=>some true|.neq=>some false|_=>none)
   |_,_,_=>none
 |_=>none
def asInt(x:X)(k:Int->O):O:=match x with
 |.e (.i _) n=>k n
 |.e .u8 c=>k (aAe c:Int)
 |_=>none
def Vw.lB(σ:Vw):Option Operand->(Option Int->O)->O
 |none,f=>f none
 |some x,f=>ob (σ.ev x) λw=>asInt w λn=>f (some n)
def R8(P:Program)(s d:TypeId)(x:X)(k:X->O):O:=match P.underlying s,P.underlying d,x with
 |some _,some (.int .u8),.e (.i _) m=>k (.e .u8 (eD m))
 |some _,some (.int .u8),.e .u8 c=>k (.e .u8 c)
 |some _,some (.int kd),.e (.i _) m=>k (.e (.i kd) (kd.wrap m))
 |some _,some (.int kd),.e .u8 c=>k (.e (.i kd) (kd.wrap (aAe c:Int)))
 |_,_,_=>none
def yW{α:Type}:Nat->List α->List α
 |0,l=>l
 |_+1,[]=>[]
 |n+1,_::l=>yW n l
def u9{α:Type}:Nat->List α->List α
 |0,_=>[]
 |_+1,[]=>[]
 |n+1,x::l=>x::u9 n l
def lA{α:Type}:List α->Nat->List α->List α
 |l,0,[]=>l
 |_::l,0,y::new=>y::lA l 0 new
 |[],_,_=>[]
 |x::l,n+1,new=>x::lA l n new
def ZY(c:Cx)(σ:Vw)(t:TypeId)(a:X)(k:X->O):O:=match kI c.P t,iP c.P t with
 |some rw,some m=>match a with
   |.ref q off=>match σ.H q with
     |some (.box _ xs)=>match rw with
       |true=>match bR (u9 m (yW off xs)).length m with|true=>k (.agg (u9 m (yW off xs)))|false=>none
       |false=>ob xs[off]? k
     |_=>none
   |.rr q i j s=>match σ.H q with
     |some (.row _ τ l _)=>match bR s τ.size with
       |true=>gn l i λy=>oK τ y j m λτ' y'=>match rw,τ'.one with
         |true,false=>k (.agg (yZ τ' y'))
         |false,true=>k (.e τ' y')
         |_,_=>none
       |false=>none
     |some (.nest _ _ _ l)=>match rw,bR j 0&&bR s 1 with
       |false,true=>gn l i λ_=>k (.sub q i)
       |_,_=>none
     |some (.dZ _ _ _ ρ l ln)=>match bR s (1+ρ.size)with
       |true=>match bR j 0 with
         |true=>match rw,ln with
           |false,some (i',q')=>ck (decide (i=i'.toNat)) (gn l i λ_=>k (.own q'))
           |_,_=>none
         |false=>gn l i λy=>oK ρ y.2 (j-1) m λτ' y'=>match rw,τ'.one with
           |true,false=>k (.agg (yZ τ' y'))
           |false,true=>k (.e τ' y')
           |_,_=>none
       |false=>none
     |_=>none
   |.jH q i j=>match σ.H q with
     |some (.nest _ _ τ l)=>match rw,τ.one with
       |false,true=>gn l i λr=>gn r j λy=>k (.e τ y)
       |_,_=>none
     |_=>none
   |.pt τ y j=>oK τ y j m λτ' y'=>match rw,τ'.one with
     |true,false=>k (.agg (yZ τ' y'))
     |false,true=>k (.e τ' y')
     |_,_=>none
   |_=>none
 |_,_=>none
def YK(c:Cx)(σ:Vw)(t:TypeId)(a y:X)(k:X->Wx->O):O:=match iP c.P t with
 |some m=>match bR y.cells.length m&&rE 0 m with
   |true=>match a with
     |.ref q off=>match σ.H q with
       |some (.box e xs)=>match kQ (off+m) xs.length with
         |true=>k (.bD []) [(q,some (.box e (lA xs off y.cells)))]
         |false=>none
       |_=>none
     |.rr q i j s=>match σ.H q with
       |some (.row e τ l false)=>match bR s τ.size with
         |true=>gn l i λz=>setAt τ z j m (σ.qW y).cells λz'=>k (.bD []) [(q,some (.row e τ (l.set i z') false))]
         |false=>none
       |_=>none
     |_=>none
   |false=>none
 |none=>none
def c8{α:Type}(l:List α)(lo hi:Option Int):List α:=match lo,hi with
 |none,none=>l
 |some a,none=>l.drop a.toNat
 |none,some b=>l.take b.toNat
 |some a,some b=>(l.take b.toNat).drop a.toNat
def dX(n:Nat)(lo hi:Option Int):Bool:=match lo,hi with
 |none,none=>true
 |some a,none=>decide (0<=a/\a<=n)
 |none,some b=>decide (0<=b/\b<=n)
 |some a,some b=>decide (0<=a/\a<=b/\b<=n)
def Y0(τ:Ty)(g:Option Bool)(l:List τ.V)(lo hi:Option Int)(k:X->O):O:=lF g (dX l.length lo hi) (k (.e (.sl τ) (c8 l lo hi)))
def aKD(g:Option Bool)(l:List UInt8)(lo hi:Option Int)(k:X->O):O:=lF g (dX l.length lo hi) (k (.e .tx (c8 l lo hi)))
def n5(τ:Ty):Nat->(σ:Ty)->σ.V->Option (List τ.V)
 |0,_,_=>none
 |1,σ,y=>match iI σ τ with|some ⟨h⟩=>some [oI h y]|none=>none
 |n+2,.pr a b,y=>match iI a τ with
   |some ⟨h⟩=>match n5 τ (n+1) b y.2 with|some l=>some (oI h y.1::l)|none=>none
   |none=>none
 |_+2,_,_=>none
def Y5(c:Cx)(t:TypeId)(a:X)(k:X->O):O:=match c.P.underlying t with
 |some (.array n e)=>match a with
   |.pt σ y 0=>match c.ty e with
     |some τ=>match iP c.P e with
       |some m=>match bR m τ.size with
         |true=>match n5 τ n σ y with
           |some l=>match bR l.length n with|true=>k (.e (.sl τ) l)|false=>none
           |none=>none
         |false=>none
       |none=>none
     |none=>none
   |_=>none
 |_=>none
def QV(c:Cx)(σ:Vw)(t:TypeId)(a:X)(lo hi:Option Int)(k:X->O):O:=match c.P.underlying t,σ.lD a with
 |some (.slice e),.e (.sl τ) l=>match iP c.P e with
   |some m=>match bR m τ.size with|true=>Y0 τ (σ.g.map (·.2)) l lo hi k|false=>none
   |none=>none
 |some .string,.e .tx l=>aKD (σ.g.map (·.2)) l lo hi k
 |_,_=>none
def Z1:Option Int->Nat
 |none=>0
 |some a=>a.toNat
def hiV(n:Nat):Option Int->Nat
 |none=>n
 |some b=>b.toNat
def Y4(c:Cx)(σ:Vw)(t:TypeId)(q:Nat)(τ:Ty)(l:List τ.V)(lo hi:Option Int)(k:X->Wx->O):O:=match c.P.underlying t with
 |some (.slice e)=>match iP c.P e with
   |some m=>match bR m τ.size with
     |true=>lF (σ.g.map (·.2)) (dX l.length lo hi) (k (.vw q (Z1 lo) (hiV l.length hi-Z1 lo) m) [])
     |false=>none
   |none=>none
 |_=>none
def aAK(_c:Cx)(_σ:Vw)(_t:TypeId)(_v _w:X)(_k:X->Wx->O):O:=none
def X.val:X->Bool
 |.e τ _=>τ.one
 |.bD _=>false
 |.eX ..=>false
 |.bit ..=>false
 |.dY _=>false
 |_=>true
def RC(τ:Ty):List X->Option (List τ.V)
 |[]=>some []
 |x::r=>match one? τ x with
   |some y=>match RC τ r with|some l=>some (y::l)|none=>none
   |none=>none
def Zd(c:Cx)(σ:Vw)(t:TypeId)(a:X)(x:X)(k:X->O):O:=asInt x λn=>match a with
 |.e (.sl τ) l=>match sS c.P t with
   |some s=>match bR s τ.size with
     |true=>yT (σ.g.map (·.2)) τ l n λy=>k (.pt τ y 0)
     |false=>none
   |none=>none
 |.own q=>match σ.H q,sS c.P t with
   |some (.row _ τ l st),some s=>match bR s τ.size with
     |true=>match st with
       |true=>yT (σ.g.map (·.2)) τ l n λy=>k (.pt τ y 0)
       |false=>lF (σ.g.map (·.2)) (decide (0<=n/\n<l.length)) (k (.rr q n.toNat 0 s))
     |false=>none
   |some (.nest _ _ _ l),some s=>match bR s 1 with
     |true=>ck (decide (0<=n/\n<l.length)) (k (.rr q n.toNat 0 s))
     |false=>none
   |some (.dZ _ _ _ ρ l _),some s=>match bR s (1+ρ.size)with
     |true=>lF (σ.g.map (·.2)) (decide (0<=n/\n<gW l)) (k (.rr q n.toNat 0 s))
     |false=>none
   |_,_=>none
 |.sub q i=>match σ.H q,sS c.P t with
   |some (.nest _ _ _ l),some s=>match bR s 1 with
     |true=>gn l i λr=>ck (decide (0<=n/\n<r.length)) (k (.jH q i n.toNat))
     |false=>none
   |_,_=>none
 |.ref q off=>match CP c.P t with
   |some (m,s)=>match decide (0<=n/\n<m)with
     |true=>k (.ref q (off+n.toNat*s))
     |false=>none
   |none=>none
 |.pt ρ y 0=>match c.P.underlying t,CP c.P t with
   |some (.array _ e),some (m,s)=>match c.ty e with
     |some τ=>match n5 τ m ρ y with
       |some l=>match bR s τ.size&&bR l.length m with
         |true=>yT (σ.g.map (·.2)) τ l n λy=>k (.pt τ y 0)
         |false=>none
       |none=>none
     |none=>none
   |_,_=>none
 |_=>none
def Zb(c:Cx)(t:TypeId)(g:Option Bool)(a:X)(x:X)(k:X->O):O:=asInt x λn=>match c.P.underlying t,a with
 |some .string,.e .tx l=>yT g .u8 l n λc=>k (.e .u8 c)
 |some (.array m e),.agg (.e τ y::r)=>match τ.one&&bR m (r.length+1),kI c.P e,iP c.P e with
   |true,some false,some 1=>ob (RC τ (.e τ y::r)) λl=>yT g τ l n λy=>k (.e τ y)
   |_,_,_=>none
 |_,_=>none
def Zc(c:Cx)(σ:Vw)(t:TypeId)(a:X)(x:X)(k:X->O):O:=asInt x λn=>match a with
 |.ref q off=>match CP c.P t with
   |some (m,s)=>lF (σ.g.map (·.2)) (decide (0<=n/\n<m)) (k (.ref q (off+n.toNat*s)))
   |none=>none
 |_=>none
def J2(τ:Ty):List X->Option (List τ.V)
 |[]=>some []
 |.e τ' x::r=>match iI τ' τ with
   |some ⟨h⟩=>match J2 τ r with|some l=>some (oI h x::l)|none=>none
   |none=>none
 |_::_=>none
def ZZ(c:Cx)(σ:Vw)(t:TypeId)(a:X)(k:X->O):O:=match kI c.P t,a with
 |some false,.ref q off=>match σ.H q with
   |some (.box _ (.e τ y::xs))=>match τ.one with
     |true=>ob (J2 τ (.e τ y::xs)) λl=>yT (σ.g.map (·.2)) τ l (off:Int) λy=>k (.e τ y)
     |false=>none
   |_=>none
 |_,_=>none
def Y9{α:Type}(b:Bool)(x y:α):α:=match b with|true=>x|false=>y
def x7(τ:Ty)(off:Nat)(z:τ.V):Nat->List τ.V->List X
 |_,[]=>[]
 |i,y::l=>.e τ (Y9 (bR off i) z y)::x7 τ off z (i+1) l
def YL(c:Cx)(σ:Vw)(t:TypeId)(a y:X)(k:X->Wx->O):O:=match iP c.P t,a,y with
 |some 1,.ref q off,.e τ z=>match τ.one with
   |true=>match σ.H q with
     |some (.box e xs)=>ob (J2 τ xs) λl=>ck (decide (off<l.length)) (k (.bD []) [(q,some (.box e (x7 τ off z 0 l)))])
     |_=>none
   |false=>none
 |_,_,_=>none
def aAJ(c:Cx)(σ:Vw)(fr:Nat)(t:TypeId)(q:Nat)(hi:Option Int)(k:X->Wx->O):O:=match c.P.underlying t,σ.H q,hi with
 |some (.slice e),some (.row e' τ l false),some n=>match iP c.P e with
   |some m=>match bR m τ.size with
     |true=>ck (decide (0<=n/\n<=l.length)) (k (.own fr) [(fr,some (.row e' τ (l.take n.toNat) false)),(q,none)])
     |false=>none
   |none=>none
 |_,_,_=>none
def CX:Option Int->Bool
 |none=>true
 |some n=>decide (n=0)
def Zu(c:Cx)(s:TypeId)(f:Nat)(a:X)(k:X->O):O:=ob (Jc c.P s f) λq=>match a with
 |.ref p off=>k (.ref p (off+q))
 |.rr p i j z=>k (.rr p i (j+q) z)
 |.pt τ y j=>k (.pt τ y (j+q))
 |_=>none
def Zt(c:Cx)(s:TypeId)(f:Nat)(a:X)(k:X->O):O:=match c.P.underlying s,a with
 |some (.struct fs),.agg xs=>match fs[f]? with
   |some fl=>match kI c.P fl.type,iP c.P fl.type with
     |some rw,some m=>match rw with
       |true=>match bR (u9 m (yW fl.offset xs)).length m with|true=>k (.agg (u9 m (yW fl.offset xs)))|false=>none
       |false=>ob xs[fl.offset]? k
     |_,_=>none
   |none=>none
 |_,_=>none
def wD(P:Program)(t:TypeId):Option X:=match(P.info? t).bind (·.zero)with|some z=>sJ z|none=>none
def places(P:Program)(t:TypeId):Option (List (Nat×Nat)):=match P.underlying t with
 |some (.struct fs)=>yM (λf=>match iP P f.type with|some m=>some (f.offset,m)|none=>none) fs.toList
 |some (.array n e)=>match iP P e with|some m=>some ((pX n).map λi=>(i*m,m))|none=>none
 |_=>none
def Jb(pl:List (Nat×Nat)):List X->List (Nat×X)->(List X->O)->O
 |cells,[],k=>k cells
 |cells,(i,x)::rest,k=>match pl[i]? with
   |some (off,m)=>match x.val&&bR x.cells.length m&&kQ (off+m) cells.length with
     |true=>Jb pl (lA cells off x.cells) rest k
     |false=>none
   |none=>none
def Vw.CH(σ:Vw):List (Nat×Operand)->(List (Nat×X)->O)->O
 |[],k=>k []
 |(i,x)::l,k=>ob (σ.ev x) λy=>σ.CH l λys=>k ((i,y)::ys)
def hM{α:Type}(x:α):Nat->List α->List α
 |_,[]=>[]
 |0,_::l=>x::l
 |n+1,y::l=>y::hM x n l
def CY(τ:Ty)(v:Value):Bool:=match τ with
 |.i k=>match v with|.int k' n=>decide (k=k')&&decide (n=0)|_=>false
 |.u8=>match v with|.int .u8 n=>decide (n=0)|_=>false
 |.bo=>match v with|.bool false=>true|_=>false
 |.tx=>match v with|.string s=>(match s.data.toList with|[]=>true|_=>false)|_=>false
 |.sl _=>match v with|.slice none 0 0=>true|_=>false
 |_=>false
def rN(τ:Ty):List Value->Option (List Value)
 |x::r=>match CY τ x with|true=>some r|false=>none
 |[]=>none
def CZ:Ty->List Value->Option (List Value)
 |.pr a b,l=>match CZ a l with|some l'=>CZ b l'|none=>none
 |.ex,l=>match rN (.i .i64) l with
   |some l=>match rN (.i .i64) l with
     |some l=>rN (.sl .ex) l
     |none=>none
   |none=>none
 |.i k,l=>rN (.i k) l
 |.u8,l=>rN .u8 l
 |.bo,l=>rN .bo l
 |.tx,l=>rN .tx l
 |.sl e,l=>rN (.sl e) l
def oL(c:Cx)(t:TypeId):Option (TypeId×Ty×Nat):=match aMC c.P t with
 |some e=>match c.ty e,c.P.info? e with
   |some τ,some i=>match i.zero with
     |some z=>match CZ τ z.cells.toList with
       |some []=>match bR i.size τ.size&&bR z.cells.size τ.size with|true=>some (e,τ,i.bytes)|false=>none
       |_=>none
     |none=>none
   |_,_=>none
 |none=>none
def Zh(τ:Ty)(e:TypeId)(fr bt q:Nat)(st:Bool)(l:List τ.V)(z:Int)(k:X->Wx->O):O:=ck (decide (0<=z)) (ck (cF (l.length+z.toNat) bt) (k (.own fr) [(fr,some (.row e τ (l++e9 z.toNat τ.zero) st)),(q,none)]))
def aA6(c:Cx)(σ:Vw)(fr:Nat)(st:Bool)(t t':TypeId)(x y:Operand)(k:X->Wx->O):O:=ob (oL c t) λp=>match p with
 |(e,τ,bt)=>ob (σ.ev x) λv=>ob (σ.ev y) λw=>match v,w,c.P.underlying t' with
   |.cC,.e (.i .i64) n,some (.int .i64)=>J0 τ e fr bt st n k
   |.own q,.e (.i .i64) n,some (.int .i64)=>match σ.H q with
     |some (.row e' τ' l st')=>match iI τ' τ with
       |some ⟨h⟩=>match bR e' e with
         |true=>Zh τ e fr bt q st' (oI (bE Ty.sl h) l) n k
         |false=>none
       |none=>none
     |_=>none
   |_,_,_=>none
def J1(τ:Ty)(σ:Vw):List τ.V->List (Nat×X)->(List τ.V->O)->O
 |l,[],k=>k l
 |l,(i,x)::rest,k=>match rE i l.length with
   |true=>ob (jG τ (σ.qW x)) λy=>J1 τ σ (hM y i l) rest k
   |false=>none
def ins(k:Nat):List Nat->List Nat
 |[]=>[k]
 |x::l=>match bR x k with|true=>x::l|false=>x::ins k l
mutual
def ZM:X->List Nat->List Nat
 |.own q,acc=>ins q acc
 |.ref q _,acc=>ins q acc
 |.rr q _ _ _,acc=>ins q acc
 |.sub q _,acc=>ins q acc
 |.jH q _ _,acc=>ins q acc
 |.vw q _ _ _,acc=>ins q acc
 |.via q _,acc=>ins q acc
 |.agg xs,acc=>kL xs acc
 |.bD xs,acc=>kL xs acc
 |.fn _ xs,acc=>kL xs acc
 |_,acc=>acc
def kL:List X->List Nat->List Nat
 |[],acc=>acc
 |x::l,acc=>kL l (ZM x acc)
end
def aLD{α:Type}:List (α×X)->List Nat->List Nat
 |[],acc=>acc
 |(_,x)::l,acc=>aLD l (ZM x acc)
def a66:XO->List Nat->List Nat
 |.box _ xs,acc=>kL xs acc
 |.row ..,acc=>acc
 |.nest ..,acc=>acc
 |.mp _ l,acc=>aLD l acc
 |.it ..,acc=>acc
 |.dZ _ _ _ _ _ ln,acc=>match ln with|some (_,q)=>ins q acc|none=>acc
def reach(H:Nat->Option XO):Nat->List Nat->List Nat->List Nat
 |0,_,acc=>acc
 |_+1,[],acc=>acc
 |n+1,q::todo,acc=>match H q with
   |some o=>reach H n (todo++(a66 o []).filter λx=>!(acc.contains x)&&!(todo.contains x)&&!(bR x q)) (acc++[q])
   |none=>reach H n todo (acc++[q])
def old(rn:List (Nat×Nat))(k:Nat):Option Nat:=match rn with
 |[]=>none
 |(new,o)::l=>match bR o k with|true=>some new|false=>old l k
mutual
def fS(f:Nat->Option Nat):X->Option X
 |.own q=>match f q with|some q'=>some (.own q')|none=>none
 |.ref q off=>match f q with|some q'=>some (.ref q' off)|none=>none
 |.rr q i j s=>match f q with|some q'=>some (.rr q' i j s)|none=>none
 |.agg xs=>match n8 f xs with|some ys=>some (.agg ys)|none=>none
 |.bD xs=>match n8 f xs with|some ys=>some (.bD ys)|none=>none
 |.fn g xs=>match n8 f xs with|some ys=>some (.fn g ys)|none=>none
 |.e τ x=>some (.e τ x)
 |.cC=>some .cC
 |.pt τ y j=>some (.pt τ y j)
 |.v w=>some (.v w)
 |.bit ..=>none
 |.eX ..=>none
 |.sub ..=>none
 |.jH ..=>none
 |.vw ..=>none
 |.via q j=>match f q with|some q'=>some (.via q' j)|none=>none
 |.dY ..=>none
def n8(f:Nat->Option Nat):List X->Option (List X)
 |[]=>some []
 |x::l=>match fS f x with
   |some y=>match n8 f l with|some r=>some (y::r)|none=>none
   |none=>none
end
def Q6{α:Type}(f:Nat->Option Nat):List (α×X)->Option (List (α×X))
 |[]=>some []
 |(a,x)::l=>match fS f x with
   |some y=>match Q6 f l with|some r=>some ((a,y)::r)|none=>none
   |none=>none
def sE(f:Nat->Option Nat):XO->Option XO
 |.nest e e' τ l=>some (.nest e e' τ l)
 |.mp τ l=>match Q6 f l with|some r=>some (.mp τ r)|none=>none
 |.it s pos=>some (.it s pos)
 |.box e xs=>match n8 f xs with|some ys=>some (.box e ys)|none=>none
 |.row e τ l st=>some (.row e τ l st)
 |.dZ e e' κ ρ l ln=>match ln with
   |none=>some (.dZ e e' κ ρ l none)
   |some (i,q)=>match f q with|some q'=>some (.dZ e e' κ ρ l (some (i,q')))|none=>none
def pI(f:Nat->Option Nat)(H:Nat->Option XO):List (Nat×Nat)->Option XH
 |[]=>some []
 |(new,q)::l=>match H q with
   |some o=>match sE f o with
     |some o'=>match pI f H l with|some r=>some ((new,o')::r)|none=>none
     |none=>none
   |none=>none
def JX:Nat->List Nat->List (Nat×Nat)
 |_,[]=>[]
 |n,k::l=>(n,k)::JX (n+1) l
def canon(c:Cx)(σ:Vw)(t:TypeId)(x:X):X:=match c.ty t with
 |some τ=>match jG τ (σ.qW x)with
   |some y=>iO τ y
   |none=>x
 |none=>x
def F6(c:Cx)(σ:Vw):List TypeId->List X->List X
 |t::ts,x::xs=>canon c σ t x::F6 c σ ts xs
 |_,xs=>xs
def j7(fr:Nat)(rb:List (Nat×Nat))(k:Nat):Option Nat:=match kQ 100 k with
 |true=>match rE k 108 with|true=>some (fr+(k-100))|false=>none
 |false=>lk k rb
def oJ(f:Nat->Option Nat):XH->Option Wx
 |[]=>some []
 |(k,o)::l=>match f k with
   |some k'=>match sE f o with
     |some o'=>match oJ f l with|some r=>some ((k',some o')::r)|none=>none
     |none=>none
   |none=>none
def gone(H':XH):List (Nat×Nat)->Wx
 |[]=>[]
 |(new,q)::l=>match lk new H' with|some _=>gone H' l|none=>(q,none)::gone H' l
def sK:List Nat->Bool
 |[]=>true
 |k::l=>match l.contains k with|true=>false|false=>sK l
def Qa(fr:Nat)(rn:List (Nat×Nat)):Bool:=rn.all (λp=>kQ 50 p.1&&rE p.1 100&&(rE p.2 fr||kQ (fr+8) p.2)&&(match lk p.1 rn with |some q=>bR q p.2 |none=>false))&&sK (rn.map (·.2))
def Jk(σ:Vw)(fr:Nat)(g:bK)(ys:List X)(els:O)(k:X->Wx->O):O:=match JX 50 (reach σ.H 40 (kL ys []) [])with
 |rn=>match Qa fr rn with
   |false=>els
   |true=>match n8 (old rn) ys with
     |none=>els
     |some zs=>match pI (old rn) σ.H rn with
       |none=>els
       |some H=>match g zs H with
         |some (pre,r)=>match sK (r.2.map (·.1))with
           |true=>ob (fS (j7 fr rn) r.1) λx=>ob (oJ (j7 fr rn) r.2) λW=>lF (σ.g.map (·.2)) pre (k x (W++gone r.2 rn))
           |false=>none
         |none=>els
def aAQ(c:Cx)(σ:Vw)(fr:Nat)(f:FuncId)(xs:List X)(k:X->Wx->O):O:=
 ob (lk f c.G) λg=>ob c.P.funcs[f]? λfn=>match fn.body with
  |none=>none
  |some _=>Jk σ fr g (F6 c σ fn.params.toList xs) (Jk σ fr g xs none k) k
def ZL(_σ:Vw)(_n:Nat):List (Nat×Operand)->Option (Nat×TypeId×(τ:Ty)×List τ.V):=λ_=>none
def aLB(σ:Vw):X->Option (Nat×TypeId×TypeId×(τ:Ty)×List (List τ.V))
 |.own q=>match σ.H q with
   |some (.nest e e' τ l)=>some (q,e,e',⟨τ,l⟩)
   |_=>none
 |_=>none
def aA9(_σ:Vw)(_e:TypeId)(_fr _bt:Nat)(_v:X)(_q:Nat)(_e1 _e1':TypeId)(τ:Ty)(_l':List (List τ.V))(_k:X->Wx->O):O:=none
def aKv(_σ:Vw)(_n:Nat):List (Nat×Operand)->Option (Nat×TypeId×((κ:Ty)×List κ.V)×List X):=λ_=>none
def Z2(_σ:Vw)(_fr:Nat)(_e _e':TypeId)(_q:Nat)(κ:Ty)(_l:List κ.V)(_ys:List X)(_k:X->Wx->O):Ty->O:=λ_=>none
def aKu(σ:Vw):X->Option (Nat×TypeId×TypeId×(κ:Ty)×(ρ:Ty)×List (List κ.V×ρ.V))
 |.own q=>match σ.H q with
   |some (.dZ e e' κ ρ l none)=>some (q,e,e',⟨κ,ρ,l⟩)
   |_=>none
 |_=>none
def aA8(_σ:Vw)(_e:TypeId)(_fr _bt:Nat)(_v:X)(_q:Nat)(_e1 _e1':TypeId)(κ ρ:Ty)(_l':List (List κ.V×ρ.V))(_k:X->Wx->O):Ty->O:=λ_=>none
def aAG(a b:Int):Bool:=decide (a=b)
def ZQ(_c:Cx)(_σ:Vw)(_kt:TypeId)(_a _b _v:X)(_k:X->Wx->O):O:=none
def ZS(_c:Cx)(_σ:Vw)(_kt:TypeId)(_a _b _z:X)(_cm:Bool)(_k:X->O):O:=none
def ZK(s:List UInt8)(pos:Int)(q:Nat)(k:X->Wx->O):O:=br (decide (pos<s.length))
 (gx s pos λb=>ck (decide (b.toNat<128)) (k (.bD [.e .bo true,.e (.i .i64) pos,.e (.i .i32) (b.toNat:Int)]) [(q,some (.it s (pos+1)))]))
 (k (.bD [.e .bo false]) [])
def Zx(_P:Program)(_op:BinOp)(_t:TypeId)(_v _w:X):Option Bool:=none
def X.pl:X->Bool
 |.bit ..=>false
 |.eX ..=>false
 |_=>true
def Ya(c:Cx)(σ:Vw)(t:TypeId)(v:X)(k:X->Wx->O):O:=match c.P.underlying t with
 |some (.pointer _)=>match v with
   |.own q=>match σ.H q with
     |some (.row ..)=>k (.via q 1) []
     |_=>none
   |.cC=>k (.v (.pointer none)) []
   |_=>none
 |_=>none
def YC(c:Cx)(σ:Vw)(pt:TypeId)(v w:X)(k:X->Wx->O):O:=match c.P.underlying pt with
 |some (.pointer e)=>match v,w with
   |.via q 1,.e (.i .i64) n=>match σ.H q with
     |some (.row e0 .u8 l _)=>match bR e0 e&&bR (c.P.cellsOf e) 1 with
       |true=>ck (aAG n (gW (α:=UInt8) l:Int)) (k (.e .tx l) [(q,none)])
       |false=>none
     |_=>none
   |.v (.pointer none),.e (.i .i64) n=>ck (aAG n 0) (k (.e .tx []) [])
   |_,_=>none
 |_=>none
def Jm(fr:Nat):List X->List X
 |[.v (.pointer none),.cC]=>[.via fr 0,.cC]
 |l=>l
def yC(x:X)(k:X->Wx->O):O:=match x.pl with|true=>k x []|false=>none
def eM(c:Cx)(σ:Vw)(fr:Nat)(st:Bool)(o:Oper)(k:X->Wx->O):O:=match o.op with
 |.move x=>ob (σ.ev x) λv=>k v []
 |.assign x=>ob (σ.ev x) λv=>k v []
 |.pick b x y=>Yr σ b x y λr=>k r []
 |.alloc e=>ob (wD c.P e) λz=>k (.ref fr 0) [(fr,some (.box e (Jm fr z.cells)))]
 |.box e x=>ob (σ.ev x) λv=>match v.val with|true=>k (.ref fr 0) [(fr,some (.box e v.cells))]|false=>none
 |.build t ps=>ob (wD c.P t) λz=>ob (places c.P t) λpl=>σ.CH ps.toList λxs=>Jb pl z.cells xs λcs=>k (.agg cs) []
 |.buildSlice t n ps=>ob (oL c t) λp=>match p with
   |(e,τ,_)=>match ZL σ n ps.toList with
    |some (q,e',⟨τ',l⟩)=>match iI τ (.sl τ')with
     |some _=>match τ'.one with
       |true=>k (.own fr) [(fr,some (.nest e e' τ' [l])),(q,none)]
       |false=>none
     |none=>none
    |none=>match aKv σ n ps.toList with
     |some (q,e',⟨κ,l⟩,ys)=>Z2 σ fr e e' q κ l ys k τ
     |none=>match kQ (n*τ.size) 16777216 with
      |true=>σ.CH ps.toList λxs=>J1 τ σ (Ew τ.zero n) xs λl=>k (.own fr) [(fr,some (.row e τ l st))]
      |false=>none
 |.makeMap t r=>match r with
   |none=>match c.P.underlying t with
     |some (.map kt _)=>match c.ty kt with
       |some τ=>k (.own fr) [(fr,some (.mp τ []))]
       |none=>none
     |_=>none
   |some _=>none
 |.insert t m x y=>match c.P.underlying t with
   |some (.map kt _)=>ob (σ.ev m) λa=>ob (σ.ev x) λb=>ob (σ.ev y) λv=>ZQ c σ kt a b v k
   |_=>none
 |.range t x=>match c.P.underlying t with
   |some .string=>ob (σ.ev x) λv=>match v with
     |.e .tx s=>k (.own fr) [(fr,some (.it s 0))]
     |_=>none
   |_=>none
 |.next i b=>match b with
   |true=>ob (σ.ev i) λv=>match v with
     |.own q=>match σ.H q with
       |some (.it s pos)=>ZK s pos q k
       |_=>none
     |_=>none
   |false=>none
 |.lookup t m x cm=>match c.P.underlying t with
   |some (.map kt et)=>ob (σ.ev m) λa=>ob (σ.ev x) λb=>ob (wD c.P et) λz=>ZS c σ kt a b z cm λr=>yC r k
   |_=>none
 |.load t a=>ob (σ.ev a) λv=>match st with
   |true=>ZY c σ t v λy=>yC y k
   |false=>ZZ c σ t v λy=>k y []
 |.store t a y=>ob (σ.ev a) λv=>ob (σ.ev y) λw=>match w.val with|true=>(match st with|true=>YK c σ t v w k|false=>YL c σ t v w k)|false=>none
 |.nilCheck x=>ob (σ.ev x) λv=>match v with
   |.ref ..=>k v []
   |.rr ..=>k v []
   |.pt ..=>k v []
   |.fn ..=>k v []
   |_=>none
 |.binOp op xt x y _=>ob (σ.ev x) λv=>ob (σ.ev y) λw=>match ZH c.P xt op v w y with
   |some b=>k (.e .bo b) []
   |none=>match Zx c.P op xt v w with
   |some b=>k (.e .bo b) []
   |none=>aAU c.P (σ.g.map (·.2)) op xt v w λr=>k r []
 |.unOp op _ x=>ob (σ.ev x) λv=>match op,v with
   |.not,.e .bo q=>aKw q λr=>k r []
   |.neg,.e (.i ik) n=>aLC ik n λr=>k r []
   |_,_=>none
 |.convert s d x=>ob (σ.ev x) λv=>match c.P.underlying s,c.P.underlying d,v with
   |some (.slice e),some .string,v=>match c.P.underlying e with
     |some (.int .u8)=>ob (σ.src .u8 v) λl=>k (.e .tx l) []
     |_=>none
   |_,_,v=>R8 c.P s d v λr=>k r []
 |.makeInterface t x=>ob (σ.ev x) λv=>match c.P.underlying t,v with
   |some (.int _),.e (.i ik) n=>k (.v (.iface t (.int ik n))) []
   |_,_=>none
 |.makeFunc (.func f) first caps=>match first.toList with
   |[]=>σ.vK caps.toList λxs=>k (.fn f xs) []
   |_=>none
 |.makeSlice t n m=>match Yw n m with
   |true=>ob (σ.ev n) λv=>match v with
     |.e (.i .i64) z=>ob (oL c t) λp=>match p with|(e,τ,b)=>J0 τ e fr b false z k
     |_=>none
   |false=>none
 |.slice t x lo hi mx=>match mx with
   |none=>ob (σ.ev x) λv=>match v,lo,hi with
     |.cC,lo,hi=>σ.lB lo λlo=>σ.lB hi λhi=>match c.P.underlying t with
       |some (.slice e)=>match iP c.P e with
         |some _=>lF (σ.g.map (·.2)) (CX lo&&CX hi) (k .cC [])
         |none=>none
       |_=>none
     |.pt σ y j,none,none=>Y5 c t (.pt σ y j) λr=>k r []
     |.own q,lo,hi=>match σ.H q with
       |some (.row _ τ l false)=>σ.lB lo λlo=>σ.lB hi λhi=>match st with
         |true=>Y4 c σ t q τ l lo hi k
         |false=>match lo with|none=>aAJ c σ fr t q hi k|some _=>none
       |_=>σ.lB lo λlo=>σ.lB hi λhi=>QV c σ t (.own q) lo hi λr=>k r []
     |v,lo,hi=>σ.lB lo λlo=>σ.lB hi λhi=>QV c σ t v lo hi λr=>k r []
   |some _=>none
 |.fieldAddr s x f=>ob (σ.ev x) λv=>Zu c s f v λr=>k r []
 |.field s x f=>ob (σ.ev x) λv=>Zt c s f v λr=>yC r k
 |.indexAddr t x n=>ob (σ.ev x) λv=>ob (σ.ev n) λw=>match st with
   |true=>Zd c σ t v w λr=>k r []
   |false=>Zc c σ t v w λr=>k r []
 |.index t x n=>ob (σ.ev x) λv=>ob (σ.ev n) λw=>Zb c t (σ.g.map (·.2)) v w λr=>k r []
 |.extract x n=>ob (σ.ev x) λv=>match v with
   |.bD xs=>ob xs[n]? λr=>yC r k
   |_=>none
 |.call { callee:=.builtin b,args,argTypes }=>match b,args.toList,argTypes.toList with
   |.len,[x],[t]=>ob (σ.ev x) λv=>Z6 c σ t v λr=>k r []
   |.append,[x,y],[t,t']=>match bR t t' with
     |false=>aA6 c σ fr st t t' x y k
     |true=>ob (oL c t) λp=>match p with
       |(e,τ,bt)=>ob (σ.ev x) λv=>ob (σ.ev y) λw=>match aLB σ w with
        |some (q,e1,e1',⟨τ1,l'⟩)=>match iI τ (.sl τ1)with
         |some _=>match τ1.one with
           |true=>aA9 σ e fr bt v q e1 e1' τ1 l' k
           |false=>none
         |none=>none
        |none=>match aKu σ w with
        |some (q,e1,e1',⟨κ,ρ,l'⟩)=>aA8 σ e fr bt v q e1 e1' κ ρ l' k τ
        |none=>ob (σ.src τ w) λl'=>match v with
         |.own q=>match σ.H q with
           |some (.row e' τ' l st')=>match iI τ' τ with
             |some ⟨h⟩=>match bR e' e with
               |true=>aA7 τ e fr bt [(q,none)] st' (oI (bE Ty.sl h) l) l' k
               |false=>none
             |none=>none
           |_=>none
         |.cC=>ck (cF (gW l') bt) (k (.own fr) [(fr,some (.row e τ l' st))])
         |_=>none
   |.unsafeSliceData,[x],[_]=>ob (σ.ev x) λv=>Ya c σ o.type v k
   |.unsafeString,[x,y],[pt,_]=>ob (σ.ev x) λv=>ob (σ.ev y) λw=>YC c σ pt v w k
   |.cap,[x],[t]=>ob (σ.ev x) λv=>match v,c.P.underlying t with
     |.cC,some (.slice _)=>k (.e (.i .i64) (0:Int)) []
     |_,_=>none
   |.copy,[x,y],[t,_]=>ob (σ.ev x) λv=>ob (σ.ev y) λw=>aAK c σ t v w k
   |.max,[x,y],_=>ob (σ.ev x) λv=>ob (σ.ev y) λw=>match v,w with
     |.e (.i .i64) m,.e (.i .i64) n=>RA m n λr=>k r []
     |_,_=>none
   |.max,[x,y,z],_=>ob (σ.ev x) λv=>ob (σ.ev y) λw=>ob (σ.ev z) λu=>match v,w,u with
     |.e (.i .i64) m,.e (.i .i64) n,.e (.i .i64) p=>RA (max (m:Int) n) p λr=>k r []
     |_,_,_=>none
   |.min,[x,y],_=>ob (σ.ev x) λv=>ob (σ.ev y) λw=>match v,w with
     |.e (.i .i64) m,.e (.i .i64) n=>aLG m n λr=>k r []
     |_,_=>none
   |_,_,_=>none
 |.call { callee:=.value f,args,.. }=>ob (σ.ev f) λv=>match v with
   |.fn g caps=>σ.vK args.toList λxs=>aAQ c σ fr g (xs++caps) k
   |_=>none
 |_=>none
def brO(b:Option Bool)(x y:O):O:=match b with|some b=>br b x y|none=>y
def Rf(σ:Vw)(fr:Nat)(g:kT)(ys:List X)(els:O)(k:X->Wx->O)(kp:Value->Wx->O):O:=match JX 50 (reach σ.H 40 (kL ys []) [])with
 |rn=>match Qa fr rn with
   |false=>els
   |true=>match n8 (old rn) ys with
     |none=>els
     |some zs=>match pI (old rn) σ.H rn with
       |none=>els
       |some H=>match g zs H with
         |some (pre,b,r,(.dY v,H'))=>match sK (r.2.map (·.1))&&sK (H'.map (·.1))with
           |true=>ck pre (brO b
             (ob (fS (j7 fr rn) r.1) λx=>ob (oJ (j7 fr rn) r.2) λW=>k x (W++gone r.2 rn))
             (ob (oJ (j7 fr rn) H') λW=>kp v (W++gone H' rn)))
           |false=>none
         |_=>els
def aAR(c:Cx)(σ:Vw)(fr:Nat)(f:FuncId)(gp:kT)(xs:List X)(k:X->Wx->O)(kp:Value->Wx->O):O:=ob c.P.funcs[f]? λfn=>match fn.body with
 |none=>none
 |some _=>Rf σ fr gp (F6 c σ fn.params.toList xs) (Rf σ fr gp xs none k kp) k kp
def Qg(c:Cx)(σ:Vw)(fr:Nat)(o:Oper)(k:X->Wx->O)(kp:Value->Wx->O)(els:O):O:=match o.op with
 |.panic x=>ob (σ.ev x) λv=>match v with
   |.v (.iface t w)=>kp (.iface t w) []
   |_=>none
 |.call { callee:=.value f,args,.. }=>match σ.ev f with
   |some (.fn g caps)=>match lk g c.Gp with
     |some gp=>σ.vK args.toList λxs=>aAR c σ fr g gp (xs++caps) k kp
     |none=>els
   |_=>els
 |_=>els
def Sg.vw(σ:Sg):Vw:=⟨λt=>lk t σ.T,λk=>lk k σ.H,none⟩
def aMO:Op->Bool
 |.move _=>true
 |.assign _=>true
 |.pick ..=>true
 |.load ..=>true
 |.binOp ..=>true
 |.unOp ..=>true
 |.convert ..=>true
 |.nilCheck _=>true
 |.fieldAddr ..=>true
 |.field ..=>true
 |.indexAddr ..=>true
 |.index ..=>true
 |.extract ..=>true
 |.slice ..=>true
 |.call { callee:=.builtin .len,.. }=>true
 |.call { callee:=.builtin .max,.. }=>true
 |.call { callee:=.builtin .min,.. }=>true
 |.call { callee:=.value _,.. }=>true
 |_=>false
def CN(j:Nat)(w:Bool):Nat:=match w with|true=>2*j+1|false=>2*j
def zA(w q:Bool):Bool:=match w with|true=>q|false=>!q
inductive Gd where
 |on|off
 |cd (key:Nat) (c:Bool) (t:Tmp) (j:Nat) (x:X) (new:Bool)
 |kn (b:Bool)
def RJ(o:Oper)(ops:List Oper)(T:Nat->Option X):Option Gd:=match o.guard with
 |none=>some .on
 |some (j,w)=>match ops[j]? with
   |some oj=>match oj.dst with
     |some t=>match T t with
       |some (.e .bo q)=>some (.cd (CN j w) (zA w q) t j (.bit j q) true)
       |some (.bit j' q)=>match bR j' j with
         |true=>some (.cd (CN j w) (zA w q) t j (.bit j q) false)
         |false=>none
       |some (.eX key c (.e .bo q))=>some (.cd (CN j w) (c&&zA w q) t j (.eX key c (.bit j q)) true)
       |some (.eX key c (.bit j' q))=>match bR j' j with
         |true=>some (.cd (CN j w) (c&&zA w q) t j (.eX key c (.bit j q)) false)
         |false=>none
       |some (.bD [])=>some .off
       |some (.v (.bool b))=>some (.kn (match b,w with|true,true=>true|false,false=>true|_,_=>false))
       |_=>none
     |none=>none
   |none=>none
def sC(j:Nat):X->Bool
 |.bit j' _=>bR j' j
 |.eX key _ x=>bR key (2*j)||bR key (2*j+1)||(match x with |.bit j' _=>bR j' j |_=>false)
 |_=>false
def J9(j:Nat):XT->Bool
 |[]=>true
 |(_,x)::l=>match sC j x with|true=>false|false=>J9 j l
def mC:XT->Bool
 |[]=>true
 |(_,x)::l=>match x.pl with|true=>mC l|false=>false
def sI:XT->(XT->O)->O
 |[],f=>f []
 |(t,x)::l,f=>match x with
   |.bit _ q=>sI l λl'=>f ((t,.e .bo q)::l')
   |.eX ..=>sI l λl'=>sT t l' f
   |.v (.bool q)=>sI l λl'=>f ((t,.e .bo q)::l')
   |x=>sI l λl'=>f ((t,x)::l')
def ZG:Wx->O->O
 |[],k=>k
 |_,_=>none
def Es(c:Cx)(σ:Sg)(T:XT)(st:Bool)(o:Oper)(m:Nat)(K:Exit->Sg->O)(next:Sg->O):O:=
 Qg c ⟨λt=>lk t T,λk=>lk k σ.H,none⟩ σ.N o
  (λx W=>u5 o.dst x T λT=>pD W σ.H λH=>next ⟨T,H,σ.N+8⟩)
  (λv W=>pD W σ.H λH=>sI T λT=>K (.panic [lS v]) ⟨T,H,σ.N+8*m⟩)
  (eM c ⟨λt=>lk t T,λk=>lk k σ.H,none⟩ σ.N st o λx W=>u5 o.dst x T λT=>pD W σ.H λH=>next ⟨T,H,σ.N+8⟩)
def Ep(σ:Sg)(T:XT)(o:Oper)(next:Sg->O):O:=u5 o.dst (.bD []) T λT=>next ⟨T,σ.H,σ.N+8⟩
def kJ(c:Cx)(stF:List Nat)(all:List Oper):List Oper->Nat->Sg->(Exit->Sg->O)->O
 |[],_,σ,k=>sI σ.T λT=>k .normal ⟨T,σ.H,σ.N⟩
 |o::rest,i,σ,k=>ob (RJ o all λt=>lk t σ.T) λg=>match g with
   |.on=>Es c σ σ.T (!(stF.contains i)) o (rest.length+1) k λσ'=>kJ c stF all rest (i+1) σ' k
   |.off=>Ep σ σ.T o λσ'=>kJ c stF all rest (i+1) σ' k
   |.kn true=>Es c σ σ.T (!(stF.contains i)) o (rest.length+1) k λσ'=>kJ c stF all rest (i+1) σ' k
   |.kn false=>Ep σ σ.T o λσ'=>kJ c stF all rest (i+1) σ' k
   |.cd key b t j y new=>match stF.contains (i+1000)with
     |true=>match y,new,o.guard with
       |.bit _ q,true,some (_,w)=>br q
         (k9 t (.v (.bool true)) σ.T λT=>match w with
          |true=>Es c σ T (!(stF.contains i)) o (rest.length+1) k λσ'=>kJ c stF all rest (i+1) σ' k
          |false=>Ep σ T o λσ'=>kJ c stF all rest (i+1) σ' k)
         (k9 t (.v (.bool false)) σ.T λT=>match w with
          |true=>Ep σ T o λσ'=>kJ c stF all rest (i+1) σ' k
          |false=>Es c σ T (!(stF.contains i)) o (rest.length+1) k λσ'=>kJ c stF all rest (i+1) σ' k)
       |_,_,_=>none
     |false=>match !new||J9 j σ.T with
       |true=>k9 t y σ.T λT=>match aMO o.op&&!(stF.contains i)with
         |true=>eM c ⟨λt=>lk t T,λk=>lk k σ.H,some (key,b)⟩ σ.N (!(stF.contains i)) o λx W=>ZG W (u5 o.dst (.eX key b x) T λT=>kJ c stF all rest (i+1) ⟨T,σ.H,σ.N+8⟩ k)
         |false=>br b
           (eM c ⟨λt=>lk t T,λk=>lk k σ.H,some (key,b)⟩ σ.N (!(stF.contains i)) o λx W=>u5 o.dst x T λT=>pD W σ.H λH=>kJ c stF all rest (i+1) ⟨T,H,σ.N+8⟩ k)
           (u5 o.dst (.bD []) T λT=>kJ c stF all rest (i+1) ⟨T,σ.H,σ.N+8⟩ k)
       |false=>none
abbrev Rx:=List (X×Wx)
def QL(σ:Vw)(dst:Option Tmp)(x:X)(W:Wx):Vw:=⟨λt=>match dst with|some t'=>(match bR t' t with|true=>some x|false=>σ.T t)|none=>σ.T t,λk=>match lk k W with|some r=>r|none=>σ.H k,none⟩
def pG(dst:Nat->Option Tmp)(S:Nat->Bool):Nat->Rx->Vw->Vw
 |_,[],σ=>σ
 |i,(x,W)::rs,σ=>pG dst S (i+1) rs (match S i with|true=>QL σ (dst i) x W|false=>σ)
def kO(ops:Array Oper)(pre kl:List (List Nat))(fr i:Nat)(rs:Rx)(σ:Vw)(g:Option (Nat×Bool)):Vw:=
 ⟨λt=>match(pX ops.size).any (λp=>apart pre i p&&(Region.fE ops p == some t))with|true=>none|false=>(pG (Region.fE ops) (λj=>(pre.getD i []).contains j) 0 rs σ).T t,
  λk=>match(pX ops.size).any (λp=>apart pre i p&&fC kl fr p k)with|true=>none|false=>(pG (Region.fE ops) (λj=>(pre.getD i []).contains j) 0 rs σ).H k,g⟩
def Er(j:Nat)(y:X)(rs:Rx)(f:Rx->O):O:=match rs[j]? with
 |some (_,W)=>f (hM (y,W) j rs)
 |none=>none
def Bw(t:Tmp)(j:Nat):Nat->List Oper->Bool
 |_,[]=>true
 |p,o::l=>match o.dst with
   |some t'=>match bR t' t&&!(bR p j)with|true=>false|false=>Bw t j (p+1) l
   |none=>Bw t j (p+1) l
def Ja(j:Nat):Rx->Bool
 |[]=>true
 |(x,_)::l=>match sC j x with|true=>false|false=>Ja j l
def aLT(pre:List (List Nat))(n i:Nat):Bool:=(pX n).all λp=>kQ p i||(pre.getD p []).contains i
def Qq:Rx->Bool
 |[]=>true
 |(_,[])::l=>Qq l
 |_::_=>false
def Et(c:Cx)(stF:List Nat)(ops:Array Oper)(pre kl:List (List Nat))(fr:Nat)(σ:Vw)(HL:XH)(K:Exit->Sg->O)(o:Oper)(i:Nat)(rs:Rx)(next:Rx->O):O:=
 Qg c (kO ops pre kl fr i rs σ none) (fr+8*i) o
  (λx W=>match W.all (λp=>fC kl fr i p.1)with
  |true=>next (rs++[(x,W)])
  |false=>none)
  (λv W=>match aLT pre ops.size i&&Qq rs with
  |true=>pD W HL λH=>K (.panic [lS v]) ⟨[],H,fr+8*ops.size⟩
  |false=>none)
  (eM c (kO ops pre kl fr i rs σ none) (fr+8*i) (!(stF.contains i)) o λx W=>match W.all (λp=>fC kl fr i p.1)with
  |true=>next (rs++[(x,W)])
  |false=>none)
def lE(c:Cx)(stF:List Nat)(ops:Array Oper)(pre kl:List (List Nat))(fr:Nat)(σ:Vw)(HL:XH)(K:Exit->Sg->O):List Oper->Nat->Rx->(Rx->O)->O
 |[],_,rs,k=>k rs
 |o::rest,i,rs,k=>ob (RJ o ops.toList (kO ops pre kl fr i rs σ none).T) λg=>match g with
   |.on=>Et c stF ops pre kl fr σ HL K o i rs λrs=>lE c stF ops pre kl fr σ HL K rest (i+1) rs k
   |.off=>lE c stF ops pre kl fr σ HL K rest (i+1) (rs++[(.bD [],[])]) k
   |.kn true=>Et c stF ops pre kl fr σ HL K o i rs λrs=>lE c stF ops pre kl fr σ HL K rest (i+1) rs k
   |.kn false=>lE c stF ops pre kl fr σ HL K rest (i+1) (rs++[(.bD [],[])]) k
   |.cd key b t j y new=>match stF.contains (i+1000)with
     |true=>match y,new,o.guard,Bw t j 0 ops.toList&&(pre.getD i []).contains j with
       |.bit _ q,true,some (_,w),true=>br q
         (Er j (.v (.bool true)) rs λrs=>match w with
          |true=>Et c stF ops pre kl fr σ HL K o i rs λrs=>lE c stF ops pre kl fr σ HL K rest (i+1) rs k
          |false=>lE c stF ops pre kl fr σ HL K rest (i+1) (rs++[(.bD [],[])]) k)
         (Er j (.v (.bool false)) rs λrs=>match w with
          |true=>lE c stF ops pre kl fr σ HL K rest (i+1) (rs++[(.bD [],[])]) k
          |false=>Et c stF ops pre kl fr σ HL K o i rs λrs=>lE c stF ops pre kl fr σ HL K rest (i+1) rs k)
       |_,_,_,_=>none
     |false=>match(!new||Ja j rs)&&(Bw t j 0 ops.toList&&(pre.getD i []).contains j)with
       |true=>Er j y rs λrs=>match aMO o.op&&!(stF.contains i)with
         |true=>eM c (kO ops pre kl fr i rs σ (some (key,b))) (fr+8*i) (!(stF.contains i)) o λx W=>ZG W (lE c stF ops pre kl fr σ HL K rest (i+1) (rs++[(.eX key b x,[])]) k)
         |false=>br b
           (eM c (kO ops pre kl fr i rs σ (some (key,b))) (fr+8*i) (!(stF.contains i)) o λx W=>match W.all (λp=>fC kl fr i p.1)with
            |true=>lE c stF ops pre kl fr σ HL K rest (i+1) (rs++[(x,W)]) k
            |false=>none)
           (lE c stF ops pre kl fr σ HL K rest (i+1) (rs++[(.bD [],[])]) k)
       |false=>none
def RP:List Oper->Rx->XT->XH->(XT->XH->O)->O
 |o::ops,(x,W)::rs,T,H,k=>u5 o.dst x T λT'=>pD W H λH'=>RP ops rs T' H' k
 |_,_,T,H,k=>k T H
inductive Mv where
 |QU (t:Nat)
 |qP (t:Nat) (o:XO)
 |Qr (t i:Nat) (o:XO)
 |fz (t:Nat) (τ:Ty)
 |cv (t i:Nat) (τ:Ty)
 |rn (t i:Nat)
 |a6y (t x:Nat)
 |bk (t:Nat)
structure Nm where
 ts:List Nat
 gv:List (Nat×Ty)
 mv:List Mv
inductive Hint:Type 1 where
 |d
 |seq (a b:Hint)
 |cond (a b:Hint)
 |block (a:Hint)
 |gI (stF:List Nat) (mv:List Mv) (kl:List (List Nat))
 |sub (nm:Nm) (Y1 Y2 Y3:Type) (I1:Y1->Exit×Sg) (I2:Y2->Exit×Sg) (I3:Y3->Exit×Sg) (L:Sg->(Y1->O)->(Y2->O)->(Y3->O)->O)
def RU:XO->Bool
 |.row _ _ [] _=>true
 |.nest _ _ _ []=>true
 |.dZ _ _ _ _ [] none=>true
 |_=>false
def Q1:XO->Option XO
 |.row e τ xs false=>some (.row e τ xs true)
 |_=>none
def Q3(q:Nat)(σ:Sg)(k:Sg->O):O:=match lk q σ.H with
 |some o=>match Q1 o with
   |some o'=>k9 q o' σ.H λH=>k ⟨σ.T,H,σ.N⟩
   |none=>k σ
 |none=>k σ
def ZI(q i:Nat)(o:XO)(σ:Sg)(k:Sg->O):O:=match lk q σ.H with
 |some (.box e' xs)=>match xs[i]? with
   |some .cC=>k9 q (.box e' (hM (.own σ.N) i xs)) σ.H λH=>k9 σ.N o H λH=>k ⟨σ.T,H,σ.N+8⟩
   |_=>k σ
 |_=>k σ
def aAI(q i:Nat)(τ:Ty)(σ:Sg)(k:Sg->O):O:=match lk q σ.H with
 |some (.box e xs)=>match xs[i]? with
   |some x=>match τ.one with
     |true=>match jG τ (Vw.lD ⟨λt=>lk t σ.T,λk=>lk k σ.H,none⟩ x)with
       |some y=>k9 q (.box e (hM (.e τ y) i xs)) σ.H λH=>k ⟨σ.T,H,σ.N⟩
       |none=>k σ
     |false=>k σ
   |none=>k σ
 |_=>k σ
def Yh(q i:Nat)(σ:Sg)(k:Sg->O):O:=match lk q σ.H with
 |some (.box e xs)=>match xs[i]? with
   |some (.own q')=>match lk q' σ.H with
     |some o=>match kQ 50 q'&&rE q' 100&&!(bR q' q)with
       |true=>k9 q (.box e (hM (.own σ.N) i xs)) σ.H λH=>sT q' H λH=>k9 σ.N o H λH=>k ⟨σ.T,H,σ.N+8⟩
       |false=>k σ
     |none=>k σ
   |_=>k σ
 |_=>k σ
def Z5(_q:Nat)(_n:Int)(σ:Sg)(k:Sg->O):O:=k σ
def aAX(_q:Nat)(σ:Sg)(k:Sg->O):O:=k σ
def ZP(m:Mv)(σ:Sg)(k:Sg->O):O:=match m with
 |.QU t=>match lk t σ.T with
   |some (.own q)=>Q3 q σ k
   |some (.ref q 0)=>match lk q σ.H with
     |some (.box _ (.own q'::_))=>Q3 q' σ k
     |_=>k σ
   |_=>k σ
 |.qP t o=>match lk t σ.T,RU o with
   |some .cC,true=>k9 t (.own σ.N) σ.T λT=>k9 σ.N o σ.H λH=>k ⟨T,H,σ.N+8⟩
   |_,_=>k σ
 |.Qr t i o=>match lk t σ.T,RU o with
   |some (.ref q 0),true=>ZI q i o σ k
   |_,_=>k σ
 |.fz t τ=>match lk t σ.T with
   |some (.ref q 0)=>match lk q σ.H with
     |some (.box _ xs)=>match yS τ xs with
       |some y=>k9 t (.pt τ y 0) σ.T λT=>sT q σ.H λH=>k ⟨T,H,σ.N⟩
       |none=>k σ
     |_=>k σ
   |_=>k σ
 |.cv t i τ=>match lk t σ.T with
   |some (.ref q 0)=>aAI q i τ σ k
   |_=>k σ
 |.rn t i=>match lk t σ.T with
   |some (.ref q 0)=>Yh q i σ k
   |_=>k σ
 |.a6y t x=>match lk t σ.T,lk x σ.T with
   |some (.own q),some (.e (.i _) n)=>Z5 q n σ k
   |_,_=>k σ
 |.bk t=>match lk t σ.T with
   |some (.own q)=>aAX q σ k
   |_=>k σ
def Qy:List Mv->Sg->(Sg->O)->O
 |[],σ,k=>k σ
 |m::l,σ,k=>ZP m σ λσ=>Qy l σ k
def aA2(σ:Vw)(τ:Ty)(x:X):X:=match jG τ (σ.qW x)with|some y=>iO τ y|none=>x
def Qf(σ:Sg)(gv:List (Nat×Ty)):List Nat->Option XT
 |[]=>some []
 |t::l=>match lk t σ.T with
   |some x=>match Qf σ gv l with
     |some r=>some ((t,match lk t gv with|some τ=>aA2 σ.vw τ x|none=>x)::r)
     |none=>none
   |none=>none
def ZN:XT->List Nat->List Nat
 |[],acc=>acc
 |(_,x)::l,acc=>ZN l (ZM x acc)
def oD:XH->List Nat
 |[]=>[]
 |(k,_)::l=>match kQ 50 k&&rE k 100 with|true=>k::oD l|false=>oD l
def live(H:XH):List Nat:=(oD H).filter λk=>(reach (λj=>lk j H) 60 [k] []).all λq=>(lk q H).isSome
def sQ(k:Nat):Bool:=kQ 50 k&&rE k 100
def jJ:Nat->List Nat->List (Nat×Nat)
 |_,[]=>[]
 |n,k::l=>match sQ k with|true=>jJ n l|false=>(n,k)::jJ (n+1) l
def JA:List Nat->List (Nat×Nat)
 |[]=>[]
 |k::l=>match sQ k with|true=>(k,k)::JA l|false=>JA l
def qO(rn:List (Nat×Nat))(k:Nat):Option Nat:=match sQ k with|true=>some k|false=>old rn k
def JM(rn al:List (Nat×Nat))(lo hi:Nat):Bool:=rn.all (λp=>kQ lo p.1&&rE p.1 hi&&!(sQ p.1)&&(match lk p.1 rn with |some q=>bR q p.2 |none=>false))&&sK (al.map (·.2))&&al.all (λp=>(sQ p.1&&bR p.1 p.2)||(match lk p.1 rn with |some q=>bR q p.2 |none=>false))
def Q5(f:Nat->Option Nat):XT->Option XT
 |[]=>some []
 |(t,x)::l=>match fS f x with
   |some y=>match Q5 f l with|some r=>some ((t,y)::r)|none=>none
   |none=>none
def By(nm:Nm)(σ:Sg)(k:Sg->O):O:=Qy nm.mv σ λσ=>ob (Qf σ nm.gv nm.ts) λT=>
 match reach σ.vw.H 60 (ZN T (oD σ.H)) []with
 |ns=>match jJ 0 ns with
   |rn=>match JA ns++rn with
     |al=>match JM rn al 0 50 with
       |true=>ob (Q5 (qO rn) T) λT'=>ob (pI (qO rn) σ.vw.H al) λH'=>k ⟨T',H',100⟩
       |false=>none
def JT:List Oper->List (List Nat)->List (List Nat)
 |[],acc=>acc
 |o::l,acc=>JT l (acc++[o.after.toList.foldl (λs e=>match Region.binds .any e with|true=>(acc.getD e.on []).foldl (λs q=>ins q s) (ins e.on s)|false=>s) []])
def Jh(M:Nat):List Oper->Bool
 |[]=>true
 |o::l=>match o.dst with
   |some t=>match rE t M with|true=>Jh M l|false=>false
   |none=>Jh M l
def Q7(c:Cx)(M:Nat)(stF:List Nat)(mv:List Mv)(kl:List (List Nat))(ops:Array Oper)(draw:Bool)(σ:Sg)(k:Exit->Sg->O):O:=Qy mv σ λσ=>match mC σ.T with
 |false=>none
 |true=>match draw with
   |false=>match Jh M ops.toList with
     |true=>kJ c stF ops.toList ops.toList 0 σ k
     |false=>none
   |true=>match Js ops (JT ops.toList []) kl σ.N M with
     |true=>lE c stF ops (JT ops.toList []) kl σ.N σ.vw σ.H k ops.toList 0 [] λrs=>RP ops.toList rs σ.T σ.H λT H=>sI T λT=>k .normal ⟨T,H,σ.N+8*ops.size⟩
     |false=>none
def kk(k:Exit->Sg->O)(p:Exit×Sg):O:=match p.1 with|.goto _=>none|e=>k e p.2
def exec(c:Cx)(M:Nat)(h:Hint)(code:Code)(σ:Sg)(k:Exit->Sg->O):O:=match h with
 |.sub nm _ _ _ I1 I2 I3 L=>By nm σ λσ'=>L σ' (λy=>kk k (I1 y)) (λy=>kk k (I2 y)) (λy=>kk k (I3 y))
 |h=>match code with
   |.skip=>k .normal σ
   |.label _=>k .normal σ
   |.exit id=>k (.exit id) σ
   |.ret=>k .ret σ
   |.region _ ops draw=>match h with
     |.gI stF mv kl=>Q7 c M stF mv kl ops draw σ k
     |_=>Q7 c M [] [] [] ops draw σ k
   |.seq a b=>exec c M (match h with|.seq x _=>x|_=>.d) a σ λe σ'=>match e with
     |.normal=>exec c M (match h with|.seq _ y=>y|_=>.d) b σ' k
     |e=>k e σ'
   |.cond x a b=>ob (σ.vw.ev x) λv=>match v with
     |.e .bo q=>br q (exec c M (match h with|.cond x _=>x|_=>.d) a σ k) (exec c M (match h with|.cond _ y=>y|_=>.d) b σ k)
     |_=>none
   |.block id a=>exec c M (match h with|.block x=>x|_=>.d) a σ λe σ'=>match e with
     |.exit id'=>match bR id' id with|true=>k .normal σ'|false=>k (.exit id') σ'
     |e=>k e σ'
   |_=>none
termination_by structural code
def a8W:Exit->Exit->Bool
 |.normal,.normal=>true
 |.ret,.ret=>true
 |.exit a,.exit b=>bR a b
 |.panic _,.panic _=>true
 |_,_=>false
def Yu(out:List (Exit×Nm))(e:Exit):Option Nm:=match out with
 |[]=>none
 |(e',nm)::l=>match a8W e' e with|true=>some nm|false=>Yu l e
def eN(nm:Nm)(out:List (Exit×Nm))(self:Sg->O)(K:Exit->Sg->O)(e:Exit)(σ:Sg):O:=match e with
 |.normal=>By nm σ self
 |e=>ob (Yu out e) λnm'=>By nm' σ (K e)
def vD(c:Cx)(M:Nat)(h:Hint)(body:Code)(nm:Nm)(out:List (Exit×Nm)):Nat->Sg->(Exit->Sg->O)->O
 |0,_,_=>none
 |n+1,σ,K=>exec c M h body σ (eN nm out (λσ'=>vD c M h body nm out n σ' K) K)
def hY(out:List (Exit×Nm))(K:Exit->Sg->O)(e:Exit)(σ:Sg):O:=ob (Yu out e) λnm'=>By nm' σ (K e)
def Q4(P:Program)(σ:Sg):ResultVar->Option X
 |.tmp t=>lk t σ.T
 |.cell p t=>match lk p σ.T with
   |some (.ref q 0)=>match lk q σ.H with
     |some (.box _ xs)=>match kI P t,iP P t,xs with
       |some true,some m,xs=>match bR xs.length m with|true=>some (.agg xs)|false=>none
       |some false,_,[x]=>some x
       |_,_,_=>none
     |_=>none
   |_=>none
def n6:XH->XH
 |[]=>[]
 |(k,.row e τ l _)::H=>(k,.row e τ l true)::n6 H
 |p::H=>p::n6 H
def bU:Nat->List X->XT
 |_,[]=>[]
 |t,x::l=>(t,x)::bU (t+1) l
def Q2(ow:Bool)(σ:Sg):Sg:=match ow with|true=>σ|false=>⟨σ.T,n6 σ.H,σ.N⟩
def aAP(c:Cx)(fn:Func)(ow:Bool)(σ:Sg)(xs:List X):List X:=match ow with|true=>xs|false=>F6 c σ.vw fn.resultTypes.toList xs
def RQ(ch:List PanicEntry)(σ:Sg):O:=match ch with
 |[p]=>match p.recovered||p.goexit with
   |true=>none
   |false=>match reach σ.vw.H 60 (oD σ.H) []with
     |ns=>match jJ 100 ns with
       |rn=>match JA ns++rn with
         |al=>match JM rn al 100 108 with
           |true=>ob (pI (qO rn) σ.vw.H al) λH'=>some (.dY p.v,H')
           |false=>none
 |_=>none
def qY(c:Cx)(fn:Func)(ow:Bool)(e:Exit)(σ:Sg):O:=match(match e with|.normal=>true|.ret=>true|_=>false)with
 |true=>match Q2 ow σ with
   |σ=>ob (yM (Q4 c.P σ) fn.results.toList) λxs=>
   match aAP c fn ow σ xs with
   |ys=>match reach σ.vw.H 60 (kL ys (live σ.H)) []with
       |ns=>match jJ 100 ns with
         |rn=>match JA ns++rn with
           |al=>match JM rn al 100 108 with
             |true=>ob (n8 (qO rn) ys) λzs=>ob (pI (qO rn) σ.vw.H al) λH'=>match zs with
               |[z]=>some (z,H')
               |[]=>some (.bD [],H')
               |[x,y]=>some (.bD [x,y],H')
               |[x,y,z]=>some (.bD [x,y,z],H')
               |[x,y,z,u]=>some (.bD [x,y,z,u],H')
               |[x,y,z,u,v]=>some (.bD [x,y,z,u,v],H')
               |_=>none
             |false=>none
 |false=>none
def bX(c:Cx)(fn:Func)(ow:Bool)(e:Exit)(σ:Sg):O:=match e with
 |.panic ch=>RQ ch σ
 |e=>qY c fn ow e σ
noncomputable def aY{ι Y1 Y2 Y3:Type}(I:ι->Sg)(un:Sg->ι)(L:ι->(Y1->O)->(Y2->O)->(Y3->O)->O)(σ:Sg)(k1:Y1->O)(k2:Y2->O)(k3:Y3->O):O:=
 @ite _ (σ=I (un σ)) (Classical.propDecidable _) (L (un σ) k1 k2 k3) none
def aW(n:Nat)(_:Unit):Exit×Sg:=(.goto n,⟨[],[],100⟩)
def lvX(τ:Ty)(x:Option X):τ.V:=match x with
 |some (.e τ' y)=>(match iI τ' τ with|some ⟨h⟩=>oI h y|none=>τ.zero)
 |some (.pt τ' y _)=>(match iI τ' τ with|some ⟨h⟩=>oI h y|none=>τ.zero)
 |_=>τ.zero
def aO(τ:Ty)(t i:Nat)(σ:Sg):τ.V:=match lk t σ.T with
 |some x=>lvX τ (match x with|.agg xs=>xs[i]?|.bD xs=>xs[i]?|.fn _ xs=>xs[i]?|x=>some x)
 |none=>τ.zero
def lvP:Exit->Int
 |.panic [p]=>match p.v with|.iface _ (.int _ n)=>n|_=>0
 |_=>0
def aL(τ:Ty)(q i:Nat)(σ:Sg):τ.V:=match lk q σ.H with
 |some (.box _ xs)=>lvX τ xs[i]?
 |_=>τ.zero
def dA(τ:Ty)(q:Nat)(σ:Sg):List τ.V:=match lk q σ.H with
 |some (.row _ τ' l _)=>(match iI τ' τ with|some ⟨h⟩=>oI (bE Ty.sl h) l|none=>[])
 |_=>[]
def a6h(q:Nat)(σ:Sg):List UInt8:=match lk q σ.H with
 |some (.it s _)=>s
 |_=>[]
def a6i(q:Nat)(σ:Sg):Int:=match lk q σ.H with
 |some (.it _ n)=>n
 |_=>0
def ZF:X->Bool
 |.e τ _=>τ.one
 |.agg xs=>xs.all λx=>match x with|.e τ _=>τ.one|_=>false
 |_=>false
def ZE:aE->Bool
 |(x,H)=>(match x with|.own k=>kQ 100 k|.e τ _=>τ.one|_=>false)&&H.all λp=>kQ 100 p.1&&(match p.2 with|.row ..=>true|_=>false)
def KB(e:TypeId)(τ:Ty)(g:bK):bK:=λxs H=>match g xs H with
 |some r=>some r
 |none=>match xs,H with
   |.cC::l,[]=>match g (.own 50::l) [(50,.row e τ [] true)]with
     |some (pre,r)=>match ZE r&&l.all ZF with|true=>some (pre,r)|false=>none
     |none=>none
   |_,_=>none
def kM{α β:Type}:Option (α ⊕ β)->Bool
 |some (.inl _)=>true
 |_=>false
def aV{α β:Type}(d:α):Option (α ⊕ β)->α
 |some (.inl x)=>x
 |_=>d
def dF{α β:Type}(d:β):Option (α ⊕ β)->β
 |some (.inr x)=>x
 |_=>d
def fD{δ:Type}(fQ:List X->XH->Option δ)(p:δ->Bool)(R:δ->aE):bK:=λxs H=>match fQ xs H with
 |some d=>some (p d,R d)
 |none=>none
def vM{δ:Type}(fQ:List X->XH->Option δ)(p:δ->Bool)(b:δ->Option Bool)(R R':δ->aE):kT:=λxs H=>match fQ xs H with
 |some d=>some (p d,b d,R d,R' d)
 |none=>none
def E0(f:Bool×aE):bK:=λxs H=>match xs,H with|[],[]=>some f|_,_=>none
def E1(a:Ty)(f:a.V->Bool×aE):bK:=λxs H=>match xs,H with
 |[x],[]=>match jG a x with|some x=>some (f x)|none=>none
 |_,_=>none
def E2(a b:Ty)(f:a.V->b.V->Bool×aE):bK:=λxs H=>match xs,H with
 |[x,y],[]=>match jG a x with|some x=>(match jG b y with|some y=>some (f x y)|none=>none)|none=>none
 |_,_=>none
def E3(a b d:Ty)(f:a.V->b.V->d.V->Bool×aE):bK:=λxs H=>match xs,H with
 |[x,y,z],[]=>match jG a x with|some x=>(match jG b y with|some y=>(match jG d z with|some z=>some (f x y z)|none=>none)|none=>none)|none=>none
 |_,_=>none
def E4(a b d e:Ty)(f:a.V->b.V->d.V->e.V->Bool×aE):bK:=λxs H=>match xs,H with
 |[x,y,z,u],[]=>match jG a x with|some x=>(match jG b y with|some y=>(match jG d z with|some z=>(match jG e u with|some u=>some (f x y z u)|none=>none)|none=>none)|none=>none)|none=>none
 |_,_=>none
def Ef1(a:Ty)(g:FuncId)(f:a.V->Bool×aE):bK:=λxs H=>match xs,H with
 |[x,.fn g' []],[]=>match bR g' g with
   |true=>match jG a x with|some x=>some (f x)|none=>none
   |false=>none
 |_,_=>none
def Ef2(a b:Ty)(g:FuncId)(f:a.V->b.V->Bool×aE):bK:=λxs H=>match xs,H with
 |[x,y,.fn g' []],[]=>match bR g' g with
   |true=>match jG a x with
     |some x=>match jG b y with|some y=>some (f x y)|none=>none
     |none=>none
   |false=>none
 |_,_=>none
def Eor(f g:bK):bK:=λxs H=>match f xs H with|some r=>some r|none=>g xs H
def ue(τ:Ty):X->Option τ.V
 |.e τ' x=>match iI τ' τ with|some ⟨h⟩=>some (oI h x)|none=>none
 |_=>none
def ur(e:TypeId)(τ:Ty)(st:Bool):XO->Option (List τ.V)
 |.row e' τ' l st'=>match bR e' e&&(st' == st)with
   |true=>match iI τ' τ with|some ⟨h⟩=>some (oI (bE Ty.sl h) l)|none=>none
   |false=>none
 |_=>none
end
instance std:aA:=⟨br0,ck0,FT,J7,Zl⟩
end Go.Ax
/- What data of the run mean: trees of values. -/
namespace Go.Ax
open aA
open Go.RowKit Go.Ab
mutual
def cH:Ex->List Tree
 |.mk a n ks=>[.v (.int .i64 a),.v (.int .i64 n),.sl ks.length (RT ks)]
def RT:List Ex->List Tree
 |[]=>[]
 |x::l=>cH x++RT l
end
def bH:(τ:Ty)->τ.V->List Tree
 |.i k,x=>[.v (.int k x)]
 |.u8,x=>[.v (.int .u8 (aAe x))]
 |.bo,x=>[.v (.bool x)]
 |.tx,x=>[.v (.string ⟨⟨x⟩⟩)]
 |.ex,x=>cH x
 |.sl e,l=>[.sl (gW l) (iY (bH e) l)]
 |.pr a b,x=>bH a x.1++bH b x.2
def vN(τ:Ty)(x:τ.V):Tree:=(bH τ x).headD (.sl 0 [])
theorem aMA:∀l:List Ex,RT l=l.flatMap cH
 |[]=>rfl
 |x::l=>by rw[RT,aMA l];rfl
theorem a8d(x:Ex):cH x=[.v (.int .i64 (Ex.op x)),.v (.int .i64 (Ex.num x)),.sl (gW (Ex.kids x)) ((Ex.kids x).flatMap cH)]:=by
 cases x with|mk a n ks=>rw[cH,aMA];rfl
theorem FZ(x:Ex):bH .ex x=[.v (.int .i64 (Ex.op x)),.v (.int .i64 (Ex.num x)),.sl (gW (Ex.kids x)) ((Ex.kids x).flatMap cH)]:=a8d x
theorem eA:∀(τ:Ty)(x:τ.V),(bH τ x).length=τ.size
 |.i _,_=>rfl
 |.u8,_=>rfl
 |.bo,_=>rfl
 |.tx,_=>rfl
 |.ex,x=>by have:=bE gW (FZ x);exact this
 |.sl _,_=>rfl
 |.pr a b,x=>by rw[bH,List.length_append,eA a,eA b];rfl
theorem size_pos:∀τ:Ty,0<τ.size
 |.i _=>Rz
 |.u8=>Rz
 |.bo=>Rz
 |.tx=>Rz
 |.ex=>by decide
 |.sl _=>Rz
 |.pr a b=>by have:=size_pos a;simp only[Ty.size];omega
theorem Jf{τ:Ty}(h:τ.one=true)(x:τ.V):bH τ x=[vN τ x]:=by
 cases τ <;> first|rfl|cases h
def mO:Nat->Value->Value->Prop
 |0,a,v=>v = .pointer none\/v=a
 |_,a,v=>∃p,v = .pointer p/\∀x n c,a = .slice x n c->0<n->p=x
mutual
def X.D:X->D
 |.e τ x=>match τ.one with|true=>.t (vN τ x)|false=>.any
 |.cC=>.t (.v (.slice none 0 0))
 |.agg xs=>.agg (Ds xs)
 |.bD xs=>.bD (Ds xs)
 |.own k=>.own k
 |.ref k off=>.ref k off
 |.rr k i j s=>.ref k (i*s+j)
 |.pt τ y j=>.ptr (bH τ y) j
 |.fn f xs=>.fn f (Ds xs)
 |.v w=>.t (.v w)
 |.bit _ q=>.t (.v (.bool q))
 |.eX _ c x=>match c with|true=>X.D x|false=>.bD []
 |.sub k i=>.sub k i
 |.jH k i j=>.jH k i j
 |.vw k i n s=>.vw k (i*s) n
 |.via k j=>.via k (mO j)
 |.dY _=>.any
def Ds:List X->List D
 |[]=>[]
 |x::l=>X.D x::Ds l
end
theorem aL5(g:Nat):(J8 g).D=RN g:=match g with
 |0=>by kernel_rfl
 |1=>by kernel_rfl
 |2=>by kernel_rfl
 |3=>by kernel_rfl
 |g+4=>rfl
theorem fO:∀l:List X,Ds l=l.map X.D
 |[]=>rfl
 |x::l=>by rw[Ds,fO l];rfl
def kv:(τ:Ty)->τ.V->Value
 |.i k,x=>.int k x
 |.u8,x=>.int .u8 (aAe x)
 |.bo,x=>.bool x
 |.tx,x=>.string ⟨⟨x⟩⟩
 |_,_=>.nilFunc
def mV{κ ρ:Ty}(x:List κ.V×ρ.V):List NC:=.fQ (gW x.1) (iY (bH κ) x.1)::(bH ρ x.2).map λt=>.q9 (.t t)
def vF(m:Nat)(cs:List NC):Option (Int×Nat)->List NC
 |none=>cs
 |some (i,q)=>cs.set (i.toNat*m) (.q9 (.own q))
def XO.A:XO->aZ
 |.dZ e e' κ ρ l ln=>.dZ e e' (1+ρ.size) κ.size l.length (vF (1+ρ.size) (iY mV l) ln)
 |.box e xs=>.box e (xs.map X.D)
 |.row e τ l st=>.row e τ.size l.length (l.flatMap (bH τ)) st
 |.nest e e' τ l=>.nest e e' τ.size (l.map λr=>(gW r,iY (bH τ) r))
 |.mp τ l=>.mp (l.map λp=>(kv τ p.1,p.2.D))
 |.it s pos=>.it ⟨s.toArray⟩ pos.toNat
theorem qZ{τ:Ty}(h:τ.one=true)(x:τ.V):(X.e τ x).D = .t (vN τ x):=by unfold X.D;rw[h]
theorem F4:∀(τ:Ty)(x:τ.V),(yZ τ x).map X.D=(bH τ x).map .t
 |.i _,_=>rfl
 |.u8,_=>rfl
 |.bo,_=>rfl
 |.tx,_=>rfl
 |.ex,x=>by
   have:=bE (List.map D.t) (FZ x);exact this.symm
 |.sl _,_=>rfl
 |.pr a b,x=>by rw[yZ,bH,rG,rG,F4 a,F4 b]
theorem aMT{a b:Ty}(h:a=b)(x:a.V):bH b (oI h x)=bH a x:=by subst h;rfl
theorem cG.nil{H:Nat->Option aZ}:cG H (.t (.v (.slice none 0 0))) (.t (.sl 0 [])):=λ_ _ _ _ _ _ _ _ v hv=>by
 have:=cL hv;subst this;exact .t (.nil λ_=>rfl)
theorem cG.own{H:Nat->Option aZ}{k:Nat}{e:TypeId}{s n:Nat}{ts:List Tree}(h:H k=some (.row e s n ts true)):cG H (.own k) (.t (.sl n ts)):=λ_ _ _ _ _ _ hH I v hv=>by
 cases hv with|own _ _=>exact .t (I.rows _ _ _ _ _ _ (hH _ _ h) rfl)
theorem qN{H:Nat->Option aZ}{τ:Ty}{x:X}{y:τ.V}(h1:τ.one=true)(h:one? τ x=some y):cG H x.D (.t (vN τ y)):=by
 unfold one? at h;split at h
 .rename_i τ' z
  split at h
  .rename_i he _
   cases h;have e:=he;subst e;rw[qZ h1];exact cG.refl
  .cases h
 .split at h
  .cases h;exact cG.nil
  .cases h
 .cases h
inductive eJ (H:Nat->Option aZ):List D->List D->Prop
 |nil:eJ H [] []
 |cons {a b:D} {l m:List D} (h:cG H a b) (r:eJ H l m):eJ H (a::l) (b::m)
theorem eJ.refl{H:Nat->Option aZ}:∀{l:List D},eJ H l l
 |[]=>.nil
 |_::_=>.cons cG.refl eJ.refl
theorem eJ.trans{H:Nat->Option aZ}:∀{a b c:List D},eJ H a b->eJ H b c->eJ H a c
 |_,_,_,.nil,.nil=>.nil
 |_,_,_,.cons h r,.cons h' r'=>.cons (h.trans h') (r.trans r')
theorem eJ.app{H:Nat->Option aZ}:∀{a b c d:List D},eJ H a b->eJ H c d->eJ H (a++c) (b++d)
 |_,_,_,_,.nil,h=>h
 |_,_,_,_,.cons h r,h'=>.cons h (r.app h')
theorem eJ.len{H:Nat->Option aZ}{a b:List D}(h:eJ H a b):a.length=b.length:=by
 induction h with
 |nil=>rfl
 |cons _ _ ih=>simp[ih]
theorem eJ.get{H:Nat->Option aZ}{a b:List D}(h:eJ H a b):∀(i:Nat)(d:D),b[i]?=some d->∃d0,a[i]?=some d0/\cG H d0 d:=by
 induction h with
 |nil=>intro i d h;simp at h
 |cons h r ih=>
   intro i d hi;cases i with
   |zero=>simp at hi;subst hi;exact⟨_,rfl,h⟩
   |succ i=>exact ih i d (by simpa using hi)
theorem eJ.of_map{H:Nat->Option aZ}{f g:X->D}:∀{l:List X},(∀x∈l,cG H (f x) (g x))->eJ H (l.map f) (l.map g)
 |[],_=>.nil
 |_::_,h=>.cons (h _ (by simp)) (eJ.of_map λx hx=>h x (by simp[hx]))
theorem cG.agg{H:Nat->Option aZ}{a b:List D}(h:eJ H a b):cG H (.agg a) (.agg b):=λE s ν G w tm hH I v hv=>by
 cases hv with
 |agg hl hr h1=>
   refine .agg (hl.trans h.len) (λi u d hu hd=>?_) h1;obtain⟨d0,e0,hw⟩:=h.get i d hd;exact hw E s ν G w tm hH I u (hr i u d0 hu e0)
theorem Z9{H:Nat->Option aZ}:∀(τ:Ty)(xs:List X)(y:τ.V)(r:List X),qS τ xs=some (y,r)->∃pre,xs=pre++r/\eJ H (pre.map X.D) ((bH τ y).map .t)
 |.pr a b,xs,y,r,h=>by
   unfold qS at h;split at h
   .rename_i x r1 h1
    split at h
    .rename_i z r2 h2
     cases h;obtain⟨p1,e1,w1⟩:=Z9 (H:=H) a xs x r1 h1;obtain⟨p2,e2,w2⟩:=Z9 (H:=H) b r1 z r h2;refine⟨p1++p2,by rw[e1,e2,List.append_assoc],?_⟩;have e3:(bH (.pr a b) (x,z)).map D.t=(bH a x).map D.t++(bH b z).map D.t:=by rw[<-rG];rfl
     rw[e3,rG];exact w1.app w2
    .cases h
   .cases h
 |.ex,[],y,r,h=>by cases h
 |.ex,[_],y,r,h=>by cases h
 |.ex,[_,_],y,r,h=>by cases h
 |.ex,a::b::c::r',y,r,h=>by
   simp only[qS]at h;split at h
   .rename_i x h1
    split at h
    .rename_i z h2
     split at h
     .rename_i u h3
      cases h;refine⟨[a,b,c],rfl,?_⟩;rw[FZ];exact .cons (qN rfl h1) (.cons (qN rfl h2) (.cons (qN rfl h3) .nil))
     .cases h
    .cases h
   .cases h
 |.i k,[],y,r,h=>by cases h
 |.i k,x::l,y,r,h=>by
   unfold qS at h;split at h
   .rename_i z h1;cases h;exact⟨[x],rfl,.cons (qN rfl h1) .nil⟩
   .cases h
 |.u8,[],y,r,h=>by cases h
 |.u8,x::l,y,r,h=>by
   unfold qS at h;split at h
   .rename_i z h1;cases h;exact⟨[x],rfl,.cons (qN rfl h1) .nil⟩
   .cases h
 |.bo,[],y,r,h=>by cases h
 |.bo,x::l,y,r,h=>by
   unfold qS at h;split at h
   .rename_i z h1;cases h;exact⟨[x],rfl,.cons (qN rfl h1) .nil⟩
   .cases h
 |.tx,[],y,r,h=>by cases h
 |.tx,x::l,y,r,h=>by
   unfold qS at h;split at h
   .rename_i z h1;cases h;exact⟨[x],rfl,.cons (qN rfl h1) .nil⟩
   .cases h
 |.sl t,[],y,r,h=>by cases h
 |.sl t,x::l,y,r,h=>by
   unfold qS at h;split at h
   .rename_i z h1;cases h;exact⟨[x],rfl,.cons (qN rfl h1) .nil⟩
   .cases h
theorem sO{H:Nat->Option aZ}{τ:Ty}{xs:List X}{y:τ.V}(h:yS τ xs=some y):eJ H (xs.map X.D) ((bH τ y).map .t):=by
 unfold yS at h;split at h
 .rename_i z h1
  cases h;obtain⟨pre,e,hw⟩:=Z9 (H:=H) τ xs y [] h1;rw[e,List.append_nil];exact hw
 .cases h
def Vw.den(σ:Vw):St:=⟨λt=>(σ.T t).map X.D,λk=>(σ.H k).map XO.A,λ_=>false⟩
theorem gJ{σ:Vw}{k:Nat}{o:XO}(h:σ.H k=some o):σ.den.H k=some o.A:=by simp[Vw.den,h]
theorem q8{σ:Vw}{t:Nat}{x:X}(h:σ.T t=some x):σ.den.T t=some x.D:=by simp[Vw.den,h]
theorem FU(σ:Vw)(x:X):cG σ.den.H x.D (σ.lD x).D:=by
 unfold Vw.lD;split
 .rename_i q
  split
  .rename_i e τ l h
   exact cG.own (e:=e) (s:=τ.size) (by rw[gJ h];rfl)
  .exact cG.refl
 .exact cG.refl
theorem Zj(σ:Vw)(x:X):cG σ.den.H x.D (σ.qW x).D:=by
 unfold Vw.qW;split
 .rename_i xs
  unfold X.D;rw[fO,fO,List.map_map];exact cG.agg (eJ.of_map (f:=X.D) (g:=X.D ∘ σ.lD) λx _=>FU σ x)
 .exact FU σ _
theorem a9H{x:X}(h:x.val=true)(h':x.D.val=true):x.D.cells=x.cells.map X.D:=by
 cases x with
 |agg xs=>unfold X.D;rw[fO];rfl
 |e τ y=>
   unfold X.D X.cells;cases hτ:τ.one with
   |true=>simp[D.cells,qZ hτ]
   |false=>rw[show(X.e τ y).D = .any by unfold X.D;rw[hτ]]at h';cases h'
 |bD xs=>cases h
 |eX key c x=>cases h
 |bit j q=>cases h
 |cC=>rfl
 |own k=>rfl
 |ref k off=>rfl
 |rr k i j s=>rfl
 |pt τ y j=>rfl
 |fn f xs=>rfl
 |v w=>rfl
 |sub k i=>rfl
 |jH k i j=>rfl
 |vw k i n s=>rfl
 |via k j=>rfl
 |dY v=>cases h
end Go.Ax
/- States of the run, and a region whose operations run one after the other. -/
namespace Go.Ax
open aA
open Go.RowKit Go.Ab
theorem bL{α:Type}{x:Option α}{k:α->O}{r:aE}(h:ob x k=some r):∃y,x=some y/\k y=some r:=by
 unfold ob at h;split at h
 .exact⟨_,rfl,h⟩
 .cases h
theorem zB{b:Bool}{x y:O}{r:aE}(h:br b x y=some r):(b=true/\x=some r)\/(b=false/\y=some r):=by
 cases b
 .exact .inr ⟨rfl,h⟩
 .exact .inl ⟨rfl,h⟩
theorem jL{b:Bool}{x:O}{r:aE}(h:ck b x=some r):b=true/\x=some r:=by
 cases b
 .cases h
 .exact⟨rfl,h⟩
theorem Zg{α:Type}{l:List α}{n:Int}{k:α->O}{r:aE}(h:gx l n k=some r):∃y,0<=n/\l[n.toNat]?=some y/\k y=some r:=by
 change FT l n k=some r at h;unfold FT at h;split at h
 .rename_i y hy
  split at hy
  .cases hy
  .exact⟨y,by omega,hy,h⟩
 .cases h
theorem vH{α:Type}{l:List α}{n:Nat}{k:α->O}{r:aE}(h:gn l n k=some r):∃y,l[n]?=some y/\k y=some r:=by
 change J7 l n k=some r at h;unfold J7 at h;split at h
 .exact⟨_,‹_›,h⟩
 .cases h
theorem rA{a b:Nat}(h:bR a b=false):a≠b:=λe=>by subst e;simp at h
theorem oB{a b:Nat}(h:a≠b):bR a b=false:=by
 cases hb:bR a b with
 |false=>rfl
 |true=>exact absurd (cA hb) h
theorem Rh{w q:Bool}(h:zA w q=true):q=w:=by cases w <;> cases q <;> first|rfl|cases h
theorem Ri{w q:Bool}(h:zA w q=false):q=!w:=by cases w <;> cases q <;> first|rfl|cases h
theorem pP{α:Type}{k:Nat}:∀{l:List (Nat×α)},lk k l=Ab.look k l
 |[]=>rfl
 |(k',x)::l=>by
   unfold lk Ab.look;by_cases e:k'=k
   .subst e;simp
   .have:bR k' k=false:=oB e
    rw[this,aD e];exact pP
theorem l9{α β:Type}{k:Nat}{x:α}:∀{l:List (Nat×α)}{f:List (Nat×α)->Option β}{r:β},k9 k x l f=some r->∃l',f l'=some r/\∀k',lk k' l'=if k=k' then some x else lk k' l
 |[],f,r,h=>⟨_,h,λk'=>by
   simp only[lk];by_cases e:k=k'
   .subst e;simp
   .have:bR k k'=false:=oB e
    rw[this,aD e]⟩
 |(k',y)::l,f,r,h=>by
   unfold k9 at h;split at h
   .rename_i he
    have he:=cA he;subst he;refine⟨_,h,λj=>?_⟩;simp only[lk];by_cases e:k'=j
    .subst e;simp
    .have:bR k' j=false:=oB e
     rw[this,aD e]
   .rename_i he
    have he:=rA he;obtain⟨l',h1,h2⟩:=l9 h;refine⟨_,h1,λj=>?_⟩;simp only[lk];by_cases e:k'=j
    .subst e
     rw[aD (λe=>he e.symm)];simp
    .have:bR k' j=false:=oB e
     rw[this];exact h2 j
theorem Ji{α β:Type}{k:Nat}:∀{l:List (Nat×α)}{f:List (Nat×α)->Option β}{r:β},sT k l f=some r->∃l',f l'=some r/\∀k',lk k' l'=if k=k' then none else lk k' l
 |[],f,r,h=>⟨_,h,λk'=>by simp[lk]⟩
 |(k',y)::l,f,r,h=>by
   unfold sT at h;split at h
   .rename_i he
    have he:=cA he;subst he;obtain⟨l',h1,h2⟩:=Ji h;refine⟨_,h1,λj=>?_⟩;rw[h2];simp only[lk];by_cases e:k'=j
    .simp[e]
    .have:bR k' j=false:=oB e
     rw[this]
   .rename_i he
    have he:=rA he;obtain⟨l',h1,h2⟩:=Ji h;refine⟨_,h1,λj=>?_⟩;simp only[lk];by_cases e:k'=j
    .subst e
     rw[aD (λe=>he e.symm)];simp
    .have:bR k' j=false:=oB e
     rw[this];exact h2 j
theorem Ek{dst:Option Tmp}{x:X}{T:XT}{f:XT->O}{r:aE}(h:u5 dst x T f=some r):∃T',f T'=some r/\∀t,lk t T'=if dst=some t then some x else lk t T:=by
 cases dst with
 |none=>exact⟨T,h,λt=>by simp⟩
 |some d=>
   obtain⟨T',h1,h2⟩:=l9 h;refine⟨T',h1,λt=>?_⟩;rw[h2];by_cases e:d=t
   .simp[e]
   .simp[e]
theorem Bm:∀{W:Wx}{H:XH}{f:XH->O}{r:aE},pD W H f=some r->∃H',f H'=some r/\∀k,lk k H'=match Ab.look k W with|some o=>o|none=>lk k H
 |[],H,f,r,h=>⟨H,h,λk=>rfl⟩
 |(k0,some o)::W,H,f,r,h=>by
   unfold pD at h;obtain⟨H1,h1,h2⟩:=Bm h;obtain⟨H2,h3,h4⟩:=l9 h1;refine⟨H2,h3,λk=>?_⟩;rw[h4];unfold Ab.look;by_cases e:k0=k
   .simp[e]
   .simp only[aD e];exact h2 k
 |(k0,none)::W,H,f,r,h=>by
   unfold pD at h;obtain⟨H1,h1,h2⟩:=Bm h;obtain⟨H2,h3,h4⟩:=Ji h1;refine⟨H2,h3,λk=>?_⟩;rw[h4];unfold Ab.look;by_cases e:k0=k
   .simp[e]
   .simp only[aD e];exact h2 k
def Good(κ:Nat->Bool):X->Prop
 |.bit j q=>κ (2*j+1)=q/\κ (2*j)=!q
 |.eX key c x=>c=κ key/\(match x with|.bit j q=>κ (2*j+1)=(c&&q)/\κ (2*j)=(c&&!q)|.eX ..=>False|_=>True)
 |_=>True
theorem FB{κ:Nat->Bool}{x:X}(h:x.pl=true):Good κ x:=by
 cases x <;> first|exact sX|cases h
structure Vw.Ok(σ:Vw)(κ:Nat->Bool):Prop where
 qV:∀t x,σ.T t=some x->Good κ x
 g:∀key c,σ.g=some (key,c)->c=κ key
def Vw.On(σ:Vw):Prop:=∀key c,σ.g=some (key,c)->c=true
def WA(W:Wx):Wr:=W.map λp=>(p.1,p.2.map XO.A)
theorem ZX{k:Nat}:∀{W:Wx},Ab.look k (WA W)=(Ab.look k W).map (·.map XO.A)
 |[]=>rfl
 |(k',o)::W=>by
   unfold WA Ab.look;simp only[iB];by_cases e:k'=k
   .simp[e]
   .rw[aD e]
    have:=ZX (k:=k) (W:=W);unfold WA at this;simp only[aD e];exact this
def Rn(c:Cx):Prop:=∀(σ:Vw)(κ:Nat->Bool)(fr:Nat)(st:Bool)(o:Oper)(k:X->Wx->O)(r:aE),σ.Ok κ->eM c σ fr st o k=some r->∃x W,k x W=some r/\x.pl=true/\(σ.On->bI c.P o σ.den fr x.D (WA W))
def Rt(c:Cx):Prop:=∀(σ:Vw)(κ:Nat->Bool)(fr:Nat)(o:Oper)(k:X->Wx->O)(kp:Value->Wx->O)(els:O)(r:aE),σ.Ok κ->σ.g=none->Qg c σ fr o k kp els=some r->
 els=some r\/(∃x W,k x W=some r/\x.pl=true/\(σ.On->bI c.P o σ.den fr x.D (WA W)))\/∃v W,kp v W=some r/\(σ.On->tA c.P o σ.den fr v (WA W))
structure gO(T:XT)(H:XH)(s:St):Prop where
 T:∀t x,lk t T=some x->s.T t=some x.D
 H:∀k o,lk k H=some o->s.H k=some o.A
theorem Ry{P:Program}{o:Oper}{σ s:St}{fr:Nat}{d:D}{W:Wr}(h:bI P o σ fr d W)(hT:∀t d,σ.T t=some d->s.T t=some d)(hH:∀k o,σ.H k=some o->s.H k=some o):bI P o s fr d W:=
 λE σ₁ a w h1 h2 h3 h4 h5 h6 Q=>h E σ₁ a w (λt d ht=>h1 t d (hT t d ht)) (λk o hk=>h2 k o (hH k o hk)) h3 h4 h5 h6 Q
theorem aMf{P:Program}{o:Oper}{σ s:St}{fr:Nat}{v:Value}{W:Wr}(h:tA P o σ fr v W)(hT:∀t d,σ.T t=some d->s.T t=some d)(hH:∀k o,σ.H k=some o->s.H k=some o):tA P o s fr v W:=
 λE σ₁ a w h1 h2 h3 h4 h5=>h E σ₁ a w (λt d ht=>h1 t d (hT t d ht)) (λk o hk=>h2 k o (hH k o hk)) h3 h4 h5
theorem gO.bC{T T':XT}{H H':XH}{s:St}(h:gO T H s){dst:Option Tmp}{x:X}{W:Wx}{fr:Nat}(hT:∀t,lk t T'=if dst=some t then some x else lk t T)(hH:∀k,lk k H'=match Ab.look k W with|some o=>o|none=>lk k H):
    gO T' H' (s.bC dst x.D (WA W) fr) where
 T:=λt y ht=>by
  rw[hT]at ht;simp only[St.bC];by_cases e:dst=some t
  .rw[aJ e]at ht ⊢;cases ht;rfl
  .rw[aD e]at ht ⊢;exact h.T t y ht
 H:=λk o hk=>by
  rw[hH]at hk;simp only[St.bC,ZX];cases hl:Ab.look k W with
  |none=>simp only[hl]at hk;exact h.H k o hk
  |some o'=>simp only[hl]at hk;simp[hk]
def lJ(κ:Nat->Bool)(j:Nat)(a b:Bool)(k:Nat):Bool:=if k=2*j+1 then a else if k=2*j then b else κ k
theorem aBD{κ:Nat->Bool}{j:Nat}{a b:Bool}:lJ κ j a b (2*j+1)=a:=by simp[lJ]
theorem aBE{κ:Nat->Bool}{j:Nat}{a b:Bool}:lJ κ j a b (2*j)=b:=by
 unfold lJ;rw[aD (by omega),aJ rfl]
theorem Good.set{κ:Nat->Bool}{j:Nat}{a b:Bool}{x:X}(h:Good κ x)(hu:sC j x=false):Good (lJ κ j a b) x:=by
 have bt:∀j',bR j' j=false->lJ κ j a b (2*j'+1)=κ (2*j'+1)/\lJ κ j a b (2*j')=κ (2*j'):=λj' hj=>by
  have:=rA hj;unfold lJ;exact⟨by rw[aD (by omega),aD (by omega)],by rw[aD (by omega),aD (by omega)]⟩
 cases x with
 |bit j' q=>
   simp only[sC]at hu;obtain⟨h1,h2⟩:=h;exact⟨(bt j' hu).1.trans h1,(bt j' hu).2.trans h2⟩
 |eX key c y=>
   simp only[sC,aNF]at hu;obtain⟨⟨hu1,hu2⟩,hu3⟩:=hu;obtain⟨h1,h2⟩:=h;have hk:lJ κ j a b key=κ key:=by
    have:=rA hu1;have:=rA hu2;unfold lJ;rw[aD (by omega),aD (by omega)]
   refine⟨h1.trans hk.symm,?_⟩;cases y with
   |bit j' q=>
     simp only at hu3 h2 ⊢;exact⟨(bt j' hu3).1.trans h2.1,(bt j' hu3).2.trans h2.2⟩
   |eX _ _ _=>exact h2
   |_=>exact sX
 |_=>exact sX
theorem Zo{j:Nat}:∀{T:XT},J9 j T=true->∀t x,lk t T=some x->sC j x=false
 |[],_,t,x,h=>by cases h
 |(t',y)::l,hf,t,x,h=>by
   unfold J9 at hf;split at hf
   .cases hf
   .rename_i hu
    unfold lk at h;split at h
    .cases h;exact hu
    .exact Zo hf t x h
theorem aM2{κ:Nat->Bool}{j:Nat}{q w:Bool}(h1:κ (2*j+1)=q)(h2:κ (2*j)=!q):κ (CN j w)=zA w q:=by
 cases w
 .exact h2
 .exact h1
theorem aM1{κ:Nat->Bool}{j:Nat}{c q w:Bool}(h1:κ (2*j+1)=(c&&q))(h2:κ (2*j)=(c&&!q)):κ (CN j w)=(c&&zA w q):=by
 cases w
 .exact h2
 .exact h1
theorem aL3{o:Oper}{ops:List Oper}{T:Nat->Option X}{g:Gd}(h:RJ o ops T=some g):match g with
    |.on=>o.guard=none
    |.off=>∃j w t,o.guard=some (j,w)/\(ops[j]?).bind (·.dst)=some t/\T t=some (.bD [])
    |.kn b=>∃j w t v,o.guard=some (j,w)/\(ops[j]?).bind (·.dst)=some t/\T t=some (.v (.bool v))/\(b=true->v=w)/\(b=false->v=!w)
    |.cd key b t j y new=>∃w x,o.guard=some (j,w)/\(ops[j]?).bind (·.dst)=some t/\T t=some x/\key=CN j w/\y.D=x.D/\(b=true->x.D = .t (.v (.bool w)))/\(b=false->x.D = .bD []\/x.D = .t (.v (.bool (!w)))) /\
        ∀κ:Nat->Bool,Good κ x->(new=false->Good κ y/\b=κ key)/\(new=true->∃a c,∀κ':Nat->Bool,κ' (2*j+1)=a->κ' (2*j)=c->(∀key' c' x',x = .eX key' c' x'->κ' key'=κ key')->Good κ' y/\b=κ' key):=by
 unfold RJ at h;split at h
 .cases h;assumption
 .rename_i j w hg
  split at h
  case h_2=>cases h
  rename_i oj hj;split at h
  case h_2=>cases h
  rename_i t ht;have hdst:(ops[j]?).bind (·.dst)=some t:=by rw[hj];exact ht
  split at h
  .rename_i q hT
   cases h;refine⟨w,_,hg,hdst,hT,rfl,rfl,λhb=>?_,λhb=>?_,λκ _=>⟨λh=>(by cases h),λ_=>⟨q,!q,λκ' h1 h2 _=>⟨⟨h1,h2⟩,(aM2 h1 h2).symm⟩⟩⟩⟩
   .exact bE (λb=>D.t (.v (.bool b))) (Rh hb)
   .exact .inr (bE (λb=>D.t (.v (.bool b))) (Ri hb))
  .rename_i j' q hT
   split at h
   .rename_i he
    have he:=cA he;subst he;cases h;refine⟨w,_,hg,hdst,hT,rfl,rfl,λhb=>?_,λhb=>?_,λκ hG=>⟨λ_=>⟨hG,(aM2 hG.1 hG.2).symm⟩,λh=>by cases h⟩⟩
    .exact bE (λb=>D.t (.v (.bool b))) (Rh hb)
    .exact .inr (bE (λb=>D.t (.v (.bool b))) (Ri hb))
   .cases h
  .rename_i key c q hT
   cases h;refine⟨w,_,hg,hdst,hT,rfl,by cases c <;> rfl,λhb=>?_,λhb=>?_,λκ hG=>⟨λh=>(by cases h),λ_=>⟨c&&q,c&&!q,λκ' h1 h2 h3=>⟨⟨hG.1.trans (h3 key c _ rfl).symm,h1,h2⟩,(aM1 h1 h2).symm⟩⟩⟩⟩
   .simp only[bM]at hb
    obtain⟨hc,hb⟩:=hb;subst hc;exact bE (λb=>D.t (.v (.bool b))) (Rh hb)
   .cases c
    .left;rfl
    .right
     exact bE (λb=>D.t (.v (.bool b))) (Ri hb)
  .rename_i key c j' q hT
   split at h
   .rename_i he
    have he:=cA he;subst he;cases h;refine⟨w,_,hg,hdst,hT,rfl,rfl,λhb=>?_,λhb=>?_,λκ hG=>⟨λ_=>⟨hG,(aM1 hG.2.1 hG.2.2).symm⟩,λh=>by cases h⟩⟩
    .simp only[bM]at hb
     obtain⟨hc,hb⟩:=hb;subst hc;exact bE (λb=>D.t (.v (.bool b))) (Rh hb)
    .cases c
     .left;rfl
     .right
      exact bE (λb=>D.t (.v (.bool b))) (Ri hb)
   .cases h
  .rename_i hT
   cases h;exact⟨j,w,t,hg,hdst,hT⟩
  .rename_i v hT
   cases h;refine⟨j,w,t,v,hg,hdst,hT,λh=>?_,λh=>?_⟩
   .cases v <;> cases w <;> first|rfl|cases h
   .cases v <;> cases w <;> first|rfl|cases h
  .cases h
end Go.Ax
/- A region whose operations run one after the other. -/
namespace Go.Ax
open aA
open Go.RowKit Go.Ab
theorem aAD{k:Nat}:∀{l:XT}{f:XT->O}{r:aE},sT k l f=some r->mC l=true->∃l',f l'=some r/\(∀k',lk k' l'=if k=k' then none else lk k' l)/\mC l'=true
 |[],f,r,h,_=>⟨_,h,(λk'=>by simp[lk]),rfl⟩
 |(k',y)::l,f,r,h,hp=>by
   have hp':=hp;unfold mC at hp';split at hp'
   case h_2=>cases hp'
   rename_i hy;unfold sT at h;split at h
   .rename_i he
    have he:=cA he;subst he;obtain⟨l',h1,h2,h3⟩:=aAD h hp';refine⟨l',h1,λj=>?_,h3⟩;rw[h2];simp only[lk];by_cases e:k'=j
    .simp[e]
    .rw[oB e]
   .rename_i he
    have he:=rA he;obtain⟨l',h1,h2,h3⟩:=aAD h hp';refine⟨_,h1,λj=>?_,by unfold mC;rw[hy];exact h3⟩;simp only[lk];by_cases e:k'=j
    .subst e
     rw[aD (λe=>he e.symm)];simp
    .rw[oB e]
     exact h2 j
theorem Yq:∀{T:XT},mC T=true->∀t x,lk t T=some x->x.pl=true
 |[],_,t,x,h=>by cases h
 |(t',y)::l,hf,t,x,h=>by
   unfold mC at hf;split at hf
   case h_2=>cases hf
   rename_i hy;unfold lk at h;split at h
   .cases h;exact hy
   .exact Yq hf t x h
theorem JU:∀{T:XT}{f:XT->O}{r:aE},sI T f=some r->∃T',f T'=some r/\(∀t x,lk t T'=some x->∃y,lk t T=some y/\x.D=y.D)/\mC T'=true
 |[],f,r,h=>⟨[],h,(λt x h=>by cases h),rfl⟩
 |(t0,x0)::l,f,r,h=>by
   unfold sI at h;have key:∀(x1:X)(_:x1.pl=true)(_:x1.D=x0.D)(_:sI l (λl'=>f ((t0,x1)::l'))=some r),∃T',f T'=some r/\(∀t x,lk t T'=some x->∃y,lk t ((t0,x0)::l)=some y/\x.D=y.D)/\mC T'=true:=λx1 hp hD hh=>by
    obtain⟨l',h1,h2,h3⟩:=JU hh;refine⟨_,h1,λt x ht=>?_,by unfold mC;rw[hp];exact h3⟩;unfold lk at ht ⊢;split at ht
    .rename_i he;cases ht;exact⟨x0,rfl,hD⟩
    .rename_i he;exact h2 t x ht
   split at h
   .rename_i j q;exact key (.e .bo q) rfl rfl h
   .rename_i key0 c y
    obtain⟨l',h1,h2,h3⟩:=JU h;obtain⟨l2,h4,h5,h6⟩:=aAD h1 h3;refine⟨l2,h4,λt x ht=>?_,h6⟩;rw[h5]at ht;split at ht
    .cases ht
    .rename_i he
     unfold lk;rw[oB he];exact h2 t x ht
   .rename_i q;exact key (.e .bo q) rfl rfl h
   .rename_i h1 h2 h3
    refine key x0 ?_ rfl h;cases x0 with
    |bit j q=>exact absurd rfl (h1 j q)
    |eX k c y=>exact absurd rfl (h2 k c y)
    |_=>rfl
theorem aKy{W:Wx}{k:O}{r:aE}(h:ZG W k=some r):W=[]/\k=some r:=by
 cases W with
 |nil=>exact⟨rfl,h⟩
 |cons _ _=>cases h
theorem gO.T'{T T':XT}{H:XH}{s:St}(h:gO T H s)(hT:∀t x,lk t T'=some x->∃y,lk t T=some y/\x.D=y.D):gO T' H s:=
 ⟨λt x ht=>let⟨y,h1,h2⟩:=hT t x ht;by rw[h2];exact h.T t y h1,h.H⟩
theorem Ey{c:Cx}(hs:Rn c)(hpn:Rt c){stF:List Nat}{all:List Oper}:∀(l:List Oper)(i:Nat)(σ:Sg)(k:Exit->Sg->O)(r:aE)(s:St)(κ:Nat->Bool),kJ c stF all l i σ k=some r->gO σ.T σ.H s->(∀t x,lk t σ.T=some x->Good κ x)->
    ∃e σ',k e σ'=some r/\σ'.N=σ.N+8*l.length/\mC σ'.T=true/\nA c.P all.toArray (λe' s'=>e'=e/\gO σ'.T σ'.H s') l σ.N s
 |[],i,σ,k,r,s,κ,h,hL,hG=>by
   unfold kJ at h;obtain⟨T',h1,h2,h3⟩:=JU h;exact⟨.normal,_,h1,rfl,h3,rfl,hL.T' h2⟩
 |o::rest,i,σ,k,r,s,κ,h,hL,hG=>by
   unfold kJ at h;obtain⟨g,hg,h⟩:=bL h;have hg':=aL3 hg;have hall:∀{j:Nat}{t:Tmp},(all[j]?).bind (·.dst)=some t->((all.toArray[j]?).bind (·.dst))=some t:=λh=>by simpa using h
   have onK:∀(T1:XT),gO T1 σ.H s->(∀t x,lk t T1=some x->Good κ x)->rK all.toArray o s->(Es c σ T1 (!(stF.contains i)) o (rest.length+1) k λσ'=>kJ c stF all rest (i+1) σ' k)=some r->
       ∃e σ',k e σ'=some r/\σ'.N=σ.N+8*(o::rest).length/\mC σ'.T=true/\nA c.P all.toArray (λe' s'=>e'=e/\gO σ'.T σ'.H s') (o::rest) σ.N s:=λT1 hL1 hG1 hgd h=>by
    have hok:Vw.Ok ⟨λt=>lk t T1,λk=>lk k σ.H,none⟩ κ:=⟨hG1,λkey c h=>by cases h⟩;have hTT:∀t d,(Vw.den ⟨λt=>lk t T1,λk=>lk k σ.H,none⟩).T t=some d->s.T t=some d:=λt d ht=>by
     simp only[Vw.den]at ht;obtain⟨y,hy,rfl⟩:=cV.1 ht;exact hL1.T t y hy
    have hHH:∀q d,(Vw.den ⟨λt=>lk t T1,λk=>lk k σ.H,none⟩).H q=some d->s.H q=some d:=λq d ht=>by
     simp only[Vw.den]at ht;obtain⟨y,hy,rfl⟩:=cV.1 ht;exact hL1.H q y hy
    have nx:∀x W,(u5 o.dst x T1 λT=>pD W σ.H λH=>kJ c stF all rest (i+1) ⟨T,H,σ.N+8⟩ k)=some r->x.pl=true->bI c.P o (Vw.den ⟨λt=>lk t T1,λk=>lk k σ.H,none⟩) σ.N x.D (WA W)->
        ∃e σ',k e σ'=some r/\σ'.N=σ.N+8*(o::rest).length/\mC σ'.T=true/\nA c.P all.toArray (λe' s'=>e'=e/\gO σ'.T σ'.H s') (o::rest) σ.N s:=λx W h hp hop=>by
     obtain⟨T',h,hT⟩:=Ek h;obtain⟨H',h,hH⟩:=Bm h;have hop:=Ry (s:=s) hop hTT hHH;obtain⟨e,σ',h1,h2,h3,h4⟩:=Ey hs hpn rest (i+1) _ k r (s.bC o.dst x.D (WA W) σ.N) κ h (hL1.bC hT hH) (λt y ht=>by
      rw[hT]at ht;split at ht
      .cases ht;exact FB hp
      .exact hG1 t y ht)
     exact⟨e,σ',h1,by rw[h2];simp only[dD];omega,h3,.inl ⟨x.D,WA W,.inl ⟨hgd,hop⟩,h4⟩⟩
    unfold Es at h;rcases hpn _ κ _ _ _ _ _ _ hok rfl h with h|⟨x,W,h,hp,hop⟩|⟨v,W,h,hop⟩
    .obtain⟨x,W,h,hp,hop⟩:=hs _ κ _ _ _ _ _ hok h
     exact nx x W h hp (hop (λkey c h=>by cases h))
    .exact nx x W h hp (hop (λkey c h=>by cases h))
    .obtain⟨H',h,hH⟩:=Bm h
     obtain⟨T',h1,h2,h3⟩:=JU h;have hL2:gO T1 H' (s.bC none .any (WA W) σ.N):=hL1.bC (dst:=none) (x:=.bD []) (λt=>by simp) hH;exact⟨_,_,h1,by simp only[dD],h3,.inr (.inr ⟨v,WA W,hgd,aMf (hop (λkey c h=>by cases h)) hTT hHH,rfl,hL2.T' h2⟩)⟩
   have offK:∀(T1:XT),gO T1 σ.H s->(∀t x,lk t T1=some x->Good κ x)->Jt all.toArray o s->(Ep σ T1 o λσ'=>kJ c stF all rest (i+1) σ' k)=some r->
       ∃e σ',k e σ'=some r/\σ'.N=σ.N+8*(o::rest).length/\mC σ'.T=true/\nA c.P all.toArray (λe' s'=>e'=e/\gO σ'.T σ'.H s') (o::rest) σ.N s:=λT1 hL1 hG1 hgd h=>by
    unfold Ep at h;obtain⟨T',h,hT⟩:=Ek h;obtain⟨e,σ',h1,h2,h3,h4⟩:=Ey hs hpn rest (i+1) _ k r (s.bC o.dst (X.bD []).D (WA []) σ.N) κ h (hL1.bC hT (λq=>rfl)) (λt y ht=>by
     rw[hT]at ht;split at ht
     .cases ht;exact sX
     .exact hG1 t y ht)
    exact⟨e,σ',h1,by rw[h2];simp only[dD];omega,h3,.inl ⟨_,_,.inr ⟨hgd,rfl,rfl⟩,h4⟩⟩
   cases g with
   |on=>
     simp only at h hg';exact onK σ.T hL hG (.inl hg') h
   |off=>
     simp only at h hg';obtain⟨j,w,t,e1,e2,e3⟩:=hg';exact offK σ.T hL hG ⟨j,w,t,_,e1,hall e2,hL.T t _ e3,.inl rfl⟩ h
   |kn b=>
     obtain⟨j,w,t,v,e1,e2,e3,e4,e5⟩:=hg';cases b with
     |true=>
       have:=e4 rfl;subst this;exact onK σ.T hL hG (.inr ⟨j,v,t,e1,hall e2,hL.T t _ e3⟩) h
     |false=>
       have:=e5 rfl;subst this;exact offK σ.T hL hG ⟨j,w,t,_,e1,hall e2,hL.T t _ e3,.inr rfl⟩ h
   |cd key b t j y new=>
     simp only at h hg';obtain⟨w,x0,e1,e2,e3,e4,e5,e6,e7,e8⟩:=hg';split at h
     .split at h
      case h_2=>cases h
      rename_i jj q jg w' hgw;rw[e1]at hgw;obtain⟨rfl,rfl⟩:=a9u (fV hgw);have hx0:x0.D = .t (.v (.bool q)):=e5.symm;have key:∀(T1:XT)(v:Bool),q=v->(∀t',lk t' T1=if t=t' then some (.v (.bool v))else lk t' σ.T)->gO T1 σ.H s/\(∀t x,lk t T1=some x->Good κ x)/\s.T t=some (.t (.v (.bool v))):=λT1 v hq hT=>by
       subst hq;refine⟨hL.T' λt' x ht=>?_,λt' x ht=>?_,by rw[hL.T t x0 e3,hx0]⟩
       .rw[hT]at ht
        split at ht
        .rename_i he;cases ht;subst he;exact⟨x0,e3,hx0.symm⟩
        .exact⟨x,ht,rfl⟩
       .rw[hT]at ht
        split at ht
        .cases ht;exact sX
        .exact hG t' x ht
      rcases zB h with⟨hq,h⟩|⟨hq,h⟩
      .obtain⟨T1,h,hT1⟩:=l9 h
       obtain⟨k1,k2,k3⟩:=key T1 true hq hT1;cases w with
       |true=>exact onK T1 k1 k2 (.inr ⟨_,_,t,e1,hall e2,k3⟩) h
       |false=>exact offK T1 k1 k2 ⟨_,_,t,_,e1,hall e2,k3,.inr rfl⟩ h
      .obtain⟨T1,h,hT1⟩:=l9 h
       obtain⟨k1,k2,k3⟩:=key T1 false hq hT1;cases w with
       |true=>exact offK T1 k1 k2 ⟨_,_,t,_,e1,hall e2,k3,.inr rfl⟩ h
       |false=>exact onK T1 k1 k2 (.inr ⟨_,_,t,e1,hall e2,k3⟩) h
     split at h
     case h_2=>cases h
     rename_i hfree;obtain⟨T1,h,hT1⟩:=l9 h
     -- the keys
     have hκ:∃κ':Nat->Bool,(∀t x,lk t T1=some x->Good κ' x)/\b=κ' key:=by
      obtain⟨k1,k2⟩:=e8 κ (hG t x0 e3);cases hn:new with
      |false=>
        obtain⟨g1,g2⟩:=k1 hn;refine⟨κ,λt' x' ht=>?_,g2⟩;rw[hT1]at ht;split at ht
        .cases ht;exact g1
        .exact hG t' x' ht
      |true=>
        obtain⟨a,cc,k3⟩:=k2 hn;rw[hn]at hfree;have hf:J9 j σ.T=true:=by simpa using hfree
        obtain⟨g1,g2⟩:=k3 (lJ κ j a cc) aBD aBE (λkey' c' x' hx=>by
         have:=Zo hf t x0 e3;rw[hx]at this;simp only[sC,aNF]at this;have h1:=rA this.1.1;have h2:=rA this.1.2;unfold lJ;rw[aD (by omega),aD (by omega)])
        refine⟨lJ κ j a cc,λt' x' ht=>?_,g2⟩;rw[hT1]at ht;split at ht
        .cases ht;exact g1
        .exact(hG t' x' ht).set (Zo hf t' x' ht)
     obtain⟨κ',hG1,hb⟩:=hκ;have hL1:gO T1 σ.H s:=⟨λt' x' ht=>by
      rw[hT1]at ht;split at ht
      .rename_i he
       cases ht;subst he;rw[e5];exact hL.T t x0 e3
      .exact hL.T t' x' ht,hL.H⟩
     have hok:Vw.Ok ⟨λt=>lk t T1,λk=>lk k σ.H,some (key,b)⟩ κ':=⟨hG1,λkey' c' h=>by cases h;exact hb⟩;have hle:∀{x:D}{W:Wr},bI c.P o (Vw.den ⟨λt=>lk t T1,λk=>lk k σ.H,some (key,b)⟩) σ.N x W->bI c.P o s σ.N x W:=λhop=>Ry hop (λt d ht=>by
      simp only[Vw.den]at ht;obtain⟨y,hy,rfl⟩:=cV.1 ht;exact hL1.T t y hy) (λq d ht=>by
      simp only[Vw.den]at ht;obtain⟨y,hy,rfl⟩:=cV.1 ht;exact hL1.H q y hy)
     have hTt:=hL.T t x0 e3;have hoff:b=false->oM c.P all.toArray o s σ.N (.bD []) []:=λhb'=>.inr ⟨⟨j,w,t,_,e1,hall e2,hTt,e7 hb'⟩,rfl,rfl⟩
     have hgd:b=true->rK all.toArray o s:=λhb'=>.inr ⟨j,w,t,e1,hall e2,by rw[hTt,e6 hb']⟩
     split at h
     ·-- it runs under a condition
      obtain⟨x,W,h,hp,hop⟩:=hs _ κ' _ _ _ _ _ hok h;obtain⟨hW,h9⟩:=aKy h;subst hW;clear h;obtain⟨T',h,hT⟩:=Ek h9;have hG':∀t y,lk t T'=some y->Good κ' y:=λt' y' ht=>by
       rw[hT]at ht;split at ht
       .cases ht
        refine⟨hb,?_⟩;cases x with
        |bit j q=>cases hp
        |eX k c y=>cases hp
        |_=>exact sX
       .exact hG1 t' y' ht
      obtain⟨e,σ',h1,h2,h3,h4⟩:=Ey hs hpn rest (i+1) _ k r (s.bC o.dst (X.eX key b x).D (WA []) σ.N) κ' h (hL1.bC hT (λq=>rfl)) hG';refine⟨e,σ',h1,by rw[h2];simp only[dD];omega,h3,.inl ⟨_,_,?_,h4⟩⟩;cases hbb:b with
      |false=>rw[hbb]at hoff;exact hoff rfl
      |true=>rw[hbb]at hgd hop hle;exact .inl ⟨hgd rfl,hle (hop (λkey' c' h=>by cases h;rfl))⟩
     ·-- two ways
      rcases zB h with⟨hb',h⟩|⟨hb',h⟩
      .obtain⟨x,W,h,hp,hop⟩:=hs _ κ' _ _ _ _ _ hok h
       obtain⟨T',h,hT⟩:=Ek h;obtain⟨H',h,hH⟩:=Bm h;obtain⟨e,σ',h1,h2,h3,h4⟩:=Ey hs hpn rest (i+1) _ k r (s.bC o.dst x.D (WA W) σ.N) κ' h (hL1.bC hT hH) (λt y ht=>by
        rw[hT]at ht;split at ht
        .cases ht;exact FB hp
        .exact hG1 t y ht)
       exact⟨e,σ',h1,by rw[h2];simp only[dD];omega,h3,.inl ⟨x.D,WA W,.inl ⟨hgd hb',hle (hop (λkey' c' h=>by cases h;exact hb'))⟩,h4⟩⟩
      .obtain⟨T',h,hT⟩:=Ek h
       obtain⟨e,σ',h1,h2,h3,h4⟩:=Ey hs hpn rest (i+1) _ k r (s.bC o.dst (X.bD []).D (WA []) σ.N) κ' h (hL1.bC hT (λq=>rfl)) (λt y ht=>by
        rw[hT]at ht;split at ht
        .cases ht;exact sX
        .exact hG1 t y ht)
       exact⟨e,σ',h1,by rw[h2];simp only[dD];omega,h3,.inl ⟨_,_,hoff hb',h4⟩⟩
end Go.Ax
/- A region that draws its order. -/
namespace Go.Ax
open aA
open Go.RowKit Go.Ab
def fP(rs:Rx):Rs:=rs.map λp=>(p.1.D,WA p.2)
theorem Yx{t:Tmp}{j:Nat}:∀{l:List Oper}{p:Nat},Bw t j p l=true->∀q o,l[q]?=some o->o.dst=some t->p+q=j
 |[],_,_,q,o,h,_=>by simp at h
 |o'::l,p,hu,q,o,h,hd=>by
   unfold Bw at hu;have rest:Bw t j (p+1) l=true->∀q',q=q'+1->p+q=j:=λhr q' e=>by
    subst e;have:=Yx hr q' o (by simpa using h) hd;omega
   cases q with
   |succ q'=>
     split at hu
     .split at hu
      .cases hu
      .exact rest hu q' rfl
     .exact rest hu q' rfl
   |zero=>
     simp at h;subst h;rw[hd]at hu;simp only at hu;split at hu
     .cases hu
     .rename_i hb
      simp only[Bool.and_eq_false_iff,Bool.not_eq_false']at hb;rcases hb with hb|hb
      .simp at hb
      .have:=cA hb;omega
section
variable{ops:Array Oper}{pre kl:List (List Nat)}{fr:Nat}
theorem QK{σ:Vw}{dst:Option Tmp}{x:X}{W:Wx}(t:Nat):(QL σ dst x W).T t=if dst=some t then some x else σ.T t:=by
 unfold QL;cases dst with
 |none=>simp
 |some d=>
   simp only;by_cases e:d=t
   .subst e;simp
   .rw[oB e];simp[e]
theorem YP{S:Nat->Bool}:∀(rs:Rx)(j:Nat)(σ:Vw)(s:St),(∀t x,σ.T t=some x->s.T t=some x.D)->(∀k o,σ.H k=some o->s.H k=some o.A)->
    (∀t x,(pG (Region.fE ops) S j rs σ).T t=some x->(cJ ops fr S j (fP rs) s).T t=some x.D)/\(∀k o,(pG (Region.fE ops) S j rs σ).H k=some o->(cJ ops fr S j (fP rs) s).H k=some o.A)
 |[],j,σ,s,h1,h2=>⟨h1,h2⟩
 |(x,W)::rs,j,σ,s,h1,h2=>by
   unfold pG;simp only[fP,iB];unfold cJ;cases hS:S j with
   |false=>simp only[Bool.false_eq_true,if_false];exact YP rs (j+1) σ s h1 h2
   |true=>
     simp only[gZ];refine YP rs (j+1) _ _ (λt y hy=>?_) (λk o hk=>?_)
     .rw[QK]at hy
      simp only[St.bC];split at hy
      .rename_i e;cases hy;rw[aJ e]
      .rename_i e;rw[aD e];exact h1 t y hy
     .simp only[QL,pP]at hk
      simp only[St.bC,ZX];cases hl:Ab.look k W with
      |none=>simp only[hl]at hk;exact h2 k o hk
      |some o'=>simp only[hl]at hk;simp[hk]
theorem YN{dst:Nat->Option Tmp}{S:Nat->Bool}:∀(rs:Rx)(j:Nat)(σ:Vw)(t:Nat)(x:X),(pG dst S j rs σ).T t=some x->(∃p∈rs,p.1=x)\/σ.T t=some x
 |[],j,σ,t,x,h=>.inr h
 |(y,W)::rs,j,σ,t,x,h=>by
   unfold pG at h;split at h
   .rcases YN rs (j+1) _ t x h with⟨p,hp,e⟩|h
    .exact .inl ⟨p,eY _ hp,e⟩
    .rw[QK]at h
     split at h
     .cases h;exact .inl ⟨_,gN ..,rfl⟩
     .exact .inr h
   .rcases YN rs (j+1) _ t x h with⟨p,hp,e⟩|h
    .exact .inl ⟨p,eY _ hp,e⟩
    .exact .inr h
theorem aJz{dst:Nat->Option Tmp}{S:Nat->Bool}{t:Nat}:∀(rs:Rx)(p:Nat)(σ:Vw),(∀q,p<=q->dst q≠some t)->(pG dst S p rs σ).T t=σ.T t
 |[],p,σ,_=>rfl
 |(y,W)::rs,p,σ,h=>by
   unfold pG;rw[aJz rs (p+1) _ (λq hq=>h q (by omega))];split
   .rw[QK,aD (h p (Nat.le_refl _))]
   .rfl
theorem YO{dst:Nat->Option Tmp}{S:Nat->Bool}{t j:Nat}(hS:S j=true)(hd:dst j=some t)(hu:∀q,q≠j->dst q≠some t):∀(rs:Rx)(p:Nat)(σ:Vw)(x:X)(W:Wx),p<=j->rs[j-p]?=some (x,W)->(pG dst S p rs σ).T t=some x
 |[],p,σ,x,W,_,h=>by simp at h
 |(y,W')::rs,p,σ,x,W,hp,h=>by
   unfold pG;by_cases e:p=j
   .subst e
    simp only[Nat.sub_self,List.getElem?_cons_zero,Option.some.injEq,Prod.mk.injEq]at h;obtain⟨rfl,rfl⟩:=h;rw[hS];simp only;rw[aJz rs (p+1) _ (λq hq=>hu q (by omega)),QK,aJ hd]
   .refine YO hS hd hu rs (p+1) _ x W (by omega) ?_
    rw[show j-p=(j-(p+1))+1 by omega]at h;simpa using h
theorem a8y{i:Nat}{rs:Rx}{σ:Vw}{s:St}{g:Option (Nat×Bool)}(h1:∀t x,σ.T t=some x->s.T t=some x.D)(h2:∀k o,σ.H k=some o->s.H k=some o.A):
    (∀t d,(kO ops pre kl fr i rs σ g).den.T t=some d->(ctx ops pre kl fr i (fP rs) s).T t=some d)/\(∀k o,(kO ops pre kl fr i rs σ g).den.H k=some o->(ctx ops pre kl fr i (fP rs) s).H k=some o):=by
 obtain⟨q1,q2⟩:=YP (ops:=ops) (fr:=fr) (S:=λj=>(pre.getD i []).contains j) rs 0 σ s h1 h2;refine⟨λt d h=>?_,λk o h=>?_⟩
 .simp only[Vw.den,kO]at h
  obtain⟨x,hx,rfl⟩:=cV.1 h;simp only[ctx];split at hx
  .cases hx
  .rename_i hf
   rw[aD (by rw[hf];simp)];exact q1 t x hx
 .simp only[Vw.den,kO]at h
  obtain⟨x,hx,rfl⟩:=cV.1 h;simp only[ctx];split at hx
  .cases hx
  .rename_i hf
   rw[aD (by rw[hf];simp)];exact q2 k x hx
theorem a8x{i:Nat}{rs:Rx}{σ:Vw}{g:Option (Nat×Bool)}{t:Nat}{x:X}(h:(kO ops pre kl fr i rs σ g).T t=some x):(∃p∈rs,p.1=x)\/σ.T t=some x:=by
 simp only[kO]at h;split at h
 .cases h
 .exact YN rs 0 σ t x h
theorem Ym{α β:Type}(f:α->β):∀(l:List α)(j:Nat)(x y:α),l[j]?=some y->f x=f y->(hM x j l).map f=l.map f
 |[],_,_,_,h,_=>by simp at h
 |z::l,0,x,y,h,e=>by simp at h;subst h;simp[hM,e]
 |z::l,j+1,x,y,h,e=>by simp only[hM,iB];rw[Ym f l j x y (by simpa using h) e]
theorem Yl{α:Type}(x:α)(j:Nat):hM x j []=[]:=by cases j <;> rfl
theorem Yn{α:Type}:∀(l:List α)(j:Nat)(x:α),(hM x j l).length=l.length
 |[],j,x=>by rw[Yl]
 |_::_,0,_=>rfl
 |_::l,j+1,x=>by simp only[hM,dD];rw[Yn l j x]
theorem Qe{α:Type}:∀(l:List α)(j:Nat)(x z:α),z∈hM x j l->z=x\/z∈l
 |[],j,x,z,h=>by rw[Yl]at h;cases h
 |y::l,0,x,z,h=>by
   rcases eP.1 h with h|h
   .exact .inl h
   .exact .inr (eY _ h)
 |y::l,j+1,x,z,h=>by
   rcases eP.1 h with h|h
   .exact .inr (by rw[h];exact gN ..)
   .rcases Qe l j x z h with h|h
    .exact .inl h
    .exact .inr (eY _ h)
theorem Zp{j:Nat}:∀{rs:Rx},Ja j rs=true->∀p∈rs,sC j p.1=false
 |[],_,p,h=>by cases h
 |(x,W)::l,hf,p,h=>by
   unfold Ja at hf;split at hf
   .cases hf
   .rename_i hu
    rcases eP.1 h with h|h
    .rw[h];exact hu
    .exact Zp hf p h
theorem aMa{W:Wx}{f:Nat->Bool}(h:W.all (λp=>f p.1)=true):((WA W).all λp=>f p.1)=true:=by
 rw[eI]at h ⊢;intro p hp;obtain⟨q,hq,rfl⟩:=List.mem_map.1 hp;exact h q hq
theorem aKz:∀{rs:Rx},Qq rs=true->∀q∈fP rs,q.2=[]
 |[],_,q,hq=>by cases hq
 |(x,[])::l,h,q,hq=>by
   unfold Qq at h;rcases eP.1 hq with rfl|hq
   .rfl
   .exact aKz h q hq
 |(x,_::_)::l,h,q,hq=>by cases h
theorem a7Q{n i:Nat}(h:aLT pre n i=true):∀p,i<p->p<n->i∈pre.getD p []:=λp h1 h2=>by
 have:=eI.1 h p (List.mem_range.2 h2);rw[Bool.or_eq_true]at this;rcases this with h|h
 .have:=Nat.le_of_ble_eq_true h;omega
 .exact List.contains_iff_mem.1 h
abbrev SG(ops:Array Oper)(fr:Nat)(s:St)(k:Rx->O)(K:Exit->Sg->O)(r:aE)(n:Nat)(e:Exit)(s':St):Prop:=
 (e = .normal/\∃rs',k rs'=some r/\rs'.length=n/\s'=cJ ops fr (λ_=>true) 0 (fP rs') s)\/∃σ',K e σ'=some r/\σ'.N=fr+8*ops.size/\gO σ'.T σ'.H s'
theorem F1{c:Cx}(hs:Rn c)(hpn:Rt c){stF:List Nat}{σ:Vw}{s:St}{HL:XH}{K:Exit->Sg->O}(h1:∀t x,σ.T t=some x->s.T t=some x.D)(h2:∀k o,σ.H k=some o->s.H k=some o.A)(hpl:∀t x,σ.T t=some x->x.pl=true)(hHL:∀k o,lk k HL=some o->s.H k=some o.A){n:Nat}:
    ∀(l:List Oper)(i:Nat)(rs:Rx)(k:Rx->O)(r:aE)(κ:Nat->Bool),lE c stF ops pre kl fr σ HL K l i rs k=some r->rs.length=i->n=i+l.length->(∀p∈rs,Good κ p.1)->
    qA c.P ops pre kl fr s (SG ops fr s k K r n) l i (fP rs)
 |[],i,rs,k,r,κ,h,hl,hn,hG=>.inl ⟨rfl,rs,h,by rw[hl,hn];rfl,rfl⟩
 |o::rest,i,rs,k,r,κ,h,hl,hn,hG=>by
   have hn':n=i+1+rest.length:=by rw[hn,dD];omega
   unfold lE at h;obtain⟨g,hg,h⟩:=bL h;have hg':=aL3 hg;have hall:∀{j:Nat}{t:Tmp},(ops.toList[j]?).bind (·.dst)=some t->((ops[j]?).bind (·.dst))=some t:=λh=>by simpa using h
   have qV:∀{κ:Nat->Bool}{rs:Rx},(∀p∈rs,Good κ p.1)->∀{g:Option (Nat×Bool)} t x,(kO ops pre kl fr i rs σ g).T t=some x->Good κ x:=λhG _ t x hx=>by
    rcases a8x hx with⟨p,hp,rfl⟩|hx
    .exact hG p hp
    .exact FB (hpl t x hx)
   have push:∀{κ:Nat->Bool}{rs:Rx},(∀p∈rs,Good κ p.1)->∀{x:X}{W:Wx},Good κ x->∀p∈rs++[(x,W)],Good κ p.1:=λhG _ _ hx p hp=>by
    rcases List.mem_append.1 hp with hp|hp
    .exact hG p hp
    .rw[List.mem_singleton.1 hp];exact hx
   have hcx:=λ(rs:Rx)(g:Option (Nat×Bool))=>a8y (ops:=ops) (pre:=pre) (kl:=kl) (fr:=fr) (i:=i) (rs:=rs) (g:=g) h1 h2
   have runK:∀(rs:Rx),rs.length=i->(∀p∈rs,Good κ p.1)->rK ops o (ctx ops pre kl fr i (fP rs) s)->(Et c stF ops pre kl fr σ HL K o i rs λrs=>lE c stF ops pre kl fr σ HL K rest (i+1) rs k)=some r->
       qA c.P ops pre kl fr s (SG ops fr s k K r n) (o::rest) i (fP rs):=λrs hl hG hg' h=>by
    unfold Et at h;have hok:Vw.Ok (kO ops pre kl fr i rs σ none) κ:=⟨qV hG,λkey c h=>by cases h⟩;have nx:∀x W,(match W.all (λp=>fC kl fr i p.1)with
     |true=>lE c stF ops pre kl fr σ HL K rest (i+1) (rs++[(x,W)]) k
     |false=>none)=some r->x.pl=true->bI c.P o (Vw.den (kO ops pre kl fr i rs σ none)) (fr+8*i) x.D (WA W)->qA c.P ops pre kl fr s (SG ops fr s k K r n) (o::rest) i (fP rs):=λx W h hp hop=>by
     split at h
     case h_2=>cases h
     rename_i hW;have e3:=F1 hs hpn h1 h2 hpl hHL rest (i+1) _ k r κ h (by simp[hl]) hn' (push hG (FB hp));refine .inl ⟨x.D,WA W,.inl ⟨hg',Ry hop (hcx rs none).1 (hcx rs none).2⟩,aMa hW,?_⟩;simpa[fP]using e3
    rcases hpn _ κ _ _ _ _ _ _ hok rfl h with h|⟨x,W,h,hp,hop⟩|⟨v,W,h,hop⟩
    .obtain⟨x,W,h,hp,hop⟩:=hs _ κ _ _ _ _ _ hok h
     exact nx x W h hp (hop (λkey c h=>by cases h))
    .exact nx x W h hp (hop (λkey c h=>by cases h))
    .split at h
     case h_2=>cases h
     rename_i hb;rw[bM]at hb;obtain⟨H',h,hH⟩:=Bm h;have hL0:gO [] HL ⟨λ_=>none,s.H,s.nm⟩:=⟨(λt x ht=>by cases ht),hHL⟩;exact .inr ⟨v,WA W,hg',aMf (hop (λkey c h=>by cases h)) (hcx rs none).1 (hcx rs none).2,a7Q hb.1,aKz hb.2,.inr ⟨_,h,rfl,hL0.bC (dst:=none) (x:=.bD []) (λt=>by simp) hH⟩⟩
   have skipK:∀(rs:Rx),rs.length=i->(∀p∈rs,Good κ p.1)->Jt ops o (ctx ops pre kl fr i (fP rs) s)->lE c stF ops pre kl fr σ HL K rest (i+1) (rs++[(.bD [],[])]) k=some r->
       qA c.P ops pre kl fr s (SG ops fr s k K r n) (o::rest) i (fP rs):=λrs hl hG hg' h=>by
    have e3:=F1 hs hpn h1 h2 hpl hHL rest (i+1) _ k r κ h (by simp[hl]) hn' (push hG sX);refine .inl ⟨.bD [],[],.inr ⟨hg',rfl,rfl⟩,rfl,?_⟩;simpa[fP,X.D,Ds,WA]using e3
   cases g with
   |on=>
     simp only at h hg';exact runK rs hl hG (.inl hg') h
   |off=>
     simp only at h hg';obtain⟨j,w,t,z1,z2,z3⟩:=hg';exact skipK rs hl hG ⟨j,w,t,_,z1,hall z2,(hcx rs none).1 t _ (q8 z3),.inl rfl⟩ h
   |kn b=>
     obtain⟨j,w,t,v,z1,z2,z3,z4,z5⟩:=hg';cases b with
     |true=>
       have:=z4 rfl;subst this;exact runK rs hl hG (.inr ⟨j,v,t,z1,hall z2,(hcx rs none).1 t _ (q8 z3)⟩) h
     |false=>
       have:=z5 rfl;subst this;exact skipK rs hl hG ⟨j,w,t,_,z1,hall z2,(hcx rs none).1 t _ (q8 z3),.inr rfl⟩ h
   |cd key b t j y new=>
     simp only at h hg';obtain⟨w,x0,z1,z2,z3,z4,z5,z6,z7,z8⟩:=hg';split at h
     .split at h
      case h_2=>cases h
      rename_i jj q jg w' hgw hon;rw[z1]at hgw;obtain⟨rfl,rfl⟩:=a9u (fV hgw);simp only[bM]at hon;obtain⟨honly,hpre⟩:=hon;have hx0:x0.D = .t (.v (.bool q)):=z5.symm;have hdst:Region.fE ops j=some t:=by unfold Region.fE;exact hall z2
      have hTt:(ctx ops pre kl fr i (fP rs) s).T t=some (.t (.v (.bool q))):=by rw[(hcx rs none).1 t _ (q8 z3),hx0]
      have key:∀(v:Bool),q=v->∀{f:Rx->O},Er j (.v (.bool v)) rs f=some r->∃rs',f rs'=some r/\rs'.length=i/\(∀p∈rs',Good κ p.1)/\fP rs'=fP rs:=λv hq f h=>by
       subst hq;unfold Er at h;split at h
       case h_2=>cases h
       rename_i xj Wj hj;have hxx:xj=x0:=by
        have hz:=z3;simp only[kO]at hz;split at hz
        .cases hz
        .rw[YO (j:=j) hpre hdst (λq hq he=>hq (by
          unfold Region.fE at he;obtain⟨oq,ho1,ho2⟩:=lH.1 he;have:=Yx honly q oq (by simpa using ho1) ho2;omega)) rs 0 σ xj Wj (Nat.zero_le _) (by simpa using hj)]at hz
         cases hz;rfl
       subst hxx;refine⟨_,h,by rw[Yn];exact hl,λp hp=>?_,Ym _ rs j _ _ hj (by simp[hx0,X.D])⟩;rcases Qe _ _ _ _ hp with rfl|hp
       .exact sX
       .exact hG p hp
      rcases zB h with⟨hq,h⟩|⟨hq,h⟩
      .obtain⟨rs',h,k1,k2,k3⟩:=key true hq h
       rw[hq]at hTt;rw[<-k3]at hTt ⊢;cases w with
       |true=>exact runK rs' k1 k2 (.inr ⟨_,_,t,z1,hall z2,hTt⟩) h
       |false=>exact skipK rs' k1 k2 ⟨_,_,t,_,z1,hall z2,hTt,.inr rfl⟩ h
      .obtain⟨rs',h,k1,k2,k3⟩:=key false hq h
       rw[hq]at hTt;rw[<-k3]at hTt ⊢;cases w with
       |true=>exact skipK rs' k1 k2 ⟨_,_,t,_,z1,hall z2,hTt,.inr rfl⟩ h
       |false=>exact runK rs' k1 k2 (.inr ⟨_,_,t,z1,hall z2,hTt⟩) h
     split at h
     case h_2=>cases h
     rename_i hchk;simp only[bM]at hchk;obtain⟨hfree,honly,hpre⟩:=hchk;unfold Er at h;split at h
     case h_2=>cases h
     rename_i xj Wj hj
     -- what the test lies in is what was looked up
     have hdst:Region.fE ops j=some t:=by unfold Region.fE;exact hall z2
     have hx0:xj=x0:=by
      have hz:=z3;simp only[kO]at hz;split at hz
      .cases hz
      .rw[YO (j:=j) hpre hdst (λq hq he=>hq (by
        unfold Region.fE at he;obtain⟨oq,ho1,ho2⟩:=lH.1 he;have:=Yx honly q oq (by simpa using ho1) ho2;omega)) rs 0 σ xj Wj (Nat.zero_le _) (by simpa using hj)]at hz
       cases hz;rfl
     subst hx0;have hmap:fP (hM (y,Wj) j rs)=fP rs:=Ym _ rs j _ _ hj (by simp[z5]);have hlen:(hM (y,Wj) j rs).length=i:=by rw[Yn];exact hl
     have hκ:∃κ':Nat->Bool,(∀p∈hM (y,Wj) j rs,Good κ' p.1)/\b=κ' key:=by
      obtain⟨k1,k2⟩:=z8 κ (qV hG t xj z3);cases hn:new with
      |false=>
        obtain⟨g1,g2⟩:=k1 hn;refine⟨κ,λp hp=>?_,g2⟩;rcases Qe _ _ _ _ hp with rfl|hp
        .exact g1
        .exact hG p hp
      |true=>
        obtain⟨a,cc,k3⟩:=k2 hn;rw[hn]at hfree;have hf:Ja j rs=true:=by simpa using hfree
        have hxf:sC j xj=false:=Zp hf _ (List.mem_iff_getElem?.2 ⟨j,hj⟩);obtain⟨g1,g2⟩:=k3 (lJ κ j a cc) aBD aBE (λkey' c' x' hx=>by
         rw[hx]at hxf;simp only[sC,aNF]at hxf;have h1:=rA hxf.1.1;have h2:=rA hxf.1.2;unfold lJ;rw[aD (by omega),aD (by omega)])
        refine⟨lJ κ j a cc,λp hp=>?_,g2⟩;rcases Qe _ _ _ _ hp with rfl|hp
        .exact g1
        .exact(hG p hp).set (Zp hf p hp)
     obtain⟨κ',hG1,hb⟩:=hκ;have hok:Vw.Ok (kO ops pre kl fr i (hM (y,Wj) j rs) σ (some (key,b))) κ':=⟨qV hG1,λkey' c' h=>by cases h;exact hb⟩;have hTt:(ctx ops pre kl fr i (fP rs) s).T t=some xj.D:=(hcx rs none).1 t _ (q8 z3);have hoff:b=false->oM c.P ops o (ctx ops pre kl fr i (fP rs) s) (fr+8*i) (.bD []) []:=λhb'=>.inr ⟨⟨j,w,t,_,z1,hall z2,hTt,z7 hb'⟩,rfl,rfl⟩
     have hgd:b=true->rK ops o (ctx ops pre kl fr i (fP rs) s):=λhb'=>.inr ⟨j,w,t,z1,hall z2,by rw[hTt,z6 hb']⟩
     have hle:∀{x:D}{W:Wr},bI c.P o (Vw.den (kO ops pre kl fr i (hM (y,Wj) j rs) σ (some (key,b)))) (fr+8*i) x W->bI c.P o (ctx ops pre kl fr i (fP rs) s) (fr+8*i) x W:=λhop=>by
      have:=hcx (hM (y,Wj) j rs) (some (key,b));rw[hmap]at this;exact Ry hop this.1 this.2
     have hsnoc:∀(x:X)(W:Wx),fP (hM (y,Wj) j rs++[(x,W)])=fP rs++[(x.D,WA W)]:=λx W=>by
      have:fP (hM (y,Wj) j rs++[(x,W)])=fP (hM (y,Wj) j rs)++[(x.D,WA W)]:=by simp[fP]
      rw[this,hmap]
     split at h
     .obtain⟨x,W,h,hp,hop⟩:=hs _ κ' _ _ _ _ _ hok h
      obtain⟨hW,h9⟩:=aKy h;subst hW;clear h;have e3:=F1 hs hpn h1 h2 hpl hHL rest (i+1) _ k r κ' h9 (by simp[hlen]) hn' (push hG1 (by
       refine⟨hb,?_⟩;cases x with
       |bit j q=>cases hp
       |eX k c y=>cases hp
       |_=>exact sX))
      rw[hsnoc]at e3;refine .inl ⟨(X.eX key b x).D,WA [],?_,rfl,e3⟩;cases hbb:b with
      |false=>rw[hbb]at hoff;exact hoff rfl
      |true=>rw[hbb]at hgd hop hle;exact .inl ⟨hgd rfl,hle (hop (λkey' c' h=>by cases h;rfl))⟩
     .rcases zB h with⟨hb',h⟩|⟨hb',h⟩
      .obtain⟨x,W,h,hp,hop⟩:=hs _ κ' _ _ _ _ _ hok h
       split at h
       case h_2=>cases h
       rename_i hW;have e3:=F1 hs hpn h1 h2 hpl hHL rest (i+1) _ k r κ' h (by simp[hlen]) hn' (push hG1 (FB hp));rw[hsnoc]at e3;exact .inl ⟨x.D,WA W,.inl ⟨hgd hb',hle (hop (λkey' c' h=>by cases h;exact hb'))⟩,aMa hW,e3⟩
      .have e3:=F1 hs hpn h1 h2 hpl hHL rest (i+1) _ k r κ' h (by simp[hlen]) hn' (push hG1 sX)
       rw[hsnoc]at e3;exact .inl ⟨_,_,hoff hb',rfl,e3⟩
end
theorem aLd{ops:Array Oper}{fr:Nat}:∀(l:List Oper)(i:Nat)(rs:Rx)(T:XT)(H:XH)(k:XT->XH->O)(r:aE)(s:St),(∀q o,l[q]?=some o->Region.fE ops (i+q)=o.dst)->l.length=rs.length->RP l rs T H k=some r->gO T H s->
    ∃T' H',k T' H'=some r/\gO T' H' (cJ ops fr (λ_=>true) i (fP rs) s)
 |[],i,[],T,H,k,r,s,_,_,h,hL=>⟨T,H,h,hL⟩
 |[],i,_::_,T,H,k,r,s,_,hl,h,hL=>by cases hl
 |_::_,i,[],T,H,k,r,s,_,hl,h,hL=>by cases hl
 |o::l,i,(x,W)::rs,T,H,k,r,s,hd,hl,h,hL=>by
   unfold RP at h;obtain⟨T',h,hT⟩:=Ek h;obtain⟨H',h,hH⟩:=Bm h;have hd0:=hd 0 o rfl;rw[Nat.add_zero]at hd0;obtain⟨T2,H2,e1,e2⟩:=aLd (fr:=fr) l (i+1) rs T' H' k r (s.bC o.dst x.D (WA W) (fr+8*i)) (λq o' hq=>by have:=hd (q+1) o' (by simpa using hq);rwa [show i+(q+1)=i+1+q by omega]at this) (by simpa using hl) h (hL.bC hT hH);refine⟨T2,H2,e1,?_⟩;simp only[fP,iB];unfold cJ;rw[hd0];simpa[fP]using e2
end Go.Ax
