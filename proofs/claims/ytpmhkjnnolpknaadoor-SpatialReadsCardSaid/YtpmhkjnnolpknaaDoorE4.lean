/- The abstract machine, run: data with types, states as lists, regions. Conditions are in the theorems. -/
import Derived.Test.YtpmhkjnnolpknaaDoorE3
open Bool renaming and_eq_true->bM,or_eq_false_iff->aHH
open List renaming all_eq_true->eG,flatMap->b8,length->dN,length_cons->iG,map_append->fO,map_cons->eX,mem_cons->dT,mem_cons_of_mem->mY,mem_cons_self->Dp,range->gU,replicate->bY
open Nat renaming beq->bB,ble->j3,blt->mW,eq_of_beq_eq_true->bF
open Option renaming bind_eq_some_iff->xN,map_eq_some_iff->cR
open Option.some renaming inj->fI
open Prod.mk renaming inj->a1O
open True renaming intro->rH
open UInt8 renaming toNat->tO
/- The abstract machine, run: data with types, states as lists, and one function that runs code on them and says what is left to be shown. -/
namespace Go.Ax
open Go.RowKit Go.Ab
inductive Ex where
 |mk (op n:Int) (kids:List Ex)
def Ex.op:Ex->Int|.mk a _ _=>a
def Ex.num:Ex->Int|.mk _ a _=>a
def Ex.kids:Ex->List Ex|.mk _ _ a=>a
inductive Ty where
 |i (k:IntKind)
 |u8|bo|tx|ex|un
 |sl (e:Ty)
 |pr (x y:Ty)
def Ty.V:Ty->Type
 |.i _=>Int
 |.u8=>UInt8
 |.bo=>Bool
 |.tx=>List UInt8
 |.ex=>Ex
 |.un=>Unit
 |.sl e=>List e.V
 |.pr x y=>x.V×y.V
def eA:(a b:Ty)->Option (PLift (a=b))
 |.i k,.i k'=>if h:k=k' then some ⟨by rw[h]⟩else none
 |.u8,.u8=>some ⟨rfl⟩
 |.bo,.bo=>some ⟨rfl⟩
 |.tx,.tx=>some ⟨rfl⟩
 |.ex,.ex=>some ⟨rfl⟩
 |.un,.un=>some ⟨rfl⟩
 |.sl a,.sl b=>match eA a b with|some ⟨h⟩=>some ⟨by rw[h]⟩|none=>none
 |.pr a b,.pr c d=>match eA a c with
   |some ⟨h⟩=>match eA b d with|some ⟨g⟩=>some ⟨by rw[h,g]⟩|none=>none
   |none=>none
 |_,_=>none
def jD{a b:Ty}(h:a=b)(x:a.V):b.V:=h ▸ x
def Ty.size:Ty->Nat
 |.pr a b=>a.size+b.size
 |.ex=>3
 |.un=>0
 |_=>1
def Ty.one:Ty->Bool
 |.pr _ _=>false
 |.ex=>false
 |.un=>false
 |_=>true
def Ty.zero:(τ:Ty)->τ.V
 |.i _=>(0:Int)
 |.u8=>(0:UInt8)
 |.bo=>false
 |.tx=>([]:List UInt8)
 |.ex=>Ex.mk 0 0 []
 |.un=>()
 |.sl _=>[]
 |.pr a b=>(a.zero,b.zero)
inductive X where
 |e (τ:Ty) (x:τ.V)
 |bI
 |agg (xs:List X)
 |aU (xs:List X)
 |own (k:Nat)
 |ref (k off:Nat)
 |rr (k i j s:Nat)
 |pt (τ:Ty) (y:τ.V) (j:Nat)
 |fn (f:FuncId) (xs:List X)
 |v (val:Value)
 |bit (j:Nat) (q:Bool)
 |eP (key:Nat) (c:Bool) (x:X)
 |sub (k i:Nat)
 |gY (k i j:Nat)
 |vw (k i n s:Nat)
 |via (k j:Nat)
 |iP (val:Value)
inductive XO where
 |box (e:TypeId) (xs:List X)
 |row (e:TypeId) (τ:Ty) (l:List τ.V) (st:Bool)
 |nest (e e':TypeId) (τ:Ty) (l:List (List τ.V))
 |mp (τ:Ty) (l:List (τ.V×X))
 |it (s:List UInt8) (pos:Int)
 |bE (e e':TypeId) (κ ρ:Ty) (l:List (List κ.V×ρ.V)) (ln:Option (Int×Nat))
abbrev XT:=List (Nat×X)
abbrev XH:=List (Nat×XO)
abbrev Wx:=List (Nat×Option XO)
abbrev aM:=X×XH
abbrev O:=Option aM
structure Sg where
 T:XT
 H:XH
 N:Nat
abbrev bR:=List X->XH->Option (Bool×aM)
abbrev tV:=List X->XH->Option (Bool×Option Bool×aM×aM)
structure Cx where
 P:Program
 ex:TypeId
 G:List (Nat×bR)
 Gp:List (Nat×tV)
class aB where
 br:Bool->O->O->O
 ck:Bool->O->O
 gx:{α:Type}->List α->Int->(α->O)->O
 gn:{α:Type}->List α->Nat->(α->O)->O
 gc:{α:Type}->Bool->α->List α->Int->(α->O)->O
open aB
def br0(b:Bool)(x y:O):O:=match b with|true=>x|false=>y
def ck0(b:Bool)(x:O):O:=match b with|true=>x|false=>none
def D4{α:Type}(l:List α)(n:Int)(k:α->O):O:=match(if n<0 then none else l[n.toNat]?)with|some y=>k y|none=>none
def G5{α:Type}(l:List α)(n:Nat)(k:α->O):O:=match l[n]? with|some y=>k y|none=>none
def U9{α:Type}(c:Bool)(z:α)(l:List α)(n:Int)(k:α->O):O:=match c with|true=>D4 l n k|false=>k z
section
variable[aB]
def kI(g:Option Bool)(b:Bool)(k:O):O:=match g with |none=>ck b k |some c=>ck (!c||b) k
def w6(g:Option Bool)(τ:Ty)(l:List τ.V)(n:Int)(k:τ.V->O):O:=match g with|none=>gx l n k|some c=>gc c τ.zero l n k
def ob{α:Type}(x:Option α)(k:α->O):O:=match x with|some y=>k y|none=>none
def lk{α:Type}(k:Nat):List (Nat×α)->Option α
 |[]=>none
 |(k',x)::l=>match bB k' k with|true=>some x|false=>lk k l
def iY{α β:Type}(k:Nat)(x:α):List (Nat×α)->(List (Nat×α)->Option β)->Option β
 |[],f=>f [(k,x)]
 |(k',y)::l,f=>match bB k' k with
   |true=>f ((k,x)::l)
   |false=>iY k x l λl'=>f ((k',y)::l')
def pA{α β:Type}(k:Nat):List (Nat×α)->(List (Nat×α)->Option β)->Option β
 |[],f=>f []
 |(k',y)::l,f=>match bB k' k with
   |true=>pA k l f
   |false=>pA k l λl'=>f ((k',y)::l')
def s9(dst:Option Tmp)(x:X)(T:XT)(f:XT->O):O:=match dst with|none=>f T|some t=>iY t x T f
def nV:Wx->XH->(XH->O)->O
 |[],H,f=>f H
 |(k,some o)::W,H,f=>nV W H λH'=>iY k o H' f
 |(k,none)::W,H,f=>nV W H λH'=>pA k H' f
def xF:(τ:Ty)->τ.V->List X
 |.pr a b,x=>xF a x.1++xF b x.2
 |.ex,x=>[.e (.i .i64) (Ex.op x),.e (.i .i64) (Ex.num x),.e (.sl .ex) (Ex.kids x)]
 |.un,_=>[]
 |.i k,x=>[.e (.i k) x]
 |.u8,x=>[.e .u8 x]
 |.bo,x=>[.e .bo x]
 |.tx,x=>[.e .tx x]
 |.sl t,x=>[.e (.sl t) x]
def iE(τ:Ty)(x:τ.V):X:=match τ.one with|true=>.e τ x|false=>.agg (xF τ x)
def one?(τ:Ty):X->Option τ.V
 |.e τ' x=>match eA τ' τ with|some ⟨h⟩=>some (jD h x)|none=>none
 |.bI=>match τ with|.sl _=>some []|_=>none
 |_=>none
def oX:(τ:Ty)->List X->Option (τ.V×List X)
 |.pr a b,xs=>match oX a xs with
   |some (x,r)=>match oX b r with
     |some (y,r')=>some ((x,y),r')
     |none=>none
   |none=>none
 |.ex,a::b::c::r=>match one? (.i .i64) a with
   |some x=>match one? (.i .i64) b with
     |some y=>match one? (.sl .ex) c with
       |some z=>some (Ex.mk x y z,r)
       |none=>none
     |none=>none
   |none=>none
 |.ex,_=>none
 |.un,xs=>some ((),xs)
 |.i k,x::r=>match one? (.i k) x with|some y=>some (y,r)|none=>none
 |.i _,[]=>none
 |.u8,x::r=>match one? .u8 x with|some y=>some (y,r)|none=>none
 |.u8,[]=>none
 |.bo,x::r=>match one? .bo x with|some y=>some (y,r)|none=>none
 |.bo,[]=>none
 |.tx,x::r=>match one? .tx x with|some y=>some (y,r)|none=>none
 |.tx,[]=>none
 |.sl t,x::r=>match one? (.sl t) x with|some y=>some (y,r)|none=>none
 |.sl _,[]=>none
def X.cells:X->List X
 |.agg xs=>xs
 |x=>[x]
def tE(τ:Ty)(xs:List X):Option τ.V:=match oX τ xs with|some (y,[])=>some y|_=>none
def iO(τ:Ty)(x:X):Option τ.V:=match τ.one with
 |true=>one? τ x
 |false=>match x with|.agg xs=>tE τ xs|_=>none
def l4:(τ:Ty)->τ.V->(j m:Nat)->((τ':Ty)->τ'.V->O)->O
 |.pr a b,x,j,m,k=>match bB j 0&&bB m (a.size+b.size)with
   |true=>k (.pr a b) x
   |false=>match mW j a.size with
     |true=>l4 a x.1 j m k
     |false=>l4 b x.2 (j-a.size) m k
 |.ex,x,j,m,k=>match j,m with
   |0,3=>k .ex x
   |0,1=>k (.i .i64) (Ex.op x)
   |1,1=>k (.i .i64) (Ex.num x)
   |2,1=>k (.sl .ex) (Ex.kids x)
   |_,_=>none
 |.un,_,_,_,_=>none
 |τ,x,j,m,k=>match bB j 0&&bB m 1 with
   |true=>k τ x
   |false=>none
def setAt:(τ:Ty)->τ.V->(j m:Nat)->List X->(τ.V->O)->O
 |.pr a b,x,j,m,xs,k=>match bB j 0&&bB m (a.size+b.size)with
   |true=>ob (tE (.pr a b) xs) k
   |false=>match mW j a.size with
     |true=>setAt a x.1 j m xs λy=>k (y,x.2)
     |false=>setAt b x.2 (j-a.size) m xs λy=>k (x.1,y)
 |.ex,_,j,m,xs,k=>match j,m with
   |0,3=>ob (tE .ex xs) k
   |_,_=>none
 |.un,_,_,_,_,_=>none
 |τ,_,j,m,xs,k=>match bB j 0&&bB m 1 with
   |true=>ob (tE τ xs) k
   |false=>none
def qT:List Ty->Option Ty
 |[]=>none
 |[a]=>some a
 |a::l=>match qT l with|some r=>some (.pr a r)|none=>none
def wM{α β:Type}(f:α->Option β):List α->Option (List β)
 |[]=>some []
 |x::l=>match f x with
   |some y=>match wM f l with|some r=>some (y::r)|none=>none
   |none=>none
def DE{α:Type}(x:α):Nat->List α
 |0=>[]
 |n+1=>x::DE x n
def Mf(P:Program)(ex:TypeId):Nat->TypeId->Option Ty
 |0,_=>none
 |n+1,t=>match bB t ex with
   |true=>some .ex
   |false=>match P.underlying t with
     |some (.int .u8)=>some .u8
     |some (.int k)=>some (.i k)
     |some .bool=>some .bo
     |some .string=>some .tx
     |some (.slice e)=>match Mf P ex n e with|some τ=>some (.sl τ)|none=>none
     |some (.struct fs)=>match wM (λf=>Mf P ex n f.type) fs.toList with|some l=>qT l|none=>none
     |some (.array m e)=>match Mf P ex n e with|some τ=>qT (DE τ m)|none=>none
     |_=>none
def Cx.ty(c:Cx)(t:TypeId):Option Ty:=Mf c.P c.ex 12 t
def fL(P:Program)(t:TypeId):Option Nat:=(P.info? t).map (·.size)
def Ns(P:Program)(t:TypeId):Option TypeId:=match P.underlying t with|some (.slice e)=>some e|_=>none
def mK:Value->X
 |.int .u8 n=>match decide (0<=n/\n<256)with|true=>.e .u8 (UInt8.ofNat n.toNat)|false=>.v (.int .u8 n)
 |.int k n=>.e (.i k) n
 |.bool b=>.e .bo b
 |.string s=>.e .tx s.data.toList
 |.slice none 0 0=>.bI
 |w=>.v w
def qX:Value->Option X
 |.agg cs=>match cs.toList.all (·.oneCell')with|true=>some (.agg (cs.toList.map mK))|false=>none
 |.tuple _=>none
 |w=>some (mK w)
def G6(g:Nat):X:=.v (.pointer (some ⟨g,0,none⟩))
structure Vw where
 T:Nat->Option X
 H:Nat->Option XO
 g:Option (Nat×Bool):=none
def tA(g:Option (Nat×Bool)):X->Option X
 |.bit _ q=>some (.e .bo q)
 |.eP key _ x=>match g with
   |some (key',_)=>match bB key key' with
     |true=>match x with|.bit _ q=>some (.e .bo q)|.eP ..=>none|x=>some x
     |false=>none
   |none=>none
 |x=>some x
def Vw.ev(σ:Vw):Operand->Option X
 |.tmp t=>match σ.T t with|some x=>tA σ.g x|none=>none
 |.const w=>qX w
 |.func f=>some (.fn f [])
 |.global g=>some (G6 g)
def Vw.tG(σ:Vw):List Operand->(List X->O)->O
 |[],k=>k []
 |x::l,k=>ob (σ.ev x) λy=>σ.tG l λys=>k (y::ys)
def Vw.iJ(σ:Vw):X->X
 |.own q=>match σ.H q with|some (.row _ τ l true)=>.e (.sl τ) l|_=>.own q
 |x=>x
def Vw.lD(σ:Vw):X->X
 |.agg xs=>.agg (xs.map σ.iJ)
 |x=>σ.iJ x
def Vw.src(σ:Vw)(τ:Ty):X->Option (List τ.V)
 |.own q=>match σ.H q with
   |some (.row _ τ' l _)=>match eA τ' τ with|some ⟨h⟩=>some (jD (aY Ty.sl h) l)|none=>none
   |_=>none
 |x=>one? (.sl τ) x
def Vw.len(σ:Vw):X->(Int->O)->O
 |.own q,k=>match σ.H q with|some (.row _ _ l _)=>k l.length|some (.nest _ _ _ l)=>k (dN l)|some (.bE _ _ _ _ l _)=>k (dN l)|_=>none
 |.sub q i,k=>match σ.H q with|some (.nest _ _ _ l)=>gn l i λr=>k (dN r)|_=>none
 |.e (.sl _) l,k=>k (dN l)
 |.bI,k=>k 0
 |_,_=>none
def UR(c:Cx)(σ:Vw)(t:TypeId)(v:X)(k:X->O):O:=match c.P.underlying t,v with
 |some (.slice _),v=>σ.len v λn=>k (.e (.i .i64) n)
 |some .string,.e .tx l=>k (.e (.i .i64) (dN (α:=UInt8) l:Int))
 |_,_=>none
def Tf:Operand->Operand->Bool
 |.tmp a,.tmp b=>bB a b
 |.const (.int k a),.const (.int k' b)=>decide (k=k')&&a == b
 |_,_=>false
def aG9(q x:Bool)(k:X->O):O:=k (.e .bo (q&&x))
def orX(q x:Bool)(k:X->O):O:=k (.e .bo (q||x))
def Vw.D6(σ:Vw)(key:Nat):Operand->Option X
 |.tmp t=>match σ.T t with
   |some (.eP key' _ x)=>match bB key' key with
     |true=>match x with|.bit _ q=>some (.e .bo q)|.eP ..=>none|x=>some x
     |false=>tA σ.g (.eP key' true x)
   |some x=>tA σ.g x
   |none=>none
 |x=>σ.ev x
def Vw.VG(σ:Vw):Operand->Option (Nat×Bool)
 |.tmp t=>match σ.T t with
   |some (.bit j q)=>some (j,q)
   |some (.eP key _ (.bit j q))=>match σ.g with
     |some (key',_)=>match bB key key' with|true=>some (j,q)|false=>none
     |none=>none
   |_=>none
 |_=>none
def Tb(σ:Vw)(b x y:Operand)(k:X->O):O:=match σ.VG b with
 |some (j,q)=>ob (σ.D6 (2*j+1) x) λv=>ob (σ.D6 (2*j) y) λv'=>match v,v' with
   |.e .bo a,.e .bo a'=>match y,x with
     |.const (.bool false),_=>aG9 q a k
     |_,.const (.bool true)=>orX q a' k
     |_,_=>br q (k v) (k v')
   |v,v'=>br q (k v) (k v')
 |none=>ob (σ.ev b) λv=>match v with
   |.e .bo q=>br q (ob (σ.ev x) k) (ob (σ.ev y) k)
   |.v (.bool true)=>ob (σ.ev x) k
   |.v (.bool false)=>ob (σ.ev y) k
   |_=>none
def b9(n b:Nat):Bool:=decide (n*b<=140737488355328/\n<=140737488355327)
def aG1(op:BinOp)(m n:Bool)(k:X->O):O:=match op with
 |.eql=>k (.e .bo (m == n))
 |.neq=>k (.e .bo (!(m == n)))
 |_=>none
def aFL(ik:IntKind)(n:Int)(k:X->O):O:=k (.e (.i ik) (ik.wrap (-n)))
def aFH(q:Bool)(k:X->O):O:=k (.e .bo (!q))
def GY(τ:Ty)(e:TypeId)(fr b:Nat)(st:Bool)(z:Int)(k:X->Wx->O):O:=ck (decide (0<=z)) (ck (b9 z.toNat b) (k (.own fr) [(fr,some (.row e τ (bY z.toNat τ.zero) st))]))
def bytesOf(x:List UInt8):(τ:Ty)->Option (List τ.V)
 |.u8=>some x
 |_=>none
def VP(τ:Ty)(e:TypeId)(fr bt:Nat)(gone:Wx)(st:Bool)(l l':List τ.V)(k:X->Wx->O):O:=ck (b9 (l++l').length bt) (k (.own fr) ((fr,some (.row e τ (l++l') st))::gone))
def N0(m n:Int)(k:X->O):O:=k (.e (.i .i64) (max m n:Int))
def aFO(m n:Int)(k:X->O):O:=k (.e (.i .i64) (min m n:Int))
def gH(n:Int):UInt8:=UInt8.ofNat (n%256).toNat
def UY(g:Option Bool)(op:BinOp)(ik:IntKind)(m n:Int)(k:X->O):O:=match op with
 |.add=>k (.e (.i ik) (ik.wrap (m+n)))
 |.sub=>k (.e (.i ik) (ik.wrap (m-n)))
 |.mul=>k (.e (.i ik) (ik.wrap (m*n)))
 |.quo=>kI g (decide (n≠0)) (k (.e (.i ik) (ik.wrap (m.tdiv n))))
 |.rem=>kI g (decide (n≠0)) (k (.e (.i ik) (m.tmod n)))
 |.lss=>k (.e .bo (decide (m<n)))
 |.leq=>k (.e .bo (decide (m<=n)))
 |.gtr=>k (.e .bo (decide (n<m)))
 |.geq=>k (.e .bo (decide (n<=m)))
 |.eql=>k (.e .bo (decide (m=n)))
 |.neq=>k (.e .bo (decide (m≠n)))
 |_=>none
def aYr:BinOp->Bool
 |.shl=>true
 |.shr=>true
 |_=>false
def TN(g:Option Bool)(op:BinOp)(ik:IntKind)(m n:Int)(k:X->O):O:=match op with
 |.shl=>kI g (decide (0<=n)) (k (.e (.i ik) (ik.wrap (m*2^(min n.toNat ik.bits)))))
 |.shr=>kI g (decide (0<=n)) (k (.e (.i ik) (m.fdiv (2^(min n.toNat ik.bits)))))
 |_=>none
def Sr(op:BinOp)(m n:UInt8)(k:X->O):O:=match op with
 |.add=>k (.e .u8 (m+n))
 |.sub=>k (.e .u8 (m-n))
 |.lss=>k (.e .bo (decide (m<n)))
 |.leq=>k (.e .bo (decide (m<=n)))
 |.gtr=>k (.e .bo (decide (n<m)))
 |.geq=>k (.e .bo (decide (n<=m)))
 |.eql=>k (.e .bo (decide (m=n)))
 |.neq=>k (.e .bo (decide (m≠n)))
 |_=>none
def Su(g:Option Bool)(op:BinOp)(m n:List UInt8)(k:X->O):O:=match op with
 |.add=>kI g (decide ((m.length:Int)+n.length<=9223372036854775807)) (k (.e .tx (m++n)))
 |.eql=>k (.e .bo (decide (m=n)))
 |.neq=>k (.e .bo (decide (m≠n)))
 |_=>none
def VH(P:Program)(g:Option Bool)(op:BinOp)(xt:TypeId)(x y:X)(k:X->O):O:=match x,y with
 |.e (.i ik) m,.e (.i ik') n=>match aYr op with
   |true=>TN g op ik m n k
   |false=>match decide (ik=ik')with|true=>UY g op ik m n k|false=>none
 |.e .u8 m,.e .u8 n=>Sr op m n k
 |.e .tx m,.e .tx n=>Su g op m n k
 |.e .bo m,.e .bo n=>match P.underlying xt with
   |some .bool=>aG1 op m n k
   |_=>none
 |_,_=>none
def Tt(P:Program)(t:TypeId)(op:BinOp)(v w:X)(y:Operand):Option Bool:=match v with
 |.v .nilIface=>match w,y,P.underlying t with
   |.v .nilIface,.const _,some (.interface _)=>(match op with|.eql=>some true|.neq=>some false|_=>none)
   |_,_,_=>none
 |_=>none
def asInt(x:X)(k:Int->O):O:=match x with
 |.e (.i _) n=>k n
 |.e .u8 c=>k (tO c:Int)
 |_=>none
def Vw.kD(σ:Vw):Option Operand->(Option Int->O)->O
 |none,f=>f none
 |some x,f=>ob (σ.ev x) λw=>asInt w λn=>f (some n)
def Nw(P:Program)(s d:TypeId)(x:X)(k:X->O):O:=match P.underlying s,P.underlying d,x with
 |some _,some (.int .u8),.e (.i _) m=>k (.e .u8 (gH m))
 |some _,some (.int .u8),.e .u8 c=>k (.e .u8 c)
 |some _,some (.int kd),.e (.i _) m=>k (.e (.i kd) (kd.wrap m))
 |some _,some (.int kd),.e .u8 c=>k (.e (.i kd) (kd.wrap (tO c:Int)))
 |_,_,_=>none
def oA{α:Type}:Nat->List α->List α
 |0,l=>l
 |_+1,[]=>[]
 |n+1,_::l=>oA n l
def mF{α:Type}:Nat->List α->List α
 |0,_=>[]
 |_+1,[]=>[]
 |n+1,x::l=>x::mF n l
def n3{α:Type}:List α->Nat->List α->List α
 |l,0,[]=>l
 |_::l,0,y::new=>y::n3 l 0 new
 |[],_,_=>[]
 |x::l,n+1,new=>x::n3 l n new
def UJ(c:Cx)(σ:Vw)(t:TypeId)(a:X)(k:X->O):O:=match jG c.P t,fL c.P t with
 |some rw,some m=>match a with
   |.ref q off=>match σ.H q with
     |some (.box _ xs)=>match rw with
       |true=>match bB (mF m (oA off xs)).length m with|true=>k (.agg (mF m (oA off xs)))|false=>none
       |false=>ob xs[off]? k
     |_=>none
   |.rr q i j s=>match σ.H q with
     |some (.row _ τ l _)=>match bB s τ.size with
       |true=>gn l i λy=>l4 τ y j m λτ' y'=>match rw,τ'.one with
         |true,false=>k (.agg (xF τ' y'))
         |false,true=>k (.e τ' y')
         |_,_=>none
       |false=>none
     |some (.nest _ _ _ l)=>match rw,bB j 0&&bB s 1 with
       |false,true=>gn l i λ_=>k (.sub q i)
       |_,_=>none
     |some (.bE _ _ _ ρ l ln)=>match bB s (1+ρ.size)with
       |true=>match bB j 0 with
         |true=>match rw,ln with
           |false,some (i',q')=>ck (decide (i=i'.toNat)) (gn l i λ_=>k (.own q'))
           |_,_=>none
         |false=>gn l i λy=>l4 ρ y.2 (j-1) m λτ' y'=>match rw,τ'.one with
           |true,false=>k (.agg (xF τ' y'))
           |false,true=>k (.e τ' y')
           |_,_=>none
       |false=>none
     |_=>none
   |.gY q i j=>match σ.H q with
     |some (.nest _ _ τ l)=>match rw,τ.one with
       |false,true=>gn l i λr=>gn r j λy=>k (.e τ y)
       |_,_=>none
     |_=>none
   |.pt τ y j=>l4 τ y j m λτ' y'=>match rw,τ'.one with
     |true,false=>k (.agg (xF τ' y'))
     |false,true=>k (.e τ' y')
     |_,_=>none
   |_=>none
 |_,_=>none
def Sv(c:Cx)(σ:Vw)(t:TypeId)(a y:X)(k:X->Wx->O):O:=match fL c.P t with
 |some m=>match bB y.cells.length m&&mW 0 m with
   |true=>match a with
     |.ref q off=>match σ.H q with
       |some (.box e xs)=>match j3 (off+m) xs.length with
         |true=>k (.aU []) [(q,some (.box e (n3 xs off y.cells)))]
         |false=>none
       |_=>none
     |.rr q i j s=>match σ.H q with
       |some (.row e τ l false)=>match bB s τ.size with
         |true=>gn l i λz=>setAt τ z j m (σ.lD y).cells λz'=>k (.aU []) [(q,some (.row e τ (l.set i z') false))]
         |false=>none
       |some (.bE e e' κ ρ l ln)=>match bB s (1+ρ.size)&&bB m 1 with
         |true=>match bB j 0 with
           |true=>match y,ln with
             |.own q',some (i',_)=>ck (decide (i=i'.toNat)) (gn l i λ_=>k (.aU []) [(q,some (.bE e e' κ ρ l (some (i',q'))))])
             |_,_=>none
           |false=>match y with
             |.agg _=>none
             |y=>gn l i λz=>setAt ρ z.2 (j-1) m (σ.lD y).cells λz'=>k (.aU []) [(q,some (.bE e e' κ ρ (l.set i (z.1,z')) ln))]
         |false=>none
       |_=>none
     |.gY q i j=>match σ.H q with
       |some (.nest e e' τ l)=>match y with
         |.e τ' z=>match eA τ' τ with
           |some ⟨h⟩=>match τ.one with
             |true=>gn l i λr=>gn r j λ_=>k (.aU []) [(q,some (.nest e e' τ (l.set i (r.set j (jD h z)))))]
             |false=>none
           |none=>none
         |_=>none
       |_=>none
     |_=>none
   |false=>none
 |none=>none
def bW{α:Type}(l:List α)(lo hi:Option Int):List α:=match lo,hi with
 |none,none=>l
 |some a,none=>l.drop a.toNat
 |none,some b=>l.take b.toNat
 |some a,some b=>(l.take b.toNat).drop a.toNat
def dX(n:Nat)(lo hi:Option Int):Bool:=match lo,hi with
 |none,none=>true
 |some a,none=>decide (0<=a/\a<=n)
 |none,some b=>decide (0<=b/\b<=n)
 |some a,some b=>decide (0<=a/\a<=b/\b<=n)
def TK(τ:Ty)(g:Option Bool)(l:List τ.V)(lo hi:Option Int)(k:X->O):O:=kI g (dX l.length lo hi) (k (.e (.sl τ) (bW l lo hi)))
def aEN(g:Option Bool)(l:List UInt8)(lo hi:Option Int)(k:X->O):O:=kI g (dX l.length lo hi) (k (.e .tx (bW l lo hi)))
def mH(τ:Ty):Nat->(σ:Ty)->σ.V->Option (List τ.V)
 |0,_,_=>none
 |1,σ,y=>match eA σ τ with|some ⟨h⟩=>some [jD h y]|none=>none
 |n+2,.pr a b,y=>match eA a τ with
   |some ⟨h⟩=>match mH τ (n+1) b y.2 with|some l=>some (jD h y.1::l)|none=>none
   |none=>none
 |_+2,_,_=>none
def TM(c:Cx)(t:TypeId)(a:X)(k:X->O):O:=match c.P.underlying t with
 |some (.array n e)=>match a with
   |.pt σ y 0=>match c.ty e with
     |some τ=>match fL c.P e with
       |some m=>match bB m τ.size with
         |true=>match mH τ n σ y with
           |some l=>match bB l.length n with|true=>k (.e (.sl τ) l)|false=>none
           |none=>none
         |false=>none
       |none=>none
     |none=>none
   |_=>none
 |_=>none
def Mm(c:Cx)(σ:Vw)(t:TypeId)(a:X)(lo hi:Option Int)(k:X->O):O:=match c.P.underlying t,σ.iJ a with
 |some (.slice e),.e (.sl τ) l=>match fL c.P e with
   |some m=>match bB m τ.size with|true=>TK τ (σ.g.map (·.2)) l lo hi k|false=>none
   |none=>none
 |some .string,.e .tx l=>aEN (σ.g.map (·.2)) l lo hi k
 |_,_=>none
def jV:Option Int->Nat
 |none=>0
 |some a=>a.toNat
def jX(n:Nat):Option Int->Nat
 |none=>n
 |some b=>b.toNat
def TL(c:Cx)(σ:Vw)(t:TypeId)(q:Nat)(τ:Ty)(l:List τ.V)(lo hi:Option Int)(k:X->Wx->O):O:=match c.P.underlying t with
 |some (.slice e)=>match fL c.P e with
   |some m=>match bB m τ.size&&mW 0 m with
     |true=>kI (σ.g.map (·.2)) (dX l.length lo hi) (k (.vw q (jV lo) (jX l.length hi-jV lo) m) [])
     |false=>none
   |none=>none
 |_=>none
def Nv(c:Cx)(t:TypeId)(q i n:Nat)(e:TypeId)(τ:Ty)(l src:List τ.V)(k:X->Wx->O):O:=match(Ns c.P t).bind (fL c.P)with
 |some 1=>match bB τ.size 1 with
   |true=>ck (decide (i+n<=l.length)) (k (.e (.i .i64) ((min src.length n:Nat):Int)) [(q,some (.row e τ (l.take i++src.take n++l.drop (i+min src.length n)) false))])
   |false=>none
 |_=>none
def Gj(σ:Vw)(τ:Ty)(w:X)(k:List τ.V->O):O:=match w with
 |.vw q i n s=>match σ.H q with
   |some (.row _ τ' l _)=>match eA τ' τ with
     |some ⟨h⟩=>match bB s τ.size with
       |true=>ck (decide (i+n<=l.length)) (k (((jD (aY Ty.sl h) l:List τ.V).drop i).take n))
       |false=>none
     |none=>none
   |_=>none
 |w=>ob (σ.src τ w) k
def Ux(c:Cx)(σ:Vw)(t:TypeId)(v w:X)(k:X->Wx->O):O:=match v with
 |.own q=>match σ.H q with
   |some (.row e τ l false)=>Gj σ τ w λsrc=>Nv c t q 0 l.length e τ l src k
   |_=>none
 |.vw q i n s=>match σ.H q with
   |some (.row e τ l false)=>match bB s 1 with
     |true=>Gj σ τ w λsrc=>Nv c t q i n e τ l src k
     |false=>none
   |_=>none
 |_=>none
def T9:X->Option (Nat×Nat×Nat)
 |.vw q i n s=>match bB i 0 with|true=>some (q,n,s)|false=>none
 |_=>none
def VQ(σ:Vw)(e:TypeId)(τ:Ty)(bt fr:Nat)(p:Nat×Nat×Nat)(w:X)(k:X->Wx->O):O:=match σ.H p.1 with
 |some (.row e' τ' l false)=>match eA τ' τ with
   |some ⟨h⟩=>match bB e' e&&(bB p.2.2 1&&bB τ.size 1)with
     |true=>ck (decide (p.2.1<=l.length)) (Gj σ τ w λsrc=>ck (b9 (p.2.1+src.length) bt) (k (.own fr) [(fr,some (.row e τ ((jD (aY Ty.sl h) l:List τ.V).take p.2.1++src) false)),(p.1,none)]))
     |false=>none
   |none=>none
 |_=>none
def X.val:X->Bool
 |.e τ _=>τ.one
 |.aU _=>false
 |.eP ..=>false
 |.bit ..=>false
 |.iP _=>false
 |_=>true
def N4(τ:Ty):List X->Option (List τ.V)
 |[]=>some []
 |x::r=>match one? τ x with
   |some y=>match N4 τ r with|some l=>some (y::l)|none=>none
   |none=>none
def U1(c:Cx)(σ:Vw)(t:TypeId)(a:X)(x:X)(k:X->O):O:=asInt x λn=>match a with
 |.e (.sl τ) l=>match rE c.P t with
   |some s=>match bB s τ.size with
     |true=>w6 (σ.g.map (·.2)) τ l n λy=>k (.pt τ y 0)
     |false=>none
   |none=>none
 |.own q=>match σ.H q,rE c.P t with
   |some (.row _ τ l st),some s=>match bB s τ.size with
     |true=>match st with
       |true=>w6 (σ.g.map (·.2)) τ l n λy=>k (.pt τ y 0)
       |false=>kI (σ.g.map (·.2)) (decide (0<=n/\n<l.length)) (k (.rr q n.toNat 0 s))
     |false=>none
   |some (.nest _ _ _ l),some s=>match bB s 1 with
     |true=>ck (decide (0<=n/\n<l.length)) (k (.rr q n.toNat 0 s))
     |false=>none
   |some (.bE _ _ _ ρ l _),some s=>match bB s (1+ρ.size)with
     |true=>kI (σ.g.map (·.2)) (decide (0<=n/\n<dN l)) (k (.rr q n.toNat 0 s))
     |false=>none
   |_,_=>none
 |.sub q i=>match σ.H q,rE c.P t with
   |some (.nest _ _ _ l),some s=>match bB s 1 with
     |true=>gn l i λr=>ck (decide (0<=n/\n<r.length)) (k (.gY q i n.toNat))
     |false=>none
   |_,_=>none
 |.ref q off=>match BP c.P t with
   |some (m,s)=>match decide (0<=n/\n<m)with
     |true=>k (.ref q (off+n.toNat*s))
     |false=>none
   |none=>none
 |.pt ρ y 0=>match c.P.underlying t,BP c.P t with
   |some (.array _ e),some (m,s)=>match c.ty e with
     |some τ=>match mH τ m ρ y with
       |some l=>match bB s τ.size&&bB l.length m with
         |true=>w6 (σ.g.map (·.2)) τ l n λy=>k (.pt τ y 0)
         |false=>none
       |none=>none
     |none=>none
   |_,_=>none
 |_=>none
def UZ(c:Cx)(t:TypeId)(g:Option Bool)(a:X)(x:X)(k:X->O):O:=asInt x λn=>match c.P.underlying t,a with
 |some .string,.e .tx l=>w6 g .u8 l n λc=>k (.e .u8 c)
 |some (.array m e),.agg (.e τ y::r)=>match τ.one&&bB m (r.length+1),jG c.P e,fL c.P e with
   |true,some false,some 1=>ob (N4 τ (.e τ y::r)) λl=>w6 g τ l n λy=>k (.e τ y)
   |_,_,_=>none
 |_,_=>none
def U0(c:Cx)(σ:Vw)(t:TypeId)(a:X)(x:X)(k:X->O):O:=asInt x λn=>match a with
 |.ref q off=>match BP c.P t with
   |some (m,s)=>kI (σ.g.map (·.2)) (decide (0<=n/\n<m)) (k (.ref q (off+n.toNat*s)))
   |none=>none
 |_=>none
def G1(τ:Ty):List X->Option (List τ.V)
 |[]=>some []
 |.e τ' x::r=>match eA τ' τ with
   |some ⟨h⟩=>match G1 τ r with|some l=>some (jD h x::l)|none=>none
   |none=>none
 |_::_=>none
def UK(c:Cx)(σ:Vw)(t:TypeId)(a:X)(k:X->O):O:=match jG c.P t,a with
 |some false,.ref q off=>match σ.H q with
   |some (.box _ (.e τ y::xs))=>match τ.one with
     |true=>ob (G1 τ (.e τ y::xs)) λl=>w6 (σ.g.map (·.2)) τ l (off:Int) λy=>k (.e τ y)
     |false=>none
   |_=>none
 |_,_=>none
def TQ{α:Type}(b:Bool)(x y:α):α:=match b with|true=>x|false=>y
def wH(τ:Ty)(off:Nat)(z:τ.V):Nat->List τ.V->List X
 |_,[]=>[]
 |i,y::l=>.e τ (TQ (bB off i) z y)::wH τ off z (i+1) l
def Sw(c:Cx)(σ:Vw)(t:TypeId)(a y:X)(k:X->Wx->O):O:=match fL c.P t,a,y with
 |some 1,.ref q off,.e τ z=>match τ.one with
   |true=>match σ.H q with
     |some (.box e xs)=>ob (G1 τ xs) λl=>ck (decide (off<l.length)) (k (.aU []) [(q,some (.box e (wH τ off z 0 l)))])
     |_=>none
   |false=>none
 |_,_,_=>none
def Uw(c:Cx)(σ:Vw)(fr:Nat)(t:TypeId)(q:Nat)(hi:Option Int)(k:X->Wx->O):O:=match c.P.underlying t,σ.H q,hi with
 |some (.slice e),some (.row e' τ l false),some n=>match fL c.P e with
   |some m=>match bB m τ.size with
     |true=>ck (decide (0<=n/\n<=l.length)) (k (.own fr) [(fr,some (.row e' τ (l.take n.toNat) false)),(q,none)])
     |false=>none
   |none=>none
 |_,_,_=>none
def B9:Option Int->Bool
 |none=>true
 |some n=>decide (n=0)
def Uk(c:Cx)(s:TypeId)(f:Nat)(a:X)(k:X->O):O:=ob (Gb c.P s f) λq=>match a with
 |.ref p off=>k (.ref p (off+q))
 |.rr p i j z=>k (.rr p i (j+q) z)
 |.pt τ y j=>k (.pt τ y (j+q))
 |_=>none
def Uj(c:Cx)(s:TypeId)(f:Nat)(a:X)(k:X->O):O:=match c.P.underlying s,a with
 |some (.struct fs),.agg xs=>match fs[f]? with
   |some fl=>match jG c.P fl.type,fL c.P fl.type with
     |some rw,some m=>match rw with
       |true=>match bB (mF m (oA fl.offset xs)).length m with|true=>k (.agg (mF m (oA fl.offset xs)))|false=>none
       |false=>ob xs[fl.offset]? k
     |_,_=>none
   |none=>none
 |_,_=>none
def rM(P:Program)(t:TypeId):Option X:=match(P.info? t).bind (·.zero)with|some z=>qX z|none=>none
def places(P:Program)(t:TypeId):Option (List (Nat×Nat)):=match P.underlying t with
 |some (.struct fs)=>wM (λf=>match fL P f.type with|some m=>some (f.offset,m)|none=>none) fs.toList
 |some (.array n e)=>match fL P e with|some m=>some ((gU n).map λi=>(i*m,m))|none=>none
 |_=>none
def Ga(pl:List (Nat×Nat)):List X->List (Nat×X)->(List X->O)->O
 |cells,[],k=>k cells
 |cells,(i,x)::rest,k=>match pl[i]? with
   |some (off,m)=>match x.val&&bB x.cells.length m&&j3 (off+m) cells.length with
     |true=>Ga pl (n3 cells off x.cells) rest k
     |false=>none
   |none=>none
def Vw.BJ(σ:Vw):List (Nat×Operand)->(List (Nat×X)->O)->O
 |[],k=>k []
 |(i,x)::l,k=>ob (σ.ev x) λy=>σ.BJ l λys=>k ((i,y)::ys)
def gR{α:Type}(x:α):Nat->List α->List α
 |_,[]=>[]
 |0,_::l=>x::l
 |n+1,y::l=>y::gR x n l
def Ba(τ:Ty)(v:Value):Bool:=match τ with
 |.i k=>match v with|.int k' n=>decide (k=k')&&decide (n=0)|_=>false
 |.u8=>match v with|.int .u8 n=>decide (n=0)|_=>false
 |.bo=>match v with|.bool false=>true|_=>false
 |.tx=>match v with|.string s=>(match s.data.toList with|[]=>true|_=>false)|_=>false
 |.sl _=>match v with|.slice none 0 0=>true|_=>false
 |_=>false
def pR(τ:Ty):List Value->Option (List Value)
 |x::r=>match Ba τ x with|true=>some r|false=>none
 |[]=>none
def Bb:Ty->List Value->Option (List Value)
 |.pr a b,l=>match Bb a l with|some l'=>Bb b l'|none=>none
 |.ex,l=>match pR (.i .i64) l with
   |some l=>match pR (.i .i64) l with
     |some l=>pR (.sl .ex) l
     |none=>none
   |none=>none
 |.un,l=>some l
 |.i k,l=>pR (.i k) l
 |.u8,l=>pR .u8 l
 |.bo,l=>pR .bo l
 |.tx,l=>pR .tx l
 |.sl e,l=>pR (.sl e) l
def lE(c:Cx)(t:TypeId):Option (TypeId×Ty×Nat):=match Ns c.P t with
 |some e=>match c.ty e,c.P.info? e with
   |some τ,some i=>match i.zero with
     |some z=>match Bb τ z.cells.toList with
       |some []=>match bB i.size τ.size&&(bB z.cells.size τ.size&&mW 0 τ.size)with|true=>some (e,τ,i.bytes)|false=>none
       |_=>none
     |none=>none
   |_,_=>none
 |none=>none
def U4(τ:Ty)(e:TypeId)(fr bt q:Nat)(st:Bool)(l:List τ.V)(z:Int)(k:X->Wx->O):O:=ck (decide (0<=z)) (ck (b9 (l.length+z.toNat) bt) (k (.own fr) [(fr,some (.row e τ (l++bY z.toNat τ.zero) st)),(q,none)]))
def VO(c:Cx)(σ:Vw)(fr:Nat)(st:Bool)(t t':TypeId)(x y:Operand)(k:X->Wx->O):O:=ob (lE c t) λp=>match p with
 |(e,τ,bt)=>ob (σ.ev x) λv=>ob (σ.ev y) λw=>match v,w,c.P.underlying t' with
   |.bI,.e (.i .i64) n,some (.int .i64)=>GY τ e fr bt st n k
   |.own q,.e (.i .i64) n,some (.int .i64)=>match σ.H q with
     |some (.row e' τ' l st')=>match eA τ' τ with
       |some ⟨h⟩=>match bB e' e with
         |true=>U4 τ e fr bt q st' (jD (aY Ty.sl h) l) n k
         |false=>none
       |none=>none
     |_=>none
   |_,_,_=>none
def GZ(τ:Ty)(σ:Vw):List τ.V->List (Nat×X)->(List τ.V->O)->O
 |l,[],k=>k l
 |l,(i,x)::rest,k=>match mW i l.length with
   |true=>ob (iO τ (σ.lD x)) λy=>GZ τ σ (gR y i l) rest k
   |false=>none
def ins(k:Nat):List Nat->List Nat
 |[]=>[k]
 |x::l=>match bB x k with|true=>x::l|false=>x::ins k l
mutual
def Tw:X->List Nat->List Nat
 |.own q,acc=>ins q acc
 |.ref q _,acc=>ins q acc
 |.rr q _ _ _,acc=>ins q acc
 |.sub q _,acc=>ins q acc
 |.gY q _ _,acc=>ins q acc
 |.vw q _ _ _,acc=>ins q acc
 |.via q _,acc=>ins q acc
 |.agg xs,acc=>jU xs acc
 |.aU xs,acc=>jU xs acc
 |.fn _ xs,acc=>jU xs acc
 |_,acc=>acc
def jU:List X->List Nat->List Nat
 |[],acc=>acc
 |x::l,acc=>jU l (Tw x acc)
end
def aFM{α:Type}:List (α×X)->List Nat->List Nat
 |[],acc=>acc
 |(_,x)::l,acc=>aFM l (Tw x acc)
def aYV:XO->List Nat->List Nat
 |.box _ xs,acc=>jU xs acc
 |.row ..,acc=>acc
 |.nest ..,acc=>acc
 |.mp _ l,acc=>aFM l acc
 |.it ..,acc=>acc
 |.bE _ _ _ _ _ ln,acc=>match ln with|some (_,q)=>ins q acc|none=>acc
def reach(H:Nat->Option XO):Nat->List Nat->List Nat->List Nat
 |0,_,acc=>acc
 |_+1,[],acc=>acc
 |n+1,q::todo,acc=>match H q with
   |some o=>reach H n (todo++(aYV o []).filter λx=>!(acc.contains x)&&!(todo.contains x)&&!(bB x q)) (acc++[q])
   |none=>reach H n todo (acc++[q])
def old(rn:List (Nat×Nat))(k:Nat):Option Nat:=match rn with
 |[]=>none
 |(new,o)::l=>match bB o k with|true=>some new|false=>old l k
mutual
def fG(f:Nat->Option Nat):X->Option X
 |.own q=>match f q with|some q'=>some (.own q')|none=>none
 |.ref q off=>match f q with|some q'=>some (.ref q' off)|none=>none
 |.rr q i j s=>match f q with|some q'=>some (.rr q' i j s)|none=>none
 |.agg xs=>match mI f xs with|some ys=>some (.agg ys)|none=>none
 |.aU xs=>match mI f xs with|some ys=>some (.aU ys)|none=>none
 |.fn g xs=>match mI f xs with|some ys=>some (.fn g ys)|none=>none
 |.e τ x=>some (.e τ x)
 |.bI=>some .bI
 |.pt τ y j=>some (.pt τ y j)
 |.v w=>some (.v w)
 |.bit ..=>none
 |.eP ..=>none
 |.sub ..=>none
 |.gY ..=>none
 |.vw ..=>none
 |.via q j=>match f q with|some q'=>some (.via q' j)|none=>none
 |.iP ..=>none
def mI(f:Nat->Option Nat):List X->Option (List X)
 |[]=>some []
 |x::l=>match fG f x with
   |some y=>match mI f l with|some r=>some (y::r)|none=>none
   |none=>none
end
def NA{α:Type}(f:Nat->Option Nat):List (α×X)->Option (List (α×X))
 |[]=>some []
 |(a,x)::l=>match fG f x with
   |some y=>match NA f l with|some r=>some ((a,y)::r)|none=>none
   |none=>none
def qQ(f:Nat->Option Nat):XO->Option XO
 |.nest e e' τ l=>some (.nest e e' τ l)
 |.mp τ l=>match NA f l with|some r=>some (.mp τ r)|none=>none
 |.it s pos=>some (.it s pos)
 |.box e xs=>match mI f xs with|some ys=>some (.box e ys)|none=>none
 |.row e τ l st=>some (.row e τ l st)
 |.bE e e' κ ρ l ln=>match ln with
   |none=>some (.bE e e' κ ρ l none)
   |some (i,q)=>match f q with|some q'=>some (.bE e e' κ ρ l (some (i,q')))|none=>none
def nZ(f:Nat->Option Nat)(H:Nat->Option XO):List (Nat×Nat)->Option XH
 |[]=>some []
 |(new,q)::l=>match H q with
   |some o=>match qQ f o with
     |some o'=>match nZ f H l with|some r=>some ((new,o')::r)|none=>none
     |none=>none
   |none=>none
def GR:Nat->List Nat->List (Nat×Nat)
 |_,[]=>[]
 |n,k::l=>(n,k)::GR (n+1) l
def canon(c:Cx)(σ:Vw)(t:TypeId)(x:X):X:=match c.ty t with
 |some τ=>match iO τ (σ.lD x)with
   |some y=>iE τ y
   |none=>x
 |none=>x
def Di(c:Cx)(σ:Vw):List TypeId->List X->List X
 |t::ts,x::xs=>canon c σ t x::Di c σ ts xs
 |_,xs=>xs
def jJ(fr:Nat)(rb:List (Nat×Nat))(k:Nat):Option Nat:=match j3 100 k with
 |true=>match mW k 108 with|true=>some (fr+(k-100))|false=>none
 |false=>lk k rb
def mU(f:Nat->Option Nat):XH->Option Wx
 |[]=>some []
 |(k,o)::l=>match f k with
   |some k'=>match qQ f o with
     |some o'=>match mU f l with|some r=>some ((k',some o')::r)|none=>none
     |none=>none
   |none=>none
def gone(H':XH):List (Nat×Nat)->Wx
 |[]=>[]
 |(new,q)::l=>match lk new H' with|some _=>gone H' l|none=>(q,none)::gone H' l
def qY:List Nat->Bool
 |[]=>true
 |k::l=>match l.contains k with|true=>false|false=>qY l
def NI(fr:Nat)(rn:List (Nat×Nat)):Bool:=rn.all (λp=>j3 50 p.1&&mW p.1 100&&(mW p.2 fr||j3 (fr+8) p.2)&&(match lk p.1 rn with |some q=>bB q p.2 |none=>false))&&qY (rn.map (·.2))
def Gn(σ:Vw)(fr:Nat)(g:bR)(ys:List X)(els:O)(k:X->Wx->O):O:=match GR 50 (reach σ.H 40 (jU ys []) [])with
 |rn=>match NI fr rn with
   |false=>els
   |true=>match mI (old rn) ys with
     |none=>els
     |some zs=>match nZ (old rn) σ.H rn with
       |none=>els
       |some H=>match g zs H with
         |some (pre,r)=>match qY (r.2.map (·.1))with
           |true=>ob (fG (jJ fr rn) r.1) λx=>ob (mU (jJ fr rn) r.2) λW=>kI (σ.g.map (·.2)) pre (k x (W++gone r.2 rn))
           |false=>none
         |none=>els
def VE(c:Cx)(σ:Vw)(fr:Nat)(f:FuncId)(xs:List X)(k:X->Wx->O):O:=
 ob (lk f c.G) λg=>ob c.P.funcs[f]? λfn=>match fn.body with
  |none=>none
  |some _=>Gn σ fr g (Di c σ fn.params.toList xs) (Gn σ fr g xs none k) k
def GX(σ:Vw)(n:Nat):List (Nat×Operand)->Option (Nat×TypeId×(τ:Ty)×List τ.V)
 |[(0,x)]=>match bB n 1 with
   |true=>match σ.ev x with
     |some (.own q)=>match σ.H q with
       |some (.row e τ l false)=>some (q,e,⟨τ,l⟩)
       |_=>none
     |_=>none
   |false=>none
 |_=>none
def GW(σ:Vw):X->Option (Nat×TypeId×TypeId×(τ:Ty)×List (List τ.V))
 |.own q=>match σ.H q with
   |some (.nest e e' τ l)=>some (q,e,e',⟨τ,l⟩)
   |_=>none
 |_=>none
def VC{a b:Ty}(h:a=b)(l:List (List a.V)):List (List b.V):=h ▸ l
def VS(σ:Vw)(e:TypeId)(fr bt:Nat)(v:X)(q:Nat)(e1 e1':TypeId)(τ:Ty)(l':List (List τ.V))(k:X->Wx->O):O:=match bB e1 e with
 |true=>match v with
   |.bI=>ck (b9 l'.length bt) (k (.own fr) [(fr,some (.nest e e1' τ l')),(q,none)])
   |v=>match GW σ v with
     |some (q0,e0,e0',⟨τ0,l⟩)=>match eA τ0 τ with
       |some ⟨h⟩=>match bB e0 e&&bB e0' e1'&&!(bB q0 q)with
         |true=>ck (b9 (l.length+l'.length) bt) (k (.own fr) [(fr,some (.nest e e1' τ (VC h l++l'))),(q0,none),(q,none)])
         |false=>none
       |none=>none
     |none=>none
 |false=>none
def To(σ:Vw)(n:Nat):List (Nat×Operand)->Option (Nat×TypeId×((κ:Ty)×List κ.V)×List X)
 |[(0,x)]=>match bB n 1 with
   |true=>match σ.ev x with
     |some (.agg (.own q::ys))=>match σ.H q with
       |some (.row e κ l false)=>some (q,e,⟨κ,l⟩,ys)
       |_=>none
     |_=>none
   |false=>none
 |_=>none
def UL(σ:Vw)(fr:Nat)(e e':TypeId)(q:Nat)(κ:Ty)(l:List κ.V)(ys:List X)(k:X->Wx->O):Ty->O
 |.pr (.sl κ') ρ=>match eA κ κ' with
   |some _=>match j3 (1+ρ.size) 16777216 with
     |true=>match tE ρ (ys.map σ.iJ)with
       |some r=>k (.own fr) [(fr,some (.bE e e' κ ρ [(l,r)] none)),(q,none)]
       |none=>none
     |false=>none
   |none=>none
 |_=>none
def GS(σ:Vw):X->Option (Nat×TypeId×TypeId×(κ:Ty)×(ρ:Ty)×List (List κ.V×ρ.V))
 |.own q=>match σ.H q with
   |some (.bE e e' κ ρ l none)=>some (q,e,e',⟨κ,ρ,l⟩)
   |_=>none
 |_=>none
def aGY{κ κ' ρ ρ':Ty}(h:κ=κ')(g:ρ=ρ')(l:List (List κ.V×ρ.V)):List (List κ'.V×ρ'.V):=h ▸ g ▸ l
def Tp:Ty->Option (Ty×Ty)
 |.pr (.sl κ) ρ=>some (κ,ρ)
 |.sl κ=>some (κ,.un)
 |_=>none
def VR(σ:Vw)(e:TypeId)(fr bt:Nat)(v:X)(q:Nat)(e1 e1':TypeId)(κ ρ:Ty)(l':List (List κ.V×ρ.V))(k:X->Wx->O)(τ0:Ty):O:=match Tp τ0 with
 |some (κ1,ρ1)=>match eA κ1 κ with
   |some _=>match eA ρ1 ρ with
     |some _=>match bB e1 e with
       |true=>match v with
         |.bI=>ck (b9 (dN l') bt) (k (.own fr) [(fr,some (.bE e e1' κ ρ l' none)),(q,none)])
         |v=>match GS σ v with
           |some (q0,e0,e0',⟨κ0,ρ0,l⟩)=>match eA κ0 κ with
             |some ⟨h⟩=>match eA ρ0 ρ with
               |some ⟨g⟩=>match bB e0 e&&bB e0' e1'&&!(bB q0 q)with
                 |true=>ck (b9 (dN l+dN l') bt) (k (.own fr) [(fr,some (.bE e e1' κ ρ (aGY h g l++l') none)),(q0,none),(q,none)])
                 |false=>none
               |none=>none
             |none=>none
           |none=>none
       |false=>none
     |none=>none
   |none=>none
 |_=>none
def xD(a b:Int):Bool:=decide (a=b)
def Gh(a b:UInt8):Bool:=decide (a=b)
def Nu(a b:List UInt8):Bool:=decide (a=b)
def Gi(a b:Bool):Bool:=decide (a=b)
def D1:(τ:Ty)->τ.V->τ.V->Bool
 |.i _,a,b=>xD a b
 |.u8,a,b=>Gh a b
 |.tx,a,b=>Nu a b
 |.bo,a,b=>Gi a b
 |_,_,_=>false
def D0:TypeDesc->Ty->Bool
 |.int k,.i k'=>decide (k=k')
 |.int .u8,.u8=>true
 |.string,.tx=>true
 |.bool,.bo=>true
 |_,_=>false
def N8(τ:Ty)(x:X)(k:τ.V->O):O:=match x with
 |.e τ' y=>match eA τ' τ with|some ⟨h⟩=>k (jD h y)|none=>none
 |_=>none
def UB(c:Cx)(σ:Vw)(kt:TypeId)(a b v:X)(k:X->Wx->O):O:=match c.P.underlying kt,a with
 |some d,.own q=>match σ.H q with
   |some (.mp τ l)=>match D0 d τ&&v.val with
     |true=>N8 τ b λx=>ck (l.all λp=>!(D1 τ p.1 x)) (k (.aU []) [(q,some (.mp τ (l++[(x,v)])))])
     |false=>none
   |_=>none
 |_,_=>none
def Tm(cm:Bool)(x:X)(b:Bool):X:=match cm with|true=>.aU [x,.e .bo b]|false=>x
def UI(τ:Ty)(x:τ.V)(kf:X->O)(k0:O):List (τ.V×X)->O
 |[]=>k0
 |(y,v)::r=>br (D1 τ y x) (kf v) (UI τ x kf k0 r)
def UC(c:Cx)(σ:Vw)(kt:TypeId)(a b z:X)(cm:Bool)(k:X->O):O:=match c.P.underlying kt,a with
 |some d,.own q=>match σ.H q with
   |some (.mp τ l)=>match D0 d τ with
     |true=>N8 τ b λx=>UI τ x (λv=>k (Tm cm v true)) (k (Tm cm z false)) l
     |false=>none
   |_=>none
 |_,_=>none
def Tv(s:List UInt8)(pos:Int)(q:Nat)(k:X->Wx->O):O:=br (decide (pos<s.length))
 (gx s pos λb=>ck (decide (b.toNat<128)) (k (.aU [.e .bo true,.e (.i .i64) pos,.e (.i .i32) (b.toNat:Int)]) [(q,some (.it s (pos+1)))]))
 (k (.aU [.e .bo false]) [])
def Gx{α:Type}(f:α->Option Bool):List α->Option Bool
 |[]=>some true
 |[x]=>f x
 |x::l=>match f x with
   |some a=>match Gx f l with|some b=>some (a&&b)|none=>none
   |none=>none
def De(s off:Nat)(xs ys:List X)(k:List X->List X->Option Bool):Option Bool:=
 match bB (mF s (oA off xs)).length s&&bB (mF s (oA off ys)).length s with
 |true=>k (mF s (oA off xs)) (mF s (oA off ys))
 |false=>none
def mR(P:Program):Nat->TypeId->List X->List X->Option Bool
 |0,_,_,_=>none
 |n+1,t,xs,ys=>match P.underlying t with
   |some (.int _)=>match xs,ys with
     |[.e (.i k) a],[.e (.i k') b]=>match decide (k=k')with|true=>some (xD a b)|false=>none
     |[.e .u8 a],[.e .u8 b]=>some (Gh a b)
     |_,_=>none
   |some .bool=>match xs,ys with
     |[.e .bo a],[.e .bo b]=>some (Gi a b)
     |_,_=>none
   |some .string=>match xs,ys with
     |[.e .tx a],[.e .tx b]=>some (Nu a b)
     |_,_=>none
   |some (.array m e)=>match fL P e with
     |some s=>Gx (λi=>De s (i*s) xs ys (mR P n e)) (gU m)
     |none=>none
   |some (.struct fs)=>match P.stoodInHeld t with
     |true=>none
     | false => Gx (fun f => match fL P f.type with | some s => (match f.name == "_" with | true => none | false => De s f.offset xs ys (mR P n f.type)) | none => none) fs.toList
   |_=>none
def Uo(P:Program)(op:BinOp)(t:TypeId)(v w:X):Option Bool:=match v with
 |.agg xs=>match w with
   |.agg ys=>match jG P t,P.eqGuardType P.depth t with
     |some true,false=>(match op with
       |.eql=>mR P 12 t xs ys
       |.neq=>(match mR P 12 t xs ys with|some b=>some (!b)|none=>none)
       |_=>none)
     |_,_=>none
   |_=>none
 |_=>none
def X.pl:X->Bool
 |.bit ..=>false
 |.eP ..=>false
 |_=>true
def TU(c:Cx)(σ:Vw)(t:TypeId)(v:X)(k:X->Wx->O):O:=match c.P.underlying t with
 |some (.pointer _)=>match v with
   |.own q=>match σ.H q with
     |some (.row ..)=>k (.via q 1) []
     |_=>none
   |.bI=>k (.v (.pointer none)) []
   |_=>none
 |_=>none
def Sn(c:Cx)(σ:Vw)(pt:TypeId)(v w:X)(k:X->Wx->O):O:=match c.P.underlying pt with
 |some (.pointer e)=>match v,w with
   |.via q 1,.e (.i .i64) n=>match σ.H q with
     |some (.row e0 .u8 l _)=>match bB e0 e&&bB (c.P.cellsOf e) 1 with
       |true=>ck (xD n (dN (α:=UInt8) l:Int)) (k (.e .tx l) [(q,none)])
       |false=>none
     |_=>none
   |.v (.pointer none),.e (.i .i64) n=>ck (xD n 0) (k (.e .tx []) [])
   |_,_=>none
 |_=>none
def Gr(fr:Nat):List X->List X
 |[.v (.pointer none),.bI]=>[.via fr 0,.bI]
 |l=>l
def wK(x:X)(k:X->Wx->O):O:=match x.pl with|true=>k x []|false=>none
def unm(c:Cx):Bool:=match lk 999999 c.G with|some _=>true|none=>false
def eE(c:Cx)(σ:Vw)(fr:Nat)(st:Bool)(o:Oper)(k:X->Wx->O):O:=match o.op with
 |.move x=>ob (σ.ev x) λv=>k v []
 |.assign x=>ob (σ.ev x) λv=>k v []
 |.pick b x y=>Tb σ b x y λr=>k r []
 |.alloc e=>ob (rM c.P e) λz=>k (.ref fr 0) [(fr,some (.box e (Gr fr z.cells)))]
 |.box e x=>ob (σ.ev x) λv=>match v.val with|true=>k (.ref fr 0) [(fr,some (.box e v.cells))]|false=>none
 |.build t ps=>ob (rM c.P t) λz=>ob (places c.P t) λpl=>σ.BJ ps.toList λxs=>Ga pl z.cells xs λcs=>k (.agg cs) []
 |.buildSlice t n ps=>ob (lE c t) λp=>match p with
   |(e,τ,_)=>match GX σ n ps.toList with
    |some (q,e',⟨τ',l⟩)=>match eA τ (.sl τ')with
     |some _=>match τ'.one with
       |true=>match unm c with
         |true=>k (.own fr) [(fr,some (.bE e e' τ' .un [(l,())] none)),(q,none)]
         |false=>k (.own fr) [(fr,some (.nest e e' τ' [l])),(q,none)]
       |false=>none
     |none=>none
    |none=>match To σ n ps.toList with
     |some (q,e',⟨κ,l⟩,ys)=>UL σ fr e e' q κ l ys k τ
     |none=>match j3 (n*τ.size) 16777216 with
      |true=>σ.BJ ps.toList λxs=>GZ τ σ (DE τ.zero n) xs λl=>k (.own fr) [(fr,some (.row e τ l st))]
      |false=>none
 |.makeMap t r=>match r with
   |none=>match c.P.underlying t with
     |some (.map kt _)=>match c.ty kt with
       |some τ=>k (.own fr) [(fr,some (.mp τ []))]
       |none=>none
     |_=>none
   |some _=>none
 |.insert t m x y=>match c.P.underlying t with
   |some (.map kt _)=>ob (σ.ev m) λa=>ob (σ.ev x) λb=>ob (σ.ev y) λv=>UB c σ kt a b v k
   |_=>none
 |.range t x=>match c.P.underlying t with
   |some .string=>ob (σ.ev x) λv=>match v with
     |.e .tx s=>k (.own fr) [(fr,some (.it s 0))]
     |_=>none
   |_=>none
 |.next i b=>match b with
   |true=>ob (σ.ev i) λv=>match v with
     |.own q=>match σ.H q with
       |some (.it s pos)=>Tv s pos q k
       |_=>none
     |_=>none
   |false=>none
 |.lookup t m x cm=>match c.P.underlying t with
   |some (.map kt et)=>ob (σ.ev m) λa=>ob (σ.ev x) λb=>ob (rM c.P et) λz=>UC c σ kt a b z cm λr=>wK r k
   |_=>none
 |.load t a=>ob (σ.ev a) λv=>match st with
   |true=>UJ c σ t v λy=>wK y k
   |false=>UK c σ t v λy=>k y []
 |.store t a y=>ob (σ.ev a) λv=>ob (σ.ev y) λw=>match w.val with|true=>(match st with|true=>Sv c σ t v w k|false=>Sw c σ t v w k)|false=>none
 |.nilCheck x=>ob (σ.ev x) λv=>match v with
   |.ref ..=>k v []
   |.rr ..=>k v []
   |.pt ..=>k v []
   |.fn ..=>k v []
   |_=>none
 |.binOp op xt x y _=>ob (σ.ev x) λv=>ob (σ.ev y) λw=>match Tt c.P xt op v w y with
   |some b=>k (.e .bo b) []
   |none=>match Uo c.P op xt v w with
   |some b=>k (.e .bo b) []
   |none=>VH c.P (σ.g.map (·.2)) op xt v w λr=>k r []
 |.unOp op _ x=>ob (σ.ev x) λv=>match op,v with
   |.not,.e .bo q=>aFH q λr=>k r []
   |.neg,.e (.i ik) n=>aFL ik n λr=>k r []
   |_,_=>none
 |.convert s d x=>ob (σ.ev x) λv=>match c.P.underlying s,c.P.underlying d,v with
   |some (.slice e),some .string,v=>match c.P.underlying e with
     |some (.int .u8)=>ob (σ.src .u8 v) λl=>k (.e .tx l) []
     |_=>none
   |_,_,v=>Nw c.P s d v λr=>k r []
 |.makeInterface t x=>ob (σ.ev x) λv=>match c.P.underlying t,v with
   |some (.int _),.e (.i ik) n=>k (.v (.iface t (.int ik n))) []
   |_,_=>none
 |.makeFunc (.func f) first caps=>match first.toList with
   |[]=>σ.tG caps.toList λxs=>k (.fn f xs) []
   |_=>none
 |.makeSlice t n m=>match Tf n m with
   |true=>ob (σ.ev n) λv=>match v with
     |.e (.i .i64) z=>ob (lE c t) λp=>match p with|(e,τ,b)=>GY τ e fr b false z k
     |_=>none
   |false=>none
 |.slice t x lo hi mx=>match mx with
   |none=>ob (σ.ev x) λv=>match v,lo,hi with
     |.bI,lo,hi=>σ.kD lo λlo=>σ.kD hi λhi=>match c.P.underlying t with
       |some (.slice e)=>match fL c.P e with
         |some _=>kI (σ.g.map (·.2)) (B9 lo&&B9 hi) (k .bI [])
         |none=>none
       |_=>none
     |.pt σ y j,none,none=>TM c t (.pt σ y j) λr=>k r []
     |.own q,lo,hi=>match σ.H q with
       |some (.row _ τ l false)=>σ.kD lo λlo=>σ.kD hi λhi=>match st with
         |true=>TL c σ t q τ l lo hi k
         |false=>match lo with|none=>Uw c σ fr t q hi k|some _=>none
       |_=>σ.kD lo λlo=>σ.kD hi λhi=>Mm c σ t (.own q) lo hi λr=>k r []
     |v,lo,hi=>σ.kD lo λlo=>σ.kD hi λhi=>Mm c σ t v lo hi λr=>k r []
   |some _=>none
 |.fieldAddr s x f=>ob (σ.ev x) λv=>Uk c s f v λr=>k r []
 |.field s x f=>ob (σ.ev x) λv=>Uj c s f v λr=>wK r k
 |.indexAddr t x n=>ob (σ.ev x) λv=>ob (σ.ev n) λw=>match st with
   |true=>U1 c σ t v w λr=>k r []
   |false=>U0 c σ t v w λr=>k r []
 |.index t x n=>ob (σ.ev x) λv=>ob (σ.ev n) λw=>UZ c t (σ.g.map (·.2)) v w λr=>k r []
 |.extract x n=>ob (σ.ev x) λv=>match v with
   |.aU xs=>ob xs[n]? λr=>wK r k
   |_=>none
 |.call { callee:=.builtin b,args,argTypes }=>match b,args.toList,argTypes.toList with
   |.len,[x],[t]=>ob (σ.ev x) λv=>UR c σ t v λr=>k r []
   |.append,[x,y],[t,t']=>match bB t t' with
     |false=>VO c σ fr st t t' x y k
     |true=>ob (lE c t) λp=>match p with
       |(e,τ,bt)=>ob (σ.ev x) λv=>ob (σ.ev y) λw=>match T9 v with
       |some p=>VQ σ e τ bt fr p w k
       |none=>match GW σ w with
        |some (q,e1,e1',⟨τ1,l'⟩)=>match eA τ (.sl τ1)with
         |some _=>match τ1.one with
           |true=>VS σ e fr bt v q e1 e1' τ1 l' k
           |false=>none
         |none=>none
        |none=>match GS σ w with
        |some (q,e1,e1',⟨κ,ρ,l'⟩)=>VR σ e fr bt v q e1 e1' κ ρ l' k τ
        |none=>ob (σ.src τ w) λl'=>match v with
         |.own q=>match σ.H q with
           |some (.row e' τ' l st')=>match eA τ' τ with
             |some ⟨h⟩=>match bB e' e with
               |true=>VP τ e fr bt [(q,none)] st' (jD (aY Ty.sl h) l) l' k
               |false=>none
             |none=>none
           |_=>none
         |.bI=>ck (b9 (dN l') bt) (k (.own fr) [(fr,some (.row e τ l' st))])
         |_=>none
   |.unsafeSliceData,[x],[_]=>ob (σ.ev x) λv=>TU c σ o.type v k
   |.unsafeString,[x,y],[pt,_]=>ob (σ.ev x) λv=>ob (σ.ev y) λw=>Sn c σ pt v w k
   |.cap,[x],[t]=>ob (σ.ev x) λv=>match v,c.P.underlying t with
     |.bI,some (.slice _)=>k (.e (.i .i64) (0:Int)) []
     |_,_=>none
   |.copy,[x,y],[t,_]=>ob (σ.ev x) λv=>ob (σ.ev y) λw=>Ux c σ t v w k
   |.max,[x,y],_=>ob (σ.ev x) λv=>ob (σ.ev y) λw=>match v,w with
     |.e (.i .i64) m,.e (.i .i64) n=>N0 m n λr=>k r []
     |_,_=>none
   |.max,[x,y,z],_=>ob (σ.ev x) λv=>ob (σ.ev y) λw=>ob (σ.ev z) λu=>match v,w,u with
     |.e (.i .i64) m,.e (.i .i64) n,.e (.i .i64) p=>N0 (max (m:Int) n) p λr=>k r []
     |_,_,_=>none
   |.min,[x,y],_=>ob (σ.ev x) λv=>ob (σ.ev y) λw=>match v,w with
     |.e (.i .i64) m,.e (.i .i64) n=>aFO m n λr=>k r []
     |_,_=>none
   |_,_,_=>none
 |.call { callee:=.value f,args,.. }=>ob (σ.ev f) λv=>match v with
   |.fn g caps=>σ.tG args.toList λxs=>VE c σ fr g (xs++caps) k
   |_=>none
 |_=>none
def brO(b:Option Bool)(x y:O):O:=match b with|some b=>br b x y|none=>y
def OB(σ:Vw)(fr:Nat)(g:tV)(ys:List X)(els:O)(k:X->Wx->O)(kp:Value->Wx->O):O:=match GR 50 (reach σ.H 40 (jU ys []) [])with
 |rn=>match NI fr rn with
   |false=>els
   |true=>match mI (old rn) ys with
     |none=>els
     |some zs=>match nZ (old rn) σ.H rn with
       |none=>els
       |some H=>match g zs H with
         |some (pre,b,r,(.iP v,H'))=>match qY (r.2.map (·.1))&&qY (H'.map (·.1))with
           |true=>ck pre (brO b
             (ob (fG (jJ fr rn) r.1) λx=>ob (mU (jJ fr rn) r.2) λW=>k x (W++gone r.2 rn))
             (ob (mU (jJ fr rn) H') λW=>kp v (W++gone H' rn)))
           |false=>none
         |_=>els
def VF(c:Cx)(σ:Vw)(fr:Nat)(f:FuncId)(gp:tV)(xs:List X)(k:X->Wx->O)(kp:Value->Wx->O):O:=ob c.P.funcs[f]? λfn=>match fn.body with
 |none=>none
 |some _=>OB σ fr gp (Di c σ fn.params.toList xs) (OB σ fr gp xs none k kp) k kp
def NP(c:Cx)(σ:Vw)(fr:Nat)(o:Oper)(k:X->Wx->O)(kp:Value->Wx->O)(els:O):O:=match o.op with
 |.panic x=>ob (σ.ev x) λv=>match v with
   |.v (.iface t w)=>kp (.iface t w) []
   |_=>none
 |.call { callee:=.value f,args,.. }=>match σ.ev f with
   |some (.fn g caps)=>match lk g c.Gp with
     |some gp=>σ.tG args.toList λxs=>VF c σ fr g gp (xs++caps) k kp
     |none=>els
   |_=>els
 |_=>els
def Sg.vw(σ:Sg):Vw:=⟨λt=>lk t σ.T,λk=>lk k σ.H,none⟩
def aGO:Op->Bool
 |.move _=>true
 |.assign _=>true
 |.pick ..=>true
 |.load ..=>true
 |.binOp ..=>true
 |.unOp ..=>true
 |.convert ..=>true
 |.nilCheck _=>true
 |.fieldAddr ..=>true
 |.field ..=>true
 |.indexAddr ..=>true
 |.index ..=>true
 |.extract ..=>true
 |.slice ..=>true
 |.call { callee:=.builtin .len,.. }=>true
 |.call { callee:=.builtin .max,.. }=>true
 |.call { callee:=.builtin .min,.. }=>true
 |.call { callee:=.value _,.. }=>true
 |_=>false
def BM(j:Nat)(w:Bool):Nat:=match w with|true=>2*j+1|false=>2*j
def xH(w q:Bool):Bool:=match w with|true=>q|false=>!q
inductive Gd where
 |on|off
 |cd (key:Nat) (c:Bool) (t:Tmp) (j:Nat) (x:X) (new:Bool)
 |kn (b:Bool)
def Nd(o:Oper)(ops:List Oper)(T:Nat->Option X):Option Gd:=match o.guard with
 |none=>some .on
 |some (j,w)=>match ops[j]? with
   |some oj=>match oj.dst with
     |some t=>match T t with
       |some (.e .bo q)=>some (.cd (BM j w) (xH w q) t j (.bit j q) true)
       |some (.bit j' q)=>match bB j' j with
         |true=>some (.cd (BM j w) (xH w q) t j (.bit j q) false)
         |false=>none
       |some (.eP key c (.e .bo q))=>some (.cd (BM j w) (c&&xH w q) t j (.eP key c (.bit j q)) true)
       |some (.eP key c (.bit j' q))=>match bB j' j with
         |true=>some (.cd (BM j w) (c&&xH w q) t j (.eP key c (.bit j q)) false)
         |false=>none
       |some (.aU [])=>some .off
       |some (.v (.bool b))=>some (.kn (match b,w with|true,true=>true|false,false=>true|_,_=>false))
       |_=>none
     |none=>none
   |none=>none
def qO(j:Nat):X->Bool
 |.bit j' _=>bB j' j
 |.eP key _ x=>bB key (2*j)||bB key (2*j+1)||(match x with |.bit j' _=>bB j' j |_=>false)
 |_=>false
def G7(j:Nat):XT->Bool
 |[]=>true
 |(_,x)::l=>match qO j x with|true=>false|false=>G7 j l
def lB:XT->Bool
 |[]=>true
 |(_,x)::l=>match x.pl with|true=>lB l|false=>false
def qV:XT->(XT->O)->O
 |[],f=>f []
 |(t,x)::l,f=>match x with
   |.bit _ q=>qV l λl'=>f ((t,.e .bo q)::l')
   |.eP ..=>qV l λl'=>pA t l' f
   |.v (.bool q)=>qV l λl'=>f ((t,.e .bo q)::l')
   |x=>qV l λl'=>f ((t,x)::l')
def Ts:Wx->O->O
 |[],k=>k
 |_,_=>none
def Cz(c:Cx)(σ:Sg)(T:XT)(st:Bool)(o:Oper)(m:Nat)(K:Exit->Sg->O)(next:Sg->O):O:=
 NP c ⟨λt=>lk t T,λk=>lk k σ.H,none⟩ σ.N o
  (λx W=>s9 o.dst x T λT=>nV W σ.H λH=>next ⟨T,H,σ.N+8⟩)
  (λv W=>nV W σ.H λH=>qV T λT=>K (.panic [qW v]) ⟨T,H,σ.N+8*m⟩)
  (eE c ⟨λt=>lk t T,λk=>lk k σ.H,none⟩ σ.N st o λx W=>s9 o.dst x T λT=>nV W σ.H λH=>next ⟨T,H,σ.N+8⟩)
def Cw(σ:Sg)(T:XT)(o:Oper)(next:Sg->O):O:=s9 o.dst (.aU []) T λT=>next ⟨T,σ.H,σ.N+8⟩
def jP(c:Cx)(stF:List Nat)(all:List Oper):List Oper->Nat->Sg->(Exit->Sg->O)->O
 |[],_,σ,k=>qV σ.T λT=>k .normal ⟨T,σ.H,σ.N⟩
 |o::rest,i,σ,k=>ob (Nd o all λt=>lk t σ.T) λg=>match g with
   |.on=>Cz c σ σ.T (!(stF.contains i)) o (rest.length+1) k λσ'=>jP c stF all rest (i+1) σ' k
   |.off=>Cw σ σ.T o λσ'=>jP c stF all rest (i+1) σ' k
   |.kn true=>Cz c σ σ.T (!(stF.contains i)) o (rest.length+1) k λσ'=>jP c stF all rest (i+1) σ' k
   |.kn false=>Cw σ σ.T o λσ'=>jP c stF all rest (i+1) σ' k
   |.cd key b t j y new=>match stF.contains (i+1000)with
     |true=>match y,new,o.guard with
       |.bit _ q,true,some (_,w)=>br q
         (iY t (.v (.bool true)) σ.T λT=>match w with
          |true=>Cz c σ T (!(stF.contains i)) o (rest.length+1) k λσ'=>jP c stF all rest (i+1) σ' k
          |false=>Cw σ T o λσ'=>jP c stF all rest (i+1) σ' k)
         (iY t (.v (.bool false)) σ.T λT=>match w with
          |true=>Cw σ T o λσ'=>jP c stF all rest (i+1) σ' k
          |false=>Cz c σ T (!(stF.contains i)) o (rest.length+1) k λσ'=>jP c stF all rest (i+1) σ' k)
       |_,_,_=>none
     |false=>match !new||G7 j σ.T with
       |true=>iY t y σ.T λT=>match aGO o.op&&!(stF.contains i)with
         |true=>eE c ⟨λt=>lk t T,λk=>lk k σ.H,some (key,b)⟩ σ.N (!(stF.contains i)) o λx W=>Ts W (s9 o.dst (.eP key b x) T λT=>jP c stF all rest (i+1) ⟨T,σ.H,σ.N+8⟩ k)
         |false=>br b
           (eE c ⟨λt=>lk t T,λk=>lk k σ.H,some (key,b)⟩ σ.N (!(stF.contains i)) o λx W=>s9 o.dst x T λT=>nV W σ.H λH=>jP c stF all rest (i+1) ⟨T,H,σ.N+8⟩ k)
           (s9 o.dst (.aU []) T λT=>jP c stF all rest (i+1) ⟨T,σ.H,σ.N+8⟩ k)
       |false=>none
abbrev Rx:=List (X×Wx)
def Me(σ:Vw)(dst:Option Tmp)(x:X)(W:Wx):Vw:=⟨λt=>match dst with|some t'=>(match bB t' t with|true=>some x|false=>σ.T t)|none=>σ.T t,λk=>match lk k W with|some r=>r|none=>σ.H k,none⟩
def nX(dst:Nat->Option Tmp)(S:Nat->Bool):Nat->Rx->Vw->Vw
 |_,[],σ=>σ
 |i,(x,W)::rs,σ=>nX dst S (i+1) rs (match S i with|true=>Me σ (dst i) x W|false=>σ)
def jY(ops:Array Oper)(pre kl:List (List Nat))(fr i:Nat)(rs:Rx)(σ:Vw)(g:Option (Nat×Bool)):Vw:=
 ⟨λt=>match(gU ops.size).any (λp=>apart pre i p&&(Region.fB ops p == some t))with|true=>none|false=>(nX (Region.fB ops) (λj=>(pre.getD i []).contains j) 0 rs σ).T t,
  λk=>match(gU ops.size).any (λp=>apart pre i p&&eY kl fr p k)with|true=>none|false=>(nX (Region.fB ops) (λj=>(pre.getD i []).contains j) 0 rs σ).H k,g⟩
def Cy(j:Nat)(y:X)(rs:Rx)(f:Rx->O):O:=match rs[j]? with
 |some (_,W)=>f (gR (y,W) j rs)
 |none=>none
def Aw(t:Tmp)(j:Nat):Nat->List Oper->Bool
 |_,[]=>true
 |p,o::l=>match o.dst with
   |some t'=>match bB t' t&&!(bB p j)with|true=>false|false=>Aw t j (p+1) l
   |none=>Aw t j (p+1) l
def G8(j:Nat):Rx->Bool
 |[]=>true
 |(x,_)::l=>match qO j x with|true=>false|false=>G8 j l
def aF5(pre:List (List Nat))(n i:Nat):Bool:=(gU n).all λp=>j3 p i||(pre.getD p []).contains i
def NX:Rx->Bool
 |[]=>true
 |(_,[])::l=>NX l
 |_::_=>false
def DA(c:Cx)(stF:List Nat)(ops:Array Oper)(pre kl:List (List Nat))(fr:Nat)(σ:Vw)(HL:XH)(K:Exit->Sg->O)(o:Oper)(i:Nat)(rs:Rx)(next:Rx->O):O:=
 NP c (jY ops pre kl fr i rs σ none) (fr+8*i) o
  (λx W=>match W.all (λp=>eY kl fr i p.1)with
  |true=>next (rs++[(x,W)])
  |false=>none)
  (λv W=>match aF5 pre ops.size i&&NX rs with
  |true=>nV W HL λH=>K (.panic [qW v]) ⟨[],H,fr+8*ops.size⟩
  |false=>none)
  (eE c (jY ops pre kl fr i rs σ none) (fr+8*i) (!(stF.contains i)) o λx W=>match W.all (λp=>eY kl fr i p.1)with
  |true=>next (rs++[(x,W)])
  |false=>none)
def kH(c:Cx)(stF:List Nat)(ops:Array Oper)(pre kl:List (List Nat))(fr:Nat)(σ:Vw)(HL:XH)(K:Exit->Sg->O):List Oper->Nat->Rx->(Rx->O)->O
 |[],_,rs,k=>k rs
 |o::rest,i,rs,k=>ob (Nd o ops.toList (jY ops pre kl fr i rs σ none).T) λg=>match g with
   |.on=>DA c stF ops pre kl fr σ HL K o i rs λrs=>kH c stF ops pre kl fr σ HL K rest (i+1) rs k
   |.off=>kH c stF ops pre kl fr σ HL K rest (i+1) (rs++[(.aU [],[])]) k
   |.kn true=>DA c stF ops pre kl fr σ HL K o i rs λrs=>kH c stF ops pre kl fr σ HL K rest (i+1) rs k
   |.kn false=>kH c stF ops pre kl fr σ HL K rest (i+1) (rs++[(.aU [],[])]) k
   |.cd key b t j y new=>match stF.contains (i+1000)with
     |true=>match y,new,o.guard,Aw t j 0 ops.toList&&(pre.getD i []).contains j with
       |.bit _ q,true,some (_,w),true=>br q
         (Cy j (.v (.bool true)) rs λrs=>match w with
          |true=>DA c stF ops pre kl fr σ HL K o i rs λrs=>kH c stF ops pre kl fr σ HL K rest (i+1) rs k
          |false=>kH c stF ops pre kl fr σ HL K rest (i+1) (rs++[(.aU [],[])]) k)
         (Cy j (.v (.bool false)) rs λrs=>match w with
          |true=>kH c stF ops pre kl fr σ HL K rest (i+1) (rs++[(.aU [],[])]) k
          |false=>DA c stF ops pre kl fr σ HL K o i rs λrs=>kH c stF ops pre kl fr σ HL K rest (i+1) rs k)
       |_,_,_,_=>none
     |false=>match(!new||G8 j rs)&&(Aw t j 0 ops.toList&&(pre.getD i []).contains j)with
       |true=>Cy j y rs λrs=>match aGO o.op&&!(stF.contains i)with
         |true=>eE c (jY ops pre kl fr i rs σ (some (key,b))) (fr+8*i) (!(stF.contains i)) o λx W=>Ts W (kH c stF ops pre kl fr σ HL K rest (i+1) (rs++[(.eP key b x,[])]) k)
         |false=>br b
           (eE c (jY ops pre kl fr i rs σ (some (key,b))) (fr+8*i) (!(stF.contains i)) o λx W=>match W.all (λp=>eY kl fr i p.1)with
            |true=>kH c stF ops pre kl fr σ HL K rest (i+1) (rs++[(x,W)]) k
            |false=>none)
           (kH c stF ops pre kl fr σ HL K rest (i+1) (rs++[(.aU [],[])]) k)
       |false=>none
def Ni:List Oper->Rx->XT->XH->(XT->XH->O)->O
 |o::ops,(x,W)::rs,T,H,k=>s9 o.dst x T λT'=>nV W H λH'=>Ni ops rs T' H' k
 |_,_,T,H,k=>k T H
inductive Mv where
 |qP (t:Nat)
 |mL (t:Nat) (o:XO)
 |BB (t i:Nat) (o:XO)
 |fz (t:Nat) (τ:Ty)
 |cv (t i:Nat) (τ:Ty)
 |rn (t i:Nat)
 |aF0 (t x:Nat)
 |bk (t:Nat)
structure Nm where
 ts:List Nat
 gv:List (Nat×Ty)
 mv:List Mv
inductive Hint:Type 1 where
 |d
 |seq (a b:Hint)
 |cond (a b:Hint)
 |block (a:Hint)
 |fT (stF:List Nat) (mv:List Mv) (kl:List (List Nat))
 |sub (nm:Nm) (Y1 Y2 Y3:Type) (I1:Y1->Exit×Sg) (I2:Y2->Exit×Sg) (I3:Y3->Exit×Sg) (L:Sg->(Y1->O)->(Y2->O)->(Y3->O)->O)
def Nr:XO->Bool
 |.row _ _ [] _=>true
 |.nest _ _ _ []=>true
 |.bE _ _ _ _ [] none=>true
 |_=>false
def TT(e:TypeId)(κ:Ty):(ρ:Ty)->List (List κ.V×ρ.V)->XO
 |.un,l=>.row e (.sl κ) (l.map λx=>x.1) true
 |ρ,l=>.row e (.pr (.sl κ) ρ) l true
def Fx:XO->Option XO
 |.row e τ xs false=>some (.row e τ xs true)
 |.nest e _ τ l=>match τ.one with|true=>some (.row e (.sl τ) l true)|false=>none
 |.bE e _ κ ρ l none=>some (TT e κ ρ l)
 |_=>none
def Mu(q:Nat)(σ:Sg)(k:Sg->O):O:=match lk q σ.H with
 |some o=>match Fx o with
   |some o'=>iY q o' σ.H λH=>k ⟨σ.T,H,σ.N⟩
   |none=>k σ
 |none=>k σ
def Tu(q i:Nat)(o:XO)(σ:Sg)(k:Sg->O):O:=match lk q σ.H with
 |some (.box e' xs)=>match xs[i]? with
   |some .bI=>iY q (.box e' (gR (.own σ.N) i xs)) σ.H λH=>iY σ.N o H λH=>k ⟨σ.T,H,σ.N+8⟩
   |_=>k σ
 |_=>k σ
def Uv(q i:Nat)(τ:Ty)(σ:Sg)(k:Sg->O):O:=match lk q σ.H with
 |some (.box e xs)=>match xs[i]? with
   |some x=>match τ.one with
     |true=>match iO τ (Vw.iJ ⟨λt=>lk t σ.T,λk=>lk k σ.H,none⟩ x)with
       |some y=>iY q (.box e (gR (.e τ y) i xs)) σ.H λH=>k ⟨σ.T,H,σ.N⟩
       |none=>k σ
     |false=>k σ
   |none=>k σ
 |_=>k σ
def T0(q i:Nat)(σ:Sg)(k:Sg->O):O:=match lk q σ.H with
 |some (.box e xs)=>match xs[i]? with
   |some (.own q')=>match lk q' σ.H with
     |some o=>match j3 50 q'&&mW q' 100&&!(bB q' q)with
       |true=>iY q (.box e (gR (.own σ.N) i xs)) σ.H λH=>pA q' H λH=>iY σ.N o H λH=>k ⟨σ.T,H,σ.N+8⟩
       |false=>k σ
     |none=>k σ
   |_=>k σ
 |_=>k σ
def UP(q:Nat)(n:Int)(σ:Sg)(k:Sg->O):O:=match lk q σ.H with
 |some (.bE e e' κ ρ l none)=>gx l n λy=>iY q (.bE e e' κ ρ l (some (n,σ.N))) σ.H λH=>iY σ.N (.row e' κ y.1 false) H λH=>k ⟨σ.T,H,σ.N+8⟩
 |_=>k σ
def VK(q:Nat)(σ:Sg)(k:Sg->O):O:=match lk q σ.H with
 |some (.bE e e' κ ρ l (some (n,f)))=>match lk f σ.H with
   |some (.row e1 κ1 xs false)=>match eA κ1 κ with
     |some ⟨h⟩=>match bB e1 e'&&!(bB f q)with
       |true=>gx l n λy=>iY q (.bE e e' κ ρ (l.set n.toNat (jD (aY Ty.sl h) xs,y.2)) none) σ.H λH=>pA f H λH=>k ⟨σ.T,H,σ.N⟩
       |false=>k σ
     |none=>k σ
   |_=>k σ
 |_=>k σ
def kE(x:Nat)(n:Int):Int:=match j3 1000 x with|true=>n-1|false=>n
def UA(m:Mv)(σ:Sg)(k:Sg->O):O:=match m with
 |.qP t=>match lk t σ.T with
   |some (.own q)=>Mu q σ k
   |some (.ref q 0)=>match lk q σ.H with
     |some (.box _ (.own q'::_))=>Mu q' σ k
     |_=>k σ
   |_=>k σ
 |.mL t o=>match lk t σ.T,Nr o with
   |some .bI,true=>iY t (.own σ.N) σ.T λT=>iY σ.N o σ.H λH=>k ⟨T,H,σ.N+8⟩
   |_,_=>k σ
 |.BB t i o=>match lk t σ.T,Nr o with
   |some (.ref q 0),true=>Tu q i o σ k
   |_,_=>k σ
 |.fz t τ=>match lk t σ.T with
   |some (.ref q 0)=>match lk q σ.H with
     |some (.box _ xs)=>match tE τ xs with
       |some y=>iY t (.pt τ y 0) σ.T λT=>pA q σ.H λH=>k ⟨T,H,σ.N⟩
       |none=>k σ
     |_=>k σ
   |_=>k σ
 |.cv t i τ=>match lk t σ.T with
   |some (.ref q 0)=>Uv q i τ σ k
   |_=>k σ
 |.rn t i=>match lk t σ.T with
   |some (.ref q 0)=>T0 q i σ k
   |_=>k σ
 |.aF0 t x=>match lk t σ.T,lk (x%1000) σ.T with
   |some (.own q),some (.e (.i _) n)=>UP q (kE x n) σ k
   |_,_=>k σ
 |.bk t=>match lk t σ.T with
   |some (.own q)=>VK q σ k
   |_=>k σ
def NZ:List Mv->Sg->(Sg->O)->O
 |[],σ,k=>k σ
 |m::l,σ,k=>UA m σ λσ=>NZ l σ k
def VM(σ:Vw)(τ:Ty)(x:X):X:=match iO τ (σ.lD x)with|some y=>iE τ y|none=>x
def NM(σ:Sg)(gv:List (Nat×Ty)):List Nat->Option XT
 |[]=>some []
 |t::l=>match lk t σ.T with
   |some x=>match NM σ gv l with
     |some r=>some ((t,match lk t gv with|some τ=>VM σ.vw τ x|none=>x)::r)
     |none=>none
   |none=>none
def Tx:XT->List Nat->List Nat
 |[],acc=>acc
 |(_,x)::l,acc=>Tx l (Tw x acc)
def mP:XH->List Nat
 |[]=>[]
 |(k,_)::l=>match j3 50 k&&mW k 100 with|true=>k::mP l|false=>mP l
def live(H:XH):List Nat:=(mP H).filter λk=>(reach (λj=>lk j H) 60 [k] []).all λq=>(lk q H).isSome
def rB(k:Nat):Bool:=j3 50 k&&mW k 100
def iQ:Nat->List Nat->List (Nat×Nat)
 |_,[]=>[]
 |n,k::l=>match rB k with|true=>iQ n l|false=>(n,k)::iQ (n+1) l
def Fz:List Nat->List (Nat×Nat)
 |[]=>[]
 |k::l=>match rB k with|true=>(k,k)::Fz l|false=>Fz l
def oV(rn:List (Nat×Nat))(k:Nat):Option Nat:=match rB k with|true=>some k|false=>old rn k
def GD(rn al:List (Nat×Nat))(lo hi:Nat):Bool:=rn.all (λp=>j3 lo p.1&&mW p.1 hi&&!(rB p.1)&&(match lk p.1 rn with |some q=>bB q p.2 |none=>false))&&qY (al.map (·.2))&&al.all (λp=>(rB p.1&&bB p.1 p.2)||(match lk p.1 rn with |some q=>bB q p.2 |none=>false))
def Mz(f:Nat->Option Nat):XT->Option XT
 |[]=>some []
 |(t,x)::l=>match fG f x with
   |some y=>match Mz f l with|some r=>some ((t,y)::r)|none=>none
   |none=>none
def BA(nm:Nm)(σ:Sg)(k:Sg->O):O:=NZ nm.mv σ λσ=>ob (NM σ nm.gv nm.ts) λT=>
 match reach σ.vw.H 60 (Tx T (mP σ.H)) []with
 |ns=>match iQ 0 ns with
   |rn=>match Fz ns++rn with
     |al=>match GD rn al 0 50 with
       |true=>ob (Mz (oV rn) T) λT'=>ob (nZ (oV rn) σ.vw.H al) λH'=>k ⟨T',H',100⟩
       |false=>none
def GJ:List Oper->List (List Nat)->List (List Nat)
 |[],acc=>acc
 |o::l,acc=>GJ l (acc++[o.after.toList.foldl (λs e=>match Region.binds .any e with|true=>(acc.getD e.on []).foldl (λs q=>ins q s) (ins e.on s)|false=>s) []])
def Gf(M:Nat):List Oper->Bool
 |[]=>true
 |o::l=>match o.dst with
   |some t=>match mW t M with|true=>Gf M l|false=>false
   |none=>Gf M l
def NF(c:Cx)(M:Nat)(stF:List Nat)(mv:List Mv)(kl:List (List Nat))(ops:Array Oper)(draw:Bool)(σ:Sg)(k:Exit->Sg->O):O:=NZ mv σ λσ=>match lB σ.T with
 |false=>none
 |true=>match draw with
   |false=>match Gf M ops.toList with
     |true=>jP c stF ops.toList ops.toList 0 σ k
     |false=>none
   |true=>match Gw ops (GJ ops.toList []) kl σ.N M with
     |true=>kH c stF ops (GJ ops.toList []) kl σ.N σ.vw σ.H k ops.toList 0 [] λrs=>Ni ops.toList rs σ.T σ.H λT H=>qV T λT=>k .normal ⟨T,H,σ.N+8*ops.size⟩
     |false=>none
def kk(k:Exit->Sg->O)(p:Exit×Sg):O:=match p.1 with|.goto _=>none|e=>k e p.2
def exec(c:Cx)(M:Nat)(h:Hint)(code:Code)(σ:Sg)(k:Exit->Sg->O):O:=match h with
 |.sub nm _ _ _ I1 I2 I3 L=>BA nm σ λσ'=>L σ' (λy=>kk k (I1 y)) (λy=>kk k (I2 y)) (λy=>kk k (I3 y))
 |h=>match code with
   |.skip=>k .normal σ
   |.label _=>k .normal σ
   |.exit id=>k (.exit id) σ
   |.ret=>k .ret σ
   |.region _ ops draw=>match h with
     |.fT stF mv kl=>NF c M stF mv kl ops draw σ k
     |_=>NF c M [] [] [] ops draw σ k
   |.seq a b=>exec c M (match h with|.seq x _=>x|_=>.d) a σ λe σ'=>match e with
     |.normal=>exec c M (match h with|.seq _ y=>y|_=>.d) b σ' k
     |e=>k e σ'
   |.cond x a b=>ob (σ.vw.ev x) λv=>match v with
     |.e .bo q=>br q (exec c M (match h with|.cond x _=>x|_=>.d) a σ k) (exec c M (match h with|.cond _ y=>y|_=>.d) b σ k)
     |_=>none
   |.block id a=>exec c M (match h with|.block x=>x|_=>.d) a σ λe σ'=>match e with
     |.exit id'=>match bB id' id with|true=>k .normal σ'|false=>k (.exit id') σ'
     |e=>k e σ'
   |_=>none
termination_by structural code
def aZr:Exit->Exit->Bool
 |.normal,.normal=>true
 |.ret,.ret=>true
 |.exit a,.exit b=>bB a b
 |.panic _,.panic _=>true
 |_,_=>false
def Te(out:List (Exit×Nm))(e:Exit):Option Nm:=match out with
 |[]=>none
 |(e',nm)::l=>match aZr e' e with|true=>some nm|false=>Te l e
def cZ(nm:Nm)(out:List (Exit×Nm))(self:Sg->O)(K:Exit->Sg->O)(e:Exit)(σ:Sg):O:=match e with
 |.normal=>BA nm σ self
 |e=>ob (Te out e) λnm'=>BA nm' σ (K e)
def n5(c:Cx)(M:Nat)(h:Hint)(body:Code)(nm:Nm)(out:List (Exit×Nm)):Nat->Sg->(Exit->Sg->O)->O
 |0,_,_=>none
 |n+1,σ,K=>exec c M h body σ (cZ nm out (λσ'=>n5 c M h body nm out n σ' K) K)
def kR(out:List (Exit×Nm))(K:Exit->Sg->O)(e:Exit)(σ:Sg):O:=ob (Te out e) λnm'=>BA nm' σ (K e)
def My(P:Program)(σ:Sg):ResultVar->Option X
 |.tmp t=>lk t σ.T
 |.cell p t=>match lk p σ.T with
   |some (.ref q 0)=>match lk q σ.H with
     |some (.box _ xs)=>match jG P t,fL P t,xs with
       |some true,some m,xs=>match bB xs.length m with|true=>some (.agg xs)|false=>none
       |some false,_,[x]=>some x
       |_,_,_=>none
     |_=>none
   |_=>none
def k9:XH->XH
 |[]=>[]
 |(k,.row e τ l _)::H=>(k,.row e τ l true)::k9 H
 |(k,.nest e e' τ l)::H=>(k,match τ.one with|true=>.row e (.sl τ) l true|false=>.nest e e' τ l)::k9 H
 |(k,.bE e _ κ ρ l none)::H=>(k,TT e κ ρ l)::k9 H
 |p::H=>p::k9 H
def cA:Nat->List X->XT
 |_,[]=>[]
 |t,x::l=>(t,x)::cA (t+1) l
def Mt(ow:Bool)(σ:Sg):Sg:=match ow with|true=>σ|false=>⟨σ.T,k9 σ.H,σ.N⟩
def VD(c:Cx)(fn:Func)(ow:Bool)(σ:Sg)(xs:List X):List X:=match ow with|true=>xs|false=>Di c σ.vw fn.resultTypes.toList xs
def Nl(ch:List PanicEntry)(σ:Sg):O:=match ch with
 |[p]=>match p.recovered||p.goexit with
   |true=>none
   |false=>match reach σ.vw.H 60 (mP σ.H) []with
     |ns=>match iQ 100 ns with
       |rn=>match Fz ns++rn with
         |al=>match GD rn al 100 108 with
           |true=>ob (nZ (oV rn) σ.vw.H al) λH'=>some (.iP p.v,H')
           |false=>none
 |_=>none
def D5(c:Cx)(fn:Func)(ow:Bool)(e:Exit)(σ:Sg):O:=match(match e with|.normal=>true|.ret=>true|_=>false)with
 |true=>match Mt ow σ with
   |σ=>ob (wM (My c.P σ) fn.results.toList) λxs=>
   match VD c fn ow σ xs with
   |ys=>match reach σ.vw.H 60 (jU ys (live σ.H)) []with
       |ns=>match iQ 100 ns with
         |rn=>match Fz ns++rn with
           |al=>match GD rn al 100 108 with
             |true=>ob (mI (oV rn) ys) λzs=>ob (nZ (oV rn) σ.vw.H al) λH'=>match zs with
               |[z]=>some (z,H')
               |[]=>some (.aU [],H')
               |[x,y]=>some (.aU [x,y],H')
               |[x,y,z]=>some (.aU [x,y,z],H')
               |[x,y,z,u]=>some (.aU [x,y,z,u],H')
               |[x,y,z,u,v]=>some (.aU [x,y,z,u,v],H')
               |_=>none
             |false=>none
 |false=>none
def cD(c:Cx)(fn:Func)(ow:Bool)(e:Exit)(σ:Sg):O:=match e with
 |.panic ch=>Nl ch σ
 |e=>D5 c fn ow e σ
noncomputable def aP{ι Y1 Y2 Y3:Type}(I:ι->Sg)(un:Sg->ι)(L:ι->(Y1->O)->(Y2->O)->(Y3->O)->O)(σ:Sg)(k1:Y1->O)(k2:Y2->O)(k3:Y3->O):O:=
 @ite _ (σ=I (un σ)) (Classical.propDecidable _) (L (un σ) k1 k2 k3) none
def aN(n:Nat)(_:Unit):Exit×Sg:=(.goto n,⟨[],[],100⟩)
def UF(τ:Ty)(x:Option X):τ.V:=match x with
 |some (.e τ' y)=>(match eA τ' τ with|some ⟨h⟩=>jD h y|none=>τ.zero)
 |some (.pt τ' y _)=>(match eA τ' τ with|some ⟨h⟩=>jD h y|none=>τ.zero)
 |_=>τ.zero
def aC(τ:Ty)(t i:Nat)(σ:Sg):τ.V:=match lk t σ.T with
 |some x=>UF τ (match x with|.agg xs=>xs[i]?|.aU xs=>xs[i]?|.fn _ xs=>xs[i]?|x=>some x)
 |none=>τ.zero
def bP(τ:Ty)(q i:Nat)(σ:Sg):τ.V:=match lk q σ.H with
 |some (.box _ xs)=>UF τ xs[i]?
 |_=>τ.zero
def c9(τ:Ty)(q:Nat)(σ:Sg):List τ.V:=match lk q σ.H with
 |some (.row _ τ' l _)=>(match eA τ' τ with|some ⟨h⟩=>jD (aY Ty.sl h) l|none=>[])
 |_=>[]
def n4(τ:Ty)(q:Nat)(σ:Sg):List (List τ.V):=match lk q σ.H with
 |some (.nest _ _ τ' l)=>(match eA τ' τ with|some ⟨h⟩=>VC h l|none=>[])
 |_=>[]
def N1(κ ρ:Ty)(q:Nat)(σ:Sg):List (List κ.V×ρ.V):=match lk q σ.H with
 |some (.bE _ _ κ' ρ' l _)=>(match eA κ' κ with|some ⟨h⟩=>(match eA ρ' ρ with|some ⟨g⟩=>aGY h g l|none=>[])|none=>[])
 |_=>[]
def tC(τ κ:Ty)(q i:Nat)(σ:Sg):τ.V:=match lk q σ.H with
 |some (.mp κ' l)=>(match eA κ' κ with|some _=>UF τ ((l[i]?).map (·.2))|none=>τ.zero)
 |_=>τ.zero
def xB{δ:Type}(cM:List X->XH->Option δ)(p:δ->Bool)(R:δ->aM):bR:=λxs H=>match cM xs H with
 |some d=>some (p d,R d)
 |none=>none
def E0(f:Bool×aM):bR:=λxs H=>match xs,H with|[],[]=>some f|_,_=>none
def E1(a:Ty)(f:a.V->Bool×aM):bR:=λxs H=>match xs,H with
 |[x],[]=>match iO a x with|some x=>some (f x)|none=>none
 |_,_=>none
def E2(a b:Ty)(f:a.V->b.V->Bool×aM):bR:=λxs H=>match xs,H with
 |[x,y],[]=>match iO a x with|some x=>(match iO b y with|some y=>some (f x y)|none=>none)|none=>none
 |_,_=>none
def E3(a b d:Ty)(f:a.V->b.V->d.V->Bool×aM):bR:=λxs H=>match xs,H with
 |[x,y,z],[]=>match iO a x with|some x=>(match iO b y with|some y=>(match iO d z with|some z=>some (f x y z)|none=>none)|none=>none)|none=>none
 |_,_=>none
def E4(a b d e:Ty)(f:a.V->b.V->d.V->e.V->Bool×aM):bR:=λxs H=>match xs,H with
 |[x,y,z,u],[]=>match iO a x with|some x=>(match iO b y with|some y=>(match iO d z with|some z=>(match iO e u with|some u=>some (f x y z u)|none=>none)|none=>none)|none=>none)|none=>none
 |_,_=>none
def OV(a:Ty)(g:FuncId)(f:a.V->Bool×aM):bR:=λxs H=>match xs,H with
 |[x,.fn g' []],[]=>match bB g' g with
   |true=>match iO a x with|some x=>some (f x)|none=>none
   |false=>none
 |_,_=>none
def Vb(a b:Ty)(g:FuncId)(f:a.V->b.V->Bool×aM):bR:=λxs H=>match xs,H with
 |[x,y,.fn g' []],[]=>match bB g' g with
   |true=>match iO a x with
     |some x=>match iO b y with|some y=>some (f x y)|none=>none
     |none=>none
   |false=>none
 |_,_=>none
def Eor(f g:bR):bR:=λxs H=>match f xs H with|some r=>some r|none=>g xs H
def ue(τ:Ty):X->Option τ.V
 |.e τ' x=>match eA τ' τ with|some ⟨h⟩=>some (jD h x)|none=>none
 |_=>none
def ur(e:TypeId)(τ:Ty)(st:Bool):XO->Option (List τ.V)
 |.row e' τ' l st'=>match bB e' e&&(st' == st)with
   |true=>match eA τ' τ with|some ⟨h⟩=>some (jD (aY Ty.sl h) l)|none=>none
   |false=>none
 |_=>none
def uq(e e1:TypeId)(τ:Ty):XO->Option (List (List τ.V))
 |.nest e' e1' τ' l=>match bB e' e&&bB e1' e1 with
   |true=>match eA τ' τ with|some ⟨h⟩=>some (VC h l)|none=>none
   |false=>none
 |_=>none
end
instance std:aB:=⟨br0,ck0,D4,G5,U9⟩
end Go.Ax
/- What data of the run mean: trees of values. -/
namespace Go.Ax
open aB
open Go.RowKit Go.Ab
mutual
def tH:Ex->List Tree
 |.mk a n ks=>[.v (.int .i64 a),.v (.int .i64 n),.sl ks.length (Nq ks)]
def Nq:List Ex->List Tree
 |[]=>[]
 |x::l=>tH x++Nq l
end
def aR:(τ:Ty)->τ.V->List Tree
 |.i k,x=>[.v (.int k x)]
 |.u8,x=>[.v (.int .u8 (tO x))]
 |.bo,x=>[.v (.bool x)]
 |.tx,x=>[.v (.string ⟨⟨x⟩⟩)]
 |.ex,x=>tH x
 |.un,_=>[]
 |.sl e,l=>[.sl (dN l) (b8 (aR e) l)]
 |.pr a b,x=>aR a x.1++aR b x.2
def n9(τ:Ty)(x:τ.V):Tree:=(aR τ x).headD (.sl 0 [])
theorem aGC:∀l:List Ex,Nq l=l.flatMap tH
 |[]=>rfl
 |x::l=>by rw[Nq,aGC l];rfl
theorem a0I(x:Ex):tH x=[.v (.int .i64 (Ex.op x)),.v (.int .i64 (Ex.num x)),.sl (dN (Ex.kids x)) ((Ex.kids x).flatMap tH)]:=by
 cases x with|mk a n ks=>rw[tH,aGC];rfl
theorem D9(x:Ex):aR .ex x=[.v (.int .i64 (Ex.op x)),.v (.int .i64 (Ex.num x)),.sl (dN (Ex.kids x)) ((Ex.kids x).flatMap tH)]:=a0I x
theorem dB:∀(τ:Ty)(x:τ.V),(aR τ x).length=τ.size
 |.i _,_=>rfl
 |.u8,_=>rfl
 |.bo,_=>rfl
 |.tx,_=>rfl
 |.ex,x=>by have:=aY dN (D9 x);exact this
 |.un,_=>rfl
 |.sl _,_=>rfl
 |.pr a b,x=>by rw[aR,List.length_append,dB a,dB b];rfl
theorem Gc{τ:Ty}(h:τ.one=true)(x:τ.V):aR τ x=[n9 τ x]:=by
 cases τ <;> first|rfl|cases h
theorem aW0{τ:Ty}(h:τ.one=true):τ.size=1:=by cases τ <;> first|rfl|cases h
def Co:Nat->Value->Value->Prop
 |0,a,v=>v = .pointer none\/v=a
 |_,a,v=>∃p,v = .pointer p/\∀x n c,a = .slice x n c->0<n->p=x
mutual
def X.D:X->D
 |.e τ x=>match τ.one with|true=>.t (n9 τ x)|false=>.any
 |.bI=>.t (.v (.slice none 0 0))
 |.agg xs=>.agg (Ds xs)
 |.aU xs=>.aU (Ds xs)
 |.own k=>.own k
 |.ref k off=>.ref k off
 |.rr k i j s=>.ref k (i*s+j)
 |.pt τ y j=>.ptr (aR τ y) j
 |.fn f xs=>.fn f (Ds xs)
 |.v w=>.t (.v w)
 |.bit _ q=>.t (.v (.bool q))
 |.eP _ c x=>match c with|true=>X.D x|false=>.aU []
 |.sub k i=>.sub k i
 |.gY k i j=>.gY k i j
 |.vw k i n s=>.vw k (i*s) n
 |.via k j=>.via k (Co j)
 |.iP _=>.any
def Ds:List X->List D
 |[]=>[]
 |x::l=>X.D x::Ds l
end
theorem aFj(g:Nat):(G6 g).D=Nh g:=rfl
theorem fC:∀l:List X,Ds l=l.map X.D
 |[]=>rfl
 |x::l=>by rw[Ds,fC l];rfl
def kv:(τ:Ty)->τ.V->Value
 |.i k,x=>.int k x
 |.u8,x=>.int .u8 (tO x)
 |.bo,x=>.bool x
 |.tx,x=>.string ⟨⟨x⟩⟩
 |_,_=>.nilFunc
def eQ{κ ρ:Ty}(x:List κ.V×ρ.V):List NC:=.cM (dN x.1) (b8 (aR κ) x.1)::(aR ρ x.2).map λt=>.eZ (.t t)
def jB(m:Nat)(cs:List NC):Option (Int×Nat)->List NC
 |none=>cs
 |some (i,q)=>cs.set (i.toNat*m) (.eZ (.own q))
def XO.A:XO->aQ
 |.bE e e' κ ρ l ln=>.bE e e' (1+ρ.size) κ.size l.length (jB (1+ρ.size) (b8 eQ l) ln)
 |.box e xs=>.box e (xs.map X.D)
 |.row e τ l st=>.row e τ.size l.length (l.flatMap (aR τ)) st
 |.nest e e' τ l=>.nest e e' τ.size (l.map λr=>(dN r,b8 (aR τ) r))
 |.mp τ l=>.mp (l.map λp=>(kv τ p.1,p.2.D))
 |.it s pos=>.it ⟨s.toArray⟩ pos.toNat
theorem o8{τ:Ty}(h:τ.one=true)(x:τ.V):(X.e τ x).D = .t (n9 τ x):=by unfold X.D;rw[h]
theorem Df:∀(τ:Ty)(x:τ.V),(xF τ x).map X.D=(aR τ x).map .t
 |.un,_=>rfl
 |.i _,_=>rfl
 |.u8,_=>rfl
 |.bo,_=>rfl
 |.tx,_=>rfl
 |.ex,x=>by
   have:=aY (List.map D.t) (D9 x);exact this.symm
 |.sl _,_=>rfl
 |.pr a b,x=>by rw[xF,aR,fO,fO,Df a,Df b]
theorem aGX{a b:Ty}(h:a=b)(x:a.V):aR b (jD h x)=aR a x:=by subst h;rfl
theorem bV.nil{H:Nat->Option aQ}:bV H (.t (.v (.slice none 0 0))) (.t (.sl 0 [])):=λ_ _ _ _ _ _ _ _ v hv=>by
 have:=cC hv;subst this;exact .t (.nil λ_=>rfl)
theorem bV.own{H:Nat->Option aQ}{k:Nat}{e:TypeId}{s n:Nat}{ts:List Tree}(h:H k=some (.row e s n ts true)):bV H (.own k) (.t (.sl n ts)):=λ_ _ _ _ _ _ hH I v hv=>by
 cases hv with|own _ _=>exact .t (I.rows _ _ _ _ _ _ (hH _ _ h) rfl)
theorem oU{H:Nat->Option aQ}{τ:Ty}{x:X}{y:τ.V}(h1:τ.one=true)(h:one? τ x=some y):bV H x.D (.t (n9 τ y)):=by
 unfold one? at h;split at h
 .rename_i τ' z
  split at h
  .rename_i he _
   cases h;have e:=he;subst e;rw[o8 h1];exact bV.refl
  .cases h
 .split at h
  .cases h;exact bV.nil
  .cases h
 .cases h
inductive dL (H:Nat->Option aQ):List D->List D->Prop
 |nil:dL H [] []
 |cons {a b:D} {l m:List D} (h:bV H a b) (r:dL H l m):dL H (a::l) (b::m)
theorem dL.refl{H:Nat->Option aQ}:∀{l:List D},dL H l l
 |[]=>.nil
 |_::_=>.cons bV.refl dL.refl
theorem dL.trans{H:Nat->Option aQ}:∀{a b c:List D},dL H a b->dL H b c->dL H a c
 |_,_,_,.nil,.nil=>.nil
 |_,_,_,.cons h r,.cons h' r'=>.cons (h.trans h') (r.trans r')
theorem dL.app{H:Nat->Option aQ}:∀{a b c d:List D},dL H a b->dL H c d->dL H (a++c) (b++d)
 |_,_,_,_,.nil,h=>h
 |_,_,_,_,.cons h r,h'=>.cons h (r.app h')
theorem dL.len{H:Nat->Option aQ}{a b:List D}(h:dL H a b):a.length=b.length:=by
 induction h with
 |nil=>rfl
 |cons _ _ ih=>simp[ih]
theorem dL.get{H:Nat->Option aQ}{a b:List D}(h:dL H a b):∀(i:Nat)(d:D),b[i]?=some d->∃d0,a[i]?=some d0/\bV H d0 d:=by
 induction h with
 |nil=>intro i d h;simp at h
 |cons h r ih=>
   intro i d hi;cases i with
   |zero=>simp at hi;subst hi;exact⟨_,rfl,h⟩
   |succ i=>exact ih i d (by simpa using hi)
theorem dL.of_map{H:Nat->Option aQ}{f g:X->D}:∀{l:List X},(∀x∈l,bV H (f x) (g x))->dL H (l.map f) (l.map g)
 |[],_=>.nil
 |_::_,h=>.cons (h _ (by simp)) (dL.of_map λx hx=>h x (by simp[hx]))
theorem bV.agg{H:Nat->Option aQ}{a b:List D}(h:dL H a b):bV H (.agg a) (.agg b):=λE s ν G w tm hH I v hv=>by
 cases hv with
 |agg hl hr h1=>
   refine .agg (hl.trans h.len) (λi u d hu hd=>?_) h1;obtain⟨d0,e0,hw⟩:=h.get i d hd;exact hw E s ν G w tm hH I u (hr i u d0 hu e0)
theorem UX{H:Nat->Option aQ}:∀(τ:Ty)(xs:List X)(y:τ.V)(r:List X),oX τ xs=some (y,r)->∃pre,xs=pre++r/\dL H (pre.map X.D) ((aR τ y).map .t)
 |.pr a b,xs,y,r,h=>by
   unfold oX at h;split at h
   .rename_i x r1 h1
    split at h
    .rename_i z r2 h2
     cases h;obtain⟨p1,e1,w1⟩:=UX (H:=H) a xs x r1 h1;obtain⟨p2,e2,w2⟩:=UX (H:=H) b r1 z r h2;refine⟨p1++p2,by rw[e1,e2,List.append_assoc],?_⟩;have e3:(aR (.pr a b) (x,z)).map D.t=(aR a x).map D.t++(aR b z).map D.t:=by rw[<-fO];rfl
     rw[e3,fO];exact w1.app w2
    .cases h
   .cases h
 |.un,xs,y,r,h=>by cases h;exact⟨[],rfl,.nil⟩
 |.ex,[],y,r,h=>by cases h
 |.ex,[_],y,r,h=>by cases h
 |.ex,[_,_],y,r,h=>by cases h
 |.ex,a::b::c::r',y,r,h=>by
   simp only[oX]at h;split at h
   .rename_i x h1
    split at h
    .rename_i z h2
     split at h
     .rename_i u h3
      cases h;refine⟨[a,b,c],rfl,?_⟩;rw[D9];exact .cons (oU rfl h1) (.cons (oU rfl h2) (.cons (oU rfl h3) .nil))
     .cases h
    .cases h
   .cases h
 |.i k,[],y,r,h=>by cases h
 |.i k,x::l,y,r,h=>by
   unfold oX at h;split at h
   .rename_i z h1;cases h;exact⟨[x],rfl,.cons (oU rfl h1) .nil⟩
   .cases h
 |.u8,[],y,r,h=>by cases h
 |.u8,x::l,y,r,h=>by
   unfold oX at h;split at h
   .rename_i z h1;cases h;exact⟨[x],rfl,.cons (oU rfl h1) .nil⟩
   .cases h
 |.bo,[],y,r,h=>by cases h
 |.bo,x::l,y,r,h=>by
   unfold oX at h;split at h
   .rename_i z h1;cases h;exact⟨[x],rfl,.cons (oU rfl h1) .nil⟩
   .cases h
 |.tx,[],y,r,h=>by cases h
 |.tx,x::l,y,r,h=>by
   unfold oX at h;split at h
   .rename_i z h1;cases h;exact⟨[x],rfl,.cons (oU rfl h1) .nil⟩
   .cases h
 |.sl t,[],y,r,h=>by cases h
 |.sl t,x::l,y,r,h=>by
   unfold oX at h;split at h
   .rename_i z h1;cases h;exact⟨[x],rfl,.cons (oU rfl h1) .nil⟩
   .cases h
theorem oY{H:Nat->Option aQ}{τ:Ty}{xs:List X}{y:τ.V}(h:tE τ xs=some y):dL H (xs.map X.D) ((aR τ y).map .t):=by
 unfold tE at h;split at h
 .rename_i z h1
  cases h;obtain⟨pre,e,hw⟩:=UX (H:=H) τ xs y [] h1;rw[e,List.append_nil];exact hw
 .cases h
def Vw.den(σ:Vw):St:=⟨λt=>(σ.T t).map X.D,λk=>(σ.H k).map XO.A,λ_=>false⟩
theorem dI{σ:Vw}{k:Nat}{o:XO}(h:σ.H k=some o):σ.den.H k=some o.A:=by simp[Vw.den,h]
theorem o9{σ:Vw}{t:Nat}{x:X}(h:σ.T t=some x):σ.den.T t=some x.D:=by simp[Vw.den,h]
theorem w9(σ:Vw)(x:X):bV σ.den.H x.D (σ.iJ x).D:=by
 unfold Vw.iJ;split
 .rename_i q
  split
  .rename_i e τ l h
   exact bV.own (e:=e) (s:=τ.size) (by rw[dI h];rfl)
  .exact bV.refl
 .exact bV.refl
theorem U8(σ:Vw)(x:X):bV σ.den.H x.D (σ.lD x).D:=by
 unfold Vw.lD;split
 .rename_i xs
  unfold X.D;rw[fC,fC,List.map_map];exact bV.agg (dL.of_map (f:=X.D) (g:=X.D ∘ σ.iJ) λx _=>w9 σ x)
 .exact w9 σ _
theorem a04{x:X}(h:x.val=true)(h':x.D.val=true):x.D.cells=x.cells.map X.D:=by
 cases x with
 |agg xs=>unfold X.D;rw[fC];rfl
 |e τ y=>
   unfold X.D X.cells;cases hτ:τ.one with
   |true=>simp[D.cells,o8 hτ]
   |false=>rw[show(X.e τ y).D = .any by unfold X.D;rw[hτ]]at h';cases h'
 |aU xs=>cases h
 |eP key c x=>cases h
 |bit j q=>cases h
 |bI=>rfl
 |own k=>rfl
 |ref k off=>rfl
 |rr k i j s=>rfl
 |pt τ y j=>rfl
 |fn f xs=>rfl
 |v w=>rfl
 |sub k i=>rfl
 |gY k i j=>rfl
 |vw k i n s=>rfl
 |via k j=>rfl
 |iP v=>cases h
end Go.Ax
/- States of the run, and a region whose operations run one after the other. -/
namespace Go.Ax
open aB
open Go.RowKit Go.Ab
theorem bD{α:Type}{x:Option α}{k:α->O}{r:aM}(h:ob x k=some r):∃y,x=some y/\k y=some r:=by
 unfold ob at h;split at h
 .exact⟨_,rfl,h⟩
 .cases h
theorem tK{b:Bool}{x y:O}{r:aM}(h:br b x y=some r):(b=true/\x=some r)\/(b=false/\y=some r):=by
 cases b
 .exact .inr ⟨rfl,h⟩
 .exact .inl ⟨rfl,h⟩
theorem fH{b:Bool}{x:O}{r:aM}(h:ck b x=some r):b=true/\x=some r:=by
 cases b
 .cases h
 .exact⟨rfl,h⟩
theorem G4{α:Type}{l:List α}{n:Int}{k:α->O}{r:aM}(h:gx l n k=some r):∃y,0<=n/\l[n.toNat]?=some y/\k y=some r:=by
 change D4 l n k=some r at h;unfold D4 at h;split at h
 .rename_i y hy
  split at hy
  .cases hy
  .exact⟨y,by omega,hy,h⟩
 .cases h
theorem mQ{α:Type}{l:List α}{n:Nat}{k:α->O}{r:aM}(h:gn l n k=some r):∃y,l[n]?=some y/\k y=some r:=by
 change G5 l n k=some r at h;unfold G5 at h;split at h
 .exact⟨_,‹_›,h⟩
 .cases h
theorem mT{a b:Nat}(h:bB a b=false):a≠b:=λe=>by subst e;simp at h
theorem mM{a b:Nat}(h:a≠b):bB a b=false:=by
 cases hb:bB a b with
 |false=>rfl
 |true=>exact absurd (bF hb) h
theorem OC{w q:Bool}(h:xH w q=true):q=w:=by cases w <;> cases q <;> first|rfl|cases h
theorem OD{w q:Bool}(h:xH w q=false):q=!w:=by cases w <;> cases q <;> first|rfl|cases h
theorem N3{α:Type}{k:Nat}:∀{l:List (Nat×α)},lk k l=Ab.look k l
 |[]=>rfl
 |(k',x)::l=>by
   unfold lk Ab.look;by_cases e:k'=k
   .subst e;simp
   .have:bB k' k=false:=mM e
    rw[this,aH e];exact N3
theorem jO{α β:Type}{k:Nat}{x:α}:∀{l:List (Nat×α)}{f:List (Nat×α)->Option β}{r:β},iY k x l f=some r->∃l',f l'=some r/\∀k',lk k' l'=if k=k' then some x else lk k' l
 |[],f,r,h=>⟨_,h,λk'=>by
   simp only[lk];by_cases e:k=k'
   .subst e;simp
   .have:bB k k'=false:=mM e
    rw[this,aH e]⟩
 |(k',y)::l,f,r,h=>by
   unfold iY at h;split at h
   .rename_i he
    have he:=bF he;subst he;refine⟨_,h,λj=>?_⟩;simp only[lk];by_cases e:k'=j
    .subst e;simp
    .have:bB k' j=false:=mM e
     rw[this,aH e]
   .rename_i he
    have he:=mT he;obtain⟨l',h1,h2⟩:=jO h;refine⟨_,h1,λj=>?_⟩;simp only[lk];by_cases e:k'=j
    .subst e
     rw[aH (λe=>he e.symm)];simp
    .have:bB k' j=false:=mM e
     rw[this];exact h2 j
theorem Db{α β:Type}{k:Nat}:∀{l:List (Nat×α)}{f:List (Nat×α)->Option β}{r:β},pA k l f=some r->∃l',f l'=some r/\∀k',lk k' l'=if k=k' then none else lk k' l
 |[],f,r,h=>⟨_,h,λk'=>by simp[lk]⟩
 |(k',y)::l,f,r,h=>by
   unfold pA at h;split at h
   .rename_i he
    have he:=bF he;subst he;obtain⟨l',h1,h2⟩:=Db h;refine⟨_,h1,λj=>?_⟩;rw[h2];simp only[lk];by_cases e:k'=j
    .simp[e]
    .have:bB k' j=false:=mM e
     rw[this]
   .rename_i he
    have he:=mT he;obtain⟨l',h1,h2⟩:=Db h;refine⟨_,h1,λj=>?_⟩;simp only[lk];by_cases e:k'=j
    .subst e
     rw[aH (λe=>he e.symm)];simp
    .have:bB k' j=false:=mM e
     rw[this];exact h2 j
theorem Ct{dst:Option Tmp}{x:X}{T:XT}{f:XT->O}{r:aM}(h:s9 dst x T f=some r):∃T',f T'=some r/\∀t,lk t T'=if dst=some t then some x else lk t T:=by
 cases dst with
 |none=>exact⟨T,h,λt=>by simp⟩
 |some d=>
   obtain⟨T',h1,h2⟩:=jO h;refine⟨T',h1,λt=>?_⟩;rw[h2];by_cases e:d=t
   .simp[e]
   .simp[e]
theorem Aq:∀{W:Wx}{H:XH}{f:XH->O}{r:aM},nV W H f=some r->∃H',f H'=some r/\∀k,lk k H'=match Ab.look k W with|some o=>o|none=>lk k H
 |[],H,f,r,h=>⟨H,h,λk=>rfl⟩
 |(k0,some o)::W,H,f,r,h=>by
   unfold nV at h;obtain⟨H1,h1,h2⟩:=Aq h;obtain⟨H2,h3,h4⟩:=jO h1;refine⟨H2,h3,λk=>?_⟩;rw[h4];unfold Ab.look;by_cases e:k0=k
   .simp[e]
   .simp only[aH e];exact h2 k
 |(k0,none)::W,H,f,r,h=>by
   unfold nV at h;obtain⟨H1,h1,h2⟩:=Aq h;obtain⟨H2,h3,h4⟩:=Db h1;refine⟨H2,h3,λk=>?_⟩;rw[h4];unfold Ab.look;by_cases e:k0=k
   .simp[e]
   .simp only[aH e];exact h2 k
def Good(κ:Nat->Bool):X->Prop
 |.bit j q=>κ (2*j+1)=q/\κ (2*j)=!q
 |.eP key c x=>c=κ key/\(match x with|.bit j q=>κ (2*j+1)=(c&&q)/\κ (2*j)=(c&&!q)|.eP ..=>False|_=>True)
 |_=>True
theorem DI{κ:Nat->Bool}{x:X}(h:x.pl=true):Good κ x:=by
 cases x <;> first|exact rH|cases h
structure Vw.Ok(σ:Vw)(κ:Nat->Bool):Prop where
 oZ:∀t x,σ.T t=some x->Good κ x
 g:∀key c,σ.g=some (key,c)->c=κ key
def Vw.On(σ:Vw):Prop:=∀key c,σ.g=some (key,c)->c=true
def WA(W:Wx):Wr:=W.map λp=>(p.1,p.2.map XO.A)
theorem UH{k:Nat}:∀{W:Wx},Ab.look k (WA W)=(Ab.look k W).map (·.map XO.A)
 |[]=>rfl
 |(k',o)::W=>by
   unfold WA Ab.look;simp only[eX];by_cases e:k'=k
   .simp[e]
   .rw[aH e]
    have:=UH (k:=k) (W:=W);unfold WA at this;simp only[aH e];exact this
def OH(c:Cx):Prop:=∀(σ:Vw)(κ:Nat->Bool)(fr:Nat)(st:Bool)(o:Oper)(k:X->Wx->O)(r:aM),σ.Ok κ->eE c σ fr st o k=some r->∃x W,k x W=some r/\x.pl=true/\(σ.On->aZ c.P o σ.den fr x.D (WA W))
def OJ(c:Cx):Prop:=∀(σ:Vw)(κ:Nat->Bool)(fr:Nat)(o:Oper)(k:X->Wx->O)(kp:Value->Wx->O)(els:O)(r:aM),σ.Ok κ->σ.g=none->NP c σ fr o k kp els=some r->
 els=some r\/(∃x W,k x W=some r/\x.pl=true/\(σ.On->aZ c.P o σ.den fr x.D (WA W)))\/∃v W,kp v W=some r/\(σ.On->rI c.P o σ.den fr v (WA W))
structure fV(T:XT)(H:XH)(s:St):Prop where
 T:∀t x,lk t T=some x->s.T t=some x.D
 H:∀k o,lk k H=some o->s.H k=some o.A
theorem OL{P:Program}{o:Oper}{σ s:St}{fr:Nat}{d:D}{W:Wr}(h:aZ P o σ fr d W)(hT:∀t d,σ.T t=some d->s.T t=some d)(hH:∀k o,σ.H k=some o->s.H k=some o):aZ P o s fr d W:=
 λE σ₁ a w h1 h2 h3 h4 h5 h6 Q=>h E σ₁ a w (λt d ht=>h1 t d (hT t d ht)) (λk o hk=>h2 k o (hH k o hk)) h3 h4 h5 h6 Q
theorem aGg{P:Program}{o:Oper}{σ s:St}{fr:Nat}{v:Value}{W:Wr}(h:rI P o σ fr v W)(hT:∀t d,σ.T t=some d->s.T t=some d)(hH:∀k o,σ.H k=some o->s.H k=some o):rI P o s fr v W:=
 λE σ₁ a w h1 h2 h3 h4 h5=>h E σ₁ a w (λt d ht=>h1 t d (hT t d ht)) (λk o hk=>h2 k o (hH k o hk)) h3 h4 h5
theorem fV.aS{T T':XT}{H H':XH}{s:St}(h:fV T H s){dst:Option Tmp}{x:X}{W:Wx}{fr:Nat}(hT:∀t,lk t T'=if dst=some t then some x else lk t T)(hH:∀k,lk k H'=match Ab.look k W with|some o=>o|none=>lk k H):
    fV T' H' (s.aS dst x.D (WA W) fr) where
 T:=λt y ht=>by
  rw[hT]at ht;simp only[St.aS];by_cases e:dst=some t
  .rw[aJ e]at ht ⊢;cases ht;rfl
  .rw[aH e]at ht ⊢;exact h.T t y ht
 H:=λk o hk=>by
  rw[hH]at hk;simp only[St.aS,UH];cases hl:Ab.look k W with
  |none=>simp only[hl]at hk;exact h.H k o hk
  |some o'=>simp only[hl]at hk;simp[hk]
def kK(κ:Nat->Bool)(j:Nat)(a b:Bool)(k:Nat):Bool:=if k=2*j+1 then a else if k=2*j then b else κ k
theorem Vi{κ:Nat->Bool}{j:Nat}{a b:Bool}:kK κ j a b (2*j+1)=a:=by simp[kK]
theorem Vj{κ:Nat->Bool}{j:Nat}{a b:Bool}:kK κ j a b (2*j)=b:=by
 unfold kK;rw[aH (by omega),aJ rfl]
theorem Good.set{κ:Nat->Bool}{j:Nat}{a b:Bool}{x:X}(h:Good κ x)(hu:qO j x=false):Good (kK κ j a b) x:=by
 have bt:∀j',bB j' j=false->kK κ j a b (2*j'+1)=κ (2*j'+1)/\kK κ j a b (2*j')=κ (2*j'):=λj' hj=>by
  have:=mT hj;unfold kK;exact⟨by rw[aH (by omega),aH (by omega)],by rw[aH (by omega),aH (by omega)]⟩
 cases x with
 |bit j' q=>
   simp only[qO]at hu;obtain⟨h1,h2⟩:=h;exact⟨(bt j' hu).1.trans h1,(bt j' hu).2.trans h2⟩
 |eP key c y=>
   simp only[qO,aHH]at hu;obtain⟨⟨hu1,hu2⟩,hu3⟩:=hu;obtain⟨h1,h2⟩:=h;have hk:kK κ j a b key=κ key:=by
    have:=mT hu1;have:=mT hu2;unfold kK;rw[aH (by omega),aH (by omega)]
   refine⟨h1.trans hk.symm,?_⟩;cases y with
   |bit j' q=>
     simp only at hu3 h2 ⊢;exact⟨(bt j' hu3).1.trans h2.1,(bt j' hu3).2.trans h2.2⟩
   |eP _ _ _=>exact h2
   |_=>exact rH
 |_=>exact rH
theorem Uc{j:Nat}:∀{T:XT},G7 j T=true->∀t x,lk t T=some x->qO j x=false
 |[],_,t,x,h=>by cases h
 |(t',y)::l,hf,t,x,h=>by
   unfold G7 at hf;split at hf
   .cases hf
   .rename_i hu
    unfold lk at h;split at h
    .cases h;exact hu
    .exact Uc hf t x h
theorem aG4{κ:Nat->Bool}{j:Nat}{q w:Bool}(h1:κ (2*j+1)=q)(h2:κ (2*j)=!q):κ (BM j w)=xH w q:=by
 cases w
 .exact h2
 .exact h1
theorem aG3{κ:Nat->Bool}{j:Nat}{c q w:Bool}(h1:κ (2*j+1)=(c&&q))(h2:κ (2*j)=(c&&!q)):κ (BM j w)=(c&&xH w q):=by
 cases w
 .exact h2
 .exact h1
theorem aFh{o:Oper}{ops:List Oper}{T:Nat->Option X}{g:Gd}(h:Nd o ops T=some g):match g with
    |.on=>o.guard=none
    |.off=>∃j w t,o.guard=some (j,w)/\(ops[j]?).bind (·.dst)=some t/\T t=some (.aU [])
    |.kn b=>∃j w t v,o.guard=some (j,w)/\(ops[j]?).bind (·.dst)=some t/\T t=some (.v (.bool v))/\(b=true->v=w)/\(b=false->v=!w)
    |.cd key b t j y new=>∃w x,o.guard=some (j,w)/\(ops[j]?).bind (·.dst)=some t/\T t=some x/\key=BM j w/\y.D=x.D/\(b=true->x.D = .t (.v (.bool w)))/\(b=false->x.D = .aU []\/x.D = .t (.v (.bool (!w)))) /\
        ∀κ:Nat->Bool,Good κ x->(new=false->Good κ y/\b=κ key)/\(new=true->∃a c,∀κ':Nat->Bool,κ' (2*j+1)=a->κ' (2*j)=c->(∀key' c' x',x = .eP key' c' x'->κ' key'=κ key')->Good κ' y/\b=κ' key):=by
 unfold Nd at h;split at h
 .cases h;assumption
 .rename_i j w hg
  split at h
  case h_2=>cases h
  rename_i oj hj;split at h
  case h_2=>cases h
  rename_i t ht;have hdst:(ops[j]?).bind (·.dst)=some t:=by rw[hj];exact ht
  split at h
  .rename_i q hT
   cases h;refine⟨w,_,hg,hdst,hT,rfl,rfl,λhb=>?_,λhb=>?_,λκ _=>⟨λh=>(by cases h),λ_=>⟨q,!q,λκ' h1 h2 _=>⟨⟨h1,h2⟩,(aG4 h1 h2).symm⟩⟩⟩⟩
   .exact aY (λb=>D.t (.v (.bool b))) (OC hb)
   .exact .inr (aY (λb=>D.t (.v (.bool b))) (OD hb))
  .rename_i j' q hT
   split at h
   .rename_i he
    have he:=bF he;subst he;cases h;refine⟨w,_,hg,hdst,hT,rfl,rfl,λhb=>?_,λhb=>?_,λκ hG=>⟨λ_=>⟨hG,(aG4 hG.1 hG.2).symm⟩,λh=>by cases h⟩⟩
    .exact aY (λb=>D.t (.v (.bool b))) (OC hb)
    .exact .inr (aY (λb=>D.t (.v (.bool b))) (OD hb))
   .cases h
  .rename_i key c q hT
   cases h;refine⟨w,_,hg,hdst,hT,rfl,by cases c <;> rfl,λhb=>?_,λhb=>?_,λκ hG=>⟨λh=>(by cases h),λ_=>⟨c&&q,c&&!q,λκ' h1 h2 h3=>⟨⟨hG.1.trans (h3 key c _ rfl).symm,h1,h2⟩,(aG3 h1 h2).symm⟩⟩⟩⟩
   .simp only[bM]at hb
    obtain⟨hc,hb⟩:=hb;subst hc;exact aY (λb=>D.t (.v (.bool b))) (OC hb)
   .cases c
    .left;rfl
    .right
     exact aY (λb=>D.t (.v (.bool b))) (OD hb)
  .rename_i key c j' q hT
   split at h
   .rename_i he
    have he:=bF he;subst he;cases h;refine⟨w,_,hg,hdst,hT,rfl,rfl,λhb=>?_,λhb=>?_,λκ hG=>⟨λ_=>⟨hG,(aG3 hG.2.1 hG.2.2).symm⟩,λh=>by cases h⟩⟩
    .simp only[bM]at hb
     obtain⟨hc,hb⟩:=hb;subst hc;exact aY (λb=>D.t (.v (.bool b))) (OC hb)
    .cases c
     .left;rfl
     .right
      exact aY (λb=>D.t (.v (.bool b))) (OD hb)
   .cases h
  .rename_i hT
   cases h;exact⟨j,w,t,hg,hdst,hT⟩
  .rename_i v hT
   cases h;refine⟨j,w,t,v,hg,hdst,hT,λh=>?_,λh=>?_⟩
   .cases v <;> cases w <;> first|rfl|cases h
   .cases v <;> cases w <;> first|rfl|cases h
  .cases h
end Go.Ax
/- A region whose operations run one after the other. -/
namespace Go.Ax
open aB
open Go.RowKit Go.Ab
theorem Ut{k:Nat}:∀{l:XT}{f:XT->O}{r:aM},pA k l f=some r->lB l=true->∃l',f l'=some r/\(∀k',lk k' l'=if k=k' then none else lk k' l)/\lB l'=true
 |[],f,r,h,_=>⟨_,h,(λk'=>by simp[lk]),rfl⟩
 |(k',y)::l,f,r,h,hp=>by
   have hp':=hp;unfold lB at hp';split at hp'
   case h_2=>cases hp'
   rename_i hy;unfold pA at h;split at h
   .rename_i he
    have he:=bF he;subst he;obtain⟨l',h1,h2,h3⟩:=Ut h hp';refine⟨l',h1,λj=>?_,h3⟩;rw[h2];simp only[lk];by_cases e:k'=j
    .simp[e]
    .rw[mM e]
   .rename_i he
    have he:=mT he;obtain⟨l',h1,h2,h3⟩:=Ut h hp';refine⟨_,h1,λj=>?_,by unfold lB;rw[hy];exact h3⟩;simp only[lk];by_cases e:k'=j
    .subst e
     rw[aH (λe=>he e.symm)];simp
    .rw[mM e]
     exact h2 j
theorem Ta:∀{T:XT},lB T=true->∀t x,lk t T=some x->x.pl=true
 |[],_,t,x,h=>by cases h
 |(t',y)::l,hf,t,x,h=>by
   unfold lB at hf;split at hf
   case h_2=>cases hf
   rename_i hy;unfold lk at h;split at h
   .cases h;exact hy
   .exact Ta hf t x h
theorem GL:∀{T:XT}{f:XT->O}{r:aM},qV T f=some r->∃T',f T'=some r/\(∀t x,lk t T'=some x->∃y,lk t T=some y/\x.D=y.D)/\lB T'=true
 |[],f,r,h=>⟨[],h,(λt x h=>by cases h),rfl⟩
 |(t0,x0)::l,f,r,h=>by
   unfold qV at h;have key:∀(x1:X)(_:x1.pl=true)(_:x1.D=x0.D)(_:qV l (λl'=>f ((t0,x1)::l'))=some r),∃T',f T'=some r/\(∀t x,lk t T'=some x->∃y,lk t ((t0,x0)::l)=some y/\x.D=y.D)/\lB T'=true:=λx1 hp hD hh=>by
    obtain⟨l',h1,h2,h3⟩:=GL hh;refine⟨_,h1,λt x ht=>?_,by unfold lB;rw[hp];exact h3⟩;unfold lk at ht ⊢;split at ht
    .rename_i he;cases ht;exact⟨x0,rfl,hD⟩
    .rename_i he;exact h2 t x ht
   split at h
   .rename_i j q;exact key (.e .bo q) rfl rfl h
   .rename_i key0 c y
    obtain⟨l',h1,h2,h3⟩:=GL h;obtain⟨l2,h4,h5,h6⟩:=Ut h1 h3;refine⟨l2,h4,λt x ht=>?_,h6⟩;rw[h5]at ht;split at ht
    .cases ht
    .rename_i he
     unfold lk;rw[mM he];exact h2 t x ht
   .rename_i q;exact key (.e .bo q) rfl rfl h
   .rename_i h1 h2 h3
    refine key x0 ?_ rfl h;cases x0 with
    |bit j q=>exact absurd rfl (h1 j q)
    |eP k c y=>exact absurd rfl (h2 k c y)
    |_=>rfl
theorem aFI{W:Wx}{k:O}{r:aM}(h:Ts W k=some r):W=[]/\k=some r:=by
 cases W with
 |nil=>exact⟨rfl,h⟩
 |cons _ _=>cases h
theorem fV.T'{T T':XT}{H:XH}{s:St}(h:fV T H s)(hT:∀t x,lk t T'=some x->∃y,lk t T=some y/\x.D=y.D):fV T' H s:=
 ⟨λt x ht=>let⟨y,h1,h2⟩:=hT t x ht;by rw[h2];exact h.T t y h1,h.H⟩
theorem DG{c:Cx}(hs:OH c)(hpn:OJ c){stF:List Nat}{all:List Oper}:∀(l:List Oper)(i:Nat)(σ:Sg)(k:Exit->Sg->O)(r:aM)(s:St)(κ:Nat->Bool),jP c stF all l i σ k=some r->fV σ.T σ.H s->(∀t x,lk t σ.T=some x->Good κ x)->
    ∃e σ',k e σ'=some r/\σ'.N=σ.N+8*l.length/\lB σ'.T=true/\l5 c.P all.toArray (λe' s'=>e'=e/\fV σ'.T σ'.H s') l σ.N s
 |[],i,σ,k,r,s,κ,h,hL,hG=>by
   unfold jP at h;obtain⟨T',h1,h2,h3⟩:=GL h;exact⟨.normal,_,h1,rfl,h3,rfl,hL.T' h2⟩
 |o::rest,i,σ,k,r,s,κ,h,hL,hG=>by
   unfold jP at h;obtain⟨g,hg,h⟩:=bD h;have hg':=aFh hg;have hall:∀{j:Nat}{t:Tmp},(all[j]?).bind (·.dst)=some t->((all.toArray[j]?).bind (·.dst))=some t:=λh=>by simpa using h
   have onK:∀(T1:XT),fV T1 σ.H s->(∀t x,lk t T1=some x->Good κ x)->pO all.toArray o s->(Cz c σ T1 (!(stF.contains i)) o (rest.length+1) k λσ'=>jP c stF all rest (i+1) σ' k)=some r->
       ∃e σ',k e σ'=some r/\σ'.N=σ.N+8*(o::rest).length/\lB σ'.T=true/\l5 c.P all.toArray (λe' s'=>e'=e/\fV σ'.T σ'.H s') (o::rest) σ.N s:=λT1 hL1 hG1 hgd h=>by
    have hok:Vw.Ok ⟨λt=>lk t T1,λk=>lk k σ.H,none⟩ κ:=⟨hG1,λkey c h=>by cases h⟩;have hTT:∀t d,(Vw.den ⟨λt=>lk t T1,λk=>lk k σ.H,none⟩).T t=some d->s.T t=some d:=λt d ht=>by
     simp only[Vw.den]at ht;obtain⟨y,hy,rfl⟩:=cR.1 ht;exact hL1.T t y hy
    have hHH:∀q d,(Vw.den ⟨λt=>lk t T1,λk=>lk k σ.H,none⟩).H q=some d->s.H q=some d:=λq d ht=>by
     simp only[Vw.den]at ht;obtain⟨y,hy,rfl⟩:=cR.1 ht;exact hL1.H q y hy
    have nx:∀x W,(s9 o.dst x T1 λT=>nV W σ.H λH=>jP c stF all rest (i+1) ⟨T,H,σ.N+8⟩ k)=some r->x.pl=true->aZ c.P o (Vw.den ⟨λt=>lk t T1,λk=>lk k σ.H,none⟩) σ.N x.D (WA W)->
        ∃e σ',k e σ'=some r/\σ'.N=σ.N+8*(o::rest).length/\lB σ'.T=true/\l5 c.P all.toArray (λe' s'=>e'=e/\fV σ'.T σ'.H s') (o::rest) σ.N s:=λx W h hp hop=>by
     obtain⟨T',h,hT⟩:=Ct h;obtain⟨H',h,hH⟩:=Aq h;have hop:=OL (s:=s) hop hTT hHH;obtain⟨e,σ',h1,h2,h3,h4⟩:=DG hs hpn rest (i+1) _ k r (s.aS o.dst x.D (WA W) σ.N) κ h (hL1.aS hT hH) (λt y ht=>by
      rw[hT]at ht;split at ht
      .cases ht;exact DI hp
      .exact hG1 t y ht)
     exact⟨e,σ',h1,by rw[h2];simp only[iG];omega,h3,.inl ⟨x.D,WA W,.inl ⟨hgd,hop⟩,h4⟩⟩
    unfold Cz at h;rcases hpn _ κ _ _ _ _ _ _ hok rfl h with h|⟨x,W,h,hp,hop⟩|⟨v,W,h,hop⟩
    .obtain⟨x,W,h,hp,hop⟩:=hs _ κ _ _ _ _ _ hok h
     exact nx x W h hp (hop (λkey c h=>by cases h))
    .exact nx x W h hp (hop (λkey c h=>by cases h))
    .obtain⟨H',h,hH⟩:=Aq h
     obtain⟨T',h1,h2,h3⟩:=GL h;have hL2:fV T1 H' (s.aS none .any (WA W) σ.N):=hL1.aS (dst:=none) (x:=.aU []) (λt=>by simp) hH;exact⟨_,_,h1,by simp only[iG],h3,.inr (.inr ⟨v,WA W,hgd,aGg (hop (λkey c h=>by cases h)) hTT hHH,rfl,hL2.T' h2⟩)⟩
   have offK:∀(T1:XT),fV T1 σ.H s->(∀t x,lk t T1=some x->Good κ x)->Gy all.toArray o s->(Cw σ T1 o λσ'=>jP c stF all rest (i+1) σ' k)=some r->
       ∃e σ',k e σ'=some r/\σ'.N=σ.N+8*(o::rest).length/\lB σ'.T=true/\l5 c.P all.toArray (λe' s'=>e'=e/\fV σ'.T σ'.H s') (o::rest) σ.N s:=λT1 hL1 hG1 hgd h=>by
    unfold Cw at h;obtain⟨T',h,hT⟩:=Ct h;obtain⟨e,σ',h1,h2,h3,h4⟩:=DG hs hpn rest (i+1) _ k r (s.aS o.dst (X.aU []).D (WA []) σ.N) κ h (hL1.aS hT (λq=>rfl)) (λt y ht=>by
     rw[hT]at ht;split at ht
     .cases ht;exact rH
     .exact hG1 t y ht)
    exact⟨e,σ',h1,by rw[h2];simp only[iG];omega,h3,.inl ⟨_,_,.inr ⟨hgd,rfl,rfl⟩,h4⟩⟩
   cases g with
   |on=>
     simp only at h hg';exact onK σ.T hL hG (.inl hg') h
   |off=>
     simp only at h hg';obtain⟨j,w,t,e1,e2,e3⟩:=hg';exact offK σ.T hL hG ⟨j,w,t,_,e1,hall e2,hL.T t _ e3,.inl rfl⟩ h
   |kn b=>
     obtain⟨j,w,t,v,e1,e2,e3,e4,e5⟩:=hg';cases b with
     |true=>
       have:=e4 rfl;subst this;exact onK σ.T hL hG (.inr ⟨j,v,t,e1,hall e2,hL.T t _ e3⟩) h
     |false=>
       have:=e5 rfl;subst this;exact offK σ.T hL hG ⟨j,w,t,_,e1,hall e2,hL.T t _ e3,.inr rfl⟩ h
   |cd key b t j y new=>
     simp only at h hg';obtain⟨w,x0,e1,e2,e3,e4,e5,e6,e7,e8⟩:=hg';split at h
     .split at h
      case h_2=>cases h
      rename_i jj q jg w' hgw;rw[e1]at hgw;obtain⟨rfl,rfl⟩:=a1O (fI hgw);have hx0:x0.D = .t (.v (.bool q)):=e5.symm;have key:∀(T1:XT)(v:Bool),q=v->(∀t',lk t' T1=if t=t' then some (.v (.bool v))else lk t' σ.T)->fV T1 σ.H s/\(∀t x,lk t T1=some x->Good κ x)/\s.T t=some (.t (.v (.bool v))):=λT1 v hq hT=>by
       subst hq;refine⟨hL.T' λt' x ht=>?_,λt' x ht=>?_,by rw[hL.T t x0 e3,hx0]⟩
       .rw[hT]at ht
        split at ht
        .rename_i he;cases ht;subst he;exact⟨x0,e3,hx0.symm⟩
        .exact⟨x,ht,rfl⟩
       .rw[hT]at ht
        split at ht
        .cases ht;exact rH
        .exact hG t' x ht
      rcases tK h with⟨hq,h⟩|⟨hq,h⟩
      .obtain⟨T1,h,hT1⟩:=jO h
       obtain⟨k1,k2,k3⟩:=key T1 true hq hT1;cases w with
       |true=>exact onK T1 k1 k2 (.inr ⟨_,_,t,e1,hall e2,k3⟩) h
       |false=>exact offK T1 k1 k2 ⟨_,_,t,_,e1,hall e2,k3,.inr rfl⟩ h
      .obtain⟨T1,h,hT1⟩:=jO h
       obtain⟨k1,k2,k3⟩:=key T1 false hq hT1;cases w with
       |true=>exact offK T1 k1 k2 ⟨_,_,t,_,e1,hall e2,k3,.inr rfl⟩ h
       |false=>exact onK T1 k1 k2 (.inr ⟨_,_,t,e1,hall e2,k3⟩) h
     split at h
     case h_2=>cases h
     rename_i hfree;obtain⟨T1,h,hT1⟩:=jO h
     -- the keys
     have hκ:∃κ':Nat->Bool,(∀t x,lk t T1=some x->Good κ' x)/\b=κ' key:=by
      obtain⟨k1,k2⟩:=e8 κ (hG t x0 e3);cases hn:new with
      |false=>
        obtain⟨g1,g2⟩:=k1 hn;refine⟨κ,λt' x' ht=>?_,g2⟩;rw[hT1]at ht;split at ht
        .cases ht;exact g1
        .exact hG t' x' ht
      |true=>
        obtain⟨a,cc,k3⟩:=k2 hn;rw[hn]at hfree;have hf:G7 j σ.T=true:=by simpa using hfree
        obtain⟨g1,g2⟩:=k3 (kK κ j a cc) Vi Vj (λkey' c' x' hx=>by
         have:=Uc hf t x0 e3;rw[hx]at this;simp only[qO,aHH]at this;have h1:=mT this.1.1;have h2:=mT this.1.2;unfold kK;rw[aH (by omega),aH (by omega)])
        refine⟨kK κ j a cc,λt' x' ht=>?_,g2⟩;rw[hT1]at ht;split at ht
        .cases ht;exact g1
        .exact(hG t' x' ht).set (Uc hf t' x' ht)
     obtain⟨κ',hG1,hb⟩:=hκ;have hL1:fV T1 σ.H s:=⟨λt' x' ht=>by
      rw[hT1]at ht;split at ht
      .rename_i he
       cases ht;subst he;rw[e5];exact hL.T t x0 e3
      .exact hL.T t' x' ht,hL.H⟩
     have hok:Vw.Ok ⟨λt=>lk t T1,λk=>lk k σ.H,some (key,b)⟩ κ':=⟨hG1,λkey' c' h=>by cases h;exact hb⟩;have hle:∀{x:D}{W:Wr},aZ c.P o (Vw.den ⟨λt=>lk t T1,λk=>lk k σ.H,some (key,b)⟩) σ.N x W->aZ c.P o s σ.N x W:=λhop=>OL hop (λt d ht=>by
      simp only[Vw.den]at ht;obtain⟨y,hy,rfl⟩:=cR.1 ht;exact hL1.T t y hy) (λq d ht=>by
      simp only[Vw.den]at ht;obtain⟨y,hy,rfl⟩:=cR.1 ht;exact hL1.H q y hy)
     have hTt:=hL.T t x0 e3;have hoff:b=false->mV c.P all.toArray o s σ.N (.aU []) []:=λhb'=>.inr ⟨⟨j,w,t,_,e1,hall e2,hTt,e7 hb'⟩,rfl,rfl⟩
     have hgd:b=true->pO all.toArray o s:=λhb'=>.inr ⟨j,w,t,e1,hall e2,by rw[hTt,e6 hb']⟩
     split at h
     ·-- it runs under a condition
      obtain⟨x,W,h,hp,hop⟩:=hs _ κ' _ _ _ _ _ hok h;obtain⟨hW,h9⟩:=aFI h;subst hW;clear h;obtain⟨T',h,hT⟩:=Ct h9;have hG':∀t y,lk t T'=some y->Good κ' y:=λt' y' ht=>by
       rw[hT]at ht;split at ht
       .cases ht
        refine⟨hb,?_⟩;cases x with
        |bit j q=>cases hp
        |eP k c y=>cases hp
        |_=>exact rH
       .exact hG1 t' y' ht
      obtain⟨e,σ',h1,h2,h3,h4⟩:=DG hs hpn rest (i+1) _ k r (s.aS o.dst (X.eP key b x).D (WA []) σ.N) κ' h (hL1.aS hT (λq=>rfl)) hG';refine⟨e,σ',h1,by rw[h2];simp only[iG];omega,h3,.inl ⟨_,_,?_,h4⟩⟩;cases hbb:b with
      |false=>rw[hbb]at hoff;exact hoff rfl
      |true=>rw[hbb]at hgd hop hle;exact .inl ⟨hgd rfl,hle (hop (λkey' c' h=>by cases h;rfl))⟩
     ·-- two ways
      rcases tK h with⟨hb',h⟩|⟨hb',h⟩
      .obtain⟨x,W,h,hp,hop⟩:=hs _ κ' _ _ _ _ _ hok h
       obtain⟨T',h,hT⟩:=Ct h;obtain⟨H',h,hH⟩:=Aq h;obtain⟨e,σ',h1,h2,h3,h4⟩:=DG hs hpn rest (i+1) _ k r (s.aS o.dst x.D (WA W) σ.N) κ' h (hL1.aS hT hH) (λt y ht=>by
        rw[hT]at ht;split at ht
        .cases ht;exact DI hp
        .exact hG1 t y ht)
       exact⟨e,σ',h1,by rw[h2];simp only[iG];omega,h3,.inl ⟨x.D,WA W,.inl ⟨hgd hb',hle (hop (λkey' c' h=>by cases h;exact hb'))⟩,h4⟩⟩
      .obtain⟨T',h,hT⟩:=Ct h
       obtain⟨e,σ',h1,h2,h3,h4⟩:=DG hs hpn rest (i+1) _ k r (s.aS o.dst (X.aU []).D (WA []) σ.N) κ' h (hL1.aS hT (λq=>rfl)) (λt y ht=>by
        rw[hT]at ht;split at ht
        .cases ht;exact rH
        .exact hG1 t y ht)
       exact⟨e,σ',h1,by rw[h2];simp only[iG];omega,h3,.inl ⟨_,_,hoff hb',h4⟩⟩
end Go.Ax
/- A region that draws its order. -/
namespace Go.Ax
open aB
open Go.RowKit Go.Ab
def fF(rs:Rx):Rs:=rs.map λp=>(p.1.D,WA p.2)
theorem Tg{t:Tmp}{j:Nat}:∀{l:List Oper}{p:Nat},Aw t j p l=true->∀q o,l[q]?=some o->o.dst=some t->p+q=j
 |[],_,_,q,o,h,_=>by simp at h
 |o'::l,p,hu,q,o,h,hd=>by
   unfold Aw at hu;have rest:Aw t j (p+1) l=true->∀q',q=q'+1->p+q=j:=λhr q' e=>by
    subst e;have:=Tg hr q' o (by simpa using h) hd;omega
   cases q with
   |succ q'=>
     split at hu
     .split at hu
      .cases hu
      .exact rest hu q' rfl
     .exact rest hu q' rfl
   |zero=>
     simp at h;subst h;rw[hd]at hu;simp only at hu;split at hu
     .cases hu
     .rename_i hb
      simp only[Bool.and_eq_false_iff,Bool.not_eq_false']at hb;rcases hb with hb|hb
      .simp at hb
      .have:=bF hb;omega
section
variable{ops:Array Oper}{pre kl:List (List Nat)}{fr:Nat}
theorem Md{σ:Vw}{dst:Option Tmp}{x:X}{W:Wx}(t:Nat):(Me σ dst x W).T t=if dst=some t then some x else σ.T t:=by
 unfold Me;cases dst with
 |none=>simp
 |some d=>
   simp only;by_cases e:d=t
   .subst e;simp
   .rw[mM e];simp[e]
theorem Sz{S:Nat->Bool}:∀(rs:Rx)(j:Nat)(σ:Vw)(s:St),(∀t x,σ.T t=some x->s.T t=some x.D)->(∀k o,σ.H k=some o->s.H k=some o.A)->
    (∀t x,(nX (Region.fB ops) S j rs σ).T t=some x->(cB ops fr S j (fF rs) s).T t=some x.D)/\(∀k o,(nX (Region.fB ops) S j rs σ).H k=some o->(cB ops fr S j (fF rs) s).H k=some o.A)
 |[],j,σ,s,h1,h2=>⟨h1,h2⟩
 |(x,W)::rs,j,σ,s,h1,h2=>by
   unfold nX;simp only[fF,eX];unfold cB;cases hS:S j with
   |false=>simp only[Bool.false_eq_true,lX];exact Sz rs (j+1) σ s h1 h2
   |true=>
     simp only[fY];refine Sz rs (j+1) _ _ (λt y hy=>?_) (λk o hk=>?_)
     .rw[Md]at hy
      simp only[St.aS];split at hy
      .rename_i e;cases hy;rw[aJ e]
      .rename_i e;rw[aH e];exact h1 t y hy
     .simp only[Me,N3]at hk
      simp only[St.aS,UH];cases hl:Ab.look k W with
      |none=>simp only[hl]at hk;exact h2 k o hk
      |some o'=>simp only[hl]at hk;simp[hk]
theorem Sx{dst:Nat->Option Tmp}{S:Nat->Bool}:∀(rs:Rx)(j:Nat)(σ:Vw)(t:Nat)(x:X),(nX dst S j rs σ).T t=some x->(∃p∈rs,p.1=x)\/σ.T t=some x
 |[],j,σ,t,x,h=>.inr h
 |(y,W)::rs,j,σ,t,x,h=>by
   unfold nX at h;split at h
   .rcases Sx rs (j+1) _ t x h with⟨p,hp,e⟩|h
    .exact .inl ⟨p,mY _ hp,e⟩
    .rw[Md]at h
     split at h
     .cases h;exact .inl ⟨_,Dp ..,rfl⟩
     .exact .inr h
   .rcases Sx rs (j+1) _ t x h with⟨p,hp,e⟩|h
    .exact .inl ⟨p,mY _ hp,e⟩
    .exact .inr h
theorem aEJ{dst:Nat->Option Tmp}{S:Nat->Bool}{t:Nat}:∀(rs:Rx)(p:Nat)(σ:Vw),(∀q,p<=q->dst q≠some t)->(nX dst S p rs σ).T t=σ.T t
 |[],p,σ,_=>rfl
 |(y,W)::rs,p,σ,h=>by
   unfold nX;rw[aEJ rs (p+1) _ (λq hq=>h q (by omega))];split
   .rw[Md,aH (h p (Nat.le_refl _))]
   .rfl
theorem Sy{dst:Nat->Option Tmp}{S:Nat->Bool}{t j:Nat}(hS:S j=true)(hd:dst j=some t)(hu:∀q,q≠j->dst q≠some t):∀(rs:Rx)(p:Nat)(σ:Vw)(x:X)(W:Wx),p<=j->rs[j-p]?=some (x,W)->(nX dst S p rs σ).T t=some x
 |[],p,σ,x,W,_,h=>by simp at h
 |(y,W')::rs,p,σ,x,W,hp,h=>by
   unfold nX;by_cases e:p=j
   .subst e
    simp only[Nat.sub_self,List.getElem?_cons_zero,Option.some.injEq,Prod.mk.injEq]at h;obtain⟨rfl,rfl⟩:=h;rw[hS];simp only;rw[aEJ rs (p+1) _ (λq hq=>hu q (by omega)),Md,aJ hd]
   .refine Sy hS hd hu rs (p+1) _ x W (by omega) ?_
    rw[show j-p=(j-(p+1))+1 by omega]at h;simpa using h
theorem a0W{i:Nat}{rs:Rx}{σ:Vw}{s:St}{g:Option (Nat×Bool)}(h1:∀t x,σ.T t=some x->s.T t=some x.D)(h2:∀k o,σ.H k=some o->s.H k=some o.A):
    (∀t d,(jY ops pre kl fr i rs σ g).den.T t=some d->(ctx ops pre kl fr i (fF rs) s).T t=some d)/\(∀k o,(jY ops pre kl fr i rs σ g).den.H k=some o->(ctx ops pre kl fr i (fF rs) s).H k=some o):=by
 obtain⟨q1,q2⟩:=Sz (ops:=ops) (fr:=fr) (S:=λj=>(pre.getD i []).contains j) rs 0 σ s h1 h2;refine⟨λt d h=>?_,λk o h=>?_⟩
 .simp only[Vw.den,jY]at h
  obtain⟨x,hx,rfl⟩:=cR.1 h;simp only[ctx];split at hx
  .cases hx
  .rename_i hf
   rw[aH (by rw[hf];simp)];exact q1 t x hx
 .simp only[Vw.den,jY]at h
  obtain⟨x,hx,rfl⟩:=cR.1 h;simp only[ctx];split at hx
  .cases hx
  .rename_i hf
   rw[aH (by rw[hf];simp)];exact q2 k x hx
theorem a0V{i:Nat}{rs:Rx}{σ:Vw}{g:Option (Nat×Bool)}{t:Nat}{x:X}(h:(jY ops pre kl fr i rs σ g).T t=some x):(∃p∈rs,p.1=x)\/σ.T t=some x:=by
 simp only[jY]at h;split at h
 .cases h
 .exact Sx rs 0 σ t x h
theorem T6{α β:Type}(f:α->β):∀(l:List α)(j:Nat)(x y:α),l[j]?=some y->f x=f y->(gR x j l).map f=l.map f
 |[],_,_,_,h,_=>by simp at h
 |z::l,0,x,y,h,e=>by simp at h;subst h;simp[gR,e]
 |z::l,j+1,x,y,h,e=>by simp only[gR,eX];rw[T6 f l j x y (by simpa using h) e]
theorem T5{α:Type}(x:α)(j:Nat):gR x j []=[]:=by cases j <;> rfl
theorem T7{α:Type}:∀(l:List α)(j:Nat)(x:α),(gR x j l).length=l.length
 |[],j,x=>by rw[T5]
 |_::_,0,_=>rfl
 |_::l,j+1,x=>by simp only[gR,iG];rw[T7 l j x]
theorem NK{α:Type}:∀(l:List α)(j:Nat)(x z:α),z∈gR x j l->z=x\/z∈l
 |[],j,x,z,h=>by rw[T5]at h;cases h
 |y::l,0,x,z,h=>by
   rcases dT.1 h with h|h
   .exact .inl h
   .exact .inr (mY _ h)
 |y::l,j+1,x,z,h=>by
   rcases dT.1 h with h|h
   .exact .inr (by rw[h];exact Dp ..)
   .rcases NK l j x z h with h|h
    .exact .inl h
    .exact .inr (mY _ h)
theorem Ud{j:Nat}:∀{rs:Rx},G8 j rs=true->∀p∈rs,qO j p.1=false
 |[],_,p,h=>by cases h
 |(x,W)::l,hf,p,h=>by
   unfold G8 at hf;split at hf
   .cases hf
   .rename_i hu
    rcases dT.1 h with h|h
    .rw[h];exact hu
    .exact Ud hf p h
theorem aGa{W:Wx}{f:Nat->Bool}(h:W.all (λp=>f p.1)=true):((WA W).all λp=>f p.1)=true:=by
 rw[eG]at h ⊢;intro p hp;obtain⟨q,hq,rfl⟩:=List.mem_map.1 hp;exact h q hq
theorem aFJ:∀{rs:Rx},NX rs=true->∀q∈fF rs,q.2=[]
 |[],_,q,hq=>by cases hq
 |(x,[])::l,h,q,hq=>by
   unfold NX at h;rcases dT.1 hq with rfl|hq
   .rfl
   .exact aFJ h q hq
 |(x,_::_)::l,h,q,hq=>by cases h
theorem aYn{n i:Nat}(h:aF5 pre n i=true):∀p,i<p->p<n->i∈pre.getD p []:=λp h1 h2=>by
 have:=eG.1 h p (List.mem_range.2 h2);rw[Bool.or_eq_true]at this;rcases this with h|h
 .have:=Nat.le_of_ble_eq_true h;omega
 .exact List.contains_iff_mem.1 h
abbrev OX(ops:Array Oper)(fr:Nat)(s:St)(k:Rx->O)(K:Exit->Sg->O)(r:aM)(n:Nat)(e:Exit)(s':St):Prop:=
 (e = .normal/\∃rs',k rs'=some r/\rs'.length=n/\s'=cB ops fr (λ_=>true) 0 (fF rs') s)\/∃σ',K e σ'=some r/\σ'.N=fr+8*ops.size/\fV σ'.T σ'.H s'
theorem Da{c:Cx}(hs:OH c)(hpn:OJ c){stF:List Nat}{σ:Vw}{s:St}{HL:XH}{K:Exit->Sg->O}(h1:∀t x,σ.T t=some x->s.T t=some x.D)(h2:∀k o,σ.H k=some o->s.H k=some o.A)(hpl:∀t x,σ.T t=some x->x.pl=true)(hHL:∀k o,lk k HL=some o->s.H k=some o.A){n:Nat}:
    ∀(l:List Oper)(i:Nat)(rs:Rx)(k:Rx->O)(r:aM)(κ:Nat->Bool),kH c stF ops pre kl fr σ HL K l i rs k=some r->rs.length=i->n=i+l.length->(∀p∈rs,Good κ p.1)->
    oH c.P ops pre kl fr s (OX ops fr s k K r n) l i (fF rs)
 |[],i,rs,k,r,κ,h,hl,hn,hG=>.inl ⟨rfl,rs,h,by rw[hl,hn];rfl,rfl⟩
 |o::rest,i,rs,k,r,κ,h,hl,hn,hG=>by
   have hn':n=i+1+rest.length:=by rw[hn,iG];omega
   unfold kH at h;obtain⟨g,hg,h⟩:=bD h;have hg':=aFh hg;have hall:∀{j:Nat}{t:Tmp},(ops.toList[j]?).bind (·.dst)=some t->((ops[j]?).bind (·.dst))=some t:=λh=>by simpa using h
   have oZ:∀{κ:Nat->Bool}{rs:Rx},(∀p∈rs,Good κ p.1)->∀{g:Option (Nat×Bool)} t x,(jY ops pre kl fr i rs σ g).T t=some x->Good κ x:=λhG _ t x hx=>by
    rcases a0V hx with⟨p,hp,rfl⟩|hx
    .exact hG p hp
    .exact DI (hpl t x hx)
   have push:∀{κ:Nat->Bool}{rs:Rx},(∀p∈rs,Good κ p.1)->∀{x:X}{W:Wx},Good κ x->∀p∈rs++[(x,W)],Good κ p.1:=λhG _ _ hx p hp=>by
    rcases List.mem_append.1 hp with hp|hp
    .exact hG p hp
    .rw[List.mem_singleton.1 hp];exact hx
   have hcx:=λ(rs:Rx)(g:Option (Nat×Bool))=>a0W (ops:=ops) (pre:=pre) (kl:=kl) (fr:=fr) (i:=i) (rs:=rs) (g:=g) h1 h2
   have runK:∀(rs:Rx),rs.length=i->(∀p∈rs,Good κ p.1)->pO ops o (ctx ops pre kl fr i (fF rs) s)->(DA c stF ops pre kl fr σ HL K o i rs λrs=>kH c stF ops pre kl fr σ HL K rest (i+1) rs k)=some r->
       oH c.P ops pre kl fr s (OX ops fr s k K r n) (o::rest) i (fF rs):=λrs hl hG hg' h=>by
    unfold DA at h;have hok:Vw.Ok (jY ops pre kl fr i rs σ none) κ:=⟨oZ hG,λkey c h=>by cases h⟩;have nx:∀x W,(match W.all (λp=>eY kl fr i p.1)with
     |true=>kH c stF ops pre kl fr σ HL K rest (i+1) (rs++[(x,W)]) k
     |false=>none)=some r->x.pl=true->aZ c.P o (Vw.den (jY ops pre kl fr i rs σ none)) (fr+8*i) x.D (WA W)->oH c.P ops pre kl fr s (OX ops fr s k K r n) (o::rest) i (fF rs):=λx W h hp hop=>by
     split at h
     case h_2=>cases h
     rename_i hW;have e3:=Da hs hpn h1 h2 hpl hHL rest (i+1) _ k r κ h (by simp[hl]) hn' (push hG (DI hp));refine .inl ⟨x.D,WA W,.inl ⟨hg',OL hop (hcx rs none).1 (hcx rs none).2⟩,aGa hW,?_⟩;simpa[fF]using e3
    rcases hpn _ κ _ _ _ _ _ _ hok rfl h with h|⟨x,W,h,hp,hop⟩|⟨v,W,h,hop⟩
    .obtain⟨x,W,h,hp,hop⟩:=hs _ κ _ _ _ _ _ hok h
     exact nx x W h hp (hop (λkey c h=>by cases h))
    .exact nx x W h hp (hop (λkey c h=>by cases h))
    .split at h
     case h_2=>cases h
     rename_i hb;rw[bM]at hb;obtain⟨H',h,hH⟩:=Aq h;have hL0:fV [] HL ⟨λ_=>none,s.H,s.nm⟩:=⟨(λt x ht=>by cases ht),hHL⟩;exact .inr ⟨v,WA W,hg',aGg (hop (λkey c h=>by cases h)) (hcx rs none).1 (hcx rs none).2,aYn hb.1,aFJ hb.2,.inr ⟨_,h,rfl,hL0.aS (dst:=none) (x:=.aU []) (λt=>by simp) hH⟩⟩
   have skipK:∀(rs:Rx),rs.length=i->(∀p∈rs,Good κ p.1)->Gy ops o (ctx ops pre kl fr i (fF rs) s)->kH c stF ops pre kl fr σ HL K rest (i+1) (rs++[(.aU [],[])]) k=some r->
       oH c.P ops pre kl fr s (OX ops fr s k K r n) (o::rest) i (fF rs):=λrs hl hG hg' h=>by
    have e3:=Da hs hpn h1 h2 hpl hHL rest (i+1) _ k r κ h (by simp[hl]) hn' (push hG rH);refine .inl ⟨.aU [],[],.inr ⟨hg',rfl,rfl⟩,rfl,?_⟩;simpa[fF,X.D,Ds,WA]using e3
   cases g with
   |on=>
     simp only at h hg';exact runK rs hl hG (.inl hg') h
   |off=>
     simp only at h hg';obtain⟨j,w,t,z1,z2,z3⟩:=hg';exact skipK rs hl hG ⟨j,w,t,_,z1,hall z2,(hcx rs none).1 t _ (o9 z3),.inl rfl⟩ h
   |kn b=>
     obtain⟨j,w,t,v,z1,z2,z3,z4,z5⟩:=hg';cases b with
     |true=>
       have:=z4 rfl;subst this;exact runK rs hl hG (.inr ⟨j,v,t,z1,hall z2,(hcx rs none).1 t _ (o9 z3)⟩) h
     |false=>
       have:=z5 rfl;subst this;exact skipK rs hl hG ⟨j,w,t,_,z1,hall z2,(hcx rs none).1 t _ (o9 z3),.inr rfl⟩ h
   |cd key b t j y new=>
     simp only at h hg';obtain⟨w,x0,z1,z2,z3,z4,z5,z6,z7,z8⟩:=hg';split at h
     .split at h
      case h_2=>cases h
      rename_i jj q jg w' hgw hon;rw[z1]at hgw;obtain⟨rfl,rfl⟩:=a1O (fI hgw);simp only[bM]at hon;obtain⟨honly,hpre⟩:=hon;have hx0:x0.D = .t (.v (.bool q)):=z5.symm;have hdst:Region.fB ops j=some t:=by unfold Region.fB;exact hall z2
      have hTt:(ctx ops pre kl fr i (fF rs) s).T t=some (.t (.v (.bool q))):=by rw[(hcx rs none).1 t _ (o9 z3),hx0]
      have key:∀(v:Bool),q=v->∀{f:Rx->O},Cy j (.v (.bool v)) rs f=some r->∃rs',f rs'=some r/\rs'.length=i/\(∀p∈rs',Good κ p.1)/\fF rs'=fF rs:=λv hq f h=>by
       subst hq;unfold Cy at h;split at h
       case h_2=>cases h
       rename_i xj Wj hj;have hxx:xj=x0:=by
        have hz:=z3;simp only[jY]at hz;split at hz
        .cases hz
        .rw[Sy (j:=j) hpre hdst (λq hq he=>hq (by
          unfold Region.fB at he;obtain⟨oq,ho1,ho2⟩:=xN.1 he;have:=Tg honly q oq (by simpa using ho1) ho2;omega)) rs 0 σ xj Wj (Nat.zero_le _) (by simpa using hj)]at hz
         cases hz;rfl
       subst hxx;refine⟨_,h,by rw[T7];exact hl,λp hp=>?_,T6 _ rs j _ _ hj (by simp[hx0,X.D])⟩;rcases NK _ _ _ _ hp with rfl|hp
       .exact rH
       .exact hG p hp
      rcases tK h with⟨hq,h⟩|⟨hq,h⟩
      .obtain⟨rs',h,k1,k2,k3⟩:=key true hq h
       rw[hq]at hTt;rw[<-k3]at hTt ⊢;cases w with
       |true=>exact runK rs' k1 k2 (.inr ⟨_,_,t,z1,hall z2,hTt⟩) h
       |false=>exact skipK rs' k1 k2 ⟨_,_,t,_,z1,hall z2,hTt,.inr rfl⟩ h
      .obtain⟨rs',h,k1,k2,k3⟩:=key false hq h
       rw[hq]at hTt;rw[<-k3]at hTt ⊢;cases w with
       |true=>exact skipK rs' k1 k2 ⟨_,_,t,_,z1,hall z2,hTt,.inr rfl⟩ h
       |false=>exact runK rs' k1 k2 (.inr ⟨_,_,t,z1,hall z2,hTt⟩) h
     split at h
     case h_2=>cases h
     rename_i hchk;simp only[bM]at hchk;obtain⟨hfree,honly,hpre⟩:=hchk;unfold Cy at h;split at h
     case h_2=>cases h
     rename_i xj Wj hj
     -- what the test lies in is what was looked up
     have hdst:Region.fB ops j=some t:=by unfold Region.fB;exact hall z2
     have hx0:xj=x0:=by
      have hz:=z3;simp only[jY]at hz;split at hz
      .cases hz
      .rw[Sy (j:=j) hpre hdst (λq hq he=>hq (by
        unfold Region.fB at he;obtain⟨oq,ho1,ho2⟩:=xN.1 he;have:=Tg honly q oq (by simpa using ho1) ho2;omega)) rs 0 σ xj Wj (Nat.zero_le _) (by simpa using hj)]at hz
       cases hz;rfl
     subst hx0;have hmap:fF (gR (y,Wj) j rs)=fF rs:=T6 _ rs j _ _ hj (by simp[z5]);have hlen:(gR (y,Wj) j rs).length=i:=by rw[T7];exact hl
     have hκ:∃κ':Nat->Bool,(∀p∈gR (y,Wj) j rs,Good κ' p.1)/\b=κ' key:=by
      obtain⟨k1,k2⟩:=z8 κ (oZ hG t xj z3);cases hn:new with
      |false=>
        obtain⟨g1,g2⟩:=k1 hn;refine⟨κ,λp hp=>?_,g2⟩;rcases NK _ _ _ _ hp with rfl|hp
        .exact g1
        .exact hG p hp
      |true=>
        obtain⟨a,cc,k3⟩:=k2 hn;rw[hn]at hfree;have hf:G8 j rs=true:=by simpa using hfree
        have hxf:qO j xj=false:=Ud hf _ (List.mem_iff_getElem?.2 ⟨j,hj⟩);obtain⟨g1,g2⟩:=k3 (kK κ j a cc) Vi Vj (λkey' c' x' hx=>by
         rw[hx]at hxf;simp only[qO,aHH]at hxf;have h1:=mT hxf.1.1;have h2:=mT hxf.1.2;unfold kK;rw[aH (by omega),aH (by omega)])
        refine⟨kK κ j a cc,λp hp=>?_,g2⟩;rcases NK _ _ _ _ hp with rfl|hp
        .exact g1
        .exact(hG p hp).set (Ud hf p hp)
     obtain⟨κ',hG1,hb⟩:=hκ;have hok:Vw.Ok (jY ops pre kl fr i (gR (y,Wj) j rs) σ (some (key,b))) κ':=⟨oZ hG1,λkey' c' h=>by cases h;exact hb⟩;have hTt:(ctx ops pre kl fr i (fF rs) s).T t=some xj.D:=(hcx rs none).1 t _ (o9 z3);have hoff:b=false->mV c.P ops o (ctx ops pre kl fr i (fF rs) s) (fr+8*i) (.aU []) []:=λhb'=>.inr ⟨⟨j,w,t,_,z1,hall z2,hTt,z7 hb'⟩,rfl,rfl⟩
     have hgd:b=true->pO ops o (ctx ops pre kl fr i (fF rs) s):=λhb'=>.inr ⟨j,w,t,z1,hall z2,by rw[hTt,z6 hb']⟩
     have hle:∀{x:D}{W:Wr},aZ c.P o (Vw.den (jY ops pre kl fr i (gR (y,Wj) j rs) σ (some (key,b)))) (fr+8*i) x W->aZ c.P o (ctx ops pre kl fr i (fF rs) s) (fr+8*i) x W:=λhop=>by
      have:=hcx (gR (y,Wj) j rs) (some (key,b));rw[hmap]at this;exact OL hop this.1 this.2
     have hsnoc:∀(x:X)(W:Wx),fF (gR (y,Wj) j rs++[(x,W)])=fF rs++[(x.D,WA W)]:=λx W=>by
      have:fF (gR (y,Wj) j rs++[(x,W)])=fF (gR (y,Wj) j rs)++[(x.D,WA W)]:=by simp[fF]
      rw[this,hmap]
     split at h
     .obtain⟨x,W,h,hp,hop⟩:=hs _ κ' _ _ _ _ _ hok h
      obtain⟨hW,h9⟩:=aFI h;subst hW;clear h;have e3:=Da hs hpn h1 h2 hpl hHL rest (i+1) _ k r κ' h9 (by simp[hlen]) hn' (push hG1 (by
       refine⟨hb,?_⟩;cases x with
       |bit j q=>cases hp
       |eP k c y=>cases hp
       |_=>exact rH))
      rw[hsnoc]at e3;refine .inl ⟨(X.eP key b x).D,WA [],?_,rfl,e3⟩;cases hbb:b with
      |false=>rw[hbb]at hoff;exact hoff rfl
      |true=>rw[hbb]at hgd hop hle;exact .inl ⟨hgd rfl,hle (hop (λkey' c' h=>by cases h;rfl))⟩
     .rcases tK h with⟨hb',h⟩|⟨hb',h⟩
      .obtain⟨x,W,h,hp,hop⟩:=hs _ κ' _ _ _ _ _ hok h
       split at h
       case h_2=>cases h
       rename_i hW;have e3:=Da hs hpn h1 h2 hpl hHL rest (i+1) _ k r κ' h (by simp[hlen]) hn' (push hG1 (DI hp));rw[hsnoc]at e3;exact .inl ⟨x.D,WA W,.inl ⟨hgd hb',hle (hop (λkey' c' h=>by cases h;exact hb'))⟩,aGa hW,e3⟩
      .have e3:=Da hs hpn h1 h2 hpl hHL rest (i+1) _ k r κ' h (by simp[hlen]) hn' (push hG1 rH)
       rw[hsnoc]at e3;exact .inl ⟨_,_,hoff hb',rfl,e3⟩
end
theorem aFo{ops:Array Oper}{fr:Nat}:∀(l:List Oper)(i:Nat)(rs:Rx)(T:XT)(H:XH)(k:XT->XH->O)(r:aM)(s:St),(∀q o,l[q]?=some o->Region.fB ops (i+q)=o.dst)->l.length=rs.length->Ni l rs T H k=some r->fV T H s->
    ∃T' H',k T' H'=some r/\fV T' H' (cB ops fr (λ_=>true) i (fF rs) s)
 |[],i,[],T,H,k,r,s,_,_,h,hL=>⟨T,H,h,hL⟩
 |[],i,_::_,T,H,k,r,s,_,hl,h,hL=>by cases hl
 |_::_,i,[],T,H,k,r,s,_,hl,h,hL=>by cases hl
 |o::l,i,(x,W)::rs,T,H,k,r,s,hd,hl,h,hL=>by
   unfold Ni at h;obtain⟨T',h,hT⟩:=Ct h;obtain⟨H',h,hH⟩:=Aq h;have hd0:=hd 0 o rfl;rw[Nat.add_zero]at hd0;obtain⟨T2,H2,e1,e2⟩:=aFo (fr:=fr) l (i+1) rs T' H' k r (s.aS o.dst x.D (WA W) (fr+8*i)) (λq o' hq=>by have:=hd (q+1) o' (by simpa using hq);rwa [show i+(q+1)=i+1+q by omega]at this) (by simpa using hl) h (hL.aS hT hH);refine⟨T2,H2,e1,?_⟩;simp only[fF,eX];unfold cB;rw[hd0];simpa[fF]using e2
end Go.Ax
