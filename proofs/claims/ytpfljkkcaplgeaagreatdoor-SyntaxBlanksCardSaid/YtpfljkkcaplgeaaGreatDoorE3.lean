/- The abstract machine. Conditions are in the theorems. -/
import Derived.Test.YtpfljkkcaplgeaaGreatDoorE2
import Derived.KernelRfl
open BitVec renaming ofInt->Bl
open Bool renaming and_eq_true->aT,not_eq_true'->wW,or_eq_false_iff->aK9,or_eq_true->lS
open List renaming all_eq_true->fG,contains_iff_mem->vG,flatMap->bR,flatMap_cons->fV,getElem?_append_right->dN,getElem?_eq_some_iff->bZ,getElem?_map->cZ,getElem?_set_ne->qP,getElem?_set_self->pO,length->dR,length_append->aL,length_cons->eD,length_map->cP,length_set->nI,map->wS,map_append->gH,map_cons->iH,map_map->qN,mem_append->wR,mem_cons->eZ,mem_cons_of_mem->fR,mem_cons_self->iB,mem_iff_getElem?->iS,mem_map->gU,mem_of_getElem?->iM,mem_singleton->nH,nodup_cons->a9K,range->lR,replicate->cI,set_append_right->a9I,set_cons_succ->a9H
open Nat renaming add_mul->kK,beq->aY,ble->qM,ble_eq_true_of_le->Zg,blt->oB,eq_of_beq_eq_true->bB,le_of_ble_eq_true->iA,le_refl->cE,lt_succ_self->a8y,sub_self->kZ,zero_add->eC
open Option renaming bind_eq_some_iff->wP,map_eq_some_iff->cO,map_some->lH
open Option.some renaming inj->gZ,injEq->iR
open Prod.mk renaming inj->a8Z
open True renaming intro->u6
open UInt8 renaming ofNat->s7,toNat->wM
/- The abstract machine, run: data with types, states as lists, and one function that runs code on them and says what is left to be shown. -/
namespace Go.Ax
open Go.RowKit Go.Ab
inductive Ex where
 |mk (op n:Int) (kids:List Ex)
def Ex.op:Ex->Int|.mk a _ _=>a
def Ex.num:Ex->Int|.mk _ a _=>a
def Ex.kids:Ex->List Ex|.mk _ _ a=>a
inductive Ty where
 |i (k:IntKind)
 |u8|bo|tx|ex|un
 |sl (e:Ty)
 |pr (x y:Ty)
def Ty.V:Ty->Type
 |.i _=>Int
 |.u8=>UInt8
 |.bo=>Bool
 |.tx=>List UInt8
 |.ex=>Ex
 |.un=>Unit
 |.sl e=>List e.V
 |.pr x y=>x.V×y.V
def eV:(a b:Ty)->Option (PLift (a=b))
 |.i k,.i k'=>if h:k=k' then some ⟨by rw[h]⟩else none
 |.u8,.u8=>some ⟨rfl⟩
 |.bo,.bo=>some ⟨rfl⟩
 |.tx,.tx=>some ⟨rfl⟩
 |.ex,.ex=>some ⟨rfl⟩
 |.un,.un=>some ⟨rfl⟩
 |.sl a,.sl b=>match eV a b with|some ⟨h⟩=>some ⟨by rw[h]⟩|none=>none
 |.pr a b,.pr c d=>match eV a c with
   |some ⟨h⟩=>match eV b d with|some ⟨g⟩=>some ⟨by rw[h,g]⟩|none=>none
   |none=>none
 |_,_=>none
def j6{a b:Ty}(h:a=b)(x:a.V):b.V:=h ▸ x
def aJZ{a b:Ty}(h:a=b)(l:List a.V):List b.V:=h ▸ l
def Ty.size:Ty->Nat
 |.pr a b=>a.size+b.size
 |.ex=>3
 |.un=>0
 |_=>1
def Ty.one:Ty->Bool
 |.pr _ _=>false
 |.ex=>false
 |.un=>false
 |_=>true
def Ty.zero:(τ:Ty)->τ.V
 |.i _=>(0:Int)
 |.u8=>(0:UInt8)
 |.bo=>false
 |.tx=>([]:List UInt8)
 |.ex=>Ex.mk 0 0 []
 |.un=>()
 |.sl _=>[]
 |.pr a b=>(a.zero,b.zero)
inductive X where
 |e (τ:Ty) (x:τ.V)
 |bW
 |agg (xs:List X)
 |aS (xs:List X)
 |own (k:Nat)
 |ref (k off:Nat)
 |rr (k i j s:Nat)
 |pt (τ:Ty) (y:τ.V) (j:Nat)
 |fn (f:FuncId) (xs:List X)
 |v (val:Value)
 |bit (j:Nat) (q:Bool)
 |eX (key:Nat) (c:Bool) (x:X)
 |sub (k i:Nat)
 |jE (k i j:Nat)
 |vw (k i n s:Nat)
 |via (k j:Nat)
 |jI (k te:Nat)
 |ag (τ:Ty) (l:List τ.V)
 |kQ (val:Value)
inductive XO where
 |box (e:TypeId) (xs:List X)
 |row (e:TypeId) (τ:Ty) (l:List τ.V) (st:Bool)
 |nest (e e':TypeId) (τ:Ty) (l:List (List τ.V))
 |mp (τ:Ty) (l:List (τ.V×X))
 |it (s:List UInt8) (pos:Int)
 |bC (e e':TypeId) (κ ρ:Ty) (l:List (ρ.V×List κ.V)) (ln:Option (Int×Nat))
 |arr (e:TypeId) (τ:Ty) (l:List τ.V)
abbrev XT:=List (Nat×X)
abbrev XH:=List (Nat×XO)
abbrev Wx:=List (Nat×Option XO)
abbrev aF:=X×XH
abbrev O:=Option aF
structure Sg where
 T:XT
 H:XH
 N:Nat
/- A contract: from data and what is handed in, what is asked and what comes back. -/
def gM:List Ty->Type
 |[]=>Unit
 |a::l=>match l with|[]=>a.V|_::_=>a.V×gM l
structure Cl where
 ts:List Ty
 z:Option (gM ts)
 d:gM ts
 R:gM ts->aF
abbrev oE:=List X->XH->Option Cl
structure Cx where
 P:Program
 ex:TypeId
 G:List (Nat×oE)
class aA where
 br:Bool->O->O->O
 ck:Bool->O->O
 gx:{α:Type}->List α->Int->(α->O)->O
 gn:{α:Type}->List α->Nat->(α->O)->O
 gc:{α:Type}->Bool->α->List α->Int->(α->O)->O
 cb:{α:Type}->Option α->(α->O)->O
 cg:{α:Type}->Bool->Option α->α->(α->O)->O
open aA
def br0(b:Bool)(x y:O):O:=match b with|true=>x|false=>y
def ck0(b:Bool)(x:O):O:=match b with|true=>x|false=>none
def wF{α:Type}(l:List α)(n:Int)(k:α->O):O:=match(if n<0 then none else l[n.toNat]?)with|some y=>k y|none=>none
def Io{α:Type}(l:List α)(n:Nat)(k:α->O):O:=match l[n]? with|some y=>k y|none=>none
def YV{α:Type}(c:Bool)(z:α)(l:List α)(n:Int)(k:α->O):O:=match c with|true=>wF l n k|false=>k z
def Nw{α:Type}(z:Option α)(k:α->O):O:=match z with|some y=>k y|none=>none
def Yv{α:Type}(c:Bool)(z:Option α)(d:α)(k:α->O):O:=match c with|true=>Nw z k|false=>k d
section
variable[aA]
def nF(g:Option Bool)(b:Bool)(k:O):O:=match g with |none=>ck b k |some c=>ck (!c||b) k
def Yy{α:Type}(g:Option Bool)(z:Option α)(d:α)(k:α->O):O:=match g with|none=>cb z k|some c=>cg c z d k
def wE(g:Option Bool)(τ:Ty)(l:List τ.V)(n:Int)(k:τ.V->O):O:=match g with|none=>gx l n k|some c=>gc c τ.zero l n k
def ob{α:Type}(x:Option α)(k:α->O):O:=match x with|some y=>k y|none=>none
def lk{α:Type}(k:Nat):List (Nat×α)->Option α
 |[]=>none
 |(k',x)::l=>match aY k' k with|true=>some x|false=>lk k l
def lA{α β:Type}(k:Nat)(x:α):List (Nat×α)->(List (Nat×α)->Option β)->Option β
 |[],f=>f [(k,x)]
 |(k',y)::l,f=>match aY k' k with
   |true=>f ((k,x)::l)
   |false=>lA k x l λl'=>f ((k',y)::l')
def sW{α β:Type}(k:Nat):List (Nat×α)->(List (Nat×α)->Option β)->Option β
 |[],f=>f []
 |(k',y)::l,f=>match aY k' k with
   |true=>sW k l f
   |false=>sW k l λl'=>f ((k',y)::l')
def vW(dst:Option Tmp)(x:X)(T:XT)(f:XT->O):O:=match dst with|none=>f T|some t=>lA t x T f
def nP:Wx->XH->(XH->O)->O
 |[],H,f=>f H
 |(k,some o)::W,H,f=>nP W H λH'=>lA k o H' f
 |(k,none)::W,H,f=>nP W H λH'=>sW k H' f
def zA:(τ:Ty)->τ.V->List X
 |.pr a b,x=>zA a x.1++zA b x.2
 |.ex,x=>[.e (.i .i64) (Ex.op x),.e (.i .i64) (Ex.num x),.e (.sl .ex) (Ex.kids x)]
 |.un,_=>[]
 |.i k,x=>[.e (.i k) x]
 |.u8,x=>[.e .u8 x]
 |.bo,x=>[.e .bo x]
 |.tx,x=>[.e .tx x]
 |.sl t,x=>[.e (.sl t) x]
def uC(τ:Ty)(x:τ.V):X:=match τ.one with|true=>.e τ x|false=>.agg (zA τ x)
def one?(τ:Ty):X->Option τ.V
 |.e τ' x=>match eV τ' τ with|some ⟨h⟩=>some (j6 h x)|none=>none
 |.bW=>match τ with|.sl _=>some []|_=>none
 |_=>none
def sM:(τ:Ty)->List X->Option (τ.V×List X)
 |.pr a b,xs=>match sM a xs with
   |some (x,r)=>match sM b r with
     |some (y,r')=>some ((x,y),r')
     |none=>none
   |none=>none
 |.ex,a::b::c::r=>match one? (.i .i64) a with
   |some x=>match one? (.i .i64) b with
     |some y=>match one? (.sl .ex) c with
       |some z=>some (Ex.mk x y z,r)
       |none=>none
     |none=>none
   |none=>none
 |.ex,_=>none
 |.un,xs=>some ((),xs)
 |.i k,x::r=>match one? (.i k) x with|some y=>some (y,r)|none=>none
 |.i _,[]=>none
 |.u8,x::r=>match one? .u8 x with|some y=>some (y,r)|none=>none
 |.u8,[]=>none
 |.bo,x::r=>match one? .bo x with|some y=>some (y,r)|none=>none
 |.bo,[]=>none
 |.tx,x::r=>match one? .tx x with|some y=>some (y,r)|none=>none
 |.tx,[]=>none
 |.sl t,x::r=>match one? (.sl t) x with|some y=>some (y,r)|none=>none
 |.sl _,[]=>none
def X.cells:X->List X
 |.agg xs=>xs
 |x=>[x]
def wD(τ:Ty)(xs:List X):Option τ.V:=match sM τ xs with|some (y,[])=>some y|_=>none
def xJ(τ:Ty)(x:X):Option τ.V:=match τ.one with
 |true=>one? τ x
 |false=>match x with|.agg xs=>wD τ xs|_=>none
def pL:(τ:Ty)->τ.V->(j m:Nat)->((τ':Ty)->τ'.V->O)->O
 |.pr a b,x,j,m,k=>match aY j 0&&aY m (a.size+b.size)with
   |true=>k (.pr a b) x
   |false=>match oB j a.size with
     |true=>pL a x.1 j m k
     |false=>pL b x.2 (j-a.size) m k
 |.ex,x,j,m,k=>match j,m with
   |0,3=>k .ex x
   |0,1=>k (.i .i64) (Ex.op x)
   |1,1=>k (.i .i64) (Ex.num x)
   |2,1=>k (.sl .ex) (Ex.kids x)
   |_,_=>none
 |.un,_,_,_,_=>none
 |τ,x,j,m,k=>match aY j 0&&aY m 1 with
   |true=>k τ x
   |false=>none
def setAt:(τ:Ty)->τ.V->(j m:Nat)->List X->(τ.V->O)->O
 |.pr a b,x,j,m,xs,k=>match aY j 0&&aY m (a.size+b.size)with
   |true=>ob (wD (.pr a b) xs) k
   |false=>match oB j a.size with
     |true=>setAt a x.1 j m xs λy=>k (y,x.2)
     |false=>setAt b x.2 (j-a.size) m xs λy=>k (x.1,y)
 |.ex,_,j,m,xs,k=>match j,m with
   |0,3=>ob (wD .ex xs) k
   |_,_=>none
 |.un,_,_,_,_,_=>none
 |τ,_,j,m,xs,k=>match aY j 0&&aY m 1 with
   |true=>ob (wD τ xs) k
   |false=>none
def IU:List Ty->Option Ty
 |[]=>none
 |[a]=>some a
 |a::l=>match IU l with|some r=>some (.pr a r)|none=>none
def yE{α β:Type}(f:α->Option β):List α->Option (List β)
 |[]=>some []
 |x::l=>match f x with
   |some y=>match yE f l with|some r=>some (y::r)|none=>none
   |none=>none
def oM{α:Type}(x:α):Nat->List α
 |0=>[]
 |n+1=>x::oM x n
def MQ(P:Program)(ex:TypeId):Nat->TypeId->Option Ty
 |0,_=>none
 |n+1,t=>match aY t ex with
   |true=>some .ex
   |false=>match P.underlying t with
     |some (.int .u8)=>some .u8
     |some (.int k)=>some (.i k)
     |some .bool=>some .bo
     |some .string=>some .tx
     |some (.slice e)=>match MQ P ex n e with|some τ=>some (.sl τ)|none=>none
     |some (.struct fs)=>match yE (λf=>MQ P ex n f.type) fs.toList with|some l=>IU l|none=>none
     |some (.array m e)=>match MQ P ex n e with|some τ=>IU (oM τ m)|none=>none
     |_=>none
def Cx.ty(c:Cx)(t:TypeId):Option Ty:=MQ c.P c.ex 12 t
def fP(P:Program)(t:TypeId):Option Nat:=(P.info? t).map (·.size)
def Iw(P:Program)(t:TypeId):Option TypeId:=match P.underlying t with|some (.slice e)=>some e|_=>none
def p9:Value->X
 |.int .u8 n=>match decide (0<=n/\n<256)with|true=>.e .u8 (s7 n.toNat)|false=>.v (.int .u8 n)
 |.int k n=>.e (.i k) n
 |.bool b=>.e .bo b
 |.string s=>.e .tx s.data.toList
 |.slice none 0 0=>.bW
 |w=>.v w
def uM:Value->Option X
 |.agg cs=>match cs.toList.all (·.oneCell')with|true=>some (.agg (cs.toList.map p9))|false=>none
 |.tuple _=>none
 |w=>some (p9 w)
def Ip(g:Nat):X:=match g with
 |0=>.pt (.pr .tx (.pr .tx (.pr .tx (.pr .tx (.pr .tx (.pr .tx .tx)))))) (([116,101,120,116]:List UInt8),([102,111,114,109,117,108,97]:List UInt8),([99,111,108,117,109,110]:List UInt8),([101,110,116,114,105,101,115]:List UInt8),([100,114,97,119,105,110,103]:List UInt8),([109,117,115,105,99]:List UInt8),([108,105,115,116,105,110,103]:List UInt8)) 0
 |1=>.pt (.pr .tx (.pr .tx (.pr .tx (.pr .tx (.pr .tx (.pr .tx .tx)))))) (([119,104,111,108,101]:List UInt8),([101,110,116,114,121]:List UInt8),([105,110,115,105,100,101]:List UInt8),([108,101,102,116]:List UInt8),([108,111,110,103,101,114]:List UInt8),([98,97,114]:List UInt8),([114,111,119]:List UInt8)) 0
 |2=>.pt (.pr .tx (.pr .tx .tx)) (([99,104,111,105,99,101]:List UInt8),([99,111,117,110,116]:List UInt8),([111,112,101,110]:List UInt8)) 0
 |3=>.pt (.pr .tx (.pr .tx (.pr .tx (.pr .tx (.pr .tx (.pr .tx (.pr .tx (.pr .tx (.pr .tx (.pr .tx .tx)))))))))) (([]:List UInt8),([]:List UInt8),([110,101,103]:List UInt8),([43]:List UInt8),([45]:List UInt8),([42]:List UInt8),([47]:List UInt8),([94]:List UInt8),([114,111,111,116]:List UInt8),([61]:List UInt8),([60]:List UInt8)) 0
 |4=>.pt (.pr .tx (.pr .tx .tx)) (([100,111,116]:List UInt8),([108,105,110,101]:List UInt8),([97,114,101,97]:List UInt8)) 0
 |g=>.v (.pointer (some ⟨g,0,none⟩))
structure Vw where
 T:Nat->Option X
 H:Nat->Option XO
 g:Option (Nat×Bool):=none
def vX(g:Option (Nat×Bool)):X->Option X
 |.bit _ q=>some (.e .bo q)
 |.eX key _ x=>match g with
   |some (key',_)=>match aY key key' with
     |true=>match x with|.bit _ q=>some (.e .bo q)|.eX ..=>none|x=>some x
     |false=>none
   |none=>none
 |x=>some x
def Vw.ev(σ:Vw):Operand->Option X
 |.tmp t=>match σ.T t with|some x=>vX σ.g x|none=>none
 |.const w=>uM w
 |.func f=>match oB f 1000000 with|true=>some (.fn f [])|false=>none
 |.global g=>some (Ip g)
def Vw.nC(σ:Vw):List Operand->(List X->O)->O
 |[],k=>k []
 |x::l,k=>ob (σ.ev x) λy=>σ.nC l λys=>k (y::ys)
def Vw.kI(σ:Vw):X->X
 |.own q=>match σ.H q with|some (.row _ τ l true)=>.e (.sl τ) l|_=>.own q
 |x=>x
def Vw.nW(σ:Vw):X->X
 |.agg xs=>.agg (xs.map σ.kI)
 |x=>σ.kI x
def Vw.src(σ:Vw)(τ:Ty):X->Option (List τ.V)
 |.own q=>match σ.H q with
   |some (.row _ τ' l _)=>match eV τ' τ with|some ⟨h⟩=>some (j6 (aR Ty.sl h) l)|none=>none
   |_=>none
 |x=>one? (.sl τ) x
def Vw.len(σ:Vw):X->(Int->O)->O
 |.own q,k=>match σ.H q with|some (.row _ _ l _)=>k l.length|some (.nest _ _ _ l)=>k (dR l)|some (.bC _ _ _ _ l _)=>k (dR l)|_=>none
 |.sub q i,k=>match σ.H q with|some (.nest _ _ _ l)=>gn l i λr=>k (dR r)|_=>none
 |.e (.sl _) l,k=>k (dR l)
 |.bW,k=>k 0
 |_,_=>none
def Xv(c:Cx)(σ:Vw)(t:TypeId)(v:X)(k:X->O):O:=match c.P.underlying t,v with
 |some (.slice _),v=>σ.len v λn=>k (.e (.i .i64) n)
 |some .string,.e .tx l=>k (.e (.i .i64) (dR (α:=UInt8) l:Int))
 |_,_=>none
def I4:Operand->Operand->Bool
 |.tmp a,.tmp b=>aY a b
 |.const (.int k a),.const (.int k' b)=>decide (k=k')&&a == b
 |_,_=>false
def aJs(q x:Bool)(k:X->O):O:=k (.e .bo (q&&x))
def orX(q x:Bool)(k:X->O):O:=k (.e .bo (q||x))
def Vw.EH(σ:Vw)(key:Nat):Operand->Option X
 |.tmp t=>match σ.T t with
   |some (.eX key' _ x)=>match aY key' key with
     |true=>match x with|.bit _ q=>some (.e .bo q)|.eX ..=>none|x=>some x
     |false=>vX σ.g (.eX key' true x)
   |some x=>vX σ.g x
   |none=>none
 |x=>σ.ev x
def Vw.ZD(σ:Vw):Operand->Option (Nat×Bool)
 |.tmp t=>match σ.T t with
   |some (.bit j q)=>some (j,q)
   |some (.eX key _ (.bit j q))=>match σ.g with
     |some (key',_)=>match aY key key' with|true=>some (j,q)|false=>none
     |none=>none
   |_=>none
 |_=>none
def XG(σ:Vw)(b x y:Operand)(k:X->O):O:=match σ.ZD b with
 |some (j,q)=>ob (σ.EH (2*j+1) x) λv=>ob (σ.EH (2*j) y) λv'=>match v,v' with
   |.e .bo a,.e .bo a'=>match y,x with
     |.const (.bool false),_=>aJs q a k
     |_,.const (.bool true)=>orX q a' k
     |_,_=>br q (k v) (k v')
   |v,v'=>br q (k v) (k v')
 |none=>ob (σ.ev b) λv=>match v with
   |.e .bo q=>br q (ob (σ.ev x) k) (ob (σ.ev y) k)
   |.v (.bool true)=>ob (σ.ev x) k
   |.v (.bool false)=>ob (σ.ev y) k
   |_=>none
def bE(n b:Nat):Bool:=decide (n*b<=140737488355328/\n<=140737488355327)
def aJ2(op:BinOp)(m n:Bool)(k:X->O):O:=match op with
 |.eql=>k (.e .bo (m == n))
 |.neq=>k (.e .bo (!(m == n)))
 |_=>none
def aHv(ik:IntKind)(n:Int)(k:X->O):O:=k (.e (.i ik) (ik.wrap (-n)))
def aHm(q:Bool)(k:X->O):O:=k (.e .bo (!q))
def If(τ:Ty)(e:TypeId)(fr b:Nat)(st:Bool)(z:Int)(k:X->Wx->O):O:=ck (decide (0<=z)) (ck (bE z.toNat b) (k (.own fr) [(fr,some (.row e τ (cI z.toNat τ.zero) st))]))
def Xg(τ:Ty)(e:TypeId)(fr b:Nat)(st:Bool)(z:Int)(k:X->Wx->O):O:=ck (decide (0<=z)) (ck (bE z.toNat b) (k (.own fr) [(fr,some (.row e τ [] st))]))
def Xf(κ:Ty)(e e':TypeId)(fr b:Nat)(z:Int)(k:X->Wx->O):O:=ck (decide (0<=z)) (ck (bE z.toNat b) (k (.own fr) [(fr,some (.bC e e' κ .un (cI z.toNat ((),[])) none))]))
def bytesOf(x:List UInt8):(τ:Ty)->Option (List τ.V)
 |.u8=>some x
 |_=>none
def ZS(τ:Ty)(e:TypeId)(fr bt:Nat)(gone:Wx)(st:Bool)(l l':List τ.V)(k:X->Wx->O):O:=ck (bE (l++l').length bt) (k (.own fr) ((fr,some (.row e τ (l++l') st))::gone))
def NM(m n:Int)(k:X->O):O:=k (.e (.i .i64) (max m n:Int))
def aHz(m n:Int)(k:X->O):O:=k (.e (.i .i64) (min m n:Int))
def kP(n:Int):UInt8:=s7 (n%256).toNat
def aJt(ik:IntKind)(m n:Int):Int:=ik.wrap (Bl ik.bits m &&& Bl ik.bits n).toNat
def orV(ik:IntKind)(m n:Int):Int:=ik.wrap (Bl ik.bits m ||| Bl ik.bits n).toNat
def aAM(ik:IntKind)(m n:Int):Int:=ik.wrap (Bl ik.bits m ^^^ Bl ik.bits n).toNat
def aHn(ik:IntKind)(m n:Int):Int:=ik.wrap (Bl ik.bits m &&& ~~~Bl ik.bits n).toNat
def YC(g:Option Bool)(op:BinOp)(ik:IntKind)(m n:Int)(k:X->O):O:=match op with
 |.add=>k (.e (.i ik) (ik.wrap (m+n)))
 |.sub=>k (.e (.i ik) (ik.wrap (m-n)))
 |.mul=>k (.e (.i ik) (ik.wrap (m*n)))
 |.quo=>nF g (decide (n≠0)) (k (.e (.i ik) (ik.wrap (m.tdiv n))))
 |.rem=>nF g (decide (n≠0)) (k (.e (.i ik) (m.tmod n)))
 |.lss=>k (.e .bo (decide (m<n)))
 |.leq=>k (.e .bo (decide (m<=n)))
 |.gtr=>k (.e .bo (decide (n<m)))
 |.geq=>k (.e .bo (decide (n<=m)))
 |.eql=>k (.e .bo (decide (m=n)))
 |.neq=>k (.e .bo (decide (m≠n)))
 |.and=>k (.e (.i ik) (aJt ik m n))
 |.or=>k (.e (.i ik) (orV ik m n))
 |.xor=>k (.e (.i ik) (aAM ik m n))
 |.andNot=>k (.e (.i ik) (aHn ik m n))
 |_=>none
def a4r:BinOp->Bool
 |.shl=>true
 |.shr=>true
 |_=>false
def Wn(g:Option Bool)(op:BinOp)(ik:IntKind)(m n:Int)(k:X->O):O:=match op with
 |.shl=>nF g (decide (0<=n)) (k (.e (.i ik) (ik.wrap (m*2^(min n.toNat ik.bits)))))
 |.shr=>nF g (decide (0<=n)) (k (.e (.i ik) (m.fdiv (2^(min n.toNat ik.bits)))))
 |_=>none
def WU(op:BinOp)(m n:UInt8)(k:X->O):O:=match op with
 |.add=>k (.e .u8 (m+n))
 |.sub=>k (.e .u8 (m-n))
 |.lss=>k (.e .bo (decide (m<n)))
 |.leq=>k (.e .bo (decide (m<=n)))
 |.gtr=>k (.e .bo (decide (n<m)))
 |.geq=>k (.e .bo (decide (n<=m)))
 |.eql=>k (.e .bo (decide (m=n)))
 |.neq=>k (.e .bo (decide (m≠n)))
 |_=>none
def WZ(g:Option Bool)(op:BinOp)(m n:List UInt8)(k:X->O):O:=match op with
 |.add=>nF g (decide ((m.length:Int)+n.length<=9223372036854775807)) (k (.e .tx (m++n)))
 |.eql=>k (.e .bo (decide (m=n)))
 |.neq=>k (.e .bo (decide (m≠n)))
 |_=>none
def ZE(P:Program)(g:Option Bool)(op:BinOp)(xt:TypeId)(x y:X)(k:X->O):O:=match x,y with
 |.e (.i ik) m,.e (.i ik') n=>match a4r op with
   |true=>Wn g op ik m n k
   |false=>match decide (ik=ik')with|true=>YC g op ik m n k|false=>none
 |.e .u8 m,.e .u8 n=>WU op m n k
 |.e .tx m,.e .tx n=>WZ g op m n k
 |.e .bo m,.e .bo n=>match P.underlying xt with
   |some .bool=>aJ2 op m n k
   |_=>none
 |_,_=>none
def X5(P:Program)(t:TypeId)(op:BinOp)(v w:X)(y:Operand):Option Bool:=match v with
 |.v .nilIface=>match w,y,P.underlying t with
   |.v .nilIface,.const _,some (.interface _)=>(match op with|.eql=>some true|.neq=>some false|_=>none)
   |_,_,_=>none
 |.via _ (j+2)=>match w,y,P.underlying t with
   |.v .nilIface,.const _,some (.interface _)=>(match op with|.eql=>some (decide (j=1))|.neq=>some (decide (j≠1))|_=>none)
   |_,_,_=>none
 |_=>none
def Wm(P:Program)(t:TypeId)(op:BinOp)(v w:X)(y:Operand)(k:X->O)(els:O):O:=match w,y,P.underlying t with
 |.bW,.const _,some (.slice _)=>match v with
   |.bW=>(match op with|.eql=>k (.e .bo true)|.neq=>k (.e .bo false)|_=>els)
   |.e (.sl _) l=>ck (decide (0<dR l)) (match op with|.eql=>k (.e .bo false)|.neq=>k (.e .bo true)|_=>none)
   |_=>els
 |_,_,_=>els
def asInt(x:X)(k:Int->O):O:=match x with
 |.e (.i _) n=>k n
 |.e .u8 c=>k (wM c:Int)
 |_=>none
def Vw.nA(σ:Vw):Option Operand->(Option Int->O)->O
 |none,f=>f none
 |some x,f=>ob (σ.ev x) λw=>asInt w λn=>f (some n)
def aGm(m:Int)(k:X->O):O:=ck (decide (0<=m/\m<128)) (k (.e .tx ([kP m]:List UInt8)))
def Nt(P:Program)(s d:TypeId)(x:X)(k:X->O):O:=match P.underlying s,P.underlying d,x with
 |some _,some (.int .u8),.e (.i _) m=>k (.e .u8 (kP m))
 |some _,some (.int .u8),.e .u8 c=>k (.e .u8 c)
 |some _,some (.int kd),.e (.i _) m=>k (.e (.i kd) (kd.wrap m))
 |some _,some (.int kd),.e .u8 c=>k (.e (.i kd) (kd.wrap (wM c:Int)))
 |some _,some .string,.e (.i _) m=>aGm m k
 |_,_,_=>none
def rH{α:Type}:Nat->List α->List α
 |0,l=>l
 |_+1,[]=>[]
 |n+1,_::l=>rH n l
def pZ{α:Type}:Nat->List α->List α
 |0,_=>[]
 |_+1,[]=>[]
 |n+1,x::l=>x::pZ n l
def rC{α:Type}:List α->Nat->List α->List α
 |l,0,[]=>l
 |_::l,0,y::new=>y::rC l 0 new
 |[],_,_=>[]
 |x::l,n+1,new=>x::rC l n new
def Xp(c:Cx)(σ:Vw)(t:TypeId)(a:X)(k:X->O):O:=match kF c.P t,fP c.P t with
 |some rw,some m=>match a with
   |.ref q off=>match σ.H q with
     |some (.box _ xs)=>match rw with
       |true=>match aY (pZ m (rH off xs)).length m with|true=>k (.agg (pZ m (rH off xs)))|false=>none
       |false=>ob xs[off]? k
     |_=>none
   |.rr q i j s=>match σ.H q with
     |some (.row _ τ l _)=>match aY s τ.size with
       |true=>gn l i λy=>pL τ y j m λτ' y'=>match rw,τ'.one with
         |true,false=>k (.agg (zA τ' y'))
         |false,true=>k (.e τ' y')
         |_,_=>none
       |false=>none
     |some (.nest _ _ _ l)=>match rw,aY j 0&&aY s 1 with
       |false,true=>gn l i λ_=>k (.sub q i)
       |_,_=>none
     |some (.bC _ _ _ ρ l ln)=>match aY s (ρ.size+1)with
       |true=>match aY j ρ.size with
         |true=>match rw,ln with
           |false,some (i',q')=>ck (decide (i=i'.toNat)) (gn l i λ_=>k (.own q'))
           |_,_=>none
         |false=>gn l i λy=>pL ρ y.1 j m λτ' y'=>match rw,τ'.one with
           |true,false=>k (.agg (zA τ' y'))
           |false,true=>k (.e τ' y')
           |_,_=>none
       |false=>none
     |_=>none
   |.jE q i j=>match σ.H q with
     |some (.nest _ _ τ l)=>match rw,τ.one with
       |false,true=>gn l i λr=>gn r j λy=>k (.e τ y)
       |_,_=>none
     |_=>none
   |.pt τ y j=>pL τ y j m λτ' y'=>match rw,τ'.one with
     |true,false=>k (.agg (zA τ' y'))
     |false,true=>k (.e τ' y')
     |_,_=>none
   |_=>none
 |_,_=>none
def W0(c:Cx)(σ:Vw)(t:TypeId)(a y:X)(k:X->Wx->O):O:=match fP c.P t with
 |some m=>match aY y.cells.length m&&oB 0 m with
   |true=>match a with
     |.ref q off=>match σ.H q with
       |some (.box e xs)=>match qM (off+m) xs.length with
         |true=>k (.aS []) [(q,some (.box e (rC xs off y.cells)))]
         |false=>none
       |_=>none
     |.rr q i j s=>match σ.H q with
       |some (.row e τ l false)=>match aY s τ.size with
         |true=>gn l i λz=>setAt τ z j m (σ.nW y).cells λz'=>k (.aS []) [(q,some (.row e τ (l.set i z') false))]
         |false=>none
       |some (.bC e e' κ ρ l ln)=>match aY s (ρ.size+1)&&aY m 1 with
         |true=>match aY j ρ.size with
           |true=>match y,ln with
             |.own q',some (i',_)=>ck (decide (i=i'.toNat)) (gn l i λ_=>k (.aS []) [(q,some (.bC e e' κ ρ l (some (i',q'))))])
             |_,_=>none
           |false=>match y with
             |.agg _=>none
             |y=>gn l i λz=>setAt ρ z.1 j m (σ.nW y).cells λz'=>k (.aS []) [(q,some (.bC e e' κ ρ (l.set i (z',z.2)) ln))]
         |false=>none
       |_=>none
     |.jE q i j=>match σ.H q with
       |some (.nest e e' τ l)=>match y with
         |.e τ' z=>match eV τ' τ with
           |some ⟨h⟩=>match τ.one with
             |true=>gn l i λr=>gn r j λ_=>k (.aS []) [(q,some (.nest e e' τ (l.set i (r.set j (j6 h z)))))]
             |false=>none
           |none=>none
         |_=>none
       |_=>none
     |_=>none
   |false=>none
 |none=>none
def iE{α:Type}(l:List α)(lo hi:Option Int):List α:=match lo,hi with
 |none,none=>l
 |some a,none=>l.drop a.toNat
 |none,some b=>l.take b.toNat
 |some a,some b=>(l.take b.toNat).drop a.toNat
def iX(n:Nat)(lo hi:Option Int):Bool:=match lo,hi with
 |none,none=>true
 |some a,none=>decide (0<=a/\a<=n)
 |none,some b=>decide (0<=b/\b<=n)
 |some a,some b=>decide (0<=a/\a<=b/\b<=n)
def Wi(τ:Ty)(g:Option Bool)(l:List τ.V)(lo hi:Option Int)(k:X->O):O:=nF g (iX l.length lo hi) (k (.e (.sl τ) (iE l lo hi)))
def aGb(g:Option Bool)(l:List UInt8)(lo hi:Option Int)(k:X->O):O:=nF g (iX l.length lo hi) (k (.e .tx (iE l lo hi)))
def p6(τ:Ty):Nat->(σ:Ty)->σ.V->Option (List τ.V)
 |0,_,_=>none
 |1,σ,y=>match eV σ τ with|some ⟨h⟩=>some [j6 h y]|none=>none
 |n+2,.pr a b,y=>match eV a τ with
   |some ⟨h⟩=>match p6 τ (n+1) b y.2 with|some l=>some (j6 h y.1::l)|none=>none
   |none=>none
 |_+2,_,_=>none
def Wl(c:Cx)(t:TypeId)(a:X)(k:X->O):O:=match c.P.underlying t with
 |some (.array n e)=>match a with
   |.pt σ y 0=>match c.ty e with
     |some τ=>match fP c.P e with
       |some m=>match aY m τ.size with
         |true=>match p6 τ n σ y with
           |some l=>match aY l.length n with|true=>k (.e (.sl τ) l)|false=>none
           |none=>none
         |false=>none
       |none=>none
     |none=>none
   |_=>none
 |_=>none
def MV(c:Cx)(σ:Vw)(t:TypeId)(a:X)(lo hi:Option Int)(k:X->O):O:=match c.P.underlying t,σ.kI a with
 |some (.slice e),.e (.sl τ) l=>match fP c.P e with
   |some m=>match aY m τ.size with|true=>Wi τ (σ.g.map (·.2)) l lo hi k|false=>none
   |none=>none
 |some .string,.e .tx l=>aGb (σ.g.map (·.2)) l lo hi k
 |_,_=>none
def cL:Option Int->Nat
 |none=>0
 |some a=>a.toNat
def eA(n:Nat):Option Int->Nat
 |none=>n
 |some b=>b.toNat
def Wk(c:Cx)(σ:Vw)(t:TypeId)(q:Nat)(τ:Ty)(l:List τ.V)(lo hi:Option Int)(k:X->Wx->O):O:=match c.P.underlying t with
 |some (.slice e)=>match fP c.P e with
   |some m=>match aY m τ.size&&oB 0 m with
     |true=>nF (σ.g.map (·.2)) (iX l.length lo hi) (k (.vw q (cL lo) (eA l.length hi-cL lo) m) [])
     |false=>none
   |none=>none
 |_=>none
def Ns(c:Cx)(t:TypeId)(q i n:Nat)(e:TypeId)(τ:Ty)(l src:List τ.V)(k:X->Wx->O):O:=match(Iw c.P t).bind (fP c.P)with
 |some 1=>match aY τ.size 1 with
   |true=>ck (decide (i+n<=l.length)) (k (.e (.i .i64) ((min src.length n:Nat):Int)) [(q,some (.row e τ (l.take i++src.take n++l.drop (i+min src.length n)) false))])
   |false=>none
 |_=>none
def JD(σ:Vw)(τ:Ty)(w:X)(k:List τ.V->O):O:=match w with
 |.vw q i n s=>match σ.H q with
   |some (.row _ τ' l _)=>match eV τ' τ with
     |some ⟨h⟩=>match aY s τ.size with
       |true=>ck (decide (i+n<=l.length)) (k (((j6 (aR Ty.sl h) l:List τ.V).drop i).take n))
       |false=>none
     |none=>none
   |_=>none
 |w=>ob (σ.src τ w) k
def Yt(c:Cx)(σ:Vw)(t:TypeId)(v w:X)(k:X->Wx->O):O:=match v with
 |.own q=>match σ.H q with
   |some (.row e τ l false)=>JD σ τ w λsrc=>Ns c t q 0 l.length e τ l src k
   |_=>none
 |.vw q i n s=>match σ.H q with
   |some (.row e τ l false)=>match aY s 1 with
     |true=>JD σ τ w λsrc=>Ns c t q i n e τ l src k
     |false=>none
   |_=>none
 |_=>none
def XD:X->Option (Nat×Nat×Nat)
 |.vw q i n s=>match aY i 0 with|true=>some (q,n,s)|false=>none
 |_=>none
def ZT(σ:Vw)(e:TypeId)(τ:Ty)(bt fr:Nat)(p:Nat×Nat×Nat)(w:X)(k:X->Wx->O):O:=match σ.H p.1 with
 |some (.row e' τ' l false)=>match eV τ' τ with
   |some ⟨h⟩=>match aY e' e&&(aY p.2.2 1&&aY τ.size 1)with
     |true=>ck (decide (p.2.1<=l.length)) (JD σ τ w λsrc=>ck (bE (p.2.1+src.length) bt) (k (.own fr) [(fr,some (.row e τ ((j6 (aR Ty.sl h) l:List τ.V).take p.2.1++src) false)),(p.1,none)]))
     |false=>none
   |none=>none
 |_=>none
def X.val:X->Bool
 |.e τ _=>τ.one
 |.aS _=>false
 |.eX ..=>false
 |.bit ..=>false
 |.kQ _=>false
 |.ag ..=>false
 |_=>true
def NP(τ:Ty):List X->Option (List τ.V)
 |[]=>some []
 |x::r=>match one? τ x with
   |some y=>match NP τ r with|some l=>some (y::l)|none=>none
   |none=>none
def YG(c:Cx)(σ:Vw)(t:TypeId)(a:X)(x:X)(k:X->O):O:=asInt x λn=>match a with
 |.e (.sl τ) l=>match uX c.P t with
   |some s=>match aY s τ.size with
     |true=>wE (σ.g.map (·.2)) τ l n λy=>k (.pt τ y 0)
     |false=>none
   |none=>none
 |.own q=>match σ.H q,uX c.P t with
   |some (.row _ τ l st),some s=>match aY s τ.size with
     |true=>match st with
       |true=>wE (σ.g.map (·.2)) τ l n λy=>k (.pt τ y 0)
       |false=>nF (σ.g.map (·.2)) (decide (0<=n/\n<l.length)) (k (.rr q n.toNat 0 s))
     |false=>none
   |some (.nest _ _ _ l),some s=>match aY s 1 with
     |true=>ck (decide (0<=n/\n<l.length)) (k (.rr q n.toNat 0 s))
     |false=>none
   |some (.bC _ _ _ ρ l _),some s=>match aY s (ρ.size+1)with
     |true=>nF (σ.g.map (·.2)) (decide (0<=n/\n<dR l)) (k (.rr q n.toNat 0 s))
     |false=>none
   |_,_=>none
 |.sub q i=>match σ.H q,uX c.P t with
   |some (.nest _ _ _ l),some s=>match aY s 1 with
     |true=>gn l i λr=>ck (decide (0<=n/\n<r.length)) (k (.jE q i n.toNat))
     |false=>none
   |_,_=>none
 |.ref q off=>match u0 c.P t with
   |some (m,s)=>match decide (0<=n/\n<m)with
     |true=>k (.ref q (off+n.toNat*s))
     |false=>none
   |none=>none
 |.pt ρ y 0=>match c.P.underlying t,u0 c.P t with
   |some (.array _ e),some (m,s)=>match c.ty e with
     |some τ=>match p6 τ m ρ y with
       |some l=>match aY s τ.size&&aY l.length m with
         |true=>wE (σ.g.map (·.2)) τ l n λy=>k (.pt τ y 0)
         |false=>none
       |none=>none
     |none=>none
   |_,_=>none
 |_=>none
def YE(c:Cx)(t:TypeId)(g:Option Bool)(a:X)(x:X)(k:X->O):O:=asInt x λn=>match c.P.underlying t,a with
 |some .string,.e .tx l=>wE g .u8 l n λc=>k (.e .u8 c)
 |some (.array m e),.agg (.e τ y::r)=>match τ.one&&aY m (r.length+1),kF c.P e,fP c.P e with
   |true,some false,some 1=>ob (NP τ (.e τ y::r)) λl=>wE g τ l n λy=>k (.e τ y)
   |_,_,_=>none
 |_,_=>none
def YF(c:Cx)(σ:Vw)(t:TypeId)(a:X)(x:X)(k:X->O):O:=asInt x λn=>match a with
 |.ref q off=>match u0 c.P t with
   |some (m,s)=>nF (σ.g.map (·.2)) (decide (0<=n/\n<m)) (k (.ref q (off+n.toNat*s)))
   |none=>none
 |_=>none
def Ii(τ:Ty):List X->Option (List τ.V)
 |[]=>some []
 |.e τ' x::r=>match eV τ' τ with
   |some ⟨h⟩=>match Ii τ r with|some l=>some (j6 h x::l)|none=>none
   |none=>none
 |_::_=>none
def X.pl:X->Bool
 |.bit ..=>false
 |.eX ..=>false
 |_=>true
def xL(n len:Nat)(k:X->O):Nat->List X->O
 |_,[]=>ck (decide (n<len)) (k .bW)
 |i,x::r=>match x with
   |.bW=>xL n len k (i+1) r
   |.own _=>ck (!decide (n=i)) (xL n len k (i+1) r)
   |x=>match x.pl with
     |true=>br (decide (n=i)) (k x) (xL n len k (i+1) r)
     |false=>none
def Xq(c:Cx)(σ:Vw)(t:TypeId)(a:X)(k:X->O):O:=match kF c.P t,a with
 |some false,.ref q off=>match σ.H q with
   |some (.box _ (.e τ y::xs))=>match τ.one with
     |true=>ob (Ii τ (.e τ y::xs)) λl=>wE (σ.g.map (·.2)) τ l (off:Int) λy=>k (.e τ y)
     |false=>none
   |some (.box _ (.bW::xs))=>xL off (xs.length+1) k 0 (.bW::xs)
   |_=>none
 |_,_=>none
def Wo{α:Type}(b:Bool)(x y:α):α:=match b with|true=>x|false=>y
def xQ(τ:Ty)(off:Nat)(z:τ.V):Nat->List τ.V->List X
 |_,[]=>[]
 |i,y::l=>.e τ (Wo (aY off i) z y)::xQ τ off z (i+1) l
def W3(c:Cx)(σ:Vw)(t:TypeId)(a y:X)(k:X->Wx->O):O:=match fP c.P t,a,y with
 |some 1,.ref q off,.e τ z=>match τ.one with
   |true=>match σ.H q with
     |some (.box e xs)=>ob (Ii τ xs) λl=>ck (decide (off<l.length)) (k (.aS []) [(q,some (.box e (xQ τ off z 0 l)))])
     |_=>none
   |false=>none
 |_,_,_=>none
def Ys(c:Cx)(σ:Vw)(fr:Nat)(t:TypeId)(q:Nat)(hi:Option Int)(k:X->Wx->O):O:=match c.P.underlying t,σ.H q,hi with
 |some (.slice e),some (.row e' τ l false),some n=>match fP c.P e with
   |some m=>match aY m τ.size with
     |true=>ck (decide (0<=n/\n<=l.length)) (k (.own fr) [(fr,some (.row e' τ (l.take n.toNat) false)),(q,none)])
     |false=>none
   |none=>none
 |_,_,_=>none
def Bp:Option Int->Bool
 |none=>true
 |some n=>decide (n=0)
def Yd(c:Cx)(s:TypeId)(f:Nat)(a:X)(k:X->O):O:=ob (It c.P s f) λq=>match a with
 |.ref p off=>k (.ref p (off+q))
 |.rr p i j z=>k (.rr p i (j+q) z)
 |.pt τ y j=>k (.pt τ y (j+q))
 |_=>none
def Yc(c:Cx)(s:TypeId)(f:Nat)(a:X)(k:X->O):O:=match c.P.underlying s,a with
 |some (.struct fs),.agg xs=>match fs[f]? with
   |some fl=>match kF c.P fl.type,fP c.P fl.type with
     |some rw,some m=>match rw with
       |true=>match aY (pZ m (rH fl.offset xs)).length m with|true=>k (.agg (pZ m (rH fl.offset xs)))|false=>none
       |false=>ob xs[fl.offset]? k
     |_,_=>none
   |none=>none
 |_,_=>none
def vK(P:Program)(t:TypeId):Option X:=match(P.info? t).bind (·.zero)with|some z=>uM z|none=>none
def places(P:Program)(t:TypeId):Option (List (Nat×Nat)):=match P.underlying t with
 |some (.struct fs)=>yE (λf=>match fP P f.type with|some m=>some (f.offset,m)|none=>none) fs.toList
 |some (.array n e)=>match fP P e with|some m=>some ((lR n).map λi=>(i*m,m))|none=>none
 |_=>none
def Is(pl:List (Nat×Nat)):List X->List (Nat×X)->(List X->O)->O
 |cells,[],k=>k cells
 |cells,(i,x)::rest,k=>match pl[i]? with
   |some (off,m)=>match x.val&&aY x.cells.length m&&qM (off+m) cells.length with
     |true=>Is pl (rC cells off x.cells) rest k
     |false=>none
   |none=>none
def Vw.BS(σ:Vw):List (Nat×Operand)->(List (Nat×X)->O)->O
 |[],k=>k []
 |(i,x)::l,k=>ob (σ.ev x) λy=>σ.BS l λys=>k ((i,y)::ys)
def jG{α:Type}(x:α):Nat->List α->List α
 |_,[]=>[]
 |0,_::l=>x::l
 |n+1,y::l=>y::jG x n l
def Bq(τ:Ty)(v:Value):Bool:=match τ with
 |.i k=>match v with|.int k' n=>decide (k=k')&&decide (n=0)|_=>false
 |.u8=>match v with|.int .u8 n=>decide (n=0)|_=>false
 |.bo=>match v with|.bool false=>true|_=>false
 |.tx=>match v with|.string s=>(match s.data.toList with|[]=>true|_=>false)|_=>false
 |.sl _=>match v with|.slice none 0 0=>true|_=>false
 |_=>false
def tK(τ:Ty):List Value->Option (List Value)
 |x::r=>match Bq τ x with|true=>some r|false=>none
 |[]=>none
def Br:Ty->List Value->Option (List Value)
 |.pr a b,l=>match Br a l with|some l'=>Br b l'|none=>none
 |.ex,l=>match tK (.i .i64) l with
   |some l=>match tK (.i .i64) l with
     |some l=>tK (.sl .ex) l
     |none=>none
   |none=>none
 |.un,l=>some l
 |.i k,l=>tK (.i k) l
 |.u8,l=>tK .u8 l
 |.bo,l=>tK .bo l
 |.tx,l=>tK .tx l
 |.sl e,l=>tK (.sl e) l
def mJ(c:Cx)(t:TypeId):Option (TypeId×Ty×Nat):=match Iw c.P t with
 |some e=>match c.ty e,c.P.info? e with
   |some τ,some i=>match i.zero with
     |some z=>match Br τ z.cells.toList with
       |some []=>match aY i.size τ.size&&(aY z.cells.size τ.size&&oB 0 τ.size)with|true=>some (e,τ,i.bytes)|false=>none
       |_=>none
     |none=>none
   |_,_=>none
 |none=>none
def YP(τ:Ty)(e:TypeId)(fr bt q:Nat)(st:Bool)(l:List τ.V)(z:Int)(k:X->Wx->O):O:=ck (decide (0<=z)) (ck (bE (l.length+z.toNat) bt) (k (.own fr) [(fr,some (.row e τ (l++cI z.toNat τ.zero) st)),(q,none)]))
def JL(P:Program)(e:TypeId):Bool:=match P.info? e with
 |some i=>match i.zero with
   |some (.int .u8 (.ofNat 0))=>aY i.size 1&&aY i.bytes 1
   |_=>false
 |none=>false
def YQ(e:TypeId)(fr q:Nat)(st:Bool)(l s:List UInt8)(k:X->Wx->O):O:=ck (bE (l.length+s.length) 1) (k (.own fr) [(fr,some (.row e .u8 (l++s) st)),(q,none)])
def ZR(c:Cx)(σ:Vw)(fr:Nat)(st:Bool)(t t':TypeId)(x y:Operand)(k:X->Wx->O):O:=ob (mJ c t) λp=>match p with
 |(e,τ,bt)=>ob (σ.ev x) λv=>ob (σ.ev y) λw=>match v,w,c.P.underlying t' with
   |.bW,.e (.i .i64) n,some (.int .i64)=>If τ e fr bt st n k
   |.own q,.e (.i .i64) n,some (.int .i64)=>match σ.H q with
     |some (.row e' τ' l st')=>match eV τ' τ with
       |some ⟨h⟩=>match aY e' e with
         |true=>YP τ e fr bt q st' (j6 (aR Ty.sl h) l) n k
         |false=>none
       |none=>none
     |_=>none
   |.bW,.e .tx s,some .string=>match JL c.P e with
     |true=>ck (bE (dR (α:=UInt8) s) 1) (k (.own fr) [(fr,some (.row e .u8 s st))])
     |false=>none
   |.own q,.e .tx s,some .string=>match σ.H q with
     |some (.row e' .u8 l st')=>match aY e' e&&JL c.P e with
       |true=>YQ e fr q st' l s k
       |false=>none
     |_=>none
   |_,_,_=>none
def Ih(τ:Ty)(σ:Vw):List τ.V->List (Nat×X)->(List τ.V->O)->O
 |l,[],k=>k l
 |l,(i,x)::rest,k=>match oB i l.length with
   |true=>ob (xJ τ (σ.nW x)) λy=>Ih τ σ (jG y i l) rest k
   |false=>none
def ins(k:Nat):List Nat->List Nat
 |[]=>[k]
 |x::l=>match aY x k with|true=>x::l|false=>x::ins k l
mutual
def X8:X->List Nat->List Nat
 |.own q,acc=>ins q acc
 |.ref q _,acc=>ins q acc
 |.rr q _ _ _,acc=>ins q acc
 |.sub q _,acc=>ins q acc
 |.jE q _ _,acc=>ins q acc
 |.vw q _ _ _,acc=>ins q acc
 |.via q _,acc=>ins q acc
 |.jI q _,acc=>ins q acc
 |.agg xs,acc=>nT xs acc
 |.aS xs,acc=>nT xs acc
 |.fn _ xs,acc=>nT xs acc
 |_,acc=>acc
def nT:List X->List Nat->List Nat
 |[],acc=>acc
 |x::l,acc=>nT l (X8 x acc)
end
def aHx{α:Type}:List (α×X)->List Nat->List Nat
 |[],acc=>acc
 |(_,x)::l,acc=>aHx l (X8 x acc)
def a3s:XO->List Nat->List Nat
 |.box _ xs,acc=>nT xs acc
 |.row ..,acc=>acc
 |.nest ..,acc=>acc
 |.mp _ l,acc=>aHx l acc
 |.it ..,acc=>acc
 |.arr ..,acc=>acc
 |.bC _ _ _ _ _ ln,acc=>match ln with|some (_,q)=>ins q acc|none=>acc
def reach(H:Nat->Option XO):Nat->List Nat->List Nat->List Nat
 |0,_,acc=>acc
 |_+1,[],acc=>acc
 |n+1,q::todo,acc=>match H q with
   |some o=>reach H n (todo++(a3s o []).filter λx=>!(acc.contains x)&&!(todo.contains x)&&!(aY x q)) (acc++[q])
   |none=>reach H n todo (acc++[q])
def old(rn:List (Nat×Nat))(k:Nat):Option Nat:=match rn with
 |[]=>none
 |(new,o)::l=>match aY o k with|true=>some new|false=>old l k
mutual
def gX(f:Nat->Option Nat):X->Option X
 |.own q=>match f q with|some q'=>some (.own q')|none=>none
 |.ref q off=>match f q with|some q'=>some (.ref q' off)|none=>none
 |.rr q i j s=>match f q with|some q'=>some (.rr q' i j s)|none=>none
 |.agg xs=>match q9 f xs with|some ys=>some (.agg ys)|none=>none
 |.aS xs=>match q9 f xs with|some ys=>some (.aS ys)|none=>none
 |.fn g xs=>match q9 f xs with|some ys=>some (.fn g ys)|none=>none
 |.e τ x=>some (.e τ x)
 |.bW=>some .bW
 |.pt τ y j=>some (.pt τ y j)
 |.v w=>some (.v w)
 |.bit ..=>none
 |.eX ..=>none
 |.sub ..=>none
 |.jE ..=>none
 |.vw ..=>none
 |.via q j=>match f q with|some q'=>some (.via q' j)|none=>none
 |.jI q j=>match f q with|some q'=>some (.jI q' j)|none=>none
 |.ag τ l=>some (.ag τ l)
 |.kQ ..=>none
def q9(f:Nat->Option Nat):List X->Option (List X)
 |[]=>some []
 |x::l=>match gX f x with
   |some y=>match q9 f l with|some r=>some (y::r)|none=>none
   |none=>none
end
def Me{α:Type}(f:Nat->Option Nat):List (α×X)->Option (List (α×X))
 |[]=>some []
 |(a,x)::l=>match gX f x with
   |some y=>match Me f l with|some r=>some ((a,y)::r)|none=>none
   |none=>none
def sD(f:Nat->Option Nat):XO->Option XO
 |.nest e e' τ l=>some (.nest e e' τ l)
 |.mp τ l=>match Me f l with|some r=>some (.mp τ r)|none=>none
 |.it s pos=>some (.it s pos)
 |.arr e τ l=>some (.arr e τ l)
 |.box e xs=>match q9 f xs with|some ys=>some (.box e ys)|none=>none
 |.row e τ l st=>some (.row e τ l st)
 |.bC e e' κ ρ l ln=>match ln with
   |none=>some (.bC e e' κ ρ l none)
   |some (i,q)=>match f q with|some q'=>some (.bC e e' κ ρ l (some (i,q')))|none=>none
def sE(f:Nat->Option Nat)(H:Nat->Option XO):List (Nat×Nat)->Option XH
 |[]=>some []
 |(new,q)::l=>match H q with
   |some o=>match sD f o with
     |some o'=>match sE f H l with|some r=>some ((new,o')::r)|none=>none
     |none=>none
   |none=>none
def X0:Nat->List Nat->List (Nat×Nat)
 |_,[]=>[]
 |n,k::l=>(n,k)::X0 (n+1) l
def canon(c:Cx)(σ:Vw)(t:TypeId)(x:X):X:=match c.ty t with
 |some τ=>match xJ τ (σ.nW x)with
   |some y=>uC τ y
   |none=>σ.nW x
 |none=>x
def JI(c:Cx)(σ:Vw):List TypeId->List X->List X
 |t::ts,x::xs=>canon c σ t x::JI c σ ts xs
 |_,xs=>xs
def B5(fr:Nat)(rb:List (Nat×Nat))(k:Nat):Option Nat:=match qM 100 k with
 |true=>match oB k 108 with|true=>some (fr+(k-100))|false=>none
 |false=>lk k rb
def zG(f:Nat->Option Nat):XH->Option Wx
 |[]=>some []
 |(k,o)::l=>match f k with
   |some k'=>match sD f o with
     |some o'=>match zG f l with|some r=>some ((k',some o')::r)|none=>none
     |none=>none
   |none=>none
def gone(H':XH):List (Nat×Nat)->Wx
 |[]=>[]
 |(new,q)::l=>match lk new H' with|some _=>gone H' l|none=>(q,none)::gone H' l
def nodupB:List Nat->Bool
 |[]=>true
 |k::l=>match l.contains k with|true=>false|false=>nodupB l
def Wz(fr:Nat)(rn:List (Nat×Nat)):Bool:=rn.all (λp=>qM 50 p.1&&oB p.1 100&&(oB p.2 fr||qM (fr+8) p.2)&&(match lk p.1 rn with |some q=>aY q p.2 |none=>false))&&nodupB (rn.map (·.2))
def JJ(σ:Vw)(fr:Nat)(g:oE)(ys:List X)(els:O)(k:X->Wx->O):O:=match X0 50 (reach σ.H 40 (nT ys []) [])with
 |rn=>match Wz fr rn with
   |false=>els
   |true=>match q9 (old rn) ys with
     |none=>els
     |some zs=>match sE (old rn) σ.H rn with
       |none=>els
       |some H=>match g zs H with
         |some cl=>Yy (σ.g.map (·.2)) cl.z cl.d λa=>match nodupB ((cl.R a).2.map (·.1))with
           |true=>ob (gX (B5 fr rn) (cl.R a).1) λx=>ob (zG (B5 fr rn) (cl.R a).2) λW=>k x (W++gone (cl.R a).2 rn)
           |false=>none
         |none=>els
def uY(c:Cx)(σ:Vw)(fr:Nat)(f:FuncId)(xs:List X)(k:X->Wx->O):O:=
 ob (lk f c.G) λg=>ob c.P.funcs[f]? λfn=>match fn.body with
  |none=>none
  |some _=>JJ σ fr g (JI c σ fn.params.toList xs) (JJ σ fr g xs none k) k
def Dt(P:Program)(te:TypeId)(name:String):Option (FuncId×Nat):=match P.info? te with
 |none=>none
 |some ti=>match ti.methods.toList.find? (λm=>m.name == name)with
   |none=>none
   |some m=>match m.func with
     |some (f,true)=>match m.path.toList with
       |[]=>match P.underlying te with
         |some (.pointer _)=>some (f,0)
         |_=>none
       |[s]=>match s.deref,P.underlying s.struct with
         |true,some (.struct fs)=>match fs[s.index]? with
           |some fl=>match P.underlying fl.type,P.info? fl.type with
             |some (.struct _),some ti'=>match ti'.size with
               |0=>none
               |_=>some (f,fl.offset)
             |_,_=>none
           |none=>none
         |_,_=>none
       |_=>none
     |_=>none
def Ib(σ:Vw)(n:Nat):List (Nat×Operand)->Option (Nat×TypeId×(τ:Ty)×List τ.V)
 |[(0,x)]=>match aY n 1 with
   |true=>match σ.ev x with
     |some (.own q)=>match σ.H q with
       |some (.row e τ l false)=>some (q,e,⟨τ,l⟩)
       |_=>none
     |_=>none
   |false=>none
 |_=>none
def Ia(σ:Vw):X->Option (Nat×TypeId×TypeId×(τ:Ty)×List (List τ.V))
 |.own q=>match σ.H q with
   |some (.nest e e' τ l)=>some (q,e,e',⟨τ,l⟩)
   |_=>none
 |_=>none
def a7Y{a b:Ty}(h:a=b)(l:List (List a.V)):List (List b.V):=h ▸ l
def ZW(σ:Vw)(e:TypeId)(fr bt:Nat)(v:X)(q:Nat)(e1 e1':TypeId)(τ:Ty)(l':List (List τ.V))(k:X->Wx->O):O:=match aY e1 e with
 |true=>match v with
   |.bW=>ck (bE l'.length bt) (k (.own fr) [(fr,some (.nest e e1' τ l')),(q,none)])
   |v=>match Ia σ v with
     |some (q0,e0,e0',⟨τ0,l⟩)=>match eV τ0 τ with
       |some ⟨h⟩=>match aY e0 e&&aY e0' e1'&&!(aY q0 q)with
         |true=>ck (bE (l.length+l'.length) bt) (k (.own fr) [(fr,some (.nest e e1' τ (a7Y h l++l'))),(q0,none),(q,none)])
         |false=>none
       |none=>none
     |none=>none
 |false=>none
def Ij:List X->Option (List X×Nat)
 |[]=>none
 |x::l=>match l with
   |[]=>match x with
     |.own q=>some ([],q)
     |_=>none
   |_::_=>match Ij l with
     |some (r,q)=>some (x::r,q)
     |none=>none
def X1(σ:Vw)(n:Nat):List (Nat×Operand)->Option (Nat×TypeId×((κ:Ty)×List κ.V)×List X)
 |[(0,x)]=>match aY n 1 with
   |true=>match σ.ev x with
     |some (.agg xs)=>match Ij xs with
       |some (ys,q)=>match σ.H q with
         |some (.row e κ l false)=>some (q,e,⟨κ,l⟩,ys)
         |_=>none
       |none=>none
     |_=>none
   |false=>none
 |_=>none
def Xs(σ:Vw)(fr:Nat)(e e':TypeId)(q:Nat)(κ:Ty)(l:List κ.V)(ys:List X)(k:X->Wx->O):Ty->O
 |.pr ρ (.sl κ')=>match eV κ κ' with
   |some _=>match qM (ρ.size+1) 16777216 with
     |true=>match wD ρ (ys.map σ.kI)with
       |some r=>k (.own fr) [(fr,some (.bC e e' κ ρ [(r,l)] none)),(q,none)]
       |none=>none
     |false=>none
   |none=>none
 |_=>none
def I8(σ:Vw):X->Option (Nat×TypeId×TypeId×(κ:Ty)×(ρ:Ty)×List (ρ.V×List κ.V))
 |.own q=>match σ.H q with
   |some (.bC e e' κ ρ l none)=>some (q,e,e',⟨κ,ρ,l⟩)
   |_=>none
 |_=>none
def a7X{κ κ' ρ ρ':Ty}(h:κ=κ')(g:ρ=ρ')(l:List (ρ.V×List κ.V)):List (ρ'.V×List κ'.V):=h ▸ g ▸ l
def X2:Ty->Option (Ty×Ty)
 |.pr ρ (.sl κ)=>some (κ,ρ)
 |.sl κ=>some (κ,.un)
 |_=>none
def ZV(σ:Vw)(e:TypeId)(fr bt:Nat)(v:X)(q:Nat)(e1 e1':TypeId)(κ ρ:Ty)(l':List (ρ.V×List κ.V))(k:X->Wx->O)(τ0:Ty):O:=match X2 τ0 with
 |some (κ1,ρ1)=>match eV κ1 κ with
   |some _=>match eV ρ1 ρ with
     |some _=>match aY e1 e with
       |true=>match v with
         |.bW=>ck (bE (dR l') bt) (k (.own fr) [(fr,some (.bC e e1' κ ρ l' none)),(q,none)])
         |v=>match I8 σ v with
           |some (q0,e0,e0',⟨κ0,ρ0,l⟩)=>match eV κ0 κ with
             |some ⟨h⟩=>match eV ρ0 ρ with
               |some ⟨g⟩=>match aY e0 e&&aY e0' e1'&&!(aY q0 q)with
                 |true=>ck (bE (dR l+dR l') bt) (k (.own fr) [(fr,some (.bC e e1' κ ρ (a7X h g l++l') none)),(q0,none),(q,none)])
                 |false=>none
               |none=>none
             |none=>none
           |none=>none
       |false=>none
     |none=>none
   |none=>none
 |_=>none
def yZ(a b:Int):Bool:=decide (a=b)
def JB(a b:UInt8):Bool:=decide (a=b)
def Nr(a b:List UInt8):Bool:=decide (a=b)
def JC(a b:Bool):Bool:=decide (a=b)
def Dx:(τ:Ty)->τ.V->τ.V->Bool
 |.i _,a,b=>yZ a b
 |.u8,a,b=>JB a b
 |.tx,a,b=>Nr a b
 |.bo,a,b=>JC a b
 |_,_,_=>false
def Dw:TypeDesc->Ty->Bool
 |.int k,.i k'=>decide (k=k')
 |.int .u8,.u8=>true
 |.string,.tx=>true
 |.bool,.bo=>true
 |_,_=>false
def NV(τ:Ty)(x:X)(k:τ.V->O):O:=match x with
 |.e τ' y=>match eV τ' τ with|some ⟨h⟩=>k (j6 h y)|none=>none
 |_=>none
def Xc(c:Cx)(σ:Vw)(kt:TypeId)(a b v:X)(k:X->Wx->O):O:=match c.P.underlying kt,a with
 |some d,.own q=>match σ.H q with
   |some (.mp τ l)=>match Dw d τ&&v.val with
     |true=>NV τ b λx=>ck (l.all λp=>!(Dx τ p.1 x)) (k (.aS []) [(q,some (.mp τ (l++[(x,v)])))])
     |false=>none
   |_=>none
 |_,_=>none
def XY(cm:Bool)(x:X)(b:Bool):X:=match cm with|true=>.aS [x,.e .bo b]|false=>x
def Xo(τ:Ty)(x:τ.V)(kf:X->O)(k0:O):List (τ.V×X)->O
 |[]=>k0
 |(y,v)::r=>br (Dx τ y x) (kf v) (Xo τ x kf k0 r)
def Xd(c:Cx)(σ:Vw)(kt:TypeId)(a b z:X)(cm:Bool)(k:X->O):O:=match c.P.underlying kt,a with
 |some d,.own q=>match σ.H q with
   |some (.mp τ l)=>match Dw d τ with
     |true=>NV τ b λx=>Xo τ x (λv=>k (XY cm v true)) (k (XY cm z false)) l
     |false=>none
   |_=>none
 |_,_=>none
def X6(s:List UInt8)(pos:Int)(q:Nat)(k:X->Wx->O):O:=br (decide (pos<s.length))
 (gx s pos λb=>ck (decide (b.toNat<128)) (k (.aS [.e .bo true,.e (.i .i64) pos,.e (.i .i32) (b.toNat:Int)]) [(q,some (.it s (pos+1)))]))
 (k (.aS [.e .bo false]) [])
def JR{α:Type}(f:α->Option Bool):List α->Option Bool
 |[]=>some true
 |[x]=>f x
 |x::l=>match f x with
   |some a=>match JR f l with|some b=>some (a&&b)|none=>none
   |none=>none
def EP(s off:Nat)(xs ys:List X)(k:List X->List X->Option Bool):Option Bool:=
 match aY (pZ s (rH off xs)).length s&&aY (pZ s (rH off ys)).length s with
 |true=>k (pZ s (rH off xs)) (pZ s (rH off ys))
 |false=>none
def qC(P:Program):Nat->TypeId->List X->List X->Option Bool
 |0,_,_,_=>none
 |n+1,t,xs,ys=>match P.underlying t with
   |some (.int _)=>match xs,ys with
     |[.e (.i k) a],[.e (.i k') b]=>match decide (k=k')with|true=>some (yZ a b)|false=>none
     |[.e .u8 a],[.e .u8 b]=>some (JB a b)
     |_,_=>none
   |some .bool=>match xs,ys with
     |[.e .bo a],[.e .bo b]=>some (JC a b)
     |_,_=>none
   |some .string=>match xs,ys with
     |[.e .tx a],[.e .tx b]=>some (Nr a b)
     |_,_=>none
   |some (.array m e)=>match fP P e with
     |some s=>JR (λi=>EP s (i*s) xs ys (qC P n e)) (lR m)
     |none=>none
   |some (.struct fs)=>match P.stoodInHeld t with
     |true=>none
     | false => JR (fun f => match fP P f.type with | some s => (match f.name == "_" with | true => none | false => EP s f.offset xs ys (qC P n f.type)) | none => none) fs.toList
   |_=>none
def Yl(P:Program)(op:BinOp)(t:TypeId)(v w:X):Option Bool:=match v with
 |.agg xs=>match w with
   |.agg ys=>match kF P t,P.eqGuardType P.depth t with
     |some true,false=>(match op with
       |.eql=>qC P 12 t xs ys
       |.neq=>(match qC P 12 t xs ys with|some b=>some (!b)|none=>none)
       |_=>none)
     |_,_=>none
   |_=>none
 |_=>none
def Wq(c:Cx)(σ:Vw)(t:TypeId)(v:X)(k:X->Wx->O):O:=match c.P.underlying t with
 |some (.pointer _)=>match v with
   |.own q=>match σ.H q with
     |some (.row ..)=>k (.via q 1) []
     |_=>none
   |.bW=>k (.v (.pointer none)) []
   |_=>none
 |_=>none
def WQ(c:Cx)(σ:Vw)(pt:TypeId)(v w:X)(k:X->Wx->O):O:=match c.P.underlying pt with
 |some (.pointer e)=>match v,w with
   |.via q 1,.e (.i .i64) n=>match σ.H q with
     |some (.row e0 .u8 l _)=>match aY e0 e&&aY (c.P.cellsOf e) 1 with
       |true=>ck (yZ n (dR (α:=UInt8) l:Int)) (k (.e .tx l) [(q,none)])
       |false=>none
     |_=>none
   |.v (.pointer none),.e (.i .i64) n=>ck (yZ n 0) (k (.e .tx []) [])
   |_,_=>none
 |_=>none
def B2(fr:Nat):List X->List X
 |[.v (.pointer none),.bW]=>[.via fr 0,.bW]
 |l=>l
def xX(x:X)(k:X->Wx->O):O:=match x.pl with|true=>k x []|false=>none
def ZU(c:Cx)(σ:Vw)(fr:Nat)(st:Bool)(t:TypeId)(x y:Operand)(k:X->Wx->O):O:=ob (mJ c t) λp=>match p with
    |(e,τ,bt)=>ob (σ.ev x) λv=>ob (σ.ev y) λw=>match XD v with
    |some p=>ZT σ e τ bt fr p w k
    |none=>match Ia σ w with
     |some (q,e1,e1',⟨τ1,l'⟩)=>match eV τ (.sl τ1)with
      |some _=>match τ1.one with
        |true=>ZW σ e fr bt v q e1 e1' τ1 l' k
        |false=>none
      |none=>none
     |none=>match I8 σ w with
     |some (q,e1,e1',⟨κ,ρ,l'⟩)=>ZV σ e fr bt v q e1 e1' κ ρ l' k τ
     |none=>ob (σ.src τ w) λl'=>match v with
      |.own q=>match σ.H q with
        |some (.row e' τ' l st')=>match eV τ' τ with
          |some ⟨h⟩=>match aY e' e with
            |true=>ZS τ e fr bt [(q,none)] st' (j6 (aR Ty.sl h) l) l' k
            |false=>none
          |none=>none
        |_=>none
      |.bW=>ck (bE (dR l') bt) (k (.own fr) [(fr,some (.row e τ l' st))])
      |_=>none
def ZB(P:Program)(t t':TypeId):Bool:=match P.underlying t,P.underlying t' with
 |some (.slice _),some (.slice _)=>true
 |_,_=>false
def aJa:Value->Option Ty
 |.bool false=>some .bo
 |.int .u8 0=>some .u8
 |.int k 0=>some (.i k)
 |_=>none
def aGj:Value->Value->Bool
 |.bool a,.bool b=>a == b
 |.int k a,.int k' b=>decide (k=k')&&decide (a=b)
 |_,_=>false
def EE(P:Program)(e:TypeId):Option (Ty×Nat):=match(P.info? e).bind (·.zero)with
 |some (.agg cs)=>match qM 64 cs.size with
   |true=>match cs.toList with
     |z::r=>match aJa z,r.all (aGj z)with
       |some τ,true=>some (τ,cs.size)
       |_,_=>none
     |[]=>none
   |false=>none
 |_=>none
def zI(σ:Vw)(v:X):Option (Nat×Nat×TypeId×(τ:Ty)×List τ.V):=match v with
 |.ref q off=>match σ.H q with
   |some (.arr e τ l)=>some (q,off,e,⟨τ,l⟩)
   |_=>none
 |_=>none
def Xr(c:Cx)(t:TypeId)(off:Nat)(τ:Ty)(l:List τ.V)(k:X->Wx->O):O:=match τ.one,kF c.P t,fP c.P t with
 |true,some false,some 1=>gn l off λy=>k (.e τ y) []
 |true,some true,some m=>ck (decide (off+m<=l.length)) (k (.ag τ ((l.drop off).take m)) [])
 |_,_,_=>none
def W4(c:Cx)(t:TypeId)(q off:Nat)(e:TypeId)(τ:Ty)(l:List τ.V)(w:X)(k:X->Wx->O):O:=match τ.one,fP c.P t,w with
 |true,some 1,.e τ' y=>match eV τ' τ with
   |some ⟨h⟩=>gn l off λ_=>k (.aS []) [(q,some (.arr e τ (l.set off (j6 h y))))]
   |none=>none
 |true,some m,.ag τ' l'=>match eV τ' τ with
   |some ⟨h⟩=>match aY off 0,fP c.P e with
     |true,some m'=>match aY m' m with
       |true=>ck (decide (0<m/\dR l'=m/\l.length=m)) (k (.aS []) [(q,some (.arr e τ (aJZ h l')))])
       |false=>none
     |_,_=>ck (decide (0<m/\dR l'=m/\off+m<=l.length)) (k (.aS []) [(q,some (.arr e τ (l.take off++aJZ h l'++l.drop (off+m))))])
   |none=>none
 |_,_,_=>none
def YH(c:Cx)(g:Option Bool)(t:TypeId)(τ:Ty)(l:List τ.V)(x:X)(k:X->Wx->O):O:=asInt x λn=>match τ.one,c.P.underlying t,u0 c.P t with
 |true,some (.array _ e),some (m,s)=>ck (decide (l.length=m*s)) (match kF c.P e,s with
   |some false,1=>wE g τ l n λy=>k (.e τ y) []
   |some true,s=>nF g (decide (0<=n/\n<m)) (k (.ag τ ((l.drop (n.toNat*s)).take s)) [])
   |_,_=>none)
 |_,_,_=>none
def YK(c:Cx)(g:Option Bool)(t:TypeId)(q off:Nat)(x:X)(k:X->Wx->O):O:=asInt x λn=>match u0 c.P t with
 |some (m,s)=>nF g (decide (0<=n/\n<m)) (k (.ref q (off+n.toNat*s)) [])
 |none=>none
def unm(c:Cx):Bool:=match lk 999999 c.G with|some _=>true|none=>false
def eP(c:Cx)(σ:Vw)(fr:Nat)(st:Bool)(o:Oper)(k:X->Wx->O):O:=match o.op with
 |.move x=>ob (σ.ev x) λv=>k v []
 |.assign x=>ob (σ.ev x) λv=>k v []
 |.pick b x y=>XG σ b x y λr=>k r []
 |.alloc e=>match EE c.P e with
   |some (τ,n)=>k (.ref fr 0) [(fr,some (.arr e τ (cI n τ.zero)))]
   |none=>ob (vK c.P e) λz=>k (.ref fr 0) [(fr,some (.box e (B2 fr z.cells)))]
 |.box e x=>ob (σ.ev x) λv=>match v with
   |.ag τ l=>k (.ref fr 0) [(fr,some (.arr e τ l))]
   |v=>match v.val with|true=>k (.ref fr 0) [(fr,some (.box e (B2 fr v.cells)))]|false=>none
 |.build t ps=>match EE c.P t,ps.toList,places c.P t with
   |some (τ,n),[],some _=>k (.ag τ (cI n τ.zero)) []
   |_,_,_=>ob (vK c.P t) λz=>ob (places c.P t) λpl=>σ.BS ps.toList λxs=>Is pl z.cells xs λcs=>k (.agg cs) []
 |.buildSlice t n ps=>ob (mJ c t) λp=>match p with
   |(e,τ,_)=>match Ib σ n ps.toList with
    |some (q,e',⟨τ',l⟩)=>match eV τ (.sl τ')with
     |some _=>match τ'.one with
       |true=>match unm c with
         |true=>k (.own fr) [(fr,some (.bC e e' τ' .un [((),l)] none)),(q,none)]
         |false=>k (.own fr) [(fr,some (.nest e e' τ' [l])),(q,none)]
       |false=>none
     |none=>none
    |none=>match X1 σ n ps.toList with
     |some (q,e',⟨κ,l⟩,ys)=>Xs σ fr e e' q κ l ys k τ
     |none=>match qM (n*τ.size) 16777216 with
      |true=>σ.BS ps.toList λxs=>Ih τ σ (oM τ.zero n) xs λl=>k (.own fr) [(fr,some (.row e τ l st))]
      |false=>none
 |.makeMap t r=>match r with
   |none=>match c.P.underlying t with
     |some (.map kt _)=>match c.ty kt with
       |some τ=>k (.own fr) [(fr,some (.mp τ []))]
       |none=>none
     |_=>none
   |some _=>none
 |.insert t m x y=>match c.P.underlying t with
   |some (.map kt _)=>ob (σ.ev m) λa=>ob (σ.ev x) λb=>ob (σ.ev y) λv=>Xc c σ kt a b v k
   |_=>none
 |.range t x=>match c.P.underlying t with
   |some .string=>ob (σ.ev x) λv=>match v with
     |.e .tx s=>k (.own fr) [(fr,some (.it s 0))]
     |_=>none
   |_=>none
 |.next i b=>match b with
   |true=>ob (σ.ev i) λv=>match v with
     |.own q=>match σ.H q with
       |some (.it s pos)=>X6 s pos q k
       |_=>none
     |_=>none
   |false=>none
 |.lookup t m x cm=>match c.P.underlying t with
   |some (.map kt et)=>ob (σ.ev m) λa=>ob (σ.ev x) λb=>ob (vK c.P et) λz=>Xd c σ kt a b z cm λr=>xX r k
   |_=>none
 |.load t a=>ob (σ.ev a) λv=>match zI σ v with
   |some (_,off,_,⟨τ,l⟩)=>Xr c t off τ l k
   |none=>match st with
     |true=>Xp c σ t v λy=>xX y k
     |false=>Xq c σ t v λy=>k y []
 |.store t a y=>ob (σ.ev a) λv=>ob (σ.ev y) λw=>match zI σ v with
   |some (q,off,e,⟨τ,l⟩)=>W4 c t q off e τ l w k
   |none=>match w.val with|true=>(match st with|true=>W0 c σ t v w k|false=>W3 c σ t v w k)|false=>none
 |.nilCheck x=>ob (σ.ev x) λv=>match v with
   |.ref ..=>k v []
   |.rr ..=>k v []
   |.pt ..=>k v []
   |.fn ..=>k v []
   |_=>none
 |.binOp op xt x y _=>ob (σ.ev x) λv=>ob (σ.ev y) λw=>Wm c.P xt op v w y (λr=>k r []) <|match X5 c.P xt op v w y with
   |some b=>k (.e .bo b) []
   |none=>match Yl c.P op xt v w with
   |some b=>k (.e .bo b) []
   |none=>ZE c.P (σ.g.map (·.2)) op xt v w λr=>k r []
 |.unOp op _ x=>ob (σ.ev x) λv=>match op,v with
   |.not,.e .bo q=>aHm q λr=>k r []
   |.neg,.e (.i ik) n=>aHv ik n λr=>k r []
   |_,_=>none
 |.convert s d x=>ob (σ.ev x) λv=>match c.P.underlying s,c.P.underlying d,v with
   |some (.slice e),some .string,v=>match c.P.underlying e with
     |some (.int .u8)=>ob (σ.src .u8 v) λl=>k (.e .tx l) []
     |_=>none
   |some .string,some (.slice e),.e .tx l=>match c.P.underlying e with
     |some (.int .u8)=>k (.e (.sl .u8) l) []
     |_=>none
   |_,_,v=>Nt c.P s d v λr=>k r []
 |.makeInterface t x=>ob (σ.ev x) λv=>match c.P.underlying t,v with
   |some (.int _),.e (.i ik) n=>k (.v (.iface t (.int ik n))) []
   |some (.pointer _),.ref q 0=>match σ.H q with
     |some (.box _ _)=>k (.jI q t) []
     |some (.arr _ _ _)=>k (.jI q t) []
     |_=>none
   |_,_=>none
 |.makeFunc (.func f) first caps=>match oB f 1000000 with
   |true=>match first.toList with
     |[]=>σ.nC caps.toList λxs=>k (.fn f xs) []
     |fs=>match caps.toList with
       |[]=>σ.nC fs λxs=>k (.fn (f+1000000) xs) []
       |_=>none
   |false=>none
 |.makeSlice t n m=>match I4 n m with
   |true=>ob (σ.ev n) λv=>match v with
     |.e (.i .i64) z=>ob (mJ c t) λp=>match p with
       |(e,τ,b)=>match unm c,τ,Iw c.P e with
         |true,.sl κ,some e'=>Xf κ e e' fr b z k
         |_,τ,_=>If τ e fr b (!st) z k
     |_=>none
   |false=>match n with
     |.const (.int .i64 (.ofNat 0))=>ob (σ.ev m) λv=>match v with
       |.e (.i .i64) z=>ob (mJ c t) λp=>match p with
         |(e,τ,b)=>Xg τ e fr b (!st) z k
       |_=>none
     |_=>none
 |.slice t x lo hi mx=>match mx with
   |none=>ob (σ.ev x) λv=>match v,lo,hi with
     |.bW,lo,hi=>σ.nA lo λlo=>σ.nA hi λhi=>match c.P.underlying t with
       |some (.slice e)=>match fP c.P e with
         |some _=>nF (σ.g.map (·.2)) (Bp lo&&Bp hi) (k .bW [])
         |none=>none
       |_=>none
     |.pt σ y j,none,none=>Wl c t (.pt σ y j) λr=>k r []
     |.own q,lo,hi=>match σ.H q with
       |some (.row _ τ l false)=>σ.nA lo λlo=>σ.nA hi λhi=>match st with
         |true=>Wk c σ t q τ l lo hi k
         |false=>match lo with|none=>Ys c σ fr t q hi k|some _=>none
       |_=>σ.nA lo λlo=>σ.nA hi λhi=>MV c σ t (.own q) lo hi λr=>k r []
     |v,lo,hi=>σ.nA lo λlo=>σ.nA hi λhi=>MV c σ t v lo hi λr=>k r []
   |some _=>none
 |.fieldAddr s x f=>ob (σ.ev x) λv=>Yd c s f v λr=>k r []
 |.field s x f=>ob (σ.ev x) λv=>Yc c s f v λr=>xX r k
 |.indexAddr t x n=>ob (σ.ev x) λv=>ob (σ.ev n) λw=>match zI σ v with
   |some (q,off,_)=>YK c (σ.g.map (·.2)) t q off w k
   |none=>match st with
     |true=>YG c σ t v w λr=>k r []
     |false=>YF c σ t v w λr=>k r []
 |.index t x n=>ob (σ.ev x) λv=>ob (σ.ev n) λw=>match v with
   |.ag τ l=>YH c (σ.g.map (·.2)) t τ l w k
   |v=>YE c t (σ.g.map (·.2)) v w λr=>k r []
 |.extract x n=>ob (σ.ev x) λv=>match v with
   |.aS xs=>ob xs[n]? λr=>xX r k
   |_=>none
 |.call { callee:=.builtin b,args,argTypes }=>match b,args.toList,argTypes.toList with
   |.len,[x],[t]=>ob (σ.ev x) λv=>Xv c σ t v λr=>k r []
   |.append,[x,y],[t,t']=>match aY t t'||ZB c.P t t' with
     |false=>ZR c σ fr st t t' x y k
     |true=>ZU c σ fr st t x y k
   |.unsafeSliceData,[x],[_]=>ob (σ.ev x) λv=>Wq c σ o.type v k
   |.unsafeString,[x,y],[pt,_]=>ob (σ.ev x) λv=>ob (σ.ev y) λw=>WQ c σ pt v w k
   |.cap,[x],[t]=>ob (σ.ev x) λv=>match v,c.P.underlying t with
     |.bW,some (.slice _)=>k (.e (.i .i64) (0:Int)) []
     |_,_=>none
   |.copy,[x,y],[t,_]=>ob (σ.ev x) λv=>ob (σ.ev y) λw=>Yt c σ t v w k
   |.max,[x,y],_=>ob (σ.ev x) λv=>ob (σ.ev y) λw=>match v,w with
     |.e (.i .i64) m,.e (.i .i64) n=>NM m n λr=>k r []
     |_,_=>none
   |.max,[x,y,z],_=>ob (σ.ev x) λv=>ob (σ.ev y) λw=>ob (σ.ev z) λu=>match v,w,u with
     |.e (.i .i64) m,.e (.i .i64) n,.e (.i .i64) p=>NM (max (m:Int) n) p λr=>k r []
     |_,_,_=>none
   |.min,[x,y],_=>ob (σ.ev x) λv=>ob (σ.ev y) λw=>match v,w with
     |.e (.i .i64) m,.e (.i .i64) n=>aHz m n λr=>k r []
     |_,_=>none
   |_,_,_=>none
 |.call { callee:=.value f,args,.. }=>ob (σ.ev f) λv=>match v with
   |.fn g caps=>match oB g 1000000 with
     |true=>σ.nC args.toList λxs=>uY c σ fr g (xs++caps) k
     |false=>σ.nC args.toList λxs=>uY c σ fr (g-1000000) (caps++xs) k
   |_=>none
 |.call { callee:=.invoke rv name,args,.. }=>ob (σ.ev rv) λv=>match v with
   |.jI q te=>match σ.H q with
     |some (.box _ _)=>ob (Dt c.P te name) λm=>σ.nC args.toList λxs=>uY c σ fr m.1 (.ref q m.2::xs) k
     |some (.arr _ _ _)=>ob (Dt c.P te name) λm=>σ.nC args.toList λxs=>uY c σ fr m.1 (.ref q m.2::xs) k
     |_=>none
   |_=>none
 |_=>none
def Mn(_:Cx)(σ:Vw)(_:Nat)(o:Oper)(_:X->Wx->O)(kp:Value->Wx->O)(els:O):O:=match o.op with
 |.panic x=>ob (σ.ev x) λv=>match v with
   |.v (.iface t w)=>kp (.iface t w) []
   |_=>none
 |_=>els
def Sg.vw(σ:Sg):Vw:=⟨λt=>lk t σ.T,λk=>lk k σ.H,none⟩
def aJS:Op->Bool
 |.move _=>true
 |.assign _=>true
 |.pick ..=>true
 |.load ..=>true
 |.binOp ..=>true
 |.unOp ..=>true
 |.convert ..=>true
 |.nilCheck _=>true
 |.fieldAddr ..=>true
 |.field ..=>true
 |.indexAddr ..=>true
 |.index ..=>true
 |.extract ..=>true
 |.slice ..=>true
 |.call { callee:=.builtin .len,.. }=>true
 |.call { callee:=.builtin .max,.. }=>true
 |.call { callee:=.builtin .min,.. }=>true
 |.call { callee:=.value _,.. }=>true
 |_=>false
def B1(j:Nat)(w:Bool):Nat:=match w with|true=>2*j+1|false=>2*j
def zB(w q:Bool):Bool:=match w with|true=>q|false=>!q
inductive Gd where
 |on|off
 |cd (key:Nat) (c:Bool) (t:Tmp) (j:Nat) (x:X) (new:Bool)
 |kn (b:Bool)
def N2(o:Oper)(ops:List Oper)(T:Nat->Option X):Option Gd:=match o.guard with
 |none=>some .on
 |some (j,w)=>match ops[j]? with
   |some oj=>match oj.dst with
     |some t=>match T t with
       |some (.e .bo q)=>some (.cd (B1 j w) (zB w q) t j (.bit j q) true)
       |some (.bit j' q)=>match aY j' j with
         |true=>some (.cd (B1 j w) (zB w q) t j (.bit j q) false)
         |false=>none
       |some (.eX key c (.e .bo q))=>some (.cd (B1 j w) (c&&zB w q) t j (.eX key c (.bit j q)) true)
       |some (.eX key c (.bit j' q))=>match aY j' j with
         |true=>some (.cd (B1 j w) (c&&zB w q) t j (.eX key c (.bit j q)) false)
         |false=>none
       |some (.aS [])=>some .off
       |some (.v (.bool b))=>some (.kn (match b,w with|true,true=>true|false,false=>true|_,_=>false))
       |_=>none
     |none=>none
   |none=>none
def uB(j:Nat):X->Bool
 |.bit j' _=>aY j' j
 |.eX key _ x=>aY key (2*j)||aY key (2*j+1)||(match x with |.bit j' _=>aY j' j |_=>false)
 |_=>false
def Iq(j:Nat):XT->Bool
 |[]=>true
 |(_,x)::l=>match uB j x with|true=>false|false=>Iq j l
def oN:XT->Bool
 |[]=>true
 |(_,x)::l=>match x.pl with|true=>oN l|false=>false
def uJ:XT->(XT->O)->O
 |[],f=>f []
 |(t,x)::l,f=>match x with
   |.bit _ q=>uJ l λl'=>f ((t,.e .bo q)::l')
   |.eX ..=>uJ l λl'=>sW t l' f
   |.v (.bool q)=>uJ l λl'=>f ((t,.e .bo q)::l')
   |x=>uJ l λl'=>f ((t,x)::l')
def X4:Wx->O->O
 |[],k=>k
 |_,_=>none
def Dc(c:Cx)(σ:Sg)(T:XT)(st:Bool)(o:Oper)(m:Nat)(K:Exit->Sg->O)(next:Sg->O):O:=
 Mn c ⟨λt=>lk t T,λk=>lk k σ.H,none⟩ σ.N o
  (λx W=>vW o.dst x T λT=>nP W σ.H λH=>next ⟨T,H,σ.N+8⟩)
  (λv W=>nP W σ.H λH=>uJ T λT=>K (.panic [uK v]) ⟨T,H,σ.N+8*m⟩)
  (eP c ⟨λt=>lk t T,λk=>lk k σ.H,none⟩ σ.N st o λx W=>vW o.dst x T λT=>nP W σ.H λH=>next ⟨T,H,σ.N+8⟩)
def D8(σ:Sg)(T:XT)(o:Oper)(next:Sg->O):O:=vW o.dst (.aS []) T λT=>next ⟨T,σ.H,σ.N+8⟩
def l7(c:Cx)(stF:List Nat)(all:List Oper):List Oper->Nat->Sg->(Exit->Sg->O)->O
 |[],_,σ,k=>uJ σ.T λT=>k .normal ⟨T,σ.H,σ.N⟩
 |o::rest,i,σ,k=>ob (N2 o all λt=>lk t σ.T) λg=>match g with
   |.on=>Dc c σ σ.T (!(stF.contains i)) o (rest.length+1) k λσ'=>l7 c stF all rest (i+1) σ' k
   |.off=>D8 σ σ.T o λσ'=>l7 c stF all rest (i+1) σ' k
   |.kn true=>Dc c σ σ.T (!(stF.contains i)) o (rest.length+1) k λσ'=>l7 c stF all rest (i+1) σ' k
   |.kn false=>D8 σ σ.T o λσ'=>l7 c stF all rest (i+1) σ' k
   |.cd key b t j y new=>match stF.contains (i+1000)with
     |true=>match y,new,o.guard with
       |.bit _ q,true,some (_,w)=>br q
         (lA t (.v (.bool true)) σ.T λT=>match w with
          |true=>Dc c σ T (!(stF.contains i)) o (rest.length+1) k λσ'=>l7 c stF all rest (i+1) σ' k
          |false=>D8 σ T o λσ'=>l7 c stF all rest (i+1) σ' k)
         (lA t (.v (.bool false)) σ.T λT=>match w with
          |true=>D8 σ T o λσ'=>l7 c stF all rest (i+1) σ' k
          |false=>Dc c σ T (!(stF.contains i)) o (rest.length+1) k λσ'=>l7 c stF all rest (i+1) σ' k)
       |_,_,_=>none
     |false=>match !new||Iq j σ.T with
       |true=>lA t y σ.T λT=>match aJS o.op&&!(stF.contains i)with
         |true=>eP c ⟨λt=>lk t T,λk=>lk k σ.H,some (key,b)⟩ σ.N (!(stF.contains i)) o λx W=>X4 W (vW o.dst (.eX key b x) T λT=>l7 c stF all rest (i+1) ⟨T,σ.H,σ.N+8⟩ k)
         |false=>br b
           (eP c ⟨λt=>lk t T,λk=>lk k σ.H,some (key,b)⟩ σ.N (!(stF.contains i)) o λx W=>vW o.dst x T λT=>nP W σ.H λH=>l7 c stF all rest (i+1) ⟨T,H,σ.N+8⟩ k)
           (vW o.dst (.aS []) T λT=>l7 c stF all rest (i+1) ⟨T,σ.H,σ.N+8⟩ k)
       |false=>none
abbrev Rx:=List (X×Wx)
def MP(σ:Vw)(dst:Option Tmp)(x:X)(W:Wx):Vw:=⟨λt=>match dst with|some t'=>(match aY t' t with|true=>some x|false=>σ.T t)|none=>σ.T t,λk=>match lk k W with|some r=>r|none=>σ.H k,none⟩
def q8(dst:Nat->Option Tmp)(S:Nat->Bool):Nat->Rx->Vw->Vw
 |_,[],σ=>σ
 |i,(x,W)::rs,σ=>q8 dst S (i+1) rs (match S i with|true=>MP σ (dst i) x W|false=>σ)
def mG(ops:Array Oper)(pre kl:List (List Nat))(fr i:Nat)(rs:Rx)(σ:Vw)(g:Option (Nat×Bool)):Vw:=
 ⟨λt=>match(lR ops.size).any (λp=>apart pre i p&&(Region.gG ops p == some t))with|true=>none|false=>(q8 (Region.gG ops) (λj=>(pre.getD i []).contains j) 0 rs σ).T t,
  λk=>match(lR ops.size).any (λp=>apart pre i p&&fS kl fr p k)with|true=>none|false=>(q8 (Region.gG ops) (λj=>(pre.getD i []).contains j) 0 rs σ).H k,g⟩
def Db(j:Nat)(y:X)(rs:Rx)(f:Rx->O):O:=match rs[j]? with
 |some (_,W)=>f (jG (y,W) j rs)
 |none=>none
def BC(t:Tmp)(j:Nat):Nat->List Oper->Bool
 |_,[]=>true
 |p,o::l=>match o.dst with
   |some t'=>match aY t' t&&!(aY p j)with|true=>false|false=>BC t j (p+1) l
   |none=>BC t j (p+1) l
def Ir(j:Nat):Rx->Bool
 |[]=>true
 |(x,_)::l=>match uB j x with|true=>false|false=>Ir j l
def aIP(pre:List (List Nat))(n i:Nat):Bool:=(lR n).all λp=>qM p i||(pre.getD p []).contains i
def ND:Rx->Bool
 |[]=>true
 |(_,[])::l=>ND l
 |_::_=>false
def Dd(c:Cx)(stF:List Nat)(ops:Array Oper)(pre kl:List (List Nat))(fr:Nat)(σ:Vw)(HL:XH)(K:Exit->Sg->O)(o:Oper)(i:Nat)(rs:Rx)(next:Rx->O):O:=
 Mn c (mG ops pre kl fr i rs σ none) (fr+8*i) o
  (λx W=>match W.all (λp=>fS kl fr i p.1)with
  |true=>next (rs++[(x,W)])
  |false=>none)
  (λv W=>match aIP pre ops.size i&&ND rs with
  |true=>nP W HL λH=>K (.panic [uK v]) ⟨[],H,fr+8*ops.size⟩
  |false=>none)
  (eP c (mG ops pre kl fr i rs σ none) (fr+8*i) (!(stF.contains i)) o λx W=>match W.all (λp=>fS kl fr i p.1)with
  |true=>next (rs++[(x,W)])
  |false=>none)
def nE(c:Cx)(stF:List Nat)(ops:Array Oper)(pre kl:List (List Nat))(fr:Nat)(σ:Vw)(HL:XH)(K:Exit->Sg->O):List Oper->Nat->Rx->(Rx->O)->O
 |[],_,rs,k=>k rs
 |o::rest,i,rs,k=>ob (N2 o ops.toList (mG ops pre kl fr i rs σ none).T) λg=>match g with
   |.on=>Dd c stF ops pre kl fr σ HL K o i rs λrs=>nE c stF ops pre kl fr σ HL K rest (i+1) rs k
   |.off=>nE c stF ops pre kl fr σ HL K rest (i+1) (rs++[(.aS [],[])]) k
   |.kn true=>Dd c stF ops pre kl fr σ HL K o i rs λrs=>nE c stF ops pre kl fr σ HL K rest (i+1) rs k
   |.kn false=>nE c stF ops pre kl fr σ HL K rest (i+1) (rs++[(.aS [],[])]) k
   |.cd key b t j y new=>match stF.contains (i+1000)with
     |true=>match y,new,o.guard,BC t j 0 ops.toList&&(pre.getD i []).contains j with
       |.bit _ q,true,some (_,w),true=>br q
         (Db j (.v (.bool true)) rs λrs=>match w with
          |true=>Dd c stF ops pre kl fr σ HL K o i rs λrs=>nE c stF ops pre kl fr σ HL K rest (i+1) rs k
          |false=>nE c stF ops pre kl fr σ HL K rest (i+1) (rs++[(.aS [],[])]) k)
         (Db j (.v (.bool false)) rs λrs=>match w with
          |true=>nE c stF ops pre kl fr σ HL K rest (i+1) (rs++[(.aS [],[])]) k
          |false=>Dd c stF ops pre kl fr σ HL K o i rs λrs=>nE c stF ops pre kl fr σ HL K rest (i+1) rs k)
       |_,_,_,_=>none
     |false=>match(!new||Ir j rs)&&(BC t j 0 ops.toList&&(pre.getD i []).contains j)with
       |true=>Db j y rs λrs=>match aJS o.op&&!(stF.contains i)with
         |true=>eP c (mG ops pre kl fr i rs σ (some (key,b))) (fr+8*i) (!(stF.contains i)) o λx W=>X4 W (nE c stF ops pre kl fr σ HL K rest (i+1) (rs++[(.eX key b x,[])]) k)
         |false=>br b
           (eP c (mG ops pre kl fr i rs σ (some (key,b))) (fr+8*i) (!(stF.contains i)) o λx W=>match W.all (λp=>fS kl fr i p.1)with
            |true=>nE c stF ops pre kl fr σ HL K rest (i+1) (rs++[(x,W)]) k
            |false=>none)
           (nE c stF ops pre kl fr σ HL K rest (i+1) (rs++[(.aS [],[])]) k)
       |false=>none
def N9:List Oper->Rx->XT->XH->(XT->XH->O)->O
 |o::ops,(x,W)::rs,T,H,k=>vW o.dst x T λT'=>nP W H λH'=>N9 ops rs T' H' k
 |_,_,T,H,k=>k T H
inductive Mv where
 |xP (t:Nat)
 |lL (t:Nat) (o:XO)
 |mA (t i:Nat) (o:XO)
 |fz (t:Nat) (τ:Ty)
 |cv (t i:Nat) (τ:Ty)
 |rn (t i:Nat)
 |aIN (t x:Nat)
 |bk (t:Nat)
structure Nm where
 ts:List Nat
 gv:List (Nat×Ty)
 mv:List Mv
inductive Hint:Type 1 where
 |d
 |seq (a b:Hint)
 |cond (a b:Hint)
 |block (a:Hint)
 |cF (stF:List Nat) (mv:List Mv) (kl:List (List Nat))
 |D2 (n:Nat) (h:Hint)
 |sub (nm:Nm) (Y1 Y2 Y3:Type) (I1:Y1->Exit×Sg) (I2:Y2->Exit×Sg) (I3:Y3->Exit×Sg) (L:Sg->(Y1->O)->(Y2->O)->(Y3->O)->O)
def Nn:XO->Bool
 |.row _ _ [] _=>true
 |.nest _ _ _ []=>true
 |.bC _ _ _ _ [] none=>true
 |_=>false
def Wp(e:TypeId)(κ:Ty):(ρ:Ty)->List (ρ.V×List κ.V)->XO
 |.un,l=>.row e (.sl κ) (l.map λx=>x.2) true
 |ρ,l=>.row e (.pr ρ (.sl κ)) l true
def IG:XO->Option XO
 |.row e τ xs false=>some (.row e τ xs true)
 |.nest e _ τ l=>match τ.one with|true=>some (.row e (.sl τ) l true)|false=>none
 |.bC e _ κ ρ l none=>some (Wp e κ ρ l)
 |_=>none
def M1(q:Nat)(σ:Sg)(k:Sg->O):O:=match lk q σ.H with
 |some o=>match IG o with
   |some o'=>lA q o' σ.H λH=>k ⟨σ.T,H,σ.N⟩
   |none=>k σ
 |none=>k σ
def NF(q i:Nat)(o:XO)(σ:Sg)(k:Sg->O):O:=match lk q σ.H with
 |some (.box e' xs)=>match xs[i]? with
   |some .bW=>lA q (.box e' (jG (.own σ.N) i xs)) σ.H λH=>lA σ.N o H λH=>k ⟨σ.T,H,σ.N+8⟩
   |_=>k σ
 |_=>k σ
def Yr(q i:Nat)(τ:Ty)(σ:Sg)(k:Sg->O):O:=match lk q σ.H with
 |some (.box e xs)=>match xs[i]? with
   |some x=>match τ.one with
     |true=>match xJ τ (Vw.kI ⟨λt=>lk t σ.T,λk=>lk k σ.H,none⟩ x)with
       |some y=>lA q (.box e (jG (.e τ y) i xs)) σ.H λH=>k ⟨σ.T,H,σ.N⟩
       |none=>k σ
     |false=>k σ
   |none=>k σ
 |_=>k σ
def Wy(q i:Nat)(σ:Sg)(k:Sg->O):O:=match lk q σ.H with
 |some (.box e xs)=>match xs[i]? with
   |some (.own q')=>match lk q' σ.H with
     |some o=>match qM 50 q'&&oB q' 100&&!(aY q' q)with
       |true=>lA q (.box e (jG (.own σ.N) i xs)) σ.H λH=>sW q' H λH=>lA σ.N o H λH=>k ⟨σ.T,H,σ.N+8⟩
       |false=>k σ
     |none=>k σ
   |_=>k σ
 |_=>k σ
def NT(q:Nat)(n:Int)(σ:Sg)(k:Sg->O):O:=match lk q σ.H with
 |some (.bC e e' κ ρ l none)=>gx l n λy=>lA q (.bC e e' κ ρ l (some (n,σ.N))) σ.H λH=>lA σ.N (.row e' κ y.2 false) H λH=>k ⟨σ.T,H,σ.N+8⟩
 |_=>k σ
def OB(q:Nat)(σ:Sg)(k:Sg->O):O:=match lk q σ.H with
 |some (.bC e e' κ ρ l (some (n,f)))=>match lk f σ.H with
   |some (.row e1 κ1 xs false)=>match eV κ1 κ with
     |some ⟨h⟩=>match aY e1 e'&&!(aY f q)with
       |true=>gx l n λy=>lA q (.bC e e' κ ρ (l.set n.toNat (y.1,j6 (aR Ty.sl h) xs)) none) σ.H λH=>sW f H λH=>k ⟨σ.T,H,σ.N⟩
       |false=>k σ
     |none=>k σ
   |_=>k σ
 |_=>k σ
def aIX(σ:Sg)(b i:Nat):Option Nat:=match lk b σ.H with
 |some (.box _ xs)=>match xs[i]? with|some (.own q)=>some q|_=>none
 |_=>none
def yH(x:Nat)(n:Int):Int:=match qM 1000 x with|true=>n-1|false=>n
def Xb(m:Mv)(σ:Sg)(k:Sg->O):O:=match m with
 |.xP t=>match lk t σ.T with
   |some (.own q)=>M1 q σ k
   |some (.ref q 0)=>match lk q σ.H with
     |some (.box _ (.own q'::_))=>M1 q' σ k
     |_=>k σ
   |_=>k σ
 |.lL t o=>match lk t σ.T,Nn o with
   |some .bW,true=>lA t (.own σ.N) σ.T λT=>lA σ.N o σ.H λH=>k ⟨T,H,σ.N+8⟩
   |_,_=>k σ
 |.mA t i o=>match lk t σ.T,Nn o with
   |some (.ref q 0),true=>NF q i o σ k
   |some (.jI q _),true=>NF q i o σ k
   |_,_=>k σ
 |.fz t τ=>match lk t σ.T with
   |some (.ref q 0)=>match lk q σ.H with
     |some (.box _ xs)=>match wD τ xs with
       |some y=>lA t (.pt τ y 0) σ.T λT=>sW q σ.H λH=>k ⟨T,H,σ.N⟩
       |none=>k σ
     |_=>k σ
   |_=>k σ
 |.cv t i τ=>match lk t σ.T with
   |some (.ref q 0)=>Yr q i τ σ k
   |_=>k σ
 |.rn t i=>match lk t σ.T with
   |some (.ref q 0)=>Wy q i σ k
   |_=>k σ
 |.aIN t x=>match lk (t%1000) σ.T,lk (x%1000) σ.T with
   |some (.own q),some (.e (.i _) n)=>NT q (yH x n) σ k
   |some (.ref b 0),some (.e (.i _) n)=>match aIX σ b (t / 1000)with
     |some q=>NT q (yH x n) σ k
     |none=>k σ
   |_,_=>k σ
 |.bk t=>match lk (t%1000) σ.T with
   |some (.own q)=>OB q σ k
   |some (.ref b 0)=>match aIX σ b (t / 1000)with
     |some q=>OB q σ k
     |none=>k σ
   |_=>k σ
def NJ:List Mv->Sg->(Sg->O)->O
 |[],σ,k=>k σ
 |m::l,σ,k=>Xb m σ λσ=>NJ l σ k
def ZO(σ:Vw)(τ:Ty)(x:X):X:=match xJ τ (σ.nW x)with|some y=>uC τ y|none=>x
def Mm(σ:Sg)(gv:List (Nat×Ty)):List Nat->Option XT
 |[]=>some []
 |t::l=>match lk t σ.T with
   |some x=>match Mm σ gv l with
     |some r=>some ((t,match lk t gv with|some τ=>ZO σ.vw τ x|none=>x)::r)
     |none=>none
   |none=>none
def X9:XT->List Nat->List Nat
 |[],acc=>acc
 |(_,x)::l,acc=>X9 l (X8 x acc)
def handed:XH->List Nat
 |[]=>[]
 |(k,_)::l=>match qM 50 k&&oB k 100 with|true=>k::handed l|false=>handed l
def live(H:XH):List Nat:=(handed H).filter λk=>(reach (λj=>lk j H) 60 [k] []).all λq=>(lk q H).isSome
def uS(k:Nat):Bool:=qM 50 k&&oB k 100
def kT:Nat->List Nat->List (Nat×Nat)
 |_,[]=>[]
 |n,k::l=>match uS k with|true=>kT n l|false=>(n,k)::kT (n+1) l
def IH:List Nat->List (Nat×Nat)
 |[]=>[]
 |k::l=>match uS k with|true=>(k,k)::IH l|false=>IH l
def sJ(rn:List (Nat×Nat))(k:Nat):Option Nat:=match uS k with|true=>some k|false=>old rn k
def IM(rn al:List (Nat×Nat))(lo hi:Nat):Bool:=rn.all (λp=>qM lo p.1&&oB p.1 hi&&!(uS p.1)&&(match lk p.1 rn with |some q=>aY q p.2 |none=>false))&&nodupB (al.map (·.2))&&al.all (λp=>(uS p.1&&aY p.1 p.2)||(match lk p.1 rn with |some q=>aY q p.2 |none=>false))
def Md(f:Nat->Option Nat):XT->Option XT
 |[]=>some []
 |(t,x)::l=>match gX f x with
   |some y=>match Md f l with|some r=>some ((t,y)::r)|none=>none
   |none=>none
def BG(nm:Nm)(σ:Sg)(k:Sg->O):O:=NJ nm.mv σ λσ=>ob (Mm σ nm.gv nm.ts) λT=>
 match reach σ.vw.H 60 (X9 T (handed σ.H)) []with
 |ns=>match kT 0 ns with
   |rn=>match IH ns++rn with
     |al=>match IM rn al 0 50 with
       |true=>ob (Md (sJ rn) T) λT'=>ob (sE (sJ rn) σ.vw.H al) λH'=>k ⟨T',H',100⟩
       |false=>none
def IV:List Oper->List (List Nat)->List (List Nat)
 |[],acc=>acc
 |o::l,acc=>IV l (acc++[o.after.toList.foldl (λs e=>match Region.binds .any e with|true=>(acc.getD e.on []).foldl (λs q=>ins q s) (ins e.on s)|false=>s) []])
def Iy(M:Nat):List Oper->Bool
 |[]=>true
 |o::l=>match o.dst with
   |some t=>match oB t M with|true=>Iy M l|false=>false
   |none=>Iy M l
def Mf(c:Cx)(M:Nat)(stF:List Nat)(mv:List Mv)(kl:List (List Nat))(ops:Array Oper)(draw:Bool)(σ:Sg)(k:Exit->Sg->O):O:=NJ mv σ λσ=>match oN σ.T with
 |false=>none
 |true=>match draw with
   |false=>match Iy M ops.toList with
     |true=>l7 c stF ops.toList ops.toList 0 σ k
     |false=>none
   |true=>match JQ ops (IV ops.toList []) kl σ.N M with
     |true=>nE c stF ops (IV ops.toList []) kl σ.N σ.vw σ.H k ops.toList 0 [] λrs=>N9 ops.toList rs σ.T σ.H λT H=>uJ T λT=>k .normal ⟨T,H,σ.N+8*ops.size⟩
     |false=>none
def kk(k:Exit->Sg->O)(p:Exit×Sg):O:=match p.1 with|.goto _=>none|e=>k e p.2
def NZ(f:(Sg->O)->Sg->O):Nat->Sg->O
 |0,_=>none
 |n+1,σ=>f (NZ f n) σ
def exec(c:Cx)(M:Nat)(h:Hint)(code:Code)(σ:Sg)(k:Exit->Sg->O):O:=match h with
 |.sub nm _ _ _ I1 I2 I3 L=>BG nm σ λσ'=>L σ' (λy=>kk k (I1 y)) (λy=>kk k (I2 y)) (λy=>kk k (I3 y))
 |h=>match code with
   |.skip=>k .normal σ
   |.label _=>k .normal σ
   |.exit id=>k (.exit id) σ
   |.ret=>k .ret σ
   |.region _ ops draw=>match h with
     |.cF stF mv kl=>Mf c M stF mv kl ops draw σ k
     |_=>Mf c M [] [] [] ops draw σ k
   |.seq a b=>exec c M (match h with|.seq x _=>x|_=>.d) a σ λe σ'=>match e with
     |.normal=>exec c M (match h with|.seq _ y=>y|_=>.d) b σ' k
     |e=>k e σ'
   |.cond x a b=>ob (σ.vw.ev x) λv=>match v with
     |.e .bo q=>br q (exec c M (match h with|.cond x _=>x|_=>.d) a σ k) (exec c M (match h with|.cond _ y=>y|_=>.d) b σ k)
     |_=>none
   |.block id a=>exec c M (match h with|.block x=>x|_=>.d) a σ λe σ'=>match e with
     |.exit id'=>match aY id' id with|true=>k .normal σ'|false=>k (.exit id') σ'
     |e=>k e σ'
   |.scope a=>exec c M (match h with|.block x=>x|_=>.d) a σ λe σ'=>match e with
     |.goto _=>none
     |e=>k e σ'
   |.loop a=>match h with
     |.D2 n h'=>NZ (λih σ=>exec c M h' a σ λe σ'=>match e with
       |.normal=>ih σ'
       |e=>k e σ') n σ
     |_=>none
   |_=>none
termination_by structural code
def a62:Exit->Exit->Bool
 |.normal,.normal=>true
 |.ret,.ret=>true
 |.exit a,.exit b=>aY a b
 |.panic _,.panic _=>true
 |_,_=>false
def XK(out:List (Exit×Nm))(e:Exit):Option Nm:=match out with
 |[]=>none
 |(e',nm)::l=>match a62 e' e with|true=>some nm|false=>XK l e
def De(nm:Nm)(out:List (Exit×Nm))(self:Sg->O)(K:Exit->Sg->O)(e:Exit)(σ:Sg):O:=match e with
 |.normal=>BG nm σ self
 |e=>ob (XK out e) λnm'=>BG nm' σ (K e)
def BI(c:Cx)(M:Nat)(h:Hint)(body:Code)(nm:Nm)(out:List (Exit×Nm)):Nat->Sg->(Exit->Sg->O)->O
 |0,_,_=>none
 |n+1,σ,K=>exec c M h body σ (De nm out (λσ'=>BI c M h body nm out n σ' K) K)
def XJ(out:List (Exit×Nm))(K:Exit->Sg->O)(e:Exit)(σ:Sg):O:=ob (XK out e) λnm'=>BG nm' σ (K e)
def Mc(P:Program)(σ:Sg):ResultVar->Option X
 |.tmp t=>lk t σ.T
 |.cell p t=>match lk p σ.T with
   |some (.ref q 0)=>match lk q σ.H with
     |some (.box _ xs)=>match kF P t,fP P t,xs with
       |some true,some m,xs=>match aY xs.length m with|true=>some (.agg xs)|false=>none
       |some false,_,[x]=>some x
       |_,_,_=>none
     |_=>none
   |_=>none
def nR:XH->XH
 |[]=>[]
 |(k,.row e τ l _)::H=>(k,.row e τ l true)::nR H
 |(k,.nest e e' τ l)::H=>(k,match τ.one with|true=>.row e (.sl τ) l true|false=>.nest e e' τ l)::nR H
 |(k,.bC e _ κ ρ l none)::H=>(k,Wp e κ ρ l)::nR H
 |p::H=>p::nR H
def rL:Nat->List X->XT
 |_,[]=>[]
 |t,x::l=>(t,x)::rL (t+1) l
def M0(ow:Bool)(σ:Sg):Sg:=match ow with|true=>σ|false=>⟨σ.T,nR σ.H,σ.N⟩
def Yz(c:Cx)(fn:Func)(ow:Bool)(σ:Sg)(xs:List X):List X:=match ow with|true=>xs|false=>JI c σ.vw fn.resultTypes.toList xs
def Nd(ch:List PanicEntry)(σ:Sg):O:=match ch with
 |[p]=>match p.recovered||p.goexit with
   |true=>none
   |false=>match reach σ.vw.H 60 (handed σ.H) []with
     |ns=>match kT 100 ns with
       |rn=>match IH ns++rn with
         |al=>match IM rn al 100 108 with
           |true=>ob (sE (sJ rn) σ.vw.H al) λH'=>some (.kQ p.v,H')
           |false=>none
 |_=>none
def BQ(c:Cx)(fn:Func)(ow:Bool)(e:Exit)(σ:Sg):O:=match(match e with|.normal=>true|.ret=>true|_=>false)with
 |true=>match M0 ow σ with
   |σ=>ob (yE (Mc c.P σ) fn.results.toList) λxs=>
   match Yz c fn ow σ xs with
   |ys=>match reach σ.vw.H 60 (nT ys (live σ.H)) []with
       |ns=>match kT 100 ns with
         |rn=>match IH ns++rn with
           |al=>match IM rn al 100 108 with
             |true=>ob (q9 (sJ rn) ys) λzs=>ob (sE (sJ rn) σ.vw.H al) λH'=>match zs with
               |[z]=>some (z,H')
               |[]=>some (.aS [],H')
               |[x,y]=>some (.aS [x,y],H')
               |[x,y,z]=>some (.aS [x,y,z],H')
               |[x,y,z,u]=>some (.aS [x,y,z,u],H')
               |[x,y,z,u,v]=>some (.aS [x,y,z,u,v],H')
               |_=>none
             |false=>none
 |false=>none
def wH(c:Cx)(fn:Func)(ow:Bool)(e:Exit)(σ:Sg):O:=match e with
 |.panic ch=>Nd ch σ
 |e=>BQ c fn ow e σ
def noX(n:Nat)(_:Unit):Exit×Sg:=(.goto n,⟨[],[],100⟩)
end
def Lf:Type:=(τ:Ty)×τ.V
def Hy:(ts:List Ty)->gM ts->List Lf
 |[],_=>[]
 |[a],x=>[⟨a,x⟩]
 |a::b::l,x=>⟨a,x.1⟩::Hy (b::l) x.2
def EC:(ts:List Ty)->List Lf->Option (gM ts)
 |[],ls=>match ls with|[]=>some ()|_=>none
 |[a],ls=>match ls with
   |[⟨b,x⟩]=>match eV b a with|some ⟨h⟩=>some (j6 h x)|none=>none
   |_=>none
 |a::b::l,ls=>match ls with
   |⟨c,x⟩::r=>match eV c a with
     |some ⟨h⟩=>match EC (b::l) r with|some y=>some (j6 h x,y)|none=>none
     |none=>none
   |[]=>none
def lf(τ:Ty):X:=.e τ τ.zero
def Vp:Value->Value->Bool
 |.nilIface,.nilIface=>true
 |.pointer none,.pointer none=>true
 |_,_=>false
def pk(τ τ':Ty)(x:τ'.V)(acc:List Lf):Option (List Lf):=match eV τ' τ with|some ⟨h⟩=>some (⟨τ,j6 h x⟩::acc)|none=>none
def tk{α:Type}(τ:Ty)(ls:List Lf)(k:τ.V->List Lf->α)(d:α):α:=match ls with
 |⟨τ',x⟩::r=>match eV τ' τ with|some ⟨h⟩=>k (j6 h x) r|none=>d
 |[]=>d
mutual
def mX:X->X->List Lf->Option (List Lf)
 |.e τ _,y,acc=>match y with|.e τ' x=>pk τ τ' x acc|_=>none
 |.ag τ _,y,acc=>match y with|.ag τ' x=>pk (.sl τ) (.sl τ') x acc|_=>none
 |.pt τ _ j,y,acc=>match y with|.pt τ' x j'=>(match aY j' j with|true=>pk τ τ' x acc|false=>none)|_=>none
 |.agg xs,y,acc=>match y with|.agg ys=>mL xs ys acc|_=>none
 |.aS xs,y,acc=>match y with|.aS ys=>mL xs ys acc|_=>none
 |.fn f xs,y,acc=>match y with|.fn g ys=>(match aY g f with|true=>mL xs ys acc|false=>none)|_=>none
 |.bW,y,acc=>match y with|.bW=>some acc|_=>none
 |.own q,y,acc=>match y with|.own p=>(match aY p q with|true=>some acc|false=>none)|_=>none
 |.ref q i,y,acc=>match y with|.ref p j=>(match aY p q&&aY j i with|true=>some acc|false=>none)|_=>none
 |.via q i,y,acc=>match y with|.via p j=>(match aY p q&&aY j i with|true=>some acc|false=>none)|_=>none
 |.jI q i,y,acc=>match y with|.jI p j=>(match aY p q&&aY j i with|true=>some acc|false=>none)|_=>none
 |.v w,y,acc=>match y with|.v w'=>(match Vp w' w with|true=>some acc|false=>none)|_=>none
 |_,_,_=>none
def mL:List X->List X->List Lf->Option (List Lf)
 |[],ys,acc=>match ys with|[]=>some acc|_=>none
 |x::xs,ys,acc=>match ys with
   |y::ys=>match mL xs ys acc with|some a=>mX x y a|none=>none
   |[]=>none
end
mutual
def fX{α:Type}:X->List Lf->(X->List Lf->α)->α->α
 |.e τ _,ls,k,d=>tk τ ls (λx r=>k (.e τ x) r) d
 |.ag τ _,ls,k,d=>tk (.sl τ) ls (λx r=>k (.ag τ x) r) d
 |.pt τ _ j,ls,k,d=>tk τ ls (λx r=>k (.pt τ x j) r) d
 |.agg xs,ls,k,d=>fL xs ls (λys r=>k (.agg ys) r) d
 |.aS xs,ls,k,d=>fL xs ls (λys r=>k (.aS ys) r) d
 |.fn f xs,ls,k,d=>fL xs ls (λys r=>k (.fn f ys) r) d
 |x,ls,k,_=>k x ls
def fL{α:Type}:List X->List Lf->(List X->List Lf->α)->α->α
 |[],ls,k,_=>k [] ls
 |x::xs,ls,k,d=>fX x ls (λy r=>fL xs r (λys r=>k (y::ys) r) d) d
end
def mO:XO->XO->List Lf->Option (List Lf)
 |.box e xs,y,acc=>match y with|.box e' ys=>(match aY e' e with|true=>mL xs ys acc|false=>none)|_=>none
 |.row e τ _ st,y,acc=>match y with|.row e' τ' l st'=>(match aY e' e&&(st' == st)with|true=>pk (.sl τ) (.sl τ') l acc|false=>none)|_=>none
 |.arr e τ _,y,acc=>match y with|.arr e' τ' l=>(match aY e' e with|true=>pk (.sl τ) (.sl τ') l acc|false=>none)|_=>none
 |.nest e f τ _,y,acc=>match y with|.nest e' f' τ' l=>(match aY e' e&&aY f' f with|true=>pk (.sl (.sl τ)) (.sl (.sl τ')) l acc|false=>none)|_=>none
 |.bC e f κ ρ _ ln,y,acc=>match y with
   |.bC e' f' κ' ρ' l ln'=>(match aY e' e&&aY f' f with
     |true=>match ln,ln' with
       |none,none=>pk (.sl (.pr ρ (.sl κ))) (.sl (.pr ρ' (.sl κ'))) l acc
       |some (_,q),some (i,q')=>(match aY q' q with|true=>pk (.sl (.pr ρ (.sl κ))) (.sl (.pr ρ' (.sl κ'))) l (⟨.i .i64,i⟩::acc)|false=>none)
       |_,_=>none
     |false=>none)
   |_=>none
 |.it _ _,y,acc=>match y with|.it s p=>some (⟨.tx,s⟩::⟨.i .i64,p⟩::acc)|_=>none
 |.mp ..,_,_=>none
def fO{α:Type}:XO->List Lf->(XO->List Lf->α)->α->α
 |.box e xs,ls,k,d=>fL xs ls (λys r=>k (.box e ys) r) d
 |.row e τ _ st,ls,k,d=>tk (.sl τ) ls (λl r=>k (.row e τ l st) r) d
 |.arr e τ _,ls,k,d=>tk (.sl τ) ls (λl r=>k (.arr e τ l) r) d
 |.nest e f τ _,ls,k,d=>tk (.sl (.sl τ)) ls (λl r=>k (.nest e f τ l) r) d
 |.bC e f κ ρ _ ln,ls,k,d=>tk (.sl (.pr ρ (.sl κ))) ls (λl r=>match ln with
   |none=>k (.bC e f κ ρ l none) r
   |some (_,q)=>tk (.i .i64) r (λi r=>k (.bC e f κ ρ l (some (i,q))) r) d) d
 |.it _ _,ls,k,d=>tk .tx ls (λs r=>tk (.i .i64) r (λp r=>k (.it s p) r) d) d
 |x,ls,k,_=>k x ls
def mT:XT->XT->List Lf->Option (List Lf)
 |[],ys,acc=>match ys with|[]=>some acc|_=>none
 |(t,x)::xs,ys,acc=>match ys with
   |(t',y)::ys=>match aY t' t with
     |true=>match mT xs ys acc with|some a=>mX x y a|none=>none
     |false=>none
   |[]=>none
def fT{α:Type}:XT->List Lf->(XT->List Lf->α)->α->α
 |[],ls,k,_=>k [] ls
 |(t,x)::xs,ls,k,d=>fX x ls (λy r=>fT xs r (λys r=>k ((t,y)::ys) r) d) d
def mH:XH->XH->List Lf->Option (List Lf)
 |[],ys,acc=>match ys with|[]=>some acc|_=>none
 |(t,x)::xs,ys,acc=>match ys with
   |(t',y)::ys=>match aY t' t with
     |true=>match mH xs ys acc with|some a=>mO x y a|none=>none
     |false=>none
   |[]=>none
def fH{α:Type}:XH->List Lf->(XH->List Lf->α)->α->α
 |[],ls,k,_=>k [] ls
 |(t,x)::xs,ls,k,d=>fO x ls (λy r=>fH xs r (λys r=>k ((t,y)::ys) r) d) d
mutual
def tX:X->List Ty->List Ty
 |.e τ _,acc=>τ::acc
 |.ag τ _,acc=>.sl τ::acc
 |.pt τ _ _,acc=>τ::acc
 |.agg xs,acc=>tL xs acc
 |.aS xs,acc=>tL xs acc
 |.fn _ xs,acc=>tL xs acc
 |_,acc=>acc
def tL:List X->List Ty->List Ty
 |[],acc=>acc
 |x::xs,acc=>tX x (tL xs acc)
end
def tO:XO->List Ty->List Ty
 |.box _ xs,acc=>tL xs acc
 |.row _ τ _ _,acc=>.sl τ::acc
 |.arr _ τ _,acc=>.sl τ::acc
 |.nest _ _ τ _,acc=>.sl (.sl τ)::acc
 |.bC _ _ κ ρ _ ln,acc=>.sl (.pr ρ (.sl κ))::(match ln with|none=>acc|some _=>.i .i64::acc)
 |.it _ _,acc=>.tx :: .i .i64::acc
 |_,acc=>acc
def tT:XT->List Ty->List Ty
 |[],acc=>acc
 |(_,x)::xs,acc=>tX x (tT xs acc)
def tH:XH->List Ty->List Ty
 |[],acc=>acc
 |(_,x)::xs,acc=>tO x (tH xs acc)
def tS(s:Sg):List Ty:=tT s.T (tH s.H [])
def tR(s:aF):List Ty:=tX s.1 (tH s.2 [])
def jM(s:Sg)(d:gM (tS s)):Sg:=fT s.T (Hy (tS s) d) (λT r=>fH s.H r (λH _=>⟨T,H,100⟩) s) s
def Aj(s σ:Sg):Option (gM (tS s)):=match aY σ.N 100 with
 |true=>match mH s.H σ.H []with
   |some a=>match mT s.T σ.T a with|some ls=>EC (tS s) ls|none=>none
   |none=>none
 |false=>none
def aB(s:aF)(d:gM (tR s)):aF:=fX s.1 (Hy (tR s) d) (λx r=>fH s.2 r (λH _=>(x,H)) s) s
def aG(s r:aF):Option (gM (tR s)):=match mH s.2 r.2 []with
 |some a=>match mX s.1 r.1 a with|some ls=>EC (tR s) ls|none=>none
 |none=>none
def Zt(f g:oE):oE:=λxs H=>match f xs H with|some r=>some r|none=>g xs H
def zT:(ts:List Ty)->gM ts
 |[]=>()
 |[a]=>a.zero
 |a::b::l=>(a.zero,zT (b::l))
def ag(xs:List X)(H:XH):Sg:=⟨rL 0 xs,H,100⟩
def en(i:Sg)(o:aF)(z:gM (tS i)->Option (gM (tR o))):oE:=λxs H=>match aY xs.length i.T.length with
 |true=>match Aj i (ag xs H)with
   |some d=>some ⟨tR o,z d,zT _,aB o⟩
   |none=>none
 |false=>none
instance k9:aA:=⟨br0,ck0,wF,Io,YV,Nw,Yv⟩
end Go.Ax
/- What data of the run mean: trees of values. -/
namespace Go.Ax
open aA
open Go.RowKit Go.Ab
mutual
def wI:Ex->List Tree
 |.mk a n ks=>[.v (.int .i64 a),.v (.int .i64 n),.sl ks.length (Nl ks)]
def Nl:List Ex->List Tree
 |[]=>[]
 |x::l=>wI x++Nl l
end
def aM:(τ:Ty)->τ.V->List Tree
 |.i k,x=>[.v (.int k x)]
 |.u8,x=>[.v (.int .u8 (wM x))]
 |.bo,x=>[.v (.bool x)]
 |.tx,x=>[.v (.string ⟨⟨x⟩⟩)]
 |.ex,x=>wI x
 |.un,_=>[]
 |.sl e,l=>[.sl (dR l) (bR (aM e) l)]
 |.pr a b,x=>aM a x.1++aM b x.2
def nD(τ:Ty)(x:τ.V):Tree:=(aM τ x).headD (.sl 0 [])
theorem aJG:∀l:List Ex,Nl l=l.flatMap wI
 |[]=>rfl
 |x::l=>by rw[Nl,aJG l];rfl
theorem a6p(x:Ex):wI x=[.v (.int .i64 (Ex.op x)),.v (.int .i64 (Ex.num x)),.sl (dR (Ex.kids x)) ((Ex.kids x).flatMap wI)]:=by
 cases x with|mk a n ks=>rw[wI,aJG];rfl
theorem EK(x:Ex):aM .ex x=[.v (.int .i64 (Ex.op x)),.v (.int .i64 (Ex.num x)),.sl (dR (Ex.kids x)) ((Ex.kids x).flatMap wI)]:=a6p x
theorem dJ:∀(τ:Ty)(x:τ.V),(aM τ x).length=τ.size
 |.i _,_=>rfl
 |.u8,_=>rfl
 |.bo,_=>rfl
 |.tx,_=>rfl
 |.ex,x=>by have:=aR dR (EK x);exact this
 |.un,_=>rfl
 |.sl _,_=>rfl
 |.pr a b,x=>by rw[aM,aL,dJ a,dJ b];rfl
theorem EJ{τ:Ty}(h:τ.one=true)(x:τ.V):aM τ x=[nD τ x]:=by
 cases τ <;> first|rfl|cases h
theorem a1G{τ:Ty}(h:τ.one=true):τ.size=1:=by cases τ <;> first|rfl|cases h
def iN:Nat->Value->Value->Prop
 |0,a,v=>v = .pointer none\/v=a
 |1,a,v=>∃p,v = .pointer p/\∀x n c,a = .slice x n c->0<n->p=x
 |j+2,_,v=>(j=1/\v = .nilIface)\/(j≠1/\∃te pe,v = .iface te pe)
mutual
def X.D:X->D
 |.e τ x=>match τ.one with|true=>.t (nD τ x)|false=>.any
 |.bW=>.t (.v (.slice none 0 0))
 |.agg xs=>.agg (Ds xs)
 |.aS xs=>.aS (Ds xs)
 |.own k=>.own k
 |.ref k off=>.ref k off
 |.rr k i j s=>.ref k (i*s+j)
 |.pt τ y j=>.ptr (aM τ y) j
 |.fn f xs=>.fn f (Ds xs)
 |.v w=>.t (.v w)
 |.bit _ q=>.t (.v (.bool q))
 |.eX _ c x=>match c with|true=>X.D x|false=>.aS []
 |.sub k i=>.sub k i
 |.jE k i j=>.jE k i j
 |.vw k i n s=>.vw k (i*s) n
 |.via k j=>.via k (iN j)
 |.jI k t=>.via k λp v=>v = .iface t p
 |.ag τ l=>.agg ((bR (aM τ) l).map .t)
 |.kQ _=>.any
def Ds:List X->List D
 |[]=>[]
 |x::l=>X.D x::Ds l
end
theorem aI8(g:Nat):(Ip g).D=N7 g:=match g with
 |0=>by kernel_rfl
 |1=>by kernel_rfl
 |2=>by kernel_rfl
 |3=>by kernel_rfl
 |4=>by kernel_rfl
 |g+5=>rfl
theorem hY:∀l:List X,Ds l=l.map X.D
 |[]=>rfl
 |x::l=>by rw[Ds,hY l];rfl
def kv:(τ:Ty)->τ.V->Value
 |.i k,x=>.int k x
 |.u8,x=>.int .u8 (wM x)
 |.bo,x=>.bool x
 |.tx,x=>.string ⟨⟨x⟩⟩
 |_,_=>.nilFunc
def dY{κ ρ:Ty}(x:ρ.V×List κ.V):List NC:=((aM ρ x.1).map λt=>.fK (.t t))++[.cX (dR x.2) (bR (aM κ) x.2)]
def mC(m:Nat)(cs:List NC):Option (Int×Nat)->List NC
 |none=>cs
 |some (i,q)=>cs.set (i.toNat*m+(m-1)) (.fK (.own q))
def XO.A:XO->aO
 |.bC e e' κ ρ l ln=>.bC e e' (ρ.size+1) κ.size l.length (mC (ρ.size+1) (bR dY l) ln)
 |.box e xs=>.box e (xs.map X.D)
 |.row e τ l st=>.row e τ.size l.length (l.flatMap (aM τ)) st
 |.nest e e' τ l=>.nest e e' τ.size (l.map λr=>(dR r,bR (aM τ) r))
 |.mp τ l=>.mp (l.map λp=>(kv τ p.1,p.2.D))
 |.it s pos=>.it ⟨s.toArray⟩ pos.toNat
 |.arr e τ l=>.box e ((bR (aM τ) l).map .t)
theorem pJ{τ:Ty}(h:τ.one=true)(x:τ.V):(X.e τ x).D = .t (nD τ x):=by unfold X.D;rw[h]
theorem ER:∀(τ:Ty)(x:τ.V),(zA τ x).map X.D=(aM τ x).map .t
 |.un,_=>rfl
 |.i _,_=>rfl
 |.u8,_=>rfl
 |.bo,_=>rfl
 |.tx,_=>rfl
 |.ex,x=>by
   have:=aR (wS D.t) (EK x);exact this.symm
 |.sl _,_=>rfl
 |.pr a b,x=>by rw[zA,aM,gH,gH,ER a,ER b]
theorem aJY{a b:Ty}(h:a=b)(x:a.V):aM b (j6 h x)=aM a x:=by subst h;rfl
theorem cJ.nil{H:Nat->Option aO}:cJ H (.t (.v (.slice none 0 0))) (.t (.sl 0 [])):=λ_ _ _ _ _ _ _ _ v hv=>by
 have:=bY hv;subst this;exact .t (.nil λ_=>rfl)
theorem cJ.own{H:Nat->Option aO}{k:Nat}{e:TypeId}{s n:Nat}{ts:List Tree}(h:H k=some (.row e s n ts true)):cJ H (.own k) (.t (.sl n ts)):=λ_ _ _ _ _ _ hH I v hv=>by
 cases hv with|own _ _=>exact .t (I.rows _ _ _ _ _ _ (hH _ _ h) rfl)
theorem sI{H:Nat->Option aO}{τ:Ty}{x:X}{y:τ.V}(h1:τ.one=true)(h:one? τ x=some y):cJ H x.D (.t (nD τ y)):=by
 unfold one? at h;split at h
 .rename_i τ' z
  split at h
  .rename_i he _
   cases h;have e:=he;subst e;rw[pJ h1];exact cJ.refl
  .cases h
 .split at h
  .cases h;exact cJ.nil
  .cases h
 .cases h
inductive eE (H:Nat->Option aO):List D->List D->Prop
 |nil:eE H [] []
 |cons {a b:D} {l m:List D} (h:cJ H a b) (r:eE H l m):eE H (a::l) (b::m)
theorem eE.refl{H:Nat->Option aO}:∀{l:List D},eE H l l
 |[]=>.nil
 |_::_=>.cons cJ.refl eE.refl
theorem eE.trans{H:Nat->Option aO}:∀{a b c:List D},eE H a b->eE H b c->eE H a c
 |_,_,_,.nil,.nil=>.nil
 |_,_,_,.cons h r,.cons h' r'=>.cons (h.trans h') (r.trans r')
theorem eE.app{H:Nat->Option aO}:∀{a b c d:List D},eE H a b->eE H c d->eE H (a++c) (b++d)
 |_,_,_,_,.nil,h=>h
 |_,_,_,_,.cons h r,h'=>.cons h (r.app h')
theorem eE.len{H:Nat->Option aO}{a b:List D}(h:eE H a b):a.length=b.length:=by
 induction h with
 |nil=>rfl
 |cons _ _ ih=>simp[ih]
theorem eE.get{H:Nat->Option aO}{a b:List D}(h:eE H a b):∀(i:Nat)(d:D),b[i]?=some d->∃d0,a[i]?=some d0/\cJ H d0 d:=by
 induction h with
 |nil=>intro i d h;simp at h
 |cons h r ih=>
   intro i d hi;cases i with
   |zero=>simp at hi;subst hi;exact⟨_,rfl,h⟩
   |succ i=>exact ih i d (by simpa using hi)
theorem eE.of_map{H:Nat->Option aO}{f g:X->D}:∀{l:List X},(∀x∈l,cJ H (f x) (g x))->eE H (l.map f) (l.map g)
 |[],_=>.nil
 |_::_,h=>.cons (h _ (by simp)) (eE.of_map λx hx=>h x (by simp[hx]))
theorem cJ.agg{H:Nat->Option aO}{a b:List D}(h:eE H a b):cJ H (.agg a) (.agg b):=λE s ν G w tm hH I v hv=>by
 cases hv with
 |agg hl hr h1=>
   refine .agg (hl.trans h.len) (λi u d hu hd=>?_) h1;obtain⟨d0,e0,hw⟩:=h.get i d hd;exact hw E s ν G w tm hH I u (hr i u d0 hu e0)
theorem YA{H:Nat->Option aO}:∀(τ:Ty)(xs:List X)(y:τ.V)(r:List X),sM τ xs=some (y,r)->∃pre,xs=pre++r/\eE H (pre.map X.D) ((aM τ y).map .t)
 |.pr a b,xs,y,r,h=>by
   unfold sM at h;split at h
   .rename_i x r1 h1
    split at h
    .rename_i z r2 h2
     cases h;obtain⟨p1,e1,w1⟩:=YA (H:=H) a xs x r1 h1;obtain⟨p2,e2,w2⟩:=YA (H:=H) b r1 z r h2;refine⟨p1++p2,by rw[e1,e2,List.append_assoc],?_⟩;have e3:(aM (.pr a b) (x,z)).map D.t=(aM a x).map D.t++(aM b z).map D.t:=by rw[<-gH];rfl
     rw[e3,gH];exact w1.app w2
    .cases h
   .cases h
 |.un,xs,y,r,h=>by cases h;exact⟨[],rfl,.nil⟩
 |.ex,[],y,r,h=>by cases h
 |.ex,[_],y,r,h=>by cases h
 |.ex,[_,_],y,r,h=>by cases h
 |.ex,a::b::c::r',y,r,h=>by
   simp only[sM]at h;split at h
   .rename_i x h1
    split at h
    .rename_i z h2
     split at h
     .rename_i u h3
      cases h;refine⟨[a,b,c],rfl,?_⟩;rw[EK];exact .cons (sI rfl h1) (.cons (sI rfl h2) (.cons (sI rfl h3) .nil))
     .cases h
    .cases h
   .cases h
 |.i k,[],y,r,h=>by cases h
 |.i k,x::l,y,r,h=>by
   unfold sM at h;split at h
   .rename_i z h1;cases h;exact⟨[x],rfl,.cons (sI rfl h1) .nil⟩
   .cases h
 |.u8,[],y,r,h=>by cases h
 |.u8,x::l,y,r,h=>by
   unfold sM at h;split at h
   .rename_i z h1;cases h;exact⟨[x],rfl,.cons (sI rfl h1) .nil⟩
   .cases h
 |.bo,[],y,r,h=>by cases h
 |.bo,x::l,y,r,h=>by
   unfold sM at h;split at h
   .rename_i z h1;cases h;exact⟨[x],rfl,.cons (sI rfl h1) .nil⟩
   .cases h
 |.tx,[],y,r,h=>by cases h
 |.tx,x::l,y,r,h=>by
   unfold sM at h;split at h
   .rename_i z h1;cases h;exact⟨[x],rfl,.cons (sI rfl h1) .nil⟩
   .cases h
 |.sl t,[],y,r,h=>by cases h
 |.sl t,x::l,y,r,h=>by
   unfold sM at h;split at h
   .rename_i z h1;cases h;exact⟨[x],rfl,.cons (sI rfl h1) .nil⟩
   .cases h
theorem sN{H:Nat->Option aO}{τ:Ty}{xs:List X}{y:τ.V}(h:wD τ xs=some y):eE H (xs.map X.D) ((aM τ y).map .t):=by
 unfold wD at h;split at h
 .rename_i z h1
  cases h;obtain⟨pre,e,hw⟩:=YA (H:=H) τ xs y [] h1;rw[e,List.append_nil];exact hw
 .cases h
def Vw.den(σ:Vw):St:=⟨λt=>(σ.T t).map X.D,λk=>(σ.H k).map XO.A,λ_=>false⟩
theorem dI{σ:Vw}{k:Nat}{o:XO}(h:σ.H k=some o):σ.den.H k=some o.A:=by simp[Vw.den,h]
theorem sV{σ:Vw}{t:Nat}{x:X}(h:σ.T t=some x):σ.den.T t=some x.D:=by simp[Vw.den,h]
theorem yN(σ:Vw)(x:X):cJ σ.den.H x.D (σ.kI x).D:=by
 unfold Vw.kI;split
 .rename_i q
  split
  .rename_i e τ l h
   exact cJ.own (e:=e) (s:=τ.size) (by rw[dI h];rfl)
  .exact cJ.refl
 .exact cJ.refl
theorem N8(σ:Vw)(x:X):cJ σ.den.H x.D (σ.nW x).D:=by
 unfold Vw.nW;split
 .rename_i xs
  unfold X.D;rw[hY,hY,qN];exact cJ.agg (eE.of_map (f:=X.D) (g:=X.D ∘ σ.kI) λx _=>yN σ x)
 .exact yN σ _
theorem a7Q{x:X}(h:x.val=true)(h':x.D.val=true):x.D.cells=x.cells.map X.D:=by
 cases x with
 |agg xs=>unfold X.D;rw[hY];rfl
 |e τ y=>
   unfold X.D X.cells;cases hτ:τ.one with
   |true=>simp[D.cells,pJ hτ]
   |false=>rw[show(X.e τ y).D = .any by unfold X.D;rw[hτ]]at h';cases h'
 |aS xs=>cases h
 |eX key c x=>cases h
 |bit j q=>cases h
 |bW=>rfl
 |own k=>rfl
 |ref k off=>rfl
 |rr k i j s=>rfl
 |pt τ y j=>rfl
 |fn f xs=>rfl
 |v w=>rfl
 |sub k i=>rfl
 |jE k i j=>rfl
 |vw k i n s=>rfl
 |via k j=>rfl
 |jI k j=>rfl
 |ag τ l=>cases h
 |kQ v=>cases h
end Go.Ax
/- States of the run, and a region whose operations run one after the other. -/
namespace Go.Ax
open aA
open Go.RowKit Go.Ab
theorem bF{α:Type}{x:Option α}{k:α->O}{r:aF}(h:ob x k=some r):∃y,x=some y/\k y=some r:=by
 unfold ob at h;split at h
 .exact⟨_,rfl,h⟩
 .cases h
theorem wJ{b:Bool}{x y:O}{r:aF}(h:br b x y=some r):(b=true/\x=some r)\/(b=false/\y=some r):=by
 cases b
 .exact .inr ⟨rfl,h⟩
 .exact .inl ⟨rfl,h⟩
theorem eL{b:Bool}{x:O}{r:aF}(h:ck b x=some r):b=true/\x=some r:=by
 cases b
 .cases h
 .exact⟨rfl,h⟩
theorem Im{α:Type}{l:List α}{n:Int}{k:α->O}{r:aF}(h:gx l n k=some r):∃y,0<=n/\l[n.toNat]?=some y/\k y=some r:=by
 change wF l n k=some r at h;unfold wF at h;split at h
 .rename_i y hy
  split at hy
  .cases hy
  .exact⟨y,by omega,hy,h⟩
 .cases h
theorem oX{α:Type}{l:List α}{n:Nat}{k:α->O}{r:aF}(h:gn l n k=some r):∃y,l[n]?=some y/\k y=some r:=by
 change Io l n k=some r at h;unfold Io at h;split at h
 .exact⟨_,‹_›,h⟩
 .cases h
theorem qF{a b:Nat}(h:aY a b=false):a≠b:=λe=>by subst e;simp at h
theorem qA{a b:Nat}(h:a≠b):aY a b=false:=by
 cases hb:aY a b with
 |false=>rfl
 |true=>exact absurd (bB hb) h
theorem Nz{w q:Bool}(h:zB w q=true):q=w:=by cases w <;> cases q <;> first|rfl|cases h
theorem OA{w q:Bool}(h:zB w q=false):q=!w:=by cases w <;> cases q <;> first|rfl|cases h
theorem NO{α:Type}{k:Nat}:∀{l:List (Nat×α)},lk k l=Ab.look k l
 |[]=>rfl
 |(k',x)::l=>by
   unfold lk Ab.look;by_cases e:k'=k
   .subst e;simp
   .have:aY k' k=false:=qA e
    rw[this,aE e];exact NO
theorem lY{α β:Type}{k:Nat}{x:α}:∀{l:List (Nat×α)}{f:List (Nat×α)->Option β}{r:β},lA k x l f=some r->∃l',f l'=some r/\∀k',lk k' l'=if k=k' then some x else lk k' l
 |[],f,r,h=>⟨_,h,λk'=>by
   simp only[lk];by_cases e:k=k'
   .subst e;simp
   .have:aY k k'=false:=qA e
    rw[this,aE e]⟩
 |(k',y)::l,f,r,h=>by
   unfold lA at h;split at h
   .rename_i he
    have he:=bB he;subst he;refine⟨_,h,λj=>?_⟩;simp only[lk];by_cases e:k'=j
    .subst e;simp
    .have:aY k' j=false:=qA e
     rw[this,aE e]
   .rename_i he
    have he:=qF he;obtain⟨l',h1,h2⟩:=lY h;refine⟨_,h1,λj=>?_⟩;simp only[lk];by_cases e:k'=j
    .subst e
     rw[aE (λe=>he e.symm)];simp
    .have:aY k' j=false:=qA e
     rw[this];exact h2 j
theorem EO{α β:Type}{k:Nat}:∀{l:List (Nat×α)}{f:List (Nat×α)->Option β}{r:β},sW k l f=some r->∃l',f l'=some r/\∀k',lk k' l'=if k=k' then none else lk k' l
 |[],f,r,h=>⟨_,h,λk'=>by simp[lk]⟩
 |(k',y)::l,f,r,h=>by
   unfold sW at h;split at h
   .rename_i he
    have he:=bB he;subst he;obtain⟨l',h1,h2⟩:=EO h;refine⟨_,h1,λj=>?_⟩;rw[h2];simp only[lk];by_cases e:k'=j
    .simp[e]
    .have:aY k' j=false:=qA e
     rw[this]
   .rename_i he
    have he:=qF he;obtain⟨l',h1,h2⟩:=EO h;refine⟨_,h1,λj=>?_⟩;simp only[lk];by_cases e:k'=j
    .subst e
     rw[aE (λe=>he e.symm)];simp
    .have:aY k' j=false:=qA e
     rw[this];exact h2 j
theorem D1{dst:Option Tmp}{x:X}{T:XT}{f:XT->O}{r:aF}(h:vW dst x T f=some r):∃T',f T'=some r/\∀t,lk t T'=if dst=some t then some x else lk t T:=by
 cases dst with
 |none=>exact⟨T,h,λt=>by simp⟩
 |some d=>
   obtain⟨T',h1,h2⟩:=lY h;refine⟨T',h1,λt=>?_⟩;rw[h2];by_cases e:d=t
   .simp[e]
   .simp[e]
theorem xI:∀{W:Wx}{H:XH}{f:XH->O}{r:aF},nP W H f=some r->∃H',f H'=some r/\∀k,lk k H'=match Ab.look k W with|some o=>o|none=>lk k H
 |[],H,f,r,h=>⟨H,h,λk=>rfl⟩
 |(k0,some o)::W,H,f,r,h=>by
   unfold nP at h;obtain⟨H1,h1,h2⟩:=xI h;obtain⟨H2,h3,h4⟩:=lY h1;refine⟨H2,h3,λk=>?_⟩;rw[h4];unfold Ab.look;by_cases e:k0=k
   .simp[e]
   .simp only[aE e];exact h2 k
 |(k0,none)::W,H,f,r,h=>by
   unfold nP at h;obtain⟨H1,h1,h2⟩:=xI h;obtain⟨H2,h3,h4⟩:=EO h1;refine⟨H2,h3,λk=>?_⟩;rw[h4];unfold Ab.look;by_cases e:k0=k
   .simp[e]
   .simp only[aE e];exact h2 k
def Good(κ:Nat->Bool):X->Prop
 |.bit j q=>κ (2*j+1)=q/\κ (2*j)=!q
 |.eX key c x=>c=κ key/\(match x with|.bit j q=>κ (2*j+1)=(c&&q)/\κ (2*j)=(c&&!q)|.eX ..=>False|_=>True)
 |_=>True
theorem BA{κ:Nat->Bool}{x:X}(h:x.pl=true):Good κ x:=by
 cases x <;> first|exact u6|cases h
structure Vw.Ok(σ:Vw)(κ:Nat->Bool):Prop where
 sP:∀t x,σ.T t=some x->Good κ x
 g:∀key c,σ.g=some (key,c)->c=κ key
def Vw.On(σ:Vw):Prop:=∀key c,σ.g=some (key,c)->c=true
def WA(W:Wx):Wr:=W.map λp=>(p.1,p.2.map XO.A)
theorem Xn{k:Nat}:∀{W:Wx},Ab.look k (WA W)=(Ab.look k W).map (·.map XO.A)
 |[]=>rfl
 |(k',o)::W=>by
   unfold WA Ab.look;simp only[iH];by_cases e:k'=k
   .simp[e]
   .rw[aE e]
    have:=Xn (k:=k) (W:=W);unfold WA at this;simp only[aE e];exact this
def OH(c:Cx):Prop:=∀(σ:Vw)(κ:Nat->Bool)(fr:Nat)(st:Bool)(o:Oper)(k:X->Wx->O)(r:aF),σ.Ok κ->eP c σ fr st o k=some r->∃x W,k x W=some r/\x.pl=true/\(σ.On->aW c.P o σ.den fr x.D (WA W))
def OJ(c:Cx):Prop:=∀(σ:Vw)(κ:Nat->Bool)(fr:Nat)(o:Oper)(k:X->Wx->O)(kp:Value->Wx->O)(els:O)(r:aF),σ.Ok κ->σ.g=none->Mn c σ fr o k kp els=some r->
 els=some r\/(∃x W,k x W=some r/\x.pl=true/\(σ.On->aW c.P o σ.den fr x.D (WA W)))\/∃v W,kp v W=some r/\(σ.On->Bc c.P o σ.den fr v (WA W))
structure hJ(T:XT)(H:XH)(s:St):Prop where
 T:∀t x,lk t T=some x->s.T t=some x.D
 H:∀k o,lk k H=some o->s.H k=some o.A
theorem JY{P:Program}{o:Oper}{σ s:St}{fr:Nat}{d:D}{W:Wr}(h:aW P o σ fr d W)(hT:∀t d,σ.T t=some d->s.T t=some d)(hH:∀k o,σ.H k=some o->s.H k=some o):aW P o s fr d W:=
 λE σ₁ a w h1 h2 h3 h4 h5 h6 Q=>h E σ₁ a w (λt d ht=>h1 t d (hT t d ht)) (λk o hk=>h2 k o (hH k o hk)) h3 h4 h5 h6 Q
theorem aKV{P:Program}{o:Oper}{σ s:St}{fr:Nat}{v:Value}{W:Wr}(h:Bc P o σ fr v W)(hT:∀t d,σ.T t=some d->s.T t=some d)(hH:∀k o,σ.H k=some o->s.H k=some o):Bc P o s fr v W:=
 λE σ₁ a w h1 h2 h3 h4 h5=>h E σ₁ a w (λt d ht=>h1 t d (hT t d ht)) (λk o hk=>h2 k o (hH k o hk)) h3 h4 h5
theorem hJ.aP{T T':XT}{H H':XH}{s:St}(h:hJ T H s){dst:Option Tmp}{x:X}{W:Wx}{fr:Nat}(hT:∀t,lk t T'=if dst=some t then some x else lk t T)(hH:∀k,lk k H'=match Ab.look k W with|some o=>o|none=>lk k H):
    hJ T' H' (s.aP dst x.D (WA W) fr) where
 T:=λt y ht=>by
  rw[hT]at ht;simp only[St.aP];by_cases e:dst=some t
  .rw[aI e]at ht ⊢;cases ht;rfl
  .rw[aE e]at ht ⊢;exact h.T t y ht
 H:=λk o hk=>by
  rw[hH]at hk;simp only[St.aP,Xn];cases hl:Ab.look k W with
  |none=>simp only[hl]at hk;exact h.H k o hk
  |some o'=>simp only[hl]at hk;simp[hk]
def nK(κ:Nat->Bool)(j:Nat)(a b:Bool)(k:Nat):Bool:=if k=2*j+1 then a else if k=2*j then b else κ k
theorem aAE{κ:Nat->Bool}{j:Nat}{a b:Bool}:nK κ j a b (2*j+1)=a:=by simp[nK]
theorem aAF{κ:Nat->Bool}{j:Nat}{a b:Bool}:nK κ j a b (2*j)=b:=by
 unfold nK;rw[aE (by omega),aI rfl]
theorem Good.set{κ:Nat->Bool}{j:Nat}{a b:Bool}{x:X}(h:Good κ x)(hu:uB j x=false):Good (nK κ j a b) x:=by
 have bt:∀j',aY j' j=false->nK κ j a b (2*j'+1)=κ (2*j'+1)/\nK κ j a b (2*j')=κ (2*j'):=λj' hj=>by
  have:=qF hj;unfold nK;exact⟨by rw[aE (by omega),aE (by omega)],by rw[aE (by omega),aE (by omega)]⟩
 cases x with
 |bit j' q=>
   simp only[uB]at hu;obtain⟨h1,h2⟩:=h;exact⟨(bt j' hu).1.trans h1,(bt j' hu).2.trans h2⟩
 |eX key c y=>
   simp only[uB,aK9]at hu;obtain⟨⟨hu1,hu2⟩,hu3⟩:=hu;obtain⟨h1,h2⟩:=h;have hk:nK κ j a b key=κ key:=by
    have:=qF hu1;have:=qF hu2;unfold nK;rw[aE (by omega),aE (by omega)]
   refine⟨h1.trans hk.symm,?_⟩;cases y with
   |bit j' q=>
     simp only at hu3 h2 ⊢;exact⟨(bt j' hu3).1.trans h2.1,(bt j' hu3).2.trans h2.2⟩
   |eX _ _ _=>exact h2
   |_=>exact u6
 |_=>exact u6
theorem YZ{j:Nat}:∀{T:XT},Iq j T=true->∀t x,lk t T=some x->uB j x=false
 |[],_,t,x,h=>by cases h
 |(t',y)::l,hf,t,x,h=>by
   unfold Iq at hf;split at hf
   .cases hf
   .rename_i hu
    unfold lk at h;split at h
    .cases h;exact hu
    .exact YZ hf t x h
theorem aJ7{κ:Nat->Bool}{j:Nat}{q w:Bool}(h1:κ (2*j+1)=q)(h2:κ (2*j)=!q):κ (B1 j w)=zB w q:=by
 cases w
 .exact h2
 .exact h1
theorem aJ6{κ:Nat->Bool}{j:Nat}{c q w:Bool}(h1:κ (2*j+1)=(c&&q))(h2:κ (2*j)=(c&&!q)):κ (B1 j w)=(c&&zB w q):=by
 cases w
 .exact h2
 .exact h1
theorem aI0{o:Oper}{ops:List Oper}{T:Nat->Option X}{g:Gd}(h:N2 o ops T=some g):match g with
    |.on=>o.guard=none
    |.off=>∃j w t,o.guard=some (j,w)/\(ops[j]?).bind (·.dst)=some t/\T t=some (.aS [])
    |.kn b=>∃j w t v,o.guard=some (j,w)/\(ops[j]?).bind (·.dst)=some t/\T t=some (.v (.bool v))/\(b=true->v=w)/\(b=false->v=!w)
    |.cd key b t j y new=>∃w x,o.guard=some (j,w)/\(ops[j]?).bind (·.dst)=some t/\T t=some x/\key=B1 j w/\y.D=x.D/\(b=true->x.D = .t (.v (.bool w)))/\(b=false->x.D = .aS []\/x.D = .t (.v (.bool (!w)))) /\
        ∀κ:Nat->Bool,Good κ x->(new=false->Good κ y/\b=κ key)/\(new=true->∃a c,∀κ':Nat->Bool,κ' (2*j+1)=a->κ' (2*j)=c->(∀key' c' x',x = .eX key' c' x'->κ' key'=κ key')->Good κ' y/\b=κ' key):=by
 unfold N2 at h;split at h
 .cases h;assumption
 .rename_i j w hg
  split at h
  case h_2=>cases h
  rename_i oj hj;split at h
  case h_2=>cases h
  rename_i t ht;have hdst:(ops[j]?).bind (·.dst)=some t:=by rw[hj];exact ht
  split at h
  .rename_i q hT
   cases h;refine⟨w,_,hg,hdst,hT,rfl,rfl,λhb=>?_,λhb=>?_,λκ _=>⟨λh=>(by cases h),λ_=>⟨q,!q,λκ' h1 h2 _=>⟨⟨h1,h2⟩,(aJ7 h1 h2).symm⟩⟩⟩⟩
   .exact aR (λb=>D.t (.v (.bool b))) (Nz hb)
   .exact .inr (aR (λb=>D.t (.v (.bool b))) (OA hb))
  .rename_i j' q hT
   split at h
   .rename_i he
    have he:=bB he;subst he;cases h;refine⟨w,_,hg,hdst,hT,rfl,rfl,λhb=>?_,λhb=>?_,λκ hG=>⟨λ_=>⟨hG,(aJ7 hG.1 hG.2).symm⟩,λh=>by cases h⟩⟩
    .exact aR (λb=>D.t (.v (.bool b))) (Nz hb)
    .exact .inr (aR (λb=>D.t (.v (.bool b))) (OA hb))
   .cases h
  .rename_i key c q hT
   cases h;refine⟨w,_,hg,hdst,hT,rfl,by cases c <;> rfl,λhb=>?_,λhb=>?_,λκ hG=>⟨λh=>(by cases h),λ_=>⟨c&&q,c&&!q,λκ' h1 h2 h3=>⟨⟨hG.1.trans (h3 key c _ rfl).symm,h1,h2⟩,(aJ6 h1 h2).symm⟩⟩⟩⟩
   .simp only[aT]at hb
    obtain⟨hc,hb⟩:=hb;subst hc;exact aR (λb=>D.t (.v (.bool b))) (Nz hb)
   .cases c
    .left;rfl
    .right
     exact aR (λb=>D.t (.v (.bool b))) (OA hb)
  .rename_i key c j' q hT
   split at h
   .rename_i he
    have he:=bB he;subst he;cases h;refine⟨w,_,hg,hdst,hT,rfl,rfl,λhb=>?_,λhb=>?_,λκ hG=>⟨λ_=>⟨hG,(aJ6 hG.2.1 hG.2.2).symm⟩,λh=>by cases h⟩⟩
    .simp only[aT]at hb
     obtain⟨hc,hb⟩:=hb;subst hc;exact aR (λb=>D.t (.v (.bool b))) (Nz hb)
    .cases c
     .left;rfl
     .right
      exact aR (λb=>D.t (.v (.bool b))) (OA hb)
   .cases h
  .rename_i hT
   cases h;exact⟨j,w,t,hg,hdst,hT⟩
  .rename_i v hT
   cases h;refine⟨j,w,t,v,hg,hdst,hT,λh=>?_,λh=>?_⟩
   .cases v <;> cases w <;> first|rfl|cases h
   .cases v <;> cases w <;> first|rfl|cases h
  .cases h
end Go.Ax
/- A region whose operations run one after the other. -/
namespace Go.Ax
open aA
open Go.RowKit Go.Ab
theorem Yq{k:Nat}:∀{l:XT}{f:XT->O}{r:aF},sW k l f=some r->oN l=true->∃l',f l'=some r/\(∀k',lk k' l'=if k=k' then none else lk k' l)/\oN l'=true
 |[],f,r,h,_=>⟨_,h,(λk'=>by simp[lk]),rfl⟩
 |(k',y)::l,f,r,h,hp=>by
   have hp':=hp;unfold oN at hp';split at hp'
   case h_2=>cases hp'
   rename_i hy;unfold sW at h;split at h
   .rename_i he
    have he:=bB he;subst he;obtain⟨l',h1,h2,h3⟩:=Yq h hp';refine⟨l',h1,λj=>?_,h3⟩;rw[h2];simp only[lk];by_cases e:k'=j
    .simp[e]
    .rw[qA e]
   .rename_i he
    have he:=qF he;obtain⟨l',h1,h2,h3⟩:=Yq h hp';refine⟨_,h1,λj=>?_,by unfold oN;rw[hy];exact h3⟩;simp only[lk];by_cases e:k'=j
    .subst e
     rw[aE (λe=>he e.symm)];simp
    .rw[qA e]
     exact h2 j
theorem XF:∀{T:XT},oN T=true->∀t x,lk t T=some x->x.pl=true
 |[],_,t,x,h=>by cases h
 |(t',y)::l,hf,t,x,h=>by
   unfold oN at hf;split at hf
   case h_2=>cases hf
   rename_i hy;unfold lk at h;split at h
   .cases h;exact hy
   .exact XF hf t x h
theorem IW:∀{T:XT}{f:XT->O}{r:aF},uJ T f=some r->∃T',f T'=some r/\(∀t x,lk t T'=some x->∃y,lk t T=some y/\x.D=y.D)/\oN T'=true
 |[],f,r,h=>⟨[],h,(λt x h=>by cases h),rfl⟩
 |(t0,x0)::l,f,r,h=>by
   unfold uJ at h;have key:∀(x1:X)(_:x1.pl=true)(_:x1.D=x0.D)(_:uJ l (λl'=>f ((t0,x1)::l'))=some r),∃T',f T'=some r/\(∀t x,lk t T'=some x->∃y,lk t ((t0,x0)::l)=some y/\x.D=y.D)/\oN T'=true:=λx1 hp hD hh=>by
    obtain⟨l',h1,h2,h3⟩:=IW hh;refine⟨_,h1,λt x ht=>?_,by unfold oN;rw[hp];exact h3⟩;unfold lk at ht ⊢;split at ht
    .rename_i he;cases ht;exact⟨x0,rfl,hD⟩
    .rename_i he;exact h2 t x ht
   split at h
   .rename_i j q;exact key (.e .bo q) rfl rfl h
   .rename_i key0 c y
    obtain⟨l',h1,h2,h3⟩:=IW h;obtain⟨l2,h4,h5,h6⟩:=Yq h1 h3;refine⟨l2,h4,λt x ht=>?_,h6⟩;rw[h5]at ht;split at ht
    .cases ht
    .rename_i he
     unfold lk;rw[qA he];exact h2 t x ht
   .rename_i q;exact key (.e .bo q) rfl rfl h
   .rename_i h1 h2 h3
    refine key x0 ?_ rfl h;cases x0 with
    |bit j q=>exact absurd rfl (h1 j q)
    |eX k c y=>exact absurd rfl (h2 k c y)
    |_=>rfl
theorem aHq{W:Wx}{k:O}{r:aF}(h:X4 W k=some r):W=[]/\k=some r:=by
 cases W with
 |nil=>exact⟨rfl,h⟩
 |cons _ _=>cases h
theorem hJ.T'{T T':XT}{H:XH}{s:St}(h:hJ T H s)(hT:∀t x,lk t T'=some x->∃y,lk t T=some y/\x.D=y.D):hJ T' H s:=
 ⟨λt x ht=>let⟨y,h1,h2⟩:=hT t x ht;by rw[h2];exact h.T t y h1,h.H⟩
theorem Dg{c:Cx}(hs:OH c)(hpn:OJ c){stF:List Nat}{all:List Oper}:∀(l:List Oper)(i:Nat)(σ:Sg)(k:Exit->Sg->O)(r:aF)(s:St)(κ:Nat->Bool),l7 c stF all l i σ k=some r->hJ σ.T σ.H s->(∀t x,lk t σ.T=some x->Good κ x)->
    ∃e σ',k e σ'=some r/\σ'.N=σ.N+8*l.length/\oN σ'.T=true/\pM c.P all.toArray (λe' s'=>e'=e/\hJ σ'.T σ'.H s') l σ.N s
 |[],i,σ,k,r,s,κ,h,hL,hG=>by
   unfold l7 at h;obtain⟨T',h1,h2,h3⟩:=IW h;exact⟨.normal,_,h1,rfl,h3,rfl,hL.T' h2⟩
 |o::rest,i,σ,k,r,s,κ,h,hL,hG=>by
   unfold l7 at h;obtain⟨g,hg,h⟩:=bF h;have hg':=aI0 hg;have hall:∀{j:Nat}{t:Tmp},(all[j]?).bind (·.dst)=some t->((all.toArray[j]?).bind (·.dst))=some t:=λh=>by simpa using h
   have onK:∀(T1:XT),hJ T1 σ.H s->(∀t x,lk t T1=some x->Good κ x)->tF all.toArray o s->(Dc c σ T1 (!(stF.contains i)) o (rest.length+1) k λσ'=>l7 c stF all rest (i+1) σ' k)=some r->
       ∃e σ',k e σ'=some r/\σ'.N=σ.N+8*(o::rest).length/\oN σ'.T=true/\pM c.P all.toArray (λe' s'=>e'=e/\hJ σ'.T σ'.H s') (o::rest) σ.N s:=λT1 hL1 hG1 hgd h=>by
    have hok:Vw.Ok ⟨λt=>lk t T1,λk=>lk k σ.H,none⟩ κ:=⟨hG1,λkey c h=>by cases h⟩;have hTT:∀t d,(Vw.den ⟨λt=>lk t T1,λk=>lk k σ.H,none⟩).T t=some d->s.T t=some d:=λt d ht=>by
     simp only[Vw.den]at ht;obtain⟨y,hy,rfl⟩:=cO.1 ht;exact hL1.T t y hy
    have hHH:∀q d,(Vw.den ⟨λt=>lk t T1,λk=>lk k σ.H,none⟩).H q=some d->s.H q=some d:=λq d ht=>by
     simp only[Vw.den]at ht;obtain⟨y,hy,rfl⟩:=cO.1 ht;exact hL1.H q y hy
    have nx:∀x W,(vW o.dst x T1 λT=>nP W σ.H λH=>l7 c stF all rest (i+1) ⟨T,H,σ.N+8⟩ k)=some r->x.pl=true->aW c.P o (Vw.den ⟨λt=>lk t T1,λk=>lk k σ.H,none⟩) σ.N x.D (WA W)->
        ∃e σ',k e σ'=some r/\σ'.N=σ.N+8*(o::rest).length/\oN σ'.T=true/\pM c.P all.toArray (λe' s'=>e'=e/\hJ σ'.T σ'.H s') (o::rest) σ.N s:=λx W h hp hop=>by
     obtain⟨T',h,hT⟩:=D1 h;obtain⟨H',h,hH⟩:=xI h;have hop:=JY (s:=s) hop hTT hHH;obtain⟨e,σ',h1,h2,h3,h4⟩:=Dg hs hpn rest (i+1) _ k r (s.aP o.dst x.D (WA W) σ.N) κ h (hL1.aP hT hH) (λt y ht=>by
      rw[hT]at ht;split at ht
      .cases ht;exact BA hp
      .exact hG1 t y ht)
     exact⟨e,σ',h1,by rw[h2];simp only[eD];omega,h3,.inl ⟨x.D,WA W,.inl ⟨hgd,hop⟩,h4⟩⟩
    unfold Dc at h;rcases hpn _ κ _ _ _ _ _ _ hok rfl h with h|⟨x,W,h,hp,hop⟩|⟨v,W,h,hop⟩
    .obtain⟨x,W,h,hp,hop⟩:=hs _ κ _ _ _ _ _ hok h
     exact nx x W h hp (hop (λkey c h=>by cases h))
    .exact nx x W h hp (hop (λkey c h=>by cases h))
    .obtain⟨H',h,hH⟩:=xI h
     obtain⟨T',h1,h2,h3⟩:=IW h;have hL2:hJ T1 H' (s.aP none .any (WA W) σ.N):=hL1.aP (dst:=none) (x:=.aS []) (λt=>by simp) hH;exact⟨_,_,h1,by simp only[eD],h3,.inr (.inr ⟨v,WA W,hgd,aKV (hop (λkey c h=>by cases h)) hTT hHH,rfl,hL2.T' h2⟩)⟩
   have offK:∀(T1:XT),hJ T1 σ.H s->(∀t x,lk t T1=some x->Good κ x)->JZ all.toArray o s->(D8 σ T1 o λσ'=>l7 c stF all rest (i+1) σ' k)=some r->
       ∃e σ',k e σ'=some r/\σ'.N=σ.N+8*(o::rest).length/\oN σ'.T=true/\pM c.P all.toArray (λe' s'=>e'=e/\hJ σ'.T σ'.H s') (o::rest) σ.N s:=λT1 hL1 hG1 hgd h=>by
    unfold D8 at h;obtain⟨T',h,hT⟩:=D1 h;obtain⟨e,σ',h1,h2,h3,h4⟩:=Dg hs hpn rest (i+1) _ k r (s.aP o.dst (X.aS []).D (WA []) σ.N) κ h (hL1.aP hT (λq=>rfl)) (λt y ht=>by
     rw[hT]at ht;split at ht
     .cases ht;exact u6
     .exact hG1 t y ht)
    exact⟨e,σ',h1,by rw[h2];simp only[eD];omega,h3,.inl ⟨_,_,.inr ⟨hgd,rfl,rfl⟩,h4⟩⟩
   cases g with
   |on=>
     simp only at h hg';exact onK σ.T hL hG (.inl hg') h
   |off=>
     simp only at h hg';obtain⟨j,w,t,e1,e2,e3⟩:=hg';exact offK σ.T hL hG ⟨j,w,t,_,e1,hall e2,hL.T t _ e3,.inl rfl⟩ h
   |kn b=>
     obtain⟨j,w,t,v,e1,e2,e3,e4,e5⟩:=hg';cases b with
     |true=>
       have:=e4 rfl;subst this;exact onK σ.T hL hG (.inr ⟨j,v,t,e1,hall e2,hL.T t _ e3⟩) h
     |false=>
       have:=e5 rfl;subst this;exact offK σ.T hL hG ⟨j,w,t,_,e1,hall e2,hL.T t _ e3,.inr rfl⟩ h
   |cd key b t j y new=>
     simp only at h hg';obtain⟨w,x0,e1,e2,e3,e4,e5,e6,e7,e8⟩:=hg';split at h
     .split at h
      case h_2=>cases h
      rename_i jj q jg w' hgw;rw[e1]at hgw;obtain⟨rfl,rfl⟩:=a8Z (gZ hgw);have hx0:x0.D = .t (.v (.bool q)):=e5.symm;have key:∀(T1:XT)(v:Bool),q=v->(∀t',lk t' T1=if t=t' then some (.v (.bool v))else lk t' σ.T)->hJ T1 σ.H s/\(∀t x,lk t T1=some x->Good κ x)/\s.T t=some (.t (.v (.bool v))):=λT1 v hq hT=>by
       subst hq;refine⟨hL.T' λt' x ht=>?_,λt' x ht=>?_,by rw[hL.T t x0 e3,hx0]⟩
       .rw[hT]at ht
        split at ht
        .rename_i he;cases ht;subst he;exact⟨x0,e3,hx0.symm⟩
        .exact⟨x,ht,rfl⟩
       .rw[hT]at ht
        split at ht
        .cases ht;exact u6
        .exact hG t' x ht
      rcases wJ h with⟨hq,h⟩|⟨hq,h⟩
      .obtain⟨T1,h,hT1⟩:=lY h
       obtain⟨k1,k2,k3⟩:=key T1 true hq hT1;cases w with
       |true=>exact onK T1 k1 k2 (.inr ⟨_,_,t,e1,hall e2,k3⟩) h
       |false=>exact offK T1 k1 k2 ⟨_,_,t,_,e1,hall e2,k3,.inr rfl⟩ h
      .obtain⟨T1,h,hT1⟩:=lY h
       obtain⟨k1,k2,k3⟩:=key T1 false hq hT1;cases w with
       |true=>exact offK T1 k1 k2 ⟨_,_,t,_,e1,hall e2,k3,.inr rfl⟩ h
       |false=>exact onK T1 k1 k2 (.inr ⟨_,_,t,e1,hall e2,k3⟩) h
     split at h
     case h_2=>cases h
     rename_i hfree;obtain⟨T1,h,hT1⟩:=lY h
     -- the keys
     have hκ:∃κ':Nat->Bool,(∀t x,lk t T1=some x->Good κ' x)/\b=κ' key:=by
      obtain⟨k1,k2⟩:=e8 κ (hG t x0 e3);cases hn:new with
      |false=>
        obtain⟨g1,g2⟩:=k1 hn;refine⟨κ,λt' x' ht=>?_,g2⟩;rw[hT1]at ht;split at ht
        .cases ht;exact g1
        .exact hG t' x' ht
      |true=>
        obtain⟨a,cc,k3⟩:=k2 hn;rw[hn]at hfree;have hf:Iq j σ.T=true:=by simpa using hfree
        obtain⟨g1,g2⟩:=k3 (nK κ j a cc) aAE aAF (λkey' c' x' hx=>by
         have:=YZ hf t x0 e3;rw[hx]at this;simp only[uB,aK9]at this;have h1:=qF this.1.1;have h2:=qF this.1.2;unfold nK;rw[aE (by omega),aE (by omega)])
        refine⟨nK κ j a cc,λt' x' ht=>?_,g2⟩;rw[hT1]at ht;split at ht
        .cases ht;exact g1
        .exact(hG t' x' ht).set (YZ hf t' x' ht)
     obtain⟨κ',hG1,hb⟩:=hκ;have hL1:hJ T1 σ.H s:=⟨λt' x' ht=>by
      rw[hT1]at ht;split at ht
      .rename_i he
       cases ht;subst he;rw[e5];exact hL.T t x0 e3
      .exact hL.T t' x' ht,hL.H⟩
     have hok:Vw.Ok ⟨λt=>lk t T1,λk=>lk k σ.H,some (key,b)⟩ κ':=⟨hG1,λkey' c' h=>by cases h;exact hb⟩;have hle:∀{x:D}{W:Wr},aW c.P o (Vw.den ⟨λt=>lk t T1,λk=>lk k σ.H,some (key,b)⟩) σ.N x W->aW c.P o s σ.N x W:=λhop=>JY hop (λt d ht=>by
      simp only[Vw.den]at ht;obtain⟨y,hy,rfl⟩:=cO.1 ht;exact hL1.T t y hy) (λq d ht=>by
      simp only[Vw.den]at ht;obtain⟨y,hy,rfl⟩:=cO.1 ht;exact hL1.H q y hy)
     have hTt:=hL.T t x0 e3;have hoff:b=false->qI c.P all.toArray o s σ.N (.aS []) []:=λhb'=>.inr ⟨⟨j,w,t,_,e1,hall e2,hTt,e7 hb'⟩,rfl,rfl⟩
     have hgd:b=true->tF all.toArray o s:=λhb'=>.inr ⟨j,w,t,e1,hall e2,by rw[hTt,e6 hb']⟩
     split at h
     ·-- it runs under a condition
      obtain⟨x,W,h,hp,hop⟩:=hs _ κ' _ _ _ _ _ hok h;obtain⟨hW,h9⟩:=aHq h;subst hW;clear h;obtain⟨T',h,hT⟩:=D1 h9;have hG':∀t y,lk t T'=some y->Good κ' y:=λt' y' ht=>by
       rw[hT]at ht;split at ht
       .cases ht
        refine⟨hb,?_⟩;cases x with
        |bit j q=>cases hp
        |eX k c y=>cases hp
        |_=>exact u6
       .exact hG1 t' y' ht
      obtain⟨e,σ',h1,h2,h3,h4⟩:=Dg hs hpn rest (i+1) _ k r (s.aP o.dst (X.eX key b x).D (WA []) σ.N) κ' h (hL1.aP hT (λq=>rfl)) hG';refine⟨e,σ',h1,by rw[h2];simp only[eD];omega,h3,.inl ⟨_,_,?_,h4⟩⟩;cases hbb:b with
      |false=>rw[hbb]at hoff;exact hoff rfl
      |true=>rw[hbb]at hgd hop hle;exact .inl ⟨hgd rfl,hle (hop (λkey' c' h=>by cases h;rfl))⟩
     ·-- two ways
      rcases wJ h with⟨hb',h⟩|⟨hb',h⟩
      .obtain⟨x,W,h,hp,hop⟩:=hs _ κ' _ _ _ _ _ hok h
       obtain⟨T',h,hT⟩:=D1 h;obtain⟨H',h,hH⟩:=xI h;obtain⟨e,σ',h1,h2,h3,h4⟩:=Dg hs hpn rest (i+1) _ k r (s.aP o.dst x.D (WA W) σ.N) κ' h (hL1.aP hT hH) (λt y ht=>by
        rw[hT]at ht;split at ht
        .cases ht;exact BA hp
        .exact hG1 t y ht)
       exact⟨e,σ',h1,by rw[h2];simp only[eD];omega,h3,.inl ⟨x.D,WA W,.inl ⟨hgd hb',hle (hop (λkey' c' h=>by cases h;exact hb'))⟩,h4⟩⟩
      .obtain⟨T',h,hT⟩:=D1 h
       obtain⟨e,σ',h1,h2,h3,h4⟩:=Dg hs hpn rest (i+1) _ k r (s.aP o.dst (X.aS []).D (WA []) σ.N) κ' h (hL1.aP hT (λq=>rfl)) (λt y ht=>by
        rw[hT]at ht;split at ht
        .cases ht;exact u6
        .exact hG1 t y ht)
       exact⟨e,σ',h1,by rw[h2];simp only[eD];omega,h3,.inl ⟨_,_,hoff hb',h4⟩⟩
end Go.Ax
/- A region that draws its order. -/
namespace Go.Ax
open aA
open Go.RowKit Go.Ab
def gR(rs:Rx):Rs:=rs.map λp=>(p.1.D,WA p.2)
theorem XP{t:Tmp}{j:Nat}:∀{l:List Oper}{p:Nat},BC t j p l=true->∀q o,l[q]?=some o->o.dst=some t->p+q=j
 |[],_,_,q,o,h,_=>by simp at h
 |o'::l,p,hu,q,o,h,hd=>by
   unfold BC at hu;have rest:BC t j (p+1) l=true->∀q',q=q'+1->p+q=j:=λhr q' e=>by
    subst e;have:=XP hr q' o (by simpa using h) hd;omega
   cases q with
   |succ q'=>
     split at hu
     .split at hu
      .cases hu
      .exact rest hu q' rfl
     .exact rest hu q' rfl
   |zero=>
     simp at h;subst h;rw[hd]at hu;simp only at hu;split at hu
     .cases hu
     .rename_i hb
      simp only[Bool.and_eq_false_iff,Bool.not_eq_false']at hb;rcases hb with hb|hb
      .simp at hb
      .have:=bB hb;omega
section
variable{ops:Array Oper}{pre kl:List (List Nat)}{fr:Nat}
theorem MO{σ:Vw}{dst:Option Tmp}{x:X}{W:Wx}(t:Nat):(MP σ dst x W).T t=if dst=some t then some x else σ.T t:=by
 unfold MP;cases dst with
 |none=>simp
 |some d=>
   simp only;by_cases e:d=t
   .subst e;simp
   .rw[qA e];simp[e]
theorem W7{S:Nat->Bool}:∀(rs:Rx)(j:Nat)(σ:Vw)(s:St),(∀t x,σ.T t=some x->s.T t=some x.D)->(∀k o,σ.H k=some o->s.H k=some o.A)->
    (∀t x,(q8 (Region.gG ops) S j rs σ).T t=some x->(cR ops fr S j (gR rs) s).T t=some x.D)/\(∀k o,(q8 (Region.gG ops) S j rs σ).H k=some o->(cR ops fr S j (gR rs) s).H k=some o.A)
 |[],j,σ,s,h1,h2=>⟨h1,h2⟩
 |(x,W)::rs,j,σ,s,h1,h2=>by
   unfold q8;simp only[gR,iH];unfold cR;cases hS:S j with
   |false=>simp only[Bool.false_eq_true,if_false];exact W7 rs (j+1) σ s h1 h2
   |true=>
     simp only[iO];refine W7 rs (j+1) _ _ (λt y hy=>?_) (λk o hk=>?_)
     .rw[MO]at hy
      simp only[St.aP];split at hy
      .rename_i e;cases hy;rw[aI e]
      .rename_i e;rw[aE e];exact h1 t y hy
     .simp only[MP,NO]at hk
      simp only[St.aP,Xn];cases hl:Ab.look k W with
      |none=>simp only[hl]at hk;exact h2 k o hk
      |some o'=>simp only[hl]at hk;simp[hk]
theorem W5{dst:Nat->Option Tmp}{S:Nat->Bool}:∀(rs:Rx)(j:Nat)(σ:Vw)(t:Nat)(x:X),(q8 dst S j rs σ).T t=some x->(∃p∈rs,p.1=x)\/σ.T t=some x
 |[],j,σ,t,x,h=>.inr h
 |(y,W)::rs,j,σ,t,x,h=>by
   unfold q8 at h;split at h
   .rcases W5 rs (j+1) _ t x h with⟨p,hp,e⟩|h
    .exact .inl ⟨p,fR _ hp,e⟩
    .rw[MO]at h
     split at h
     .cases h;exact .inl ⟨_,iB ..,rfl⟩
     .exact .inr h
   .rcases W5 rs (j+1) _ t x h with⟨p,hp,e⟩|h
    .exact .inl ⟨p,fR _ hp,e⟩
    .exact .inr h
theorem aG7{dst:Nat->Option Tmp}{S:Nat->Bool}{t:Nat}:∀(rs:Rx)(p:Nat)(σ:Vw),(∀q,p<=q->dst q≠some t)->(q8 dst S p rs σ).T t=σ.T t
 |[],p,σ,_=>rfl
 |(y,W)::rs,p,σ,h=>by
   unfold q8;rw[aG7 rs (p+1) _ (λq hq=>h q (by omega))];split
   .rw[MO,aE (h p (cE _))]
   .rfl
theorem W6{dst:Nat->Option Tmp}{S:Nat->Bool}{t j:Nat}(hS:S j=true)(hd:dst j=some t)(hu:∀q,q≠j->dst q≠some t):∀(rs:Rx)(p:Nat)(σ:Vw)(x:X)(W:Wx),p<=j->rs[j-p]?=some (x,W)->(q8 dst S p rs σ).T t=some x
 |[],p,σ,x,W,_,h=>by simp at h
 |(y,W')::rs,p,σ,x,W,hp,h=>by
   unfold q8;by_cases e:p=j
   .subst e
    simp only[kZ,List.getElem?_cons_zero,iR,Prod.mk.injEq]at h;obtain⟨rfl,rfl⟩:=h;rw[hS];simp only;rw[aG7 rs (p+1) _ (λq hq=>hu q (by omega)),MO,aI hd]
   .refine W6 hS hd hu rs (p+1) _ x W (by omega) ?_
    rw[show j-p=(j-(p+1))+1 by omega]at h;simpa using h
theorem a7E{i:Nat}{rs:Rx}{σ:Vw}{s:St}{g:Option (Nat×Bool)}(h1:∀t x,σ.T t=some x->s.T t=some x.D)(h2:∀k o,σ.H k=some o->s.H k=some o.A):
    (∀t d,(mG ops pre kl fr i rs σ g).den.T t=some d->(ctx ops pre kl fr i (gR rs) s).T t=some d)/\(∀k o,(mG ops pre kl fr i rs σ g).den.H k=some o->(ctx ops pre kl fr i (gR rs) s).H k=some o):=by
 obtain⟨q1,q2⟩:=W7 (ops:=ops) (fr:=fr) (S:=λj=>(pre.getD i []).contains j) rs 0 σ s h1 h2;refine⟨λt d h=>?_,λk o h=>?_⟩
 .simp only[Vw.den,mG]at h
  obtain⟨x,hx,rfl⟩:=cO.1 h;simp only[ctx];split at hx
  .cases hx
  .rename_i hf
   rw[aE (by rw[hf];simp)];exact q1 t x hx
 .simp only[Vw.den,mG]at h
  obtain⟨x,hx,rfl⟩:=cO.1 h;simp only[ctx];split at hx
  .cases hx
  .rename_i hf
   rw[aE (by rw[hf];simp)];exact q2 k x hx
theorem a7D{i:Nat}{rs:Rx}{σ:Vw}{g:Option (Nat×Bool)}{t:Nat}{x:X}(h:(mG ops pre kl fr i rs σ g).T t=some x):(∃p∈rs,p.1=x)\/σ.T t=some x:=by
 simp only[mG]at h;split at h
 .cases h
 .exact W5 rs 0 σ t x h
theorem XB{α β:Type}(f:α->β):∀(l:List α)(j:Nat)(x y:α),l[j]?=some y->f x=f y->(jG x j l).map f=l.map f
 |[],_,_,_,h,_=>by simp at h
 |z::l,0,x,y,h,e=>by simp at h;subst h;simp[jG,e]
 |z::l,j+1,x,y,h,e=>by simp only[jG,iH];rw[XB f l j x y (by simpa using h) e]
theorem XA{α:Type}(x:α)(j:Nat):jG x j []=[]:=by cases j <;> rfl
theorem XC{α:Type}:∀(l:List α)(j:Nat)(x:α),(jG x j l).length=l.length
 |[],j,x=>by rw[XA]
 |_::_,0,_=>rfl
 |_::l,j+1,x=>by simp only[jG,eD];rw[XC l j x]
theorem Mj{α:Type}:∀(l:List α)(j:Nat)(x z:α),z∈jG x j l->z=x\/z∈l
 |[],j,x,z,h=>by rw[XA]at h;cases h
 |y::l,0,x,z,h=>by
   rcases eZ.1 h with h|h
   .exact .inl h
   .exact .inr (fR _ h)
 |y::l,j+1,x,z,h=>by
   rcases eZ.1 h with h|h
   .exact .inr (by rw[h];exact iB ..)
   .rcases Mj l j x z h with h|h
    .exact .inl h
    .exact .inr (fR _ h)
theorem Y0{j:Nat}:∀{rs:Rx},Ir j rs=true->∀p∈rs,uB j p.1=false
 |[],_,p,h=>by cases h
 |(x,W)::l,hf,p,h=>by
   unfold Ir at hf;split at hf
   .cases hf
   .rename_i hu
    rcases eZ.1 h with h|h
    .rw[h];exact hu
    .exact Y0 hf p h
theorem aJu{W:Wx}{f:Nat->Bool}(h:W.all (λp=>f p.1)=true):((WA W).all λp=>f p.1)=true:=by
 rw[fG]at h ⊢;intro p hp;obtain⟨q,hq,rfl⟩:=gU.1 hp;exact h q hq
theorem aHr:∀{rs:Rx},ND rs=true->∀q∈gR rs,q.2=[]
 |[],_,q,hq=>by cases hq
 |(x,[])::l,h,q,hq=>by
   unfold ND at h;rcases eZ.1 hq with rfl|hq
   .rfl
   .exact aHr h q hq
 |(x,_::_)::l,h,q,hq=>by cases h
theorem a47{n i:Nat}(h:aIP pre n i=true):∀p,i<p->p<n->i∈pre.getD p []:=λp h1 h2=>by
 have:=fG.1 h p (List.mem_range.2 h2);rw[lS]at this;rcases this with h|h
 .have:=iA h;omega
 .exact vG.1 h
abbrev O2(ops:Array Oper)(fr:Nat)(s:St)(k:Rx->O)(K:Exit->Sg->O)(r:aF)(n:Nat)(e:Exit)(s':St):Prop:=
 (e = .normal/\∃rs',k rs'=some r/\rs'.length=n/\s'=cR ops fr (λ_=>true) 0 (gR rs') s)\/∃σ',K e σ'=some r/\σ'.N=fr+8*ops.size/\hJ σ'.T σ'.H s'
theorem EL{c:Cx}(hs:OH c)(hpn:OJ c){stF:List Nat}{σ:Vw}{s:St}{HL:XH}{K:Exit->Sg->O}(h1:∀t x,σ.T t=some x->s.T t=some x.D)(h2:∀k o,σ.H k=some o->s.H k=some o.A)(hpl:∀t x,σ.T t=some x->x.pl=true)(hHL:∀k o,lk k HL=some o->s.H k=some o.A){n:Nat}:
    ∀(l:List Oper)(i:Nat)(rs:Rx)(k:Rx->O)(r:aF)(κ:Nat->Bool),nE c stF ops pre kl fr σ HL K l i rs k=some r->rs.length=i->n=i+l.length->(∀p∈rs,Good κ p.1)->
    rV c.P ops pre kl fr s (O2 ops fr s k K r n) l i (gR rs)
 |[],i,rs,k,r,κ,h,hl,hn,hG=>.inl ⟨rfl,rs,h,by rw[hl,hn];rfl,rfl⟩
 |o::rest,i,rs,k,r,κ,h,hl,hn,hG=>by
   have hn':n=i+1+rest.length:=by rw[hn,eD];omega
   unfold nE at h;obtain⟨g,hg,h⟩:=bF h;have hg':=aI0 hg;have hall:∀{j:Nat}{t:Tmp},(ops.toList[j]?).bind (·.dst)=some t->((ops[j]?).bind (·.dst))=some t:=λh=>by simpa using h
   have sP:∀{κ:Nat->Bool}{rs:Rx},(∀p∈rs,Good κ p.1)->∀{g:Option (Nat×Bool)} t x,(mG ops pre kl fr i rs σ g).T t=some x->Good κ x:=λhG _ t x hx=>by
    rcases a7D hx with⟨p,hp,rfl⟩|hx
    .exact hG p hp
    .exact BA (hpl t x hx)
   have push:∀{κ:Nat->Bool}{rs:Rx},(∀p∈rs,Good κ p.1)->∀{x:X}{W:Wx},Good κ x->∀p∈rs++[(x,W)],Good κ p.1:=λhG _ _ hx p hp=>by
    rcases wR.1 hp with hp|hp
    .exact hG p hp
    .rw[nH.1 hp];exact hx
   have hcx:=λ(rs:Rx)(g:Option (Nat×Bool))=>a7E (ops:=ops) (pre:=pre) (kl:=kl) (fr:=fr) (i:=i) (rs:=rs) (g:=g) h1 h2
   have runK:∀(rs:Rx),rs.length=i->(∀p∈rs,Good κ p.1)->tF ops o (ctx ops pre kl fr i (gR rs) s)->(Dd c stF ops pre kl fr σ HL K o i rs λrs=>nE c stF ops pre kl fr σ HL K rest (i+1) rs k)=some r->
       rV c.P ops pre kl fr s (O2 ops fr s k K r n) (o::rest) i (gR rs):=λrs hl hG hg' h=>by
    unfold Dd at h;have hok:Vw.Ok (mG ops pre kl fr i rs σ none) κ:=⟨sP hG,λkey c h=>by cases h⟩;have nx:∀x W,(match W.all (λp=>fS kl fr i p.1)with
     |true=>nE c stF ops pre kl fr σ HL K rest (i+1) (rs++[(x,W)]) k
     |false=>none)=some r->x.pl=true->aW c.P o (Vw.den (mG ops pre kl fr i rs σ none)) (fr+8*i) x.D (WA W)->rV c.P ops pre kl fr s (O2 ops fr s k K r n) (o::rest) i (gR rs):=λx W h hp hop=>by
     split at h
     case h_2=>cases h
     rename_i hW;have e3:=EL hs hpn h1 h2 hpl hHL rest (i+1) _ k r κ h (by simp[hl]) hn' (push hG (BA hp));refine .inl ⟨x.D,WA W,.inl ⟨hg',JY hop (hcx rs none).1 (hcx rs none).2⟩,aJu hW,?_⟩;simpa[gR]using e3
    rcases hpn _ κ _ _ _ _ _ _ hok rfl h with h|⟨x,W,h,hp,hop⟩|⟨v,W,h,hop⟩
    .obtain⟨x,W,h,hp,hop⟩:=hs _ κ _ _ _ _ _ hok h
     exact nx x W h hp (hop (λkey c h=>by cases h))
    .exact nx x W h hp (hop (λkey c h=>by cases h))
    .split at h
     case h_2=>cases h
     rename_i hb;rw[aT]at hb;obtain⟨H',h,hH⟩:=xI h;have hL0:hJ [] HL ⟨λ_=>none,s.H,s.nm⟩:=⟨(λt x ht=>by cases ht),hHL⟩;exact .inr ⟨v,WA W,hg',aKV (hop (λkey c h=>by cases h)) (hcx rs none).1 (hcx rs none).2,a47 hb.1,aHr hb.2,.inr ⟨_,h,rfl,hL0.aP (dst:=none) (x:=.aS []) (λt=>by simp) hH⟩⟩
   have skipK:∀(rs:Rx),rs.length=i->(∀p∈rs,Good κ p.1)->JZ ops o (ctx ops pre kl fr i (gR rs) s)->nE c stF ops pre kl fr σ HL K rest (i+1) (rs++[(.aS [],[])]) k=some r->
       rV c.P ops pre kl fr s (O2 ops fr s k K r n) (o::rest) i (gR rs):=λrs hl hG hg' h=>by
    have e3:=EL hs hpn h1 h2 hpl hHL rest (i+1) _ k r κ h (by simp[hl]) hn' (push hG u6);refine .inl ⟨.aS [],[],.inr ⟨hg',rfl,rfl⟩,rfl,?_⟩;simpa[gR,X.D,Ds,WA]using e3
   cases g with
   |on=>
     simp only at h hg';exact runK rs hl hG (.inl hg') h
   |off=>
     simp only at h hg';obtain⟨j,w,t,z1,z2,z3⟩:=hg';exact skipK rs hl hG ⟨j,w,t,_,z1,hall z2,(hcx rs none).1 t _ (sV z3),.inl rfl⟩ h
   |kn b=>
     obtain⟨j,w,t,v,z1,z2,z3,z4,z5⟩:=hg';cases b with
     |true=>
       have:=z4 rfl;subst this;exact runK rs hl hG (.inr ⟨j,v,t,z1,hall z2,(hcx rs none).1 t _ (sV z3)⟩) h
     |false=>
       have:=z5 rfl;subst this;exact skipK rs hl hG ⟨j,w,t,_,z1,hall z2,(hcx rs none).1 t _ (sV z3),.inr rfl⟩ h
   |cd key b t j y new=>
     simp only at h hg';obtain⟨w,x0,z1,z2,z3,z4,z5,z6,z7,z8⟩:=hg';split at h
     .split at h
      case h_2=>cases h
      rename_i jj q jg w' hgw hon;rw[z1]at hgw;obtain⟨rfl,rfl⟩:=a8Z (gZ hgw);simp only[aT]at hon;obtain⟨honly,hpre⟩:=hon;have hx0:x0.D = .t (.v (.bool q)):=z5.symm;have hdst:Region.gG ops j=some t:=by unfold Region.gG;exact hall z2
      have hTt:(ctx ops pre kl fr i (gR rs) s).T t=some (.t (.v (.bool q))):=by rw[(hcx rs none).1 t _ (sV z3),hx0]
      have key:∀(v:Bool),q=v->∀{f:Rx->O},Db j (.v (.bool v)) rs f=some r->∃rs',f rs'=some r/\rs'.length=i/\(∀p∈rs',Good κ p.1)/\gR rs'=gR rs:=λv hq f h=>by
       subst hq;unfold Db at h;split at h
       case h_2=>cases h
       rename_i xj Wj hj;have hxx:xj=x0:=by
        have hz:=z3;simp only[mG]at hz;split at hz
        .cases hz
        .rw[W6 (j:=j) hpre hdst (λq hq he=>hq (by
          unfold Region.gG at he;obtain⟨oq,ho1,ho2⟩:=wP.1 he;have:=XP honly q oq (by simpa using ho1) ho2;omega)) rs 0 σ xj Wj (Nat.zero_le _) (by simpa using hj)]at hz
         cases hz;rfl
       subst hxx;refine⟨_,h,by rw[XC];exact hl,λp hp=>?_,XB _ rs j _ _ hj (by simp[hx0,X.D])⟩;rcases Mj _ _ _ _ hp with rfl|hp
       .exact u6
       .exact hG p hp
      rcases wJ h with⟨hq,h⟩|⟨hq,h⟩
      .obtain⟨rs',h,k1,k2,k3⟩:=key true hq h
       rw[hq]at hTt;rw[<-k3]at hTt ⊢;cases w with
       |true=>exact runK rs' k1 k2 (.inr ⟨_,_,t,z1,hall z2,hTt⟩) h
       |false=>exact skipK rs' k1 k2 ⟨_,_,t,_,z1,hall z2,hTt,.inr rfl⟩ h
      .obtain⟨rs',h,k1,k2,k3⟩:=key false hq h
       rw[hq]at hTt;rw[<-k3]at hTt ⊢;cases w with
       |true=>exact skipK rs' k1 k2 ⟨_,_,t,_,z1,hall z2,hTt,.inr rfl⟩ h
       |false=>exact runK rs' k1 k2 (.inr ⟨_,_,t,z1,hall z2,hTt⟩) h
     split at h
     case h_2=>cases h
     rename_i hchk;simp only[aT]at hchk;obtain⟨hfree,honly,hpre⟩:=hchk;unfold Db at h;split at h
     case h_2=>cases h
     rename_i xj Wj hj
     -- what the test lies in is what was looked up
     have hdst:Region.gG ops j=some t:=by unfold Region.gG;exact hall z2
     have hx0:xj=x0:=by
      have hz:=z3;simp only[mG]at hz;split at hz
      .cases hz
      .rw[W6 (j:=j) hpre hdst (λq hq he=>hq (by
        unfold Region.gG at he;obtain⟨oq,ho1,ho2⟩:=wP.1 he;have:=XP honly q oq (by simpa using ho1) ho2;omega)) rs 0 σ xj Wj (Nat.zero_le _) (by simpa using hj)]at hz
       cases hz;rfl
     subst hx0;have hmap:gR (jG (y,Wj) j rs)=gR rs:=XB _ rs j _ _ hj (by simp[z5]);have hlen:(jG (y,Wj) j rs).length=i:=by rw[XC];exact hl
     have hκ:∃κ':Nat->Bool,(∀p∈jG (y,Wj) j rs,Good κ' p.1)/\b=κ' key:=by
      obtain⟨k1,k2⟩:=z8 κ (sP hG t xj z3);cases hn:new with
      |false=>
        obtain⟨g1,g2⟩:=k1 hn;refine⟨κ,λp hp=>?_,g2⟩;rcases Mj _ _ _ _ hp with rfl|hp
        .exact g1
        .exact hG p hp
      |true=>
        obtain⟨a,cc,k3⟩:=k2 hn;rw[hn]at hfree;have hf:Ir j rs=true:=by simpa using hfree
        have hxf:uB j xj=false:=Y0 hf _ (iS.2 ⟨j,hj⟩);obtain⟨g1,g2⟩:=k3 (nK κ j a cc) aAE aAF (λkey' c' x' hx=>by
         rw[hx]at hxf;simp only[uB,aK9]at hxf;have h1:=qF hxf.1.1;have h2:=qF hxf.1.2;unfold nK;rw[aE (by omega),aE (by omega)])
        refine⟨nK κ j a cc,λp hp=>?_,g2⟩;rcases Mj _ _ _ _ hp with rfl|hp
        .exact g1
        .exact(hG p hp).set (Y0 hf p hp)
     obtain⟨κ',hG1,hb⟩:=hκ;have hok:Vw.Ok (mG ops pre kl fr i (jG (y,Wj) j rs) σ (some (key,b))) κ':=⟨sP hG1,λkey' c' h=>by cases h;exact hb⟩;have hTt:(ctx ops pre kl fr i (gR rs) s).T t=some xj.D:=(hcx rs none).1 t _ (sV z3);have hoff:b=false->qI c.P ops o (ctx ops pre kl fr i (gR rs) s) (fr+8*i) (.aS []) []:=λhb'=>.inr ⟨⟨j,w,t,_,z1,hall z2,hTt,z7 hb'⟩,rfl,rfl⟩
     have hgd:b=true->tF ops o (ctx ops pre kl fr i (gR rs) s):=λhb'=>.inr ⟨j,w,t,z1,hall z2,by rw[hTt,z6 hb']⟩
     have hle:∀{x:D}{W:Wr},aW c.P o (Vw.den (mG ops pre kl fr i (jG (y,Wj) j rs) σ (some (key,b)))) (fr+8*i) x W->aW c.P o (ctx ops pre kl fr i (gR rs) s) (fr+8*i) x W:=λhop=>by
      have:=hcx (jG (y,Wj) j rs) (some (key,b));rw[hmap]at this;exact JY hop this.1 this.2
     have hsnoc:∀(x:X)(W:Wx),gR (jG (y,Wj) j rs++[(x,W)])=gR rs++[(x.D,WA W)]:=λx W=>by
      have:gR (jG (y,Wj) j rs++[(x,W)])=gR (jG (y,Wj) j rs)++[(x.D,WA W)]:=by simp[gR]
      rw[this,hmap]
     split at h
     .obtain⟨x,W,h,hp,hop⟩:=hs _ κ' _ _ _ _ _ hok h
      obtain⟨hW,h9⟩:=aHq h;subst hW;clear h;have e3:=EL hs hpn h1 h2 hpl hHL rest (i+1) _ k r κ' h9 (by simp[hlen]) hn' (push hG1 (by
       refine⟨hb,?_⟩;cases x with
       |bit j q=>cases hp
       |eX k c y=>cases hp
       |_=>exact u6))
      rw[hsnoc]at e3;refine .inl ⟨(X.eX key b x).D,WA [],?_,rfl,e3⟩;cases hbb:b with
      |false=>rw[hbb]at hoff;exact hoff rfl
      |true=>rw[hbb]at hgd hop hle;exact .inl ⟨hgd rfl,hle (hop (λkey' c' h=>by cases h;rfl))⟩
     .rcases wJ h with⟨hb',h⟩|⟨hb',h⟩
      .obtain⟨x,W,h,hp,hop⟩:=hs _ κ' _ _ _ _ _ hok h
       split at h
       case h_2=>cases h
       rename_i hW;have e3:=EL hs hpn h1 h2 hpl hHL rest (i+1) _ k r κ' h (by simp[hlen]) hn' (push hG1 (BA hp));rw[hsnoc]at e3;exact .inl ⟨x.D,WA W,.inl ⟨hgd hb',hle (hop (λkey' c' h=>by cases h;exact hb'))⟩,aJu hW,e3⟩
      .have e3:=EL hs hpn h1 h2 hpl hHL rest (i+1) _ k r κ' h (by simp[hlen]) hn' (push hG1 u6)
       rw[hsnoc]at e3;exact .inl ⟨_,_,hoff hb',rfl,e3⟩
end
theorem aIk{ops:Array Oper}{fr:Nat}:∀(l:List Oper)(i:Nat)(rs:Rx)(T:XT)(H:XH)(k:XT->XH->O)(r:aF)(s:St),(∀q o,l[q]?=some o->Region.gG ops (i+q)=o.dst)->l.length=rs.length->N9 l rs T H k=some r->hJ T H s->
    ∃T' H',k T' H'=some r/\hJ T' H' (cR ops fr (λ_=>true) i (gR rs) s)
 |[],i,[],T,H,k,r,s,_,_,h,hL=>⟨T,H,h,hL⟩
 |[],i,_::_,T,H,k,r,s,_,hl,h,hL=>by cases hl
 |_::_,i,[],T,H,k,r,s,_,hl,h,hL=>by cases hl
 |o::l,i,(x,W)::rs,T,H,k,r,s,hd,hl,h,hL=>by
   unfold N9 at h;obtain⟨T',h,hT⟩:=D1 h;obtain⟨H',h,hH⟩:=xI h;have hd0:=hd 0 o rfl;rw[Nat.add_zero]at hd0;obtain⟨T2,H2,e1,e2⟩:=aIk (fr:=fr) l (i+1) rs T' H' k r (s.aP o.dst x.D (WA W) (fr+8*i)) (λq o' hq=>by have:=hd (q+1) o' (by simpa using hq);rwa [show i+(q+1)=i+1+q by omega]at this) (by simpa using hl) h (hL.aP hT hH);refine⟨T2,H2,e1,?_⟩;simp only[gR,iH];unfold cR;rw[hd0];simpa[gR]using e2
end Go.Ax
/- States told otherwise. -/
namespace Go.Ax
open aA
open Go.RowKit Go.Ab
def eB(σ:Sg):St:=mk (λt=>(lk t σ.T).map X.D) (λk=>(lk k σ.H).map XO.A) σ.N
theorem dS.trans'{E:Env}{a b c:St}(h:dS E a b)(k:dS E b c):dS E a c:=λtm w hR=>k tm w (h tm w hR)
theorem dS.sF{E:Env}{a:St}:dS E a a:=λ_ _ h=>h
theorem mk_eq{T T':Nat->Option D}{H H':Nat->Option aO}{N N':Nat}(hT:∀t,T t=T' t)(hH:∀k,H k=H' k)(hN:N=N'):mk T H N=mk T' H' N':=by
 rw[funext hT,funext hH,hN]
theorem a6b{E:Env}{T T':Nat->Option D}{H H':Nat->Option aO}{N:Nat}(hT:∀t d,T' t=some d->T t=some d)(hH:∀k o,H' k=some o->H k=some o):dS E (mk T H N) (mk T' H' N):=λ_ _ ⟨ν,G,I⟩=>
 ⟨ν,G,I.kept,I.eJ,I.fJ,I.g0,I.sz,λt d h=>I.T t d (hT t d h),λk o h=>I.H k o (hH k o h),λk o k' o' h h'=>I.cW k o k' o' (hH k o h) (hH k' o' h')⟩
theorem a6m{E:Env}{T T':Nat->Option D}{H:Nat->Option aO}{N:Nat}(hT:∀t d',T' t=some d'->∃d,T t=some d/\cJ H d d'):dS E (mk T H N) (mk T' H N):=λtm w ⟨ν,G,I⟩=>
 ⟨ν,G,I.kept,I.eJ,I.fJ,I.g0,I.sz,λt d' h=>by
  obtain⟨d,h1,h2⟩:=hT t d' h;obtain⟨v,hv,hd⟩:=I.T t d h1;exact⟨v,hv,h2 E _ ν G w tm (λk o h=>h) I v hd⟩,I.H,I.cW⟩
theorem aIp{α β:Type}{f:α->List β}{m:Nat}(hf:∀x,(f x).length=m):∀l:List α,(l.flatMap f).length=l.length*m
 |[]=>by simp
 |a::l=>by rw[fV,aL,hf,aIp hf l,eD,kK,Nat.one_mul,Nat.add_comm]
theorem Ya{α β:Type}{f:α->List β}{m:Nat}(hf:∀x,(f x).length=m):∀(l:List α)(i j:Nat)(x:α),l[i]?=some x->j<m->(l.flatMap f)[i*m+j]?=(f x)[j]?
 |[],i,j,x,h,_=>by simp at h
 |a::l,0,j,x,h,hj=>by
   simp at h;subst h;rw[fV,Nat.zero_mul,eC,List.getElem?_append_left (by rw[hf];exact hj)]
 |a::l,i+1,j,x,h,hj=>by
   have h':l[i]?=some x:=by simpa using h
   rw[fV,dN (by rw[hf,kK];omega),hf,<-Ya hf l i j x h' hj]
   congr 1
   rw[kK];omega
theorem Y9{α β:Type}{f:α->List β}{m:Nat}(hf:∀x,(f x).length=m):∀(l:List α)(i j:Nat)(x z:α)(b:β),l[i]?=some x->j<m->f z=(f x).set j b->(l.set i z).flatMap f=(l.flatMap f).set (i*m+j) b
 |[],i,j,x,z,b,h,_,_=>by simp at h
 |a::l,0,j,x,z,b,h,hj,hz=>by
   simp at h;subst h;rw[List.set_cons_zero,fV,fV,Nat.zero_mul,eC,List.set_append_left _ _ (by rw[hf];exact hj),hz]
 |a::l,i+1,j,x,z,b,h,hj,hz=>by
   have h':l[i]?=some x:=by simpa using h
   rw[a9H,fV,fV,a9I _ _ (by rw[hf,kK];omega),Y9 hf l i j x z b h' hj hz,hf]
   congr 2
   rw[kK];omega
theorem JH{κ ρ:Ty}(x:ρ.V×List κ.V):(dY x).length=ρ.size+1:=by
 unfold dY;rw[aL,cP,dJ];rfl
theorem aJW{κ ρ:Ty}(l:List (ρ.V×List κ.V))(c:NC)(h:c∈bR dY l):(∃n ts,c = .cX n ts)\/∃t,c = .fK (.t t):=by
 obtain⟨x,_,hx⟩:=List.mem_flatMap.1 h;unfold dY at hx;rcases wR.1 hx with hx|hx
 .obtain⟨t,_,rfl⟩:=gU.1 hx
  exact .inr ⟨t,rfl⟩
 .rw[nH]at hx
  exact .inl ⟨_,_,hx⟩
theorem Yw{κ ρ:Ty}(l:List (ρ.V×List κ.V)):Ze (bR dY l):=λi d h=>by
 rcases aJW l _ (iS.2 ⟨i,h⟩)with⟨n,ts,h⟩|⟨t,h⟩
 .cases h
 .cases h;exact⟨t,rfl⟩
theorem aJV{κ ρ:Ty}:∀l:List (ρ.V×List κ.V),(bR dY l).map NC.xP=(bR (aM (.pr ρ (.sl κ))) l).map some
 |[]=>rfl
 |x::l=>by
   show(dY x++bR dY l).map NC.xP=(aM (.pr ρ (.sl κ)) x++bR (aM (.pr ρ (.sl κ))) l).map some;rw[gH,gH,aJV l]
   congr 1
   show(((aM ρ x.1).map λt=>NC.fK (.t t))++[_]).map NC.xP=(aM ρ x.1++aM (.sl κ) x.2).map some;rw[gH,gH,qN];rfl
theorem a7S{κ ρ:Ty}(x:ρ.V×List κ.V):(dY x)[ρ.size]?=some (.cX (dR x.2) (bR (aM κ) x.2)):=by
 unfold dY;rw[dN (by rw[cP,dJ];exact cE _),cP,dJ,kZ];rfl
theorem a7T{κ ρ:Ty}{l:List (ρ.V×List κ.V)}{i:Nat}{x:ρ.V×List κ.V}(h:l[i]?=some x):(bR dY l)[i*(ρ.size+1)+ρ.size]?=some (.cX (dR x.2) (bR (aM κ) x.2)):=by
 have:=Ya (f:=dY) JH l i ρ.size x h (by omega);rw[this];exact a7S x
theorem a7R{κ ρ:Ty}(x:ρ.V×List κ.V)(y:List κ.V):(dY x).set ρ.size (.cX (dR y) (bR (aM κ) y))=dY (x.1,y):=by
 unfold dY;rw[a9I _ _ (by rw[cP,dJ];exact cE _),cP,dJ,kZ];rfl
theorem Nv{κ ρ:Ty}{l:List (ρ.V×List κ.V)}{i j:Nat}(h:i<l.length)(hj:j<ρ.size+1):i*(ρ.size+1)+j<(bR dY l).length:=by
 rw[aIp (f:=dY) JH];have:(i+1)*(ρ.size+1)<=l.length*(ρ.size+1):=Nat.mul_le_mul_right _ h;rw[kK,Nat.one_mul]at this;omega
theorem NS{m:Nat}{cs:List NC}{ln:Option (Int×Nat)}:(mC m cs ln).length=cs.length:=by
 unfold mC;split
 .rfl
 .rw[nI]
theorem Yo{o:XO}(h:Nn o=true):qR o.A:=by
 unfold Nn at h;split at h
 .exact .row
 .exact .nest
 .exact .bC
 .cases h
theorem IT{α β:Type}(f:α->β):∀(l:List α)(i:Nat)(x:α),(jG x i l).map f=(l.map f).set i (f x)
 |[],i,x=>by rw[XA];rfl
 |y::l,0,x=>rfl
 |y::l,i+1,x=>by simp only[jG,iH,a9H];rw[IT f l i x]
theorem Y6{β:Type}{f:β->List Tree}{g:β->Tree}(h:∀r,f r=[g r]):∀l:List β,l.flatMap f=l.map g
 |[]=>rfl
 |a::l=>by rw[fV,h,Y6 h l];rfl
theorem a6n{τ:Ty}(l:List (List τ.V)):(bR (aM (.sl τ)) l)=(l.map λr=>(dR r,bR (aM τ) r)).map λp=>.sl p.1 p.2:=
 (Y6 (β:=List τ.V) (f:=aM (.sl τ)) (g:=λr=>.sl (dR r) (bR (aM τ) r)) (λ_=>rfl) l).trans (by rw[qN];rfl)
def vC(σ:Sg)(k:Sg->O)(r:aF):Prop:=∃σ',k σ'=some r/\(100<=σ.N->100<=σ'.N)/\(100<=σ.N->∀E,dS E (eB σ) (eB σ'))
theorem vC.same{σ:Sg}{k:Sg->O}{r:aF}(h:k σ=some r):vC σ k r:=⟨σ,h,id,λ_ _=>dS.sF⟩
theorem aIl{κ:Ty}:∀l:List (Unit×List κ.V),bR (aM (.sl κ)) (wS (α:=Unit×List κ.V) (β:=(Ty.sl κ).V) (λx=>x.2) l)=bR (aM (.pr .un (.sl κ))) l
 |[]=>rfl
 |x::l=>by
   show aM (.sl κ) x.2++bR (aM (.sl κ)) (wS (α:=Unit×List κ.V) (β:=(Ty.sl κ).V) (λx=>x.2) l)=([]++aM (.sl κ) x.2)++bR (aM (.pr .un (.sl κ))) l;rw[List.nil_append,aIl l]
theorem aGg{q:Nat}{e e':TypeId}{κ ρ:Ty}{l:List (ρ.V×List κ.V)}{E:Env}{T:Nat->Option D}{H:Nat->Option aO}{N:Nat}(hq:H q=some (XO.bC e e' κ ρ l none).A):dS E (mk T H N) (mk T (λj=>if q=j then some (XO.row e (.pr ρ (.sl κ)) l true).A else H j) N):=by
 have h1:=a6c (E:=E) (T:=T) (N:=N) q hq (ts:=bR (aM (.pr ρ (.sl κ))) l) (aJV l);have h2:=aJE (E:=E) (T:=T) (H:=λj=>if q=j then some (.row e (ρ.size+1) l.length (bR (aM (.pr ρ (.sl κ))) l) false)else H j) (N:=N) q (by rw[aI rfl]);refine dS.trans' h1 ?_;rw[show(λj=>if q=j then some (XO.row e (.pr ρ (.sl κ)) l true).A else H j)=λj=>if q=j then some (.row e (ρ.size+1) l.length (bR (aM (.pr ρ (.sl κ))) l) true)else if q=j then some (.row e (ρ.size+1) l.length (bR (aM (.pr ρ (.sl κ))) l) false)else H j from ?_]
 .exact h2
 .funext j
  split
  .rfl
  .rfl
theorem aGf{q:Nat}{o o':XO}(h:IG o=some o'){E:Env}{T:Nat->Option D}{H:Nat->Option aO}{N:Nat}(hq:H q=some o.A):dS E (mk T H N) (mk T (λj=>if q=j then some o'.A else H j) N):=by
 unfold IG at h;split at h
 .cases h;exact aJE q hq
 .rename_i e e' τ l
  split at h
  .rename_i h1
   cases h;have:=a6d (E:=E) (T:=T) (N:=N) q hq;have hA:(XO.row e (.sl τ) l true).A=aO.row e 1 (l.map λr=>(dR r,bR (aM τ) r)).length ((l.map λr=>(dR r,bR (aM τ) r)).map λp=>.sl p.1 p.2) true:=
    congr (aR (λn ts=>aO.row e 1 n ts true) (cP ..).symm) (a6n l)
   rw[hA];exact this
  .cases h
 .rename_i e e' κ ρ l
  cases h;cases ρ with
  |un=>
    show dS E _ (mk T (λj=>if q=j then some (XO.row e (.sl κ) (l.map λx=>x.2) true).A else H j) N);have key:(XO.row e (.sl κ) (l.map λx=>x.2) true).A=(XO.row e (.pr .un (.sl κ)) l true).A:=by
     show aO.row e 1 (l.map λx=>x.2).length (bR (aM (.sl κ)) (wS (α:=Unit×List κ.V) (β:=(Ty.sl κ).V) (λx=>x.2) l)) true=aO.row e 1 l.length (bR (aM (.pr .un (.sl κ))) l) true;rw[cP];exact aR (λts=>aO.row e 1 l.length ts true) (aIl l)
    rw[key];exact aGg hq
  |_=>exact aGg hq
 .cases h
theorem aGh{q:Nat}{σ:Sg}{k:Sg->O}{r:aF}(h:M1 q σ k=some r):vC σ k r:=by
 unfold M1 at h;split at h
 .rename_i o ho
  split at h
  .rename_i o' ho'
   obtain⟨H1,h,hH1⟩:=lY h;refine⟨_,h,id,λ_ E=>?_⟩;have:=aGf (q:=q) ho' (E:=E) (T:=λt=>(lk t σ.T).map X.D) (H:=λk=>(lk k σ.H).map XO.A) (N:=σ.N) (by rw[ho];rfl);unfold eB;rw[show mk (λt=>(lk t σ.T).map X.D) (λk=>(lk k H1).map XO.A) σ.N=_ from mk_eq (λt'=>rfl) (λk'=>?_) rfl]
   .exact this
   .rw[hH1];split <;> rfl
  .exact .same h
 .exact .same h
theorem aHs{q i:Nat}{o:XO}(ho:qR o.A){σ:Sg}{k:Sg->O}{r:aF}(h:NF q i o σ k=some r):vC σ k r:=by
 unfold NF at h;split at h
 .rename_i e' xs hq
  split at h
  .rename_i hx
   obtain⟨H1,h,hH1⟩:=lY h;obtain⟨H2,h,hH2⟩:=lY h;refine⟨_,h,λh=>(by show 100<=σ.N+8;omega),λhN E=>?_⟩;have:=a6g (E:=E) (T:=λt=>(lk t σ.T).map X.D) (H:=λk=>(lk k σ.H).map XO.A) q i ho (e':=e') (ds:=xs.map X.D) (by rw[hq];rfl) (by rw[cZ,hx];rfl) hN;unfold eB;rw[show mk (λt=>(lk t σ.T).map X.D) (λk=>(lk k H2).map XO.A) (σ.N+8)=_ from mk_eq (λt'=>rfl) (λk'=>?_) rfl]
   .exact this
   .rw[hH2,hH1]
    split
    .rfl
    .split
     .simp only[lH,XO.A,IT];rfl
     .rfl
  .exact .same h
 .exact .same h
theorem a4k{τ:Ty}{xs:List X}{y:τ.V}(h:wD τ xs=some y):xs.length=(aM τ y).length:=by
 have:=(sN (H:=λ_=>none) h).len;simpa using this
theorem a6k{E:Env}{T:Nat->Option D}{H:Nat->Option aO}{N:Nat}(k i:Nat){e:TypeId}{ds:List D}{d d':D}(hk:H k=some (.box e ds))(hi:ds[i]?=some d)(hw:cJ H d d'):dS E (mk T H N) (mk T (λj=>if k=j then some (.box e (ds.set i d'))else H j) N):=by
 refine uW λa w ⟨ν,G,I⟩=>⟨ν,G,I.kept,I.eJ,I.fJ,I.g0,I.sz,I.T,λj oj hj=>?_,λj1 o1 j2 o2 e1 e2 hne=>?_⟩
 .by_cases hjk:k=j
  .subst hjk
   simp only[iO,iR]at hj;subst hj;obtain⟨hn,g,cur,z1,z2,z3,z4,z5,z6⟩:=I.H k _ hk;refine⟨hn,g,cur,z1,z2,z3,z4,by rw[nI];exact z5,λm u dm hu hd=>?_⟩;by_cases hm:i=m
   .subst hm
    have hlt:i<ds.length:=(bZ.1 hi).1;rw[pO hlt]at hd;cases hd;obtain⟨y1,y2⟩:=z6 i u _ hu hi;exact⟨hw E _ ν G w a.tmps (λ_ _ h=>h) I u y1,y2⟩
   .rw[qP hm]at hd
    exact z6 m u dm hu hd
  .simp only[aE hjk]at hj
   exact I.H j oj hj
 .have back:∀j o,(if k=j then some (.box e (ds.set i d'))else H j)=some o->∃o',H j=some o'/\∀g,bO w (ν j) o g->bO w (ν j) o' g:=λj o h=>by
   by_cases hj:k=j
   .subst hj;simp only[iO,iR]at h;subst h;exact⟨_,hk,λ_ h=>h⟩
   .rw[aE hj]at h;exact⟨o,h,λ_ h=>h⟩
  obtain⟨p1,hp1,f1⟩:=back j1 o1 e1;obtain⟨p2,hp2,f2⟩:=back j2 o2 e2;exact λg hg hg'=>I.cW j1 p1 j2 p2 hp1 hp2 hne g (f1 g hg) (f2 g hg')
theorem a08{H:Nat->Option aO}{τ:Ty}{x:X}{y:τ.V}(h1:τ.one=true)(h:xJ τ x=some y):cJ H x.D (.t (nD τ y)):=by
 unfold xJ at h;rw[h1]at h;exact sI h1 h
theorem a7B{q i:Nat}{τ:Ty}{σ:Sg}{k:Sg->O}{r:aF}(h:Yr q i τ σ k=some r):vC σ k r:=by
 unfold Yr at h;split at h
 .rename_i e xs hq
  split at h
  .rename_i x hx
   split at h
   .rename_i h1
    split at h
    .rename_i y hy
     obtain⟨H1,h,hH1⟩:=lY h;refine⟨_,h,id,λ_ E=>?_⟩;have hg:=yN (⟨λt=>lk t σ.T,λk=>lk k σ.H,none⟩:Vw) x;have:=a6k (E:=E) (T:=λt=>(lk t σ.T).map X.D) (H:=λk=>(lk k σ.H).map XO.A) (N:=σ.N) q i (e:=e) (ds:=xs.map X.D) (d:=x.D) (d':=.t (nD τ y)) (by rw[hq];rfl) (by rw[cZ,hx];rfl) (hg.trans (a08 h1 hy));unfold eB;rw[show mk (λt=>(lk t σ.T).map X.D) (λk=>(lk k H1).map XO.A) σ.N=_ from mk_eq (λt'=>rfl) (λk'=>?_) rfl]
     .exact this
     .rw[hH1]
      split
      .simp only[lH,XO.A,IT,pJ h1]
      .rfl
    .exact .same h
   .exact .same h
  .exact .same h
 .exact .same h
theorem a8s{E:Env}{ν:Nat->Value}{nm:Nat->Bool}{w:World}{G:bV}{k k':Nat}{o:aO}(h:eT E ν nm w G k o)(e:ν k'=ν k):eT E ν nm w G k' o:=by
 cases o <;> (unfold eT at h ⊢;rw[e];exact h)
theorem a6e{E:Env}{T:Nat->Option D}{H:Nat->Option aO}{N:Nat}(k i q:Nat){e':TypeId}{ds:List D}{o0:aO}(hk:H k=some (.box e' ds))(hi:ds[i]?=some (.own q))(hq:H q=some o0)(hne:q≠k)(hN:100<=N):
    dS E (mk T H N) (mk T (λj=>if N=j then some o0 else if q=j then none else if k=j then some (.box e' (ds.set i (.own N)))else H j) (N+8)):=by
 refine uW λa w ⟨ν,G,I⟩=>?_
 have lt:∀j,(mk T H N).nm j=true->j<N:=λj hj=>by simpa using hj
 have ne:∀j,(mk T H N).nm j=true->cD ν N (ν q) j=ν j:=λj hj=>oK (by have:=lt j hj;omega)
 have hn:∀j,(mk T H N).nm j=true->decide (j<N+8)=true/\cD ν N (ν q) j=ν j:=λj hj=>⟨by have:=lt j hj;simp;omega,ne j hj⟩
 have old:∀j o,H j=some o->j<N:=λj o hj=>lt j (I.H j o hj).1
 have hqN:=old q o0 hq;have hkN:=old k _ hk;have back:∀j o,(if N=j then some o0 else if q=j then none else if k=j then some (.box e' (ds.set i (.own N)))else H j)=some o->(j=N/\o=o0)\/(j=k/\j≠q/\j<N/\o = .box e' (ds.set i (.own N)))\/(j≠k/\j≠q/\j<N/\H j=some o):=λj o h=>by
  by_cases h1:N=j
  .rw[aI h1]at h;exact .inl ⟨h1.symm,(gZ h).symm⟩
  .rw[aE h1]at h
   by_cases h3:q=j
   .rw[aI h3]at h;cases h
   .rw[aE h3]at h
    by_cases h2:k=j
    .rw[aI h2]at h;exact .inr (.inl ⟨h2.symm,Ne.symm h3,by omega,(gZ h).symm⟩)
    .rw[aE h2]at h;exact .inr (.inr ⟨Ne.symm h2,Ne.symm h3,old _ _ h,h⟩)
 have hfoot:∀j o,(if N=j then some o0 else if q=j then none else if k=j then some (.box e' (ds.set i (.own N)))else H j)=some o->∃j' o',H j'=some o'/\(∀g,bO w (cD ν N (ν q) j) o g->bO w (ν j') o' g)/\j'=(if j=N then q else j):=λj o h=>by
  rcases back j o h with⟨rfl,rfl⟩|⟨rfl,h2,h3,rfl⟩|⟨h1,h2,h3,h4⟩
  .exact⟨q,_,hq,λg hg=>by rw[cB]at hg;exact hg,by rw[aI rfl]⟩
  .exact⟨_,_,hk,λg hg=>by rw[oK (by omega)]at hg;exact hg,by rw[aE (by omega)]⟩
  .exact⟨_,_,h4,λg hg=>by rw[oK (by omega)]at hg;exact hg,by rw[aE (by omega)]⟩
 refine⟨cD ν N (ν q),G,I.kept,I.eJ,λj h1 h2=>?_,I.g0,I.sz,λt d ht=>?_,λj o hj=>?_,λj1 o1 j2 o2 h1 h2 hne12 g hg=>?_⟩
 .rw[oK (by omega)];exact I.fJ j h1 h2
 .obtain⟨v,hv,hdv⟩:=I.T t d ht
  exact⟨v,hv,hdv.mono hn (λ_ _ _ h=>h)⟩
 .have mono:∀j o,H j=some o->eT E (cD ν N (ν q)) (λj=>decide (j<N+8)) w G j o:=λj o hj=>
   let⟨q1,q2⟩:=I.H j o hj
   q2.mono (ν':=cD ν N (ν q)) (nm':=λj=>decide (j<N+8)) q1 hn (λ_ _ _ h=>h) (λg _=>⟨rfl,rfl⟩)
  rcases back j o hj with⟨rfl,rfl⟩|⟨rfl,h2,h3,rfl⟩|⟨h1,h2,h3,h4⟩
  .refine⟨by simp,a8s (mono q _ hq) ?_⟩
   rw[cB,oK (by omega)]
  .refine⟨by simp;omega,?_⟩
   obtain⟨g,cur,z1,z2,z3,z4,z5,z6⟩:=mono _ _ hk;refine⟨g,cur,z1,z2,z3,z4,by rw[nI];exact z5,λm u d hu hd=>?_⟩;by_cases hm:i=m
   .subst hm
    have hlt2:i<ds.length:=(bZ.1 hi).1;rw[pO hlt2]at hd;cases hd;obtain⟨y1,y2⟩:=z6 i u _ hu hi;obtain⟨e1,_⟩:=uO y1;refine⟨?_,y2⟩;have e2:u=cD ν N (ν q) N:=by rw[e1,cB,oK (by omega)]
    have hown:DR (cD ν N (ν q)) (λj=>decide (j<N+8)) w G (cD ν N (ν q) N) (.own N):=.own (by simp) (by rw[<-e2];exact y2);rw[<-e2]at hown;exact hown
   .rw[qP hm]at hd
    exact z6 m u d hu hd
  .exact⟨by simp;omega,mono j o h4⟩
 .obtain⟨j1',o1',a1,a2,a3⟩:=hfoot j1 o1 h1
  obtain⟨j2',o2',b1,b2,b3⟩:=hfoot j2 o2 h2;have hne':j1'≠j2':=by
   rw[a3,b3];rcases back j1 o1 h1 with⟨c1,_⟩|⟨_,c2,c3,_⟩|⟨_,c2,c3,_⟩ <;> rcases back j2 o2 h2 with⟨d1,_⟩|⟨_,d2,d3,_⟩|⟨_,d2,d3,_⟩
   .exact absurd (c1.trans d1.symm) hne12
   .rw[aI c1,aE (by omega)];exact λe=>d2 e.symm
   .rw[aI c1,aE (by omega)];exact λe=>d2 e.symm
   .rw[aE (by omega),aI d1];exact c2
   .rw[aE (by omega),aE (by omega)];exact hne12
   .rw[aE (by omega),aE (by omega)];exact hne12
   .rw[aE (by omega),aI d1];exact c2
   .rw[aE (by omega),aE (by omega)];exact hne12
   .rw[aE (by omega),aE (by omega)];exact hne12
  exact λhg'=>I.cW j1' o1' j2' o2' a1 b1 hne' g (a2 g hg) (b2 g hg')
theorem a1j{q i:Nat}{σ:Sg}{k:Sg->O}{r:aF}(h:Wy q i σ k=some r):vC σ k r:=by
 unfold Wy at h;split at h
 .rename_i e xs hq
  split at h
  .rename_i q' hx
   split at h
   .rename_i o ho
    split at h
    .rename_i hc
     simp only[aT,wW]at hc;have hne:q'≠q:=λe=>by rw[e,Nat.beq_refl]at hc;exact absurd hc.2 (by decide)
     obtain⟨H1,h,hH1⟩:=lY h;obtain⟨H2,h,hH2⟩:=EO h;obtain⟨H3,h,hH3⟩:=lY h;refine⟨_,h,λh=>(by show 100<=σ.N+8;omega),λhN E=>?_⟩;have:=a6e (E:=E) (T:=λt=>(lk t σ.T).map X.D) (H:=λk=>(lk k σ.H).map XO.A) (N:=σ.N) q i q' (e':=e) (ds:=xs.map X.D) (o0:=o.A) (by rw[hq];rfl) (by rw[cZ,hx];rfl) (by rw[ho];rfl) hne hN;unfold eB;rw[show mk (λt=>(lk t σ.T).map X.D) (λk=>(lk k H3).map XO.A) (σ.N+8)=_ from mk_eq (λt'=>rfl) (λk'=>?_) rfl]
     .exact this
     .rw[hH3,hH2,hH1]
      split
      .rfl
      .split
       .rfl
       .split
        .simp only[lH,XO.A,IT];rfl
        .rfl
    .exact .same h
   .exact .same h
  .exact .same h
 .exact .same h
theorem aIM{q:Nat}{n:Int}{σ:Sg}{k:Sg->O}{r:aF}(h:NT q n σ k=some r):vC σ k r:=by
 unfold NT at h;split at h
 .rename_i e e' κ ρ l hq
  obtain⟨y,hn,hy,h⟩:=Im h;obtain⟨H1,h,hH1⟩:=lY h;obtain⟨H2,h,hH2⟩:=lY h;refine⟨_,h,λh=>(by show 100<=σ.N+8;omega),λhN E=>?_⟩;have:=a6h (E:=E) (T:=λt=>(lk t σ.T).map X.D) (H:=λk=>(lk k σ.H).map XO.A) (N:=σ.N) q (n.toNat*(ρ.size+1)+ρ.size) (cs:=bR dY l) (by rw[hq];rfl) (a7T hy) hN;unfold eB;rw[show mk (λt=>(lk t σ.T).map X.D) (λk=>(lk k H2).map XO.A) (σ.N+8)=_ from mk_eq (λt'=>rfl) (λk'=>?_) rfl]
  .exact this
  .rw[hH2,hH1]
   split
   .rfl
   .split
    .rfl
    .rfl
 .exact .same h
theorem aJe{q:Nat}{σ:Sg}{k:Sg->O}{r:aF}(h:OB q σ k=some r):vC σ k r:=by
 unfold OB at h;split at h
 .rename_i e e' κ ρ l n f hq
  split at h
  .rename_i e1 κ1 xs hf
   split at h
   .rename_i hκ _
    split at h
    .rename_i hc
     rw[aT]at hc;have he:=bB hc.1;subst he;have hκ':=hκ;subst hκ';obtain⟨y,hn,hy,h⟩:=Im h;obtain⟨H1,h,hH1⟩:=lY h;obtain⟨H2,h,hH2⟩:=EO h;refine⟨_,h,id,λhN E=>?_⟩;have hlt:n.toNat<l.length:=(bZ.1 hy).1;have hb:=Nv (ρ:=ρ) (l:=l) (j:=ρ.size) hlt (by omega);have:=a6l (E:=E) (T:=λt=>(lk t σ.T).map X.D) (H:=λk=>(lk k σ.H).map XO.A) (N:=σ.N) q (n.toNat*(ρ.size+1)+ρ.size) f (cs:=(bR dY l).set (n.toNat*(ρ.size+1)+ρ.size) (.fK (.own f))) (by rw[hq];rfl) (pO hb) (by rw[hf];rfl);have hs:=Y9 (f:=dY) JH l n.toNat ρ.size y (y.1,xs) (.cX (dR xs) (bR (aM κ1) xs)) hy (by omega) (a7R y xs).symm;rw[List.set_set,<-hs]at this;unfold eB;rw[show mk (λt=>(lk t σ.T).map X.D) (λk=>(lk k H2).map XO.A) σ.N=_ from mk_eq (λt'=>rfl) (λk'=>?_) rfl]
     .exact this
     .rw[hH2,hH1]
      split
      .rfl
      .split
       .simp only[lH,XO.A,mC]
        rw[nI];rfl
       .rfl
    .exact .same h
   .exact .same h
  .exact .same h
 .exact .same h
theorem a3z{m:Mv}{σ:Sg}{k:Sg->O}{r:aF}(h:Xb m σ k=some r):vC σ k r:=by
 unfold Xb at h;split at h
 .split at h
  .exact aGh h
  .split at h
   .exact aGh h
   .exact .same h
  .exact .same h
 .rename_i t o
  split at h
  .rename_i ht he
   obtain⟨T',h,hT⟩:=lY h;obtain⟨H',h,hH⟩:=lY h;refine⟨_,h,λh=>(by show 100<=σ.N+8;omega),λhN E=>?_⟩;have:=a6f (E:=E) (T:=λt=>(lk t σ.T).map X.D) (H:=λk=>(lk k σ.H).map XO.A) t (Yo he) (by rw[ht];rfl) hN;unfold eB;rw[show mk (λt=>(lk t T').map X.D) (λk=>(lk k H').map XO.A) (σ.N+8)=_ from mk_eq (λt'=>?_) (λk'=>?_) rfl]
   .exact this
   .rw[hT];split <;> rfl
   .rw[hH];split <;> rfl
  .exact .same h
 .split at h
  .rename_i he
   exact aHs (Yo he) h
  .rename_i he
   exact aHs (Yo he) h
  .exact .same h
 .rename_i t τ
  split at h
  .rename_i q ht
   split at h
   .rename_i e xs hq
    split at h
    .rename_i y hy
     obtain⟨T',h,hT⟩:=lY h;obtain⟨H',h,hH⟩:=EO h;refine⟨_,h,id,λhN E=>?_⟩;have:=a6i (E:=E) (T:=λt=>(lk t σ.T).map X.D) (H:=λk=>(lk k σ.H).map XO.A) (N:=σ.N) t q (e:=e) (ds:=xs.map X.D) (ts:=aM τ y) (by rw[ht];rfl) (by rw[hq];rfl) (by rw[cP];exact a4k hy) (λi tr hi=>by
      obtain⟨d0,h1,h2⟩:=(sN hy).get i (.t tr) (by rw[cZ,hi];rfl);exact⟨d0,h1,h2⟩)
     unfold eB;rw[show mk (λt=>(lk t T').map X.D) (λk=>(lk k H').map XO.A) σ.N=_ from mk_eq (λt'=>?_) (λk'=>?_) rfl]
     .exact this
     .rw[hT];split <;> rfl
     .rw[hH];split <;> rfl
    .exact .same h
   .exact .same h
  .exact .same h
 .split at h
  .exact a7B h
  .exact .same h
 .split at h
  .exact a1j h
  .exact .same h
 .split at h
  .exact aIM h
  .split at h
   .exact aIM h
   .exact .same h
  .exact .same h
 .split at h
  .exact aJe h
  .split at h
   .exact aJe h
   .exact .same h
  .exact .same h
theorem Xa:∀(l:List Mv)(σ:Sg)(k:Sg->O)(r:aF),NJ l σ k=some r->vC σ k r
 |[],σ,k,r,h=>.same h
 |m::l,σ,k,r,h=>by
   obtain⟨σ1,h1,h2,h3⟩:=a3z (m:=m) h;obtain⟨σ2,e1,e2,e3⟩:=Xa l σ1 k r h1;exact⟨σ2,e1,λh=>e2 (h2 h),λhN E=>dS.trans' (h3 hN E) (e3 (h2 hN) E)⟩
theorem aGX{τ:Ty}{y:τ.V}:(uC τ y).D=if τ.one then .t (nD τ y)else .agg ((aM τ y).map .t):=by
 unfold uC;cases h:τ.one with
 |true=>simp only[pJ h];rfl
 |false=>simp only[X.D,hY,ER];rfl
theorem WV{H:Nat->Option aO}{τ:Ty}{x:X}{y:τ.V}(h:xJ τ x=some y):cJ H x.D (uC τ y).D:=by
 rw[aGX];unfold xJ at h;split at h
 .rename_i h1
  rw[aI h1];exact sI h1 h
 .rename_i h1
  rw[aE (by rw[h1];simp)];split at h
  .unfold X.D
   rw[hY];exact cJ.agg (sN h)
  .cases h
theorem a8L(σ:Vw)(τ:Ty)(x:X):cJ σ.den.H x.D (ZO σ τ x).D:=by
 unfold ZO;split
 .rename_i y h
  exact(N8 σ x).trans (WV h)
 .exact cJ.refl
theorem aHH{σ:Sg}{gv:List (Nat×Ty)}:∀(ts:List Nat)(T':XT),Mm σ gv ts=some T'->∀t x',lk t T'=some x'->∃x,lk t σ.T=some x/\cJ σ.vw.den.H x.D x'.D
 |[],T',h,t,x',ht=>by cases h;cases ht
 |t0::l,T',h,t,x',ht=>by
   unfold Mm at h;split at h
   .rename_i x hx
    split at h
    .rename_i r hr
     cases h;unfold lk at ht;split at ht
     .rename_i he
      have he:=bB he;subst he;cases ht;refine⟨x,hx,?_⟩;split
      .exact a8L _ _ _
      .exact cJ.refl
     .exact aHH l r hr t x' ht
    .cases h
   .cases h
theorem eG.trees{H:Nat->Option aO}{nm':Nat->Bool}{ρ:Nat->Nat}(l:List Tree):eG false H nm' ρ (.agg (l.map .t)) (.agg (l.map .t)):=.agg rfl λi d d' h1 h2=>by
 rw[h1]at h2;cases h2;obtain⟨t,_,rfl⟩:=gU.1 (iM h1);exact .t rfl
mutual
theorem IQ{H:Nat->Option aO}{nm':Nat->Bool}{ρ:Nat->Nat}{f:Nat->Option Nat}(hf:∀k k',f k=some k'->nm' k'=true/\k=ρ k'):∀(x y:X),gX f x=some y->eG false H nm' ρ x.D y.D
 |.own q,y,h=>by
   unfold gX at h;split at h
   .rename_i q' hq;cases h;exact .own (hf _ _ hq).1 (hf _ _ hq).2
   .cases h
 |.ref q off,y,h=>by
   unfold gX at h;split at h
   .rename_i q' hq;cases h;exact .ref (hf _ _ hq).1 (hf _ _ hq).2
   .cases h
 |.rr q i j s,y,h=>by
   unfold gX at h;split at h
   .rename_i q' hq;cases h;exact .ref (hf _ _ hq).1 (hf _ _ hq).2
   .cases h
 |.agg xs,y,h=>by
   unfold gX at h;split at h
   .rename_i ys hy;cases h;exact .a8R (Aw hf xs ys hy)
   .cases h
 |.aS xs,y,h=>by
   unfold gX at h;split at h
   .rename_i ys hy;cases h;exact .D3 (Aw hf xs ys hy)
   .cases h
 |.fn g xs,y,h=>by
   unfold gX at h;split at h
   .rename_i ys hy;cases h;exact .fn' (Aw hf xs ys hy)
   .cases h
 |.e τ x,y,h=>by
   unfold gX at h;cases h;unfold X.D;split
   .exact .t rfl
   .exact .any
 |.bW,y,h=>by unfold gX at h;cases h;exact .t rfl
 |.pt τ x j,y,h=>by unfold gX at h;cases h;exact .ptr
 |.v w,y,h=>by unfold gX at h;cases h;exact .t rfl
 |.bit j q,y,h=>by unfold gX at h;cases h
 |.eX k c x,y,h=>by unfold gX at h;cases h
 |.sub _ _,y,h=>by unfold gX at h;cases h
 |.jE _ _ _,y,h=>by unfold gX at h;cases h
 |.vw _ _ _ _,y,h=>by unfold gX at h;cases h
 |.via k j,y,h=>by
   unfold gX at h;split at h
   .rename_i q' hq;cases h;exact .via (hf _ _ hq).1 (hf _ _ hq).2
   .cases h
 |.jI k j,y,h=>by
   unfold gX at h;split at h
   .rename_i q' hq;cases h;exact .via (hf _ _ hq).1 (hf _ _ hq).2
   .cases h
 |.ag τ l,y,h=>by
   unfold gX at h;cases h;unfold X.D;exact eG.trees _
 |.kQ _,y,h=>by unfold gX at h;cases h
theorem Aw{H:Nat->Option aO}{nm':Nat->Bool}{ρ:Nat->Nat}{f:Nat->Option Nat}(hf:∀k k',f k=some k'->nm' k'=true/\k=ρ k'):∀(xs ys:List X),q9 f xs=some ys->vI false H nm' ρ (Ds xs) (Ds ys)
 |[],ys,h=>by unfold q9 at h;cases h;exact .nil
 |x::l,ys,h=>by
   unfold q9 at h;split at h
   .rename_i y hy
    split at h
    .rename_i r hr
     cases h;exact .cons (IQ hf x y hy) (Aw hf l r hr)
    .cases h
   .cases h
end
theorem IS{H:Nat->Option aO}{nm':Nat->Bool}{ρ:Nat->Nat}{f:Nat->Option Nat}(hf:∀k k',f k=some k'->nm' k'=true/\k=ρ k'){o o':XO}(h:sD f o=some o'):jU false H nm' ρ o.A o'.A:=by
 cases o with
 |box e xs=>
   simp only[sD]at h;split at h
   .rename_i ys hy
    cases h;have:=Aw (H:=H) hf xs ys hy;rw[hY,hY]at this;exact .a79 this
   .cases h
 |row e τ l st=>simp only[sD]at h;cases h;exact .row rfl rfl
 |arr e τ l=>
   simp only[sD]at h;cases h;refine .box rfl λi d d' h1 h2=>?_
   rw[h1]at h2;cases h2;obtain⟨t,_,rfl⟩:=gU.1 (iM h1);exact .t rfl
 |nest e e' τ l=>simp only[sD]at h;cases h;exact .nest rfl
 |bC e e' κ ρ' l ln=>
   have key:∀c∈bR (dY (κ:=κ) (ρ:=ρ')) l,OR false H nm' ρ c c:=λc hc=>by
    rcases aJW l c hc with⟨n,ts,rfl⟩|⟨t,rfl⟩
    .exact .cX
    .exact .d (.t rfl)
   simp only[sD]at h;split at h
   .cases h
    exact .bC rfl (λi c c' h h'=>by
     have e:=gZ (h.symm.trans h');subst e;exact key c (iS.2 ⟨i,h⟩))
   .rename_i i q
    split at h
    .rename_i q' hq
     cases h;refine .bC (by rw[NS,NS]) (λj c c' h h'=>?_);replace h:((bR dY l).set (i.toNat*(ρ'.size+1)+ρ'.size) (.fK (.own q)))[j]?=some c:=h;replace h':((bR dY l).set (i.toNat*(ρ'.size+1)+ρ'.size) (.fK (.own q')))[j]?=some c':=h';by_cases hj:i.toNat*(ρ'.size+1)+ρ'.size=j
     .subst hj
      have hlt:=(bZ.1 h).1;rw[nI]at hlt;rw[pO hlt]at h h';cases h;cases h';exact .d (IQ (H:=H) hf (.own q) (.own q') (by unfold gX;rw[hq]))
     .rw[qP hj]at h h'
      have e:=gZ (h.symm.trans h');subst e;exact key c (iS.2 ⟨j,h⟩)
    .cases h
 |it s pos=>
   simp only[sD]at h;cases h;exact .it
 |mp τ l=>
   simp only[sD]at h;split at h
   .rename_i r hr
    cases h;have key:∀(l r:List (τ.V×X)),Me f l=some r->l.length=r.length/\∀(i:Nat)(p p':τ.V×X),l[i]?=some p->r[i]?=some p'->p.1=p'.1/\eG false H nm' ρ p.2.D p'.2.D:=by
     intro l
     induction l with
     |nil=>intro r h;cases h;exact⟨rfl,λi p p' h=>by simp at h⟩
     |cons a l ih=>
       intro r h;obtain⟨k,x⟩:=a;unfold Me at h;split at h
       .rename_i y hy
        split at h
        .rename_i r' hr'
         cases h;obtain⟨h1,h2⟩:=ih r' hr';refine⟨by simp[h1],λi p p' hp hp'=>?_⟩;cases i with
         |zero=>simp at hp hp';subst hp hp';exact⟨rfl,IQ hf _ _ hy⟩
         |succ i=>exact h2 i p p' (by simpa using hp) (by simpa using hp')
        .cases h
       .cases h
    obtain⟨h1,h2⟩:=key l r hr;refine .mp (by simp[h1]) (λi p p' hp hp'=>?_);rw[cZ]at hp hp';obtain⟨a,ha,rfl⟩:=cO.1 hp;obtain⟨b,hb,rfl⟩:=cO.1 hp';obtain⟨e1,e2⟩:=h2 i a b ha hb;exact⟨by rw[e1],e2⟩
   .cases h
theorem aGy{f:Nat->Option Nat}:∀(T T':XT),Md f T=some T'->∀t y,lk t T'=some y->∃x,lk t T=some x/\gX f x=some y
 |[],T',h,t,y,ht=>by cases h;cases ht
 |(t0,x0)::l,T',h,t,y,ht=>by
   unfold Md at h;split at h
   .rename_i y0 hy
    split at h
    .rename_i r hr
     cases h;unfold lk at ht ⊢;split at ht
     .cases ht;exact⟨x0,rfl,hy⟩
     .exact aGy l r hr t y ht
    .cases h
   .cases h
theorem uH{f:Nat->Option Nat}{H:Nat->Option XO}:∀(al:List (Nat×Nat))(H':XH),sE f H al=some H'->∀k o',lk k H'=some o'->∃q o,lk k al=some q/\H q=some o/\sD f o=some o'
 |[],H',h,k,o',hk=>by cases h;cases hk
 |(new,q)::l,H',h,k,o',hk=>by
   unfold sE at h;split at h
   .rename_i o ho
    split at h
    .rename_i o1 h1
     split at h
     .rename_i r hr
      cases h;unfold lk at hk ⊢;split at hk
      .cases hk;exact⟨q,o,rfl,ho,h1⟩
      .exact uH l r hr k o' hk
     .cases h
    .cases h
   .cases h
theorem I5{k new:Nat}:∀{rn:List (Nat×Nat)},old rn k=some new->(new,k)∈rn
 |[],h=>by cases h
 |(n,o)::l,h=>by
   unfold old at h;split at h
   .rename_i he
    have he:=bB he;subst he;cases h;exact iB ..
   .exact fR _ (I5 h)
theorem sL{α:Type}{k:Nat}{x:α}{l:List (Nat×α)}(h:lk k l=some x):(k,x)∈l:=oR (by rw[<-NO];exact h)
theorem NA:∀{l:List Nat},nodupB l=true->l.Nodup
 |[],_=>List.nodup_nil
 |k::l,h=>by
   unfold nodupB at h;split at h
   .cases h
   .rename_i hc
    exact a9K.2 ⟨(λhm=>by rw[vG.2 hm]at hc;cases hc),NA h⟩
structure Z1(rn al:List (Nat×Nat))(lo hi:Nat):Prop where
 lZ:∀new q,(new,q)∈rn->lo<=new/\new<hi/\uS new=false/\cG rn new=q
 nd:(al.map (·.2)).Nodup
 al:∀k q,lk k al=some q->cG rn k=q/\(uS k=true\/∃q',(k,q')∈rn)
theorem Mb{rn:List (Nat×Nat)}{k q:Nat}(h:lk k rn=some q):cG rn k=q:=by
 unfold cG;rw[<-NO,h]
theorem uR{k:Nat}:uS k=true ↔ 50<=k/\k<100:=by
 unfold uS;rw[aT];exact⟨λ⟨a,b⟩=>⟨iA a,iA b⟩,λ⟨a,b⟩=>⟨Zg a,Zg b⟩⟩
theorem Ww{rn al:List (Nat×Nat)}{lo hi:Nat}(h:IM rn al lo hi=true):Z1 rn al lo hi:=by
 unfold IM at h;simp only[aT]at h;obtain⟨⟨h1,h2⟩,h3⟩:=h;have hlk:∀{p:Nat×Nat},(match lk p.1 rn with|some q=>aY q p.2|none=>false)=true->lk p.1 rn=some p.2:=λ{p} h=>by
  split at h
  .rename_i q hq;rw[hq,bB h]
  .cases h
 have h1':∀p∈rn,lo<=p.1/\p.1<hi/\uS p.1=false/\lk p.1 rn=some p.2:=λp hp=>by
  have:=fG.1 h1 p hp;simp only[aT,wW]at this;obtain⟨⟨⟨a,b⟩,c⟩,d⟩:=this;exact⟨iA a,iA b,c,hlk d⟩
 refine⟨λnew q hm=>?_,NA h2,λk q hk=>?_⟩
 .obtain⟨a,b,c,d⟩:=h1' _ hm
  exact⟨a,b,c,Mb d⟩
 .have:=fG.1 h3 _ (sL hk)
  simp only[lS,aT]at this;rcases this with⟨a,b⟩|c
  .have hb:=bB b
   have hkH:=uR.1 a;refine⟨?_,.inl a⟩;rw[<-hb];unfold cG;cases hl:Ab.look k rn with
   |none=>rfl
   |some z=>
     have:=(h1' _ (oR hl)).2.2.1;simp only at this;rw[a]at this;cases this
  .have:=hlk (p:=(k,q)) c
   exact⟨Mb this,.inr ⟨_,sL this⟩⟩
theorem Z1.f{rn al:List (Nat×Nat)}{lo hi:Nat}(F:Z1 rn al lo hi)(hhi:hi<=100):∀k k',sJ rn k=some k'->decide (k'<100)=true/\k=cG rn k':=λk k' h=>by
 unfold sJ at h;split at h
 .rename_i hH
  cases h;refine⟨aX (uR.1 hH).2,?_⟩;unfold cG;cases hl:Ab.look k rn with
  |none=>rfl
  |some z=>
    have:=(F.lZ _ _ (oR hl)).2.2.1;rw[hH]at this;cases this
 .obtain⟨a,b,c,d⟩:=F.lZ _ _ (I5 h)
  exact⟨aX (by omega),d.symm⟩
theorem Mz{al:List (Nat×Nat)}(h:(al.map (·.2)).Nodup):∀{a b q:Nat},(a,q)∈al->(b,q)∈al->a=b:=by
 induction al with
 |nil=>intro a b q ha;cases ha
 |cons p l ih=>
   intro a b q ha hb;rw[iH,a9K]at h;rcases eZ.1 ha with e1|h1
   .rcases eZ.1 hb with e2|h2
    .rw[<-e1]at e2;cases e2;rfl
    .exact absurd (gU.2 ⟨_,h2,by rw[<-e1]⟩) h.1
   .rcases eZ.1 hb with e2|h2
    .exact absurd (gU.2 ⟨_,h1,by rw[<-e2]⟩) h.1
    .exact ih h.2 h1 h2
theorem a6j{E:Env}{T T':Nat->Option D}{H H':Nat->Option aO}{N N':Nat}(ρ:Nat->Nat)(hT:∀t d',T' t=some d'->∃d,T t=some d/\eG false H (λk=>decide (k<N')) ρ d d')
    (hH:∀k o',H' k=some o'->k<N'/\∃o,H (ρ k)=some o/\jU false H (λk=>decide (k<N')) ρ o o') (hinj:∀k k' o o',H' k=some o->H' k'=some o'->ρ k=ρ k'->k=k') (hid:∀k,50<=k->k<100->ρ k=k):dS E (mk T H N) (mk T' H' N'):=by
 intro tm w ⟨ν,G,I⟩;have hρ:∀k',decide (k'<N')=true->(mk T H N).nm (ρ k')=true->(λk=>ν (ρ k)) k'=ν (ρ k'):=λ_ _ _=>rfl
 refine⟨λk=>ν (ρ k),G,I.kept,I.eJ,λk h1 h2=>?_,I.g0,I.sz,λt d' h=>?_,λk o' h=>?_,λk o k' o' h h' hne g hg=>?_⟩
 .show ν (ρ k)=_
  rw[hid k h1 h2];exact I.fJ k h1 h2
 .obtain⟨d,hd,hle⟩:=hT t d' h
  obtain⟨v,hv,hvd⟩:=I.T t d hd;exact⟨v,hv,hle.rel (λ_ _ _ h=>h) I.rows hρ hvd⟩
 .obtain⟨hk,o,ho,hle⟩:=hH k o' h
  exact⟨aX hk,(I.H _ o ho).2.view hle I.rows hρ rfl (λ_ _ h=>h)⟩
 .obtain⟨_,o1,h1,l1⟩:=hH k o h
  obtain⟨_,o2,h2,l2⟩:=hH k' o' h';exact λhg'=>I.cW _ o1 _ o2 h1 h2 (λe=>hne (hinj k k' o o' h h' e)) g (l1.ft.1 hg) (l2.ft.1 hg')
theorem My{nm:Nm}{σ:Sg}{k:Sg->O}{r:aF}(h:BG nm σ k=some r)(hN:100<=σ.N):∃σ',k σ'=some r/\σ'.N=100/\∀E,dS E (eB σ) (eB σ'):=by
 unfold BG at h;obtain⟨σ2,h,hN2,hE2⟩:=Xa _ _ _ _ h;obtain⟨T1,hp,h⟩:=bF h;simp only at h;split at h
 case h_2=>cases h
 rename_i hrn;have F:=Ww hrn;obtain⟨T2,hT2,h⟩:=bF h;obtain⟨H2,hH2,h⟩:=bF h;refine⟨_,h,rfl,λE=>(dS.trans' (hE2 hN E) (dS.trans' (b:=mk (λt=>(lk t T1).map X.D) (λk=>(lk k σ2.H).map XO.A) σ2.N) (a6m λt d' ht=>?_) ?_))⟩
 .obtain⟨x',hx',rfl⟩:=cO.1 ht
  obtain⟨x,e1,e2⟩:=aHH _ _ hp t x' hx';exact⟨x.D,by rw[e1];rfl,e2⟩
 .have hf:=F.f (by omega)
  refine a6j (cG (kT 0 (reach σ2.vw.H 60 (X9 T1 (handed σ2.H)) []))) (λt d' ht=>?_) (λk o' hk=>?_) (λk k' o o' h1 h2 e=>?_) (λk h1 h2=>?_)
  .obtain⟨y,hy,rfl⟩:=cO.1 ht
   obtain⟨x,e1,e2⟩:=aGy _ _ hT2 t y hy;exact⟨x.D,by rw[e1];rfl,IQ hf x y e2⟩
  .obtain⟨y,hy,rfl⟩:=cO.1 hk
   obtain⟨q,o,e1,e2,e3⟩:=uH _ _ hH2 k y hy;obtain⟨a1,a2⟩:=F.al k q e1;refine⟨?_,o.A,by rw[a1];exact aR (Option.map XO.A) e2,IS hf e3⟩;rcases a2 with a2|⟨q',a2⟩
   .exact(uR.1 a2).2
   .have:=(F.lZ _ _ a2).2.1;show k<100;omega
  .obtain⟨y1,hy1,rfl⟩:=cO.1 h1
   obtain⟨y2,hy2,rfl⟩:=cO.1 h2;obtain⟨q1,_,e1,_,_⟩:=uH _ _ hH2 k y1 hy1;obtain⟨q2,_,e2,_,_⟩:=uH _ _ hH2 k' y2 hy2;rw[(F.al k q1 e1).1,(F.al k' q2 e2).1]at e;subst e;exact Mz F.nd (sL e1) (sL e2)
  .unfold cG
   cases hl:Ab.look k _ with
   |none=>rfl
   |some z=>
     have:=(F.lZ _ _ (oR hl)).2.2.1;rw[uR.2 ⟨h1,h2⟩]at this;cases this
end Go.Ax
/- Code, loops, functions. -/
namespace Go.Ax
open aA
open Go.RowKit Go.Ab
def s8(c:Cx)(M:Nat)(code:Code)(σ:Sg)(Post:Exit->Sg->Prop):Prop:=∀E:Env,E.m=M->iV c.P E code (λe s=>∃σ',Post e σ'/\dS E s (eB σ')) (eB σ)
def JT(c:Cx)(M:Nat)(code:Code){Y1 Y2 Y3:Type}(I1:Y1->Exit×Sg)(I2:Y2->Exit×Sg)(I3:Y3->Exit×Sg)(L:Sg->(Y1->O)->(Y2->O)->(Y3->O)->O):Prop:=∀σ k1 k2 k3 r,L σ k1 k2 k3=some r->σ.N=100->
 s8 c M code σ λe σ'=>100<=σ'.N/\((∃y,k1 y=some r/\I1 y=(e,σ'))\/(∃y,k2 y=some r/\I2 y=(e,σ'))\/∃y,k3 y=some r/\I3 y=(e,σ'))
def jL(c:Cx)(M:Nat)(h:Hint)(code:Code):Prop:=match h with
 |.sub _ _ _ _ I1 I2 I3 L=>JT c M code I1 I2 I3 L
 |h=>match code with
   |.seq a b=>jL c M (match h with|.seq x _=>x|_=>.d) a/\jL c M (match h with|.seq _ y=>y|_=>.d) b
   |.cond _ a b=>jL c M (match h with|.cond x _=>x|_=>.d) a/\jL c M (match h with|.cond _ y=>y|_=>.d) b
   |.block _ a=>jL c M (match h with|.block x=>x|_=>.d) a
   |.scope a=>jL c M (match h with|.block x=>x|_=>.d) a
   |.loop a=>jL c M (match h with|.D2 _ x=>x|_=>.d) a
   |_=>True
termination_by structural code
theorem jO{c:Cx}{M:Nat}:∀code:Code,jL c M .d code
 |.skip=>trivial
 |.region ..=>trivial
 |.seq a b=>⟨jO a,jO b⟩
 |.cond _ a b=>⟨jO a,jO b⟩
 |.block _ a=>jO a
 |.loop a=>jO a
 |.rangeFunc ..=>trivial
 |.exit _=>trivial
 |.scope a=>jO a
 |.label _=>trivial
 |.goto _=>trivial
 |.ret=>trivial
 |.refuse _=>trivial
theorem No{σ:Sg}{s:St}(h:hJ σ.T σ.H s){E:Env}:dS E (mk s.T s.H σ.N) (eB σ):=a6b (λt d ht=>by
    obtain⟨x,hx,rfl⟩:=cO.1 ht;exact h.T t x hx) (λk o hk=>by
    obtain⟨x,hx,rfl⟩:=cO.1 hk;exact h.H k x hx)
theorem hJ.den(σ:Sg):hJ σ.T σ.H (eB σ):=⟨λt x h=>by show(lk t σ.T).map X.D=_;rw[h];rfl,λk o h=>by show(lk k σ.H).map XO.A=_;rw[h];rfl⟩
theorem Yp{M:Nat}:∀{l:List Oper},Iy M l=true->(l.all λo=>match o.dst with|none=>true|some t=>decide (t<M))=true
 |[],_=>rfl
 |o::l,h=>by
   unfold Iy at h;rw[List.all_cons,aT];split at h
   .rename_i t ht
    split at h
    .rename_i hb
     exact⟨by rw[ht];exact aX (iA hb),Yp h⟩
    .cases h
   .rename_i ht
    exact⟨by rw[ht],Yp h⟩
theorem aGT(n:Int)(h:0<=n/\n<256):(X.e .u8 (s7 n.toNat)).D = .t (.v (.int .u8 n)):=by
 have:((s7 n.toNat).toNat:Int)=n:=by
  rw[UInt8.toNat_ofNat'];omega
 show D.t (.v (.int .u8 ((s7 n.toNat).toNat:Int)))=_;rw[this]
theorem XZ{σ:Sg}{w:Value}{x:X}(h:uM w=some x):(eB σ).ev (.const w)=some x.D:=by
 have h1:∀v:Value,(∀vs,v≠.tuple vs)->(∀cs,v≠.agg cs)->(p9 v).D = .t (.v v):=λv h1 h2=>by
  unfold p9;split
  .split
   .exact aGT _ (bK ‹_›)
   .rfl
  .rfl
  .rfl
  .rfl
  .rfl
  .rfl
 unfold uM at h;unfold St.ev;split at h
 .rename_i cs
  split at h
  .rename_i ha
   cases h;show(if rI (.agg cs)=true then some (oO (.agg cs))else none)=_;rw[aI (show rI (.agg cs)=true from ha)];simp only[oO,X.D,hY,qN]
   congr 2
   refine List.map_congr_left λv hv=>(h1 v (λvs e=>?_) (λcs' e=>?_)).symm
   .have:=fG.1 ha v hv;rw[e]at this;cases this
   .have:=fG.1 ha v hv;rw[e]at this;cases this
  .cases h
 .cases h
 .rename_i h2 h3
  cases h;rw[h1 w (λvs e=>h3 vs e) (λcs e=>h2 cs e)];cases w with
  |agg cs=>exact absurd rfl (h2 cs)
  |tuple vs=>exact absurd rfl (h3 vs)
  |_=>rfl
theorem a63{σ:Sg}{x:Operand}{v:X}(h:σ.vw.ev x=some v):(eB σ).ev x=some v.D:=by
 cases x with
 |tmp t=>
   simp only[Vw.ev,Sg.vw]at h;split at h
   .rename_i y hy
    have e:(eB σ).ev (.tmp t)=some y.D:=by show(lk t σ.T).map X.D=_;rw[hy];rfl
    rw[e];unfold vX at h;split at h
    .cases h;rfl
    .cases h
    .cases h;rfl
   .cases h
 |const w=>exact XZ h
 |func f=>
   simp only[Vw.ev]at h;split at h
   .rename_i hb
    cases h;exact aI (iA hb)
   .cases h
 |global g=>simp only[Vw.ev]at h;cases h;exact aR some (aI8 g).symm
structure tG(c:Cx):Prop where
 mix:c.P.follows .mixedOrders=true
 step:OH c
 kQ:OJ c
theorem Xy{k:Exit->Sg->O}{e:Exit}{σ:Sg}{r:aF}(h:kk k (e,σ)=some r):k e σ=some r:=by
 unfold kk at h;split at h
 .cases h
 .exact h
theorem Ye{c:Cx}(hc:tG c){M:Nat}:∀(code:Code)(h:Hint)(σ:Sg)(k:Exit->Sg->O)(r:aF),exec c M h code σ k=some r->jL c M h code->100<=σ.N->s8 c M code σ λe σ'=>100<=σ'.N/\k e σ'=some r:=by
 have sub:∀(code:Code) nm (Y1 Y2 Y3:Type) (I1:Y1->Exit×Sg) (I2:Y2->Exit×Sg) (I3:Y3->Exit×Sg) (L:Sg->(Y1->O)->(Y2->O)->(Y3->O)->O) (σ:Sg) (k:Exit->Sg->O) (r:aF),
     BG nm σ (λσ'=>L σ' (λy=>kk k (I1 y)) (λy=>kk k (I2 y)) (λy=>kk k (I3 y)))=some r->JT c M code I1 I2 I3 L->100<=σ.N->s8 c M code σ λe σ'=>100<=σ'.N/\k e σ'=some r:=by
  intro code nm Y1 Y2 Y3 I1 I2 I3 L σ k r h hs hN E hE;obtain⟨σ1,h1,h2,h3⟩:=My h hN;refine ZN (h3 E) (uZ (hs σ1 _ _ _ r h1 h2 E hE) ?_);rintro e s ⟨σ',⟨hN',hy⟩,hent⟩;refine⟨σ',⟨hN',?_⟩,hent⟩;rcases hy with⟨y,a,b⟩|⟨y,a,b⟩|⟨y,a,b⟩
  .rw[b]at a;exact Xy a
  .rw[b]at a;exact Xy a
  .rw[b]at a;exact Xy a
 intro code
 induction code with
 |skip=>
   intro h σ k r he hh hN;cases h with
   |sub=>exact sub _ _ _ _ _ _ _ _ _ _ _ _ he hh hN
   |_=>exact λE hE=>a7x ⟨σ,⟨hN,he⟩,dS.sF⟩
 |label l=>
   intro h σ k r he hh hN;cases h with
   |sub=>exact sub _ _ _ _ _ _ _ _ _ _ _ _ he hh hN
   |_=>exact λE hE=>a8C ⟨σ,⟨hN,he⟩,dS.sF⟩
 |exit id=>
   intro h σ k r he hh hN;cases h with
   |sub=>exact sub _ _ _ _ _ _ _ _ _ _ _ _ he hh hN
   |_=>exact λE hE=>a8D ⟨σ,⟨hN,he⟩,dS.sF⟩
 |ret=>
   intro h σ k r he hh hN;cases h with
   |sub=>exact sub _ _ _ _ _ _ _ _ _ _ _ _ he hh hN
   |_=>exact λE hE=>a8A ⟨σ,⟨hN,he⟩,dS.sF⟩
 |loop a ih=>
   intro h σ k r he hh hN;cases h with
   |sub=>exact sub _ _ _ _ _ _ _ _ _ _ _ _ he hh hN
   |D2 n x=>
     intro E hE;refine aJg (ι:=Nat×Sg) (λp=>eB p.2) (λp=>NZ (λih σ=>exec c M x a σ λe σ'=>match e with
      |.normal=>ih σ'
      |e=>k e σ') p.1 p.2=some r/\100<=p.2.N) (λp=>p.1) (n,σ) dS.sF ⟨he,hN⟩ ?_
     rintro⟨m,σ0⟩ ⟨h0,hN0⟩;simp only at h0 hN0;cases m with
     |zero=>cases h0
     |succ m=>
       unfold NZ at h0;refine uZ (ih x σ0 _ r h0 hh hN0 E hE) ?_;rintro e s ⟨σ1,⟨hN1,h1⟩,hent⟩;cases e with
       |normal=>exact⟨(m,σ1),⟨h1,hN1⟩,a8y m,hent⟩
       |_=>exact⟨σ1,⟨hN1,h1⟩,hent⟩
   |_=>cases he
 |goto l=>
   intro h σ k r he hh hN;cases h with
   |sub=>exact sub _ _ _ _ _ _ _ _ _ _ _ _ he hh hN
   |_=>cases he
 |scope a ih=>
   intro h σ k r he hh hN;have go:∀x:Hint,jL c M x a->exec c M x a σ (λe σ'=>match e with
    |.goto _=>none
    |e=>k e σ')=some r->s8 c M (.scope a) σ λe σ'=>100<=σ'.N/\k e σ'=some r:=λx hx hex E hE=>by
    refine a7z (uZ (ih x σ _ r hex hx hN E hE) ?_);rintro e s ⟨σ',⟨hN',hk⟩,hent⟩;cases e with
    |goto l=>cases hk
    |_=>exact⟨σ',⟨hN',hk⟩,hent⟩
   cases h with
   |sub=>exact sub _ _ _ _ _ _ _ _ _ _ _ _ he hh hN
   |block x=>exact go x hh he
   |_=>exact go .d hh he
 |refuse a=>
   intro h σ k r he hh hN;cases h with
   |sub=>exact sub _ _ _ _ _ _ _ _ _ _ _ _ he hh hN
   |_=>cases he
 |rangeFunc a b x y _ _=>
   intro h σ k r he hh hN;cases h with
   |sub=>exact sub _ _ _ _ _ _ _ _ _ _ _ _ he hh hN
   |_=>cases he
 |block id a ih=>
   intro h σ k r he hh hN;have go:∀x:Hint,jL c M x a->exec c M x a σ (λe σ'=>match e with
    |.exit id'=>match aY id' id with|true=>k .normal σ'|false=>k (.exit id') σ'
    |e=>k e σ')=some r->s8 c M (.block id a) σ λe σ'=>100<=σ'.N/\k e σ'=some r:=λx hx hex E hE=>by
    refine a8H (uZ (ih x σ _ r hex hx hN E hE) ?_);rintro e s ⟨σ',⟨hN',hk⟩,hent⟩;cases e with
    |exit id'=>
      simp only[aAC];simp only at hk;split at hk
      .rename_i hb
       rw[aI (bB hb)];exact⟨σ',⟨hN',hk⟩,hent⟩
      .rename_i hb
       rw[aE (qF hb)];exact⟨σ',⟨hN',hk⟩,hent⟩
    |_=>exact⟨σ',⟨hN',hk⟩,hent⟩
   cases h with
   |sub=>exact sub _ _ _ _ _ _ _ _ _ _ _ _ he hh hN
   |block x=>exact go x hh he
   |_=>exact go .d hh he
 |cond z a b iha ihb=>
   intro h σ k r he hh hN;have go:∀x y:Hint,jL c M x a->jL c M y b->(ob (σ.vw.ev z) λv=>match v with
    |.e .bo q=>br q (exec c M x a σ k) (exec c M y b σ k)
    |_=>none)=some r->s8 c M (.cond z a b) σ λe σ'=>100<=σ'.N/\k e σ'=some r:=λx y hx hy hex E hE=>by
    obtain⟨v,hv,hex⟩:=bF hex;split at hex
    case h_2=>cases hex
    rename_i q;have hev:=a63 hv;refine a8G (b:=q) hev (λhq=>?_) (λhq=>?_)
    .subst hq;exact iha x σ k r hex hx hN E hE
    .subst hq;exact ihb y σ k r hex hy hN E hE
   cases h with
   |sub=>exact sub _ _ _ _ _ _ _ _ _ _ _ _ he hh hN
   |cond x y=>exact go x y hh.1 hh.2 he
   |_=>exact go .d .d hh.1 hh.2 he
 |seq a b iha ihb=>
   intro h σ k r he hh hN;have go:∀x y:Hint,jL c M x a->jL c M y b->exec c M x a σ (λe σ'=>match e with
    |.normal=>exec c M y b σ' k
    |e=>k e σ')=some r->s8 c M (.seq a b) σ λe σ'=>100<=σ'.N/\k e σ'=some r:=λx y hx hy hex E hE=>by
    refine a7y (uZ (iha x σ _ r hex hx hN E hE) ?_);rintro e s ⟨σ',⟨hN',hk⟩,hent⟩;cases e with
    |normal=>exact ZN hent (ihb y σ' k r hk hy hN' E hE)
    |_=>exact⟨σ',⟨hN',hk⟩,hent⟩
   cases h with
   |sub=>exact sub _ _ _ _ _ _ _ _ _ _ _ _ he hh hN
   |seq x y=>exact go x y hh.1 hh.2 he
   |_=>exact go .d .d hh.1 hh.2 he
 |region id ops draw=>
   intro h σ k r he hh hN;have go:∀(stF:List Nat)(sl:List Mv)(kl:List (List Nat)),Mf c M stF sl kl ops draw σ k=some r->s8 c M (.region id ops draw) σ λe σ'=>100<=σ'.N/\k e σ'=some r:=λstF sl kl hex E hE=>by
    unfold Mf at hex;obtain⟨σ1,hex,hN1,hent⟩:=Xa _ _ _ _ hex
    dsimp only at hex
    refine ZN (hent hN E) ?_;have hN':100<=σ1.N:=hN1 hN;clear hent;split at hex
    .cases hex
    rename_i hpl;obtain⟨l⟩:=ops;simp only at hex;split at hex
    .split at hex
     case h_2=>cases hex
     rename_i hd;obtain⟨ex,σ2,e1,e2,e3,e4⟩:=Dg hc.step hc.kQ l 0 σ1 _ r (eB σ1) (λ_=>false) hex (hJ.den σ1) (λt x ht=>BA (XF hpl t x ht));refine a8B (σ1.N+8*l.length) hE hN' rfl (Yp hd) ?_;have:∀(Post Post':Exit->St->Prop)(hp:∀e s,Post e s->Post' e s)(ops:Array Oper)(l:List Oper)(fr:Nat)(s:St),pM c.P ops Post l fr s->pM c.P ops Post' l fr s:=by
      intro Post Post' hp ops l
      induction l with
      |nil=>intro fr s h;exact hp _ s h
      |cons o l ih=>
        intro fr s h;rcases h with⟨d,W,h1,h2⟩|⟨ι,C,d,W,h0,h1,h2⟩|⟨v,W,h0,h1,h2⟩
        .exact .inl ⟨d,W,h1,ih _ _ h2⟩
        .exact .inr (.inl ⟨ι,C,d,W,h0,h1,λi hi=>ih _ _ (h2 i hi)⟩)
        .exact .inr (.inr ⟨v,W,h0,h1,hp _ _ h2⟩)
     refine this _ _ (λe' s hs=>?_) _ _ _ _ e4;obtain⟨rfl,hs⟩:=hs;refine⟨σ2,⟨by rw[e2];omega,e1⟩,?_⟩;rw[<-e2];exact No hs
    .split at hex
     case h_2=>cases hex
     rename_i ha;have e3:=EL (ops:=l.toArray) (pre:=IV l []) (kl:=kl) (fr:=σ1.N) hc.step hc.kQ (s:=eB σ1) (hJ.den σ1).T (hJ.den σ1).H (λt x ht=>XF hpl t x ht) (hJ.den σ1).H (n:=l.length) l 0 [] _ r (λ_=>false) hex rfl (by simp) (λp hp=>by cases hp);refine a8E (IV l []) kl hc.mix hE hN' ha ?_;have:∀(Post Post':Exit->St->Prop)(hp:∀e s,Post e s->Post' e s)(ops:Array Oper)(pre kl:List (List Nat))(fr:Nat)(s:St)(l:List Oper)(i:Nat)(rs:Rs),rV c.P ops pre kl fr s Post l i rs->rV c.P ops pre kl fr s Post' l i rs:=by
      intro Post Post' hp ops pre kl fr s l
      induction l with
      |nil=>intro i rs h;exact hp _ _ h
      |cons o l ih=>
        intro i rs h;rcases h with⟨d,W,h1,h2,h3⟩|⟨v,W,h1,h2,h3,h4,h5⟩
        .exact .inl ⟨d,W,h1,h2,ih _ _ h3⟩
        .exact .inr ⟨v,W,h1,h2,h3,h4,hp _ _ h5⟩
     refine this _ _ (λe' s hs=>?_) _ _ _ _ _ _ _ _ e3;rcases hs with⟨rfl,rs,e1,e2,rfl⟩|⟨σ',e1,e2,e3⟩
     .obtain⟨T2,H2,e4,e5⟩:=aIk (ops:=l.toArray) (fr:=σ1.N) l 0 rs σ1.T σ1.H _ r (eB σ1) (λq o ho=>by rw[eC];simp[Region.gG,ho]) (by omega) e1 (hJ.den σ1)
      obtain⟨T3,e6,e7,e8⟩:=IW e4;refine⟨⟨T3,H2,σ1.N+8*l.length⟩,⟨by show 100<=σ1.N+8*l.length;omega,e6⟩,?_⟩;exact No (σ:=⟨T3,H2,σ1.N+8*l.length⟩) (e5.T' e7)
     .have e2':σ'.N=σ1.N+8*l.length:=by rw[e2];simp
      refine⟨σ',⟨by omega,e1⟩,?_⟩;rw[<-e2'];exact No e3
   cases h with
   |sub=>exact sub _ _ _ _ _ _ _ _ _ _ _ _ he hh hN
   |cF a b d=>exact go a b d he
   |_=>exact go [] [] [] he
end Go.Ax
/- Loops and parts of the code as declarations of their own; functions. -/
namespace Go.Ax
open aA
open Go.RowKit Go.Ab
theorem a4I{c:Cx}(hc:tG c){M:Nat}{hb:Hint}{body:Code}(hh:jL c M hb body){nm:Nm}{out:List (Exit×Nm)}{n:Nat}{σ:Sg}{K:Exit->Sg->O}{r:aF}(h:BI c M hb body nm out n σ K=some r)(hN:100<=σ.N):
    s8 c M (.loop body) σ λe σ'=>100<=σ'.N/\K e σ'=some r:=by
 intro E hE;refine aJg (ι:=Nat×Sg) (λp=>eB p.2) (λp=>BI c M hb body nm out p.1 p.2 K=some r/\100<=p.2.N) (λp=>p.1) (n,σ) dS.sF ⟨h,hN⟩ ?_;rintro⟨m,σ0⟩ ⟨h0,hN0⟩;simp only at h0 hN0;cases m with
 |zero=>cases h0
 |succ m=>
   unfold BI at h0;refine uZ (Ye hc body hb σ0 _ r h0 hh hN0 E hE) ?_;rintro e s ⟨σ1,⟨hN1,h1⟩,hent⟩;cases e with
   |normal=>
     obtain⟨σ2,e1,e2,e3⟩:=My (k:=λσ'=>BI c M hb body nm out m σ' K) h1 hN1;exact⟨(m,σ2),⟨e1,by rw[e2];exact cE _⟩,a8y m,dS.trans' hent (e3 E)⟩
   |_=>
     unfold De at h1;obtain⟨nm',_,h1⟩:=bF h1;obtain⟨σ2,e1,e2,e3⟩:=My h1 hN1;exact⟨σ2,⟨by rw[e2];exact cE _,e1⟩,dS.trans' hent (e3 E)⟩
theorem a2F{c:Cx}(hc:tG c){M:Nat}{hb:Hint}{code:Code}(hh:jL c M hb code){out:List (Exit×Nm)}{σ:Sg}{K:Exit->Sg->O}{r:aF}(h:exec c M hb code σ (XJ out K)=some r)(hN:100<=σ.N):
    s8 c M code σ λe σ'=>100<=σ'.N/\K e σ'=some r:=by
 intro E hE;refine uZ (Ye hc code hb σ _ r h hh hN E hE) ?_;rintro e s ⟨σ1,⟨hN1,h1⟩,hent⟩;unfold XJ at h1;obtain⟨nm',_,h1⟩:=bF h1;obtain⟨σ2,e1,e2,e3⟩:=My h1 hN1;exact⟨σ2,⟨by rw[e2];exact cE _,e1⟩,dS.trans' hent (e3 E)⟩
section
variable{ι Y1 Y2 Y3:Type}{I:ι->Sg}{un:Sg->ι}{I1:Y1->Exit×Sg}{I2:Y2->Exit×Sg}{I3:Y3->Exit×Sg}
open Classical in
noncomputable def wC(u1:Exit->Sg->Y1)(u2:Exit->Sg->Y2)(u3:Exit->Sg->Y3)(I1:Y1->Exit×Sg)(I2:Y2->Exit×Sg)(I3:Y3->Exit×Sg)(k1:Y1->O)(k2:Y2->O)(k3:Y3->O)(e:Exit)(σ:Sg):O:=
 if I1 (u1 e σ)=(e,σ)then k1 (u1 e σ)else if I2 (u2 e σ)=(e,σ)then k2 (u2 e σ)else if I3 (u3 e σ)=(e,σ)then k3 (u3 e σ)else none
def yS:Exit->Nat
 |.normal=>0
 |.ret=>1
 |.panic _=>2
 |.outgrown=>3
 |.exit n=>4+2*n
 |.goto n=>5+2*n
structure ON(u1:Exit->Sg->Y1)(u2:Exit->Sg->Y2)(u3:Exit->Sg->Y3)(I1:Y1->Exit×Sg)(I2:Y2->Exit×Sg)(I3:Y3->Exit×Sg)(e1 e2 e3:Nat):Prop where
 h1:∀y,u1 (I1 y).1 (I1 y).2=y
 h2:∀y,u2 (I2 y).1 (I2 y).2=y
 h3:∀y,u3 (I3 y).1 (I3 y).2=y
 x1:∀y,yS (I1 y).1=e1
 x2:∀y,yS (I2 y).1=e2
 x3:∀y,yS (I3 y).1=e3
 n12:e1≠e2
 n13:e1≠e3
 n23:e2≠e3
theorem a4j{u1:Exit->Sg->Y1}{u2:Exit->Sg->Y2}{u3:Exit->Sg->Y3}{e1 e2 e3:Nat}(h:ON u1 u2 u3 I1 I2 I3 e1 e2 e3)(k1:Y1->O)(k2:Y2->O)(k3:Y3->O):(λy=>wC u1 u2 u3 I1 I2 I3 k1 k2 k3 (I1 y).1 (I1 y).2)=k1:=by
 funext y
 unfold wC;rw[aI (by rw[h.h1]),h.h1]
theorem a4i{u1:Exit->Sg->Y1}{u2:Exit->Sg->Y2}{u3:Exit->Sg->Y3}{e1 e2 e3:Nat}(h:ON u1 u2 u3 I1 I2 I3 e1 e2 e3)(k1:Y1->O)(k2:Y2->O)(k3:Y3->O):(λy=>wC u1 u2 u3 I1 I2 I3 k1 k2 k3 (I2 y).1 (I2 y).2)=k2:=by
 funext y
 unfold wC;rw[aE (λe=>h.n12 (by have:=aR (λp=>yS p.1) e;simp only[h.x1]at this;rw[this];exact h.x2 y)),aI (by rw[h.h2]),h.h2]
theorem a4h{u1:Exit->Sg->Y1}{u2:Exit->Sg->Y2}{u3:Exit->Sg->Y3}{e1 e2 e3:Nat}(h:ON u1 u2 u3 I1 I2 I3 e1 e2 e3)(k1:Y1->O)(k2:Y2->O)(k3:Y3->O):(λy=>wC u1 u2 u3 I1 I2 I3 k1 k2 k3 (I3 y).1 (I3 y).2)=k3:=by
 funext y
 unfold wC;rw[aE (λe=>h.n13 (by have:=aR (λp=>yS p.1) e;simp only[h.x1]at this;rw[this];exact h.x3 y)),aE (λe=>h.n23 (by have:=aR (λp=>yS p.1) e;simp only[h.x2]at this;rw[this];exact h.x3 y)),aI (by rw[h.h3]),h.h3]
theorem a4g{u1:Exit->Sg->Y1}{u2:Exit->Sg->Y2}{u3:Exit->Sg->Y3}{k1:Y1->O}{k2:Y2->O}{k3:Y3->O}{e:Exit}{σ:Sg}{r:aF}(h:wC u1 u2 u3 I1 I2 I3 k1 k2 k3 e σ=some r):
    (∃y,k1 y=some r/\I1 y=(e,σ))\/(∃y,k2 y=some r/\I2 y=(e,σ))\/∃y,k3 y=some r/\I3 y=(e,σ):=by
 unfold wC at h;split at h
 .exact .inl ⟨_,h,‹_›⟩
 .split at h
  .exact .inr (.inl ⟨_,h,‹_›⟩)
  .split at h
   .exact .inr (.inr ⟨_,h,‹_›⟩)
   .cases h
end
def HA(H:XH):List (Nat×aO):=H.map λp=>(p.1,p.2.A)
theorem yG{k:Nat}:∀{H:XH},Ab.look k (HA H)=(lk k H).map XO.A
 |[]=>rfl
 |(k',o)::H=>by
   have ih:=yG (k:=k) (H:=H);unfold HA at ih ⊢;simp only[iH];unfold Ab.look lk;by_cases e:k'=k
   .subst e;simp
   .rw[aE e,qA e];exact ih
theorem aIG:∀(l:List X)(t0 t:Nat),lk t (rL t0 l)=if t0<=t then l[t-t0]? else none
 |[],t0,t=>by simp[rL,lk]
 |x::l,t0,t=>by
   unfold rL lk;by_cases e:t0=t
   .subst e;simp
   .rw[qA e,]
    simp only;rw[aIG l (t0+1) t];by_cases h:t0<=t
    .rw[aI h,aI (by omega),show t-t0=(t-(t0+1))+1 by omega];simp
    .rw[aE h,aE (by omega)]
theorem a6w(xs:List X)(H:XH):eB ⟨rL 0 xs,H,100⟩=args (xs.map X.D) (HA H):=by
 unfold eB args;refine mk_eq (λt=>?_) (λk=>?_) rfl
 .simp[aIG]
 .exact yG.symm
def mW(o:XO):XO:=match o with
 |.row e τ l _=>.row e τ l true
 |.nest e e' τ l=>match τ.one with|true=>.row e (.sl τ) l true|false=>.nest e e' τ l
 |.bC e _ κ ρ l none=>Wp e κ ρ l
 |o=>o
theorem v8:∀(H:XH)(k:Nat),lk k (nR H)=(lk k H).map mW
 |[],k=>rfl
 |(k',o)::H,k=>by
   cases o with
   |row e τ l st=>
     unfold nR lk;split
     .rfl
     .exact v8 H k
   |box e xs=>
     unfold nR lk;split
     .rfl
     .exact v8 H k
   |nest e e' τ l=>
     unfold nR lk;split
     .rfl
     .exact v8 H k
   |it s pos=>
     unfold nR lk;split
     .rfl
     .exact v8 H k
   |arr e τ l=>
     unfold nR lk;split
     .rfl
     .exact v8 H k
   |mp τ l=>
     unfold nR lk;split
     .rfl
     .exact v8 H k
   |bC e e' κ ρ l ln=>
     cases ln with
     |none=>
       unfold nR lk;split
       .rfl
       .exact v8 H k
     |some p=>
       unfold nR lk;split
       .rfl
       .exact v8 H k
theorem a1R(o:XO):mW o=o\/IG o=some (mW o):=by
 cases o with
 |row e τ l st=>
   cases st with
   |true=>exact .inl rfl
   |false=>exact .inr rfl
 |box e xs=>exact .inl rfl
 |mp τ l=>exact .inl rfl
 |it s pos=>exact .inl rfl
 |arr e τ l=>exact .inl rfl
 |bC e e' κ ρ l ln=>
   cases ln with
   |none=>exact .inr rfl
   |some p=>exact .inl rfl
 |nest e e' τ l=>
   cases h:τ.one with
   |true=>exact .inr (by simp only[mW,IG,h])
   |false=>exact .inl (by simp only[mW,h])
theorem aJD{E:Env}{σ:Sg}:∀(l:List Nat),dS E (eB σ) (mk (λt=>(lk t σ.T).map X.D) (λk=>((lk k σ.H).map λo=>if k∈l then mW o else o).map XO.A) σ.N)
 |[]=>by
   unfold eB;rw[mk_eq (T':=λt=>(lk t σ.T).map X.D) (H':=λk=>((lk k σ.H).map λo=>if k∈([]:List Nat)then mW o else o).map XO.A) (λ_=>rfl) (λk=>?_) rfl]
   .exact dS.sF
   .cases lk k σ.H <;> simp
 |q::l=>by
   refine dS.trans' (aJD l) ?_;by_cases hq:q∈l
   .rw[mk_eq (T':=λt=>(lk t σ.T).map X.D) (H':=λk=>((lk k σ.H).map λo=>if k∈q::l then mW o else o).map XO.A) (λ_=>rfl) (λk=>?_) rfl]
    .exact dS.sF
    .congr 2
     funext o
     by_cases hk:k∈l
     .rw[aI hk,aI (fR _ hk)]
     .rw[aE hk,aE (λh=>by rcases eZ.1 h with h|h;exact hk (h ▸ hq);exact hk h)]
   .cases ho:lk q σ.H with
    |none=>
      rw[mk_eq (T':=λt=>(lk t σ.T).map X.D) (H':=λk=>((lk k σ.H).map λo=>if k∈q::l then mW o else o).map XO.A) (λ_=>rfl) (λk=>?_) rfl]
      .exact dS.sF
      .by_cases e:k=q
       .subst e;rw[ho];rfl
       .congr 2
        funext o
        by_cases hk:k∈l
        .rw[aI hk,aI (fR _ hk)]
        .rw[aE hk,aE (λh=>by rcases eZ.1 h with h|h;exact e h;exact hk h)]
    |some o=>
      have other:∀k,k≠q->((lk k σ.H).map λo=>if k∈l then mW o else o)=((lk k σ.H).map λo=>if k∈q::l then mW o else o):=λk e=>by
       congr 1
       funext o
       by_cases hk:k∈l
       .rw[aI hk,aI (fR _ hk)]
       .rw[aE hk,aE (λh=>by rcases eZ.1 h with h|h;exact e h;exact hk h)]
      rcases a1R o with h|h
      .rw[mk_eq (T':=λt=>(lk t σ.T).map X.D) (H':=λk=>((lk k σ.H).map λo=>if k∈q::l then mW o else o).map XO.A) (λ_=>rfl) (λk=>?_) rfl]
       .exact dS.sF
       .by_cases e:k=q
        .subst e
         rw[ho];simp[hq,h]
        .rw[other k e]
      .have:=aGf (q:=q) h (E:=E) (T:=λt=>(lk t σ.T).map X.D) (H:=λk=>((lk k σ.H).map λo=>if k∈l then mW o else o).map XO.A) (N:=σ.N) (by rw[ho];simp[hq])
       rw[mk_eq (T':=λt=>(lk t σ.T).map X.D) (H:=λj=>if q=j then some (mW o).A else((lk j σ.H).map λo=>if j∈l then mW o else o).map XO.A) (H':=λk=>((lk k σ.H).map λo=>if k∈q::l then mW o else o).map XO.A) (N:=σ.N) (λ_=>rfl) (λk=>?_) rfl]at this
       .exact this
       .by_cases e:q=k
        .subst e
         rw[aI rfl,ho];simp
        .rw[aE e,other k (λh=>e h.symm)]
theorem a1Q(σ:Sg)(E:Env):dS E (eB σ) (eB ⟨σ.T,nR σ.H,σ.N⟩):=by
 have:=aJD (E:=E) (σ:=σ) (σ.H.map (·.1));unfold eB at this ⊢;rw[show(λk=>(lk k (nR σ.H)).map XO.A)=λk=>((lk k σ.H).map λo=>if k∈σ.H.map (·.1)then mW o else o).map XO.A from ?_]
 .exact this
 funext k
 rw[v8];cases hk:lk k σ.H with
 |none=>rfl
 |some o=>
   have hm:k∈σ.H.map (·.1):=gU.2 ⟨_,sL hk,rfl⟩;simp[hm]
end Go.Ax
