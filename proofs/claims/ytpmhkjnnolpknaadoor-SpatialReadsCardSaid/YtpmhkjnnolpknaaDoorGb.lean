/- The reader. Conditions are in the theorems. -/
import Derived.Test.YtpmhkjnnolpknaaDoorF4
import Derived.Test.YtpmhkjnnolpknaaDoorG1
import Derived.Test.YtpmhkjnnolpknaaDoorGa
open Bool renaming false_and->a2C,not_false->OY,not_true->B6,true_and->Dy
open Go.IntKind renaming i64->aA
open Int renaming toNat_natCast->oE
open List renaming cons_append->oD,drop_eq_nil_of_le->fK,drop_zero->kJ,findIdx?->HG,findIdx?_eq_some_iff_getElem->a1n,getElem?_eq_getElem->bJ,getElem?_eq_none->iV,getElem?_take->eN,getElem_mem->lF,length_append->cP,length_set->gF,length_take->fJ,mem_append->jF,mem_cons->dT,mem_map->dM,mem_of_getElem?->Dn,mem_of_mem_take->V4,mem_range->l6,mem_singleton->HB,not_mem_nil->mX
open List.cons renaming inj->aGy,injEq->aGx
open Nat renaming le_refl->cQ
open Option renaming map_some->iT
/- What is known of the functions that read, once their outcome is. -/
namespace Go.Proofs
open Go Go.Ax Go.Ax.aB
theorem aMf{N:Nat}{s10:(List UInt8)}{s21:(List UInt8)}{d:Bool}(h:uY N s10 s21=some d):JW N s10 s21=true:=by unfold JW;rw[h];rfl
theorem aMe{N:Nat}{s10:(List UInt8)}{s21:(List UInt8)}{d:Bool}(h:uY N s10 s21=some d):JU N s10 s21=d:=by unfold JU;rw[h];rfl
theorem Z6{N:Nat}{p0:(List (List UInt8))}{d:(List (List UInt8))}(h:uZ N p0=some d):Ei N p0=true:=by unfold Ei;rw[h];rfl
theorem Z5{N:Nat}{p0:(List (List UInt8))}{d:(List (List UInt8))}(h:uZ N p0=some d):zJ N p0=d:=by unfold zJ;rw[h];rfl
theorem aNU{N:Nat}{s10:(List (List UInt8))}{s21:(List (List UInt8))}{d:Bool}(h:u6 N s10 s21=some d):J9 N s10 s21=true:=by unfold J9;rw[h];rfl
theorem aNT{N:Nat}{s10:(List (List UInt8))}{s21:(List (List UInt8))}{d:Bool}(h:u6 N s10 s21=some d):J7 N s10 s21=d:=by unfold J7;rw[h];rfl
theorem aRr{N:Nat}{a0:(List (List UInt8))}{b1:(List (List UInt8))}{d:Bool}(h:vQ N a0 b1=some d):C6 N a0 b1=true:=by unfold C6;rw[h];rfl
theorem aRp{N:Nat}{a0:(List (List UInt8))}{b1:(List (List UInt8))}{d:Bool}(h:vQ N a0 b1=some d):A1 N a0 b1=d:=by unfold A1;rw[h];rfl
theorem Xa{N:Nat}{s0:(List UInt8)}{v1:UInt8}{d:Int}(h:rW N s0 v1=some d):Bu N s0 v1=true:=by unfold Bu;rw[h];rfl
theorem PV{N:Nat}{s0:(List UInt8)}{v1:UInt8}{d:Int}(h:rW N s0 v1=some d):j5 N s0 v1=d:=by unfold j5;rw[h];rfl
theorem aH5{N:Nat}{l0:(List UInt8)}{d:Int×Bool}(h:pS N l0=some d):HT N l0=true:=by unfold HT;rw[h];rfl
theorem aH4{N:Nat}{l0:(List UInt8)}{d:Int×Bool}(h:pS N l0=some d):EF N l0=d.1:=by unfold EF;rw[h];rfl
theorem aH3{N:Nat}{l0:(List UInt8)}{d:Int×Bool}(h:pS N l0=some d):HR N l0=d.2:=by unfold HR;rw[h];rfl
theorem X1{N:Nat}{l0:(List (List UInt8))}{d:(List Int)×Bool}(h:pY N l0=some d):rU N l0=true:=by unfold rU;rw[h];rfl
theorem XZ{N:Nat}{l0:(List (List UInt8))}{d:(List Int)×Bool}(h:pY N l0=some d):rT N l0=d.1:=by unfold rT;rw[h];rfl
theorem XY{N:Nat}{l0:(List (List UInt8))}{d:(List Int)×Bool}(h:pY N l0=some d):rS N l0=d.2:=by unfold rS;rw[h];rfl
theorem aOu{N:Nat}{p0:(List (List UInt8))}{d:Int×(List Int)×Bool}(h:nP N p0=some d):KQ N p0=true:=by unfold KQ;rw[h];rfl
theorem aOt{N:Nat}{p0:(List (List UInt8))}{d:Int×(List Int)×Bool}(h:nP N p0=some d):sM N p0=d.1:=by unfold sM;rw[h];rfl
theorem aOs{N:Nat}{p0:(List (List UInt8))}{d:Int×(List Int)×Bool}(h:nP N p0=some d):sL N p0=d.2.1:=by unfold sL;rw[h];rfl
theorem aOr{N:Nat}{p0:(List (List UInt8))}{d:Int×(List Int)×Bool}(h:nP N p0=some d):KN N p0=d.2.2:=by unfold KN;rw[h];rfl
theorem Qy(N:Nat)(a0:(List (List UInt8)))(a1:Bool)(a2:(List (List UInt8)))(a3:Int)(a4:Int)(a5:Bool)(a6:Int)(a7:(List UInt8))(a8:(List UInt8))(a9:Int)(a10:(List UInt8))(a11:(List UInt8))(a12:Int)(a13:Bool)(a14:(List UInt8))(a15:UInt8)(a16:UInt8)(a17:Int)(a18:Bool)(a19:Int)(a20:Bool)(a21:Int)(a22:Bool)(a23:Int)(a24:Bool)(a25:Bool)(a26:Bool)(a27:Int)(a28:Int)(a29:Int)(a30:Int)(a31:Int)(k0:(List (List UInt8))->Bool->(List (List UInt8))->Int->Int->Bool->Int->(List UInt8)->(List UInt8)->Int->(List UInt8)->(List UInt8)->Int->Bool->(List UInt8)->UInt8->UInt8->Int->Bool->Int->Bool->Int->Bool->Int->Bool->Bool->Bool->Int->Int->Bool->Int->Int->Int->Int->O):KR N a0 a1 a2 a3 a4 a5 a6 a7 a8 a9 a10 a11 a12 a13 a14 a15 a16 a17 a18 a19 a20 a21 a22 a23 a24 a25 a26 a27 a28 a29 a30 a31 k0=RC N  k0 a0 a1 a2 a3 a4 a5 a6 a7 a8 a9 a10 a11 a12 a13 a14 a15 a16 a17 a18 a19 a20 a21 a22 a23 a24 a25 a26 a27 a28 a29 a30 a31:=rfl
end Go.Proofs
/- The readers' small functions: which digit a cell is, what number a line writes. -/
namespace Go.Proofs
open Go Go.Ax Go.Ax.aB
theorem Xb(N:Nat)(s:List UInt8)(v:UInt8)(hs:s.length<4611686018427387904)(x2:Int)(k0 k1:Int->O)(k2:Unit->O):∀(n i:Nat),s.length-i<n->i<=s.length->
    uK N n (s,v,x2,s.length,i) k0 k1 k2=match(s.drop i).findIdx? λy=>decide (v=y)with|some j=>k0 ((i+j:Nat):Int)|none=>k1 x2
 |0,i,h,_=>by omega
 |n+1,i,h,hi=>by
   show IP N _ _ _ s v x2 s.length i=_;unfold IP;by_cases hlt:i<s.length
   .have hg:s[i]?=some s[i]:=bJ hlt
    have e:aA.wrap ((i:Int)+1)=((i+1:Nat):Int):=by rw[wr (by omega) (by omega)];omega
    have hd:decide ((i:Int)<(s.length:Int))=true:=aO (by omega);rw[hd,aW,dA hg,iS hg,List.findIdx?_cons];by_cases hb:v=s[i]
    .rw[aO hb,aW];rfl
    .rw[bA hb,aT,e]
     have:=Xb N s v hs x2 k0 k1 k2 n (i+1) (by omega) (by omega);simp only[this];cases HG (λy=>decide (v=y)) (List.drop (i+1) s)with
     |none=>rfl
     |some j=>simp only[Bool.false_eq_true,lX,iT];rw[show i+1+j=i+(j+1)by omega]
   .have hd:decide ((i:Int)<(s.length:Int))=false:=bA (by omega)
    rw[hd,aT,fK (by omega)];rfl
theorem Xc{N:Nat}{s:List UInt8}{v:UInt8}(hs:s.length<4611686018427387904)(hN:s.length<N):rW N s v=some (match s.findIdx? λy=>decide (v=y)with|some j=>(j:Int)|none=>-1):=by
 have h:=Xb N s v hs 0 (λz4=>some (rX z4)) (λ_=>some (rX (-1))) (λ_=>none) N 0 (by omega) (by omega);unfold rW;rw[show Xe N s v=uK N N (s,v,0,s.length,(0:Nat)) (λz4=>some (rX z4)) (λ_=>some (rX (-1))) (λ_=>none)from rfl,h,kJ];cases HG (λy=>decide (v=y)) s with
 |none=>rfl
 |some j=>simp only[Nat.zero_add];rfl
def UT:UInt8×UInt8×UInt8×UInt8×UInt8×UInt8×UInt8×UInt8×UInt8×UInt8:=(26,1,3,9,25,17,11,27,19,10)
theorem aGW{c:UInt8}{d:Nat}(h:tJ c=some d):d<10:=(a1n.1 h).1
theorem O7(l:List UInt8)(hs:l.length<1000)(x0:Int)(x1:Bool)(k0:Int×Bool->O)(k1:Int×Bool×Int×Int->O)(k2:Unit->O):∀(n i:Nat)(acc:Int)(many:Nat),l.length-i<n->i<=l.length->many<=6->0<=acc->acc<((10^many:Nat):Int)->
    uB 100 n (x0,x1,acc,many,UT,l,l.length,i) k0 k1 k2=match nT (l.drop i) acc many with|none=>k0 (0,false)|some r=>k1 (x0,x1,r.1,(r.2:Int))
 |0,i,_,_,h,_,_,_,_=>by omega
 |n+1,i,acc,many,h,hi,hm,h0,h1=>by
   show HW 100 _ _ _ x0 x1 UT l l.length acc many i=_;unfold HW;by_cases hlt:i<l.length
   .have hg:l[i]?=some l[i]:=bJ hlt
    have e:aA.wrap ((i:Int)+1)=((i+1:Nat):Int):=by rw[wr (by omega) (by omega)];omega
    rw[aO (show(i:Int)<(l.length:Int)by omega),aW,dA hg,iS hg,e];show br (decide (l[i]=0)) _ (ck (Bu 100 BK l[i])<|br (decide (j5 100 BK l[i]<0)||decide ((many:Int)=6)) _ _)=match(if l[i]=0 then nT (l.drop (i+1)) acc many else match tJ l[i]with |none=>none |some d=>if many=6 then none else nT (l.drop (i+1)) (10*acc+d) (many+1))with |none=>k0 (0,false) |some r=>k1 (x0,x1,r.1,(r.2:Int))
    by_cases hz:l[i]=0
    .rw[aO hz,aW,aJ hz]
     exact O7 l hs x0 x1 k0 k1 k2 n (i+1) acc many (by omega) (by omega) hm h0 h1
    .have h72:rW 100 BK l[i]=some (match tJ l[i]with|some j=>(j:Int)|none=>-1):=Xc (by decide) (by decide)
     have hy0:=PV h72;rw[bA hz,aT,aH hz,aL (Xa h72),PV h72];cases hc:tJ l[i]with
     |none=>
       simp only[];rw[show(decide ((-1:Int)<0)||decide ((many:Int)=6))=true from rfl,aW]
     |some d=>
       simp only[];have hd:=aGW hc;by_cases h6:many=6
       .rw[show(decide ((d:Int)<0)||decide ((many:Int)=6))=true by simp;omega,aW,aJ h6]
       .rw[show(decide ((d:Int)<0)||decide ((many:Int)=6))=false by simp;omega,aT,aH h6]
        have hp:10^many<=10^6:=Nat.pow_le_pow_right (by omega) (by omega);have hps:10^(many+1)=10^many*10:=Nat.pow_succ 10 many;have em:aA.wrap ((many:Int)+1)=((many+1:Nat):Int):=by rw[wr (by omega) (by omega)];omega
        generalize hu:10^many=u at *
        have ea:aA.wrap (aA.wrap (10*acc)+(d:Int))=10*acc+d:=by rw[wr (x:=10*acc) (by omega) (by omega),wr (by omega) (by omega)]
        have hy:j5 100 BK l[i]=(d:Int):=by rw[hy0,hc]
        show uB 100 n (x0,x1,aA.wrap (aA.wrap (10*acc)+j5 100 BK l[i]),aA.wrap ((many:Int)+1),UT,l,l.length,((i+1:Nat):Int)) k0 k1 k2=_;rw[hy,ea,em];exact O7 l hs x0 x1 k0 k1 k2 n (i+1) (10*acc+d) (many+1) (by omega) (by omega) (by omega) (by omega) (by rw[hps];omega)
   .rw[bA (show ¬ (i:Int)<(l.length:Int)by omega),aT,fK (by omega)]
    rfl
end Go.Proofs
/- The numbers of lines. -/
namespace Go.Proofs
open Go Go.Ax Go.Ax.aB
theorem Vz(x:Int)(y:Bool):(some (uA x y):O).bind EG=some (x,y):=rfl
theorem X0(x:List Int)(y:Bool):(some (uJ x y):O).bind EW=some (x,y):=rfl
def eI(l:List UInt8):Int×Bool:=match nT l 0 0 with|none=>(0,false)|some r=>(r.1,decide (0<(r.2:Int)))
theorem aH6{l:List UInt8}(hl:l.length<90):pS 100 l=some (eI l):=by
 unfold pS WB O8 eI;have h81:=Wm;rw[aL (Wl h81),Wk h81,Wi h81,Wh h81,Wg h81,Wf h81,We h81,Wd h81,Wc h81,Wb h81,Wa h81];have h:=O7 l (by omega) 0 false (λy=>some (uA y.1 y.2)) (λy=>some (uA y.2.2.1 (decide (0<y.2.2.2)))) (λ_=>none) 100 0 0 0 (by omega) (by omega) (by omega) (by omega) (by decide);rw[kJ]at h;refine(aY (λz:O=>z.bind EG) h).trans ?_;cases nT l 0 0 with
 |none=>exact Vz _ _
 |some r=>exact Vz _ _
def iI:List (List UInt8)->Option (List Int)
 |[]=>some []
 |l::r=>if(eI l).2 then(iI r).map ((eI l).1 :: ·)else none
theorem X2(p:List (List UInt8))(hp:p.length<1000)(hl:∀l∈p,l.length<90)(x0:Bool)(k0:Bool->O)(k1:Bool×List Int->O)(k2:Unit->O):∀(n i:Nat)(acc:List Int),p.length-i<n->i<=p.length->acc.length<=i->
    yL 100 n (x0,p,p.length,i,acc) k0 k1 k2=match iI (p.drop i)with|none=>k0 false|some r=>k1 (x0,acc++r)
 |0,i,_,h,_,_=>by omega
 |n+1,i,acc,h,hi,ha=>by
   show IJ 100 _ _ _ x0 p p.length i acc=_;unfold IJ;by_cases hlt:i<p.length
   .have hg:p[i]?=some p[i]:=bJ hlt
    have e:aA.wrap ((i:Int)+1)=((i+1:Nat):Int):=by rw[wr (by omega) (by omega)];omega
    have h89:=aH6 (hl p[i] (lF hlt));rw[aO (show(i:Int)<(p.length:Int)by omega),aW,dA hg,aL (aH5 h89),aH3 h89,aH4 h89,iS hg];show _=match(if(eI p[i]).2 then(iI (p.drop (i+1))).map ((eI p[i]).1 :: ·)else none)with|none=>k0 false|some r=>k1 (x0,acc++r)
    cases hv:(eI p[i]).2 with
    |false=>rw[OY,aW];rfl
    |true=>
      rw[B6,aT,aL (eJ (by simp;omega) (by simp;omega)),e];refine(X2 p hp hl x0 k0 k1 k2 n (i+1) (acc++[(eI p[i]).1]) (by omega) (by omega) (by simp;omega)).trans ?_;rw[aJ rfl];cases iI (List.drop (i+1) p)with
      |none=>rfl
      |some r=>simp only[iT,List.append_assoc,oD,List.nil_append]
   .rw[bA (show ¬ (i:Int)<(p.length:Int)by omega),aT,fK (by omega)]
    show _=k1 (x0,acc++[]);rw[List.append_nil]
theorem X3{p:List (List UInt8)}(hp:p.length<90)(hl:∀l∈p,l.length<90):pY 100 p=some (match iI p with|none=>([],false)|some r=>(r,true)):=by
 unfold pY X4 PQ;have h:=X2 p (by omega) hl false (λy=>some (uJ [] y)) (λy=>some (uJ y.2 true)) (λ_=>none) 100 0 [] (by omega) (by omega) (by simp);rw[kJ]at h;refine(aY (λz:O=>z.bind EW) h).trans ?_;cases iI p with
 |none=>exact X0 _ _
 |some r=>exact X0 _ _
end Go.Proofs
/- Whether rows are equal. -/
namespace Go.Proofs
open Go Go.Ax Go.Ax.aB
theorem QZ(x:Bool):(some (sH x):O).bind Eh=some x:=rfl
theorem ZS(a b:List UInt8)(hab:a.length=b.length)(hs:a.length<1000)(x2:Bool)(k0 k1:Bool->O)(k2:Unit->O):∀(n i:Nat),a.length-i<n->i<=a.length->
    zH 100 n (a,b,x2,a.length,i) k0 k1 k2=if a.drop i=b.drop i then k1 x2 else k0 false
 |0,i,h,_=>by omega
 |n+1,i,h,hi=>by
   show JZ 100 _ _ _ a b x2 a.length i=_;unfold JZ;by_cases hlt:i<a.length
   .have hg:a[i]?=some a[i]:=bJ hlt
    have hg':b[i]?=some (b[i]'(by omega)):=bJ (by omega);have e:aA.wrap ((i:Int)+1)=((i+1:Nat):Int):=by rw[wr (by omega) (by omega)];omega
    rw[aO (show(i:Int)<(a.length:Int)by omega),aW,dA hg,dA hg',iS hg,iS hg'];by_cases hc:a[i]=b[i]'(by omega)
    .rw[bA (by simpa using hc),aT,e,hc]
     refine(ZS a b hab hs x2 k0 k1 k2 n (i+1) (by omega) (by omega)).trans ?_;simp only[aGx,true_and]
    .rw[aO (by simpa using hc),aW,aH (λh=>hc (aGy h).1)]
   .rw[bA (show ¬ (i:Int)<(a.length:Int)by omega),aT,fK (by omega),fK (by omega),aJ rfl]
theorem aMg{a b:List UInt8}(ha:a.length<90):uY 100 a b=some (decide (a=b)):=by
 unfold uY ZT Q0;by_cases hl:a.length=b.length
 .rw[show decide ((a.length:Int)≠(b.length:Int))=false by simp;omega,aT]
  have h:=ZS a b hl (by omega) false (λz7=>some (sH z7)) (λ_=>some (sH true)) (λ_=>none) 100 0 (by omega) (by omega);rw[kJ,kJ]at h;refine(aY (λz:O=>z.bind Eh) h).trans ?_;by_cases hab:a=b
  .rw[aJ hab,aO hab];exact QZ _
  .rw[aH hab,bA hab];exact QZ _
 .rw[show decide ((a.length:Int)≠(b.length:Int))=true by simp;omega,aW,bA (λh=>hl (by rw[h]))]
  exact QZ _
theorem Q9(x:Bool):(some (sJ x):O).bind Ek=some x:=rfl
theorem Zh(a b:List (List UInt8))(hab:a.length=b.length)(hs:a.length<1000)(ha:∀l∈a,l.length<90)(x1:Bool)(k0 k1:Bool->O)(k2:Unit->O):∀(n i:Nat),a.length-i<n->i<=a.length->
    zQ 100 n (b,x1,a,a.length,i) k0 k1 k2=if a.drop i=b.drop i then k1 x1 else k0 false
 |0,i,h,_=>by omega
 |n+1,i,h,hi=>by
   show Jc 100 _ _ _ b x1 a a.length i=_;unfold Jc;by_cases hlt:i<a.length
   .have hg:a[i]?=some a[i]:=bJ hlt
    have hg':b[i]?=some (b[i]'(by omega)):=bJ (by omega);have e:aA.wrap ((i:Int)+1)=((i+1:Nat):Int):=by rw[wr (by omega) (by omega)];omega
    have h53:=aMg (b:=b[i]'(by omega)) (ha a[i] (lF hlt));rw[aO (show(i:Int)<(a.length:Int)by omega),aW,dA hg,dA hg',aL (aMf h53),aMe h53,iS hg,iS hg'];by_cases hc:a[i]=b[i]'(by omega)
    .rw[aO hc,B6,aT,e,hc]
     refine(Zh a b hab hs ha x1 k0 k1 k2 n (i+1) (by omega) (by omega)).trans ?_;simp only[aGx,true_and]
    .rw[bA hc,OY,aW,aH (λh=>hc (aGy h).1)]
   .rw[bA (show ¬ (i:Int)<(a.length:Int)by omega),aT,fK (by omega),fK (by omega),aJ rfl]
theorem aNV{a b:List (List UInt8)}(hn:a.length<90)(ha:∀l∈a,l.length<90):u6 100 a b=some (decide (a=b)):=by
 unfold u6 Zi Qa;by_cases hl:a.length=b.length
 .rw[show decide ((a.length:Int)≠(b.length:Int))=false by simp;omega,aT]
  have h:=Zh a b hl (by omega) ha false (λz7=>some (sJ z7)) (λ_=>some (sJ true)) (λ_=>none) 100 0 (by omega) (by omega);rw[kJ,kJ]at h;refine(aY (λz:O=>z.bind Ek) h).trans ?_;by_cases hab:a=b
  .rw[aJ hab,aO hab];exact Q9 _
  .rw[aH hab,bA hab];exact Q9 _
 .rw[show decide ((a.length:Int)≠(b.length:Int))=true by simp;omega,aW,bA (λh=>hl (by rw[h]))]
  exact Q9 _
end Go.Proofs
/- Whether a page fits, and whether calculations are equal. -/
namespace Go.Proofs
open Go Go.Ax Go.Ax.aB
theorem SR(x:Bool):(some (sT x):O).bind F6=some x:=rfl
theorem aDE(a b:List Int)(hab:a.length=b.length)(hs:a.length<1000)(x2:Bool)(k0 k1:Bool->O)(k2:Unit->O):∀(n i:Nat),a.length-i<n->i<=a.length->
    Ae 100 n (a,b,x2,i) k0 k1 k2=if a.drop i=b.drop i then k1 x2 else k0 false
 |0,i,h,_=>by omega
 |n+1,i,h,hi=>by
   show Lu 100 _ _ _ a b x2 i=_;unfold Lu;by_cases hlt:i<a.length
   .have hg:a[i]?=some a[i]:=bJ hlt
    have hg':b[i]?=some (b[i]'(by omega)):=bJ (by omega);have e:aA.wrap ((i:Int)+1)=((i+1:Nat):Int):=by rw[wr (by omega) (by omega)];omega
    rw[aO (show(i:Int)<(a.length:Int)by omega),aW,dA hg,dA hg',iS hg,iS hg'];by_cases hc:a[i]=b[i]'(by omega)
    .rw[bA (by simpa using hc),aT,e,hc]
     refine(aDE a b hab hs x2 k0 k1 k2 n (i+1) (by omega) (by omega)).trans ?_;simp only[aGx,true_and]
    .rw[aO (by simpa using hc),aW,aH (λh=>hc (aGy h).1)]
   .rw[bA (show ¬ (i:Int)<(a.length:Int)by omega),aT,fK (by omega),fK (by omega),aJ rfl]
theorem aTn{a b:List Int}(ha:a.length<90):vZ 100 a b=some (decide (a=b)):=by
 unfold vZ w19 SS;by_cases hl:a.length=b.length
 .rw[show decide ((a.length:Int)≠(b.length:Int))=false by simp;omega,aT]
  have h:=aDE a b hl (by omega) false (λz7=>some (sT z7)) (λ_=>some (sT true)) (λ_=>none) 100 0 (by omega) (by omega);rw[kJ,kJ]at h;refine(aY (λz:O=>z.bind F6) h).trans ?_;by_cases hab:a=b
  .rw[aJ hab,aO hab];exact SR _
  .rw[aH hab,bA hab];exact SR _
 .rw[show decide ((a.length:Int)≠(b.length:Int))=true by simp;omega,aW,bA (λh=>hl (by rw[h]))]
  exact SR _
theorem aSG(x:Bool):(some (FR x):O).bind LX=some x:=rfl
theorem aSH{op op':Int}{a b:List Int}(ha:a.length<90):C7 100 op a op' b=some (decide (op=op'/\a=b)):=by
 unfold C7 w30 Ro;have h19:=aTn (b:=b) ha;rw[aTm h19,aTl h19,Bool.or_true,e9,aSG,Bool.decide_and]
end Go.Proofs
/- Pages without blanks at the ends of lines and without blank lines at the end. -/
namespace Go.Proofs
open Go Go.Ax Go.Ax.aB
def iX(l:List UInt8):Nat->Nat
 |0=>0
 |n+1=>if l[n]?=some 0 then iX l n else n+1
def eV(l:List UInt8):List UInt8:=l.take (iX l l.length)
theorem Mh(l:List UInt8):∀n,iX l n<=n
 |0=>cQ _
 |n+1=>by
   unfold iX;split
   .have:=Mh l n;omega
   .exact cQ _
def lZ(p:List (List UInt8)):Nat->Nat
 |0=>0
 |n+1=>if p[n]?=some []then lZ p n else n+1
def fP(p:List (List UInt8)):List (List UInt8):=(p.map eV).take (lZ (p.map eV) p.length)
theorem Z8(l:List UInt8)(hs:l.length<1000)(x0:List (List UInt8))(x1 x2:Int)(x3:Bool)(x8:Int)(x10:List (List UInt8))(k0:List (List UInt8)×Int×Int×Bool×List UInt8×List UInt8×List UInt8×List UInt8×Int×Int×Int×Bool×Bool×Bool×List (List UInt8)->O)(k1 k2:Unit->O):∀(n m:Nat),m<n->m<=l.length->
    zM 100 n (x0,x1,x2,x3,l,l,l,l,x8,m,x10) k0 k1 k2=k0 (x0,x1,x2,x3,l,l,l,l,x8,iX l m,iX l m,decide (0<(iX l m:Int)),decide (0<(iX l m:Int)),false,x10)
 |0,m,h,_=>by omega
 |n+1,0,_,_=>by
   show CK 100 _ _ x0 x1 x2 x3 l l l l x8 x10 ((0:Nat):Int)=_;unfold CK;rw[show decide (0<((0:Nat):Int))=false from rfl,lY,a2C,aT];rfl
 |n+1,m+1,h,hm=>by
   show CK 100 _ _ x0 x1 x2 x3 l l l l x8 x10 ((m+1:Nat):Int)=_;unfold CK;have hg:l[m]?=some l[m]:=bJ (by omega);have e:aA.wrap (((m+1:Nat):Int)-1)=(m:Int):=by rw[wr (by omega) (by omega)];omega
   rw[aO (show 0<((m+1:Nat):Int)by omega),o5,e,dA hg,Dy];unfold iX;by_cases h0:l[m]=0
   .rw[aO h0,aW,aJ (by rw[hg,h0])]
    exact Z8 l hs x0 x1 x2 x3 x8 x10 k0 k1 k2 n m (by omega) (by omega)
   .rw[bA h0,aT,aH (by rw[hg];simpa using h0),aO (show 0<((m+1:Nat):Int)by omega)]
theorem aWF(l:List UInt8):bW l none (some (iX l l.length:Int))=eV l:=by
 show l.take ((iX l l.length:Int)).toNat=_;rw[oE];rfl
theorem Z7(p:List (List UInt8))(hn:p.length<90)(hl:∀l∈p,l.length<90)(k0:List (List UInt8)->O)(k1 k2:Unit->O):∀(n i:Nat),p.length-i<n->i<=p.length->
    zL 100 n (p,p.length,i,(p.take i).map eV) k0 k1 k2=k0 (p.map eV)
 |0,i,h,_=>by omega
 |n+1,i,h,hi=>by
   show J6 100 _ _ _ p p.length i ((p.take i).map eV)=_;unfold J6;by_cases hlt:i<p.length
   .have hg:p[i]?=some p[i]:=bJ hlt
    have hx:=hl p[i] (lF hlt);have e:aA.wrap ((i:Int)+1)=((i+1:Nat):Int):=by rw[wr (by omega) (by omega)];omega
    have ht:=Mh p[i] p[i].length;rw[aO (show(i:Int)<(p.length:Int)by omega),aW,dA hg];refine(Z8 p[i] (by omega) p p.length i _ p[i].length ((p.take i).map eV) _ _ _ 100 p[i].length (by omega) (cQ _)).trans ?_;simp only[];rw[aWF,aL (show dX p[i].length none (some (iX p[i] p[i].length:Int))=true from aO ⟨by omega,by omega⟩),aL (eJ (by simp;omega) (by simp;omega)),e];have ih:=Z7 p hn hl k0 k1 k2 n (i+1) (by omega) (by omega);rw[List.take_add_one,hg]at ih;simp only[Option.toList,List.map_append,List.map_cons,List.map_nil]at ih;exact ih
   .rw[bA (show ¬ (i:Int)<(p.length:Int)by omega),aT,show i=p.length by omega,List.take_length]
theorem Uq(q:List (List UInt8)):∀n,lZ q n<=n
 |0=>cQ _
 |n+1=>by
   unfold lZ;split
   .have:=Uq q n;omega
   .exact cQ _
theorem Za(q:List (List UInt8))(hq:q.length<90)(k0:List (List UInt8)->O)(k1 k2:Unit->O):∀(n m:Nat),m<n->m<=q.length->zK 100 n (q.take m) k0 k1 k2=k0 (q.take (lZ q m))
 |0,m,h,_=>by omega
 |n+1,0,_,_=>by
   show CJ 100 _ _ (q.take 0)=_;unfold CJ;rw[List.take_zero,show decide (0<(([]:List (List UInt8)).length:Int))=false from rfl,lY,a2C,aT];rfl
 |n+1,m+1,h,hm=>by
   show CJ 100 _ _ (q.take (m+1))=_;unfold CJ;have hlen:(q.take (m+1)).length=m+1:=by rw[fJ];omega
   have hg:(q.take (m+1))[m]?=some (q[m]'(by omega)):=by rw[eN,aJ (by omega)];exact bJ (by omega)
   have hg':q[m]?=some (q[m]'(by omega)):=bJ (by omega);have e:aA.wrap (((m+1:Nat):Int)-1)=(m:Int):=by rw[wr (by omega) (by omega)];omega
   rw[hlen,aO (show 0<((m+1:Nat):Int)by omega),o5,e,dA hg,Dy];have hs:bW (q.take (m+1)) none (some (m:Int))=q.take m:=by
    show(q.take (m+1)).take ((m:Int)).toNat=_;rw[oE,List.take_take,Nat.min_eq_left (by omega)]
   unfold lZ;by_cases h0:q[m]'(by omega)=[]
   .rw[aO (show(((q[m]'(by omega)).length:Nat):Int)=0 by rw[h0];rfl),aW,aJ (by rw[hg',h0]),aL (show dX (m+1) none (some (m:Int))=true from aO ⟨by omega,by omega⟩),hs]
    exact Za q hq k0 k1 k2 n m (by omega) (by omega)
   .rw[bA (show ¬ (((q[m]'(by omega)).length:Nat):Int)=0 by intro hh;exact h0 (List.length_eq_zero_iff.1 (by omega))),aT,aH (by rw[hg'];simpa using h0)]
theorem aND(x:List (List UInt8)):(some (CI x):O).bind CH=some x:=rfl
theorem Z9{p:List (List UInt8)}(hn:p.length<90)(hl:∀l∈p,l.length<90):uZ 100 p=some (fP p):=by
 unfold uZ Zb Q6;refine(aY (λz:O=>z.bind CH) (Z7 p hn hl _ _ _ 100 0 (by omega) (by omega))).trans ?_;have h:=Za (p.map eV) (by simpa using hn) (λy=>some (CI y)) (λ_=>none) (λ_=>none) 100 p.length (by omega) (by simp);rw[List.take_of_length_le (by simp)]at h;exact(aY (λz:O=>z.bind CH) h).trans (aND _)
end Go.Proofs
/- Whether two pages are the same apart from blanks at the ends. -/
namespace Go.Proofs
open Go Go.Ax Go.Ax.aB
theorem aWv{p:List (List UInt8)}(h:Small p):Small (fP p):=by
 unfold fP;refine⟨by rw[fJ];have:=h.1;simp;omega,λl hl=>?_⟩;obtain⟨x,hx,rfl⟩:=dM.1 (V4 hl);have:=h.2 x hx;unfold eV;rw[fJ];omega
theorem aRq(x:Bool):(some (FM x):O).bind LV=some x:=rfl
theorem aRs{a b:List (List UInt8)}(ha:Small a)(hb:Small b):vQ 100 a b=some (decide (fP a=fP b)):=by
 unfold vQ w32 Rj;have h1:=Z9 ha.1 ha.2;have h2:=Z9 hb.1 hb.2;have hs:=aWv ha;have h3:=aNV (b:=fP b) hs.1 hs.2;rw[aL (Z6 h1),aL (Z6 h2),Z5 h1,Z5 h2,aL (aNU h3),aNT h3];exact aRq _
end Go.Proofs
/- Which calculation a page may be the layout of. -/
namespace Go.Proofs
open Go Go.Ax Go.Ax.aB
def jS(c:UInt8):Option Int:=if 44=c then some 3 else if 36=c then some 4 else if 33=c then some 5 else none
def jH(op:Int):Int:=if op=5 then 0 else 1
def lG(op:Int)(l:List (List UInt8)):Int×List Int×Bool:=match iI l with|none=>(op,[],false)|some r=>(op,r,true)
def lA(p:List (List UInt8)):List (List UInt8)->Nat->Int×List Int×Bool
 |[],_=>(0,[],false)
 |l::r,i=>match l with
   |[]=>lA p r (i+1)
   |c::t=>match jS c with
     |none=>lA p r (i+1)
     |some op=>if(i:Int)<jH op then(0,[],false)else lG op ((p.take i).drop (jH op).toNat++[t])
def fZ(p:List (List UInt8)):Int×List Int×Bool:=
 if p.length<2 then(0,[],false)else match(p.getD 1 []).findIdx? λy=>decide ((63:UInt8)=y)with
 |some j=>lG 6 [(p.getD 1 []).drop (j+1),(p.getD 1 []).take j]
 |none=>lA p p 0
theorem Fy{p r:List (List UInt8)}{c:UInt8}{t:List UInt8}{i:Nat}{op:Int}(h:jS c=some op):lA p ((c::t)::r) i=if(i:Int)<jH op then(0,[],false)else lG op ((p.take i).drop (jH op).toNat++[t]):=by
 show(match jS c with|none=>lA p r (i+1)|some op=>if(i:Int)<jH op then(0,[],false)else lG op ((p.take i).drop (jH op).toNat++[t]))=_;rw[h]
theorem TV{p r:List (List UInt8)}{c:UInt8}{t:List UInt8}{i:Nat}(h:jS c=none):lA p ((c::t)::r) i=lA p r (i+1):=by
 show(match jS c with|none=>lA p r (i+1)|some op=>if(i:Int)<jH op then(0,[],false)else lG op ((p.take i).drop (jH op).toNat++[t]))=_;rw[h]
theorem aAR(x:Int)(y:List Int)(z:Bool):(some (qC x y z):O).bind Es=some (x,y,z):=rfl
theorem U3{p:List (List UInt8)}(hp:Small p){i:Nat}(hi:i<p.length){l t:List UInt8}{c:UInt8}(hc:l=c::t)(hl:p[i]?=some l){fr:Int}(hfr:fr=0\/fr=1)(op:Int)(k0:Bool->Int->List Int->O):
    br (decide ((i:Int)<fr)) (k0 false 0 []) (ck (dX p.length (some fr) (some (i:Int))) <|ck (yK 100 (bW p (some fr) (some (i:Int)))) <|ck (dX l.length (some 1) none) <|ck (b9 (bW p (some fr) (some (i:Int))++[bW l (some 1) none]).length 24) <|ck (rU 100 (bW p (some fr) (some (i:Int))++[bW l (some 1) none])) <|k0 (rS 100 (bW p (some fr) (some (i:Int))++[bW l (some 1) none])) op (rT 100 (bW p (some fr) (some (i:Int))++[bW l (some 1) none])))
    = if(i:Int)<fr then k0 false 0 []else k0 (lG op ((p.take i).drop fr.toNat++[t])).2.2 (lG op ((p.take i).drop fr.toNat++[t])).1 (lG op ((p.take i).drop fr.toNat++[t])).2.1:=by
 by_cases h:(i:Int)<fr
 .rw[aO h,aW,aJ h]
 .have hn:=hp.1
  have h1:bW p (some fr) (some (i:Int))=(p.take i).drop fr.toNat:=by
   show(p.take ((i:Int)).toNat).drop fr.toNat=_;rw[oE]
  have h2:bW l (some 1) none=t:=by rw[hc];rfl
  have h3:((p.take i).drop fr.toNat).length<80\/((p.take i).drop fr.toNat).length<=i:=by right;simp;omega
  have h4:((p.take i).drop fr.toNat).length<=i:=by simp;omega
  have h5:∀x∈(p.take i).drop fr.toNat++[t],x.length<90:=by
   intro x hx;rcases jF.1 hx with hx|hx
   .exact hp.2 x (V4 (List.mem_of_mem_drop hx))
   .rw[HB.1 hx]
    have:=hp.2 l (Dn hl);rw[hc]at this;simp at this;omega
  have h73:=X3 (p:=(p.take i).drop fr.toNat++[t]) (by simp;omega) h5;rw[bA h,aT,aH h,h1,h2,aL (show dX p.length (some fr) (some (i:Int))=true from aO ⟨by omega,by omega,by omega⟩),aL (show yK 100 ((p.take i).drop fr.toNat)=true from eJ (by omega) (by omega)),aL (show dX l.length (some 1) none=true from aO ⟨by omega,by rw[hc];simp;omega⟩),aL (eJ (by simp;omega) (by simp;omega)),aL (X1 h73),XY h73,XZ h73];unfold lG;cases iI ((p.take i).drop fr.toNat++[t]) <;> rfl
theorem aAS(p:List (List UInt8))(hp:Small p)(k0:Bool×Int×List Int->O)(k1:Bool×Int->O)(k2:Unit->O)(hk:k0 (false,0,[])=k1 (false,0)):∀(n i:Nat),p.length-i<n->i<=p.length->
    AD 100 n (p,false,p,p.length,i,0,3,4,5) k0 k1 k2=k0 ((lA p (p.drop i) i).2.2,(lA p (p.drop i) i).1,(lA p (p.drop i) i).2.1)
 |0,i,h,_=>by omega
 |n+1,i,h,hi=>by
   show KX 100 _ _ _ _ p false p p.length 0 3 4 5 i=_;unfold KX;have hn:=hp.1;by_cases hlt:i<p.length
   .have hg:p[i]?=some p[i]:=bJ hlt
    have e:aA.wrap ((i:Int)+1)=((i+1:Nat):Int):=by rw[wr (by omega) (by omega)];omega
    have ih:=aAS p hp k0 k1 k2 hk n (i+1) (by omega) (by omega);rw[aO (show(i:Int)<(p.length:Int)by omega),aW,dA hg,iS hg];generalize p[i]=l at hg;cases l with
    |nil=>
      rw[aO (show(((([]:List UInt8)).length:Nat):Int)=0 from rfl),aW,e];exact ih
    |cons c t=>
      rw[bA (show ¬ (((c::t).length:Nat):Int)=0 by simp;omega),aT,gK];by_cases h44:44=c
      .rw[aO h44,aW,aT,Qy]
       refine(U3 hp hlt rfl hg (Or.inr rfl) 3 λa b c=>k0 (a,b,c)).trans ?_;rw[Fy (show jS c=some 3 by simp[jS,h44])];by_cases hfr:(i:Int)<jH 3
       .rw[aJ (show(i:Int)<1 from hfr),aJ hfr]
       .rw[aH (show ¬ (i:Int)<1 from hfr),aH hfr];rfl
      .rw[bA h44,aT]
       by_cases h36:36=c
       .rw[aO h36,aW,aT,Qy]
        refine(U3 hp hlt rfl hg (Or.inr rfl) 4 λa b c=>k0 (a,b,c)).trans ?_;rw[Fy (show jS c=some 4 by simp[jS,h44,h36])];by_cases hfr:(i:Int)<jH 4
        .rw[aJ (show(i:Int)<1 from hfr),aJ hfr]
        .rw[aH (show ¬ (i:Int)<1 from hfr),aH hfr];rfl
       .rw[bA h36,aT]
        by_cases h33:33=c
        .rw[aO h33,aW,aT,Qy]
         refine(U3 hp hlt rfl hg (Or.inl rfl) 5 λa b c=>k0 (a,b,c)).trans ?_;rw[Fy (show jS c=some 5 by simp[jS,h44,h36,h33])];by_cases hfr:(i:Int)<jH 5
         .rw[aJ (show(i:Int)<0 from hfr),aJ hfr]
         .rw[aH (show ¬ (i:Int)<0 from hfr),aH hfr];rfl
        .rw[bA h33,aT,aW,e]
         refine ih.trans ?_;rw[TV (show jS c=none by simp[jS,h44,h36,h33])]
   .rw[bA (show ¬ (i:Int)<(p.length:Int)by omega),aT,fK (by omega)]
    exact hk.symm
theorem aOv{p:List (List UInt8)}(hp:Small p):nP 100 p=some (fZ p):=by
 unfold nP w48 RB fZ;have hn:=hp.1;by_cases h2:p.length<2
 .rw[aO (show(p.length:Int)<2 by omega),aW,aJ h2]
  rfl
 .have hg:p[1]?=some (p.getD 1 []):=by rw[List.getD_eq_getElem?_getD,bJ (by omega)];rfl
  have hl:=hp.2 _ (Dn hg);have hgx:∀k,gx p 1 k=k (p.getD 1 []):=λk=>dA (i:=1) hg k
  rw[bA (show ¬ (p.length:Int)<2 by omega),aT,aH h2,hgx];generalize p.getD 1 []=l at hgx hl;have h72:=Xc (N:=100) (s:=l) (v:=63) (by omega) (by omega);rw[aL (Xa h72),PV h72];cases hj:l.findIdx? λy=>decide ((63:UInt8)=y)with
  |none=>
    simp only[];rw[show decide ((0:Int) <= -1)=false from rfl,aT,e9,e9,e9];refine(aY (λz:O=>z.bind Es) (aAS p hp (λy=>some (qC y.2.1 y.2.2 y.1)) (λ_=>some (qC 0 [] false)) (λ_=>none) rfl 100 0 (by omega) (by omega))).trans ?_;rw[kJ];exact aAR _ _ _
  |some j=>
    have hjl:=(a1n.1 hj).1;have e:aA.wrap ((j:Int)+1)=((j+1:Nat):Int):=by rw[wr (by omega) (by omega)];omega
    have hs1:bW l (some ((j+1:Nat):Int)) none=l.drop (j+1):=by
     show l.drop (((j+1:Nat):Int)).toNat=_;rw[oE]
    have hs2:bW l none (some (j:Int))=l.take j:=by
     show l.take ((j:Int)).toNat=_;rw[oE]
    have h73:=X3 (p:=[l.drop (j+1),l.take j]) (by simp) (by
     intro x hx;rcases dT.1 hx with hx|hx
     .rw[hx];simp;omega
     .rw[HB.1 hx];simp;omega)
    simp only[];rw[aO (show(0:Int)<=(j:Int)by omega),aW,e,hgx,hgx,hs1,hs2,aL (show dX l.length (some ((j+1:Nat):Int)) none=true from aO ⟨by omega,by omega⟩),aL (show dX l.length none (some (j:Int))=true from aO ⟨by omega,by omega⟩),aL (X1 h73),XZ h73,XY h73];unfold lG;cases iI [l.drop (j+1),l.take j] <;> exact aAR _ _ _
def fX(p:List (List UInt8)):Int×List Int×Int:=if(fZ p).2.2 then(if fS (fZ p).1 (fZ p).2.1=0/\fP p=fP (gI (fZ p).1 (fZ p).2.1)then((fZ p).1,(fZ p).2.1,0)else(0,[],2))else(0,[],2)
end Go.Proofs
/- What the reader guesses of the page of a valid calculation. -/
namespace Go.Proofs
open Go Go.Ax Go.Ax.aB
structure a2S(op:Int)(a ini:List Int)(z r:Int)(w:Nat):Prop where
 ha:a=ini++[z]
 ne:0<ini.length
 a2P:gI op a=lS op ini z r w
 res:r=(eW op a).getD 0 0
 r0:0<=r
 r8:r<=8000000
 rw':aD r<=w
 w8:w<=8
 w2:2<=w
 all:∀x∈a,0<=x/\x<=999999/\aD x+1<=w
end Go.Proofs
/- What the reader returns, and pages apart from blanks. -/
namespace Go.Proofs
open Go Go.Ax Go.Ax.aB
theorem Sm:∀{l:List (List UInt8)}{r:List Int},iI l=some r->r.length=l.length
 |[],r,h=>by cases h;rfl
 |x::l,r,h=>by
   have h:(if(eI x).2 then(iI l).map ((eI x).1 :: ·)else none)=some r:=h;split at h
   .obtain⟨u,hu,rfl⟩:=Option.map_eq_some_iff.1 h
    simp[Sm hu]
   .cases h
theorem Vl(op:Int)(l:List (List UInt8)):(lG op l).2.1.length<=l.length:=by
 unfold lG;cases h:iI l with
 |none=>simp
 |some r=>simp[Sm h]
theorem TW(p:List (List UInt8)):∀(q:List (List UInt8))(i:Nat),(lA p q i).2.1.length<=p.length+1
 |[],_=>by simp[lA]
 |[]::q,i=>TW p q (i+1)
 |(c::t)::q,i=>by
   cases h:jS c with
   |none=>rw[TV h];exact TW p q (i+1)
   |some op=>
     rw[Fy h];split
     .simp
     .have:=Vl op ((p.take i).drop (jH op).toNat++[t])
      simp at this;omega
theorem aYx{p:List (List UInt8)}(hp:Small p):(fZ p).2.1.length<=90:=by
 have:=hp.1;unfold fZ;split
 .simp
 .split
  .exact Nat.le_trans (Vl _ _) (by simp)
  .have:=TW p p 0
   omega
theorem L2(x:Int)(y:List Int)(z:Int):(some (A3 x y z):O).bind L0=some (x,y,z):=rfl
theorem aSV{p:List (List UInt8)}(hp:Small p):vT 100 p=some (fX p):=by
 unfold vT w28 Rt fX;have h48:=aOv hp;have hl:=aYx hp;have h21:=aT3 (op:=(fZ p).1) hl;have h32:=aRs hp (aYm (fZ p).1 (fZ p).2.1);rw[aL (aOu h48),aOr h48,aOt h48,aOs h48];cases hg:(fZ p).2.2 with
 |false=>rw[OY,aW];exact L2 _ _ _
 |true=>
   rw[B6,aT,aL (aT2 h21),aT0 h21,aT1 h21,aRr h32,aRp h32,Bool.or_true,e9,aJ rfl];unfold tD;by_cases hv:fS (fZ p).1 (fZ p).2.1=0
   .rw[aJ hv]
    by_cases hs:fP p=fP (gI (fZ p).1 (fZ p).2.1)
    .rw[aJ ⟨hv,hs⟩]
     simp only[aO hs];exact L2 _ _ _
    .rw[aH (λh=>hs h.2)]
     simp only[bA hs];exact L2 _ _ _
   .rw[aH hv,aH (λh=>hv h.1)]
    simp only[aO (show fS (fZ p).1 (fZ p).2.1≠0 from hv),Bool.true_or];exact L2 _ _ _
theorem aXE{op:Int}{a:List Int}(V:gN op a):(gI op a).length<=25/\∀l∈gI op a,l.length<=40:=by
 have h8:=V.eight;have hcols:=Dd V;by_cases ho:op=3\/op=4
 .obtain⟨_,r0,r1,hc,hw⟩:=Cv V ho
  have hsp:=TE V.two;have hp:gI op a=lS op a.dropLast (a.getLastD 0) ((eW op a).getD 0 0) (jL ((eW op a).getD 0 0) a):=by
   unfold gI;rw[aH (by omega),aH (by omega)]
  rw[hp];have hw2:jL ((eW op a).getD 0 0) a=1+max (aD ((eW op a).getD 0 0)) (aD (a.getD 0 0)):=rfl;generalize(eW op a).getD 0 0=r at *
  generalize jL r a=w at *
  generalize a.dropLast=ini at *
  generalize a.getLastD 0=z at *
  subst hsp;have hln:∀x:Int,aD x<=w->(bX w x.toNat 0).length=w:=λx hx=>lC (by show 0+aD x<=w;omega)
  refine⟨by simp[lS]at h8 ⊢;omega,λl hl=>?_⟩;unfold lS at hl;simp only[jF,dT,dM,mX,lW,oD]at hl;rcases hl with rfl|⟨x,hx,rfl⟩|rfl|rfl|rfl
  .simp[gL];omega
  .rw[hln x (by have:=hcols x (by simp[hx]);omega)];omega
  .rw[gF,hln z (by have:=hcols z (by simp);omega)];omega
  .simp;omega
  .rw[hln r (by omega)];omega
 .have hl:=V.pair (by omega)
  have hfr:=V.BE;have hopr:=V.Av;obtain⟨x,y,r,rfl⟩:=jN V.two;have hr:r=[]:=by simpa using hl
  subst hr;have hx:=V.all x (by simp);have hy:=V.all y (by simp);have l6x:=gJ hx.2;have l6y:=gJ hy.2;by_cases h5:op=5
  .subst h5
   show(qU x y (1+eH x y (aD y))).length<=25/\∀l∈qU x y (1+eH x y (aD y)),l.length<=40
   have hW:=xX hx hy (aD y) (by omega);obtain⟨wa,wb,wab⟩:=EE x y (aD y);have hpart:=λk (hk:k<aD y)=>ED x y hk
   generalize eH x y (aD y)=wd at *
   have hln:∀v:Int,aD v<=1+wd->(bX (1+wd) v.toNat 0).length=1+wd:=λv hv=>lC (by show 0+aD v<=_;omega)
   unfold qU;refine⟨by rw[cP,cP,GP];split <;> simp <;> omega,λl hl=>?_⟩;rcases jF.1 hl with hl|hl
   .rcases jF.1 hl with hl|hl
    .simp only[dT,mX,lW]at hl
     rcases hl with rfl|rfl|rfl
     .rw[hln x (by omega)];omega
     .rw[gF,hln y (by omega)];omega
     .simp;omega
    .unfold jQ at hl
     obtain⟨k,hk,rfl⟩:=dM.1 hl;rw[lC (by have:=hpart k (l6.1 hk);show k+aD (eB x y k)<=_;omega)];omega
   .split at hl
    .simp only[dT,mX,lW]at hl
     rcases hl with rfl|rfl
     .simp;omega
     .rw[hln (x*y) (by omega)];omega
    .cases hl
  .have h6:op=6:=by omega
   subst h6;have hy0:y≠0:=hfr rfl;show(rF x y).length<=25/\∀l∈rF x y,l.length<=40
   have hqa:x / y<=x:=Int.ediv_le_self _ hx.1;have hLa:aD (x / y)<=aD x:=jW hqa;unfold rF;refine⟨by rw[cP,Mi];simp;omega,λl hl=>?_⟩;rcases jF.1 hl with hl|hl
   .simp only[dT,mX,lW]at hl
    rcases hl with rfl|rfl
    .rw[lC (by show 0+aD (x / y)<=_;omega)];omega
    .rw[cP,cP,Dc,Dc];simp;omega
   .unfold kB at hl
    obtain⟨j,hj,hl⟩:=List.mem_flatMap.1 hl;have hj:=l6.1 hj;have h1:=n8 hx.1 (c:=aD (x / y)-1-j) (by omega) (GN hx.1 (show 0<y by omega) (aD (x / y)-1-j)).2;have h2:=n8 hx.1 (c:=aD (x / y)-1-j-1) (by omega) (GU hx.1 (show 0<y by omega) (aD (x / y)-1-j)).2;simp only[dT,mX,lW]at hl;rcases hl with rfl|rfl
    .rw[lC (by show _+aD (fW x y _)<=_;omega)];omega
    .rw[lC (by show _+aD (jT x y _)<=_;omega)];omega
end Go.Proofs
/- SpatialWrong in plain words: a page with one cell changed. -/
namespace Go.Proofs
open Go Go.Ax Go.Ax.aB
theorem aGF(q:List (List UInt8)):∀n i,lZ q n<=i->i<n->q[i]?=some []
 |0,i,_,h=>by omega
 |n+1,i,h1,h2=>by
   unfold lZ at h1;split at h1
   .rename_i h
    by_cases hi:i=n
    .rw[hi];exact h
    .exact aGF q n i h1 (by omega)
   .omega
theorem GK(p:List (List UInt8))(i:Nat):((fP p)[i]?).getD []=eV ((p[i]?).getD []):=by
 unfold fP;rw[eN];by_cases hi:i<p.length
 .have hg:(p.map eV)[i]?=some (eV p[i]):=by rw[List.getElem?_map,bJ hi];rfl
  rw[bJ hi];split
  .rw[hg];rfl
  .rename_i h
   have:=aGF (p.map eV) p.length i (by omega) hi;rw[hg]at this;have e:eV p[i]=[]:=Option.some.inj this;show[]=eV p[i];rw[e]
 .have h1:p[i]?=none:=iV (by omega)
  have h2:(p.map eV)[i]?=none:=iV (by simp;omega);rw[h1,h2];split <;> rfl
end Go.Proofs
/- SpatialWrong in plain words: the law. -/
namespace Go.Proofs
open Go Go.Ax Go.Ax.aB
theorem aWA{i:Nat}(h:i<10):gH (aA.wrap (48+(i:Int)))=UInt8.ofNat (48+i):=by
 rw[wr (by omega) (by omega)];unfold gH
 congr 1
 omega
end Go.Proofs
