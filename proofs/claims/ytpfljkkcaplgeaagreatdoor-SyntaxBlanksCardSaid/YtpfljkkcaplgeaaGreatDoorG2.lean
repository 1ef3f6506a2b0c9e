/- What functions do, and plain laws. Conditions are in the theorems. -/
import Derived.Test.YtpfljkkcaplgeaaGreatDoorG1
import Derived.Lib.ItoaLen
open And renaming intro->fW
open Bool renaming and_assoc->rU,and_eq_true->aT,and_self->J5,not_eq_true->aAA,not_eq_true'->wW,not_true->Bj,true_and->iU
open Go.IntKind renaming i64->aH
open Int renaming le_refl->iC,toNat_natCast->kB
open List renaming append_assoc->bP,append_eq_nil_iff->Zo,append_nil->e9,getElem?_append_right->dN,length_append->aL,length_cons->eD,length_nil->jV,mem_cons->eZ,mem_of_getElem?->iM
open Nat renaming le_refl->cE,sub_self->kZ
open Prod renaming ext_iff->Z3
/- What is written, as pieces: a separator and a token each. -/
namespace Go.Proofs
open Go Go.Ax Go.Ax.aA
abbrev Pc:=List UInt8×List UInt8
def fl(l:List Pc):List UInt8:=l.flatMap λp=>p.1++p.2
def cV:Nat:=100000000000
theorem cS(P Q:List Pc):fl (P++Q)=fl P++fl Q:=by unfold fl;rw[List.flatMap_append]
theorem lD(p:Pc)(Q:List Pc):fl (p::Q)=p.1++p.2++fl Q:=rfl
theorem jA(p:Pc):fl [p]=p.1++p.2:=e9 _
def Wc(T:List UInt8->(List UInt8->O)->O)(P:List Pc):Prop:=∀b,b≠[]->(b++fl P).length<=cV->∀k,T b k=k (b++fl P)
def Wr(z:List UInt8->Option (List UInt8))(P:List Pc):Prop:=∀b,b≠[]->(b++fl P).length<=cV->z b=some (b++fl P)
theorem Wr.c{z:List UInt8->Option (List UInt8)}{P:List Pc}(h:Wr z P):Wc (λb k=>cb (z b) k) P:=λb hb hl _=>by
 show cb (z b) _=_;rw[h b hb hl,aK]
theorem Wc.seq{T T':List UInt8->(List UInt8->O)->O}{P Q:List Pc}(h:Wc T P)(h':Wc T' Q):Wc (λb k=>T b (λb'=>T' b' k)) (P++Q):=λb hb hl k=>by
 rw[cS,<-bP]at hl ⊢;have h1:(b++fl P).length<=cV:=by rw[aL]at hl;omega
 have h2:b++fl P≠[]:=by intro e;exact hb (Zo.1 e).1
 show T b _=_;rw[h b hb h1,h' _ h2 hl]
theorem Wc.nil:Wc (λb k=>k b) []:=λb _ _ k=>by
 show k b=k (b++[]);rw[e9]
theorem Wc.r{T:List UInt8->(List UInt8->O)->O}{P:List Pc}(h:Wc T P){z:List UInt8->Option (List UInt8)}{mk:List UInt8->aF}{un:aF->Option (List UInt8)}(hz:∀b,z b=(T b (λb'=>some (mk b'))).bind un)(hu:∀d,un (mk d)=some d):Wr z P:=λb hb hl=>by
 rw[hz,h b hb hl];exact hu _
theorem aJq{α:Type}(l:List α)(S:α->List UInt8->(List UInt8->O)->O)(F:α->List Pc)(hS:∀y∈l,Wc (S y) (F y)){N:Nat}(hN:N<=1000000)(hl:l.length<N)
    (L:Nat->Int->List UInt8->O) (E:List UInt8->O)
    (hL:∀n i b,L (n+1) i b=br (decide (i<(l.length:Int))) (gx l i λy=>S y b λb'=>L n (aH.wrap (i+1)) b') (E b)):
    ∀b,b≠[]->(b++fl (l.flatMap F)).length<=cV->L N 0 b=E (b++fl (l.flatMap F)):=by
 have key:∀(r p:List α),p++r=l->∀n,r.length<n->∀b,b≠[]->(b++fl (r.flatMap F)).length<=cV->L n (p.length:Int) b=E (b++fl (r.flatMap F)):=by
  intro r
  induction r with
  |nil=>
    intro p hp n hn b hb hb';obtain⟨n,rfl⟩:∃m,n=m+1:=⟨n-1,by simp at hn;omega⟩
    rw[hL,show decide ((p.length:Int)<l.length)=false from bD (by rw[<-hp];simp),bM];show E b=E (b++[]);rw[e9]
  |cons y r ih=>
    intro p hp n hn b hb hb';obtain⟨n,rfl⟩:∃m,n=m+1:=⟨n-1,by simp at hn;omega⟩
    have hlen:l.length=p.length+(r.length+1):=by rw[<-hp];simp
    have hy:l[p.length]?=some y:=by rw[<-hp,dN (cE _),kZ];rfl
    rw[List.flatMap_cons,cS,<-bP]at hb' ⊢;have h1:(b++fl (F y)).length<=cV:=by rw[aL]at hb';omega
    have h2:b++fl (F y)≠[]:=by intro e;exact hb (Zo.1 e).1
    rw[hL,show decide ((p.length:Int)<l.length)=true from aX (by rw[hlen];omega),bJ,iP (y:=y) (by omega) (by rw[kB];exact hy),hS y (iM hy) b hb h1,cA (by omega) (by omega)];have:=ih (p++[y]) (by rw[bP];exact hp) n (by simp at hn;omega) _ h2 hb';rw[aL,show((p.length+[y].length:Nat):Int)=(p.length:Int)+1 by simp]at this;exact this
 exact key l [] rfl N hl
theorem Wc.loop{α:Type}{l:List α}{S:α->List UInt8->(List UInt8->O)->O}{F:α->List Pc}(hS:∀y∈l,Wc (S y) (F y)){N:Nat}(hN:N<=1000000)(hl:l.length<N)
    (L:(List UInt8->O)->Nat->Int->List UInt8->O)
    (hL:∀k n i b,L k (n+1) i b=br (decide (i<(l.length:Int))) (gx l i λy=>S y b λb'=>L k n (aH.wrap (i+1)) b') (k b)):Wc (λb k=>L k N 0 b) (l.flatMap F):=
 λb hb hb' k=>aJq l S F hS hN hl (L k) k (λ_ _ _=>hL k _ _ _) b hb hb'
theorem aDw(N:Nat){s b:List UInt8}(h:(b++s).length<=cV):Gn N s b=some ((s.length:Int),b++s):=by
 unfold Gn UD;rw[aL]at h;unfold cV at h;rw[iQ (show HE N b=some b from rfl),eY (rF (by omega) (by omega))];rfl
theorem xH(N:Nat)(s:List UInt8):Wr (pY N s) [([32],s)]:=λb _ hl=>by
 rw[jA]at hl ⊢;change(b++([32]++s)).length<=cV at hl;show _=some (b++([32]++s));have hl':=hl;rw[aL,aL]at hl';unfold cV at hl';unfold pY Vk;rw[eY (aX (by omega)),iQ (aDw N hl)];rfl
theorem aA5(N:Nat)(c:UInt8){b:List UInt8}(h:(b++[c]).length<=cV):Jo N c b=some (b++[c]):=by
 unfold Jo PJ;rw[iQ (show HE N b=some b from rfl),eY (rF (by unfold cV at h;omega) (by unfold cV at h;omega))];rfl
theorem lV(N:Nat)(w:List UInt8):Wr (kM N w) [([10],w)]:=λb hb hl=>by
 rw[jA,<-bP]at hl ⊢;change((b++[10])++w).length<=cV at hl;show _=some ((b++[10])++w);have h1:(b++[10]).length<=cV:=by
  rw[aL]at hl;exact Nat.le_trans (Nat.le_add_right _ _) hl
 have h0:0<b.length:=by cases b with|nil=>exact absurd rfl hb|cons a l=>simp
 unfold kM Vn;rw[iQ (show aDy N b=some ((b.length:Int),b)from rfl),aX (by show(0:Int)<(b.length:Int);omega),bJ,iQ (aA5 N 10 h1),iQ (aDw N hl)];rfl
def quo(s:List UInt8):List UInt8:=[34]++cT s++[34]
set_option maxRecDepth 100000 in
theorem Ag{N:Nat}(s:List UInt8)(hs:s.length<N)(hN:N<=1000000)(h20:20<=N):Wr (vV N s) [([32],quo s)]:=λb hb hl=>by
 have hg:=Iv s;unfold vV Vm;rw[iQ (show aDu N [[92],[92,92],[34],[92,34]]=some (0,0,0,pC)from rfl)];have hz:Tx N s 0 0 0 pC=some (cT s,1,0,0,pC,gE,gD,gP):=by
  unfold Tx UA;rw[iQ (show GX N 0 0 0 pC=some (1,0,0,pC,gE,gD,gP)from rfl),iQ (aOU s hs hN h20)];rfl
 rw[iQ hz,eY (aX (by show(1:Int)+((cT s).length:Int)<=_;omega)),eY (aX (by rw[aL];show((1+(cT s).length:Nat):Int)+1<=_;omega))];show(cb (pY N (quo s) b) _:O).bind _=_;rw[iQ (xH N _ b hb hl)];rfl
end Go.Proofs
/- What functions do. -/
namespace Go.Proofs
noncomputable section
open Go.Ax Go.Ax.aA Go.RowKit Go.Ab
open Go
def aLu:Sg:=ag [.ref 50 0] [qL,o5]
def PG:aF:=(aZ,[])
def aLt(_:Nat):List KP:=[]
def PH[aA](_:Nat)(a:aD):O:=
 ck (decide ((↑a.length:Int)=(↑a.length:Int)))<|
 some (aB PG a)
def PF(N:Nat)(a:aD):Option (aD):=(PH N a).bind (aG PG)
def aLv[aA](_:Nat):Hint:=(.seq .d (.seq (.cF [] [] [[],[],[],[],[],[],[],[],[],[],[51],[]]) .d))
def aLw(N:Nat):KP:=bN 77 Tryz.f77 aLu PG (aLt N) (@aLv · N) (by exact⟨⟨⟩,⟨⟩,⟨⟩⟩) λA d=>@PH A N d
def aNq:Sg:=ag [.agg [aZ,.e k8 (Ty.zero _)]] []
def KV:aF:=(aZ,[])
def F2(N:Nat):List KP:=[kO 100 (Hq N) (a02 N),MK N,Hp N,aZ8 N,Hj N,aZK N,aA6 N,aLw N]
def aOB[aA](N:Nat)(a:Int->aD->O)(b:cY->Int->Int->aD->dP->dF->eF->aD->O)(c:cY)(d e:Int)(f:dP)(g:Int)(h:aD)(i:dP)(j:dF)(k:eF)(l:Int)(m:aD):O:=
 br (decide (l<g))
  (gx f l λn=>
  cb (ME N n.1 n.2.1 (Ex.op n.2.2.1) (Ex.num n.2.2.1) (Ex.kids n.2.2.1) n.2.2.2.1.1 n.2.2.2.1.2 n.2.2.2.2.1 n.2.2.2.2.2.1.1 n.2.2.2.2.2.1.2.1 n.2.2.2.2.2.1.2.2 n.2.2.2.2.2.2.1 n.2.2.2.2.2.2.2 m)  λo=>
  a (aH.wrap (l+1)) o)
  (b c d e h i j k m)
def F1:Lp:=lq [(3,.ref 0 0),(21,.e k8 (Ty.zero _)),(22,aC),(23,aC),(5,.ref 1 0),(34,.e nL (Ty.zero _)),(35,aC),(36,aC)] [aKR,aKC,Ozg] [] [xp (.exit 2) [3,21,22,23,5]]
def aBT[aA](N:Nat)(a:F1.V->O):F1.F:=λx b _ _=>aOB N (λc d=>a (x.1,x.2.1,x.2.2.1,x.2.2.2.1,x.2.2.2.2.1,c,x.2.2.2.2.2.2.1,x.2.2.2.2.2.2.2.1,x.2.2.2.2.2.2.2.2.1,x.2.2.2.2.2.2.2.2.2.1,d)) (λe f g h i j k l=>b (e,f,g,h,i,j,k,l)) x.1 x.2.1 x.2.2.1 x.2.2.2.1 x.2.2.2.2.1 x.2.2.2.2.2.2.1 x.2.2.2.2.2.2.2.1 x.2.2.2.2.2.2.2.2.1 x.2.2.2.2.2.2.2.2.2.1 x.2.2.2.2.2.1 x.2.2.2.2.2.2.2.2.2.2
def KZ[aA](N:Nat):=bL F1 (aBT N)
def aNp[aA](N:Nat)(a:cY)(b c:Int)(d:dP)(e f:Int)(g:aD)(h:dP)(i:dF)(j:eF)(k:aD)(l:cY->Int->Int->aD->dP->dF->eF->aD->O):O:=KZ N N (a,b,c,d,e,f,g,h,i,j,k) (λy=>l y.1 y.2.1 y.2.2.1 y.2.2.2.1 y.2.2.2.2.1 y.2.2.2.2.2.1 y.2.2.2.2.2.2.1 y.2.2.2.2.2.2.2) nn nn
theorem aNx(N:Nat):LS (F2 N) Tryz.f46 [1,1,1,1,0,1,0,0,1,1,0,0,1,1,1,0,1,0,0] F1 (KZ N N):=kH (@aBT · N) N
def aOA[aA](N:Nat)(a:Int->aD->O)(b:cY->Int->Int->aD->dP->dF->eF->aD->O)(c:cY)(d e:Int)(f:dF)(g:Int)(h:aD)(i:dP)(j:dF)(k:eF)(l:Int)(m:aD):O:=
 br (decide (l<g))
  (gx f l λn=>
  cb (kM N [(102:UInt8),97,99,116] m)  λo=>
  gx [[(119:UInt8),104,111,108,101],[(101:UInt8),110,116,114,121],[(105:UInt8),110,115,105,100,101],[(108:UInt8),101,102,116],[(108:UInt8),111,110,103,101,114],[(98:UInt8),97,114],[(114:UInt8),111,119]] n.1 λp=>
  cb (pY N p o)  λq=>
  cb (qW N [n.2.1,n.2.2.1,n.2.2.2] q)  λr=>
  a (aH.wrap (l+1)) r)
  (b c d e h i j k m)
def F0:Lp:=lq [(3,.ref 0 0),(21,.e k8 (Ty.zero _)),(22,aC),(23,aC),(5,.ref 1 0),(45,mK),(46,aC),(47,aC)] [aKR,aKC,Ozg] [] [xp (.exit 4) [3,21,22,23,5]]
def aBS[aA](N:Nat)(a:F0.V->O):F0.F:=λx b _ _=>aOA N (λc d=>a (x.1,x.2.1,x.2.2.1,x.2.2.2.1,x.2.2.2.2.1,c,x.2.2.2.2.2.2.1,x.2.2.2.2.2.2.2.1,x.2.2.2.2.2.2.2.2.1,x.2.2.2.2.2.2.2.2.2.1,d)) (λe f g h i j k l=>b (e,f,g,h,i,j,k,l)) x.1 x.2.1 x.2.2.1 x.2.2.2.1 x.2.2.2.2.1 x.2.2.2.2.2.2.1 x.2.2.2.2.2.2.2.1 x.2.2.2.2.2.2.2.2.1 x.2.2.2.2.2.2.2.2.2.1 x.2.2.2.2.2.1 x.2.2.2.2.2.2.2.2.2.2
def KY[aA](N:Nat):=bL F0 (aBS N)
def aNo[aA](N:Nat)(a:cY)(b c:Int)(d:dF)(e f:Int)(g:aD)(h:dP)(i:dF)(j:eF)(k:aD)(l:cY->Int->Int->aD->dP->dF->eF->aD->O):O:=KY N N (a,b,c,d,e,f,g,h,i,j,k) (λy=>l y.1 y.2.1 y.2.2.1 y.2.2.2.1 y.2.2.2.2.1 y.2.2.2.2.2.1 y.2.2.2.2.2.2.1 y.2.2.2.2.2.2.2) nn nn
theorem aNw(N:Nat):LS (F2 N) Tryz.f46 [1,1,1,1,0,1,0,0,1,1,0,0,1,1,1,1,0,1,0,0] F0 (KY N N):=kH (@aBS · N) N
def aNz[aA](N:Nat)(a:Int->aD->O)(b:cY->Int->Int->aD->O)(c:cY)(d e:Int)(f:eF)(g h:Int)(i:aD):O:=
 br (decide (h<g))
  (gx f h λj=>
  cb (Vf N j.1 j.2.1 j.2.2.1 j.2.2.2.1 j.2.2.2.2.1 j.2.2.2.2.2.1 j.2.2.2.2.2.2 i)  λk=>
  a (aH.wrap (h+1)) k)
  (b c d e i)
def FZ:Lp:=lq [(3,.ref 0 0),(21,.e k8 (Ty.zero _)),(22,aC),(23,aC),(70,n9),(71,aC),(72,aC)] [aKQ,JW] [] [xp (.exit 6) [3,21,22,23]]
def aBR[aA](N:Nat)(a:FZ.V->O):FZ.F:=λx b _ _=>aNz N (λc d=>a (x.1,x.2.1,x.2.2.1,x.2.2.2.1,x.2.2.2.2.1,c,d)) (λe f g h=>b (e,f,g,h)) x.1 x.2.1 x.2.2.1 x.2.2.2.1 x.2.2.2.2.1 x.2.2.2.2.2.1 x.2.2.2.2.2.2
def KX[aA](N:Nat):=bL FZ (aBR N)
def aNn[aA](N:Nat)(a:cY)(b c:Int)(d:eF)(e f:Int)(g:aD)(h:cY->Int->Int->aD->O):O:=KX N N (a,b,c,d,e,f,g) (λy=>h y.1 y.2.1 y.2.2.1 y.2.2.2) nn nn
theorem aNv(N:Nat):LS (F2 N) Tryz.f46 [1,1,1,1,0,1,0,0,1,1,0,0,1,1,1,1,1,1,0,0] FZ (KX N N):=kH (@aBR · N) N
def aNy[aA](N:Nat)(a:cY->Int->Int->aD->O)(b:aD->O)(c:cY)(d e:Int)(f:aD):O:=
 br (decide (e<d))
  (gx c e λg=>
  cb (kM N [(105:UInt8),116,101,109] f)  λh=>
  cb (pY N g.1 h)  λi=>
  aNp N c d e g.2.1 ((↑g.2.1.length:Int)) 0 g.1 g.2.1 g.2.2.1 g.2.2.2 i
   (λj k l m n o p q=>
    aNo N j k l o ((↑o.length:Int)) 0 m n o p q
     (λr s t _ _ _ u v=>
      aNn N r s t u ((↑u.length:Int)) 0 v
       (λw z aq aw=>
        a w z (aH.wrap (aq+1)) aw))))
  (b f)
def FY:Lp:=lq [(3,.ref 0 0),(21,.e k8 (Ty.zero _)),(22,aC),(23,aC)] [aKQ,JW] [] [xp (.exit 0) [3]]
def aBQ[aA](N:Nat)(a:FY.V->O):FY.F:=λx b _ _=>aNy N (λc d e f=>a (c,d,e,f)) b x.1 x.2.1 x.2.2.1 x.2.2.2
def KW[aA](N:Nat):=bL FY (aBQ N)
def aBP[aA](N:Nat)(a:cY)(b c:Int)(d:aD)(e:aD->O):O:=KW N N (a,b,c,d) e nn nn
def aNr[aA](N:Nat):Hint:=(.seq .d (.seq .d (.seq (.block (.seq .d (.seq .d (.seq .d (.seq (.seq .d (.block (F1.h (KZ N N)))) (.seq (.seq .d (.block (F0.h (KY N N)))) (.seq .d (.block (FZ.h (KX N N)))))))))) .d)))
theorem aNu(N:Nat):LS (F2 N) Tryz.f46 [1,1,1,1,0,1,0,0] FY (KW N N):=gF (@aNr · N) (by exact⟨⟨⟩,⟨⟩,⟨⟨⟩,⟨⟩,⟨⟩,⟨⟨⟩,aNx N⟩,⟨⟨⟩,aNw N⟩,⟨⟩,aNv N⟩,⟨⟩⟩) (@aBQ · N) N
def QK[aA](N:Nat)(a:aD)(b:cY):O:=
 cb (aGH N [(101:UInt8),120,97,109])  λc=>
 cb (vV N a c)  λd=>
 aBP N b ((↑b.length:Int)) 0 d
  (λe=>
   cb (Jo N 10 e)  λf=>
   cb (PF N f)  λg=>
   some (aB KV g))
def CG(N:Nat)(a:aD)(b:cY):Option (aD):=(QK N a b).bind (aG KV)
def aNs[aA](N:Nat):Hint:=(.seq .d (.seq .d (.seq .d (.seq .d (.seq (.seq .d (.block (FY.h (KW N N)))) .d)))))
def aBV(N:Nat):KP:=bN 46 Tryz.f46 aNq KV (F2 N) (@aNs · N) (by exact⟨⟨⟩,⟨⟩,⟨⟩,⟨⟩,⟨⟨⟩,aNu N⟩,⟨⟩⟩) λA d=>@QK A N d.1 d.2
def aYx:Sg:=ag [aC,aC,aC] []
def Va:aF:=(bA,[])
def aYw(_:Nat):List KP:=[]
def aFe[aA](_:Nat)(a b c:Int):O:=
 some (aB Va (decide (b<=a)&&decide (a<=c)))
def eU(N:Nat)(a b c:Int):Option (Bool):=(aFe N a b c).bind (aG Va)
def iW(N:Nat):KP:=kE 108 Tryz.f108 aYx Va (aYw N) λA d=>@aFe A N d.1 d.2.1 d.2.2
def aYz:Sg:=ag [lf .u8] []
def Vc:aF:=(bA,[])
def aYy(_:Nat):List KP:=[]
def aFg[aA](_:Nat)(a:UInt8):O:=
 some (aB Vc (decide (32<=a)&&decide (a<=126)))
def Vb(N:Nat)(a:UInt8):Option (Bool):=(aFg N a).bind (aG Vc)
def aFf(N:Nat):KP:=kE 107 Tryz.f107 aYz Vc (aYy N) λA d=>@aFg A N d
def aUl:Sg:=ag [lf .u8,.ref 50 0] [zV]
def Tp:aF:=(bA,[zV])
def aUk(N:Nat):List KP:=[aFf N]
def Tq[aA](N:Nat)(a:UInt8):O:=
 cb (Vb N a)  λb=>
 some (aB Tp !b)
def LV(N:Nat)(a:UInt8):Option (Bool):=(Tq N a).bind (aG Tp)
def aDe(N:Nat):KP:=kE 183 Tryz.f183 aUl Tp (aUk N) λA d=>@Tq A N d
def aSH:Sg:=ag [rM,.fn 183 [.ref 50 0]] [zV]
def Ca:aF:=(aC,[zV])
def aCn(N:Nat):List KP:=[aDe N]
def aSL[aA](N:Nat)(a b:Int->O)(c:Unit->O)(d:aD)(e f:Int):O:=
 br (decide (f<e))
  (gx d f λg=>
  cb (LV N g)  λh=>
  br h
   (b f)
   (a (aH.wrap (f+1))))
  (c ())
def GV:Lp:=lq [(0,rM),(1,.fn 183 [.ref 50 0]),(7,aC),(8,aC)] [zV] [] [λ_=>(.ret,⟨[4],[],[]⟩,⟨[(4,aC)],[zV],100⟩),xp (.exit 0) []]
def aCo[aA](N:Nat)(a:GV.V->O):GV.F:=λx b c _=>aSL N (λd=>a (x.1,x.2.1,d)) b c x.1 x.2.1 x.2.2
def GW[aA](N:Nat):=bL GV (aCo N)
def aCm[aA](N:Nat)(a:aD)(b c:Int)(d:Int->O)(e:Unit->O):O:=GW N N (a,b,c) d e nn
theorem aSJ(N:Nat):LS (aCn N) Tryz.f235 [1,0,1,0,0] GV (GW N N):=eW (@aCo · N) N
def S1[aA](N:Nat)(a:aD):O:=
 aCm N a ((↑a.length:Int)) 0
  (λb=>
   some (aB Ca b))
  (λ(_:Unit)=>
   some (aB Ca (-1:Int)))
def S0(N:Nat)(a:aD):Option (Int):=(S1 N a).bind (aG Ca)
def aSI[aA](N:Nat):Hint:=(.seq .d (.seq (.seq .d (.block (GV.h (GW N N)))) .d))
def aSK(N:Nat):KP:=bN 235 Tryz.f235 aSH Ca (aCn N) (@aSI · N) (by exact⟨⟨⟩,⟨⟨⟩,aSJ N⟩,⟨⟩⟩) λA d=>@S1 A N d
def aUn:Sg:=ag [rM,.fn 183 [.ref 50 0]] [zV]
def Ts:aF:=(bA,[zV])
def aUm(N:Nat):List KP:=[aSK N]
def Tt[aA](N:Nat)(a:aD):O:=
 cb (S0 N a)  λb=>
 some (aB Ts (decide (0<=b)))
def Tr(N:Nat)(a:aD):Option (Bool):=(Tt N a).bind (aG Ts)
def aUo(N:Nat):KP:=kE 182 Tryz.f182 aUn Ts (aUm N) λA d=>@Tt A N d
def aZC:Sg:=ag [rM,aC,aC,.fn 107 []] []
def DU:aF:=(bA,[])
def aZB(N:Nat):List KP:=[iW N,aDe N,aUo N]
def Ve[aA](N:Nat)(a:aD)(b c:Int):O:=
 cb (eU N (↑a.length:Int) b c)  λd=>
 br d
  (cb (Tr N a)  λe=>
  some (aB DU !e))
  (some (aB DU false))
def Vd(N:Nat)(a:aD)(b c:Int):Option (Bool):=(Ve N a b c).bind (aG DU)
def aZD[aA](_:Nat):Hint:=(.seq .d (.seq (.cF [1006] [] []) .d))
def aFh(N:Nat):KP:=bN 106 Tryz.f106 aZC DU (aZB N) (@aZD · N) (by exact⟨⟨⟩,⟨⟩,⟨⟩⟩) λA d=>@Ve A N d.1 d.2.1 d.2.2
def aNm:Sg:=ag [aZ,aC,aC] []
def QI:aF:=(bA,[])
def aNl(N:Nat):List KP:=[aFh N,aFf N]
def QJ[aA](N:Nat)(a:aD)(b c:Int):O:=
 cb (Vd N a b c)  λd=>
 some (aB QI d)
def CF(N:Nat)(a:aD)(b c:Int):Option (Bool):=(QJ N a b c).bind (aG QI)
def KU(N:Nat):KP:=kE 47 Tryz.f47 aNm QI (aNl N) λA d=>@QJ A N d.1 d.2.1 d.2.2
def aUd:Sg:=ag [lf .u8] []
def Tm:aF:=(bA,[])
def aUc(_:Nat):List KP:=[]
def aDa[aA](_:Nat)(a:UInt8):O:=
 some (aB Tm (decide (97<=a)&&decide (a<=122)))
def Tl(N:Nat)(a:UInt8):Option (Bool):=(aDa N a).bind (aG Tm)
def aD9(N:Nat):KP:=kE 185 Tryz.f185 aUd Tm (aUc N) λA d=>@aDa A N d
def aUa:Sg:=ag [lf .u8,.ref 50 0] [OK]
def Tj:aF:=(bA,[OK])
def aU9(N:Nat):List KP:=[aD9 N]
def aD8[aA](N:Nat)(a:UInt8):O:=
 cb (Tl N a)  λb=>
 some (aB Tj (b||decide (48<=a)&&decide (a<=57)))
def Ti(N:Nat)(a:UInt8):Option (Bool):=(aD8 N a).bind (aG Tj)
def aD7(N:Nat):KP:=kE 186 Tryz.f186 aUa Tj (aU9 N) λA d=>@aD8 A N d
def a0G:Sg:=ag [lf .u8,.ref 50 0] [AE,zX]
def WE:aF:=(bA,[AE,zX])
def a0F(N:Nat):List KP:=[aD7 N]
def WG[aA](N:Nat)(a:UInt8):O:=
 cb (Ti N a)  λb=>
 some (aB WE !b)
def MN(N:Nat)(a:UInt8):Option (Bool):=(WG N a).bind (aG WE)
def aGD(N:Nat):KP:=kE 183 Tryz.f183 a0G WE (a0F N) λA d=>@WG A N d
def aZv:Sg:=ag [rM,.fn 183 [.ref 50 0]] [AE,zX]
def DY:aF:=(aC,[AE,zX])
def aGB(N:Nat):List KP:=[aGD N]
def aZz[aA](N:Nat)(a b:Int->O)(c:Unit->O)(d:aD)(e f:Int):O:=
 br (decide (f<e))
  (gx d f λg=>
  cb (MN N g)  λh=>
  br h
   (b f)
   (a (aH.wrap (f+1))))
  (c ())
def Ht:Lp:=lq [(0,rM),(1,.fn 183 [.ref 50 0]),(7,aC),(8,aC)] [AE,zX] [] [λ_=>(.ret,⟨[4],[],[]⟩,⟨[(4,aC)],[AE,zX],100⟩),xp (.exit 0) []]
def aGC[aA](N:Nat)(a:Ht.V->O):Ht.F:=λx b c _=>aZz N (λd=>a (x.1,x.2.1,d)) b c x.1 x.2.1 x.2.2
def Hu[aA](N:Nat):=bL Ht (aGC N)
def aGA[aA](N:Nat)(a:aD)(b c:Int)(d:Int->O)(e:Unit->O):O:=Hu N N (a,b,c) d e nn
theorem aZx(N:Nat):LS (aGB N) Tryz.f235 [1,0,1,0,0] Ht (Hu N N):=eW (@aGC · N) N
def WB[aA](N:Nat)(a:aD):O:=
 aGA N a ((↑a.length:Int)) 0
  (λb=>
   some (aB DY b))
  (λ(_:Unit)=>
   some (aB DY (-1:Int)))
def Vz(N:Nat)(a:aD):Option (Int):=(WB N a).bind (aG DY)
def aZw[aA](N:Nat):Hint:=(.seq .d (.seq (.seq .d (.block (Ht.h (Hu N N)))) .d))
def aZy(N:Nat):KP:=bN 235 Tryz.f235 aZv DY (aGB N) (@aZw · N) (by exact⟨⟨⟩,⟨⟨⟩,aZx N⟩,⟨⟩⟩) λA d=>@WB A N d
def a0I:Sg:=ag [rM,.fn 183 [.ref 50 0]] [AE,zX]
def WI:aF:=(bA,[AE,zX])
def a0H(N:Nat):List KP:=[aZy N]
def WJ[aA](N:Nat)(a:aD):O:=
 cb (Vz N a)  λb=>
 some (aB WI (decide (0<=b)))
def WH(N:Nat)(a:aD):Option (Bool):=(WJ N a).bind (aG WI)
def a0J(N:Nat):KP:=kE 182 Tryz.f182 a0I WI (a0H N) λA d=>@WJ A N d
def a0W:Sg:=ag [rM,aC,aC,.fn 186 [.ref 50 0]] [OK]
def D0:aF:=(bA,[OK])
def a0V(N:Nat):List KP:=[aGD N,a0J N,iW N]
def WN[aA](N:Nat)(a:aD)(b c:Int):O:=
 cb (eU N (↑a.length:Int) b c)  λd=>
 br d
  (cb (WH N a)  λe=>
  some (aB D0 !e))
  (some (aB D0 false))
def WM(N:Nat)(a:aD)(b c:Int):Option (Bool):=(WN N a b c).bind (aG D0)
def a0X[aA](_:Nat):Hint:=(.seq .d (.seq (.cF [1006] [] []) .d))
def a0Z(N:Nat):KP:=bN 106 Tryz.f106 a0W D0 (a0V N) (@a0X · N) (by exact⟨⟨⟩,⟨⟩,⟨⟩⟩) λA d=>@WN A N d.1 d.2.1 d.2.2
def aYl:Sg:=ag [aZ] []
def Lz:aF:=(bA,[])
def aYk(N:Nat):List KP:=[aD9 N,aD7 N,kO 106 (aFh N) (a0Z N)]
def V1[aA](N:Nat)(a:aD):O:=
 gc (decide (a≠[])) ((0:UInt8)) a 0 λb=>
 cg (decide (a≠[])) (Tl N b) (false) λc=>
 br (decide (a≠[])&&c)
  (cb (WM N a 1 16)  λd=>
  some (aB Lz d))
  (some (aB Lz false))
def Ly(N:Nat)(a:aD):Option (Bool):=(V1 N a).bind (aG Lz)
def aYm[aA](_:Nat):Hint:=(.seq .d (.seq .d (.seq (.cF [1009] [] [[],[],[],[],[],[],[],[],[],[],[],[],[108],[],[]]) .d)))
def aF8(N:Nat):KP:=bN 111 Tryz.f111 aYl Lz (aYk N) (@aYm · N) (by exact⟨⟨⟩,⟨⟩,⟨⟩,⟨⟩⟩) λA d=>@V1 A N d
def aU2:Sg:=ag [.agg [aC,fQ,aC,aC,kA,aC,dT,j9,aC,aC,j8,jC,dU]] []
def tY:aF:=(.agg [aC,fQ,aC,aC,kA,aC,dT,j9,aC,aC,j8,jC,dU],[])
def aU1(_:Nat):List KP:=[]
def Tc[aA](_:Nat)(a:Int)(b:bG)(c d:Int)(e:cQ)(f:Int)(g:aJ)(h:cH)(i j:Int)(k:cK)(l:bI)(m:aN):O:=
 br (decide (a=0))
  (some (aB tY (a,b,(0:Int),(0:Int),[],(0:Int),[],[],(0:Int),(0:Int),[],[],[])))
  (br (decide (a=1))
   (some (aB tY (a,[],c,d,e,(0:Int),[],[],(0:Int),(0:Int),[],[],[])))
   (br (decide (a=2))
    (some (aB tY (a,[],(0:Int),(0:Int),[],f,g,[],(0:Int),(0:Int),[],[],[])))
    (br (decide (a=3))
     (some (aB tY (a,[],(0:Int),(0:Int),[],(0:Int),[],h,(0:Int),(0:Int),[],[],[])))
     (br (decide (a=4))
      (some (aB tY (a,[],(0:Int),(0:Int),[],(0:Int),[],[],i,j,k,[],[])))
      (br (decide (a=5))
       (some (aB tY (a,[],(0:Int),(0:Int),[],(0:Int),[],[],(0:Int),(0:Int),[],l,[])))
       (br (decide (a=6))
        (some (aB tY (a,[],(0:Int),(0:Int),[],(0:Int),[],[],(0:Int),(0:Int),[],[],m)))
        (some (aB tY (a,[],(0:Int),(0:Int),[],(0:Int),[],[],(0:Int),(0:Int),[],[],[])))))))))
def tW(N:Nat)(a:Int)(b:bG)(c d:Int)(e:cQ)(f:Int)(g:aJ)(h:cH)(i j:Int)(k:cK)(l:bI)(m:aN):Option (Int×bG×Int×Int×cQ×Int×aJ×cH×Int×Int×cK×bI×aN):=(Tc N a b c d e f g h i j k l m).bind (aG tY)
def aU3(N:Nat):KP:=kE 189 Tryz.f189 aU2 tY (aU1 N) λA d=>@Tc A N d.1 d.2.1 d.2.2.1 d.2.2.2.1 d.2.2.2.2.1 d.2.2.2.2.2.1 d.2.2.2.2.2.2.1 d.2.2.2.2.2.2.2.1 d.2.2.2.2.2.2.2.2.1 d.2.2.2.2.2.2.2.2.2.1 d.2.2.2.2.2.2.2.2.2.2.1 d.2.2.2.2.2.2.2.2.2.2.2.1 d.2.2.2.2.2.2.2.2.2.2.2.2
def aRv:Sg:=ag [.agg [aC,aZ]] []
def SU:aF:=(bA,[])
def aRu(N:Nat):List KP:=[iW N,KU N]
def SV[aA](N:Nat)(a:Int)(b:aD):O:=
 cb (eU N a 0 1)  λc=>
 cg c (CF N b 1 200) (false) λd=>
 some (aB SU (c&&d))
def Kr(N:Nat)(a:Int)(b:aD):Option (Bool):=(SV N a b).bind (aG SU)
def aCi(N:Nat):KP:=kE 238 Tryz.f238 aRv SU (aRu N) λA d=>@SV A N d.1 d.2
def aQY:Sg:=ag [.agg [aC,aZ],.ref 50 0] [zO]
def RS:aF:=(bA,[zO])
def aQX(N:Nat):List KP:=[aCi N]
def RT[aA](N:Nat)(a:Int)(b:aD):O:=
 cb (Kr N a b)  λc=>
 some (aB RS !c)
def Kg(N:Nat)(a:Int)(b:aD):Option (Bool):=(RT N a b).bind (aG RS)
def aCU(N:Nat):KP:=kE 274 Tryz.f274 aQY RS (aQX N) λA d=>@RT A N d.1 d.2
def aPV:Sg:=ag [fQ,.fn 274 [.ref 50 0]] [zO]
def CT:aF:=(aC,[zO])
def aBz(N:Nat):List KP:=[aCU N]
def aPZ[aA](N:Nat)(a b:Int->O)(c:Unit->O)(d:bG)(e f:Int):O:=
 br (decide (f<e))
  (gx d f λg=>
  cb (Kg N g.1 g.2)  λh=>
  br h
   (b f)
   (a (aH.wrap (f+1))))
  (c ())
def Fy:Lp:=lq [(0,fQ),(1,.fn 274 [.ref 50 0]),(7,aC),(8,aC)] [zO] [] [λ_=>(.ret,⟨[4],[],[]⟩,⟨[(4,aC)],[zO],100⟩),xp (.exit 0) []]
def aCA[aA](N:Nat)(a:Fy.V->O):Fy.F:=λx b c _=>aPZ N (λd=>a (x.1,x.2.1,d)) b c x.1 x.2.1 x.2.2
def Fz[aA](N:Nat):=bL Fy (aCA N)
def aBy[aA](N:Nat)(a:bG)(b c:Int)(d:Int->O)(e:Unit->O):O:=Fz N N (a,b,c) d e nn
theorem aPX(N:Nat):LS (aBz N) Tryz.f311 [1,0,1,0,0] Fy (Fz N N):=eW (@aCA · N) N
def Qf[aA](N:Nat)(a:bG):O:=
 aBy N a ((↑a.length:Int)) 0
  (λb=>
   some (aB CT b))
  (λ(_:Unit)=>
   some (aB CT (-1:Int)))
def Qe(N:Nat)(a:bG):Option (Int):=(Qf N a).bind (aG CT)
def aPW[aA](N:Nat):Hint:=(.seq .d (.seq (.seq .d (.block (Fy.h (Fz N N)))) .d))
def aPY(N:Nat):KP:=bN 311 Tryz.f311 aPV CT (aBz N) (@aPW · N) (by exact⟨⟨⟩,⟨⟨⟩,aPX N⟩,⟨⟩⟩) λA d=>@Qf A N d
def aQ0:Sg:=ag [fQ,.fn 274 [.ref 50 0]] [zO]
def RW:aF:=(bA,[zO])
def aQZ(N:Nat):List KP:=[aPY N]
def RX[aA](N:Nat)(a:bG):O:=
 cb (Qe N a)  λb=>
 some (aB RW (decide (0<=b)))
def RU(N:Nat)(a:bG):Option (Bool):=(RX N a).bind (aG RW)
def aQ1(N:Nat):KP:=kE 273 Tryz.f273 aQ0 RW (aQZ N) λA d=>@RX A N d
def aRy:Sg:=ag [fQ,aC,aC,.fn 238 []] []
def C8:aF:=(bA,[])
def aRx(N:Nat):List KP:=[iW N,aCU N,aQ1 N]
def SX[aA](N:Nat)(a:bG)(b c:Int):O:=
 cb (eU N (↑a.length:Int) b c)  λd=>
 br d
  (cb (RU N a)  λe=>
  some (aB C8 !e))
  (some (aB C8 false))
def SW(N:Nat)(a:bG)(b c:Int):Option (Bool):=(SX N a b c).bind (aG C8)
def aRz[aA](_:Nat):Hint:=(.seq .d (.seq (.cF [1006] [] []) .d))
def aSB(N:Nat):KP:=bN 237 Tryz.f237 aRy C8 (aRx N) (@aRz · N) (by exact⟨⟨⟩,⟨⟩,⟨⟩⟩) λA d=>@SX A N d.1 d.2.1 d.2.2
def aUX:Sg:=ag [fQ] []
def Gc:aF:=(bA,[])
def aD2(N:Nat):List KP:=[aSB N,aCi N]
def aU0[aA](_:Nat)(a:Int->O)(b:Bool->O)(c:bG->O)(d:bG)(_e:Bool)(f g:Int):O:=
 br (decide (g<f))
  (gc (decide (0<g)) (((0:Int),[])) d g λe=>
  gc (decide (0<g)) (((0:Int),[])) d (aH.wrap (g-1)) λh=>
  br (decide (0<g)&&decide (e.1=h.1))
   (b false)
   (a (aH.wrap (g+1))))
  (c d)
def Gb:Lp:=lq [(0,fQ),(2,bA),(5,aC),(6,aC)] [] [] [xp .ret [2],xp (.exit 0) [0]]
def aD3[aA](N:Nat)(a:Gb.V->O):Gb.F:=λx b c _=>aU0 N (λd=>a (x.1,x.2.1,x.2.2.1,d)) b c x.1 x.2.1 x.2.2.1 x.2.2.2
def LR[aA](N:Nat):=bL Gb (aD3 N)
def aD1[aA](N:Nat)(a:bG)(b:Bool)(c d:Int)(e:Bool->O)(f:bG->O):O:=LR N N (a,b,c,d) e f nn
theorem aUZ(N:Nat):LS (aD2 N) Tryz.f190 [1,0,1,0,0] Gb (LR N N):=eW (@aD3 · N) N
def Tb[aA](N:Nat)(a:bG):O:=
 aD1 N a false ((↑a.length:Int)) 0
  (λb=>
   some (aB Gc b))
  (λc=>
   cb (SW N c 1 8)  λd=>
   some (aB Gc d))
def Ga(N:Nat)(a:bG):Option (Bool):=(Tb N a).bind (aG Gc)
def aUY[aA](N:Nat):Hint:=(.seq .d (.seq (.seq .d (.block (Gb.h (LR N N)))) .d))
def aD5(N:Nat):KP:=bN 190 Tryz.f190 aUX Gc (aD2 N) (@aUY · N) (by exact⟨⟨⟩,⟨⟨⟩,aUZ N⟩,⟨⟩⟩) λA d=>@Tb A N d
def aTA:Sg:=ag [aC] []
def qU:aF:=(aC,[])
def aSz(_:Nat):List KP:=[]
def Sl[aA](_:Nat)(a:Int):O:=
 br (decide (a=0))
  (br (decide (a=0))
   (some (aB qU (0:Int)))
   (br (decide (a=2))
    (br (decide (a=2))
     (some (aB qU (1:Int)))
     (some (aB qU (2:Int))))
    (br (decide (a=8))
     (some (aB qU (1:Int)))
     (some (aB qU (2:Int))))))
  (br (decide (a=1))
   (some (aB qU (0:Int)))
   (br (decide (a=2))
    (br (decide (a=2))
     (some (aB qU (1:Int)))
     (some (aB qU (2:Int))))
    (br (decide (a=8))
     (some (aB qU (1:Int)))
     (some (aB qU (2:Int))))))
def Ky(N:Nat)(a:Int):Option (Int):=(Sl N a).bind (aG qU)
def aDI(N:Nat):KP:=kE 213 Tryz.f213 aTA qU (aSz N) λA d=>@Sl A N d
def aDY:Sg:=ag [.agg [aC,aC,kA],aC] []
def AZ:aF:=(.aS [aC,bA],[])
abbrev mR:=Rc Tryz.prog 191 aDY AZ
def G8(N:mR):(Int×Int×cQ×Int)->Option (Int×Bool):=N.2
def Ta(N:mR):List KP:=N.K::[iW N.1,aDI N.1]
def aUW[aA](_:mR)(a:Int->Int->Bool->Int->Int->cQ->O)(b c d e:Int)(f:cQ):O:=
 br (decide (d=0))
  (a b 999999 (decide (d=0)) d e f)
  (br (decide (d=1))
   (a b 25 (decide (d=0)) d e f)
   (a b c (decide (d=0)) d e f))
def T7:Lp:=lq [(1,aC),(2,.ref 0 0),(6,aC)] [aKG] [] [λ_=>(.normal,⟨[1,2,6,15],[],[]⟩,⟨[(1,aC),(2,.ref 0 0),(6,aC),(15,bA)],[aKG],100⟩)]
def aD0[aA](N:mR):T7.F:=λx a _ _=>aUW N  (λb c d e f g=>a (b,c,d,e,f,g)) x.1 x.2.1 x.2.2.1 x.2.2.2.1 x.2.2.2.2
def T9[aA](N:mR)(_:Nat):=aD0 N
def aDX[aA](N:mR)(a b c d:Int)(e:cQ)(f:Int->Int->Bool->Int->Int->cQ->O):O:=T9 N N.1 (a,b,c,d,e) (λy=>f y.1 y.2.1 y.2.2.1 y.2.2.2.1 y.2.2.2.2.1 y.2.2.2.2.2) nn nn
theorem aUT(N:mR):wQ (cx (Ta N)) Tryz.f191 (mI [1,1,0] (jQ Tryz.f191)) T7 (T9 N N.1):=Dj (kX _) (.c (λ_=>by kernel_rfl) .n) (by kernel_rfl) (hb:=(λ_=>.d)) (jO _) (@aD0 · N) (λ_ _ _=>by kernel_rfl)
def aUV[aA](N:mR)(a:Int->Int->O)(b:Int->Bool->O)(c:Int->O)(d:Int)(e:cQ)(f g h:Int):O:=
 br (decide (h<f))
  (gx e h λi=>
  cb (G8 N (Ex.op i,Ex.num i,Ex.kids i,aH.wrap (d+1)))  λj=>
  br (!j.2)
   (b 0 false)
   (a (aH.wrap (g+j.1)) (aH.wrap (h+1))))
  (c g)
def G9:Lp:=lq [(1,aC),(7,aC),(43,kA),(44,aC),(45,aC)] [] [] [λ_=>(.ret,⟨[4,5],[],[]⟩,⟨[(4,aC),(5,bA)],[],100⟩),xp (.exit 1) [7]]
def aDZ[aA](N:mR)(a:G9.V->O):G9.F:=λx b c _=>aUV N (λd e=>a (x.1,d,x.2.2.1,x.2.2.2.1,e)) (λf g=>b (f,g)) c x.1 x.2.2.1 x.2.2.2.1 x.2.1 x.2.2.2.2
def LP[aA](N:mR):=bL G9 (aDZ N)
def aUN[aA](N:mR)(a b:Int)(c:cQ)(d e:Int)(f:Int->Bool->O)(g:Int->O):O:=LP N N.1 (a,b,c,d,e) (λy=>f y.1 y.2) g nn
theorem aUS(N:mR):LS (Ta N) Tryz.f191 [1,1,1,1,1,0,1,0,0] G9 (LP N N.1):=eW (@aDZ · N) N.1
def LQ[aA](N:mR)(a b:Int)(c:cQ)(d:Int):O:=
 aDX N d 0 a b c
  (λe f _ g h i=>
   cg (!decide (16<e)) (eU N.1 g 0 10) (false) λj=>
   cg (!(decide (16<e)||!j)) (eU N.1 h 0 f) (false) λk=>
   cg (!(decide (16<e)||!j||!k)) (Ky N.1 g) (0) λl=>
   br (decide (16<e)||!j||!k||decide ((↑i.length:Int)≠l))
    (some (aB AZ ((0:Int),false)))
    (aUN N e 1 i ((↑i.length:Int)) 0
     (λm n=>
      some (aB AZ (m,n)))
     (λo=>
      some (aB AZ (o,(decide (o<=256)))))))
def aDW(N:mR)(a b:Int)(c:cQ)(d:Int):Option (Int×Bool):=(LQ N a b c d).bind (aG AZ)
def aUO[aA](N:mR):Hint:=(.seq .d (.seq .d (.seq (T7.h (T9 N N.1)) (.seq .d (.seq .d (.seq (.seq .d (.block (G9.h (LP N N.1)))) .d))))))
def Cp(N:Nat):Nat->mR:=Ay N (by kernel_rfl) (λN (d:Int×Int×cQ×Int)=>LQ N (d.1) (d.2.1) (d.2.2.1) (d.2.2.2)) λN=>yW (kX (Ta N)) (fn:=Tryz.f191) (i:=aDY) (o:=AZ) (h:=(@aUO · N)) (nB _ _ (by exact(fW trivial (fW trivial (fW (aUT N) (fW trivial (fW trivial (fW (fW trivial (aUS N)) trivial)))))))) (ow:=false) (λA (d:Int×Int×cQ×Int)=>@LQ A N (d.1) (d.2.1) (d.2.2.1) (d.2.2.2)) λ_ _=>by kernel_rfl
def LO(N:Nat)(a b:Int)(c:cQ)(d:Int):Option (Int×Bool):=G8 (Cp N N) (a,b,c,d)
def aUU(N:Nat):KP:=kt (f:=191) ((Cp N N).ok)
def aRo:Sg:=ag [dT,aC] []
def C7:aF:=(aC,[])
def aCg(_:Nat):List KP:=[]
def aRt[aA](_:Nat)(a b:Int->O)(c:Unit->O)(d:aJ)(e f g:Int):O:=
 br (decide (g<f))
  (gx d g λh=>
  br (decide (e=h))
   (b g)
   (a (aH.wrap (g+1))))
  (c ())
def GQ:Lp:=lq [(0,dT),(1,aC),(7,aC),(8,aC)] [] [] [λ_=>(.ret,⟨[4],[],[]⟩,⟨[(4,aC)],[],100⟩),xp (.exit 0) []]
def aCh[aA](N:Nat)(a:GQ.V->O):GQ.F:=λx b c _=>aRt N (λd=>a (x.1,x.2.1,x.2.2.1,d)) b c x.1 x.2.1 x.2.2.1 x.2.2.2
def GR[aA](N:Nat):=bL GQ (aCh N)
def aCf[aA](N:Nat)(a:aJ)(b c d:Int)(e:Int->O)(f:Unit->O):O:=GR N N (a,b,c,d) e f nn
theorem aRr(N:Nat):LS (aCg N) Tryz.f239 [1,0,1,0,0] GQ (GR N N):=eW (@aCh · N) N
def SS[aA](N:Nat)(a:aJ)(b:Int):O:=
 aCf N a b ((↑a.length:Int)) 0
  (λc=>
   some (aB C7 c))
  (λ(_:Unit)=>
   some (aB C7 (-1:Int)))
def SR(N:Nat)(a:aJ)(b:Int):Option (Int):=(SS N a b).bind (aG C7)
def aRp[aA](N:Nat):Hint:=(.seq .d (.seq (.seq .d (.block (GQ.h (GR N N)))) .d))
def aRs(N:Nat):KP:=bN 239 Tryz.f239 aRo C7 (aCg N) (@aRp · N) (by exact⟨⟨⟩,⟨⟨⟩,aRr N⟩,⟨⟩⟩) λA d=>@SS A N d.1 d.2
def aUK:Sg:=ag [dT,aC] []
def T5:aF:=(bA,[])
def aUJ(N:Nat):List KP:=[aRs N]
def T6[aA](N:Nat)(a:aJ)(b:Int):O:=
 cb (SR N a b)  λc=>
 some (aB T5 (decide (0<=c)))
def LN(N:Nat)(a:aJ)(b:Int):Option (Bool):=(T6 N a b).bind (aG T5)
def aUM(N:Nat):KP:=kE 192 Tryz.f192 aUK T5 (aUJ N) λA d=>@T6 A N d.1 d.2
def aUC:Sg:=ag [aC] []
def T0:aF:=(bA,[])
def aUB(N:Nat):List KP:=[iW N]
def aDV[aA](N:Nat)(a:Int):O:=
 cb (eU N a 0 999999)  λb=>
 some (aB T0 b)
def TZ(N:Nat)(a:Int):Option (Bool):=(aDV N a).bind (aG T0)
def aDU(N:Nat):KP:=kE 194 Tryz.f194 aUC T0 (aUB N) λA d=>@aDV A N d
def aRk:Sg:=ag [aC,.ref 50 0] [zQ]
def SM:aF:=(bA,[zQ])
def aRj(N:Nat):List KP:=[aDU N]
def SN[aA](N:Nat)(a:Int):O:=
 cb (TZ N a)  λb=>
 some (aB SM !b)
def Kq(N:Nat)(a:Int):Option (Bool):=(SN N a).bind (aG SM)
def aCe(N:Nat):KP:=kE 241 Tryz.f241 aRk SM (aRj N) λA d=>@SN A N d
def aQS:Sg:=ag [dT,.fn 241 [.ref 50 0]] [zQ]
def CX:aF:=(aC,[zQ])
def aCS(N:Nat):List KP:=[aCe N]
def aQW[aA](N:Nat)(a b:Int->O)(c:Unit->O)(d:aJ)(e f:Int):O:=
 br (decide (f<e))
  (gx d f λg=>
  cb (Kq N g)  λh=>
  br h
   (b f)
   (a (aH.wrap (f+1))))
  (c ())
def GI:Lp:=lq [(0,dT),(1,.fn 241 [.ref 50 0]),(7,aC),(8,aC)] [zQ] [] [λ_=>(.ret,⟨[4],[],[]⟩,⟨[(4,aC)],[zQ],100⟩),xp (.exit 0) []]
def aCT[aA](N:Nat)(a:GI.V->O):GI.F:=λx b c _=>aQW N (λd=>a (x.1,x.2.1,d)) b c x.1 x.2.1 x.2.2
def GJ[aA](N:Nat):=bL GI (aCT N)
def aCR[aA](N:Nat)(a:aJ)(b c:Int)(d:Int->O)(e:Unit->O):O:=GJ N N (a,b,c) d e nn
theorem aQU(N:Nat):LS (aCS N) Tryz.f275 [1,0,1,0,0] GI (GJ N N):=eW (@aCT · N) N
def RR[aA](N:Nat)(a:aJ):O:=
 aCR N a ((↑a.length:Int)) 0
  (λb=>
   some (aB CX b))
  (λ(_:Unit)=>
   some (aB CX (-1:Int)))
def RQ(N:Nat)(a:aJ):Option (Int):=(RR N a).bind (aG CX)
def aQT[aA](N:Nat):Hint:=(.seq .d (.seq (.seq .d (.block (GI.h (GJ N N)))) .d))
def aQV(N:Nat):KP:=bN 275 Tryz.f275 aQS CX (aCS N) (@aQT · N) (by exact⟨⟨⟩,⟨⟨⟩,aQU N⟩,⟨⟩⟩) λA d=>@RR A N d
def aRm:Sg:=ag [dT,.fn 241 [.ref 50 0]] [zQ]
def SP:aF:=(bA,[zQ])
def aRl(N:Nat):List KP:=[aQV N]
def SQ[aA](N:Nat)(a:aJ):O:=
 cb (RQ N a)  λb=>
 some (aB SP (decide (0<=b)))
def SO(N:Nat)(a:aJ):Option (Bool):=(SQ N a).bind (aG SP)
def aRn(N:Nat):KP:=kE 240 Tryz.f240 aRm SP (aRl N) λA d=>@SQ A N d
def aUF:Sg:=ag [dT,aC,aC,.fn 194 []] []
def Co:aF:=(bA,[])
def aUE(N:Nat):List KP:=[iW N,aCe N,aRn N]
def T4[aA](N:Nat)(a:aJ)(b c:Int):O:=
 cb (eU N (↑a.length:Int) b c)  λd=>
 br d
  (cb (SO N a)  λe=>
  some (aB Co !e))
  (some (aB Co false))
def LM(N:Nat)(a:aJ)(b c:Int):Option (Bool):=(T4 N a b c).bind (aG Co)
def aUG[aA](_:Nat):Hint:=(.seq .d (.seq (.cF [1006] [] []) .d))
def aUI(N:Nat):KP:=bN 193 Tryz.f193 aUF Co (aUE N) (@aUG · N) (by exact⟨⟨⟩,⟨⟩,⟨⟩⟩) λA d=>@T4 A N d.1 d.2.1 d.2.2
def aR7:Sg:=ag [aZ,.pt gV (Ty.zero _) 0,.pt gV (Ty.zero _) 0] []
def SA:aF:=(bA,[])
def aR6(N:Nat):List KP:=[KU N]
def SB[aA](N:Nat)(a:aD)(b c:Int):O:=
 cb (CF N a b c)  λd=>
 some (aB SA d)
def Kn(N:Nat)(a:aD)(b c:Int):Option (Bool):=(SB N a b c).bind (aG SA)
def aCb(N:Nat):KP:=kE 246 Tryz.f246 aR7 SA (aR6 N) λA d=>@SB A N d.1 d.2.1 d.2.2
def aRa:Sg:=ag [aZ,.ref 50 0] [AD]
def SC:aF:=(bA,[AD])
def aR9(N:Nat):List KP:=[aCb N]
def SD[aA](N:Nat)(a:aD)(b c:Int):O:=
 cb (Kn N a b c)  λd=>
 some (aB SC (!d,b,c))
def Ko(N:Nat)(a:aD)(b c:Int):Option (Bool×Int×Int):=(SD N a b c).bind (aG SC)
def aCc(N:Nat):KP:=kE 245 Tryz.f245 aRa SC (aR9 N) λA d=>@SD A N d.1 d.2.1 d.2.2
def aQI:Sg:=ag [dU,.fn 245 [.ref 50 0]] [AD]
def CV:aF:=(aC,[AD])
def aCM(N:Nat):List KP:=[aCc N]
def aQM[aA](N:Nat)(a b:Int->Int->Int->O)(c:Int->Int->O)(d:aN)(e f g h:Int):O:=
 br (decide (f<e))
  (gx d f λi=>
  cb (Ko N i g h)  λj=>
  br j.1
   (b f j.2.1 j.2.2)
   (a (aH.wrap (f+1)) j.2.1 j.2.2))
  (c g h)
def GD:Lp:=lq [(0,dU),(1,.fn 245 [.ref 50 0]),(7,aC),(8,aC)] [AD] [] [λ_=>(.ret,⟨[4],[],[]⟩,⟨[(4,aC)],[AD],100⟩),xp (.exit 0) []]
def aCN[aA](N:Nat)(a:GD.V->O):GD.F:=λx b c _=>aQM N (λd e f=>a (x.1,x.2.1,d,e,f)) (λg h i=>b (g,h,i)) (λg h=>c (g,h)) x.1 x.2.1 x.2.2.1 x.2.2.2.1 x.2.2.2.2
def GF[aA](N:Nat):=bL GD (aCN N)
def aCL[aA](N:Nat)(a:aN)(b c d e:Int)(f:Int->Int->Int->O)(g:Int->Int->O):O:=GF N N (a,b,c,d,e) (λy=>f y.1 y.2.1 y.2.2) (λy=>g y.1 y.2) nn
theorem aQK(N:Nat):LS (aCM N) Tryz.f277 [1,0,1,0,0] GD (GF N N):=eW (@aCN · N) N
def RN[aA](N:Nat)(a:aN)(b c:Int):O:=
 aCL N a ((↑a.length:Int)) 0 b c
  (λd e f=>
   some (aB CV (d,e,f)))
  (λg h=>
   some (aB CV ((-1:Int),g,h)))
def RM(N:Nat)(a:aN)(b c:Int):Option (Int×Int×Int):=(RN N a b c).bind (aG CV)
def aQJ[aA](N:Nat):Hint:=(.seq .d (.seq (.seq .d (.block (GD.h (GF N N)))) .d))
def aQL(N:Nat):KP:=bN 277 Tryz.f277 aQI CV (aCM N) (@aQJ · N) (by exact⟨⟨⟩,⟨⟨⟩,aQK N⟩,⟨⟩⟩) λA d=>@RN A N d.1 d.2.1 d.2.2
def aRc:Sg:=ag [dU,.fn 245 [.ref 50 0]] [AD]
def SF:aF:=(bA,[AD])
def aRb(N:Nat):List KP:=[aQL N]
def SG[aA](N:Nat)(a:aN)(b c:Int):O:=
 cb (RM N a b c)  λd=>
 some (aB SF ((decide (0<=d.1)),d.2.1,d.2.2))
def SE(N:Nat)(a:aN)(b c:Int):Option (Bool×Int×Int):=(SG N a b c).bind (aG SF)
def aRd(N:Nat):KP:=kE 244 Tryz.f244 aRc SF (aRb N) λA d=>@SG A N d.1 d.2.1 d.2.2
def aTq:Sg:=ag [dU,aC,aC,.fn 246 [.pt gV (Ty.zero _) 0,.pt gV (Ty.zero _) 0]] []
def Cm:aF:=(bA,[])
def aTp(N:Nat):List KP:=[iW N,aCc N,aRd N]
def TV[aA](N:Nat)(a:aN)(b c d e:Int):O:=
 cb (eU N (↑a.length:Int) b c)  λf=>
 br f
  (cb (SE N a d e)  λg=>
  some (aB Cm !g.1))
  (some (aB Cm false))
def xB(N:Nat)(a:aN)(b c d e:Int):Option (Bool):=(TV N a b c d e).bind (aG Cm)
def aTr[aA](_:Nat):Hint:=(.seq .d (.seq (.cF [1006] [] []) .d))
def TU(N:Nat):KP:=bN 197 Tryz.f197 aTq Cm (aTp N) (@aTr · N) (by exact⟨⟨⟩,⟨⟩,⟨⟩⟩) λA d=>@TV A N d.1 d.2.1 d.2.2.1 d.2.2.2.1 d.2.2.2.2
def aTn:Sg:=ag [aC,aC] []
def TQ:aF:=(.fn 246 [.pt gV (Ty.zero _) 0,.pt gV (Ty.zero _) 0],[])
def aTm(N:Nat):List KP:=[aCb N]
def aDS[aA](_:Nat)(a b:Int):O:=
 some (aB TQ (a,b))
def Ck(N:Nat)(a b:Int):Option (Int×Int):=(aDS N a b).bind (aG TQ)
def aTo[aA](_:Nat):Hint:=(.seq .d (.seq (.cF [] [.fz 2 gV,.fz 3 gV] []) .d))
def TT(N:Nat):KP:=bN 198 Tryz.f198 aTn TQ (aTm N) (@aTo · N) (by exact⟨⟨⟩,⟨⟩,⟨⟩⟩) λA d=>@aDS A N d.1 d.2
def aTu:Sg:=ag [dU,.pt tN (Ty.zero _) 0] []
def TW:aF:=(bA,[])
def aTt(N:Nat):List KP:=[TT N,TU N]
def TX[aA](N:Nat)(a:aN)(b:(Int×(bG×(Ex×((Int×aJ)×(cH×((Int×(Int×cK))×(bI×aN)))))))):O:=
 gx b.2.2.2.2.1 0 λc=>
 cg (decide ((↑a.length:Int)=(↑c.length:Int))) (Ck N 0 20) (0,0) λd=>
 cg (decide ((↑a.length:Int)=(↑c.length:Int))) (xB N a 1 12 d.1 d.2) (false) λe=>
 some (aB TW (decide ((↑a.length:Int)=(↑c.length:Int))&&e))
def LK(N:Nat)(a:aN)(b:(Int×(bG×(Ex×((Int×aJ)×(cH×((Int×(Int×cK))×(bI×aN)))))))):Option (Bool):=(TX N a b).bind (aG TW)
def aDT(N:Nat):KP:=kE 196 Tryz.f196 aTu TW (aTt N) λA d=>@TX A N d.1 d.2
def aRf:Sg:=ag [dU,.ref 50 0] [AA]
def SH:aF:=(bA,[AA])
def aRe(N:Nat):List KP:=[aDT N]
def SI[aA](N:Nat)(a:aN)(b:(Int×(bG×(Ex×((Int×aJ)×(cH×((Int×(Int×cK))×(bI×aN)))))))):O:=
 cb (LK N a b)  λc=>
 some (aB SH (!c,b))
def Kp(N:Nat)(a:aN)(b:(Int×(bG×(Ex×((Int×aJ)×(cH×((Int×(Int×cK))×(bI×aN)))))))):Option (Bool×(Int×(bG×(Ex×((Int×aJ)×(cH×((Int×(Int×cK))×(bI×aN)))))))):=(SI N a b).bind (aG SH)
def aCd(N:Nat):KP:=kE 243 Tryz.f243 aRf SH (aRe N) λA d=>@SI A N d.1 d.2
def aQN:Sg:=ag [j9,.fn 243 [.ref 50 0]] [AA]
def CW:aF:=(aC,[AA])
def aCP(N:Nat):List KP:=[aCd N]
def aQR[aA](N:Nat)(a b:Int->(Int×(bG×(Ex×((Int×aJ)×(cH×((Int×(Int×cK))×(bI×aN)))))))->O)(c:(Int×(bG×(Ex×((Int×aJ)×(cH×((Int×(Int×cK))×(bI×aN)))))))->O)(d:cH)(e f:Int)(g:(Int×(bG×(Ex×((Int×aJ)×(cH×((Int×(Int×cK))×(bI×aN)))))))):O:=
 br (decide (f<e))
  (gx d f λh=>
  cb (Kp N h g)  λi=>
  br i.1
   (b f i.2)
   (a (aH.wrap (f+1)) i.2))
  (c g)
def GG:Lp:=lq [(0,j9),(1,.fn 243 [.ref 50 0]),(7,aC),(8,aC)] [AA] [] [λ_=>(.ret,⟨[4],[],[]⟩,⟨[(4,aC)],[AA],100⟩),xp (.exit 0) []]
def aCQ[aA](N:Nat)(a:GG.V->O):GG.F:=λx b c _=>aQR N (λd e=>a (x.1,x.2.1,d,e)) (λf g=>b (f,g)) c x.1 x.2.1 x.2.2.1 x.2.2.2
def GH[aA](N:Nat):=bL GG (aCQ N)
def aCO[aA](N:Nat)(a:cH)(b c:Int)(d:(Int×(bG×(Ex×((Int×aJ)×(cH×((Int×(Int×cK))×(bI×aN))))))))(e:Int->(Int×(bG×(Ex×((Int×aJ)×(cH×((Int×(Int×cK))×(bI×aN)))))))->O)(f:(Int×(bG×(Ex×((Int×aJ)×(cH×((Int×(Int×cK))×(bI×aN)))))))->O):O:=GH N N (a,b,c,d) (λy=>e y.1 y.2) f nn
theorem aQP(N:Nat):LS (aCP N) Tryz.f276 [1,0,1,0,0] GG (GH N N):=eW (@aCQ · N) N
def RP[aA](N:Nat)(a:cH)(b:(Int×(bG×(Ex×((Int×aJ)×(cH×((Int×(Int×cK))×(bI×aN)))))))):O:=
 aCO N a ((↑a.length:Int)) 0 b
  (λc d=>
   some (aB CW (c,d)))
  (λe=>
   some (aB CW ((-1:Int),e)))
def RO(N:Nat)(a:cH)(b:(Int×(bG×(Ex×((Int×aJ)×(cH×((Int×(Int×cK))×(bI×aN)))))))):Option (Int×(Int×(bG×(Ex×((Int×aJ)×(cH×((Int×(Int×cK))×(bI×aN)))))))):=(RP N a b).bind (aG CW)
def aQO[aA](N:Nat):Hint:=(.seq .d (.seq (.seq .d (.block (GG.h (GH N N)))) .d))
def aQQ(N:Nat):KP:=bN 276 Tryz.f276 aQN CW (aCP N) (@aQO · N) (by exact⟨⟨⟩,⟨⟨⟩,aQP N⟩,⟨⟩⟩) λA d=>@RP A N d.1 d.2
def aRh:Sg:=ag [j9,.fn 243 [.ref 50 0]] [AA]
def SK:aF:=(bA,[AA])
def aRg(N:Nat):List KP:=[aQQ N]
def SL[aA](N:Nat)(a:cH)(b:(Int×(bG×(Ex×((Int×aJ)×(cH×((Int×(Int×cK))×(bI×aN)))))))):O:=
 cb (RO N a b)  λc=>
 some (aB SK ((decide (0<=c.1)),c.2))
def SJ(N:Nat)(a:cH)(b:(Int×(bG×(Ex×((Int×aJ)×(cH×((Int×(Int×cK))×(bI×aN)))))))):Option (Bool×(Int×(bG×(Ex×((Int×aJ)×(cH×((Int×(Int×cK))×(bI×aN)))))))):=(SL N a b).bind (aG SK)
def aRi(N:Nat):KP:=kE 242 Tryz.f242 aRh SK (aRg N) λA d=>@SL A N d.1 d.2
def aTx:Sg:=ag [j9,aC,aC,.fn 196 [.pt tN (Ty.zero _) 0]] []
def Cn:aF:=(bA,[])
def aTw(N:Nat):List KP:=[iW N,aCd N,aRi N]
def TY[aA](N:Nat)(a:cH)(b c:Int)(d:(Int×(bG×(Ex×((Int×aJ)×(cH×((Int×(Int×cK))×(bI×aN)))))))):O:=
 cb (eU N (↑a.length:Int) b c)  λe=>
 br e
  (cb (SJ N a d)  λf=>
  some (aB Cn !f.1))
  (some (aB Cn false))
def LL(N:Nat)(a:cH)(b c:Int)(d:(Int×(bG×(Ex×((Int×aJ)×(cH×((Int×(Int×cK))×(bI×aN)))))))):Option (Bool):=(TY N a b c d).bind (aG Cn)
def aTy[aA](_:Nat):Hint:=(.seq .d (.seq (.cF [1006] [] []) .d))
def aUA(N:Nat):KP:=bN 195 Tryz.f195 aTx Cn (aTw N) (@aTy · N) (by exact⟨⟨⟩,⟨⟩,⟨⟩⟩) λA d=>@TY A N d.1 d.2.1 d.2.2.1 d.2.2.2
def aRU:Sg:=ag [.agg [aC,aC]] []
def Rp:aF:=(bA,[])
def aRT(N:Nat):List KP:=[iW N]
def Rq[aA](N:Nat)(a b:Int):O:=
 cb (eU N a 0 1000)  λc=>
 cg c (eU N b 0 1000) (false) λd=>
 some (aB Rp (c&&d))
def Kl(N:Nat)(a b:Int):Option (Bool):=(Rq N a b).bind (aG Rp)
def aC9(N:Nat):KP:=kE 250 Tryz.f250 aRU Rp (aRT N) λA d=>@Rq A N d.1 d.2
def aPx:Sg:=ag [.agg [aC,aC],.ref 50 0] [zN]
def RD:aF:=(bA,[zN])
def aPw(N:Nat):List KP:=[aC9 N]
def RE[aA](N:Nat)(a b:Int):O:=
 cb (Kl N a b)  λc=>
 some (aB RD !c)
def Ke(N:Nat)(a b:Int):Option (Bool):=(RE N a b).bind (aG RD)
def aCH(N:Nat):KP:=kE 280 Tryz.f280 aPx RD (aPw N) λA d=>@RE A N d.1 d.2
def aPQ:Sg:=ag [nG,.fn 280 [.ref 50 0]] [zN]
def CS:aF:=(aC,[zN])
def aBw(N:Nat):List KP:=[aCH N]
def aPU[aA](N:Nat)(a b:Int->O)(c:Unit->O)(d:eQ)(e f:Int):O:=
 br (decide (f<e))
  (gx d f λg=>
  cb (Ke N g.1 g.2)  λh=>
  br h
   (b f)
   (a (aH.wrap (f+1))))
  (c ())
def Fv:Lp:=lq [(0,nG),(1,.fn 280 [.ref 50 0]),(7,aC),(8,aC)] [zN] [] [λ_=>(.ret,⟨[4],[],[]⟩,⟨[(4,aC)],[zN],100⟩),xp (.exit 0) []]
def aBx[aA](N:Nat)(a:Fv.V->O):Fv.F:=λx b c _=>aPU N (λd=>a (x.1,x.2.1,d)) b c x.1 x.2.1 x.2.2
def Fx[aA](N:Nat):=bL Fv (aBx N)
def aBv[aA](N:Nat)(a:eQ)(b c:Int)(d:Int->O)(e:Unit->O):O:=Fx N N (a,b,c) d e nn
theorem aPS(N:Nat):LS (aBw N) Tryz.f312 [1,0,1,0,0] Fv (Fx N N):=eW (@aBx · N) N
def Qd[aA](N:Nat)(a:eQ):O:=
 aBv N a ((↑a.length:Int)) 0
  (λb=>
   some (aB CS b))
  (λ(_:Unit)=>
   some (aB CS (-1:Int)))
def Qc(N:Nat)(a:eQ):Option (Int):=(Qd N a).bind (aG CS)
def aPR[aA](N:Nat):Hint:=(.seq .d (.seq (.seq .d (.block (Fv.h (Fx N N)))) .d))
def aPT(N:Nat):KP:=bN 312 Tryz.f312 aPQ CS (aBw N) (@aPR · N) (by exact⟨⟨⟩,⟨⟨⟩,aPS N⟩,⟨⟩⟩) λA d=>@Qd A N d
def aQB:Sg:=ag [nG,.fn 280 [.ref 50 0]] [zN]
def RH:aF:=(bA,[zN])
def aQA(N:Nat):List KP:=[aPT N]
def RI[aA](N:Nat)(a:eQ):O:=
 cb (Qc N a)  λb=>
 some (aB RH (decide (0<=b)))
def RG(N:Nat)(a:eQ):Option (Bool):=(RI N a).bind (aG RH)
def aQC(N:Nat):KP:=kE 279 Tryz.f279 aQB RH (aQA N) λA d=>@RI A N d
def aRX:Sg:=ag [nG,aC,aC,.fn 250 []] []
def C6:aF:=(bA,[])
def aRW(N:Nat):List KP:=[iW N,aCH N,aQC N]
def Rt[aA](N:Nat)(a:eQ)(b c:Int):O:=
 cb (eU N (↑a.length:Int) b c)  λd=>
 br d
  (cb (RG N a)  λe=>
  some (aB C6 !e))
  (some (aB C6 false))
def Rr(N:Nat)(a:eQ)(b c:Int):Option (Bool):=(Rt N a b c).bind (aG C6)
def aRY[aA](_:Nat):Hint:=(.seq .d (.seq (.cF [1006] [] []) .d))
def aR0(N:Nat):KP:=bN 249 Tryz.f249 aRX C6 (aRW N) (@aRY · N) (by exact⟨⟨⟩,⟨⟩,⟨⟩⟩) λA d=>@Rt A N d.1 d.2.1 d.2.2
def aTc:Sg:=ag [.agg [aC,nG]] []
def TL:aF:=(bA,[])
def aTb(N:Nat):List KP:=[iW N,aR0 N,aC9 N]
def TM[aA](N:Nat)(a:Int)(b:eQ):O:=
 cb (eU N a 0 2)  λc=>
 cg c (Rr N b 1 12) (false) λd=>
 some (aB TL (c&&d))
def LF(N:Nat)(a:Int)(b:eQ):Option (Bool):=(TM N a b).bind (aG TL)
def aDQ(N:Nat):KP:=kE 200 Tryz.f200 aTc TL (aTb N) λA d=>@TM A N d.1 d.2
def aR2:Sg:=ag [.agg [aC,nG],.ref 50 0] [zP]
def Ru:aF:=(bA,[zP])
def aR1(N:Nat):List KP:=[aDQ N]
def Rv[aA](N:Nat)(a:Int)(b:eQ):O:=
 cb (LF N a b)  λc=>
 some (aB Ru !c)
def Km(N:Nat)(a:Int)(b:eQ):Option (Bool):=(Rv N a b).bind (aG Ru)
def aCa(N:Nat):KP:=kE 248 Tryz.f248 aR2 Ru (aR1 N) λA d=>@Rv A N d.1 d.2
def aQD:Sg:=ag [j8,.fn 248 [.ref 50 0]] [zP]
def CU:aF:=(aC,[zP])
def aCJ(N:Nat):List KP:=[aCa N]
def aQH[aA](N:Nat)(a b:Int->O)(c:Unit->O)(d:cK)(e f:Int):O:=
 br (decide (f<e))
  (gx d f λg=>
  cb (Km N g.1 g.2)  λh=>
  br h
   (b f)
   (a (aH.wrap (f+1))))
  (c ())
def GB:Lp:=lq [(0,j8),(1,.fn 248 [.ref 50 0]),(7,aC),(8,aC)] [zP] [] [λ_=>(.ret,⟨[4],[],[]⟩,⟨[(4,aC)],[zP],100⟩),xp (.exit 0) []]
def aCK[aA](N:Nat)(a:GB.V->O):GB.F:=λx b c _=>aQH N (λd=>a (x.1,x.2.1,d)) b c x.1 x.2.1 x.2.2
def GC[aA](N:Nat):=bL GB (aCK N)
def aCI[aA](N:Nat)(a:cK)(b c:Int)(d:Int->O)(e:Unit->O):O:=GC N N (a,b,c) d e nn
theorem aQF(N:Nat):LS (aCJ N) Tryz.f278 [1,0,1,0,0] GB (GC N N):=eW (@aCK · N) N
def RL[aA](N:Nat)(a:cK):O:=
 aCI N a ((↑a.length:Int)) 0
  (λb=>
   some (aB CU b))
  (λ(_:Unit)=>
   some (aB CU (-1:Int)))
def RJ(N:Nat)(a:cK):Option (Int):=(RL N a).bind (aG CU)
def aQE[aA](N:Nat):Hint:=(.seq .d (.seq (.seq .d (.block (GB.h (GC N N)))) .d))
def aQG(N:Nat):KP:=bN 278 Tryz.f278 aQD CU (aCJ N) (@aQE · N) (by exact⟨⟨⟩,⟨⟨⟩,aQF N⟩,⟨⟩⟩) λA d=>@RL A N d
def aR4:Sg:=ag [j8,.fn 248 [.ref 50 0]] [zP]
def Ry:aF:=(bA,[zP])
def aR3(N:Nat):List KP:=[aQG N]
def Rz[aA](N:Nat)(a:cK):O:=
 cb (RJ N a)  λb=>
 some (aB Ry (decide (0<=b)))
def Rw(N:Nat)(a:cK):Option (Bool):=(Rz N a).bind (aG Ry)
def aR5(N:Nat):KP:=kE 247 Tryz.f247 aR4 Ry (aR3 N) λA d=>@Rz A N d
def aTi:Sg:=ag [j8,aC,aC,.fn 200 []] []
def Cj:aF:=(bA,[])
def aTh(N:Nat):List KP:=[iW N,aCa N,aR5 N]
def TP[aA](N:Nat)(a:cK)(b c:Int):O:=
 cb (eU N (↑a.length:Int) b c)  λd=>
 br d
  (cb (Rw N a)  λe=>
  some (aB Cj !e))
  (some (aB Cj false))
def LH(N:Nat)(a:cK)(b c:Int):Option (Bool):=(TP N a b c).bind (aG Cj)
def aTj[aA](_:Nat):Hint:=(.seq .d (.seq (.cF [1006] [] []) .d))
def aTl(N:Nat):KP:=bN 199 Tryz.f199 aTi Cj (aTh N) (@aTj · N) (by exact⟨⟨⟩,⟨⟩,⟨⟩⟩) λA d=>@TP A N d.1 d.2.1 d.2.2
def aQw:Sg:=ag [.agg [aC,aC,aC]] []
def Rb:aF:=(bA,[])
def aQv(N:Nat):List KP:=[iW N]
def Re[aA](N:Nat)(a b c:Int):O:=
 cb (eU N a (-1:Int) 48)  λd=>
 cg d (eU N b 0 4) (false) λe=>
 cg (d&&e) (eU N c (-1:Int) 1) (false) λf=>
 some (aB Rb (d&&e&&f))
def Ki(N:Nat)(a b c:Int):Option (Bool):=(Re N a b c).bind (aG Rb)
def aC6(N:Nat):KP:=kE 256 Tryz.f256 aQw Rb (aQv N) λA d=>@Re A N d.1 d.2.1 d.2.2
def aPi:Sg:=ag [.agg [aC,aC,aC],.ref 50 0] [zL]
def Qo:aF:=(bA,[zL])
def aPh(N:Nat):List KP:=[aC6 N]
def Qp[aA](N:Nat)(a b c:Int):O:=
 cb (Ki N a b c)  λd=>
 some (aB Qo !d)
def Kb(N:Nat)(a b c:Int):Option (Bool):=(Qp N a b c).bind (aG Qo)
def aCE(N:Nat):KP:=kE 286 Tryz.f286 aPi Qo (aPh N) λA d=>@Qp A N d.1 d.2.1 d.2.2
end
end Go.Proofs
/- What functions do. -/
namespace Go.Proofs
noncomputable section
open Go.Ax Go.Ax.aA Go.RowKit Go.Ab
open Go
def aPB:Sg:=ag [qH,.fn 286 [.ref 50 0]] [zL]
def CP:aF:=(aC,[zL])
def aBn(N:Nat):List KP:=[aCE N]
def aPF[aA](N:Nat)(a b:Int->O)(c:Unit->O)(d:gL)(e f:Int):O:=
 br (decide (f<e))
  (gx d f λg=>
  cb (Kb N g.1 g.2.1 g.2.2)  λh=>
  br h
   (b f)
   (a (aH.wrap (f+1))))
  (c ())
def Fo:Lp:=lq [(0,qH),(1,.fn 286 [.ref 50 0]),(7,aC),(8,aC)] [zL] [] [λ_=>(.ret,⟨[4],[],[]⟩,⟨[(4,aC)],[zL],100⟩),xp (.exit 0) []]
def aBo[aA](N:Nat)(a:Fo.V->O):Fo.F:=λx b c _=>aPF N (λd=>a (x.1,x.2.1,d)) b c x.1 x.2.1 x.2.2
def Fp[aA](N:Nat):=bL Fo (aBo N)
def aBm[aA](N:Nat)(a:gL)(b c:Int)(d:Int->O)(e:Unit->O):O:=Fp N N (a,b,c) d e nn
theorem aPD(N:Nat):LS (aBn N) Tryz.f315 [1,0,1,0,0] Fo (Fp N N):=eW (@aBo · N) N
def Q7[aA](N:Nat)(a:gL):O:=
 aBm N a ((↑a.length:Int)) 0
  (λb=>
   some (aB CP b))
  (λ(_:Unit)=>
   some (aB CP (-1:Int)))
def Q6(N:Nat)(a:gL):Option (Int):=(Q7 N a).bind (aG CP)
def aPC[aA](N:Nat):Hint:=(.seq .d (.seq (.seq .d (.block (Fo.h (Fp N N)))) .d))
def aPE(N:Nat):KP:=bN 315 Tryz.f315 aPB CP (aBn N) (@aPC · N) (by exact⟨⟨⟩,⟨⟨⟩,aPD N⟩,⟨⟩⟩) λA d=>@Q7 A N d
def aPk:Sg:=ag [qH,.fn 286 [.ref 50 0]] [zL]
def Qr:aF:=(bA,[zL])
def aPj(N:Nat):List KP:=[aPE N]
def Qs[aA](N:Nat)(a:gL):O:=
 cb (Q6 N a)  λb=>
 some (aB Qr (decide (0<=b)))
def Qq(N:Nat)(a:gL):Option (Bool):=(Qs N a).bind (aG Qr)
def aPl(N:Nat):KP:=kE 285 Tryz.f285 aPk Qr (aPj N) λA d=>@Qs A N d
def aQz:Sg:=ag [qH,aC,aC,.fn 256 []] []
def C3:aF:=(bA,[])
def aQy(N:Nat):List KP:=[iW N,aCE N,aPl N]
def Rg[aA](N:Nat)(a:gL)(b c:Int):O:=
 cb (eU N (↑a.length:Int) b c)  λd=>
 br d
  (cb (Qq N a)  λe=>
  some (aB C3 !e))
  (some (aB C3 false))
def Rf(N:Nat)(a:gL)(b c:Int):Option (Bool):=(Rg N a b c).bind (aG C3)
def aRA[aA](_:Nat):Hint:=(.seq .d (.seq (.cF [1006] [] []) .d))
def aRC(N:Nat):KP:=bN 255 Tryz.f255 aQz C3 (aQy N) (@aRA · N) (by exact⟨⟨⟩,⟨⟩,⟨⟩⟩) λA d=>@Rg A N d.1 d.2.1 d.2.2
def aRE:Sg:=ag [qH] []
def Rh:aF:=(bA,[])
def aRD(N:Nat):List KP:=[aRC N,aC6 N]
def Ri[aA](N:Nat)(a:gL):O:=
 cb (Rf N a 1 16)  λb=>
 some (aB Rh b)
def Kj(N:Nat)(a:gL):Option (Bool):=(Ri N a).bind (aG Rh)
def aC7(N:Nat):KP:=kE 254 Tryz.f254 aRE Rh (aRD N) λA d=>@Ri A N d
def aPn:Sg:=ag [qH,.ref 50 0] [zM]
def Qt:aF:=(bA,[zM])
def aPm(N:Nat):List KP:=[aC7 N]
def Qu[aA](N:Nat)(a:gL):O:=
 cb (Kj N a)  λb=>
 some (aB Qt !b)
def Kc(N:Nat)(a:gL):Option (Bool):=(Qu N a).bind (aG Qt)
def aCF(N:Nat):KP:=kE 284 Tryz.f284 aPn Qt (aPm N) λA d=>@Qu A N d
def aPG:Sg:=ag [oA,.fn 284 [.ref 50 0]] [zM]
def CQ:aF:=(aC,[zM])
def aBq(N:Nat):List KP:=[aCF N]
def aPK[aA](N:Nat)(a b:Int->O)(c:Unit->O)(d:eM)(e f:Int):O:=
 br (decide (f<e))
  (gx d f λg=>
  cb (Kc N g)  λh=>
  br h
   (b f)
   (a (aH.wrap (f+1))))
  (c ())
def Fq:Lp:=lq [(0,oA),(1,.fn 284 [.ref 50 0]),(7,aC),(8,aC)] [zM] [] [λ_=>(.ret,⟨[4],[],[]⟩,⟨[(4,aC)],[zM],100⟩),xp (.exit 0) []]
def aBr[aA](N:Nat)(a:Fq.V->O):Fq.F:=λx b c _=>aPK N (λd=>a (x.1,x.2.1,d)) b c x.1 x.2.1 x.2.2
def Fs[aA](N:Nat):=bL Fq (aBr N)
def aBp[aA](N:Nat)(a:eM)(b c:Int)(d:Int->O)(e:Unit->O):O:=Fs N N (a,b,c) d e nn
theorem aPI(N:Nat):LS (aBq N) Tryz.f314 [1,0,1,0,0] Fq (Fs N N):=eW (@aBr · N) N
def Q9[aA](N:Nat)(a:eM):O:=
 aBp N a ((↑a.length:Int)) 0
  (λb=>
   some (aB CQ b))
  (λ(_:Unit)=>
   some (aB CQ (-1:Int)))
def Q8(N:Nat)(a:eM):Option (Int):=(Q9 N a).bind (aG CQ)
def aPH[aA](N:Nat):Hint:=(.seq .d (.seq (.seq .d (.block (Fq.h (Fs N N)))) .d))
def aPJ(N:Nat):KP:=bN 314 Tryz.f314 aPG CQ (aBq N) (@aPH · N) (by exact⟨⟨⟩,⟨⟨⟩,aPI N⟩,⟨⟩⟩) λA d=>@Q9 A N d
def aPp:Sg:=ag [oA,.fn 284 [.ref 50 0]] [zM]
def Qw:aF:=(bA,[zM])
def aPo(N:Nat):List KP:=[aPJ N]
def Qx[aA](N:Nat)(a:eM):O:=
 cb (Q8 N a)  λb=>
 some (aB Qw (decide (0<=b)))
def Qv(N:Nat)(a:eM):Option (Bool):=(Qx N a).bind (aG Qw)
def aPq(N:Nat):KP:=kE 283 Tryz.f283 aPp Qw (aPo N) λA d=>@Qx A N d
def aRH:Sg:=ag [oA,aC,aC,.fn 254 []] []
def C4:aF:=(bA,[])
def aRG(N:Nat):List KP:=[iW N,aCF N,aPq N]
def Rk[aA](N:Nat)(a:eM)(b c:Int):O:=
 cb (eU N (↑a.length:Int) b c)  λd=>
 br d
  (cb (Qv N a)  λe=>
  some (aB C4 !e))
  (some (aB C4 false))
def Rj(N:Nat)(a:eM)(b c:Int):Option (Bool):=(Rk N a b c).bind (aG C4)
def aRI[aA](_:Nat):Hint:=(.seq .d (.seq (.cF [1006] [] []) .d))
def aRK(N:Nat):KP:=bN 253 Tryz.f253 aRH C4 (aRG N) (@aRI · N) (by exact⟨⟨⟩,⟨⟩,⟨⟩⟩) λA d=>@Rk A N d.1 d.2.1 d.2.2
def aRM:Sg:=ag [oA,.pt Bs (Ty.zero _) 0] []
def Rl:aF:=(bA,[])
def aRL(N:Nat):List KP:=[aRK N,aC7 N]
def Rm[aA](N:Nat)(a:eM)(b:bI):O:=
 gx b 0 λc=>
 cg (decide ((↑a.length:Int)=(↑c.length:Int))) (Rj N a 1 32) (false) λd=>
 some (aB Rl (decide ((↑a.length:Int)=(↑c.length:Int))&&d))
def Kk(N:Nat)(a:eM)(b:bI):Option (Bool):=(Rm N a b).bind (aG Rl)
def aC8(N:Nat):KP:=kE 252 Tryz.f252 aRM Rl (aRL N) λA d=>@Rm A N d.1 d.2
def aPs:Sg:=ag [oA,.ref 50 0] [AB]
def Qy:aF:=(bA,[AB])
def aPr(N:Nat):List KP:=[aC8 N]
def Qz[aA](N:Nat)(a:eM)(b:bI):O:=
 cb (Kk N a b)  λc=>
 some (aB Qy (!c,b))
def Kd(N:Nat)(a:eM)(b:bI):Option (Bool×bI):=(Qz N a b).bind (aG Qy)
def aCG(N:Nat):KP:=kE 282 Tryz.f282 aPs Qy (aPr N) λA d=>@Qz A N d.1 d.2
def aPL:Sg:=ag [jC,.fn 282 [.ref 50 0]] [AB]
def CR:aF:=(aC,[AB])
def aBt(N:Nat):List KP:=[aCG N]
def aPP[aA](N:Nat)(a b:Int->bI->O)(c:bI->O)(d:bI)(e f:Int)(g:bI):O:=
 br (decide (f<e))
  (gx d f λh=>
  cb (Kd N h g)  λi=>
  br i.1
   (b f i.2)
   (a (aH.wrap (f+1)) i.2))
  (c g)
def Ft:Lp:=lq [(0,jC),(1,.fn 282 [.ref 50 0]),(7,aC),(8,aC)] [AB] [] [λ_=>(.ret,⟨[4],[],[]⟩,⟨[(4,aC)],[AB],100⟩),xp (.exit 0) []]
def aBu[aA](N:Nat)(a:Ft.V->O):Ft.F:=λx b c _=>aPP N (λd e=>a (x.1,x.2.1,d,e)) (λf g=>b (f,g)) c x.1 x.2.1 x.2.2.1 x.2.2.2
def Fu[aA](N:Nat):=bL Ft (aBu N)
def aBs[aA](N:Nat)(a:bI)(b c:Int)(d:bI)(e:Int->bI->O)(f:bI->O):O:=Fu N N (a,b,c,d) (λy=>e y.1 y.2) f nn
theorem aPN(N:Nat):LS (aBt N) Tryz.f313 [1,0,1,0,0] Ft (Fu N N):=eW (@aBu · N) N
def Qb[aA](N:Nat)(a b:bI):O:=
 aBs N a ((↑a.length:Int)) 0 b
  (λc d=>
   some (aB CR (c,d)))
  (λe=>
   some (aB CR ((-1:Int),e)))
def Qa(N:Nat)(a b:bI):Option (Int×bI):=(Qb N a b).bind (aG CR)
def aPM[aA](N:Nat):Hint:=(.seq .d (.seq (.seq .d (.block (Ft.h (Fu N N)))) .d))
def aPO(N:Nat):KP:=bN 313 Tryz.f313 aPL CR (aBt N) (@aPM · N) (by exact⟨⟨⟩,⟨⟨⟩,aPN N⟩,⟨⟩⟩) λA d=>@Qb A N d.1 d.2
def aPu:Sg:=ag [jC,.fn 282 [.ref 50 0]] [AB]
def RB:aF:=(bA,[AB])
def aPt(N:Nat):List KP:=[aPO N]
def RC[aA](N:Nat)(a b:bI):O:=
 cb (Qa N a b)  λc=>
 some (aB RB ((decide (0<=c.1)),c.2))
def RA(N:Nat)(a b:bI):Option (Bool×bI):=(RC N a b).bind (aG RB)
def aPv(N:Nat):KP:=kE 281 Tryz.f281 aPu RB (aPt N) λA d=>@RC A N d.1 d.2
def aRP:Sg:=ag [jC,aC,aC,.fn 252 [.pt Bs (Ty.zero _) 0]] []
def C5:aF:=(bA,[])
def aRO(N:Nat):List KP:=[iW N,aCG N,aPv N]
def Ro[aA](N:Nat)(a:bI)(b c:Int)(d:bI):O:=
 cb (eU N (↑a.length:Int) b c)  λe=>
 br e
  (cb (RA N a d)  λf=>
  some (aB C5 !f.1))
  (some (aB C5 false))
def Rn(N:Nat)(a:bI)(b c:Int)(d:bI):Option (Bool):=(Ro N a b c d).bind (aG C5)
def aRQ[aA](_:Nat):Hint:=(.seq .d (.seq (.cF [1006] [] []) .d))
def aRS(N:Nat):KP:=bN 251 Tryz.f251 aRP C5 (aRO N) (@aRQ · N) (by exact⟨⟨⟩,⟨⟩,⟨⟩⟩) λA d=>@Ro A N d.1 d.2.1 d.2.2.1 d.2.2.2
def aT7:Sg:=ag [.agg [jC]] []
def TJ:aF:=(bA,[])
def aT6(N:Nat):List KP:=[aC8 N,aRS N]
def TK[aA](N:Nat)(a:bI):O:=
 cb (Rn N a 1 2 a)  λb=>
 some (aB TJ b)
def LD(N:Nat)(a:bI):Option (Bool):=(TK N a).bind (aG TJ)
def aT8[aA](_:Nat):Hint:=(.seq .d (.seq (.cF [] [.fz 1 Bs] []) .d))
def aTa(N:Nat):KP:=bN 201 Tryz.f201 aT7 TJ (aT6 N) (@aT8 · N) (by exact⟨⟨⟩,⟨⟩,⟨⟩⟩) λA d=>@TK A N d
def aYL:Sg:=ag [nG,nG] []
def Af:aF:=(bA,[])
def aF1(_:Nat):List KP:=[]
def aYQ[aA](_:Nat)(a:Int->O)(b:Bool->O)(c:Unit->O)(d e:eQ)(f g:Int):O:=
 br (decide (g<f))
  (gx d g λh=>
  gx e g λi=>
  br (!(decide (h.1=i.1)&&decide (h.2=i.2)))
   (b false)
   (a (aH.wrap (g+1))))
  (c ())
def H8:Lp:=lq [(0,nG),(1,nG),(12,aC),(13,aC)] [] [] [λ_=>(.ret,⟨[4],[],[]⟩,⟨[(4,bA)],[],100⟩),xp (.exit 0) []]
def aF2[aA](N:Nat)(a:H8.V->O):H8.F:=λx b c _=>aYQ N (λd=>a (x.1,x.2.1,x.2.2.1,d)) b c x.1 x.2.1 x.2.2.1 x.2.2.2
def H9[aA](N:Nat):=bL H8 (aF2 N)
def aF0[aA](N:Nat)(a b:eQ)(c d:Int)(e:Bool->O)(f:Unit->O):O:=H9 N N (a,b,c,d) e f nn
theorem aYO(N:Nat):LS (aF1 N) Tryz.f119 [1,1,0,1,0,0] H8 (H9 N N):=eW (@aF2 · N) N
def VN[aA](N:Nat)(a b:eQ):O:=
 br (decide ((↑a.length:Int)≠(↑b.length:Int)))
  (some (aB Af false))
  (aF0 N a b ((↑a.length:Int)) 0
   (λc=>
    some (aB Af c))
   (λ(_:Unit)=>
    some (aB Af true)))
def VM(N:Nat)(a b:eQ):Option (Bool):=(VN N a b).bind (aG Af)
def aYM[aA](N:Nat):Hint:=(.seq .d (.seq .d (.seq (.seq .d (.block (H8.h (H9 N N)))) .d)))
def aYP(N:Nat):KP:=bN 119 Tryz.f119 aYL Af (aF1 N) (@aYM · N) (by exact⟨⟨⟩,⟨⟩,⟨⟨⟩,aYO N⟩,⟨⟩⟩) λA d=>@VN A N d.1 d.2
def aYS:Sg:=ag [.agg [aC,nG],.agg [aC,nG]] []
def VO:aF:=(bA,[])
def aYR(N:Nat):List KP:=[aYP N]
def VP[aA](N:Nat)(a:Int)(b:eQ)(c:Int)(d:eQ):O:=
 cg (decide (a=c)) (VM N b d) (false) λe=>
 some (aB VO (decide (a=c)&&e))
def Ha(N:Nat)(a:Int)(b:eQ)(c:Int)(d:eQ):Option (Bool):=(VP N a b c d).bind (aG VO)
def aF3(N:Nat):KP:=kE 118 Tryz.f118 aYS VO (aYR N) λA d=>@VP A N d.1 d.2.1 d.2.2.1 d.2.2.2
def aXx:Sg:=ag [qH,qH] []
def Ad:aF:=(bA,[])
def aFT(_:Nat):List KP:=[]
def aYB[aA](_:Nat)(a:Int->O)(b:Bool->O)(c:Unit->O)(d e:gL)(f g:Int):O:=
 br (decide (g<f))
  (gx d g λh=>
  gx e g λi=>
  br (!(decide (h.1=i.1)&&(decide (h.2.1=i.2.1)&&decide (h.2.2=i.2.2))))
   (b false)
   (a (aH.wrap (g+1))))
  (c ())
def H0:Lp:=lq [(0,qH),(1,qH),(12,aC),(13,aC)] [] [] [λ_=>(.ret,⟨[4],[],[]⟩,⟨[(4,bA)],[],100⟩),xp (.exit 0) []]
def aFU[aA](N:Nat)(a:H0.V->O):H0.F:=λx b c _=>aYB N (λd=>a (x.1,x.2.1,x.2.2.1,d)) b c x.1 x.2.1 x.2.2.1 x.2.2.2
def H4[aA](N:Nat):=bL H0 (aFU N)
def aFS[aA](N:Nat)(a b:gL)(c d:Int)(e:Bool->O)(f:Unit->O):O:=H4 N N (a,b,c,d) e f nn
theorem aYA(N:Nat):LS (aFT N) Tryz.f122 [1,1,0,1,0,0] H0 (H4 N N):=eW (@aFU · N) N
def VH[aA](N:Nat)(a b:gL):O:=
 br (decide ((↑a.length:Int)≠(↑b.length:Int)))
  (some (aB Ad false))
  (aFS N a b ((↑a.length:Int)) 0
   (λc=>
    some (aB Ad c))
   (λ(_:Unit)=>
    some (aB Ad true)))
def HZ(N:Nat)(a b:gL):Option (Bool):=(VH N a b).bind (aG Ad)
def aXy[aA](N:Nat):Hint:=(.seq .d (.seq .d (.seq (.seq .d (.block (H0.h (H4 N N)))) .d)))
def aFV(N:Nat):KP:=bN 122 Tryz.f122 aXx Ad (aFT N) (@aXy · N) (by exact⟨⟨⟩,⟨⟩,⟨⟨⟩,aYA N⟩,⟨⟩⟩) λA d=>@VH A N d.1 d.2
def aYC:Sg:=ag [oA,oA,.fn 122 []] []
def Ae:aF:=(bA,[])
def aFX(N:Nat):List KP:=[aFV N]
def aYH[aA](N:Nat)(a:Int->O)(b:Bool->O)(c:Unit->O)(d e:eM)(f g:Int):O:=
 br (decide (g<f))
  (gx e g λh=>
  gx d g λi=>
  cb (HZ N h i)  λj=>
  br (!j)
   (b false)
   (a (aH.wrap (g+1))))
  (c ())
def H5:Lp:=lq [(1,oA),(2,.fn 122 []),(15,oA),(16,aC),(17,aC)] [] [] [λ_=>(.ret,⟨[6],[],[]⟩,⟨[(6,bA)],[],100⟩),xp (.exit 0) []]
def aFY[aA](N:Nat)(a:H5.V->O):H5.F:=λx b c _=>aYH N (λd=>a (x.1,x.2.1,x.2.2.1,d)) b c x.1 x.2.1 x.2.2.1 x.2.2.2
def H6[aA](N:Nat):=bL H5 (aFY N)
def aFW[aA](N:Nat)(a b:eM)(c d:Int)(e:Bool->O)(f:Unit->O):O:=H6 N N (a,b,c,d) e f nn
theorem aYF(N:Nat):LS (aFX N) Tryz.f121 [1,1,0,1,0,0] H5 (H6 N N):=eW (@aFY · N) N
def VJ[aA](N:Nat)(a b:eM):O:=
 br (decide ((↑a.length:Int)≠(↑b.length:Int)))
  (some (aB Ae false))
  (aFW N b a ((↑a.length:Int)) 0
   (λc=>
    some (aB Ae c))
   (λ(_:Unit)=>
    some (aB Ae true)))
def VI(N:Nat)(a b:eM):Option (Bool):=(VJ N a b).bind (aG Ae)
def aYD[aA](N:Nat):Hint:=(.seq .d (.seq .d (.seq (.seq .d (.block (H5.h (H6 N N)))) .d)))
def aYG(N:Nat):KP:=bN 121 Tryz.f121 aYC Ae (aFX N) (@aYD · N) (by exact⟨⟨⟩,⟨⟩,⟨⟨⟩,aYF N⟩,⟨⟩⟩) λA d=>@VJ A N d.1 d.2
def aYJ:Sg:=ag [oA,oA] []
def VK:aF:=(bA,[])
def aYI(N:Nat):List KP:=[aYG N,aFV N]
def VL[aA](N:Nat)(a b:eM):O:=
 cb (VI N a b)  λc=>
 some (aB VK c)
def H7(N:Nat)(a b:eM):Option (Bool):=(VL N a b).bind (aG VK)
def aFZ(N:Nat):KP:=kE 120 Tryz.f120 aYJ VK (aYI N) λA d=>@VL A N d.1 d.2
def aXt:Sg:=ag [fQ,fQ] []
def Ac:aF:=(bA,[])
def aFO(_:Nat):List KP:=[]
def aXw[aA](_:Nat)(a:Int->O)(b:Bool->O)(c:Unit->O)(d e:bG)(f g:Int):O:=
 br (decide (g<f))
  (gx d g λh=>
  gx e g λi=>
  br (!(decide (h.1=i.1)&&decide (h.2=i.2)))
   (b false)
   (a (aH.wrap (g+1))))
  (c ())
def HX:Lp:=lq [(0,fQ),(1,fQ),(12,aC),(13,aC)] [] [] [λ_=>(.ret,⟨[4],[],[]⟩,⟨[(4,bA)],[],100⟩),xp (.exit 0) []]
def aFP[aA](N:Nat)(a:HX.V->O):HX.F:=λx b c _=>aXw N (λd=>a (x.1,x.2.1,x.2.2.1,d)) b c x.1 x.2.1 x.2.2.1 x.2.2.2
def HY[aA](N:Nat):=bL HX (aFP N)
def aFN[aA](N:Nat)(a b:bG)(c d:Int)(e:Bool->O)(f:Unit->O):O:=HY N N (a,b,c,d) e f nn
theorem aXv(N:Nat):LS (aFO N) Tryz.f123 [1,1,0,1,0,0] HX (HY N N):=eW (@aFP · N) N
def VG[aA](N:Nat)(a b:bG):O:=
 br (decide ((↑a.length:Int)≠(↑b.length:Int)))
  (some (aB Ac false))
  (aFN N a b ((↑a.length:Int)) 0
   (λc=>
    some (aB Ac c))
   (λ(_:Unit)=>
    some (aB Ac true)))
def Lv(N:Nat)(a b:bG):Option (Bool):=(VG N a b).bind (aG Ac)
def aXu[aA](N:Nat):Hint:=(.seq .d (.seq .d (.seq (.seq .d (.block (HX.h (HY N N)))) .d)))
def aFR(N:Nat):KP:=bN 123 Tryz.f123 aXt Ac (aFO N) (@aXu · N) (by exact⟨⟨⟩,⟨⟩,⟨⟨⟩,aXv N⟩,⟨⟩⟩) λA d=>@VG A N d.1 d.2
def aTN:Sg:=ag [kA,kA,.fn 124 []] []
def AY:aF:=(bA,[])
def aDK(N:nN):List KP:=N.K::[]
def aTS[aA](N:nN)(a:Int->O)(b:Bool->O)(c:Unit->O)(d e:cQ)(f g:Int):O:=
 br (decide (g<f))
  (gx e g λh=>
  gx d g λi=>
  cb (HW N (Ex.op h,Ex.num h,Ex.kids h,Ex.op i,Ex.num i,Ex.kids i))  λj=>
  br (!j)
   (b false)
   (a (aH.wrap (g+1))))
  (c ())
def G6:Lp:=lq [(1,kA),(2,.fn 124 []),(15,kA),(16,aC),(17,aC)] [] [] [λ_=>(.ret,⟨[6],[],[]⟩,⟨[(6,bA)],[],100⟩),xp (.exit 0) []]
def aDL[aA](N:nN)(a:G6.V->O):G6.F:=λx b c _=>aTS N (λd=>a (x.1,x.2.1,x.2.2.1,d)) b c x.1 x.2.1 x.2.2.1 x.2.2.2
def G7[aA](N:nN):=bL G6 (aDL N)
def aDJ[aA](N:nN)(a b:cQ)(c d:Int)(e:Bool->O)(f:Unit->O):O:=G7 N N.1 (a,b,c,d) e f nn
theorem aTQ(N:nN):LS (aDK N) Tryz.f207 [1,1,0,1,0,0] G6 (G7 N N.1):=eW (@aDL · N) N.1
def Sw[aA](N:nN)(a b:cQ):O:=
 br (decide ((↑a.length:Int)≠(↑b.length:Int)))
  (some (aB AY false))
  (aDJ N b a ((↑a.length:Int)) 0
   (λc=>
    some (aB AY c))
   (λ(_:Unit)=>
    some (aB AY true)))
def LA(N:nN)(a b:cQ):Option (Bool):=(Sw N a b).bind (aG AY)
def aTO[aA](N:nN):Hint:=(.seq .d (.seq .d (.seq (.seq .d (.block (G6.h (G7 N N.1)))) .d)))
def aTR(N:nN):KP:=bN 207 Tryz.f207 aTN AY (aDK N) (@aTO · N) (by exact⟨⟨⟩,⟨⟩,⟨⟨⟩,aTQ N⟩,⟨⟩⟩) λA d=>@Sw A N d.1 d.2
def aXp(N:nN):List KP:=N.K::[aTR N]
def Lu[aA](N:nN)(a b:Int)(c:cQ)(d e:Int)(f:cQ):O:=
 cg (decide (a=d)&&decide (b=e)) (LA N c f) (false) λg=>
 some (aB Lt (decide (a=d)&&decide (b=e)&&g))
def aFL(N:nN)(a b:Int)(c:cQ)(d e:Int)(f:cQ):Option (Bool):=(Lu N a b c d e f).bind (aG Lt)
def DO(N:Nat):Nat->nN:=Ay N (by kernel_rfl) (λN (d:Int×Int×cQ×Int×Int×cQ)=>Lu N (d.1) (d.2.1) (d.2.2.1) (d.2.2.2.1) (d.2.2.2.2.1) (d.2.2.2.2.2)) λN=>yW (kX (aXp N)) (fn:=Tryz.f124) (i:=aFM) (o:=Lt) (h:=(λ_=>.d)) (jO _) (ow:=false) (λA (d:Int×Int×cQ×Int×Int×cQ)=>@Lu A N (d.1) (d.2.1) (d.2.2.1) (d.2.2.2.1) (d.2.2.2.2.1) (d.2.2.2.2.2)) λ_ _=>by kernel_rfl
def VF(N:Nat)(a b:Int)(c:cQ)(d e:Int)(f:cQ):Option (Bool):=HW (DO N N) (a,b,c,d,e,f)
def aXs(N:Nat):KP:=kt (f:=124) ((DO N N).ok)
def aXl:Sg:=ag [dT,dT] []
def Aa:aF:=(bA,[])
def aFH(_:Nat):List KP:=[]
def aXo[aA](_:Nat)(a:Int->O)(b:Bool->O)(c:Unit->O)(d e:aJ)(f g:Int):O:=
 br (decide (g<f))
  (gx d g λh=>
  gx e g λi=>
  br (decide (h≠i))
   (b false)
   (a (aH.wrap (g+1))))
  (c ())
def HU:Lp:=lq [(0,dT),(1,dT),(12,aC),(13,aC)] [] [] [λ_=>(.ret,⟨[4],[],[]⟩,⟨[(4,bA)],[],100⟩),xp (.exit 0) []]
def aFI[aA](N:Nat)(a:HU.V->O):HU.F:=λx b c _=>aXo N (λd=>a (x.1,x.2.1,x.2.2.1,d)) b c x.1 x.2.1 x.2.2.1 x.2.2.2
def HV[aA](N:Nat):=bL HU (aFI N)
def aFG[aA](N:Nat)(a b:aJ)(c d:Int)(e:Bool->O)(f:Unit->O):O:=HV N N (a,b,c,d) e f nn
theorem aXn(N:Nat):LS (aFH N) Tryz.f125 [1,1,0,1,0,0] HU (HV N N):=eW (@aFI · N) N
def VE[aA](N:Nat)(a b:aJ):O:=
 br (decide ((↑a.length:Int)≠(↑b.length:Int)))
  (some (aB Aa false))
  (aFG N a b ((↑a.length:Int)) 0
   (λc=>
    some (aB Aa c))
   (λ(_:Unit)=>
    some (aB Aa true)))
def Ls(N:Nat)(a b:aJ):Option (Bool):=(VE N a b).bind (aG Aa)
def aXm[aA](N:Nat):Hint:=(.seq .d (.seq .d (.seq (.seq .d (.block (HU.h (HV N N)))) .d)))
def aFK(N:Nat):KP:=bN 125 Tryz.f125 aXl Aa (aFH N) (@aXm · N) (by exact⟨⟨⟩,⟨⟩,⟨⟨⟩,aXn N⟩,⟨⟩⟩) λA d=>@VE A N d.1 d.2
def aXb:Sg:=ag [dU,dU] []
def A8:aF:=(bA,[])
def aFB(_:Nat):List KP:=[]
def aXe[aA](_:Nat)(a:Int->O)(b:Bool->O)(c:Unit->O)(d e:aN)(f g:Int):O:=
 br (decide (g<f))
  (gx d g λh=>
  gx e g λi=>
  br (decide (h≠i))
   (b false)
   (a (aH.wrap (g+1))))
  (c ())
def HP:Lp:=lq [(0,dU),(1,dU),(12,aC),(13,aC)] [] [] [λ_=>(.ret,⟨[4],[],[]⟩,⟨[(4,bA)],[],100⟩),xp (.exit 0) []]
def aFC[aA](N:Nat)(a:HP.V->O):HP.F:=λx b c _=>aXe N (λd=>a (x.1,x.2.1,x.2.2.1,d)) b c x.1 x.2.1 x.2.2.1 x.2.2.2
def HQ[aA](N:Nat):=bL HP (aFC N)
def aFA[aA](N:Nat)(a b:aN)(c d:Int)(e:Bool->O)(f:Unit->O):O:=HQ N N (a,b,c,d) e f nn
theorem aXd(N:Nat):LS (aFB N) Tryz.f127 [1,1,0,1,0,0] HP (HQ N N):=eW (@aFC · N) N
def VB[aA](N:Nat)(a b:aN):O:=
 br (decide ((↑a.length:Int)≠(↑b.length:Int)))
  (some (aB A8 false))
  (aFA N a b ((↑a.length:Int)) 0
   (λc=>
    some (aB A8 c))
   (λ(_:Unit)=>
    some (aB A8 true)))
def xF(N:Nat)(a b:aN):Option (Bool):=(VB N a b).bind (aG A8)
def aXc[aA](N:Nat):Hint:=(.seq .d (.seq .d (.seq (.seq .d (.block (HP.h (HQ N N)))) .d)))
def VA(N:Nat):KP:=bN 127 Tryz.f127 aXb A8 (aFB N) (@aXc · N) (by exact⟨⟨⟩,⟨⟩,⟨⟨⟩,aXd N⟩,⟨⟩⟩) λA d=>@VB A N d.1 d.2
def aXf:Sg:=ag [j9,j9,.fn 127 []] []
def A9:aF:=(bA,[])
def aFE(N:Nat):List KP:=[VA N]
def aXk[aA](N:Nat)(a:Int->O)(b:Bool->O)(c:Unit->O)(d e:cH)(f g:Int):O:=
 br (decide (g<f))
  (gx e g λh=>
  gx d g λi=>
  cb (xF N h i)  λj=>
  br (!j)
   (b false)
   (a (aH.wrap (g+1))))
  (c ())
def HR:Lp:=lq [(1,j9),(2,.fn 127 []),(15,j9),(16,aC),(17,aC)] [] [] [λ_=>(.ret,⟨[6],[],[]⟩,⟨[(6,bA)],[],100⟩),xp (.exit 0) []]
def aFF[aA](N:Nat)(a:HR.V->O):HR.F:=λx b c _=>aXk N (λd=>a (x.1,x.2.1,x.2.2.1,d)) b c x.1 x.2.1 x.2.2.1 x.2.2.2
def HT[aA](N:Nat):=bL HR (aFF N)
def aFD[aA](N:Nat)(a b:cH)(c d:Int)(e:Bool->O)(f:Unit->O):O:=HT N N (a,b,c,d) e f nn
theorem aXi(N:Nat):LS (aFE N) Tryz.f126 [1,1,0,1,0,0] HR (HT N N):=eW (@aFF · N) N
def VD[aA](N:Nat)(a b:cH):O:=
 br (decide ((↑a.length:Int)≠(↑b.length:Int)))
  (some (aB A9 false))
  (aFD N b a ((↑a.length:Int)) 0
   (λc=>
    some (aB A9 c))
   (λ(_:Unit)=>
    some (aB A9 true)))
def VC(N:Nat)(a b:cH):Option (Bool):=(VD N a b).bind (aG A9)
def aXg[aA](N:Nat):Hint:=(.seq .d (.seq .d (.seq (.seq .d (.block (HR.h (HT N N)))) .d)))
def aXj(N:Nat):KP:=bN 126 Tryz.f126 aXf A9 (aFE N) (@aXg · N) (by exact⟨⟨⟩,⟨⟩,⟨⟨⟩,aXi N⟩,⟨⟩⟩) λA d=>@VD A N d.1 d.2
def aX5:Sg:=ag [j8,j8,.fn 118 []] []
def A7:aF:=(bA,[])
def aEy(N:Nat):List KP:=[aF3 N]
def aXa[aA](N:Nat)(a:Int->O)(b:Bool->O)(c:Unit->O)(d e:cK)(f g:Int):O:=
 br (decide (g<f))
  (gx e g λh=>
  gx d g λi=>
  cb (Ha N h.1 h.2 i.1 i.2)  λj=>
  br (!j)
   (b false)
   (a (aH.wrap (g+1))))
  (c ())
def HN:Lp:=lq [(1,j8),(2,.fn 118 []),(15,j8),(16,aC),(17,aC)] [] [] [λ_=>(.ret,⟨[6],[],[]⟩,⟨[(6,bA)],[],100⟩),xp (.exit 0) []]
def aEz[aA](N:Nat)(a:HN.V->O):HN.F:=λx b c _=>aXa N (λd=>a (x.1,x.2.1,x.2.2.1,d)) b c x.1 x.2.1 x.2.2.1 x.2.2.2
def HO[aA](N:Nat):=bL HN (aEz N)
def aEx[aA](N:Nat)(a b:cK)(c d:Int)(e:Bool->O)(f:Unit->O):O:=HO N N (a,b,c,d) e f nn
theorem aX8(N:Nat):LS (aEy N) Tryz.f128 [1,1,0,1,0,0] HN (HO N N):=eW (@aEz · N) N
def Uz[aA](N:Nat)(a b:cK):O:=
 br (decide ((↑a.length:Int)≠(↑b.length:Int)))
  (some (aB A7 false))
  (aEx N b a ((↑a.length:Int)) 0
   (λc=>
    some (aB A7 c))
   (λ(_:Unit)=>
    some (aB A7 true)))
def Uy(N:Nat)(a b:cK):Option (Bool):=(Uz N a b).bind (aG A7)
def aX6[aA](N:Nat):Hint:=(.seq .d (.seq .d (.seq (.seq .d (.block (HN.h (HO N N)))) .d)))
def aX9(N:Nat):KP:=bN 128 Tryz.f128 aX5 A7 (aEy N) (@aX6 · N) (by exact⟨⟨⟩,⟨⟩,⟨⟨⟩,aX8 N⟩,⟨⟩⟩) λA d=>@Uz A N d.1 d.2
def aXZ:Sg:=ag [jC,jC,.fn 120 []] []
def A6:aF:=(bA,[])
def aEv(N:Nat):List KP:=[aFZ N]
def aX4[aA](N:Nat)(a:Int->O)(b:Bool->O)(c:Unit->O)(d e:bI)(f g:Int):O:=
 br (decide (g<f))
  (gx e g λh=>
  gx d g λi=>
  cb (H7 N h i)  λj=>
  br (!j)
   (b false)
   (a (aH.wrap (g+1))))
  (c ())
def HK:Lp:=lq [(1,jC),(2,.fn 120 []),(15,jC),(16,aC),(17,aC)] [] [] [λ_=>(.ret,⟨[6],[],[]⟩,⟨[(6,bA)],[],100⟩),xp (.exit 0) []]
def aEw[aA](N:Nat)(a:HK.V->O):HK.F:=λx b c _=>aX4 N (λd=>a (x.1,x.2.1,x.2.2.1,d)) b c x.1 x.2.1 x.2.2.1 x.2.2.2
def HM[aA](N:Nat):=bL HK (aEw N)
def aEu[aA](N:Nat)(a b:bI)(c d:Int)(e:Bool->O)(f:Unit->O):O:=HM N N (a,b,c,d) e f nn
theorem aX2(N:Nat):LS (aEv N) Tryz.f129 [1,1,0,1,0,0] HK (HM N N):=eW (@aEw · N) N
def Ux[aA](N:Nat)(a b:bI):O:=
 br (decide ((↑a.length:Int)≠(↑b.length:Int)))
  (some (aB A6 false))
  (aEu N b a ((↑a.length:Int)) 0
   (λc=>
    some (aB A6 c))
   (λ(_:Unit)=>
    some (aB A6 true)))
def Uw(N:Nat)(a b:bI):Option (Bool):=(Ux N a b).bind (aG A6)
def aX0[aA](N:Nat):Hint:=(.seq .d (.seq .d (.seq (.seq .d (.block (HK.h (HM N N)))) .d)))
def aX3(N:Nat):KP:=bN 129 Tryz.f129 aXZ A6 (aEv N) (@aX0 · N) (by exact⟨⟨⟩,⟨⟩,⟨⟨⟩,aX2 N⟩,⟨⟩⟩) λA d=>@Ux A N d.1 d.2
def aNW:Sg:=ag [.agg [aC,fQ,aC,aC,kA,aC,dT,j9,aC,aC,j8,jC,dU],.agg [aC,fQ,aC,aC,kA,aC,dT,j9,aC,aC,j8,jC,dU]] []
def Pv:aF:=(bA,[])
def aNV(N:Nat):List KP:=[aF3 N,aFZ N,aFR N,aXs N,aFK N,aXj N,VA N,aX9 N,aX3 N]
def Px[aA](N:Nat)(a:Int)(b:bG)(c d:Int)(e:cQ)(f:Int)(g:aJ)(h:cH)(i j:Int)(k:cK)(l:bI)(m:aN)(n:Int)(o:bG)(p q:Int)(r:cQ)(s:Int)(t:aJ)(u:cH)(v w:Int)(z:cK)(aq:bI)(aw:aN):O:=
 cg (decide (a=n)) (Lv N b o) (false) λaz=>
 cg (decide (a=n)&&az) (VF N c d e p q r) (false) λbq=>
 cg (decide (a=n)&&az&&bq&&decide (f=s)) (Ls N g t) (false) λbw=>
 cg (decide (a=n)&&az&&bq&&decide (f=s)&&bw) (VC N h u) (false) λbz=>
 cg (decide (a=n)&&az&&bq&&decide (f=s)&&bw&&bz&&decide (i=v)&&decide (j=w)) (Uy N k z) (false) λcq=>
 cg (decide (a=n)&&az&&bq&&decide (f=s)&&bw&&bz&&decide (i=v)&&decide (j=w)&&cq) (Uw N l aq) (false) λcw=>
 cg (decide (a=n)&&az&&bq&&decide (f=s)&&bw&&bz&&decide (i=v)&&decide (j=w)&&cq&&cw) (xF N m aw) (false) λcz=>
 some (aB Pv (decide (a=n)&&az&&bq&&decide (f=s)&&bw&&bz&&decide (i=v)&&decide (j=w)&&cq&&cw&&cz))
def AV(N:Nat)(a:Int)(b:bG)(c d:Int)(e:cQ)(f:Int)(g:aJ)(h:cH)(i j:Int)(k:cK)(l:bI)(m:aN)(n:Int)(o:bG)(p q:Int)(r:cQ)(s:Int)(t:aJ)(u:cH)(v w:Int)(z:cK)(aq:bI)(aw:aN):Option (Bool):=(Px N a b c d e f g h i j k l m n o p q r s t u v w z aq aw).bind (aG Pv)
def Pw(N:Nat):KP:=kE 53 Tryz.f53 aNW Pv (aNV N) λA d=>@Px A N d.1 d.2.1 d.2.2.1 d.2.2.2.1 d.2.2.2.2.1 d.2.2.2.2.2.1 d.2.2.2.2.2.2.1 d.2.2.2.2.2.2.2.1 d.2.2.2.2.2.2.2.2.1 d.2.2.2.2.2.2.2.2.2.1 d.2.2.2.2.2.2.2.2.2.2.1 d.2.2.2.2.2.2.2.2.2.2.2.1 d.2.2.2.2.2.2.2.2.2.2.2.2.1 d.2.2.2.2.2.2.2.2.2.2.2.2.2.1 d.2.2.2.2.2.2.2.2.2.2.2.2.2.2.1 d.2.2.2.2.2.2.2.2.2.2.2.2.2.2.2.1 d.2.2.2.2.2.2.2.2.2.2.2.2.2.2.2.2.1 d.2.2.2.2.2.2.2.2.2.2.2.2.2.2.2.2.2.1 d.2.2.2.2.2.2.2.2.2.2.2.2.2.2.2.2.2.2.1 d.2.2.2.2.2.2.2.2.2.2.2.2.2.2.2.2.2.2.2.1 d.2.2.2.2.2.2.2.2.2.2.2.2.2.2.2.2.2.2.2.2.1 d.2.2.2.2.2.2.2.2.2.2.2.2.2.2.2.2.2.2.2.2.2.1 d.2.2.2.2.2.2.2.2.2.2.2.2.2.2.2.2.2.2.2.2.2.2.1 d.2.2.2.2.2.2.2.2.2.2.2.2.2.2.2.2.2.2.2.2.2.2.2.1 d.2.2.2.2.2.2.2.2.2.2.2.2.2.2.2.2.2.2.2.2.2.2.2.2.1 d.2.2.2.2.2.2.2.2.2.2.2.2.2.2.2.2.2.2.2.2.2.2.2.2.2
def aYb:Sg:=ag [.agg [aC,fQ,aC,aC,kA,aC,dT,j9,aC,aC,j8,jC,dU]] []
def fY:aF:=(bA,[])
def aYa(N:Nat):List KP:=[aU3 N,Pw N,aD5 N,aUU N,aUM N,aUI N,aDU N,aDT N,aUA N,iW N,aTl N,aDQ N,aTa N,TT N,TU N]
def VY[aA](N:Nat)(a:Int)(b:bG)(c d:Int)(e:cQ)(f:Int)(g:aJ)(h:cH)(i j:Int)(k:cK)(l:bI)(m:aN):O:=
 cb (tW N a b c d e f g h i j k l m)  λn=>
 cb (AV N a b c d e f g h i j k l m n.1 n.2.1 n.2.2.1 n.2.2.2.1 n.2.2.2.2.1 n.2.2.2.2.2.1 n.2.2.2.2.2.2.1 n.2.2.2.2.2.2.2.1 n.2.2.2.2.2.2.2.2.1 n.2.2.2.2.2.2.2.2.2.1 n.2.2.2.2.2.2.2.2.2.2.1 n.2.2.2.2.2.2.2.2.2.2.2.1 n.2.2.2.2.2.2.2.2.2.2.2.2)  λo=>
 br (!o)
  (some (aB fY false))
  (br (decide (a=0))
   (cb (Ga N b)  λp=>
   some (aB fY p))
   (br (decide (a=1))
    (cb (LO N c d e 1)  λq=>
    some (aB fY q.2))
    (br (decide (a=2))
     (cb (LN N [(3:Int),4,5,6] f)  λr=>
     cg r (LM N g 1 8) (false) λs=>
     some (aB fY (r&&s)))
     (br (decide (a=3))
      (cb (LL N h 1 12 (a,b,Ex.mk c d e,(f,g),h,(i,j,k),l,m))  λt=>
      some (aB fY t))
      (br (decide (a=4))
       (cb (eU N i 1 1000)  λu=>
       cg u (eU N j 1 1000) (false) λv=>
       cg (u&&v) (LH N k 1 8) (false) λw=>
       some (aB fY (u&&v&&w)))
       (br (decide (a=5))
        (cb (LD N l)  λz=>
        some (aB fY z))
        (br (decide (a=6))
         (cb (Ck N 0 80)  λaq=>
         cb (xB N m 1 64 aq.1 aq.2)  λaw=>
         some (aB fY aw))
         (some (aB fY false)))))))))
def Hb(N:Nat)(a:Int)(b:bG)(c d:Int)(e:cQ)(f:Int)(g:aJ)(h:cH)(i j:Int)(k:cK)(l:bI)(m:aN):Option (Bool):=(VY N a b c d e f g h i j k l m).bind (aG fY)
def aYc[aA](_:Nat):Hint:=(.seq .d (.seq .d (.seq (.seq .d (.block (.seq .d (.cond .d (.seq .d (.cond .d (.seq .d (.cond .d (.seq .d (.cond (.seq (.cF [] [.fz 1 tN] []) .d) .d)))))))))) .d)))
def aF6(N:Nat):KP:=bN 113 Tryz.f113 aYb fY (aYa N) (@aYc · N) (by exact⟨⟨⟩,⟨⟩,⟨⟨⟩,⟨⟩,⟨⟩,⟨⟩,⟨⟩,⟨⟩,⟨⟩,⟨⟩,⟨⟨⟩,⟨⟩⟩,⟨⟩⟩,⟨⟩⟩) λA d=>@VY A N d.1 d.2.1 d.2.2.1 d.2.2.2.1 d.2.2.2.2.1 d.2.2.2.2.2.1 d.2.2.2.2.2.2.1 d.2.2.2.2.2.2.2.1 d.2.2.2.2.2.2.2.2.1 d.2.2.2.2.2.2.2.2.2.1 d.2.2.2.2.2.2.2.2.2.2.1 d.2.2.2.2.2.2.2.2.2.2.2.1 d.2.2.2.2.2.2.2.2.2.2.2.2
def aU5:Sg:=ag [.agg [aC,fQ,aC,aC,kA,aC,dT,j9,aC,aC,j8,jC,dU],.ref 50 0] [zU]
def Td:aF:=(bA,[zU])
def aU4(N:Nat):List KP:=[aF6 N]
def Te[aA](N:Nat)(a:Int)(b:bG)(c d:Int)(e:cQ)(f:Int)(g:aJ)(h:cH)(i j:Int)(k:cK)(l:bI)(m:aN):O:=
 cb (Hb N a b c d e f g h i j k l m)  λn=>
 some (aB Td !n)
def LU(N:Nat)(a:Int)(b:bG)(c d:Int)(e:cQ)(f:Int)(g:aJ)(h:cH)(i j:Int)(k:cK)(l:bI)(m:aN):Option (Bool):=(Te N a b c d e f g h i j k l m).bind (aG Td)
def aD6(N:Nat):KP:=kE 188 Tryz.f188 aU5 Td (aU4 N) λA d=>@Te A N d.1 d.2.1 d.2.2.1 d.2.2.2.1 d.2.2.2.2.1 d.2.2.2.2.2.1 d.2.2.2.2.2.2.1 d.2.2.2.2.2.2.2.1 d.2.2.2.2.2.2.2.2.1 d.2.2.2.2.2.2.2.2.2.1 d.2.2.2.2.2.2.2.2.2.2.1 d.2.2.2.2.2.2.2.2.2.2.2.1 d.2.2.2.2.2.2.2.2.2.2.2.2
def aSC:Sg:=ag [.e nL (Ty.zero _),.fn 188 [.ref 50 0]] [zU]
def C9:aF:=(aC,[zU])
def aCk(N:Nat):List KP:=[aD6 N]
def aSG[aA](N:Nat)(a b:Int->O)(c:Unit->O)(d:dP)(e f:Int):O:=
 br (decide (f<e))
  (gx d f λg=>
  cb (LU N g.1 g.2.1 (Ex.op g.2.2.1) (Ex.num g.2.2.1) (Ex.kids g.2.2.1) g.2.2.2.1.1 g.2.2.2.1.2 g.2.2.2.2.1 g.2.2.2.2.2.1.1 g.2.2.2.2.2.1.2.1 g.2.2.2.2.2.1.2.2 g.2.2.2.2.2.2.1 g.2.2.2.2.2.2.2)  λh=>
  br h
   (b f)
   (a (aH.wrap (f+1))))
  (c ())
def GS:Lp:=lq [(0,.e nL (Ty.zero _)),(1,.fn 188 [.ref 50 0]),(7,aC),(8,aC)] [zU] [] [λ_=>(.ret,⟨[4],[],[]⟩,⟨[(4,aC)],[zU],100⟩),xp (.exit 0) []]
def aCl[aA](N:Nat)(a:GS.V->O):GS.F:=λx b c _=>aSG N (λd=>a (x.1,x.2.1,d)) b c x.1 x.2.1 x.2.2
def GU[aA](N:Nat):=bL GS (aCl N)
def aCj[aA](N:Nat)(a:dP)(b c:Int)(d:Int->O)(e:Unit->O):O:=GU N N (a,b,c) d e nn
theorem aSE(N:Nat):LS (aCk N) Tryz.f236 [1,0,1,0,0] GS (GU N N):=eW (@aCl · N) N
def SZ[aA](N:Nat)(a:dP):O:=
 aCj N a ((↑a.length:Int)) 0
  (λb=>
   some (aB C9 b))
  (λ(_:Unit)=>
   some (aB C9 (-1:Int)))
def SY(N:Nat)(a:dP):Option (Int):=(SZ N a).bind (aG C9)
def aSD[aA](N:Nat):Hint:=(.seq .d (.seq (.seq .d (.block (GS.h (GU N N)))) .d))
def aSF(N:Nat):KP:=bN 236 Tryz.f236 aSC C9 (aCk N) (@aSD · N) (by exact⟨⟨⟩,⟨⟨⟩,aSE N⟩,⟨⟩⟩) λA d=>@SZ A N d
def aU7:Sg:=ag [.e nL (Ty.zero _),.fn 188 [.ref 50 0]] [zU]
def Tg:aF:=(bA,[zU])
def aU6(N:Nat):List KP:=[aSF N]
def Th[aA](N:Nat)(a:dP):O:=
 cb (SY N a)  λb=>
 some (aB Tg (decide (0<=b)))
def Tf(N:Nat)(a:dP):Option (Bool):=(Th N a).bind (aG Tg)
def aU8(N:Nat):KP:=kE 187 Tryz.f187 aU7 Tg (aU6 N) λA d=>@Th A N d
def aYg:Sg:=ag [.e nL (Ty.zero _),aC,aC,.fn 113 []] []
def DS:aF:=(bA,[])
def aYf(N:Nat):List KP:=[iW N,aD6 N,aU8 N]
def V0[aA](N:Nat)(a:dP)(b c:Int):O:=
 cb (eU N (↑a.length:Int) b c)  λd=>
 br d
  (cb (Tf N a)  λe=>
  some (aB DS !e))
  (some (aB DS false))
def VZ(N:Nat)(a:dP)(b c:Int):Option (Bool):=(V0 N a b c).bind (aG DS)
def aYh[aA](_:Nat):Hint:=(.seq .d (.seq (.cF [1006] [] []) .d))
def aYj(N:Nat):KP:=bN 112 Tryz.f112 aYg DS (aYf N) (@aYh · N) (by exact⟨⟨⟩,⟨⟩,⟨⟩⟩) λA d=>@V0 A N d.1 d.2.1 d.2.2
def aY3:Sg:=ag [.agg [aC,aC,aC,aC]] []
def VU:aF:=(bA,[])
def aY2(N:Nat):List KP:=[iW N]
def VV[aA](N:Nat)(a b c d:Int):O:=
 cb (eU N a 0 6)  λe=>
 cg e (eU N b 0 7) (false) λf=>
 cg (e&&f) (eU N c 0 99) (false) λg=>
 cg (e&&f&&g) (eU N d 0 99) (false) λh=>
 some (aB VU (e&&f&&g&&h))
def Lx(N:Nat)(a b c d:Int):Option (Bool):=(VV N a b c d).bind (aG VU)
def aF5(N:Nat):KP:=kE 115 Tryz.f115 aY3 VU (aY2 N) λA d=>@VV A N d.1 d.2.1 d.2.2.1 d.2.2.2
def aT2:Sg:=ag [.agg [aC,aC,aC,aC],.ref 50 0] [zS]
def TE:aF:=(bA,[zS])
def aT1(N:Nat):List KP:=[aF5 N]
def TF[aA](N:Nat)(a b c d:Int):O:=
 cb (Lx N a b c d)  λe=>
 some (aB TE !e)
def LC(N:Nat)(a b c d:Int):Option (Bool):=(TF N a b c d).bind (aG TE)
def aDP(N:Nat):KP:=kE 203 Tryz.f203 aT2 TE (aT1 N) λA d=>@TF A N d.1 d.2.1 d.2.2.1 d.2.2.2
def aQq:Sg:=ag [mK,.fn 203 [.ref 50 0]] [zS]
def C2:aF:=(aC,[zS])
def aC4(N:Nat):List KP:=[aDP N]
def aQu[aA](N:Nat)(a b:Int->O)(c:Unit->O)(d:dF)(e f:Int):O:=
 br (decide (f<e))
  (gx d f λg=>
  cb (LC N g.1 g.2.1 g.2.2.1 g.2.2.2)  λh=>
  br h
   (b f)
   (a (aH.wrap (f+1))))
  (c ())
def GN:Lp:=lq [(0,mK),(1,.fn 203 [.ref 50 0]),(7,aC),(8,aC)] [zS] [] [λ_=>(.ret,⟨[4],[],[]⟩,⟨[(4,aC)],[zS],100⟩),xp (.exit 0) []]
def aC5[aA](N:Nat)(a:GN.V->O):GN.F:=λx b c _=>aQu N (λd=>a (x.1,x.2.1,d)) b c x.1 x.2.1 x.2.2
def GO[aA](N:Nat):=bL GN (aC5 N)
def aC3[aA](N:Nat)(a:dF)(b c:Int)(d:Int->O)(e:Unit->O):O:=GO N N (a,b,c) d e nn
theorem aQs(N:Nat):LS (aC4 N) Tryz.f257 [1,0,1,0,0] GN (GO N N):=eW (@aC5 · N) N
def Ra[aA](N:Nat)(a:dF):O:=
 aC3 N a ((↑a.length:Int)) 0
  (λb=>
   some (aB C2 b))
  (λ(_:Unit)=>
   some (aB C2 (-1:Int)))
def R9(N:Nat)(a:dF):Option (Int):=(Ra N a).bind (aG C2)
def aQr[aA](N:Nat):Hint:=(.seq .d (.seq (.seq .d (.block (GN.h (GO N N)))) .d))
def aQt(N:Nat):KP:=bN 257 Tryz.f257 aQq C2 (aC4 N) (@aQr · N) (by exact⟨⟨⟩,⟨⟨⟩,aQs N⟩,⟨⟩⟩) λA d=>@Ra A N d
def aT4:Sg:=ag [mK,.fn 203 [.ref 50 0]] [zS]
def TH:aF:=(bA,[zS])
def aT3(N:Nat):List KP:=[aQt N]
def TI[aA](N:Nat)(a:dF):O:=
 cb (R9 N a)  λb=>
 some (aB TH (decide (0<=b)))
def TG(N:Nat)(a:dF):Option (Bool):=(TI N a).bind (aG TH)
def aT5(N:Nat):KP:=kE 202 Tryz.f202 aT4 TH (aT3 N) λA d=>@TI A N d
def aY6:Sg:=ag [mK,aC,aC,.fn 115 []] []
def DQ:aF:=(bA,[])
def aY5(N:Nat):List KP:=[iW N,aDP N,aT5 N]
def VX[aA](N:Nat)(a:dF)(b c:Int):O:=
 cb (eU N (↑a.length:Int) b c)  λd=>
 br d
  (cb (TG N a)  λe=>
  some (aB DQ !e))
  (some (aB DQ false))
def VW(N:Nat)(a:dF)(b c:Int):Option (Bool):=(VX N a b c).bind (aG DQ)
def aY7[aA](_:Nat):Hint:=(.seq .d (.seq (.cF [1006] [] []) .d))
def aY9(N:Nat):KP:=bN 114 Tryz.f114 aY6 DQ (aY5 N) (@aY7 · N) (by exact⟨⟨⟩,⟨⟩,⟨⟩⟩) λA d=>@VX A N d.1 d.2.1 d.2.2
def aTU:Sg:=ag [aC] []
def Sy:aF:=(bA,[])
def aTT(N:Nat):List KP:=[iW N]
def aDN[aA](N:Nat)(a:Int):O:=
 cb (eU N a 0 7)  λb=>
 some (aB Sy b)
def Sx(N:Nat)(a:Int):Option (Bool):=(aDN N a).bind (aG Sy)
def aDM(N:Nat):KP:=kE 206 Tryz.f206 aTU Sy (aTT N) λA d=>@aDN A N d
def aZr:Sg:=ag [aC,.ref 50 0] [zW]
def Vt:aF:=(bA,[zW])
def aZq(N:Nat):List KP:=[aDM N]
def Vu[aA](N:Nat)(a:Int):O:=
 cb (Sx N a)  λb=>
 some (aB Vt !b)
def MM(N:Nat)(a:Int):Option (Bool):=(Vu N a).bind (aG Vt)
def aFz(N:Nat):KP:=kE 241 Tryz.f241 aZr Vt (aZq N) λA d=>@Vu A N d
def aZl:Sg:=ag [dT,.fn 241 [.ref 50 0]] [zW]
def DX:aF:=(aC,[zW])
def aFx(N:Nat):List KP:=[aFz N]
def aZp[aA](N:Nat)(a b:Int->O)(c:Unit->O)(d:aJ)(e f:Int):O:=
 br (decide (f<e))
  (gx d f λg=>
  cb (MM N g)  λh=>
  br h
   (b f)
   (a (aH.wrap (f+1))))
  (c ())
def Hr:Lp:=lq [(0,dT),(1,.fn 241 [.ref 50 0]),(7,aC),(8,aC)] [zW] [] [λ_=>(.ret,⟨[4],[],[]⟩,⟨[(4,aC)],[zW],100⟩),xp (.exit 0) []]
def aFy[aA](N:Nat)(a:Hr.V->O):Hr.F:=λx b c _=>aZp N (λd=>a (x.1,x.2.1,d)) b c x.1 x.2.1 x.2.2
def Hs[aA](N:Nat):=bL Hr (aFy N)
def aFw[aA](N:Nat)(a:aJ)(b c:Int)(d:Int->O)(e:Unit->O):O:=Hs N N (a,b,c) d e nn
theorem aZn(N:Nat):LS (aFx N) Tryz.f275 [1,0,1,0,0] Hr (Hs N N):=eW (@aFy · N) N
def Vr[aA](N:Nat)(a:aJ):O:=
 aFw N a ((↑a.length:Int)) 0
  (λb=>
   some (aB DX b))
  (λ(_:Unit)=>
   some (aB DX (-1:Int)))
def Vq(N:Nat)(a:aJ):Option (Int):=(Vr N a).bind (aG DX)
def aZm[aA](N:Nat):Hint:=(.seq .d (.seq (.seq .d (.block (Hr.h (Hs N N)))) .d))
def aZo(N:Nat):KP:=bN 275 Tryz.f275 aZl DX (aFx N) (@aZm · N) (by exact⟨⟨⟩,⟨⟨⟩,aZn N⟩,⟨⟩⟩) λA d=>@Vr A N d
def aZt:Sg:=ag [dT,.fn 241 [.ref 50 0]] [zW]
def Vx:aF:=(bA,[zW])
def aZs(N:Nat):List KP:=[aZo N]
def Vy[aA](N:Nat)(a:aJ):O:=
 cb (Vq N a)  λb=>
 some (aB Vx (decide (0<=b)))
def Vv(N:Nat)(a:aJ):Option (Bool):=(Vy N a).bind (aG Vx)
def aZu(N:Nat):KP:=kE 240 Tryz.f240 aZt Vx (aZs N) λA d=>@Vy A N d
def a0B:Sg:=ag [dT,aC,aC,.fn 206 []] []
def DZ:aF:=(bA,[])
def a0A(N:Nat):List KP:=[aFz N,aZu N,iW N]
def WD[aA](N:Nat)(a:aJ)(b c:Int):O:=
 cb (eU N (↑a.length:Int) b c)  λd=>
 br d
  (cb (Vv N a)  λe=>
  some (aB DZ !e))
  (some (aB DZ false))
def WC(N:Nat)(a:aJ)(b c:Int):Option (Bool):=(WD N a b c).bind (aG DZ)
def a0C[aA](_:Nat):Hint:=(.seq .d (.seq (.cF [1006] [] []) .d))
def a0E(N:Nat):KP:=bN 193 Tryz.f193 a0B DZ (a0A N) (@a0C · N) (by exact⟨⟨⟩,⟨⟩,⟨⟩⟩) λA d=>@WD A N d.1 d.2.1 d.2.2
def aYV:Sg:=ag [.agg [aC,fQ,dU,dT,aZ,aC,dU]] []
def VQ:aF:=(bA,[])
def aYU(N:Nat):List KP:=[iW N,aD5 N,TT N,TU N,aDM N,KU N,a0E N]
def VR[aA](N:Nat)(a:Int)(b:bG)(c:aN)(d:aJ)(e:aD)(f:Int)(g:aN):O:=
 cb (eU N a 0 2)  λh=>
 cg h (Ga N b) (false) λi=>
 cg (h&&i&&decide ((↑c.length:Int)=(↑g.length:Int))) (Ck N 1 40) (0,0) λj=>
 cg (h&&i&&decide ((↑c.length:Int)=(↑g.length:Int))) (xB N c 0 6 j.1 j.2) (false) λk=>
 cg (h&&i&&decide ((↑c.length:Int)=(↑g.length:Int))&&k) (Ck N 0 60) (0,0) λl=>
 cg (h&&i&&decide ((↑c.length:Int)=(↑g.length:Int))&&k) (xB N g 0 6 l.1 l.2) (false) λm=>
 cg (h&&i&&decide ((↑c.length:Int)=(↑g.length:Int))&&k&&m) (WC N d 0 8) (false) λn=>
 cg (h&&i&&decide ((↑c.length:Int)=(↑g.length:Int))&&k&&m&&n) (CF N e 0 40) (false) λo=>
 cg (h&&i&&decide ((↑c.length:Int)=(↑g.length:Int))&&k&&m&&n&&o) (eU N f 0 100) (false) λp=>
 some (aB VQ (h&&i&&decide ((↑c.length:Int)=(↑g.length:Int))&&k&&m&&n&&o&&p))
def Lw(N:Nat)(a:Int)(b:bG)(c:aN)(d:aJ)(e:aD)(f:Int)(g:aN):Option (Bool):=(VR N a b c d e f g).bind (aG VQ)
def aF4(N:Nat):KP:=kE 117 Tryz.f117 aYV VQ (aYU N) λA d=>@VR A N d.1 d.2.1 d.2.2.1 d.2.2.2.1 d.2.2.2.2.1 d.2.2.2.2.2.1 d.2.2.2.2.2.2
def aTX:Sg:=ag [.agg [aC,fQ,dU,dT,aZ,aC,dU],.ref 50 0] [zR]
def Sz:aF:=(bA,[zR])
def aTW(N:Nat):List KP:=[aF4 N]
def TA[aA](N:Nat)(a:Int)(b:bG)(c:aN)(d:aJ)(e:aD)(f:Int)(g:aN):O:=
 cb (Lw N a b c d e f g)  λh=>
 some (aB Sz !h)
def LB(N:Nat)(a:Int)(b:bG)(c:aN)(d:aJ)(e:aD)(f:Int)(g:aN):Option (Bool):=(TA N a b c d e f g).bind (aG Sz)
def aDO(N:Nat):KP:=kE 205 Tryz.f205 aTX Sz (aTW N) λA d=>@TA A N d.1 d.2.1 d.2.2.1 d.2.2.2.1 d.2.2.2.2.1 d.2.2.2.2.2.1 d.2.2.2.2.2.2
def aQl:Sg:=ag [n9,.fn 205 [.ref 50 0]] [zR]
def C1:aF:=(aC,[zR])
def aC1(N:Nat):List KP:=[aDO N]
def aQp[aA](N:Nat)(a b:Int->O)(c:Unit->O)(d:eF)(e f:Int):O:=
 br (decide (f<e))
  (gx d f λg=>
  cb (LB N g.1 g.2.1 g.2.2.1 g.2.2.2.1 g.2.2.2.2.1 g.2.2.2.2.2.1 g.2.2.2.2.2.2)  λh=>
  br h
   (b f)
   (a (aH.wrap (f+1))))
  (c ())
def GL:Lp:=lq [(0,n9),(1,.fn 205 [.ref 50 0]),(7,aC),(8,aC)] [zR] [] [λ_=>(.ret,⟨[4],[],[]⟩,⟨[(4,aC)],[zR],100⟩),xp (.exit 0) []]
def aC2[aA](N:Nat)(a:GL.V->O):GL.F:=λx b c _=>aQp N (λd=>a (x.1,x.2.1,d)) b c x.1 x.2.1 x.2.2
def GM[aA](N:Nat):=bL GL (aC2 N)
def aC0[aA](N:Nat)(a:eF)(b c:Int)(d:Int->O)(e:Unit->O):O:=GM N N (a,b,c) d e nn
theorem aQn(N:Nat):LS (aC1 N) Tryz.f258 [1,0,1,0,0] GL (GM N N):=eW (@aC2 · N) N
def R8[aA](N:Nat)(a:eF):O:=
 aC0 N a ((↑a.length:Int)) 0
  (λb=>
   some (aB C1 b))
  (λ(_:Unit)=>
   some (aB C1 (-1:Int)))
def R7(N:Nat)(a:eF):Option (Int):=(R8 N a).bind (aG C1)
def aQm[aA](N:Nat):Hint:=(.seq .d (.seq (.seq .d (.block (GL.h (GM N N)))) .d))
def aQo(N:Nat):KP:=bN 258 Tryz.f258 aQl C1 (aC1 N) (@aQm · N) (by exact⟨⟨⟩,⟨⟨⟩,aQn N⟩,⟨⟩⟩) λA d=>@R8 A N d
def aTZ:Sg:=ag [n9,.fn 205 [.ref 50 0]] [zR]
def TC:aF:=(bA,[zR])
def aTY(N:Nat):List KP:=[aQo N]
def TD[aA](N:Nat)(a:eF):O:=
 cb (R7 N a)  λb=>
 some (aB TC (decide (0<=b)))
def TB(N:Nat)(a:eF):Option (Bool):=(TD N a).bind (aG TC)
def aT0(N:Nat):KP:=kE 204 Tryz.f204 aTZ TC (aTY N) λA d=>@TD A N d
def aYY:Sg:=ag [n9,aC,aC,.fn 117 []] []
def DP:aF:=(bA,[])
def aYX(N:Nat):List KP:=[iW N,aDO N,aT0 N]
def VT[aA](N:Nat)(a:eF)(b c:Int):O:=
 cb (eU N (↑a.length:Int) b c)  λd=>
 br d
  (cb (TB N a)  λe=>
  some (aB DP !e))
  (some (aB DP false))
def VS(N:Nat)(a:eF)(b c:Int):Option (Bool):=(VT N a b c).bind (aG DP)
def aYZ[aA](_:Nat):Hint:=(.seq .d (.seq (.cF [1006] [] []) .d))
def aY1(N:Nat):KP:=bN 116 Tryz.f116 aYY DP (aYX N) (@aYZ · N) (by exact⟨⟨⟩,⟨⟩,⟨⟩⟩) λA d=>@VT A N d.1 d.2.1 d.2.2
def aNe:Sg:=ag [.agg [aZ,.e nL (Ty.zero _),mK,n9]] []
def QE:aF:=(bA,[])
def aNd(N:Nat):List KP:=[aF8 N,aYj N,aF6 N,aY9 N,aF5 N,aY1 N,aF4 N]
def QF[aA](N:Nat)(a:aD)(b:dP)(c:dF)(d:eF):O:=
 cb (Ly N a)  λe=>
 cg e (VZ N b 0 8) (false) λf=>
 cg (e&&f) (VW N c 0 8) (false) λg=>
 cg (e&&f&&g) (VS N d 0 4) (false) λh=>
 some (aB QE (e&&f&&g&&h))
def KS(N:Nat)(a:aD)(b:dP)(c:dF)(d:eF):Option (Bool):=(QF N a b c d).bind (aG QE)
def aBO(N:Nat):KP:=kE 49 Tryz.f49 aNe QE (aNd N) λA d=>@QF A N d.1 d.2.1 d.2.2.1 d.2.2.2
def aYo:Sg:=ag [.agg [aZ,.e nL (Ty.zero _),mK,n9],.ref 50 0] [zY]
def V2:aF:=(bA,[zY])
def aYn(N:Nat):List KP:=[aBO N]
def V3[aA](N:Nat)(a:aD)(b:dP)(c:dF)(d:eF):O:=
 cb (KS N a b c d)  λe=>
 some (aB V2 !e)
def MA(N:Nat)(a:aD)(b:dP)(c:dF)(d:eF):Option (Bool):=(V3 N a b c d).bind (aG V2)
def aF9(N:Nat):KP:=kE 110 Tryz.f110 aYo V2 (aYn N) λA d=>@V3 A N d.1 d.2.1 d.2.2.1 d.2.2.2
def aUf:Sg:=ag [.e k8 (Ty.zero _),.fn 110 [.ref 50 0]] [zY]
def Cq:aF:=(aC,[zY])
def aDc(N:Nat):List KP:=[aF9 N]
def aUj[aA](N:Nat)(a b:Int->O)(c:Unit->O)(d:cY)(e f:Int):O:=
 br (decide (f<e))
  (gx d f λg=>
  cb (MA N g.1 g.2.1 g.2.2.1 g.2.2.2)  λh=>
  br h
   (b f)
   (a (aH.wrap (f+1))))
  (c ())
def Ge:Lp:=lq [(0,.e k8 (Ty.zero _)),(1,.fn 110 [.ref 50 0]),(7,aC),(8,aC)] [zY] [] [λ_=>(.ret,⟨[4],[],[]⟩,⟨[(4,aC)],[zY],100⟩),xp (.exit 0) []]
def aDd[aA](N:Nat)(a:Ge.V->O):Ge.F:=λx b c _=>aUj N (λd=>a (x.1,x.2.1,d)) b c x.1 x.2.1 x.2.2
def Gf[aA](N:Nat):=bL Ge (aDd N)
def aDb[aA](N:Nat)(a:cY)(b c:Int)(d:Int->O)(e:Unit->O):O:=Gf N N (a,b,c) d e nn
theorem aUh(N:Nat):LS (aDc N) Tryz.f184 [1,0,1,0,0] Ge (Gf N N):=eW (@aDd · N) N
def To[aA](N:Nat)(a:cY):O:=
 aDb N a ((↑a.length:Int)) 0
  (λb=>
   some (aB Cq b))
  (λ(_:Unit)=>
   some (aB Cq (-1:Int)))
def Tn(N:Nat)(a:cY):Option (Int):=(To N a).bind (aG Cq)
def aUg[aA](N:Nat):Hint:=(.seq .d (.seq (.seq .d (.block (Ge.h (Gf N N)))) .d))
def aUi(N:Nat):KP:=bN 184 Tryz.f184 aUf Cq (aDc N) (@aUg · N) (by exact⟨⟨⟩,⟨⟨⟩,aUh N⟩,⟨⟩⟩) λA d=>@To A N d
end
end Go.Proofs
/- What functions do. -/
namespace Go.Proofs
noncomputable section
open Go.Ax Go.Ax.aA Go.RowKit Go.Ab
open Go
def aYu:Sg:=ag [.e k8 (Ty.zero _),.fn 110 [.ref 50 0]] [zY]
def V8:aF:=(bA,[zY])
def aYt(N:Nat):List KP:=[aUi N]
def V9[aA](N:Nat)(a:cY):O:=
 cb (Tn N a)  λb=>
 some (aB V8 (decide (0<=b)))
def V7(N:Nat)(a:cY):Option (Bool):=(V9 N a).bind (aG V8)
def aYv(N:Nat):KP:=kE 109 Tryz.f109 aYu V8 (aYt N) λA d=>@V9 A N d
def aNh:Sg:=ag [.e k8 (Ty.zero _),aC,aC,.fn 49 []] []
def CE:aF:=(bA,[])
def aNg(N:Nat):List KP:=[iW N,aF9 N,aYv N]
def QH[aA](N:Nat)(a:cY)(b c:Int):O:=
 cb (eU N (↑a.length:Int) b c)  λd=>
 br d
  (cb (V7 N a)  λe=>
  some (aB CE !e))
  (some (aB CE false))
def QG(N:Nat)(a:cY)(b c:Int):Option (Bool):=(QH N a b c).bind (aG CE)
def aNi[aA](_:Nat):Hint:=(.seq .d (.seq (.cF [1006] [] []) .d))
def aNk(N:Nat):KP:=bN 48 Tryz.f48 aNh CE (aNg N) (@aNi · N) (by exact⟨⟨⟩,⟨⟩,⟨⟩⟩) λA d=>@QH A N d.1 d.2.1 d.2.2
def aTI:Sg:=ag [.agg [aZ,.e k8 (Ty.zero _)]] []
def G5:aF:=(aC,[])
def aTH(N:Nat):List KP:=[KU N,aNk N,aBO N,aBV N]
def Ss[aA](N:Nat)(a:aD)(b:cY):O:=
 cb (CF N a 0 100)  λc=>
 cg (!!c) (QG N b 0 12) (false) λd=>
 br (!c||!d)
  (some (aB G5 (1:Int)))
  (cb (CG N a b)  λe=>
  br (decide (8192<(↑e.length:Int)))
   (some (aB G5 (4:Int)))
   (some (aB G5 (0:Int))))
def G4(N:Nat)(a:aD)(b:cY):Option (Int):=(Ss N a b).bind (aG G5)
def Kz(N:Nat):KP:=kE 20 Tryz.f20 aTI G5 (aTH N) λA d=>@Ss A N d.1 d.2
def aXF:Sg:=ag [lf .u8] []
def Uh:aF:=(bA,[])
def aXE(_:Nat):List KP:=[]
def aEj[aA](_:Nat)(a:UInt8):O:=
 some (aB Uh (decide (32<=a)&&decide (a<=126)))
def Ug(N:Nat)(a:UInt8):Option (Bool):=(aEj N a).bind (aG Uh)
def aEi(N:Nat):KP:=kE 134 Tryz.f134 aXF Uh (aXE N) λA d=>@aEj A N d
def aXG:Sg:=ag [aZ] []
def A4:aF:=(aC,[])
def aEl(N:Nat):List KP:=[aEi N]
def Uk[aA](N:Nat)(a b:Int->O)(c:Unit->O)(d:aD)(e:Int):O:=
 gc (decide (e<(↑d.length:Int))) ((0:UInt8)) d e λf=>
 cg (decide (e<(↑d.length:Int))) (Ug N f) (false) λg=>
 br (decide (e<(↑d.length:Int))&&g)
  (gx d e λh=>
  br (decide (h=34))
   (b (aH.wrap (e+1)))
   (br (decide (h=92))
    (gc (!decide ((↑d.length:Int)<=aH.wrap (e+1))) (0) d (aH.wrap (e+1)) λi=>
    gc (!decide ((↑d.length:Int)<=aH.wrap (e+1))&&decide (i≠34)) (0) d (aH.wrap (e+1)) λj=>
    br (decide ((↑d.length:Int)<=aH.wrap (e+1))||decide (i≠34)&&decide (j≠92))
     (b 0)
     (a (aH.wrap (aH.wrap (e+1)+1))))
    (a (aH.wrap (e+1)))))
  (c ())
def HF:Lp:=lq [(0,aZ),(3,aC)] [] [] [λ_=>(.ret,⟨[2],[],[]⟩,⟨[(2,aC)],[],100⟩),xp (.exit 0) []]
def aEm[aA](N:Nat)(a:HF.V->O):HF.F:=λx b c _=>Uk N (λd=>a (x.1,d)) b c x.1 x.2
def DM[aA](N:Nat):=bL HF (aEm N)
def aEk[aA](N:Nat)(a:aD)(b:Int)(c:Int->O)(d:Unit->O):O:=DM N N (a,b) c d nn
theorem aXJ(N:Nat):LS (aEl N) Tryz.f133 [1,0,1,0,0] HF (DM N N):=eW (@aEm · N) N
def Uj[aA](N:Nat)(a:aD):O:=
 aEk N a 1
  (λb=>
   some (aB A4 b))
  (λ(_:Unit)=>
   some (aB A4 (0:Int)))
def Ui(N:Nat)(a:aD):Option (Int):=(Uj N a).bind (aG A4)
def aXH[aA](N:Nat):Hint:=(.seq .d (.seq (.seq .d (.block (HF.h (DM N N)))) .d))
def aXK(N:Nat):KP:=bN 133 Tryz.f133 aXG A4 (aEl N) (@aXH · N) (by exact⟨⟨⟩,⟨⟨⟩,aXJ N⟩,⟨⟩⟩) λA d=>@Uj A N d
def aMG:Sg:=ag [aZ] []
def vM:aF:=(aC,[])
def PS(N:Nat):List KP:=[aXK N,aEi N,aXD N]
def PT[aA](N:Nat)(a:Int->O)(b:aD->aD->Bool->O)(c:aD):O:=
 gx c 0 λd=>
 br (decide (d=34))
  (cb (Ui N c)  λe=>
  a e)
  (br (decide (d=40))
   (br (decide (d=40))
    (a 1)
    (b c c (decide (d=40))))
   (br (decide (d=41))
    (a 1)
    (b c c (decide (d=41)))))
def PQ:Lp:=lq [(0,aZ)] [] [] [λ_=>(.ret,⟨[2],[],[]⟩,⟨[(2,aC)],[],100⟩),λ_=>(.normal,⟨[0,4,10],[],[]⟩,⟨[(0,aZ),(4,aZ),(10,bA)],[],100⟩)]
def aAb[aA](N:Nat):PQ.F:=λx a b _=>PT N  a (λc d e=>b (c,d,e)) x
def PR[aA](N:Nat)(_:Nat):=aAb N
def aMF[aA](N:Nat)(a:aD)(b:Int->O)(c:aD->aD->Bool->O):O:=PR N N a b (λy=>c y.1 y.2.1 y.2.2) nn
theorem aMK(N:Nat):wQ (cx (PS N)) Tryz.f72 (mI [1,0] (jQ Tryz.f72)) PQ (PR N N):=Dj (kX _) (.c (λ_=>by kernel_rfl) (.c (λ_=>by kernel_rfl) .n)) (by kernel_rfl) (hb:=(λ_=>.d)) (jO _) (@aAb · N) (λ_ _ _=>by kernel_rfl)
def Ew[aA](N:Nat)(a b:Int->O)(c _d:aD)(_e:Bool)(f:Int):O:=
 gc (decide (f<(↑c.length:Int))) ((0:UInt8)) c f λd=>
 cg (decide (f<(↑c.length:Int))) (Ug N d) (false) λe=>
 gc (decide (f<(↑c.length:Int))&&e) ((0:UInt8)) c f λg=>
 cg (decide (f<(↑c.length:Int))&&e) (DL N [(32:UInt8),34,40,41] (IntKind.i32.wrap (↑g.toNat:Int))) (false) λh=>
 br (decide (f<(↑c.length:Int))&&e&&!h)
  (a (aH.wrap (f+1)))
  (b f)
def Eu:Lp:=lq [(0,aZ),(4,aZ),(10,bA),(3,aC)] [] [] [xp (.exit 1) [3]]
def aAa[aA](N:Nat)(a:Eu.V->O):Eu.F:=λx b _ _=>Ew N (λc=>a (x.1,x.2.1,x.2.2.1,c)) b x.1 x.2.1 x.2.2.1 x.2.2.2
def CC[aA](N:Nat):=bL Eu (aAa N)
def aA9[aA](N:Nat)(a b:aD)(c:Bool)(d:Int)(e:Int->O):O:=CC N N (a,b,c,d) e nn nn
theorem aMJ(N:Nat):LS (PS N) Tryz.f72 [1,1,1,0,0,0] Eu (CC N N):=kH (@aAa · N) N
def aAc[aA](N:Nat)(a:aD):O:=
 aMF N a
  (λb=>
   some (aB vM b))
  (λc d e=>
   aA9 N c d e 0
    (λf=>
     some (aB vM f)))
def PO(N:Nat)(a:aD):Option (Int):=(aAc N a).bind (aG vM)
def aMH[aA](N:Nat):Hint:=(.seq .d (.seq (PQ.h (PR N N)) (.seq .d (.seq (.block (Eu.h (CC N N))) .d))))
def aML(N:Nat):KP:=bN 72 Tryz.f72 aMG vM (PS N) (@aMH · N) (by exact⟨⟨⟩,aMK N,⟨⟩,aMJ N,⟨⟩⟩) λA d=>@aAc A N d
def aOf:Sg:=ag [aZ] []
def CL:aF:=(.aS [ZY,aC],[])
def aBd(N:Nat):List KP:=[aML N]
def QY[aA](N:Nat)(a b:Int->aQ->O)(c:aD->aQ->O)(d:aD)(e:Int)(f:aQ):O:=
 br (decide (e<(↑d.length:Int)))
  (gx d e λg=>
  gc (!decide (g=(32:UInt8))) ((0:UInt8)) d e λh=>
  br (decide (g=32)||decide (h=10))
   (a (aH.wrap (e+1)) f)
   (ck (iX d.length (some e) none)<|
   cb (PO N (iE d (some e) none))  λi=>
   br (decide (i=0))
    (b e f)
    (ck (iX d.length (some e) (some (aH.wrap (e+i))))<|
    ck (bE (f++[(iE d (some e) (some (aH.wrap (e+i))),e)]).length 24)<|
    a (aH.wrap (e+i)) (f++[(iE d (some e) (some (aH.wrap (e+i))),e)]))))
  (c d f)
def Fg:Lp:=lq [(0,aZ),(4,.own 0),(5,aC)] [aKN] [.lL 4 (.row 101 O9 [] true)] [λ_=>(.ret,⟨[2,3],[],[]⟩,⟨[(2,.own 0),(3,aC)],[aKN],100⟩),xp (.exit 0) [0,4]]
def aBe[aA](N:Nat)(a:Fg.V->O):Fg.F:=λx b c _=>QY N (λd e=>a (x.1,d,e)) (λf g=>b (f,g)) (λf g=>c (f,g)) x.1 x.2.1 x.2.2
def Fh[aA](N:Nat):=bL Fg (aBe N)
def aBc[aA](N:Nat)(a:aD)(b:Int)(c:aQ)(d:Int->aQ->O)(e:aD->aQ->O):O:=Fh N N (a,b,c) (λy=>d y.1 y.2) (λy=>e y.1 y.2) nn
theorem aOh(N:Nat):LS (aBd N) Tryz.f34 [1,1,0,1,0,0] Fg (Fh N N):=eW (@aBe · N) N
def QX[aA](N:Nat)(a:aD):O:=
 aBc N a 0 []
  (λb c=>
   some (aB CL (c,b)))
  (λd e=>
   some (aB CL (e,((↑d.length:Int)))))
def QW(N:Nat)(a:aD):Option (aQ×Int):=(QX N a).bind (aG CL)
def aOg[aA](N:Nat):Hint:=(.seq .d (.seq .d (.seq (.seq .d (.block (Fg.h (Fh N N)))) .d)))
def aOi(N:Nat):KP:=bN 34 Tryz.f34 aOf CL (aBd N) (@aOg · N) (by exact⟨⟨⟩,⟨⟩,⟨⟨⟩,aOh N⟩,⟨⟩⟩) λA d=>@QX A N d
def aMC:Sg:=ag [.ref 50 0] [bS]
def Jq:aF:=(aZ,[bS])
def aMB(_:Nat):List KP:=[]
def PM[aA](_:Nat)(a:aQ)(b:Bool):O:=
 br (b||decide ((↑a.length:Int)=0))
  (some (aB Jq ([],a,b)))
  (gx a 0 λc=>
  some (aB Jq (c.1,a,b)))
def iJ(N:Nat)(a:aQ)(b:Bool):Option (aD×aQ×Bool):=(PM N a b).bind (aG Jq)
def jW(N:Nat):KP:=kE 74 Tryz.f74 aMC Jq (aMB N) λA d=>@PM A N d.1 d.2
def aME:Sg:=ag [.ref 50 0,bA] [bS]
def Jr:aF:=(aZ,[bS])
def aMD(N:Nat):List KP:=[jW N]
def PN[aA](N:Nat)(a:Bool)(b:aQ)(c:Bool):O:=
 cb (iJ N b c)  λd=>
 br (!a||decide (d.1=[]))
  (some (aB Jr ([],d.2.1,true)))
  (ck (iX d.2.1.length (some 1) none)<|
  some (aB Jr (d.1,(iE d.2.1 (some 1) none),d.2.2)))
def vL(N:Nat)(a:Bool)(b:aQ)(c:Bool):Option (aD×aQ×Bool):=(PN N a b c).bind (aG Jr)
def CB(N:Nat):KP:=kE 73 Tryz.f73 aME Jr (aMD N) λA d=>@PN A N d.1 d.2.1 d.2.2
def aOe:Sg:=ag [.ref 50 0,aZ] [bS]
def QU:aF:=(.aS [],[bS])
def aOd(N:Nat):List KP:=[jW N,CB N]
def QV[aA](N:Nat)(a:aD)(b:aQ)(c:Bool):O:=
 cb (iJ N b c)  λd=>
 cb (vL N (decide (d.1=a)) d.2.1 d.2.2)  λe=>
 some (aB QU (e.2.1,e.2.2))
def eH(N:Nat)(a:aD)(b:aQ)(c:Bool):Option (aQ×Bool):=(QV N a b c).bind (aG QU)
def pU(N:Nat):KP:=kE 35 Tryz.f35 aOe QU (aOd N) λA d=>@QV A N d.1 d.2.1 d.2.2
def a7t:Sg:=ag [.ref 50 0,lf .u8] [(50,.box 136 [.via 50 0,.own 51]),o5]
def ZK:aF:=(.v Value.nilIface,[(50,.box 136 [.via 50 0,.own 100]),qK])
def a7s(N:Nat):List KP:=[aJf N]
def ZL[aA](N:Nat)(a:UInt8)(b:aD):O:=
 cb (ZM N b)  λc=>
 ck (bE (c++[a]).length 1)<|
 some (aB ZK (c++[a]))
def OC(N:Nat)(a:UInt8)(b:aD):Option (aD):=(ZL N a b).bind (aG ZK)
def a7u(N:Nat):KP:=kE 76 Tryz.f76 a7t ZK (a7s N) λA d=>@ZL A N d.1 d.2
def a7p:Sg:=ag [.ref 50 0] [(50,.box 136 [.via 50 0,.own 51]),o5]
def ZI:aF:=(aZ,[])
def a7o(N:Nat):List KP:=[aJf N]
def ZJ[aA](_:Nat)(a:aD):O:=
 ck (decide ((↑a.length:Int)=(↑a.length:Int)))<|
 some (aB ZI a)
def JN(N:Nat)(a:aD):Option (aD):=(ZJ N a).bind (aG ZI)
def a7q[aA](_:Nat):Hint:=(.seq .d (.seq (.cF [] [] [[],[],[],[],[],[],[],[],[],[],[51],[]]) .d))
def a7r(N:Nat):KP:=bN 77 Tryz.f77 a7p ZI (a7o N) (@a7q · N) (by exact⟨⟨⟩,⟨⟩,⟨⟩⟩) λA d=>@ZJ A N d
def aWy:Sg:=ag [aZ,aZ] []
def Ud:aF:=(bA,[])
def aWx(_:Nat):List KP:=[]
def Ue[aA](_:Nat)(a b:aD):O:=
 ck (!decide ((↑b.length:Int)<=(↑a.length:Int))||iX a.length none (some (↑b.length:Int)))<|
 some (aB Ud (decide ((↑b.length:Int)<=(↑a.length:Int))&&decide (iE a none (some (↑b.length:Int))=b)))
def Lk(N:Nat)(a b:aD):Option (Bool):=(Ue N a b).bind (aG Ud)
def aEg(N:Nat):KP:=kE 136 Tryz.f136 aWy Ud (aWx N) λA d=>@Ue A N d.1 d.2
def aMA:Sg:=ag [aZ,aZ] []
def PK:aF:=(bA,[])
def aLz(N:Nat):List KP:=[aEg N]
def PL[aA](N:Nat)(a b:aD):O:=
 cb (Lk N a b)  λc=>
 some (aB PK c)
def Jp(N:Nat)(a b:aD):Option (Bool):=(PL N a b).bind (aG PK)
def aA8(N:Nat):KP:=kE 75 Tryz.f75 aMA PK (aLz N) λA d=>@PL A N d.1 d.2
def aO9:Sg:=ag [.ref 50 0] [bS]
def CK:aF:=(aZ,[bS])
def aBa(N:Nat):List KP:=[jW N,aA8 N,CB N,a7u N,a7r N]
def QT[aA](N:Nat)(a:Int->aD->O)(b:aQ->Bool->aD->O)(c:aD)(d:aQ)(e:Bool)(f:Int)(g:aD):O:=
 br (decide (f<aH.wrap ((↑c.length:Int)-1)))
  (gx c f λh=>
  br (decide (h=92))
   (gx c (aH.wrap (f+1)) λi=>
   cb (OC N i g)  λj=>
   a (aH.wrap (aH.wrap (f+1)+1)) j)
   (gx c f λk=>
   cb (OC N k g)  λl=>
   a (aH.wrap (f+1)) l))
  (b d e g)
def Fc:Lp:=lq [(3,aZ),(4,.ref 0 0),(5,aC)] [bS,(0,.box 136 [.via 0 0,.own 1]),JW] [.mA 4 1 (.row 5 .u8 [] true)] [xp (.exit 0) [4]]
def aBb[aA](N:Nat)(a:Fc.V->O):Fc.F:=λx b _ _=>QT N (λc d=>a (x.1,c,x.2.2.1,x.2.2.2.1,d)) (λe f g=>b (e,f,g)) x.1 x.2.2.1 x.2.2.2.1 x.2.1 x.2.2.2.2
def Fe[aA](N:Nat):=bL Fc (aBb N)
def aB9[aA](N:Nat)(a:aD)(b:Int)(c:aQ)(d:Bool)(e:aD)(f:aQ->Bool->aD->O):O:=Fe N N (a,b,c,d,e) (λy=>f y.1 y.2.1 y.2.2) nn nn
def aOa[aA](_:Nat):Hint:=(.seq (.seq (.cF [] [.mA 4 1 (.row 5 .u8 [] true)] []) .d) .d)
theorem aOc(N:Nat):LS (aBa N) Tryz.f36 [1,1,1,1,0,1,0,0] Fc (Fe N N):=gF (@aOa · N) (by exact⟨⟨⟨⟩,⟨⟩⟩,⟨⟩⟩) (@aBb · N) N
def QS[aA](N:Nat)(a:aQ)(b:Bool):O:=
 cb (iJ N a b)  λc=>
 cb (Jp N c.1 [(34:UInt8)])  λd=>
 cb (vL N d c.2.1 c.2.2)  λe=>
 br (decide (e.1=[]))
  (some (aB CK ([],e.2.1,e.2.2)))
  (aB9 N e.1 1 e.2.1 e.2.2 []
   (λf g h=>
    cb (JN N h)  λi=>
    some (aB CK (i,f,g))))
def oG(N:Nat)(a:aQ)(b:Bool):Option (aD×aQ×Bool):=(QS N a b).bind (aG CK)
def aOb[aA](N:Nat):Hint:=(.seq .d (.seq .d (.seq .d (.seq .d (.seq (.seq .d (.block (Fc.h (Fe N N)))) (.seq (.cF [] [.mA 4 1 (.row 5 .u8 [] true)] []) .d))))))
def w9(N:Nat):KP:=bN 36 Tryz.f36 aO9 CK (aBa N) (@aOb · N) (by exact⟨⟨⟩,⟨⟩,⟨⟩,⟨⟩,⟨⟨⟩,aOc N⟩,⟨⟩,⟨⟩⟩) λA d=>@QS A N d.1 d.2
def aLq:Sg:=ag [.ref 50 0] [bS]
def PD:aF:=(aZ,[bS])
def aLp(N:Nat):List KP:=[jW N,aF8 N,CB N]
def PE[aA](N:Nat)(a:aQ)(b:Bool):O:=
 cb (iJ N a b)  λc=>
 cb (Ly N c.1)  λd=>
 cb (vL N d c.2.1 c.2.2)  λe=>
 some (aB PD (e.1,e.2.1,e.2.2))
def PC(N:Nat)(a:aQ)(b:Bool):Option (aD×aQ×Bool):=(PE N a b).bind (aG PD)
def aLs(N:Nat):KP:=kE 78 Tryz.f78 aLq PD (aLp N) λA d=>@PE A N d.1 d.2
def aWr:Sg:=ag [dU,aZ] []
def DK:aF:=(aC,[])
def aEa(_:Nat):List KP:=[]
def aWu[aA](_:Nat)(a b:Int->O)(c:Unit->O)(d:aN)(e:aD)(f g:Int):O:=
 br (decide (g<f))
  (gx d g λh=>
  br (decide (e=h))
   (b g)
   (a (aH.wrap (g+1))))
  (c ())
def HC:Lp:=lq [(0,dU),(1,aZ),(7,aC),(8,aC)] [] [] [λ_=>(.ret,⟨[4],[],[]⟩,⟨[(4,aC)],[],100⟩),xp (.exit 0) []]
def aEb[aA](N:Nat)(a:HC.V->O):HC.F:=λx b c _=>aWu N (λd=>a (x.1,x.2.1,x.2.2.1,d)) b c x.1 x.2.1 x.2.2.1 x.2.2.2
def HD[aA](N:Nat):=bL HC (aEb N)
def aE9[aA](N:Nat)(a:aN)(b:aD)(c d:Int)(e:Int->O)(f:Unit->O):O:=HD N N (a,b,c,d) e f nn
theorem aWt(N:Nat):LS (aEa N) Tryz.f138 [1,0,1,0,0] HC (HD N N):=eW (@aEb · N) N
def Uc[aA](N:Nat)(a:aN)(b:aD):O:=
 aE9 N a b ((↑a.length:Int)) 0
  (λc=>
   some (aB DK c))
  (λ(_:Unit)=>
   some (aB DK (-1:Int)))
def Lj(N:Nat)(a:aN)(b:aD):Option (Int):=(Uc N a b).bind (aG DK)
def aWs[aA](N:Nat):Hint:=(.seq .d (.seq (.seq .d (.block (HC.h (HD N N)))) .d))
def aEd(N:Nat):KP:=bN 138 Tryz.f138 aWr DK (aEa N) (@aWs · N) (by exact⟨⟨⟩,⟨⟨⟩,aWt N⟩,⟨⟩⟩) λA d=>@Uc A N d.1 d.2
def aLm:Sg:=ag [dU,aZ] []
def PA:aF:=(bA,[])
def aLl(N:Nat):List KP:=[aEd N]
def PB[aA](N:Nat)(a:aN)(b:aD):O:=
 cb (Lj N a b)  λc=>
 some (aB PA (decide (0<=c)))
def Jn(N:Nat)(a:aN)(b:aD):Option (Bool):=(PB N a b).bind (aG PA)
def aLo(N:Nat):KP:=kE 79 Tryz.f79 aLm PA (aLl N) λA d=>@PB A N d.1 d.2
def aWp:Sg:=ag [.ref 50 0,dU] [bS]
def Li:aF:=(aC,[bS])
def aWo(N:Nat):List KP:=[jW N,aEd N,CB N]
def Ub[aA](N:Nat)(a:aN)(b:aQ)(c:Bool):O:=
 cb (iJ N b c)  λd=>
 cb (Lj N a d.1)  λe=>
 br (decide (0<=e))
  (cb (iJ N d.2.1 d.2.2)  λf=>
  cb (vL N (decide (f.1≠[])) f.2.1 f.2.2)  λg=>
  some (aB Li (e,g.2.1,g.2.2)))
  (cb (vL N false d.2.1 d.2.2)  λh=>
  some (aB Li (e,h.2.1,h.2.2)))
def vU(N:Nat)(a:aN)(b:aQ)(c:Bool):Option (Int×aQ×Bool):=(Ub N a b c).bind (aG Li)
def aWq[aA](_:Nat):Hint:=(.seq .d (.seq .d (.seq (.cF [1004] [] []) .d)))
def DJ(N:Nat):KP:=bN 139 Tryz.f139 aWp Li (aWo N) (@aWq · N) (by exact⟨⟨⟩,⟨⟩,⟨⟩,⟨⟩⟩) λA d=>@Ub A N d.1 d.2.1 d.2.2
def aPf:Sg:=ag [aZ,aZ] []
def Ka:aF:=(aZ,[])
def aPe(N:Nat):List KP:=[aEg N]
def Qn[aA](N:Nat)(a b:aD):O:=
 cb (Lk N a b)  λc=>
 br c
  (ck (iX a.length (some (↑b.length:Int)) none)<|
  some (aB Ka (iE a (some (↑b.length:Int)) none)))
  (some (aB Ka a))
def Qm(N:Nat)(a b:aD):Option (aD):=(Qn N a b).bind (aG Ka)
def aPg(N:Nat):KP:=kE 288 Tryz.f288 aPf Ka (aPe N) λA d=>@Qn A N d.1 d.2
def aQi:Sg:=ag [aZ,aZ] []
def R5:aF:=(aZ,[])
def aQh(N:Nat):List KP:=[aPg N]
def R6[aA](N:Nat)(a b:aD):O:=
 cb (Qm N a b)  λc=>
 some (aB R5 c)
def R4(N:Nat)(a b:aD):Option (aD):=(R6 N a b).bind (aG R5)
def aQk(N:Nat):KP:=kE 263 Tryz.f263 aQi R5 (aQh N) λA d=>@R6 A N d.1 d.2
def aTG:Sg:=ag [aZ] []
def Sp:aF:=(bA,[])
def aTF(N:Nat):List KP:=[aQk N,aQg N]
def Sq[aA](N:Nat)(a:aD):O:=
 cb (R4 N a [(45:UInt8)])  λb=>
 cg (decide (1<=(↑b.length:Int))&&decide ((↑b.length:Int)<=9)) (C0 N b [(48:UInt8),49,50,51,52,53,54,55,56,57]) ([]) λc=>
 some (aB Sp (decide (1<=(↑b.length:Int))&&decide ((↑b.length:Int)<=9)&&decide (c=[])))
def tV(N:Nat)(a:aD):Option (Bool):=(Sq N a).bind (aG Sp)
def xA(N:Nat):KP:=kE 211 Tryz.f211 aTG Sp (aTF N) λA d=>@Sq A N d
def aWQ:Sg:=ag [.ref 50 0] [bS]
def UX:aF:=(aC,[bS])
def aWP(N:Nat):List KP:=[jW N,xA N,CB N,aSh N]
def UY[aA](N:Nat)(a:aQ)(b:Bool):O:=
 cb (iJ N a b)  λc=>
 cb (tV N c.1)  λd=>
 cb (vL N d c.2.1 c.2.2)  λe=>
 cb (Cf N e.1)  λf=>
 some (aB UX (f.1,e.2.1,e.2.2))
def jX(N:Nat)(a:aQ)(b:Bool):Option (Int×aQ×Bool):=(UY N a b).bind (aG UX)
def tZ(N:Nat):KP:=kE 146 Tryz.f146 aWQ UX (aWP N) λA d=>@UY A N d.1 d.2
def aWc:Sg:=ag [.ref 50 0] [bS]
def U7:aF:=(.agg [aC,aZ],[bS])
def aWb(N:Nat):List KP:=[tZ N,w9 N]
def U9[aA](N:Nat)(a:aQ)(b:Bool):O:=
 cb (jX N a b)  λc=>
 cb (oG N c.2.1 c.2.2)  λd=>
 some (aB U7 (c.1,d.1,d.2.1,d.2.2))
def DG(N:Nat)(a:aQ)(b:Bool):Option (Int×aD×aQ×Bool):=(U9 N a b).bind (aG U7)
def U8(N:Nat):KP:=kE 141 Tryz.f141 aWc U7 (aWb N) λA d=>@U9 A N d.1 d.2
def aWe:Sg:=ag [.ref 50 0,aC,aZ,.fn 1000141 [.ref 50 0]] [bS]
def DH:aF:=(fQ,[bS])
def aE4(N:Nat):List KP:=[jW N,pU N,U8 N]
def aWi[aA](N:Nat)(a b:aQ->Bool->bG->O)(c:Int)(d:aD)(e:aQ)(f:Bool)(g:bG):O:=
 br (!f)
  (br (decide ((↑g.length:Int)<c))
   (br true
    (cb (eH N d e f)  λh=>
    cb (DG N h.1 h.2)  λi=>
    ck (bE (g++[(i.1,i.2.1)]).length 24)<|
    a i.2.2.1 i.2.2.2 (g++[(i.1,i.2.1)]))
    (b e f g))
   (cb (iJ N e f)  λj=>
   br (decide (j.1=d))
    (cb (eH N d j.2.1 j.2.2)  λk=>
    cb (DG N k.1 k.2)  λl=>
    ck (bE (g++[(l.1,l.2.1)]).length 24)<|
    a l.2.2.1 l.2.2.2 (g++[(l.1,l.2.1)]))
    (b j.2.1 j.2.2 g)))
  (br false
   (cb (eH N d e f)  λm=>
   cb (DG N m.1 m.2)  λn=>
   ck (bE (g++[(n.1,n.2.1)]).length 24)<|
   a n.2.2.1 n.2.2.2 (g++[(n.1,n.2.1)]))
   (b e f g))
def Gz:Lp:=lq [(0,.ref 50 0),(1,aC),(2,aZ),(3,.fn 1000141 [.ref 50 0]),(9,.own 0)] [bS,aKO] [.lL 9 (.row 108 Jb [] true)] [xp (.exit 0) [9]]
def aE5[aA](N:Nat)(a:Gz.V->O):Gz.F:=λx b _ _=>aWi N (λc d e=>a (x.1,x.2.1,c,d,e)) (λf g h=>b (f,g,h)) x.1 x.2.1 x.2.2.1 x.2.2.2.1 x.2.2.2.2
def Lh[aA](N:Nat):=bL Gz (aE5 N)
def aE3[aA](N:Nat)(a:Int)(b:aD)(c:aQ)(d:Bool)(e:bG)(f:aQ->Bool->bG->O):O:=Lh N N (a,b,c,d,e) (λy=>f y.1 y.2.1 y.2.2) nn nn
def aWf[aA](_:Nat):Hint:=(.seq (.seq (.cF [1011,1006] [] []) .d) .d)
theorem aWh(N:Nat):LS (aE4 N) Tryz.f140 [1,1,0,0,0] Gz (Lh N N):=gF (@aWf · N) (by exact⟨⟨⟨⟩,⟨⟩⟩,⟨⟩⟩) (@aE5 · N) N
def Ua[aA](N:Nat)(a:Int)(b:aD)(c:aQ)(d:Bool):O:=
 aE3 N a b c d []
  (λe f g=>
   some (aB DH (g,e,f)))
def Lg(N:Nat)(a:Int)(b:aD)(c:aQ)(d:Bool):Option (bG×aQ×Bool):=(Ua N a b c d).bind (aG DH)
def aWg[aA](N:Nat):Hint:=(.seq .d (.seq .d (.seq (.block (Gz.h (Lh N N))) .d)))
def aE7(N:Nat):KP:=bN 140 Tryz.f140 aWe DH (aE4 N) (@aWg · N) (by exact⟨⟨⟩,⟨⟩,aWh N,⟨⟩⟩) λA d=>@Ua A N d.1 d.2.1 d.2.2.1 d.2.2.2
def aTC:Sg:=ag [aZ] []
def Sn:aF:=(bA,[])
def aTB(_:Nat):List KP:=[]
def So[aA](_:Nat)(a:aD):O:=
 gc (decide ((↑a.length:Int)=1)) ((0:UInt8)) a 0 λb=>
 gc (decide ((↑a.length:Int)=1)&&decide ((97:UInt8)<=b)) (0) a 0 λc=>
 some (aB Sn (decide ((↑a.length:Int)=1)&&decide (97<=b)&&decide (c<=122)))
def Sm(N:Nat)(a:aD):Option (Bool):=(So N a).bind (aG Sn)
def aTE(N:Nat):KP:=kE 212 Tryz.f212 aTC Sn (aTB N) λA d=>@So A N d
def aE1:Sg:=ag [.ref 50 0] [bS]
def xC:aF:=(.agg [aC,aC,kA],[bS])
abbrev pX:=Rc Tryz.prog 142 aE1 xC
def Ld(N:pX):(aQ×Bool)->Option (Int×Int×cQ×aQ×Bool):=N.2
def aE0(N:pX):List KP:=N.K::[jW N.1,xA N.1,tZ N.1,aTE N.1,CB N.1,pU N.1,DJ N.1,aDI N.1]
def U6[aA](N:pX)(a:Int->aQ->Bool->cQ->O)(b:aQ->Bool->Int->Int->Int->Int->cQ->O)(c d e f g h:Int)(i:aQ)(j:Bool)(k:cQ):O:=
 br (decide (h<c))
  (br (!j)
   (cb (Ld N (i,j))  λl=>
   ck (bE (k++[Ex.mk l.1 l.2.1 l.2.2.1]).length 40)<|
   a (aH.wrap (h+1)) l.2.2.2.1 l.2.2.2.2 (k++[Ex.mk l.1 l.2.1 l.2.2.1]))
   (a (aH.wrap (h+1)) i j k))
  (b i j d e f g k)
def Gx:Lp:=lq [(0,.ref 50 0),(2,.ref 0 0),(4,.ref 1 0),(30,aC),(31,aC)] [bS,Za,aKJ,Ozi] [.mA 4 2 (.row 54 .ex [] true)] [xp (.exit 1) [0,2,4]]
def aE2[aA](N:pX)(a:Gx.V->O):Gx.F:=λx b _ _=>U6 N (λc d e f=>a (x.1,c,d,e,x.2.2.2.2.1,x.2.2.2.2.2.1,x.2.2.2.2.2.2.1,x.2.2.2.2.2.2.2.1,f)) (λg h i j k l m=>b (g,h,i,j,k,l,m)) x.1 x.2.2.2.2.1 x.2.2.2.2.2.1 x.2.2.2.2.2.2.1 x.2.2.2.2.2.2.2.1 x.2.1 x.2.2.1 x.2.2.2.1 x.2.2.2.2.2.2.2.2
def Gy[aA](N:pX):=bL Gx (aE2 N)
def aEZ[aA](N:pX)(a b:Int)(c:aQ)(d:Bool)(e f g h:Int)(i:cQ)(j:aQ->Bool->Int->Int->Int->Int->cQ->O):O:=Gy N N.1 (a,b,c,d,e,f,g,h,i) (λy=>j y.1 y.2.1 y.2.2.1 y.2.2.2.1 y.2.2.2.2.1 y.2.2.2.2.2.1 y.2.2.2.2.2.2) nn nn
def aW5[aA](_:pX):Hint:=(.seq .d (.seq .d (.seq (.block (.seq .d (.cond (.cF [] [] [[],[],[],[50],[],[188,2],[],[1]]) .d))) .d)))
theorem aW9(N:pX):LS (aE0 N) Tryz.f142 [1,1,1,1,1,0,1,0,0] Gx (Gy N N.1):=gF (@aW5 · N) (by exact⟨⟨⟩,⟨⟩,⟨⟨⟩,⟨⟩,⟨⟩⟩,⟨⟩⟩) (@aE2 · N) N.1
def Le[aA](N:pX)(a:aQ)(b:Bool):O:=
 cb (iJ N.1 a b)  λc=>
 cb (tV N.1 c.1)  λd=>
 br d
  (cb (jX N.1 c.2.1 c.2.2)  λe=>
  some (aB xC ((0:Int),e.1,[],e.2.1,e.2.2)))
  (cb (Sm N.1 c.1)  λf=>
  br f
   (cb (vL N.1 true c.2.1 c.2.2)  λg=>
   gx g.1 0 λh=>
   some (aB xC ((1:Int),(aH.wrap (↑(h-97).toNat:Int)),[],g.2.1,g.2.2)))
   (cb (eH N.1 [(40:UInt8)] c.2.1 c.2.2)  λi=>
   cb (vU N.1 [[],[],[(110:UInt8),101,103],[(43:UInt8)],[(45:UInt8)],[(42:UInt8)],[(47:UInt8)],[(94:UInt8)],[(114:UInt8),111,111,116],[(61:UInt8)],[(60:UInt8)]] i.1 i.2)  λj=>
   cb (Ky N.1 j.1)  λk=>
   aEZ N k 0 j.2.1 j.2.2 0 0 j.1 0 []
    (λl m _ _ n o p=>
     cb (eH N.1 [(41:UInt8)] l m)  λq=>
     some (aB xC (n,o,p,q.1,q.2)))))
def aEY(N:pX)(a:aQ)(b:Bool):Option (Int×Int×cQ×aQ×Bool):=(Le N a b).bind (aG xC)
def aW6[aA](N:pX):Hint:=(.seq .d (.seq .d (.seq .d (.seq .d (.seq .d (.seq (.seq .d (.block (Gx.h (Gy N N.1)))) .d))))))
def DF(N:Nat):Nat->pX:=Ay N (by kernel_rfl) (λN (d:aQ×Bool)=>Le N (d.1) (d.2)) λN=>yW (kX (aE0 N)) (fn:=Tryz.f142) (i:=aE1) (o:=xC) (h:=(@aW6 · N)) (nB _ _ (by exact(fW trivial (fW trivial (fW trivial (fW trivial (fW trivial (fW (fW trivial (aW9 N)) trivial)))))))) (ow:=false) (λA (d:aQ×Bool)=>@Le A N (d.1) (d.2)) λ_ _=>by kernel_rfl
def U5(N:Nat)(a:aQ)(b:Bool):Option (Int×Int×cQ×aQ×Bool):=Ld (DF N N) (a,b)
def aWa(N:Nat):KP:=kt (f:=142) ((DF N N).ok)
def aSs:Sg:=ag [.ref 50 0,.fn 211 [],.fn 1000146 [.ref 50 0]] [bS]
def Ch:aF:=(dT,[bS])
def aDF(N:Nat):List KP:=[jW N,xA N,tZ N]
def aSy[aA](N:Nat)(a b:aQ->Bool->aJ->O)(c:aQ)(d:Bool)(e:aJ):O:=
 br (!d)
  (cb (iJ N c d)  λf=>
  cb (tV N f.1)  λg=>
  br g
   (cb (jX N f.2.1 f.2.2)  λh=>
   ck (bE (e++[h.1]).length 8)<|
   a h.2.1 h.2.2 (e++[h.1]))
   (b f.2.1 f.2.2 e))
  (br false
   (cb (jX N c d)  λi=>
   ck (bE (e++[i.1]).length 8)<|
   a i.2.1 i.2.2 (e++[i.1]))
   (b c d e))
def G2:Lp:=lq [(0,.ref 50 0),(1,.fn 211 []),(2,.fn 1000146 [.ref 50 0]),(7,.own 0)] [bS,aKS] [] [xp (.exit 0) [7]]
def aDG[aA](N:Nat)(a:G2.V->O):G2.F:=λx b _ _=>aSy N (λc d e=>a (c,d,e)) (λf g h=>b (f,g,h)) x.1 x.2.1 x.2.2
def Kx[aA](N:Nat):=bL G2 (aDG N)
def aDE[aA](N:Nat)(a:aQ)(b:Bool)(c:aJ)(d:aQ->Bool->aJ->O):O:=Kx N N (a,b,c) (λy=>d y.1 y.2.1 y.2.2) nn nn
def aSt[aA](_:Nat):Hint:=(.seq (.seq (.cF [1006] [] []) .d) .d)
theorem aSw(N:Nat):LS (aDF N) Tryz.f214 [1,1,0,0,0] G2 (Kx N N):=gF (@aSt · N) (by exact⟨⟨⟨⟩,⟨⟩⟩,⟨⟩⟩) (@aDG · N) N
def Sk[aA](N:Nat)(a:aQ)(b:Bool):O:=
 cb (jX N a b)  λc=>
 aDE N c.2.1 c.2.2 [c.1]
  (λd e f=>
   some (aB Ch (f,d,e)))
def Sj(N:Nat)(a:aQ)(b:Bool):Option (aJ×aQ×Bool):=(Sk N a b).bind (aG Ch)
def aSu[aA](N:Nat):Hint:=(.seq .d (.seq .d (.seq (.block (G2.h (Kx N N))) .d)))
def aSx(N:Nat):KP:=bN 214 Tryz.f214 aSs Ch (aDF N) (@aSu · N) (by exact⟨⟨⟩,⟨⟩,aSw N,⟨⟩⟩) λA d=>@Sk A N d.1 d.2
def aW2:Sg:=ag [.ref 50 0] [bS]
def Gw:aF:=(.agg [aC,dT],[bS])
def aW1(N:Nat):List KP:=[DJ N,tZ N,aSx N,xA N]
def U4[aA](N:Nat)(a:aQ)(b:Bool):O:=
 cb (vU N [[(43:UInt8)],[(45:UInt8)],[(42:UInt8)],[(47:UInt8)]] a b)  λc=>
 cb (Sj N c.2.1 c.2.2)  λd=>
 br (decide (0<=c.1))
  (gx [(3:Int),4,5,6] c.1 λe=>
  some (aB Gw (e,d.1,d.2.1,d.2.2)))
  (some (aB Gw ((0:Int),d.1,d.2.1,d.2.2)))
def U3(N:Nat)(a:aQ)(b:Bool):Option (Int×aJ×aQ×Bool):=(U4 N a b).bind (aG Gw)
def aW4(N:Nat):KP:=kE 143 Tryz.f143 aW2 Gw (aW1 N) λA d=>@U4 A N d.1 d.2
def aSj:Sg:=ag [aZ] []
def Se:aF:=(bA,[])
def aSi(N:Nat):List KP:=[aA8 N]
def Sf[aA](N:Nat)(a:aD):O:=
 cb (Jp N a [(34:UInt8)])  λb=>
 some (aB Se b)
def Kv(N:Nat)(a:aD):Option (Bool):=(Sf N a).bind (aG Se)
def aDA(N:Nat):KP:=kE 216 Tryz.f216 aSj Se (aSi N) λA d=>@Sf A N d
def aSl:Sg:=ag [.ref 50 0,.fn 216 [],.fn 1000036 [.ref 50 0]] [bS]
def Cg:aF:=(dU,[bS])
def aDC(N:Nat):List KP:=[jW N,aDA N,w9 N]
def aSr[aA](N:Nat)(a b:aQ->Bool->aN->O)(c:aQ)(d:Bool)(e:aN):O:=
 br (!d)
  (cb (iJ N c d)  λf=>
  cb (Kv N f.1)  λg=>
  br g
   (cb (oG N f.2.1 f.2.2)  λh=>
   ck (bE (e++[h.1]).length 16)<|
   a h.2.1 h.2.2 (e++[h.1]))
   (b f.2.1 f.2.2 e))
  (br false
   (cb (oG N c d)  λi=>
   ck (bE (e++[i.1]).length 16)<|
   a i.2.1 i.2.2 (e++[i.1]))
   (b c d e))
def G1:Lp:=lq [(0,.ref 50 0),(1,.fn 216 []),(2,.fn 1000036 [.ref 50 0]),(7,.own 0)] [bS,OL] [] [xp (.exit 0) [7]]
def aDD[aA](N:Nat)(a:G1.V->O):G1.F:=λx b _ _=>aSr N (λc d e=>a (c,d,e)) (λf g h=>b (f,g,h)) x.1 x.2.1 x.2.2
def Kw[aA](N:Nat):=bL G1 (aDD N)
def aDB[aA](N:Nat)(a:aQ)(b:Bool)(c:aN)(d:aQ->Bool->aN->O):O:=Kw N N (a,b,c) (λy=>d y.1 y.2.1 y.2.2) nn nn
def aSm[aA](_:Nat):Hint:=(.seq (.seq (.cF [1006] [] []) .d) .d)
theorem aSp(N:Nat):LS (aDC N) Tryz.f215 [1,1,0,0,0] G1 (Kw N N):=gF (@aSm · N) (by exact⟨⟨⟨⟩,⟨⟩⟩,⟨⟩⟩) (@aDD · N) N
def Si[aA](N:Nat)(a:aQ)(b:Bool):O:=
 cb (oG N a b)  λc=>
 aDB N c.2.1 c.2.2 [c.1]
  (λd e f=>
   some (aB Cg (f,d,e)))
def Sh(N:Nat)(a:aQ)(b:Bool):Option (aN×aQ×Bool):=(Si N a b).bind (aG Cg)
def aSn[aA](N:Nat):Hint:=(.seq .d (.seq .d (.seq (.block (G1.h (Kw N N))) .d)))
def aSq(N:Nat):KP:=bN 215 Tryz.f215 aSl Cg (aDC N) (@aSn · N) (by exact⟨⟨⟩,⟨⟩,aSp N,⟨⟩⟩) λA d=>@Si A N d.1 d.2
def aWS:Sg:=ag [.ref 50 0] [bS]
def UZ:aF:=(dU,[bS])
def aWR(N:Nat):List KP:=[w9 N,aSq N,aDA N]
def U0[aA](N:Nat)(a:aQ)(b:Bool):O:=
 cb (Sh N a b)  λc=>
 some (aB UZ (c.1,c.2.1,c.2.2))
def DD(N:Nat)(a:aQ)(b:Bool):Option (aN×aQ×Bool):=(U0 N a b).bind (aG UZ)
def aEU(N:Nat):KP:=kE 145 Tryz.f145 aWS UZ (aWR N) λA d=>@U0 A N d.1 d.2
def aWU:Sg:=ag [.ref 50 0,aC,aZ,.fn 1000145 [.ref 50 0]] [bS]
def DE:aF:=(j9,[bS])
def aEW(N:Nat):List KP:=[jW N,pU N,aEU N]
def aW0[aA](N:Nat)(a b:aQ->Bool->cH->O)(c:Int)(d:aD)(e:aQ)(f:Bool)(g:cH):O:=
 br (!f)
  (br (decide ((↑g.length:Int)<c))
   (br true
    (cb (eH N d e f)  λh=>
    cb (DD N h.1 h.2)  λi=>
    ck (bE (g++[i.1]).length 24)<|
    a i.2.1 i.2.2 (g++[i.1]))
    (b e f g))
   (cb (iJ N e f)  λj=>
   br (decide (j.1=d))
    (cb (eH N d j.2.1 j.2.2)  λk=>
    cb (DD N k.1 k.2)  λl=>
    ck (bE (g++[l.1]).length 24)<|
    a l.2.1 l.2.2 (g++[l.1]))
    (b j.2.1 j.2.2 g)))
  (br false
   (cb (eH N d e f)  λm=>
   cb (DD N m.1 m.2)  λn=>
   ck (bE (g++[n.1]).length 24)<|
   a n.2.1 n.2.2 (g++[n.1]))
   (b e f g))
def Gv:Lp:=lq [(0,.ref 50 0),(1,aC),(2,aZ),(3,.fn 1000145 [.ref 50 0]),(9,.own 0)] [bS,(0,.row 31 tM [] true)] [.lL 9 (.row 31 tM [] true)] [xp (.exit 0) [9]]
def aEX[aA](N:Nat)(a:Gv.V->O):Gv.F:=λx b _ _=>aW0 N (λc d e=>a (x.1,x.2.1,c,d,e)) (λf g h=>b (f,g,h)) x.1 x.2.1 x.2.2.1 x.2.2.2.1 x.2.2.2.2
def Lc[aA](N:Nat):=bL Gv (aEX N)
def aEV[aA](N:Nat)(a:Int)(b:aD)(c:aQ)(d:Bool)(e:cH)(f:aQ->Bool->cH->O):O:=Lc N N (a,b,c,d,e) (λy=>f y.1 y.2.1 y.2.2) nn nn
def aWV[aA](_:Nat):Hint:=(.seq (.seq (.cF [1011,1006] [] []) .d) .d)
theorem aWY(N:Nat):LS (aEW N) Tryz.f144 [1,1,0,0,0] Gv (Lc N N):=gF (@aWV · N) (by exact⟨⟨⟨⟩,⟨⟩⟩,⟨⟩⟩) (@aEX · N) N
def U2[aA](N:Nat)(a:Int)(b:aD)(c:aQ)(d:Bool):O:=
 aEV N a b c d []
  (λe f g=>
   some (aB DE (g,e,f)))
def U1(N:Nat)(a:Int)(b:aD)(c:aQ)(d:Bool):Option (cH×aQ×Bool):=(U2 N a b c d).bind (aG DE)
def aWW[aA](N:Nat):Hint:=(.seq .d (.seq .d (.seq (.block (Gv.h (Lc N N))) .d)))
def aWZ(N:Nat):KP:=bN 144 Tryz.f144 aWU DE (aEW N) (@aWW · N) (by exact⟨⟨⟩,⟨⟩,aWY N,⟨⟩⟩) λA d=>@U2 A N d.1 d.2.1 d.2.2.1 d.2.2.2
def aS6:Sg:=ag [.ref 50 0] [bS]
def Sa:aF:=(.agg [aC,aC],[bS])
def aS5(N:Nat):List KP:=[tZ N]
def Sb[aA](N:Nat)(a:aQ)(b:Bool):O:=
 cb (jX N a b)  λc=>
 cb (jX N c.2.1 c.2.2)  λd=>
 some (aB Sa (c.1,d.1,d.2.1,d.2.2))
def Cd(N:Nat)(a:aQ)(b:Bool):Option (Int×Int×aQ×Bool):=(Sb N a b).bind (aG Sa)
def aCv(N:Nat):KP:=kE 219 Tryz.f219 aS6 Sa (aS5 N) λA d=>@Sb A N d.1 d.2
def aS7:Sg:=ag [.ref 50 0,.fn 211 [],.fn 1000219 [.ref 50 0]] [bS]
def Ce:aF:=(nG,[bS])
def aCx(N:Nat):List KP:=[jW N,xA N,aCv N]
def aSd[aA](N:Nat)(a b:aQ->Bool->eQ->O)(c:aQ)(d:Bool)(e:eQ):O:=
 br (!d)
  (cb (iJ N c d)  λf=>
  cb (tV N f.1)  λg=>
  br g
   (cb (Cd N f.2.1 f.2.2)  λh=>
   ck (bE (e++[(h.1,h.2.1)]).length 16)<|
   a h.2.2.1 h.2.2.2 (e++[(h.1,h.2.1)]))
   (b f.2.1 f.2.2 e))
  (br false
   (cb (Cd N c d)  λi=>
   ck (bE (e++[(i.1,i.2.1)]).length 16)<|
   a i.2.2.1 i.2.2.2 (e++[(i.1,i.2.1)]))
   (b c d e))
def GZ:Lp:=lq [(0,.ref 50 0),(1,.fn 211 []),(2,.fn 1000219 [.ref 50 0]),(7,.own 0)] [bS,a8k] [] [xp (.exit 0) [7]]
def aCy[aA](N:Nat)(a:GZ.V->O):GZ.F:=λx b _ _=>aSd N (λc d e=>a (c,d,e)) (λf g h=>b (f,g,h)) x.1 x.2.1 x.2.2
def Ku[aA](N:Nat):=bL GZ (aCy N)
def aCw[aA](N:Nat)(a:aQ)(b:Bool)(c:eQ)(d:aQ->Bool->eQ->O):O:=Ku N N (a,b,c) (λy=>d y.1 y.2.1 y.2.2) nn nn
def aS8[aA](_:Nat):Hint:=(.seq (.seq (.cF [1006] [] []) .d) .d)
theorem aSb(N:Nat):LS (aCx N) Tryz.f218 [1,1,0,0,0] GZ (Ku N N):=gF (@aS8 · N) (by exact⟨⟨⟨⟩,⟨⟩⟩,⟨⟩⟩) (@aCy · N) N
def Sd[aA](N:Nat)(a:aQ)(b:Bool):O:=
 cb (Cd N a b)  λc=>
 aCw N c.2.2.1 c.2.2.2 [(c.1,c.2.1)]
  (λd e f=>
   some (aB Ce (f,d,e)))
def Sc(N:Nat)(a:aQ)(b:Bool):Option (eQ×aQ×Bool):=(Sd N a b).bind (aG Ce)
def aS9[aA](N:Nat):Hint:=(.seq .d (.seq .d (.seq (.block (GZ.h (Ku N N))) .d)))
def aSc(N:Nat):KP:=bN 218 Tryz.f218 aS7 Ce (aCx N) (@aS9 · N) (by exact⟨⟨⟩,⟨⟩,aSb N,⟨⟩⟩) λA d=>@Sd A N d.1 d.2
def aWG:Sg:=ag [.ref 50 0] [bS]
def US:aF:=(.agg [aC,nG],[bS])
def aWF(N:Nat):List KP:=[DJ N,aCv N,aSc N,xA N]
def UT[aA](N:Nat)(a:aQ)(b:Bool):O:=
 cb (vU N [[(100:UInt8),111,116],[(108:UInt8),105,110,101],[(97:UInt8),114,101,97]] a b)  λc=>
 cb (Sc N c.2.1 c.2.2)  λd=>
 some (aB US (c.1,d.1,d.2.1,d.2.2))
def DB(N:Nat)(a:aQ)(b:Bool):Option (Int×eQ×aQ×Bool):=(UT N a b).bind (aG US)
def aEQ(N:Nat):KP:=kE 148 Tryz.f148 aWG US (aWF N) λA d=>@UT A N d.1 d.2
def aWI:Sg:=ag [.ref 50 0,aC,aZ,.fn 1000148 [.ref 50 0]] [bS]
def DC:aF:=(j8,[bS])
def aES(N:Nat):List KP:=[jW N,pU N,aEQ N]
def aWO[aA](N:Nat)(a b:aQ->Bool->cK->O)(c:Int)(d:aD)(e:aQ)(f:Bool)(g:cK):O:=
 br (!f)
  (br (decide ((↑g.length:Int)<c))
   (br true
    (cb (eH N d e f)  λh=>
    cb (DB N h.1 h.2)  λi=>
    ck (bE (g++[(i.1,i.2.1)]).length 32)<|
    a i.2.2.1 i.2.2.2 (g++[(i.1,i.2.1)]))
    (b e f g))
   (cb (iJ N e f)  λj=>
   br (decide (j.1=d))
    (cb (eH N d j.2.1 j.2.2)  λk=>
    cb (DB N k.1 k.2)  λl=>
    ck (bE (g++[(l.1,l.2.1)]).length 32)<|
    a l.2.2.1 l.2.2.2 (g++[(l.1,l.2.1)]))
    (b j.2.1 j.2.2 g)))
  (br false
   (cb (eH N d e f)  λm=>
   cb (DB N m.1 m.2)  λn=>
   ck (bE (g++[(n.1,n.2.1)]).length 32)<|
   a n.2.2.1 n.2.2.2 (g++[(n.1,n.2.1)]))
   (b e f g))
def Gu:Lp:=lq [(0,.ref 50 0),(1,aC),(2,aZ),(3,.fn 1000148 [.ref 50 0]),(9,.own 0)] [bS,a8h] [.lL 9 (.row 173 O7 [] true)] [xp (.exit 0) [9]]
def aET[aA](N:Nat)(a:Gu.V->O):Gu.F:=λx b _ _=>aWO N (λc d e=>a (x.1,x.2.1,c,d,e)) (λf g h=>b (f,g,h)) x.1 x.2.1 x.2.2.1 x.2.2.2.1 x.2.2.2.2
def Lb[aA](N:Nat):=bL Gu (aET N)
def aER[aA](N:Nat)(a:Int)(b:aD)(c:aQ)(d:Bool)(e:cK)(f:aQ->Bool->cK->O):O:=Lb N N (a,b,c,d,e) (λy=>f y.1 y.2.1 y.2.2) nn nn
def aWJ[aA](_:Nat):Hint:=(.seq (.seq (.cF [1011,1006] [] []) .d) .d)
theorem aWM(N:Nat):LS (aES N) Tryz.f147 [1,1,0,0,0] Gu (Lb N N):=gF (@aWJ · N) (by exact⟨⟨⟨⟩,⟨⟩⟩,⟨⟩⟩) (@aET · N) N
def UW[aA](N:Nat)(a:Int)(b:aD)(c:aQ)(d:Bool):O:=
 aER N a b c d []
  (λe f g=>
   some (aB DC (g,e,f)))
def UU(N:Nat)(a:Int)(b:aD)(c:aQ)(d:Bool):Option (cK×aQ×Bool):=(UW N a b c d).bind (aG DC)
def aWK[aA](N:Nat):Hint:=(.seq .d (.seq .d (.seq (.block (Gu.h (Lb N N))) .d)))
def aWN(N:Nat):KP:=bN 147 Tryz.f147 aWI DC (aES N) (@aWK · N) (by exact⟨⟨⟩,⟨⟩,aWM N,⟨⟩⟩) λA d=>@UW A N d.1 d.2.1 d.2.2.1 d.2.2.2
def aQ6:Sg:=ag [.ref 50 0] [bS]
def RZ:aF:=(.agg [aC,aC,aC],[bS])
def aQ5(N:Nat):List KP:=[tZ N]
def R0[aA](N:Nat)(a:aQ)(b:Bool):O:=
 cb (jX N a b)  λc=>
 cb (jX N c.2.1 c.2.2)  λd=>
 cb (jX N d.2.1 d.2.2)  λe=>
 some (aB RZ (c.1,d.1,e.1,e.2.1,e.2.2))
def CY(N:Nat)(a:aQ)(b:Bool):Option (Int×Int×Int×aQ×Bool):=(R0 N a b).bind (aG RZ)
def aCW(N:Nat):KP:=kE 268 Tryz.f268 aQ6 RZ (aQ5 N) λA d=>@R0 A N d.1 d.2
def aQ7:Sg:=ag [.ref 50 0,.fn 211 [],.fn 1000268 [.ref 50 0]] [bS]
def CZ:aF:=(qH,[bS])
def aCY(N:Nat):List KP:=[jW N,xA N,aCW N]
def aQd[aA](N:Nat)(a b:aQ->Bool->gL->O)(c:aQ)(d:Bool)(e:gL):O:=
 br (!d)
  (cb (iJ N c d)  λf=>
  cb (tV N f.1)  λg=>
  br g
   (cb (CY N f.2.1 f.2.2)  λh=>
   ck (bE (e++[(h.1,h.2.1,h.2.2.1)]).length 24)<|
   a h.2.2.2.1 h.2.2.2.2 (e++[(h.1,h.2.1,h.2.2.1)]))
   (b f.2.1 f.2.2 e))
  (br false
   (cb (CY N c d)  λi=>
   ck (bE (e++[(i.1,i.2.1,i.2.2.1)]).length 24)<|
   a i.2.2.2.1 i.2.2.2.2 (e++[(i.1,i.2.1,i.2.2.1)]))
   (b c d e))
def GK:Lp:=lq [(0,.ref 50 0),(1,.fn 211 []),(2,.fn 1000268 [.ref 50 0]),(7,.own 0)] [bS,a8j] [] [xp (.exit 0) [7]]
def aCZ[aA](N:Nat)(a:GK.V->O):GK.F:=λx b _ _=>aQd N (λc d e=>a (c,d,e)) (λf g h=>b (f,g,h)) x.1 x.2.1 x.2.2
def Kh[aA](N:Nat):=bL GK (aCZ N)
def aCX[aA](N:Nat)(a:aQ)(b:Bool)(c:gL)(d:aQ->Bool->gL->O):O:=Kh N N (a,b,c) (λy=>d y.1 y.2.1 y.2.2) nn nn
def aQ8[aA](_:Nat):Hint:=(.seq (.seq (.cF [1006] [] []) .d) .d)
theorem aQb(N:Nat):LS (aCY N) Tryz.f267 [1,1,0,0,0] GK (Kh N N):=gF (@aQ8 · N) (by exact⟨⟨⟨⟩,⟨⟩⟩,⟨⟩⟩) (@aCZ · N) N
def R2[aA](N:Nat)(a:aQ)(b:Bool):O:=
 cb (CY N a b)  λc=>
 aCX N c.2.2.2.1 c.2.2.2.2 [(c.1,c.2.1,c.2.2.1)]
  (λd e f=>
   some (aB CZ (f,d,e)))
def R1(N:Nat)(a:aQ)(b:Bool):Option (gL×aQ×Bool):=(R2 N a b).bind (aG CZ)
def aQ9[aA](N:Nat):Hint:=(.seq .d (.seq .d (.seq (.block (GK.h (Kh N N))) .d)))
def aQc(N:Nat):KP:=bN 267 Tryz.f267 aQ7 CZ (aCY N) (@aQ9 · N) (by exact⟨⟨⟩,⟨⟩,aQb N,⟨⟩⟩) λA d=>@R2 A N d.1 d.2
def aSS:Sg:=ag [.ref 50 0] [bS]
def S3:aF:=(qH,[bS])
def aSR(N:Nat):List KP:=[aCW N,aQc N,xA N]
def S4[aA](N:Nat)(a:aQ)(b:Bool):O:=
 cb (R1 N a b)  λc=>
 some (aB S3 (c.1,c.2.1,c.2.2))
def Cb(N:Nat)(a:aQ)(b:Bool):Option (gL×aQ×Bool):=(S4 N a b).bind (aG S3)
def aCq(N:Nat):KP:=kE 221 Tryz.f221 aSS S3 (aSR N) λA d=>@S4 A N d.1 d.2
def aSU:Sg:=ag [.ref 50 0,aC,aZ,.fn 1000221 [.ref 50 0]] [bS]
def Cc:aF:=(oA,[bS])
def aCs(N:Nat):List KP:=[jW N,pU N,aCq N]
def aS0[aA](N:Nat)(a b:aQ->Bool->eM->O)(c:Int)(d:aD)(e:aQ)(f:Bool)(g:eM):O:=
 br (!f)
  (br (decide ((↑g.length:Int)<c))
   (br true
    (cb (eH N d e f)  λh=>
    cb (Cb N h.1 h.2)  λi=>
    ck (bE (g++[i.1]).length 24)<|
    a i.2.1 i.2.2 (g++[i.1]))
    (b e f g))
   (cb (iJ N e f)  λj=>
   br (decide (j.1=d))
    (cb (eH N d j.2.1 j.2.2)  λk=>
    cb (Cb N k.1 k.2)  λl=>
    ck (bE (g++[l.1]).length 24)<|
    a l.2.1 l.2.2 (g++[l.1]))
    (b j.2.1 j.2.2 g)))
  (br false
   (cb (eH N d e f)  λm=>
   cb (Cb N m.1 m.2)  λn=>
   ck (bE (g++[n.1]).length 24)<|
   a n.2.1 n.2.2 (g++[n.1]))
   (b e f g))
def GY:Lp:=lq [(0,.ref 50 0),(1,aC),(2,aZ),(3,.fn 1000221 [.ref 50 0]),(9,.own 0)] [bS,a8g] [.lL 9 (.row 179 Bu [] true)] [xp (.exit 0) [9]]
def aCt[aA](N:Nat)(a:GY.V->O):GY.F:=λx b _ _=>aS0 N (λc d e=>a (x.1,x.2.1,c,d,e)) (λf g h=>b (f,g,h)) x.1 x.2.1 x.2.2.1 x.2.2.2.1 x.2.2.2.2
def Ks[aA](N:Nat):=bL GY (aCt N)
def aCr[aA](N:Nat)(a:Int)(b:aD)(c:aQ)(d:Bool)(e:eM)(f:aQ->Bool->eM->O):O:=Ks N N (a,b,c,d,e) (λy=>f y.1 y.2.1 y.2.2) nn nn
def aSV[aA](_:Nat):Hint:=(.seq (.seq (.cF [1011,1006] [] []) .d) .d)
theorem aSY(N:Nat):LS (aCs N) Tryz.f220 [1,1,0,0,0] GY (Ks N N):=gF (@aSV · N) (by exact⟨⟨⟨⟩,⟨⟩⟩,⟨⟩⟩) (@aCt · N) N
def S6[aA](N:Nat)(a:Int)(b:aD)(c:aQ)(d:Bool):O:=
 aCr N a b c d []
  (λe f g=>
   some (aB Cc (g,e,f)))
def S5(N:Nat)(a:Int)(b:aD)(c:aQ)(d:Bool):Option (eM×aQ×Bool):=(S6 N a b c d).bind (aG Cc)
def aSW[aA](N:Nat):Hint:=(.seq .d (.seq .d (.seq (.block (GY.h (Ks N N))) .d)))
def aSZ(N:Nat):KP:=bN 220 Tryz.f220 aSU Cc (aCs N) (@aSW · N) (by exact⟨⟨⟩,⟨⟩,aSY N,⟨⟩⟩) λA d=>@S6 A N d.1 d.2.1 d.2.2.1 d.2.2.2
def aVw:Sg:=ag [.ref 50 0] [bS]
def UO:aF:=(oA,[bS])
def aVv(N:Nat):List KP:=[aCq N,aSZ N]
def UP[aA](N:Nat)(a:aQ)(b:Bool):O:=
 cb (S5 N 1 [(98:UInt8),97,114] a b)  λc=>
 some (aB UO (c.1,c.2.1,c.2.2))
def Cz(N:Nat)(a:aQ)(b:Bool):Option (eM×aQ×Bool):=(UP N a b).bind (aG UO)
def aEM(N:Nat):KP:=kE 150 Tryz.f150 aVw UO (aVv N) λA d=>@UP A N d.1 d.2
def aVy:Sg:=ag [.ref 50 0,aC,aZ,.fn 1000150 [.ref 50 0]] [bS]
def DA:aF:=(jC,[bS])
def aEO(N:Nat):List KP:=[jW N,pU N,aEM N]
def aWE[aA](N:Nat)(a b:aQ->Bool->bI->O)(c:Int)(d:aD)(e:aQ)(f:Bool)(g:bI):O:=
 br (!f)
  (br (decide ((↑g.length:Int)<c))
   (br true
    (cb (eH N d e f)  λh=>
    cb (Cz N h.1 h.2)  λi=>
    ck (bE (g++[i.1]).length 24)<|
    a i.2.1 i.2.2 (g++[i.1]))
    (b e f g))
   (cb (iJ N e f)  λj=>
   br (decide (j.1=d))
    (cb (eH N d j.2.1 j.2.2)  λk=>
    cb (Cz N k.1 k.2)  λl=>
    ck (bE (g++[l.1]).length 24)<|
    a l.2.1 l.2.2 (g++[l.1]))
    (b j.2.1 j.2.2 g)))
  (br false
   (cb (eH N d e f)  λm=>
   cb (Cz N m.1 m.2)  λn=>
   ck (bE (g++[n.1]).length 24)<|
   a n.2.1 n.2.2 (g++[n.1]))
   (b e f g))
def Gt:Lp:=lq [(0,.ref 50 0),(1,aC),(2,aZ),(3,.fn 1000150 [.ref 50 0]),(9,.own 0)] [bS,a8f] [.lL 9 (.row 129 w3 [] true)] [xp (.exit 0) [9]]
def aEP[aA](N:Nat)(a:Gt.V->O):Gt.F:=λx b _ _=>aWE N (λc d e=>a (x.1,x.2.1,c,d,e)) (λf g h=>b (f,g,h)) x.1 x.2.1 x.2.2.1 x.2.2.2.1 x.2.2.2.2
def La[aA](N:Nat):=bL Gt (aEP N)
def aEN[aA](N:Nat)(a:Int)(b:aD)(c:aQ)(d:Bool)(e:bI)(f:aQ->Bool->bI->O):O:=La N N (a,b,c,d,e) (λy=>f y.1 y.2.1 y.2.2) nn nn
def aVz[aA](_:Nat):Hint:=(.seq (.seq (.cF [1011,1006] [] []) .d) .d)
theorem aWC(N:Nat):LS (aEO N) Tryz.f149 [1,1,0,0,0] Gt (La N N):=gF (@aVz · N) (by exact⟨⟨⟨⟩,⟨⟩⟩,⟨⟩⟩) (@aEP · N) N
def UR[aA](N:Nat)(a:Int)(b:aD)(c:aQ)(d:Bool):O:=
 aEN N a b c d []
  (λe f g=>
   some (aB DA (g,e,f)))
def UQ(N:Nat)(a:Int)(b:aD)(c:aQ)(d:Bool):Option (bI×aQ×Bool):=(UR N a b c d).bind (aG DA)
def aWA[aA](N:Nat):Hint:=(.seq .d (.seq .d (.seq (.block (Gt.h (La N N))) .d)))
def aWD(N:Nat):KP:=bN 149 Tryz.f149 aVy DA (aEO N) (@aWA · N) (by exact⟨⟨⟩,⟨⟩,aWC N,⟨⟩⟩) λA d=>@UR A N d.1 d.2.1 d.2.2.1 d.2.2.2
def aVo:Sg:=ag [.ref 50 0,aC,aZ,.fn 1000036 [.ref 50 0]] [bS]
def Cy:aF:=(dU,[bS])
def aEK(N:Nat):List KP:=[jW N,pU N,w9 N]
def aVu[aA](N:Nat)(a b:aQ->Bool->aN->O)(c:Int)(d:aD)(e:aQ)(f:Bool)(g:aN):O:=
 br (!f)
  (br (decide ((↑g.length:Int)<c))
   (br true
    (cb (eH N d e f)  λh=>
    cb (oG N h.1 h.2)  λi=>
    ck (bE (g++[i.1]).length 16)<|
    a i.2.1 i.2.2 (g++[i.1]))
    (b e f g))
   (cb (iJ N e f)  λj=>
   br (decide (j.1=d))
    (cb (eH N d j.2.1 j.2.2)  λk=>
    cb (oG N k.1 k.2)  λl=>
    ck (bE (g++[l.1]).length 16)<|
    a l.2.1 l.2.2 (g++[l.1]))
    (b j.2.1 j.2.2 g)))
  (br false
   (cb (eH N d e f)  λm=>
   cb (oG N m.1 m.2)  λn=>
   ck (bE (g++[n.1]).length 16)<|
   a n.2.1 n.2.2 (g++[n.1]))
   (b e f g))
def Gr:Lp:=lq [(0,.ref 50 0),(1,aC),(2,aZ),(3,.fn 1000036 [.ref 50 0]),(9,.own 0)] [bS,OL] [.lL 9 (.row 9 .tx [] true)] [xp (.exit 0) [9]]
def aEL[aA](N:Nat)(a:Gr.V->O):Gr.F:=λx b _ _=>aVu N (λc d e=>a (x.1,x.2.1,c,d,e)) (λf g h=>b (f,g,h)) x.1 x.2.1 x.2.2.1 x.2.2.2.1 x.2.2.2.2
def L9[aA](N:Nat):=bL Gr (aEL N)
def aEJ[aA](N:Nat)(a:Int)(b:aD)(c:aQ)(d:Bool)(e:aN)(f:aQ->Bool->aN->O):O:=L9 N N (a,b,c,d,e) (λy=>f y.1 y.2.1 y.2.2) nn nn
def aVp[aA](_:Nat):Hint:=(.seq (.seq (.cF [1011,1006] [] []) .d) .d)
theorem aVs(N:Nat):LS (aEK N) Tryz.f151 [1,1,0,0,0] Gr (L9 N N):=gF (@aVp · N) (by exact⟨⟨⟨⟩,⟨⟩⟩,⟨⟩⟩) (@aEL · N) N
def UN[aA](N:Nat)(a:Int)(b:aD)(c:aQ)(d:Bool):O:=
 aEJ N a b c d []
  (λe f g=>
   some (aB Cy (g,e,f)))
def UM(N:Nat)(a:Int)(b:aD)(c:aQ)(d:Bool):Option (aN×aQ×Bool):=(UN N a b c d).bind (aG Cy)
def aVq[aA](N:Nat):Hint:=(.seq .d (.seq .d (.seq (.block (Gr.h (L9 N N))) .d)))
def aVt(N:Nat):KP:=bN 151 Tryz.f151 aVo Cy (aEK N) (@aVq · N) (by exact⟨⟨⟩,⟨⟩,aVs N,⟨⟩⟩) λA d=>@UN A N d.1 d.2.1 d.2.2.1 d.2.2.2
end
end Go.Proofs
/- What functions do. -/
namespace Go.Proofs
noncomputable section
open Go.Ax Go.Ax.aA Go.RowKit Go.Ab
open Go
def aLe:Sg:=ag [.ref 50 0] [bS]
def tP:aF:=(.agg [aC,fQ,aC,aC,kA,aC,dT,j9,aC,aC,j8,jC,dU],[bS])
def aLd(N:Nat):List KP:=[DJ N,U8 N,aE7 N,aWa N,aW4 N,aEU N,aWZ N,tZ N,aEQ N,aWN N,aEM N,aWD N,w9 N,aVt N]
def Oy[aA](N:Nat)(a:aQ)(b:Bool):O:=
 cb (vU N [[(116:UInt8),101,120,116],[(102:UInt8),111,114,109,117,108,97],[(99:UInt8),111,108,117,109,110],[(101:UInt8),110,116,114,105,101,115],[(100:UInt8),114,97,119,105,110,103],[(109:UInt8),117,115,105,99],[(108:UInt8),105,115,116,105,110,103]] a b)  λc=>
 br (decide (c.1=0))
  (cb (Lg N 1 [(114:UInt8),117,110] c.2.1 c.2.2)  λd=>
  some (aB tP (c.1,d.1,(0:Int),(0:Int),[],(0:Int),[],[],(0:Int),(0:Int),[],[],[],d.2.1,d.2.2)))
  (br (decide (c.1=1))
   (cb (U5 N c.2.1 c.2.2)  λe=>
   some (aB tP (c.1,[],e.1,e.2.1,e.2.2.1,(0:Int),[],[],(0:Int),(0:Int),[],[],[],e.2.2.2.1,e.2.2.2.2)))
   (br (decide (c.1=2))
    (cb (U3 N c.2.1 c.2.2)  λf=>
    some (aB tP (c.1,[],(0:Int),(0:Int),[],f.1,f.2.1,[],(0:Int),(0:Int),[],[],[],f.2.2.1,f.2.2.2)))
    (br (decide (c.1=3))
     (cb (U1 N 1 [(114:UInt8),111,119] c.2.1 c.2.2)  λg=>
     some (aB tP (c.1,[],(0:Int),(0:Int),[],(0:Int),[],g.1,(0:Int),(0:Int),[],[],[],g.2.1,g.2.2)))
     (br (decide (c.1=4))
      (cb (jX N c.2.1 c.2.2)  λh=>
      cb (jX N h.2.1 h.2.2)  λi=>
      cb (UU N 1 [(115:UInt8),104,97,112,101] i.2.1 i.2.2)  λj=>
      some (aB tP (c.1,[],(0:Int),(0:Int),[],(0:Int),[],[],h.1,i.1,j.1,[],[],j.2.1,j.2.2)))
      (br (decide (c.1=5))
       (cb (UQ N 1 [(104:UInt8),97,110,100] c.2.1 c.2.2)  λk=>
       some (aB tP (c.1,[],(0:Int),(0:Int),[],(0:Int),[],[],(0:Int),(0:Int),[],k.1,[],k.2.1,k.2.2)))
       (br (decide (c.1=6))
        (cb (UM N 1 [(108:UInt8),105,110,101] c.2.1 c.2.2)  λl=>
        some (aB tP (c.1,[],(0:Int),(0:Int),[],(0:Int),[],[],(0:Int),(0:Int),[],[],l.1,l.2.1,l.2.2)))
        (some (aB tP (c.1,[],(0:Int),(0:Int),[],(0:Int),[],[],(0:Int),(0:Int),[],[],[],c.2.1,c.2.2)))))))))
def Et(N:Nat)(a:aQ)(b:Bool):Option (Int×bG×Int×Int×cQ×Int×aJ×cH×Int×Int×cK×bI×aN×aQ×Bool):=(Oy N a b).bind (aG tP)
def aLg(N:Nat):KP:=kE 80 Tryz.f80 aLe tP (aLd N) λA d=>@Oy A N d.1 d.2
def aL4:Sg:=ag [.ref 50 0] [bS]
def Ov:aF:=(.agg [aC,aC,aC,aC],[bS])
def aL3(N:Nat):List KP:=[DJ N,tZ N]
def Ow[aA](N:Nat)(a:aQ)(b:Bool):O:=
 cb (vU N [[(119:UInt8),104,111,108,101],[(101:UInt8),110,116,114,121],[(105:UInt8),110,115,105,100,101],[(108:UInt8),101,102,116],[(108:UInt8),111,110,103,101,114],[(98:UInt8),97,114],[(114:UInt8),111,119]] a b)  λc=>
 cb (jX N c.2.1 c.2.2)  λd=>
 cb (jX N d.2.1 d.2.2)  λe=>
 cb (jX N e.2.1 e.2.2)  λf=>
 some (aB Ov (c.1,d.1,e.1,f.1,f.2.1,f.2.2))
def By(N:Nat)(a:aQ)(b:Bool):Option (Int×Int×Int×Int×aQ×Bool):=(Ow N a b).bind (aG Ov)
def aA1(N:Nat):KP:=kE 82 Tryz.f82 aL4 Ov (aL3 N) λA d=>@Ow A N d.1 d.2
def aL6:Sg:=ag [.ref 50 0,aC,aZ,.fn 1000082 [.ref 50 0]] [bS]
def Bz:aF:=(mK,[bS])
def aA3(N:Nat):List KP:=[jW N,pU N,aA1 N]
def aLc[aA](N:Nat)(a b:aQ->Bool->dF->O)(c:Int)(d:aD)(e:aQ)(f:Bool)(g:dF):O:=
 br (!f)
  (br (decide ((↑g.length:Int)<c))
   (br true
    (cb (eH N d e f)  λh=>
    cb (By N h.1 h.2)  λi=>
    ck (bE (g++[(i.1,i.2.1,i.2.2.1,i.2.2.2.1)]).length 32)<|
    a i.2.2.2.2.1 i.2.2.2.2.2 (g++[(i.1,i.2.1,i.2.2.1,i.2.2.2.1)]))
    (b e f g))
   (cb (iJ N e f)  λj=>
   br (decide (j.1=d))
    (cb (eH N d j.2.1 j.2.2)  λk=>
    cb (By N k.1 k.2)  λl=>
    ck (bE (g++[(l.1,l.2.1,l.2.2.1,l.2.2.2.1)]).length 32)<|
    a l.2.2.2.2.1 l.2.2.2.2.2 (g++[(l.1,l.2.1,l.2.2.1,l.2.2.2.1)]))
    (b j.2.1 j.2.2 g)))
  (br false
   (cb (eH N d e f)  λm=>
   cb (By N m.1 m.2)  λn=>
   ck (bE (g++[(n.1,n.2.1,n.2.2.1,n.2.2.2.1)]).length 32)<|
   a n.2.2.2.2.1 n.2.2.2.2.2 (g++[(n.1,n.2.1,n.2.2.1,n.2.2.2.1)]))
   (b e f g))
def Es:Lp:=lq [(0,.ref 50 0),(1,aC),(2,aZ),(3,.fn 1000082 [.ref 50 0]),(9,.own 0)] [bS,a8b] [.lL 9 (.row 69 Bt [] true)] [xp (.exit 0) [9]]
def aA4[aA](N:Nat)(a:Es.V->O):Es.F:=λx b _ _=>aLc N (λc d e=>a (x.1,x.2.1,c,d,e)) (λf g h=>b (f,g,h)) x.1 x.2.1 x.2.2.1 x.2.2.2.1 x.2.2.2.2
def Jl[aA](N:Nat):=bL Es (aA4 N)
def aA2[aA](N:Nat)(a:Int)(b:aD)(c:aQ)(d:Bool)(e:dF)(f:aQ->Bool->dF->O):O:=Jl N N (a,b,c,d,e) (λy=>f y.1 y.2.1 y.2.2) nn nn
def aL7[aA](_:Nat):Hint:=(.seq (.seq (.cF [1011,1006] [] []) .d) .d)
theorem aLa(N:Nat):LS (aA3 N) Tryz.f81 [1,1,0,0,0] Es (Jl N N):=gF (@aL7 · N) (by exact⟨⟨⟨⟩,⟨⟩⟩,⟨⟩⟩) (@aA4 · N) N
def Ox[aA](N:Nat)(a:Int)(b:aD)(c:aQ)(d:Bool):O:=
 aA2 N a b c d []
  (λe f g=>
   some (aB Bz (g,e,f)))
def Er(N:Nat)(a:Int)(b:aD)(c:aQ)(d:Bool):Option (dF×aQ×Bool):=(Ox N a b c d).bind (aG Bz)
def aL8[aA](N:Nat):Hint:=(.seq .d (.seq .d (.seq (.block (Es.h (Jl N N))) .d)))
def aLb(N:Nat):KP:=bN 81 Tryz.f81 aL6 Bz (aA3 N) (@aL8 · N) (by exact⟨⟨⟩,⟨⟩,aLa N,⟨⟩⟩) λA d=>@Ox A N d.1 d.2.1 d.2.2.1 d.2.2.2
def aVh:Sg:=ag [.ref 50 0,aC,aZ,.fn 1000146 [.ref 50 0]] [bS]
def Cw:aF:=(dT,[bS])
def aEH(N:Nat):List KP:=[jW N,pU N,tZ N]
def aVn[aA](N:Nat)(a b:aQ->Bool->aJ->O)(c:Int)(d:aD)(e:aQ)(f:Bool)(g:aJ):O:=
 br (!f)
  (br (decide ((↑g.length:Int)<c))
   (br true
    (cb (eH N d e f)  λh=>
    cb (jX N h.1 h.2)  λi=>
    ck (bE (g++[i.1]).length 8)<|
    a i.2.1 i.2.2 (g++[i.1]))
    (b e f g))
   (cb (iJ N e f)  λj=>
   br (decide (j.1=d))
    (cb (eH N d j.2.1 j.2.2)  λk=>
    cb (jX N k.1 k.2)  λl=>
    ck (bE (g++[l.1]).length 8)<|
    a l.2.1 l.2.2 (g++[l.1]))
    (b j.2.1 j.2.2 g)))
  (br false
   (cb (eH N d e f)  λm=>
   cb (jX N m.1 m.2)  λn=>
   ck (bE (g++[n.1]).length 8)<|
   a n.2.1 n.2.2 (g++[n.1]))
   (b e f g))
def Gq:Lp:=lq [(0,.ref 50 0),(1,aC),(2,aZ),(3,.fn 1000146 [.ref 50 0]),(9,.own 0)] [bS,aKS] [.lL 9 (.row 3 gV [] true)] [xp (.exit 0) [9]]
def aEI[aA](N:Nat)(a:Gq.V->O):Gq.F:=λx b _ _=>aVn N (λc d e=>a (x.1,x.2.1,c,d,e)) (λf g h=>b (f,g,h)) x.1 x.2.1 x.2.2.1 x.2.2.2.1 x.2.2.2.2
def L8[aA](N:Nat):=bL Gq (aEI N)
def aEG[aA](N:Nat)(a:Int)(b:aD)(c:aQ)(d:Bool)(e:aJ)(f:aQ->Bool->aJ->O):O:=L8 N N (a,b,c,d,e) (λy=>f y.1 y.2.1 y.2.2) nn nn
def aVi[aA](_:Nat):Hint:=(.seq (.seq (.cF [1011,1006] [] []) .d) .d)
theorem aVl(N:Nat):LS (aEH N) Tryz.f152 [1,1,0,0,0] Gq (L8 N N):=gF (@aVi · N) (by exact⟨⟨⟨⟩,⟨⟩⟩,⟨⟩⟩) (@aEI · N) N
def UL[aA](N:Nat)(a:Int)(b:aD)(c:aQ)(d:Bool):O:=
 aEG N a b c d []
  (λe f g=>
   some (aB Cw (g,e,f)))
def UK(N:Nat)(a:Int)(b:aD)(c:aQ)(d:Bool):Option (aJ×aQ×Bool):=(UL N a b c d).bind (aG Cw)
def aVj[aA](N:Nat):Hint:=(.seq .d (.seq .d (.seq (.block (Gq.h (L8 N N))) .d)))
def aVm(N:Nat):KP:=bN 152 Tryz.f152 aVh Cw (aEH N) (@aVj · N) (by exact⟨⟨⟩,⟨⟩,aVl N,⟨⟩⟩) λA d=>@UL A N d.1 d.2.1 d.2.2.1 d.2.2.2
def aV8:Sg:=ag [.ref 50 0] [(50,.box 93 [.ref 51 0]),aKH]
def UG:aF:=(.agg [aZ,aZ],[(50,.box 93 [.ref 51 0]),aKH])
def aV7(N:Nat):List KP:=[w9 N]
def UH[aA](N:Nat)(a:aQ)(b:Bool):O:=
 cb (oG N a b)  λc=>
 cb (oG N c.2.1 c.2.2)  λd=>
 some (aB UG (c.1,d.1,d.2.1,d.2.2))
def Cu(N:Nat)(a:aQ)(b:Bool):Option (aD×aD×aQ×Bool):=(UH N a b).bind (aG UG)
def aEC(N:Nat):KP:=kE 154 Tryz.f154 aV8 UG (aV7 N) λA d=>@UH A N d.1 d.2
def aVa:Sg:=ag [.ref 50 0,aC,aZ,.fn 154 [.ref 51 0]] [bS,Z4]
def Cv:aF:=(lf (.sl Jc),[bS,Z4])
def aEE(N:Nat):List KP:=[jW N,pU N,aEC N]
def aVg[aA](N:Nat)(a b:aQ->Bool->Ba->O)(c:Int)(d:aD)(e:aQ)(f:Bool)(g:Ba):O:=
 br (!f)
  (br (decide ((↑g.length:Int)<c))
   (br true
    (cb (eH N d e f)  λh=>
    cb (Cu N h.1 h.2)  λi=>
    ck (bE (g++[(i.1,i.2.1)]).length 32)<|
    a i.2.2.1 i.2.2.2 (g++[(i.1,i.2.1)]))
    (b e f g))
   (cb (iJ N e f)  λj=>
   br (decide (j.1=d))
    (cb (eH N d j.2.1 j.2.2)  λk=>
    cb (Cu N k.1 k.2)  λl=>
    ck (bE (g++[(l.1,l.2.1)]).length 32)<|
    a l.2.2.1 l.2.2.2 (g++[(l.1,l.2.1)]))
    (b j.2.1 j.2.2 g)))
  (br false
   (cb (eH N d e f)  λm=>
   cb (Cu N m.1 m.2)  λn=>
   ck (bE (g++[(n.1,n.2.1)]).length 32)<|
   a n.2.2.1 n.2.2.2 (g++[(n.1,n.2.1)]))
   (b e f g))
def Gp:Lp:=lq [(0,.ref 50 0),(1,aC),(2,aZ),(3,.fn 154 [.ref 51 0]),(9,.own 0)] [bS,Z4,(0,.row 207 Jc [] true)] [.lL 9 (.row 207 Jc [] true)] [xp (.exit 0) [9]]
def aEF[aA](N:Nat)(a:Gp.V->O):Gp.F:=λx b _ _=>aVg N (λc d e=>a (x.1,x.2.1,c,d,e)) (λf g h=>b (f,g,h)) x.1 x.2.1 x.2.2.1 x.2.2.2.1 x.2.2.2.2
def L7[aA](N:Nat):=bL Gp (aEF N)
def aED[aA](N:Nat)(a:Int)(b:aD)(c:aQ)(d:Bool)(e:Ba)(f:aQ->Bool->Ba->O):O:=L7 N N (a,b,c,d,e) (λy=>f y.1 y.2.1 y.2.2) nn nn
def aVb[aA](_:Nat):Hint:=(.seq (.seq (.cF [1011,1006] [] []) .d) .d)
theorem aVe(N:Nat):LS (aEE N) Tryz.f153 [1,1,0,0,0] Gp (L7 N N):=gF (@aVb · N) (by exact⟨⟨⟨⟩,⟨⟩⟩,⟨⟩⟩) (@aEF · N) N
def UJ[aA](N:Nat)(a:Int)(b:aD)(c:aQ)(d:Bool):O:=
 aED N a b c d []
  (λe f g=>
   some (aB Cv (g,e,f)))
def UI(N:Nat)(a:Int)(b:aD)(c:aQ)(d:Bool):Option (Ba×aQ×Bool):=(UJ N a b c d).bind (aG Cv)
def aVc[aA](N:Nat):Hint:=(.seq .d (.seq .d (.seq (.block (Gp.h (L7 N N))) .d)))
def aVf(N:Nat):KP:=bN 153 Tryz.f153 aVa Cv (aEE N) (@aVc · N) (by exact⟨⟨⟩,⟨⟩,aVe N,⟨⟩⟩) λA d=>@UJ A N d.1 d.2.1 d.2.2.1 d.2.2.2
def aLS:Sg:=ag [.ref 50 0] [bS]
def Em:aF:=(.agg [aC,fQ,dU,dT,aZ,aC,dU],[bS])
def aAV(N:Nat):List KP:=[DJ N,tZ N,w9 N,aVm N,U8 N,aE7 N,aEC N,aVf N]
def Ot[aA](_:Nat)(a:Int->aN->aN->O)(b:aQ->Bool->Int->aD->Int->Int->bG->aJ->aD->Int->aN->aN->O)(c:Ba)(d:Int)(e:aQ)(f:Bool)(g:Int)(h:aD)(i j:Int)(k:bG)(l:aJ)(m:aD)(n o:Int)(p q:aN):O:=
 br (decide (o<d))
  (gx c o λr=>
  ck (bE (p++[r.1]).length 16)<|
  ck (bE (q++[r.2]).length 16)<|
  a (aH.wrap (o+1)) (p++[r.1]) (q++[r.2]))
  (b e f g h i j k l m n p q)
def El:Lp:=lq [(2,.ref 0 0),(3,.ref 1 0),(28,lf (.sl Jc)),(29,aC),(30,aC)] [bS,Z9,a88,Z5,(3,.row 9 .tx [] true)] [.mA 3 2 (.row 9 .tx [] true),.mA 3 6 (.row 9 .tx [] true)] [xp (.exit 0) [2,3]]
def aAW[aA](N:Nat)(a:El.V->O):El.F:=λx b _ _=>Ot N (λc d e=>a (x.1,x.2.1,c,x.2.2.2.1,x.2.2.2.2.1,x.2.2.2.2.2.1,x.2.2.2.2.2.2.1,x.2.2.2.2.2.2.2.1,x.2.2.2.2.2.2.2.2.1,x.2.2.2.2.2.2.2.2.2.1,x.2.2.2.2.2.2.2.2.2.2.1,x.2.2.2.2.2.2.2.2.2.2.2.1,x.2.2.2.2.2.2.2.2.2.2.2.2.1,d,e)) (λf g h i j k l m n o p q=>b (f,g,h,i,j,k,l,m,n,o,p,q)) x.1 x.2.1 x.2.2.2.1 x.2.2.2.2.1 x.2.2.2.2.2.1 x.2.2.2.2.2.2.1 x.2.2.2.2.2.2.2.1 x.2.2.2.2.2.2.2.2.1 x.2.2.2.2.2.2.2.2.2.1 x.2.2.2.2.2.2.2.2.2.2.1 x.2.2.2.2.2.2.2.2.2.2.2.1 x.2.2.2.2.2.2.2.2.2.2.2.2.1 x.2.2.1 x.2.2.2.2.2.2.2.2.2.2.2.2.2.1 x.2.2.2.2.2.2.2.2.2.2.2.2.2.2
def En[aA](N:Nat):=bL El (aAW N)
def aAU[aA](N:Nat)(a:Ba)(b c:Int)(d:aQ)(e:Bool)(f:Int)(g:aD)(h i:Int)(j:bG)(k:aJ)(l:aD)(m:Int)(n o:aN)(p:aQ->Bool->Int->aD->Int->Int->bG->aJ->aD->Int->aN->aN->O):O:=En N N (a,b,c,d,e,f,g,h,i,j,k,l,m,n,o) (λy=>p y.1 y.2.1 y.2.2.1 y.2.2.2.1 y.2.2.2.2.1 y.2.2.2.2.2.1 y.2.2.2.2.2.2.1 y.2.2.2.2.2.2.2.1 y.2.2.2.2.2.2.2.2.1 y.2.2.2.2.2.2.2.2.2.1 y.2.2.2.2.2.2.2.2.2.2.1 y.2.2.2.2.2.2.2.2.2.2.2) nn nn
theorem aLV(N:Nat):LS (aAV N) Tryz.f84 [1,1,1,1,1,1,0,1,0,0] El (En N N):=kH (@aAW · N) N
def Oq[aA](N:Nat)(a:aQ)(b:Bool):O:=
 cb (vU N [[(99:UInt8),104,111,105,99,101],[(99:UInt8),111,117,110,116],[(111:UInt8),112,101,110]] a b)  λc=>
 cb (jX N c.2.1 c.2.2)  λd=>
 cb (oG N d.2.1 d.2.2)  λe=>
 cb (UK N 0 [(110:UInt8),101,101,100] e.2.1 e.2.2)  λf=>
 cb (Lg N 1 [(114:UInt8),117,110] f.2.1 f.2.2)  λg=>
 cb (UI N 0 [(111:UInt8),112,116,105,111,110] g.2.1 g.2.2)  λh=>
 aAU N h.1 ((↑h.1.length:Int)) 0 h.2.1 h.2.2 0 [] 0 c.1 g.1 f.1 e.1 d.1 [] []
  (λi j _ _ _ k l m n o p q=>
   some (aB Em (k,l,p,m,n,o,q,i,j)))
def Bw(N:Nat)(a:aQ)(b:Bool):Option (Int×bG×aN×aJ×aD×Int×aN×aQ×Bool):=(Oq N a b).bind (aG Em)
def aLT[aA](N:Nat):Hint:=(.seq .d (.seq (.cF [] [] [[],[],[50],[],[],[148]]) (.seq .d (.seq .d (.seq .d (.seq .d (.seq (.seq .d (.block (El.h (En N N)))) .d)))))))
def aAX(N:Nat):KP:=bN 84 Tryz.f84 aLS Em (aAV N) (@aLT · N) (by exact⟨⟨⟩,⟨⟩,⟨⟩,⟨⟩,⟨⟩,⟨⟩,⟨⟨⟩,aLV N⟩,⟨⟩⟩) λA d=>@Oq A N d.1 d.2
def aLW:Sg:=ag [.ref 50 0,aC,aZ,.fn 1000084 [.ref 50 0]] [bS]
def Bx:aF:=(n9,[bS])
def aAZ(N:Nat):List KP:=[jW N,pU N,aAX N]
def aL2[aA](N:Nat)(a b:aQ->Bool->eF->O)(c:Int)(d:aD)(e:aQ)(f:Bool)(g:eF):O:=
 br (!f)
  (br (decide ((↑g.length:Int)<c))
   (br true
    (cb (eH N d e f)  λh=>
    cb (Bw N h.1 h.2)  λi=>
    ck (bE (g++[(i.1,i.2.1,i.2.2.1,i.2.2.2.1,i.2.2.2.2.1,i.2.2.2.2.2.1,i.2.2.2.2.2.2.1)]).length 128)<|
    a i.2.2.2.2.2.2.2.1 i.2.2.2.2.2.2.2.2 (g++[(i.1,i.2.1,i.2.2.1,i.2.2.2.1,i.2.2.2.2.1,i.2.2.2.2.2.1,i.2.2.2.2.2.2.1)]))
    (b e f g))
   (cb (iJ N e f)  λj=>
   br (decide (j.1=d))
    (cb (eH N d j.2.1 j.2.2)  λk=>
    cb (Bw N k.1 k.2)  λl=>
    ck (bE (g++[(l.1,l.2.1,l.2.2.1,l.2.2.2.1,l.2.2.2.2.1,l.2.2.2.2.2.1,l.2.2.2.2.2.2.1)]).length 128)<|
    a l.2.2.2.2.2.2.2.1 l.2.2.2.2.2.2.2.2 (g++[(l.1,l.2.1,l.2.2.1,l.2.2.2.1,l.2.2.2.2.1,l.2.2.2.2.2.1,l.2.2.2.2.2.2.1)]))
    (b j.2.1 j.2.2 g)))
  (br false
   (cb (eH N d e f)  λm=>
   cb (Bw N m.1 m.2)  λn=>
   ck (bE (g++[(n.1,n.2.1,n.2.2.1,n.2.2.2.1,n.2.2.2.2.1,n.2.2.2.2.2.1,n.2.2.2.2.2.2.1)]).length 128)<|
   a n.2.2.2.2.2.2.2.1 n.2.2.2.2.2.2.2.2 (g++[(n.1,n.2.1,n.2.2.1,n.2.2.2.1,n.2.2.2.2.1,n.2.2.2.2.2.1,n.2.2.2.2.2.2.1)]))
   (b e f g))
def Ep:Lp:=lq [(0,.ref 50 0),(1,aC),(2,aZ),(3,.fn 1000084 [.ref 50 0]),(9,.own 0)] [bS,a86] [.lL 9 (.row 74 Ed [] true)] [xp (.exit 0) [9]]
def aA0[aA](N:Nat)(a:Ep.V->O):Ep.F:=λx b _ _=>aL2 N (λc d e=>a (x.1,x.2.1,c,d,e)) (λf g h=>b (f,g,h)) x.1 x.2.1 x.2.2.1 x.2.2.2.1 x.2.2.2.2
def Jk[aA](N:Nat):=bL Ep (aA0 N)
def aAY[aA](N:Nat)(a:Int)(b:aD)(c:aQ)(d:Bool)(e:eF)(f:aQ->Bool->eF->O):O:=Jk N N (a,b,c,d,e) (λy=>f y.1 y.2.1 y.2.2) nn nn
def aLX[aA](_:Nat):Hint:=(.seq (.seq (.cF [1011,1006] [] []) .d) .d)
theorem aL0(N:Nat):LS (aAZ N) Tryz.f83 [1,1,0,0,0] Ep (Jk N N):=gF (@aLX · N) (by exact⟨⟨⟨⟩,⟨⟩⟩,⟨⟩⟩) (@aA0 · N) N
def Ou[aA](N:Nat)(a:Int)(b:aD)(c:aQ)(d:Bool):O:=
 aAY N a b c d []
  (λe f g=>
   some (aB Bx (g,e,f)))
def Eo(N:Nat)(a:Int)(b:aD)(c:aQ)(d:Bool):Option (eF×aQ×Bool):=(Ou N a b c d).bind (aG Bx)
def aLY[aA](N:Nat):Hint:=(.seq .d (.seq .d (.seq (.block (Ep.h (Jk N N))) .d)))
def aL1(N:Nat):KP:=bN 83 Tryz.f83 aLW Bx (aAZ N) (@aLY · N) (by exact⟨⟨⟩,⟨⟩,aL0 N,⟨⟩⟩) λA d=>@Ou A N d.1 d.2.1 d.2.2.1 d.2.2.2
def aOC:Sg:=ag [.ref 50 0] [bS]
def CI:aF:=(.agg [aZ,.e nL (Ty.zero _),mK,n9],[bS])
def aBX(N:Nat):List KP:=[aLs N,jW N,aLo N,aLg N,aA1 N,aLb N,aAX N,aL1 N]
def aOH[aA](N:Nat)(a:aQ->Bool->dP->O)(b:aQ->Bool->aD->aD->dP->O)(_c d e:aD)(f:aQ)(g:Bool)(h:dP):O:=
 br (!g)
  (cb (iJ N f g)  λc=>
  cb (Jn N [[(116:UInt8),101,120,116],[(102:UInt8),111,114,109,117,108,97],[(99:UInt8),111,108,117,109,110],[(101:UInt8),110,116,114,105,101,115],[(100:UInt8),114,97,119,105,110,103],[(109:UInt8),117,115,105,99],[(108:UInt8),105,115,116,105,110,103]] c.1)  λi=>
  br i
   (cb (Et N c.2.1 c.2.2)  λj=>
   ck (bE (h++[(j.1,j.2.1,Ex.mk j.2.2.1 j.2.2.2.1 j.2.2.2.2.1,(j.2.2.2.2.2.1,j.2.2.2.2.2.2.1),j.2.2.2.2.2.2.2.1,(j.2.2.2.2.2.2.2.2.1,j.2.2.2.2.2.2.2.2.2.1,j.2.2.2.2.2.2.2.2.2.2.1),j.2.2.2.2.2.2.2.2.2.2.2.1,j.2.2.2.2.2.2.2.2.2.2.2.2.1)]).length 216)<|
   a j.2.2.2.2.2.2.2.2.2.2.2.2.2.1 j.2.2.2.2.2.2.2.2.2.2.2.2.2.2 (h++[(j.1,j.2.1,Ex.mk j.2.2.1 j.2.2.2.1 j.2.2.2.2.1,(j.2.2.2.2.2.1,j.2.2.2.2.2.2.1),j.2.2.2.2.2.2.2.1,(j.2.2.2.2.2.2.2.2.1,j.2.2.2.2.2.2.2.2.2.1,j.2.2.2.2.2.2.2.2.2.2.1),j.2.2.2.2.2.2.2.2.2.2.2.1,j.2.2.2.2.2.2.2.2.2.2.2.2.1)]))
   (b c.2.1 c.2.2 d e h))
  (br false
   (cb (Et N f g)  λk=>
   ck (bE (h++[(k.1,k.2.1,Ex.mk k.2.2.1 k.2.2.2.1 k.2.2.2.2.1,(k.2.2.2.2.2.1,k.2.2.2.2.2.2.1),k.2.2.2.2.2.2.2.1,(k.2.2.2.2.2.2.2.2.1,k.2.2.2.2.2.2.2.2.2.1,k.2.2.2.2.2.2.2.2.2.2.1),k.2.2.2.2.2.2.2.2.2.2.2.1,k.2.2.2.2.2.2.2.2.2.2.2.2.1)]).length 216)<|
   a k.2.2.2.2.2.2.2.2.2.2.2.2.2.1 k.2.2.2.2.2.2.2.2.2.2.2.2.2.2 (h++[(k.1,k.2.1,Ex.mk k.2.2.1 k.2.2.2.1 k.2.2.2.2.1,(k.2.2.2.2.2.1,k.2.2.2.2.2.2.1),k.2.2.2.2.2.2.2.1,(k.2.2.2.2.2.2.2.2.1,k.2.2.2.2.2.2.2.2.2.1,k.2.2.2.2.2.2.2.2.2.2.1),k.2.2.2.2.2.2.2.2.2.2.2.1,k.2.2.2.2.2.2.2.2.2.2.2.2.1)]))
   (b f g d e h))
def F3:Lp:=lq [(0,.ref 50 0),(2,.ref 0 0),(5,aZ),(3,.ref 1 0)] [bS,a8n,a8m,a83] [.mA 3 1 (.row 67 tN [] true)] [xp (.exit 0) [0,2,3]]
def aBY[aA](N:Nat)(a:F3.V->O):F3.F:=λx b _ _=>aOH N (λc d e=>a (x.1,c,d,x.2.2.2.1,x.2.2.2.2.1,e)) (λf g h i j=>b (f,g,h,i,j)) x.1 x.2.2.2.1 x.2.2.2.2.1 x.2.1 x.2.2.1 x.2.2.2.2.2
def K0[aA](N:Nat):=bL F3 (aBY N)
def aBW[aA](N:Nat)(a:aD)(b:aQ)(c:Bool)(d e:aD)(f:dP)(g:aQ->Bool->aD->aD->dP->O):O:=K0 N N (a,b,c,d,e,f) (λy=>g y.1 y.2.1 y.2.2.1 y.2.2.2.1 y.2.2.2.2) nn nn
def aOD[aA](_:Nat):Hint:=(.seq (.seq (.cF [1006] [] [[],[],[],[],[],[],[],[],[50],[],[]]) .d) (.block (.cF [] [] [[],[],[],[50],[],[228,2],[],[1]])))
theorem aOG(N:Nat):LS (aBX N) Tryz.f38 [1,1,0,0,0] F3 (K0 N N):=gF (@aOD · N) (by exact⟨⟨⟨⟩,⟨⟩⟩,⟨⟩⟩) (@aBY · N) N
def QL[aA](N:Nat)(a:aQ)(b:Bool):O:=
 cb (PC N a b)  λc=>
 aBW N c.1 c.2.1 c.2.2 [] c.1 []
  (λd e _ f g=>
   cb (Er N 0 [(102:UInt8),97,99,116] d e)  λh=>
   cb (Eo N 0 [(97:UInt8),115,107] h.2.1 h.2.2)  λi=>
   some (aB CI (f,g,h.1,i.1,i.2.1,i.2.2)))
def CH(N:Nat)(a:aQ)(b:Bool):Option (aD×dP×dF×eF×aQ×Bool):=(QL N a b).bind (aG CI)
def aOE[aA](N:Nat):Hint:=(.seq .d (.seq .d (.seq (.block (F3.h (K0 N N))) .d)))
def aBZ(N:Nat):KP:=bN 38 Tryz.f38 aOC CI (aBX N) (@aOE · N) (by exact⟨⟨⟩,⟨⟩,aOG N,⟨⟩⟩) λA d=>@QL A N d.1 d.2
def aO3:Sg:=ag [.ref 50 0,aC,aZ,.fn 1000038 [.ref 50 0]] [bS]
def CJ:aF:=(.e k8 (Ty.zero _),[bS])
def aB6(N:Nat):List KP:=[jW N,pU N,aBZ N]
def aO8[aA](N:Nat)(a b:aQ->Bool->cY->O)(c:Int)(d:aD)(e:aQ)(f:Bool)(g:cY):O:=
 br (!f)
  (br (decide ((↑g.length:Int)<c))
   (br true
    (cb (eH N d e f)  λh=>
    cb (CH N h.1 h.2)  λi=>
    ck (bE (g++[(i.1,i.2.1,i.2.2.1,i.2.2.2.1)]).length 88)<|
    a i.2.2.2.2.1 i.2.2.2.2.2 (g++[(i.1,i.2.1,i.2.2.1,i.2.2.2.1)]))
    (b e f g))
   (cb (iJ N e f)  λj=>
   br (decide (j.1=d))
    (cb (eH N d j.2.1 j.2.2)  λk=>
    cb (CH N k.1 k.2)  λl=>
    ck (bE (g++[(l.1,l.2.1,l.2.2.1,l.2.2.2.1)]).length 88)<|
    a l.2.2.2.2.1 l.2.2.2.2.2 (g++[(l.1,l.2.1,l.2.2.1,l.2.2.2.1)]))
    (b j.2.1 j.2.2 g)))
  (br false
   (cb (eH N d e f)  λm=>
   cb (CH N m.1 m.2)  λn=>
   ck (bE (g++[(n.1,n.2.1,n.2.2.1,n.2.2.2.1)]).length 88)<|
   a n.2.2.2.2.1 n.2.2.2.2.2 (g++[(n.1,n.2.1,n.2.2.1,n.2.2.2.1)]))
   (b e f g))
def Fb:Lp:=lq [(0,.ref 50 0),(1,aC),(2,aZ),(3,.fn 1000038 [.ref 50 0]),(9,.own 0)] [bS,a82] [.lL 9 (.row 49 w4 [] true)] [xp (.exit 0) [9]]
def aB7[aA](N:Nat)(a:Fb.V->O):Fb.F:=λx b _ _=>aO8 N (λc d e=>a (x.1,x.2.1,c,d,e)) (λf g h=>b (f,g,h)) x.1 x.2.1 x.2.2.1 x.2.2.2.1 x.2.2.2.2
def K1[aA](N:Nat):=bL Fb (aB7 N)
def aB5[aA](N:Nat)(a:Int)(b:aD)(c:aQ)(d:Bool)(e:cY)(f:aQ->Bool->cY->O):O:=K1 N N (a,b,c,d,e) (λy=>f y.1 y.2.1 y.2.2) nn nn
def aO4[aA](_:Nat):Hint:=(.seq (.seq (.cF [1011,1006] [] []) .d) .d)
theorem aO6(N:Nat):LS (aB6 N) Tryz.f37 [1,1,0,0,0] Fb (K1 N N):=gF (@aO4 · N) (by exact⟨⟨⟨⟩,⟨⟩⟩,⟨⟩⟩) (@aB7 · N) N
def QR[aA](N:Nat)(a:Int)(b:aD)(c:aQ)(d:Bool):O:=
 aB5 N a b c d []
  (λe f g=>
   some (aB CJ (g,e,f)))
def QQ(N:Nat)(a:Int)(b:aD)(c:aQ)(d:Bool):Option (cY×aQ×Bool):=(QR N a b c d).bind (aG CJ)
def aO5[aA](N:Nat):Hint:=(.seq .d (.seq .d (.seq (.block (Fb.h (K1 N N))) .d)))
def aO7(N:Nat):KP:=bN 37 Tryz.f37 aO3 CJ (aB6 N) (@aO5 · N) (by exact⟨⟨⟩,⟨⟩,aO6 N,⟨⟩⟩) λA d=>@QR A N d.1 d.2.1 d.2.2.1 d.2.2.2
def aWk:Sg:=ag [aZ] []
def A3:aF:=(.aS [.agg [aZ,.e k8 (Ty.zero _)],aC,aC],[])
def aWj(N:Nat):List KP:=[aOi N,pU N,w9 N,aBZ N,aO7 N,Kz N]
def HB[aA](N:Nat)(a:aD):O:=
 br (decide (8192<(↑a.length:Int)))
  (some (aB A3 ([],[],(8192:Int),(4:Int))))
  (cb (QW N a)  λb=>
  cb (eH N [(101:UInt8),120,97,109] b.1 false)  λc=>
  cb (oG N c.1 c.2)  λd=>
  cb (QQ N 0 [(105:UInt8),116,101,109] d.2.1 d.2.2)  λe=>
  br (decide (0<(↑e.2.1.length:Int)))
   (gx e.2.1 0 λf=>
   some (aB A3 ([],[],f.2,(2:Int))))
   (br (e.2.2||decide (b.2<(↑a.length:Int)))
    (some (aB A3 ([],[],b.2,(2:Int))))
    (cb (G4 N d.1 e.1)  λg=>
    br (decide (g≠0))
     (some (aB A3 ([],[],(0:Int),(4:Int))))
     (some (aB A3 (d.1,e.1,(0:Int),(0:Int)))))))
def A2(N:Nat)(a:aD):Option (aD×cY×Int×Int):=(HB N a).bind (aG A3)
def aWl[aA](_:Nat):Hint:=(.seq .d (.seq .d (.seq .d (.seq .d (.seq .d (.seq .d (.seq .d (.seq (.block (.seq .d (.cond (.seq (.cF [] [] [[],[],[],[],[],[],[],[],[100],[],[]]) .d) .d))) .d))))))))
def aE8(N:Nat):KP:=bN 13 Tryz.f13 aWk A3 (aWj N) (@aWl · N) (by exact⟨⟨⟩,⟨⟩,⟨⟩,⟨⟩,⟨⟩,⟨⟩,⟨⟩,⟨⟨⟩,⟨⟨⟩,⟨⟩⟩,⟨⟩⟩,⟨⟩⟩) λA d=>@HB A N d
def aTf:Sg:=ag [.agg [aZ,.e k8 (Ty.zero _)]] []
def LG:aF:=(aZ,[])
def aTe(N:Nat):List KP:=[Kz N,aBV N]
def TO[aA](N:Nat)(a:aD)(b:cY):O:=
 cb (G4 N a b)  λc=>
 br (decide (c≠0))
  (some (aB LG []))
  (cb (CG N a b)  λd=>
  some (aB LG d))
def TN(N:Nat)(a:aD)(b:cY):Option (aD):=(TO N a b).bind (aG LG)
def aDR(N:Nat):KP:=kE 19 Tryz.f19 aTf LG (aTe N) λA d=>@TO A N d.1 d.2
def aNY:Sg:=ag [.e nL (Ty.zero _),.e nL (Ty.zero _),.fn 53 []] []
def AW:aF:=(bA,[])
def aBI(N:Nat):List KP:=[Pw N]
def aN3[aA](N:Nat)(a:Int->O)(b:Bool->O)(c:Unit->O)(d e:dP)(f g:Int):O:=
 br (decide (g<f))
  (gx e g λh=>
  gx d g λi=>
  cb (AV N h.1 h.2.1 (Ex.op h.2.2.1) (Ex.num h.2.2.1) (Ex.kids h.2.2.1) h.2.2.2.1.1 h.2.2.2.1.2 h.2.2.2.2.1 h.2.2.2.2.2.1.1 h.2.2.2.2.2.1.2.1 h.2.2.2.2.2.1.2.2 h.2.2.2.2.2.2.1 h.2.2.2.2.2.2.2 i.1 i.2.1 (Ex.op i.2.2.1) (Ex.num i.2.2.1) (Ex.kids i.2.2.1) i.2.2.2.1.1 i.2.2.2.1.2 i.2.2.2.2.1 i.2.2.2.2.2.1.1 i.2.2.2.2.2.1.2.1 i.2.2.2.2.2.1.2.2 i.2.2.2.2.2.2.1 i.2.2.2.2.2.2.2)  λj=>
  br (!j)
   (b false)
   (a (aH.wrap (g+1))))
  (c ())
def FR:Lp:=lq [(1,.e nL (Ty.zero _)),(2,.fn 53 []),(15,.e nL (Ty.zero _)),(16,aC),(17,aC)] [] [] [λ_=>(.ret,⟨[6],[],[]⟩,⟨[(6,bA)],[],100⟩),xp (.exit 0) []]
def aBJ[aA](N:Nat)(a:FR.V->O):FR.F:=λx b c _=>aN3 N (λd=>a (x.1,x.2.1,x.2.2.1,d)) b c x.1 x.2.1 x.2.2.1 x.2.2.2
def FT[aA](N:Nat):=bL FR (aBJ N)
def aBH[aA](N:Nat)(a b:dP)(c d:Int)(e:Bool->O)(f:Unit->O):O:=FT N N (a,b,c,d) e f nn
theorem aN1(N:Nat):LS (aBI N) Tryz.f52 [1,1,0,1,0,0] FR (FT N N):=eW (@aBJ · N) N
def Pz[aA](N:Nat)(a b:dP):O:=
 br (decide ((↑a.length:Int)≠(↑b.length:Int)))
  (some (aB AW false))
  (aBH N b a ((↑a.length:Int)) 0
   (λc=>
    some (aB AW c))
   (λ(_:Unit)=>
    some (aB AW true)))
def Py(N:Nat)(a b:dP):Option (Bool):=(Pz N a b).bind (aG AW)
def aNZ[aA](N:Nat):Hint:=(.seq .d (.seq .d (.seq (.seq .d (.block (FR.h (FT N N)))) .d)))
def aN2(N:Nat):KP:=bN 52 Tryz.f52 aNY AW (aBI N) (@aNZ · N) (by exact⟨⟨⟩,⟨⟩,⟨⟨⟩,aN1 N⟩,⟨⟩⟩) λA d=>@Pz A N d.1 d.2
def aNP:Sg:=ag [mK,mK] []
def AU:aF:=(bA,[])
def aBF(_:Nat):List KP:=[]
def aNU[aA](_:Nat)(a:Int->O)(b:Bool->O)(c:Unit->O)(d e:dF)(f g:Int):O:=
 br (decide (g<f))
  (gx d g λh=>
  gx e g λi=>
  br (!(decide (h.1=i.1)&&(decide (h.2.1=i.2.1)&&(decide (h.2.2.1=i.2.2.1)&&decide (h.2.2.2=i.2.2.2)))))
   (b false)
   (a (aH.wrap (g+1))))
  (c ())
def FP:Lp:=lq [(0,mK),(1,mK),(12,aC),(13,aC)] [] [] [λ_=>(.ret,⟨[4],[],[]⟩,⟨[(4,bA)],[],100⟩),xp (.exit 0) []]
def aBG[aA](N:Nat)(a:FP.V->O):FP.F:=λx b c _=>aNU N (λd=>a (x.1,x.2.1,x.2.2.1,d)) b c x.1 x.2.1 x.2.2.1 x.2.2.2
def FQ[aA](N:Nat):=bL FP (aBG N)
def aBE[aA](N:Nat)(a b:dF)(c d:Int)(e:Bool->O)(f:Unit->O):O:=FQ N N (a,b,c,d) e f nn
theorem aNS(N:Nat):LS (aBF N) Tryz.f54 [1,1,0,1,0,0] FP (FQ N N):=eW (@aBG · N) N
def Pu[aA](N:Nat)(a b:dF):O:=
 br (decide ((↑a.length:Int)≠(↑b.length:Int)))
  (some (aB AU false))
  (aBE N a b ((↑a.length:Int)) 0
   (λc=>
    some (aB AU c))
   (λ(_:Unit)=>
    some (aB AU true)))
def Pt(N:Nat)(a b:dF):Option (Bool):=(Pu N a b).bind (aG AU)
def aNQ[aA](N:Nat):Hint:=(.seq .d (.seq .d (.seq (.seq .d (.block (FP.h (FQ N N)))) .d)))
def aNT(N:Nat):KP:=bN 54 Tryz.f54 aNP AU (aBF N) (@aNQ · N) (by exact⟨⟨⟩,⟨⟩,⟨⟨⟩,aNS N⟩,⟨⟩⟩) λA d=>@Pu A N d.1 d.2
def aNH:Sg:=ag [.agg [aC,fQ,dU,dT,aZ,aC,dU],.agg [aC,fQ,dU,dT,aZ,aC,dU]] []
def Pp:aF:=(bA,[])
def aNG(N:Nat):List KP:=[aFR N,VA N,aFK N]
def Pq[aA](N:Nat)(a:Int)(b:bG)(c:aN)(d:aJ)(e:aD)(f:Int)(g:aN)(h:Int)(i:bG)(j:aN)(k:aJ)(l:aD)(m:Int)(n:aN):O:=
 cg (decide (a=h)&&decide (e=l)&&decide (f=m)) (Lv N b i) (false) λo=>
 cg (decide (a=h)&&decide (e=l)&&decide (f=m)&&o) (xF N c j) (false) λp=>
 cg (decide (a=h)&&decide (e=l)&&decide (f=m)&&o&&p) (Ls N d k) (false) λq=>
 cg (decide (a=h)&&decide (e=l)&&decide (f=m)&&o&&p&&q) (xF N g n) (false) λr=>
 some (aB Pp (decide (a=h)&&decide (e=l)&&decide (f=m)&&o&&p&&q&&r))
def FM(N:Nat)(a:Int)(b:bG)(c:aN)(d:aJ)(e:aD)(f:Int)(g:aN)(h:Int)(i:bG)(j:aN)(k:aJ)(l:aD)(m:Int)(n:aN):Option (Bool):=(Pq N a b c d e f g h i j k l m n).bind (aG Pp)
def aBA(N:Nat):KP:=kE 56 Tryz.f56 aNH Pp (aNG N) λA d=>@Pq A N d.1 d.2.1 d.2.2.1 d.2.2.2.1 d.2.2.2.2.1 d.2.2.2.2.2.1 d.2.2.2.2.2.2.1 d.2.2.2.2.2.2.2.1 d.2.2.2.2.2.2.2.2.1 d.2.2.2.2.2.2.2.2.2.1 d.2.2.2.2.2.2.2.2.2.2.1 d.2.2.2.2.2.2.2.2.2.2.2.1 d.2.2.2.2.2.2.2.2.2.2.2.2.1 d.2.2.2.2.2.2.2.2.2.2.2.2.2
def aNJ:Sg:=ag [n9,n9,.fn 56 []] []
def AS:aF:=(bA,[])
def aBC(N:Nat):List KP:=[aBA N]
def aNO[aA](N:Nat)(a:Int->O)(b:Bool->O)(c:Unit->O)(d e:eF)(f g:Int):O:=
 br (decide (g<f))
  (gx e g λh=>
  gx d g λi=>
  cb (FM N h.1 h.2.1 h.2.2.1 h.2.2.2.1 h.2.2.2.2.1 h.2.2.2.2.2.1 h.2.2.2.2.2.2 i.1 i.2.1 i.2.2.1 i.2.2.2.1 i.2.2.2.2.1 i.2.2.2.2.2.1 i.2.2.2.2.2.2)  λj=>
  br (!j)
   (b false)
   (a (aH.wrap (g+1))))
  (c ())
def FN:Lp:=lq [(1,n9),(2,.fn 56 []),(15,n9),(16,aC),(17,aC)] [] [] [λ_=>(.ret,⟨[6],[],[]⟩,⟨[(6,bA)],[],100⟩),xp (.exit 0) []]
def aBD[aA](N:Nat)(a:FN.V->O):FN.F:=λx b c _=>aNO N (λd=>a (x.1,x.2.1,x.2.2.1,d)) b c x.1 x.2.1 x.2.2.1 x.2.2.2
def FO[aA](N:Nat):=bL FN (aBD N)
def aBB[aA](N:Nat)(a b:eF)(c d:Int)(e:Bool->O)(f:Unit->O):O:=FO N N (a,b,c,d) e f nn
theorem aNM(N:Nat):LS (aBC N) Tryz.f55 [1,1,0,1,0,0] FN (FO N N):=eW (@aBD · N) N
def Ps[aA](N:Nat)(a b:eF):O:=
 br (decide ((↑a.length:Int)≠(↑b.length:Int)))
  (some (aB AS false))
  (aBB N b a ((↑a.length:Int)) 0
   (λc=>
    some (aB AS c))
   (λ(_:Unit)=>
    some (aB AS true)))
def Pr(N:Nat)(a b:eF):Option (Bool):=(Ps N a b).bind (aG AS)
def aNK[aA](N:Nat):Hint:=(.seq .d (.seq .d (.seq (.seq .d (.block (FN.h (FO N N)))) .d)))
def aNN(N:Nat):KP:=bN 55 Tryz.f55 aNJ AS (aBC N) (@aNK · N) (by exact⟨⟨⟩,⟨⟩,⟨⟨⟩,aNM N⟩,⟨⟩⟩) λA d=>@Ps A N d.1 d.2
def aN5:Sg:=ag [.agg [aZ,.e nL (Ty.zero _),mK,n9],.agg [aZ,.e nL (Ty.zero _),mK,n9]] []
def QA:aF:=(bA,[])
def aN4(N:Nat):List KP:=[aN2 N,Pw N,aNT N,aNN N,aBA N]
def QB[aA](N:Nat)(a:aD)(b:dP)(c:dF)(d:eF)(e:aD)(f:dP)(g:dF)(h:eF):O:=
 cg (decide (a=e)) (Py N b f) (false) λi=>
 cg (decide (a=e)&&i) (Pt N c g) (false) λj=>
 cg (decide (a=e)&&i&&j) (Pr N d h) (false) λk=>
 some (aB QA (decide (a=e)&&i&&j&&k))
def FU(N:Nat)(a:aD)(b:dP)(c:dF)(d:eF)(e:aD)(f:dP)(g:dF)(h:eF):Option (Bool):=(QB N a b c d e f g h).bind (aG QA)
def aBK(N:Nat):KP:=kE 51 Tryz.f51 aN5 QA (aN4 N) λA d=>@QB A N d.1 d.2.1 d.2.2.1 d.2.2.2.1 d.2.2.2.2.1 d.2.2.2.2.2.1 d.2.2.2.2.2.2.1 d.2.2.2.2.2.2.2
def aN7:Sg:=ag [.e k8 (Ty.zero _),.e k8 (Ty.zero _),.fn 51 []] []
def AX:aF:=(bA,[])
def aBM(N:Nat):List KP:=[aBK N]
def aNc[aA](N:Nat)(a:Int->O)(b:Bool->O)(c:Unit->O)(d e:cY)(f g:Int):O:=
 br (decide (g<f))
  (gx e g λh=>
  gx d g λi=>
  cb (FU N h.1 h.2.1 h.2.2.1 h.2.2.2 i.1 i.2.1 i.2.2.1 i.2.2.2)  λj=>
  br (!j)
   (b false)
   (a (aH.wrap (g+1))))
  (c ())
def FW:Lp:=lq [(1,.e k8 (Ty.zero _)),(2,.fn 51 []),(15,.e k8 (Ty.zero _)),(16,aC),(17,aC)] [] [] [λ_=>(.ret,⟨[6],[],[]⟩,⟨[(6,bA)],[],100⟩),xp (.exit 0) []]
def aBN[aA](N:Nat)(a:FW.V->O):FW.F:=λx b c _=>aNc N (λd=>a (x.1,x.2.1,x.2.2.1,d)) b c x.1 x.2.1 x.2.2.1 x.2.2.2
def FX[aA](N:Nat):=bL FW (aBN N)
def aBL[aA](N:Nat)(a b:cY)(c d:Int)(e:Bool->O)(f:Unit->O):O:=FX N N (a,b,c,d) e f nn
theorem aNa(N:Nat):LS (aBM N) Tryz.f50 [1,1,0,1,0,0] FW (FX N N):=eW (@aBN · N) N
def QD[aA](N:Nat)(a b:cY):O:=
 br (decide ((↑a.length:Int)≠(↑b.length:Int)))
  (some (aB AX false))
  (aBL N b a ((↑a.length:Int)) 0
   (λc=>
    some (aB AX c))
   (λ(_:Unit)=>
    some (aB AX true)))
def QC(N:Nat)(a b:cY):Option (Bool):=(QD N a b).bind (aG AX)
def aN8[aA](N:Nat):Hint:=(.seq .d (.seq .d (.seq (.seq .d (.block (FW.h (FX N N)))) .d)))
def aNb(N:Nat):KP:=bN 50 Tryz.f50 aN7 AX (aBM N) (@aN8 · N) (by exact⟨⟨⟩,⟨⟩,⟨⟨⟩,aNa N⟩,⟨⟩⟩) λA d=>@QD A N d.1 d.2
def aS2:Sg:=ag [.agg [aZ,.e k8 (Ty.zero _)],.agg [aZ,.e k8 (Ty.zero _)]] []
def S8:aF:=(bA,[])
def aS1(N:Nat):List KP:=[aNb N,aBK N]
def S9[aA](N:Nat)(a:aD)(b:cY)(c:aD)(d:cY):O:=
 cg (decide (a=c)) (QC N b d) (false) λe=>
 some (aB S8 (decide (a=c)&&e))
def S7(N:Nat)(a:aD)(b:cY)(c:aD)(d:cY):Option (Bool):=(S9 N a b c d).bind (aG S8)
def aS4(N:Nat):KP:=kE 21 Tryz.f21 aS2 S8 (aS1 N) λA d=>@S9 A N d.1 d.2.1 d.2.2.1 d.2.2.2
end
end Go.Proofs
/- Lists held against each other. -/
namespace Go.Proofs
open Go Go.Ax Go.Ax.aA
theorem aYN{N:Nat}(s10 s21:List (Int×Int))(hl:s10.length<N)(hN:N<=1000000):VM N s10 s21=some (bT s10 s21):=by
 unfold VM VN aF0;exact pI (T:=λk0 k1=>H9 N N (s10,s21,((↑s10.length:Int)),((0:Int))) k0 k1 nn) (mk:=aB Af) (un:=aG Af) (λh k0 k1=>pH s10 s21 h hN (λy y' p q=>br (!(decide (y.1=y'.1)&&decide (y.2=y'.2))) p q) (λy _ y' _ p q=>EI ((by rw[wW,<-aAA];exact not_congr (by simp[Z3]))) p q) (λn i=>H9 N n (s10,s21,((↑s10.length:Int)),i) k0 k1 nn) k0 k1 (λ_ _=>rfl) hl) (λ_=>rfl)
theorem aXz{N:Nat}(s10 s21:List (Int×(Int×Int)))(hl:s10.length<N)(hN:N<=1000000):HZ N s10 s21=some (bT s10 s21):=by
 unfold HZ VH aFS;exact pI (T:=λk0 k1=>H4 N N (s10,s21,((↑s10.length:Int)),((0:Int))) k0 k1 nn) (mk:=aB Ad) (un:=aG Ad) (λh k0 k1=>pH s10 s21 h hN (λy y' p q=>br (!(decide (y.1=y'.1)&&(decide (y.2.1=y'.2.1)&&decide (y.2.2=y'.2.2)))) p q) (λy _ y' _ p q=>EI ((by rw[wW,<-aAA];exact not_congr (by simp[Z3]))) p q) (λn i=>H4 N n (s10,s21,((↑s10.length:Int)),i) k0 k1 nn) k0 k1 (λ_ _=>rfl) hl) (λ_=>rfl)
theorem aFQ{N:Nat}(s10 s21:List (Int×(List UInt8)))(hl:s10.length<N)(hN:N<=1000000):Lv N s10 s21=some (bT s10 s21):=by
 unfold Lv VG aFN;exact pI (T:=λk0 k1=>HY N N (s10,s21,((↑s10.length:Int)),((0:Int))) k0 k1 nn) (mk:=aB Ac) (un:=aG Ac) (λh k0 k1=>pH s10 s21 h hN (λy y' p q=>br (!(decide (y.1=y'.1)&&decide (y.2=y'.2))) p q) (λy _ y' _ p q=>EI ((by rw[wW,<-aAA];exact not_congr (by simp[Z3]))) p q) (λn i=>HY N n (s10,s21,((↑s10.length:Int)),i) k0 k1 nn) k0 k1 (λ_ _=>rfl) hl) (λ_=>rfl)
theorem aFJ{N:Nat}(s10 s21:List Int)(hl:s10.length<N)(hN:N<=1000000):Ls N s10 s21=some (bT s10 s21):=by
 unfold Ls VE aFG;exact pI (T:=λk0 k1=>HV N N (s10,s21,((↑s10.length:Int)),((0:Int))) k0 k1 nn) (mk:=aB Aa) (un:=aG Aa) (λh k0 k1=>pH s10 s21 h hN (λy y' p q=>br (decide (y≠y')) p q) (λy _ y' _ p q=>EI (eR) p q) (λn i=>HV N n (s10,s21,((↑s10.length:Int)),i) k0 k1 nn) k0 k1 (λ_ _=>rfl) hl) (λ_=>rfl)
theorem Lr{N:Nat}(s10 s21:List (List UInt8))(hl:s10.length<N)(hN:N<=1000000):xF N s10 s21=some (bT s10 s21):=by
 unfold xF VB aFA;exact pI (T:=λk0 k1=>HQ N N (s10,s21,((↑s10.length:Int)),((0:Int))) k0 k1 nn) (mk:=aB A8) (un:=aG A8) (λh k0 k1=>pH s10 s21 h hN (λy y' p q=>br (decide (y≠y')) p q) (λy _ y' _ p q=>EI (eR) p q) (λn i=>HQ N n (s10,s21,((↑s10.length:Int)),i) k0 k1 nn) k0 k1 (λ_ _=>rfl) hl) (λ_=>rfl)
theorem aNR{N:Nat}(s10 s21:List (Int×(Int×(Int×Int))))(hl:s10.length<N)(hN:N<=1000000):Pt N s10 s21=some (bT s10 s21):=by
 unfold Pt Pu aBE;exact pI (T:=λk0 k1=>FQ N N (s10,s21,((↑s10.length:Int)),((0:Int))) k0 k1 nn) (mk:=aB AU) (un:=aG AU) (λh k0 k1=>pH s10 s21 h hN (λy y' p q=>br (!(decide (y.1=y'.1)&&(decide (y.2.1=y'.2.1)&&(decide (y.2.2.1=y'.2.2.1)&&decide (y.2.2.2=y'.2.2.2))))) p q) (λy _ y' _ p q=>EI ((by rw[wW,<-aAA];exact not_congr (by simp[Z3]))) p q) (λn i=>FQ N n (s10,s21,((↑s10.length:Int)),i) k0 k1 nn) k0 k1 (λ_ _=>rfl) hl) (λ_=>rfl)
theorem aYE{N:Nat}(s10 s21:List gL)(hl:s10.length<N)(hN:N<=1000000)(hz:∀y∈s10,∀y'∈s21,HZ N y y'=some (bT y y')):VI N s10 s21=some (bT s10 s21):=by
 unfold VI VJ aFW;exact pI (T:=λk0 k1=>H6 N N (s21,s10,((↑s10.length:Int)),((0:Int))) k0 k1 nn) (mk:=aB Ae) (un:=aG Ae) (λh k0 k1=>pH s10 s21 h hN (λy y' p q=>cb (HZ N y y') λr9=>br (!r9) p q) (λy hy y' hy' p q=>yU (hz y hy y' hy') p q) (λn i=>H6 N n (s21,s10,((↑s10.length:Int)),i) k0 k1 nn) k0 k1 (λ_ _=>rfl) hl) (λ_=>rfl)
theorem aXh{N:Nat}(s10 s21:List aN)(hl:s10.length<N)(hN:N<=1000000)(hz:∀y∈s10,∀y'∈s21,xF N y y'=some (bT y y')):VC N s10 s21=some (bT s10 s21):=by
 unfold VC VD aFD;exact pI (T:=λk0 k1=>HT N N (s21,s10,((↑s10.length:Int)),((0:Int))) k0 k1 nn) (mk:=aB A9) (un:=aG A9) (λh k0 k1=>pH s10 s21 h hN (λy y' p q=>cb (xF N y y') λr9=>br (!r9) p q) (λy hy y' hy' p q=>yU (hz y hy y' hy') p q) (λn i=>HT N n (s21,s10,((↑s10.length:Int)),i) k0 k1 nn) k0 k1 (λ_ _=>rfl) hl) (λ_=>rfl)
theorem aX7{N:Nat}(s10 s21:List (Int×eQ))(hl:s10.length<N)(hN:N<=1000000)(hz:∀y∈s10,∀y'∈s21,Ha N y.1 y.2 y'.1 y'.2=some (bT y y')):Uy N s10 s21=some (bT s10 s21):=by
 unfold Uy Uz aEx;exact pI (T:=λk0 k1=>HO N N (s21,s10,((↑s10.length:Int)),((0:Int))) k0 k1 nn) (mk:=aB A7) (un:=aG A7) (λh k0 k1=>pH s10 s21 h hN (λy y' p q=>cb (Ha N y.1 y.2 y'.1 y'.2) λr9=>br (!r9) p q) (λy hy y' hy' p q=>yU (hz y hy y' hy') p q) (λn i=>HO N n (s21,s10,((↑s10.length:Int)),i) k0 k1 nn) k0 k1 (λ_ _=>rfl) hl) (λ_=>rfl)
theorem aX1{N:Nat}(s10 s21:List eM)(hl:s10.length<N)(hN:N<=1000000)(hz:∀y∈s10,∀y'∈s21,H7 N y y'=some (bT y y')):Uw N s10 s21=some (bT s10 s21):=by
 unfold Uw Ux aEu;exact pI (T:=λk0 k1=>HM N N (s21,s10,((↑s10.length:Int)),((0:Int))) k0 k1 nn) (mk:=aB A6) (un:=aG A6) (λh k0 k1=>pH s10 s21 h hN (λy y' p q=>cb (H7 N y y') λr9=>br (!r9) p q) (λy hy y' hy' p q=>yU (hz y hy y' hy') p q) (λn i=>HM N n (s21,s10,((↑s10.length:Int)),i) k0 k1 nn) k0 k1 (λ_ _=>rfl) hl) (λ_=>rfl)
theorem aTP{N:nN}(s10 s21:List Ex)(hl:s10.length<N.1)(hN:N.1<=1000000)(hz:∀y∈s10,∀y'∈s21,HW N (Ex.op y,Ex.num y,Ex.kids y,Ex.op y',Ex.num y',Ex.kids y')=some (bT y y')):LA N s10 s21=some (bT s10 s21):=by
 unfold LA Sw aDJ;exact pI (T:=λk0 k1=>G7 N N.1 (s21,s10,((↑s10.length:Int)),((0:Int))) k0 k1 nn) (mk:=aB AY) (un:=aG AY) (λh k0 k1=>pH s10 s21 h hN (λy y' p q=>cb (HW N (Ex.op y,Ex.num y,Ex.kids y,Ex.op y',Ex.num y',Ex.kids y')) λr9=>br (!r9) p q) (λy hy y' hy' p q=>yU (hz y hy y' hy') p q) (λn i=>G7 N n (s21,s10,((↑s10.length:Int)),i) k0 k1 nn) k0 k1 (λ_ _=>rfl) hl) (λ_=>rfl)
theorem aN0{N:Nat}(s10 s21:List (Int×(bG×(Ex×((Int×(List Int))×(cH×((Int×(Int×cK))×(bI×aN))))))))(hl:s10.length<N)(hN:N<=1000000)(hz:∀y∈s10,∀y'∈s21,AV N y.1 y.2.1 (match y.2.2.1 with|Ex.mk a n kids=>a) (match y.2.2.1 with|Ex.mk op a kids=>a) (match y.2.2.1 with|Ex.mk op n a=>a) y.2.2.2.1.1 y.2.2.2.1.2 y.2.2.2.2.1 y.2.2.2.2.2.1.1 y.2.2.2.2.2.1.2.1 y.2.2.2.2.2.1.2.2 y.2.2.2.2.2.2.1 y.2.2.2.2.2.2.2 y'.1 y'.2.1 (match y'.2.2.1 with|Ex.mk a n kids=>a) (match y'.2.2.1 with|Ex.mk op a kids=>a) (match y'.2.2.1 with|Ex.mk op n a=>a) y'.2.2.2.1.1 y'.2.2.2.1.2 y'.2.2.2.2.1 y'.2.2.2.2.2.1.1 y'.2.2.2.2.2.1.2.1 y'.2.2.2.2.2.1.2.2 y'.2.2.2.2.2.2.1 y'.2.2.2.2.2.2.2=some (bT y y')):Py N s10 s21=some (bT s10 s21):=by
 unfold Py Pz aBH;exact pI (T:=λk0 k1=>FT N N (s21,s10,((↑s10.length:Int)),((0:Int))) k0 k1 nn) (mk:=aB AW) (un:=aG AW) (λh k0 k1=>pH s10 s21 h hN (λy y' p q=>cb (AV N y.1 y.2.1 (match y.2.2.1 with|Ex.mk a n kids=>a) (match y.2.2.1 with|Ex.mk op a kids=>a) (match y.2.2.1 with|Ex.mk op n a=>a) y.2.2.2.1.1 y.2.2.2.1.2 y.2.2.2.2.1 y.2.2.2.2.2.1.1 y.2.2.2.2.2.1.2.1 y.2.2.2.2.2.1.2.2 y.2.2.2.2.2.2.1 y.2.2.2.2.2.2.2 y'.1 y'.2.1 (match y'.2.2.1 with|Ex.mk a n kids=>a) (match y'.2.2.1 with|Ex.mk op a kids=>a) (match y'.2.2.1 with|Ex.mk op n a=>a) y'.2.2.2.1.1 y'.2.2.2.1.2 y'.2.2.2.2.1 y'.2.2.2.2.2.1.1 y'.2.2.2.2.2.1.2.1 y'.2.2.2.2.2.1.2.2 y'.2.2.2.2.2.2.1 y'.2.2.2.2.2.2.2) λr9=>br (!r9) p q) (λy hy y' hy' p q=>yU (hz y hy y' hy') p q) (λn i=>FT N n (s21,s10,((↑s10.length:Int)),i) k0 k1 nn) k0 k1 (λ_ _=>rfl) hl) (λ_=>rfl)
theorem aNL{N:Nat}(s10 s21:List (Int×(bG×(aN×((List Int)×((List UInt8)×(Int×aN)))))))(hl:s10.length<N)(hN:N<=1000000)(hz:∀y∈s10,∀y'∈s21,FM N y.1 y.2.1 y.2.2.1 y.2.2.2.1 y.2.2.2.2.1 y.2.2.2.2.2.1 y.2.2.2.2.2.2 y'.1 y'.2.1 y'.2.2.1 y'.2.2.2.1 y'.2.2.2.2.1 y'.2.2.2.2.2.1 y'.2.2.2.2.2.2=some (bT y y')):Pr N s10 s21=some (bT s10 s21):=by
 unfold Pr Ps aBB;exact pI (T:=λk0 k1=>FO N N (s21,s10,((↑s10.length:Int)),((0:Int))) k0 k1 nn) (mk:=aB AS) (un:=aG AS) (λh k0 k1=>pH s10 s21 h hN (λy y' p q=>cb (FM N y.1 y.2.1 y.2.2.1 y.2.2.2.1 y.2.2.2.2.1 y.2.2.2.2.2.1 y.2.2.2.2.2.2 y'.1 y'.2.1 y'.2.2.1 y'.2.2.2.1 y'.2.2.2.2.1 y'.2.2.2.2.2.1 y'.2.2.2.2.2.2) λr9=>br (!r9) p q) (λy hy y' hy' p q=>yU (hz y hy y' hy') p q) (λn i=>FO N n (s21,s10,((↑s10.length:Int)),i) k0 k1 nn) k0 k1 (λ_ _=>rfl) hl) (λ_=>rfl)
theorem aN9{N:Nat}(s10 s21:List ((List UInt8)×(dP×(dF×eF))))(hl:s10.length<N)(hN:N<=1000000)(hz:∀y∈s10,∀y'∈s21,FU N y.1 y.2.1 y.2.2.1 y.2.2.2 y'.1 y'.2.1 y'.2.2.1 y'.2.2.2=some (bT y y')):QC N s10 s21=some (bT s10 s21):=by
 unfold QC QD aBL;exact pI (T:=λk0 k1=>FX N N (s21,s10,((↑s10.length:Int)),((0:Int))) k0 k1 nn) (mk:=aB AX) (un:=aG AX) (λh k0 k1=>pH s10 s21 h hN (λy y' p q=>cb (FU N y.1 y.2.1 y.2.2.1 y.2.2.2 y'.1 y'.2.1 y'.2.2.1 y'.2.2.2) λr9=>br (!r9) p q) (λy hy y' hy' p q=>yU (hz y hy y' hy') p q) (λn i=>FX N n (s21,s10,((↑s10.length:Int)),i) k0 k1 nn) k0 k1 (λ_ _=>rfl) hl) (λ_=>rfl)
end Go.Proofs
/- Lists whose elements are all right. -/
namespace Go.Proofs
open Go Go.Ax Go.Ax.aA
theorem nO(N:Nat)(n a b:Int):eU N n a b=some (decide (a<=n)&&decide (n<=b)):=rfl
theorem aNj{N:Nat}(l0:cY)(least1:Int)(most2:Int)(q:((List UInt8)×(dP×(dF×eF)))->Bool)(hl:l0.length<N)(hN:N<=1000000)(hp:∀y∈l0,KS N y.1 y.2.1 y.2.2.1 y.2.2.2=some (q y)):QG N l0 least1 most2=some (dK l0 least1 most2 q):=by
 have h1:∀y∈l0,MA N y.1 y.2.1 y.2.2.1 y.2.2.2=some (!q y):=λy hy=>by
  unfold MA V3;rw[hp y hy,aK];rfl
 have h2:Tn N l0=some (gK l0 λy=>!q y):=by
  unfold Tn To aDb;exact oW (T:=λk0 k1=>Gf N N (l0,((↑l0.length:Int)),((0:Int))) k0 k1 nn) (mk:=aB Cq) (un:=aG Cq) (λk0 k1=>nV l0 (λy=>MA N y.1 y.2.1 y.2.2.1 y.2.2.2) (λy=>!q y) h1 hN (λn i=>Gf N n (l0,((↑l0.length:Int)),i) k0 k1 nn) k0 k1 (λ_ _=>rfl) hl) (λ_=>rfl)
 have h3:V7 N l0=some (l0.any λy=>!q y):=by
  unfold V7 V9;rw[h2,aK];simp only[lM];rfl
 unfold QG QH;rw[nO,aK];exact n8 (mk:=aB CE) (un:=aG CE) h3 rfl (λ_=>rfl)
theorem aYi{N:Nat}(l0:dP)(least1:Int)(most2:Int)(q:(Int×(bG×(Ex×((Int×(List Int))×(cH×((Int×(Int×cK))×(bI×aN)))))))->Bool)(hl:l0.length<N)(hN:N<=1000000)(hp:∀y∈l0,Hb N y.1 y.2.1 (Ex.op y.2.2.1) (Ex.num y.2.2.1) (Ex.kids y.2.2.1) y.2.2.2.1.1 y.2.2.2.1.2 y.2.2.2.2.1 y.2.2.2.2.2.1.1 y.2.2.2.2.2.1.2.1 y.2.2.2.2.2.1.2.2 y.2.2.2.2.2.2.1 y.2.2.2.2.2.2.2=some (q y)):VZ N l0 least1 most2=some (dK l0 least1 most2 q):=by
 have h1:∀y∈l0,LU N y.1 y.2.1 (Ex.op y.2.2.1) (Ex.num y.2.2.1) (Ex.kids y.2.2.1) y.2.2.2.1.1 y.2.2.2.1.2 y.2.2.2.2.1 y.2.2.2.2.2.1.1 y.2.2.2.2.2.1.2.1 y.2.2.2.2.2.1.2.2 y.2.2.2.2.2.2.1 y.2.2.2.2.2.2.2=some (!q y):=λy hy=>by
  unfold LU Te;rw[hp y hy,aK];rfl
 have h2:SY N l0=some (gK l0 λy=>!q y):=by
  unfold SY SZ aCj;exact oW (T:=λk0 k1=>GU N N (l0,((↑l0.length:Int)),((0:Int))) k0 k1 nn) (mk:=aB C9) (un:=aG C9) (λk0 k1=>nV l0 (λy=>LU N y.1 y.2.1 (Ex.op y.2.2.1) (Ex.num y.2.2.1) (Ex.kids y.2.2.1) y.2.2.2.1.1 y.2.2.2.1.2 y.2.2.2.2.1 y.2.2.2.2.2.1.1 y.2.2.2.2.2.1.2.1 y.2.2.2.2.2.1.2.2 y.2.2.2.2.2.2.1 y.2.2.2.2.2.2.2) (λy=>!q y) h1 hN (λn i=>GU N n (l0,((↑l0.length:Int)),i) k0 k1 nn) k0 k1 (λ_ _=>rfl) hl) (λ_=>rfl)
 have h3:Tf N l0=some (l0.any λy=>!q y):=by
  unfold Tf Th;rw[h2,aK];simp only[lM];rfl
 unfold VZ V0;rw[nO,aK];exact n8 (mk:=aB DS) (un:=aG DS) h3 rfl (λ_=>rfl)
theorem aY8{N:Nat}(l0:dF)(least1:Int)(most2:Int)(q:(Int×(Int×(Int×Int)))->Bool)(hl:l0.length<N)(hN:N<=1000000)(hp:∀y∈l0,Lx N y.1 y.2.1 y.2.2.1 y.2.2.2=some (q y)):VW N l0 least1 most2=some (dK l0 least1 most2 q):=by
 have h1:∀y∈l0,LC N y.1 y.2.1 y.2.2.1 y.2.2.2=some (!q y):=λy hy=>by
  unfold LC TF;rw[hp y hy,aK];rfl
 have h2:R9 N l0=some (gK l0 λy=>!q y):=by
  unfold R9 Ra aC3;exact oW (T:=λk0 k1=>GO N N (l0,((↑l0.length:Int)),((0:Int))) k0 k1 nn) (mk:=aB C2) (un:=aG C2) (λk0 k1=>nV l0 (λy=>LC N y.1 y.2.1 y.2.2.1 y.2.2.2) (λy=>!q y) h1 hN (λn i=>GO N n (l0,((↑l0.length:Int)),i) k0 k1 nn) k0 k1 (λ_ _=>rfl) hl) (λ_=>rfl)
 have h3:TG N l0=some (l0.any λy=>!q y):=by
  unfold TG TI;rw[h2,aK];simp only[lM];rfl
 unfold VW VX;rw[nO,aK];exact n8 (mk:=aB DQ) (un:=aG DQ) h3 rfl (λ_=>rfl)
theorem aY0{N:Nat}(l0:eF)(least1:Int)(most2:Int)(q:(Int×(bG×(aN×((List Int)×((List UInt8)×(Int×aN))))))->Bool)(hl:l0.length<N)(hN:N<=1000000)(hp:∀y∈l0,Lw N y.1 y.2.1 y.2.2.1 y.2.2.2.1 y.2.2.2.2.1 y.2.2.2.2.2.1 y.2.2.2.2.2.2=some (q y)):VS N l0 least1 most2=some (dK l0 least1 most2 q):=by
 have h1:∀y∈l0,LB N y.1 y.2.1 y.2.2.1 y.2.2.2.1 y.2.2.2.2.1 y.2.2.2.2.2.1 y.2.2.2.2.2.2=some (!q y):=λy hy=>by
  unfold LB TA;rw[hp y hy,aK];rfl
 have h2:R7 N l0=some (gK l0 λy=>!q y):=by
  unfold R7 R8 aC0;exact oW (T:=λk0 k1=>GM N N (l0,((↑l0.length:Int)),((0:Int))) k0 k1 nn) (mk:=aB C1) (un:=aG C1) (λk0 k1=>nV l0 (λy=>LB N y.1 y.2.1 y.2.2.1 y.2.2.2.1 y.2.2.2.2.1 y.2.2.2.2.2.1 y.2.2.2.2.2.2) (λy=>!q y) h1 hN (λn i=>GM N n (l0,((↑l0.length:Int)),i) k0 k1 nn) k0 k1 (λ_ _=>rfl) hl) (λ_=>rfl)
 have h3:TB N l0=some (l0.any λy=>!q y):=by
  unfold TB TD;rw[h2,aK];simp only[lM];rfl
 unfold VS VT;rw[nO,aK];exact n8 (mk:=aB DP) (un:=aG DP) h3 rfl (λ_=>rfl)
theorem aZE{N:Nat}(l0:(List UInt8))(least1:Int)(most2:Int)(q:UInt8->Bool)(hl:l0.length<N)(hN:N<=1000000)(hp:∀y∈l0,Vb N y=some (q y)):Vd N l0 least1 most2=some (dK l0 least1 most2 q):=by
 have h1:∀y∈l0,LV N y=some (!q y):=λy hy=>by
  unfold LV Tq;rw[hp y hy,aK];rfl
 have h2:S0 N l0=some (gK l0 λy=>!q y):=by
  unfold S0 S1 aCm;exact oW (T:=λk0 k1=>GW N N (l0,((↑l0.length:Int)),((0:Int))) k0 k1 nn) (mk:=aB Ca) (un:=aG Ca) (λk0 k1=>nV l0 (λy=>LV N y) (λy=>!q y) h1 hN (λn i=>GW N n (l0,((↑l0.length:Int)),i) k0 k1 nn) k0 k1 (λ_ _=>rfl) hl) (λ_=>rfl)
 have h3:Tr N l0=some (l0.any λy=>!q y):=by
  unfold Tr Tt;rw[h2,aK];simp only[lM];rfl
 unfold Vd Ve;rw[nO,aK];exact n8 (mk:=aB DU) (un:=aG DU) h3 rfl (λ_=>rfl)
theorem a0Y{N:Nat}(l0:(List UInt8))(least1:Int)(most2:Int)(q:UInt8->Bool)(hl:l0.length<N)(hN:N<=1000000)(hp:∀y∈l0,Ti N y=some (q y)):WM N l0 least1 most2=some (dK l0 least1 most2 q):=by
 have h1:∀y∈l0,MN N y=some (!q y):=λy hy=>by
  unfold MN WG;rw[hp y hy,aK];rfl
 have h2:Vz N l0=some (gK l0 λy=>!q y):=by
  unfold Vz WB aGA;exact oW (T:=λk0 k1=>Hu N N (l0,((↑l0.length:Int)),((0:Int))) k0 k1 nn) (mk:=aB DY) (un:=aG DY) (λk0 k1=>nV l0 (λy=>MN N y) (λy=>!q y) h1 hN (λn i=>Hu N n (l0,((↑l0.length:Int)),i) k0 k1 nn) k0 k1 (λ_ _=>rfl) hl) (λ_=>rfl)
 have h3:WH N l0=some (l0.any λy=>!q y):=by
  unfold WH WJ;rw[h2,aK];simp only[lM];rfl
 unfold WM WN;rw[nO,aK];exact n8 (mk:=aB D0) (un:=aG D0) h3 rfl (λ_=>rfl)
theorem aUH{N:Nat}(l0:(List Int))(least1:Int)(most2:Int)(q:Int->Bool)(hl:l0.length<N)(hN:N<=1000000)(hp:∀y∈l0,TZ N y=some (q y)):LM N l0 least1 most2=some (dK l0 least1 most2 q):=by
 have h1:∀y∈l0,Kq N y=some (!q y):=λy hy=>by
  unfold Kq SN;rw[hp y hy,aK];rfl
 have h2:RQ N l0=some (gK l0 λy=>!q y):=by
  unfold RQ RR aCR;exact oW (T:=λk0 k1=>GJ N N (l0,((↑l0.length:Int)),((0:Int))) k0 k1 nn) (mk:=aB CX) (un:=aG CX) (λk0 k1=>nV l0 (λy=>Kq N y) (λy=>!q y) h1 hN (λn i=>GJ N n (l0,((↑l0.length:Int)),i) k0 k1 nn) k0 k1 (λ_ _=>rfl) hl) (λ_=>rfl)
 have h3:SO N l0=some (l0.any λy=>!q y):=by
  unfold SO SQ;rw[h2,aK];simp only[lM];rfl
 unfold LM T4;rw[nO,aK];exact n8 (mk:=aB Co) (un:=aG Co) h3 rfl (λ_=>rfl)
theorem a0D{N:Nat}(l0:(List Int))(least1:Int)(most2:Int)(q:Int->Bool)(hl:l0.length<N)(hN:N<=1000000)(hp:∀y∈l0,Sx N y=some (q y)):WC N l0 least1 most2=some (dK l0 least1 most2 q):=by
 have h1:∀y∈l0,MM N y=some (!q y):=λy hy=>by
  unfold MM Vu;rw[hp y hy,aK];rfl
 have h2:Vq N l0=some (gK l0 λy=>!q y):=by
  unfold Vq Vr aFw;exact oW (T:=λk0 k1=>Hs N N (l0,((↑l0.length:Int)),((0:Int))) k0 k1 nn) (mk:=aB DX) (un:=aG DX) (λk0 k1=>nV l0 (λy=>MM N y) (λy=>!q y) h1 hN (λn i=>Hs N n (l0,((↑l0.length:Int)),i) k0 k1 nn) k0 k1 (λ_ _=>rfl) hl) (λ_=>rfl)
 have h3:Vv N l0=some (l0.any λy=>!q y):=by
  unfold Vv Vy;rw[h2,aK];simp only[lM];rfl
 unfold WC WD;rw[nO,aK];exact n8 (mk:=aB DZ) (un:=aG DZ) h3 rfl (λ_=>rfl)
theorem aTz{N:Nat}(l0:cH)(least1:Int)(most2:Int)(is3_0:(Int×(bG×(Ex×((Int×(List Int))×(cH×((Int×(Int×cK))×(bI×aN))))))))(q:aN->Bool)(hl:l0.length<N)(hN:N<=1000000)(hp:∀y∈l0,LK N y is3_0=some (q y)):LL N l0 least1 most2 is3_0=some (dK l0 least1 most2 q):=by
 have h1:∀y∈l0,Kp N y is3_0=some (!q y,is3_0):=λy hy=>by
  unfold Kp SI;rw[hp y hy,aK];rfl
 have h2:RO N l0 is3_0=some (gK l0 (λy=>!q y),is3_0):=by
  unfold RO RP aCO;exact YJ (T:=λk0 k1=>GH N N (l0,((↑l0.length:Int)),((0:Int)),is3_0) k0 k1 nn) (mk:=aB CW) (un:=aG CW) (λk0 k1=>YI l0 (λy=>Kp N y is3_0) (λy=>!q y) is3_0 h1 hN (λn i (e:(Int×(bG×(Ex×((Int×(List Int))×(cH×((Int×(Int×cK))×(bI×aN))))))))=>GH N n (l0,((↑l0.length:Int)),i,e) k0 k1 nn) (λi e=>k0 (i,e)) k1 (λ_ _=>rfl) hl) (λ_=>rfl)
 have h3:SJ N l0 is3_0=some (l0.any (λy=>!q y),is3_0):=by
  unfold SJ SL;rw[h2,aK];simp only[lM];rfl
 unfold LL TY;rw[nO,aK];exact n8 (mk:=aB Cn) (un:=aG Cn) h3 rfl (λ_=>rfl)
theorem aTs{N:Nat}(l0:aN)(least1:Int)(most2:Int)(is3_0:Int)(is3_1:Int)(q:(List UInt8)->Bool)(hl:l0.length<N)(hN:N<=1000000)(hp:∀y∈l0,Kn N y is3_0 is3_1=some (q y)):xB N l0 least1 most2 is3_0 is3_1=some (dK l0 least1 most2 q):=by
 have h1:∀y∈l0,Ko N y is3_0 is3_1=some (!q y,(is3_0,is3_1)):=λy hy=>by
  unfold Ko SD;rw[hp y hy,aK];rfl
 have h2:RM N l0 is3_0 is3_1=some (gK l0 (λy=>!q y),(is3_0,is3_1)):=by
  unfold RM RN aCL;exact YJ (T:=λk0 k1=>GF N N (l0,((↑l0.length:Int)),((0:Int)),is3_0,is3_1) k0 k1 nn) (mk:=aB CV) (un:=aG CV) (λk0 k1=>YI l0 (λy=>Ko N y is3_0 is3_1) (λy=>!q y) (is3_0,is3_1) h1 hN (λn i (e:Int×Int)=>GF N n (l0,((↑l0.length:Int)),i,e.1,e.2) k0 k1 nn) (λi e=>k0 (i,e)) k1 (λ_ _=>rfl) hl) (λ_=>rfl)
 have h3:SE N l0 is3_0 is3_1=some (l0.any (λy=>!q y),(is3_0,is3_1)):=by
  unfold SE SG;rw[h2,aK];simp only[lM];rfl
 unfold xB TV;rw[nO,aK];exact n8 (mk:=aB Cm) (un:=aG Cm) h3 rfl (λ_=>rfl)
theorem aTk{N:Nat}(l0:cK)(least1:Int)(most2:Int)(q:(Int×eQ)->Bool)(hl:l0.length<N)(hN:N<=1000000)(hp:∀y∈l0,LF N y.1 y.2=some (q y)):LH N l0 least1 most2=some (dK l0 least1 most2 q):=by
 have h1:∀y∈l0,Km N y.1 y.2=some (!q y):=λy hy=>by
  unfold Km Rv;rw[hp y hy,aK];rfl
 have h2:RJ N l0=some (gK l0 λy=>!q y):=by
  unfold RJ RL aCI;exact oW (T:=λk0 k1=>GC N N (l0,((↑l0.length:Int)),((0:Int))) k0 k1 nn) (mk:=aB CU) (un:=aG CU) (λk0 k1=>nV l0 (λy=>Km N y.1 y.2) (λy=>!q y) h1 hN (λn i=>GC N n (l0,((↑l0.length:Int)),i) k0 k1 nn) k0 k1 (λ_ _=>rfl) hl) (λ_=>rfl)
 have h3:Rw N l0=some (l0.any λy=>!q y):=by
  unfold Rw Rz;rw[h2,aK];simp only[lM];rfl
 unfold LH TP;rw[nO,aK];exact n8 (mk:=aB Cj) (un:=aG Cj) h3 rfl (λ_=>rfl)
theorem aSA{N:Nat}(l0:bG)(least1:Int)(most2:Int)(q:(Int×(List UInt8))->Bool)(hl:l0.length<N)(hN:N<=1000000)(hp:∀y∈l0,Kr N y.1 y.2=some (q y)):SW N l0 least1 most2=some (dK l0 least1 most2 q):=by
 have h1:∀y∈l0,Kg N y.1 y.2=some (!q y):=λy hy=>by
  unfold Kg RT;rw[hp y hy,aK];rfl
 have h2:Qe N l0=some (gK l0 λy=>!q y):=by
  unfold Qe Qf aBy;exact oW (T:=λk0 k1=>Fz N N (l0,((↑l0.length:Int)),((0:Int))) k0 k1 nn) (mk:=aB CT) (un:=aG CT) (λk0 k1=>nV l0 (λy=>Kg N y.1 y.2) (λy=>!q y) h1 hN (λn i=>Fz N n (l0,((↑l0.length:Int)),i) k0 k1 nn) k0 k1 (λ_ _=>rfl) hl) (λ_=>rfl)
 have h3:RU N l0=some (l0.any λy=>!q y):=by
  unfold RU RX;rw[h2,aK];simp only[lM];rfl
 unfold SW SX;rw[nO,aK];exact n8 (mk:=aB C8) (un:=aG C8) h3 rfl (λ_=>rfl)
theorem aRZ{N:Nat}(l0:eQ)(least1:Int)(most2:Int)(q:(Int×Int)->Bool)(hl:l0.length<N)(hN:N<=1000000)(hp:∀y∈l0,Kl N y.1 y.2=some (q y)):Rr N l0 least1 most2=some (dK l0 least1 most2 q):=by
 have h1:∀y∈l0,Ke N y.1 y.2=some (!q y):=λy hy=>by
  unfold Ke RE;rw[hp y hy,aK];rfl
 have h2:Qc N l0=some (gK l0 λy=>!q y):=by
  unfold Qc Qd aBv;exact oW (T:=λk0 k1=>Fx N N (l0,((↑l0.length:Int)),((0:Int))) k0 k1 nn) (mk:=aB CS) (un:=aG CS) (λk0 k1=>nV l0 (λy=>Ke N y.1 y.2) (λy=>!q y) h1 hN (λn i=>Fx N n (l0,((↑l0.length:Int)),i) k0 k1 nn) k0 k1 (λ_ _=>rfl) hl) (λ_=>rfl)
 have h3:RG N l0=some (l0.any λy=>!q y):=by
  unfold RG RI;rw[h2,aK];simp only[lM];rfl
 unfold Rr Rt;rw[nO,aK];exact n8 (mk:=aB C6) (un:=aG C6) h3 rfl (λ_=>rfl)
theorem aRR{N:Nat}(l0:bI)(least1:Int)(most2:Int)(is3_0:bI)(q:eM->Bool)(hl:l0.length<N)(hN:N<=1000000)(hp:∀y∈l0,Kk N y is3_0=some (q y)):Rn N l0 least1 most2 is3_0=some (dK l0 least1 most2 q):=by
 have h1:∀y∈l0,Kd N y is3_0=some (!q y,is3_0):=λy hy=>by
  unfold Kd Qz;rw[hp y hy,aK];rfl
 have h2:Qa N l0 is3_0=some (gK l0 (λy=>!q y),is3_0):=by
  unfold Qa Qb aBs;exact YJ (T:=λk0 k1=>Fu N N (l0,((↑l0.length:Int)),((0:Int)),is3_0) k0 k1 nn) (mk:=aB CR) (un:=aG CR) (λk0 k1=>YI l0 (λy=>Kd N y is3_0) (λy=>!q y) is3_0 h1 hN (λn i (e:bI)=>Fu N n (l0,((↑l0.length:Int)),i,e) k0 k1 nn) (λi e=>k0 (i,e)) k1 (λ_ _=>rfl) hl) (λ_=>rfl)
 have h3:RA N l0 is3_0=some (l0.any (λy=>!q y),is3_0):=by
  unfold RA RC;rw[h2,aK];simp only[lM];rfl
 unfold Rn Ro;rw[nO,aK];exact n8 (mk:=aB C5) (un:=aG C5) h3 rfl (λ_=>rfl)
theorem aRJ{N:Nat}(l0:eM)(least1:Int)(most2:Int)(q:gL->Bool)(hl:l0.length<N)(hN:N<=1000000)(hp:∀y∈l0,Kj N y=some (q y)):Rj N l0 least1 most2=some (dK l0 least1 most2 q):=by
 have h1:∀y∈l0,Kc N y=some (!q y):=λy hy=>by
  unfold Kc Qu;rw[hp y hy,aK];rfl
 have h2:Q8 N l0=some (gK l0 λy=>!q y):=by
  unfold Q8 Q9 aBp;exact oW (T:=λk0 k1=>Fs N N (l0,((↑l0.length:Int)),((0:Int))) k0 k1 nn) (mk:=aB CQ) (un:=aG CQ) (λk0 k1=>nV l0 (λy=>Kc N y) (λy=>!q y) h1 hN (λn i=>Fs N n (l0,((↑l0.length:Int)),i) k0 k1 nn) k0 k1 (λ_ _=>rfl) hl) (λ_=>rfl)
 have h3:Qv N l0=some (l0.any λy=>!q y):=by
  unfold Qv Qx;rw[h2,aK];simp only[lM];rfl
 unfold Rj Rk;rw[nO,aK];exact n8 (mk:=aB C4) (un:=aG C4) h3 rfl (λ_=>rfl)
theorem aRB{N:Nat}(l0:gL)(least1:Int)(most2:Int)(q:(Int×(Int×Int))->Bool)(hl:l0.length<N)(hN:N<=1000000)(hp:∀y∈l0,Ki N y.1 y.2.1 y.2.2=some (q y)):Rf N l0 least1 most2=some (dK l0 least1 most2 q):=by
 have h1:∀y∈l0,Kb N y.1 y.2.1 y.2.2=some (!q y):=λy hy=>by
  unfold Kb Qp;rw[hp y hy,aK];rfl
 have h2:Q6 N l0=some (gK l0 λy=>!q y):=by
  unfold Q6 Q7 aBm;exact oW (T:=λk0 k1=>Fp N N (l0,((↑l0.length:Int)),((0:Int))) k0 k1 nn) (mk:=aB CP) (un:=aG CP) (λk0 k1=>nV l0 (λy=>Kb N y.1 y.2.1 y.2.2) (λy=>!q y) h1 hN (λn i=>Fp N n (l0,((↑l0.length:Int)),i) k0 k1 nn) k0 k1 (λ_ _=>rfl) hl) (λ_=>rfl)
 have h3:Qq N l0=some (l0.any λy=>!q y):=by
  unfold Qq Qs;rw[h2,aK];simp only[lM];rfl
 unfold Rf Rg;rw[nO,aK];exact n8 (mk:=aB C3) (un:=aG C3) h3 rfl (λ_=>rfl)
end Go.Proofs
/- What is right in an examination: texts, names, runs, shapes, notes. -/
namespace Go.Proofs
open Go Go.Ax Go.Ax.aA
def cN(n a b:Int):Bool:=decide (a<=n)&&decide (n<=b)
def l8(c:UInt8):Bool:=decide (32<=c)&&decide (c<=126)
def lX(s:List UInt8)(a b:Int):Bool:=dK s a b l8
theorem mU(N:Nat)(n a b:Int):eU N n a b=some (cN n a b):=rfl
theorem aZA(N:Nat)(c:UInt8):Vb N c=some (l8 c):=rfl
theorem KT{N:Nat}(s:List UInt8)(a b:Int)(hl:s.length<N)(hN:N<=1000000):CF N s a b=some (lX s a b):=by
 unfold CF QJ;rw[aZE s a b l8 hl hN (λy _=>aZA N y),aK];rfl
def uP(c:UInt8):Bool:=decide (97<=c)&&decide (c<=122)
def NB(c:UInt8):Bool:=uP c||decide (48<=c)&&decide (c<=57)
def wB(s:List UInt8):Bool:=(match s with|[]=>false|c::_=>uP c)&&dK s 1 16 NB
theorem aUe(N:Nat)(c:UInt8):Tl N c=some (uP c):=rfl
theorem aUb(N:Nat)(c:UInt8):Ti N c=some (NB c):=rfl
theorem aF7{N:Nat}(s:List UInt8)(hl:s.length<N)(hN:N<=1000000):Ly N s=some (wB s):=by
 unfold Ly V1 wB;cases s with
 |nil=>rfl
 |cons c s=>
   rw[aX (show c::s≠[]by simp),jP,yM,n5,aUe,aK];simp only[iU];cases uP c with
   |false=>rfl
   |true=>
     rw[bJ,a0Y (c::s) 1 16 NB hl hN (λy _=>aUb N y),aK];simp only[iU];rfl
def oL(x:Int×List UInt8):Bool:=cN x.1 0 1&&lX x.2 1 200
theorem fM{c:Bool}{z:Option Bool}{b:Bool}(h:z=some b)(k:Bool->O):cg c z false k=k (c&&b):=by
 cases c with
 |true=>rw[n5,h,aK,iU]
 |false=>rfl
theorem aRw{N:Nat}(x:Int)(s:List UInt8)(hl:s.length<N)(hN:N<=1000000):Kr N x s=some (oL (x,s)):=by
 unfold Kr SV;rw[mU,aK,fM (KT s 1 200 hl hN),<-rU,J5];rfl
def EU:List (Int×List UInt8)->Bool
 |[]=>true
 |x::l=>match l with
   |[]=>true
   |y::_=>!decide (y.1=x.1)&&EU l
def pB(l:List (Int×List UInt8)):Bool:=EU l&&dK l 1 8 oL
def xW(p:Int×Int):Bool:=cN p.1 0 1000&&cN p.2 0 1000
theorem aRV(N:Nat)(x y:Int):Kl N x y=some (xW (x,y)):=by
 unfold Kl Rq;rw[mU,aK,fM (mU N y 0 1000),<-rU,J5];rfl
def As(s:Int×List (Int×Int)):Bool:=cN s.1 0 2&&dK s.2 1 12 xW
theorem aTd{N:Nat}(k:Int)(l:List (Int×Int))(hl:l.length<N)(hN:N<=1000000):LF N k l=some (As (k,l)):=by
 unfold LF TM;rw[mU,aK,fM (aRZ l 1 12 xW hl hN (λy _=>aRV N y.1 y.2)),<-rU,J5];rfl
def uN(n:Int×Int×Int):Bool:=cN n.1 (-1) 48&&cN n.2.1 0 4&&cN n.2.2 (-1) 1
theorem aQx(N:Nat)(a b c:Int):Ki N a b c=some (uN (a,b,c)):=by
 unfold Ki Re uN;rw[mU,aK,fM (mU N b 0 4),fM (mU N c (-1) 1)];generalize cN a (-1) 48=x;generalize cN b 0 4=y;cases x <;> cases y <;> rfl
def JM(b:List (Int×Int×Int)):Bool:=dK b 1 16 uN
theorem aRF{N:Nat}(b:List (Int×Int×Int))(hl:b.length<N)(hN:N<=1000000):Kj N b=some (JM b):=by
 unfold Kj Ri;rw[aRB b 1 16 uN hl hN (λy _=>aQx N y.1 y.2.1 y.2.2),aK];rfl
def hdL{α:Type}(l:List (List α)):Nat:=match l with|[]=>0|x::_=>x.length
def EB(m:List (List (List (Int×Int×Int))))(h:List (List (Int×Int×Int))):Bool:=decide (h.length=hdL m)&&dK h 1 32 JM
def J1(N:Nat)(h:List (List (Int×Int×Int))):Prop:=h.length<N/\∀b∈h,b.length<N
theorem aRN{N:Nat}(m:List (List (List (Int×Int×Int))))(h:List (List (Int×Int×Int)))(hm:m≠[])(hl:J1 N h)(hN:N<=1000000):Kk N h m=some (EB m h):=by
 unfold Kk Rm;cases m with
 |nil=>exact absurd rfl hm
 |cons x m=>
   rw[yM,fM (aRJ h 1 32 JM hl.1 hN (λy hy=>aRF y (hl.2 y hy) hN)),<-rU,J5];show some (decide ((h.length:Int)=(x.length:Int))&&dK h 1 32 JM)=some (decide (h.length=x.length)&&dK h 1 32 JM);have:decide ((h.length:Int)=(x.length:Int))=decide (h.length=x.length):=qD.2 (by omega);rw[this]
def Dv(m:List (List (List (Int×Int×Int)))):Bool:=dK m 1 2 (EB m)
def Zh(N:Nat)(m:List (List (List (Int×Int×Int)))):Prop:=m.length<N/\∀h∈m,J1 N h
theorem aT9{N:Nat}(m:List (List (List (Int×Int×Int))))(hl:Zh N m)(hN:N<=1000000):LD N m=some (Dv m):=by
 unfold LD TK;rw[aRR m 1 2 m (EB m) hl.1 hN (λy hy=>aRN m y (List.ne_nil_of_mem hy) (hl.2 y hy) hN),aK];rfl
def xR(g:List aN)(r:List (List UInt8)):Bool:=decide (r.length=hdL g)&&dK r 1 12 (λs=>lX s 0 20)
def s9(N:Nat)(r:List (List UInt8)):Prop:=r.length<N/\∀s∈r,s.length<N
theorem LI(N:Nat)(a b:Int):Ck N a b=some (a,b):=rfl
theorem aR8{N:Nat}(s:List UInt8)(a b:Int)(hl:s.length<N)(hN:N<=1000000):Kn N s a b=some (lX s a b):=by
 unfold Kn SB;rw[KT s a b hl hN,aK];rfl
theorem LJ{N:Nat}(r:List (List UInt8))(a b c d:Int)(hl:s9 N r)(hN:N<=1000000):xB N r a b c d=some (dK r a b λs=>lX s c d):=
 aTs r a b c d (λs=>lX s c d) hl.1 hN (λy hy=>aR8 y c d (hl.2 y hy) hN)
abbrev fI:=Int×(List (Int×List UInt8))×Ex×(Int×List Int)×List aN×(Int×Int×List (Int×List (Int×Int)))×List (List (List (Int×Int×Int)))×List (List UInt8)
theorem aTv{N:Nat}(r:List (List UInt8))(b:fI)(hg:b.2.2.2.2.1≠[])(hl:s9 N r)(hN:N<=1000000):LK N r b=some (xR b.2.2.2.2.1 r):=by
 unfold LK TX xR;cases e:b.2.2.2.2.1 with
 |nil=>exact absurd e hg
 |cons x m=>
   rw[yM,LI];have hd:decide ((r.length:Int)=(x.length:Int))=decide (r.length=x.length):=qD.2 (by omega);rw[hd];show _=some (decide (r.length=x.length)&&_);cases decide (r.length=x.length)with
   |false=>rfl
   |true=>
     rw[n5,aK,n5,LJ r 1 12 0 20 hl hN,aK];rfl
end Go.Proofs
/- What is right in an examination: runs, formulas, calculations. -/
namespace Go.Proofs
open Go Go.Ax Go.Ax.aA
theorem a8S(l:List (Int×List UInt8)){N:Nat}(hN:N<=1000000)(L:Nat->Int->O)(k0:Bool->O)(k1:List (Int×List UInt8)->O)
    (hL:∀n i,L (n+1) i=br (decide (i<(l.length:Int))) (gc (decide ((0:Int)<i)) ((0:Int),([]:List UInt8)) l i λy=>gc (decide ((0:Int)<i)) ((0:Int),([]:List UInt8)) l (aH.wrap (i-1)) λy'=>br (decide ((0:Int)<i)&&decide (y.1=y'.1)) (k0 false) (L n (aH.wrap (i+1)))) (k1 l))
    (hl:l.length<N):L N 0=br (EU l) (k1 l) (k0 false):=by
 have key:∀(r p:List (Int×List UInt8))(x:Int×List UInt8),p++x::r=l->∀n,r.length<n->L n ((p.length:Int)+1)=br (EU (x::r)) (k1 l) (k0 false):=by
  intro r
  induction r with
  |nil=>
    intro p x hp n hn;obtain⟨n,rfl⟩:∃m,n=m+1:=⟨n-1,by simp at hn;omega⟩
    rw[hL,bD (by rw[<-hp];simp),bM];rfl
  |cons y r ih=>
    intro p x hp n hn;obtain⟨n,rfl⟩:∃m,n=m+1:=⟨n-1,by simp at hn;omega⟩
    have hlen:l.length=p.length+(r.length+1+1):=by rw[<-hp];simp
    have hx:l[p.length]?=some x:=by rw[<-hp,dN (cE _),kZ];rfl
    have hy:l[p.length+1]?=some y:=by rw[<-hp,dN (by omega),show p.length+1-p.length=1 by omega];rfl
    have h0:decide ((0:Int)<(p.length:Int)+1)=true:=aX (by omega);rw[hL,aX (show(p.length:Int)+1<l.length by rw[hlen];omega),bJ,h0,jP,iP (y:=y) (by omega) (by rw[show((p.length:Int)+1).toNat=p.length+1 by omega];exact hy),jP,cA (by omega) (by omega),iP (y:=x) (by omega) (by rw[show((p.length:Int)+1-1).toNat=p.length by omega];exact hx),cA (by omega) (by omega),iU];show _=br (!decide (y.1=x.1)&&EU (y::r)) _ _;cases decide (y.1=x.1)with
    |true=>rfl
    |false=>
      rw[bM];have:=ih (p++[x]) y (by rw[bP];exact hp) n (by simp at hn;omega);rw[aL,show((p.length+[x].length:Nat):Int)=(p.length:Int)+1 by simp]at this;rw[this];rfl
 cases l with
 |nil=>
   obtain⟨n,rfl⟩:∃m,N=m+1:=⟨N-1,by simp at hl;omega⟩
   rw[hL];rfl
 |cons x l=>
   obtain⟨n,rfl⟩:∃m,N=m+1:=⟨N-1,by simp at hl;omega⟩
   rw[hL,aX (by simp),bJ];have:=key l [] x rfl n (by simp at hl;omega);rw[show decide ((0:Int)<0)=false from rfl,kU,kU,Bool.false_and,bM,cA (by omega) (by omega)];exact this
def JU(N:Nat)(l:List (Int×List UInt8)):Prop:=l.length<N/\∀r∈l,r.2.length<N
theorem aD4{N:Nat}(l:List (Int×List UInt8))(hl:JU N l)(hN:N<=1000000):Ga N l=some (pB l):=by
 unfold Ga Tb aD1;have h2:=aSA l 1 8 oL hl.1 hN (λy hy=>aRw y.1 y.2 (hl.2 y hy) hN);refine(aR (λz:O=>z.bind (aG Gc)) (a8S l hN (λn i=>LR N n (l,false,((↑l.length:Int)),i) _ _ nn) _ _ (λ_ _=>rfl) hl.1)).trans ?_;unfold pB;cases EU l with
 |false=>rfl
 |true=>
   rw[bJ,h2,aK];rfl
theorem aRq{N:Nat}(l:List Int)(v:Int)(hl:l.length<N)(hN:N<=1000000):SR N l v=some (gK l λy=>decide (v=y)):=by
 unfold SR SS aCf;exact oW (T:=λk0 k1=>GR N N (l,v,((↑l.length:Int)),((0:Int))) k0 k1 nn) (mk:=aB C7) (un:=aG C7) (λk0 k1=>nV l (λy=>some (decide (v=y))) (λy=>decide (v=y)) (λ_ _=>rfl) hN (λn i=>GR N n (l,v,((↑l.length:Int)),i) k0 k1 nn) k0 k1 (λ_ _=>rfl) hl) (λ_=>rfl)
def I0(n:Int):Bool:=[(3:Int),4,5,6].any λy=>decide (n=y)
theorem aUL{N:Nat}(v:Int)(hl:4<N)(hN:N<=1000000):LN N [(3:Int),(4:Int),(5:Int),(6:Int)] v=some (I0 v):=by
 unfold LN T6;rw[aRq _ v hl hN,aK,lM];rfl
def uV(f:Int×Int×Int×Int):Bool:=cN f.1 0 6&&cN f.2.1 0 7&&cN f.2.2.1 0 99&&cN f.2.2.2 0 99
theorem aY4(N:Nat)(a b c d:Int):Lx N a b c d=some (uV (a,b,c,d)):=by
 unfold Lx VV uV;rw[mU,aK,fM (mU N b 0 7),fM (mU N c 0 99),fM (mU N d 0 99)];generalize cN a 0 6=x;generalize cN b 0 7=y;generalize cN c 0 99=z;cases x <;> cases y <;> cases z <;> rfl
theorem aTV(N:Nat)(n:Int):Sx N n=some (cN n 0 7):=rfl
theorem aUD(N:Nat)(n:Int):TZ N n=some (cN n 0 999999):=rfl
end Go.Proofs
/- What is right in an examination: formulas. -/
namespace Go.Proofs
open Go Go.Ax Go.Ax.aA
mutual
def dD:Ex->Nat
 |.mk _ _ ks=>1+jF ks
def jF:List Ex->Nat
 |[]=>0
 |k::l=>dD k+jF l
end
theorem size_pos(e:Ex):1<=dD e:=by cases e;simp only[dD];omega
theorem NU:∀l:List Ex,l.length<=jF l
 |[]=>cE _
 |k::l=>by
   have h1:=NU l;have h2:=size_pos k;simp only[jF,eD];omega
theorem vZ:∀{l:List Ex}{k:Ex},k∈l->dD k<=jF l
 |x::l,k,h=>by
   simp only[jF];rcases eZ.1 h with rfl|h
   .omega
   .have:=vZ h
    omega
def n7(op:Int):Int:=if op=0\/op=1 then 0 else if op=2\/op=8 then 1 else 2
theorem aDH(N:Nat)(op:Int):Ky N op=some (n7 op):=by
 unfold Ky Sl n7;by_cases h0:op=0
 .subst h0;rfl
 .by_cases h1:op=1
  .subst h1;rfl
  .by_cases h2:op=2
   .subst h2;rfl
   .by_cases h8:op=8
    .subst h8;rfl
    .rw[bD h0,bD h1,bD h2,bD h8,aE (by omega),aE (by omega)]
     rfl
def yD(op:Int):Int:=if op=0 then 999999 else if op=1 then 25 else 0
def Dm(op num:Int)(n:Nat)(d:Int):Bool:=decide (d<=16)&&cN op 0 10&&cN num 0 (yD op)&&decide ((n:Int)=n7 op)
mutual
def jR:Ex->Int->Int×Bool
 |.mk op num ks,d=>match Dm op num ks.length d with
   |false=>(0,false)
   |true=>match mE ks (d+1) 1 with
     |none=>(0,false)
     |some s=>(s,decide (s<=256))
def mE:List Ex->Int->Int->Option Int
 |[],_,s=>some s
 |k::l,d,s=>match jR k d with
   |(n,true)=>mE l d (s+n)
   |(_,false)=>none
end
theorem a61(e:Ex)(d:Int):(jR e d).1<=256\/(jR e d).2=false:=by
 cases e with
 |mk op num ks=>
   unfold jR;split
   .exact .inr rfl
   .split
    .exact .inr rfl
    .by_cases h:(by assumption:Int)<=256
     .exact .inl h
     .exact .inr (bD h)
mutual
theorem aIz:∀(e:Ex)(d:Int),0<=(jR e d).1
 |.mk op num ks,d=>by
   unfold jR;split
   .exact iC _
   .split
    .exact iC _
    .rename_i s hs
     have:=aIy ks _ _ _ hs;show 0<=s;omega
theorem aIy:∀(l:List Ex)(d s s':Int),mE l d s=some s'->s<=s'
 |[],d,s,s',h=>by unfold mE at h;cases h;exact iC _
 |k::l,d,s,s',h=>by
   unfold mE at h;split at h
   .rename_i n hn
    have h1:=aIy l _ _ _ h;have h2:=aIz k d;rw[hn]at h2;simp only at h2;omega
   .cases h
end
theorem a6X(F:Nat)(z:Int×Int×List Ex×Int->Option (Int×Bool))(d:Int)(ks:List Ex)(hl:ks.length<F)(hR:F<=1000000)(h0:0<=d)(h17:d<=17)(hz:∀k∈ks,z (Ex.op k,Ex.num k,Ex.kids k,d+1)=some (jR k (d+1)))(k0:Int×Bool->O)(k1:Int->O)(L:Nat->Int->Int->O)
    (hL:∀n s i,L (n+1) s i=br (decide (i<(ks.length:Int))) (gx ks i λy=>cb (z (Ex.op y,Ex.num y,Ex.kids y,aH.wrap (d+1))) λr=>br (!r.2) (k0 (0,false)) (L n (aH.wrap (s+r.1)) (aH.wrap (i+1)))) (k1 s)):
    L F 1 0=match mE ks (d+1) 1 with|some s=>k1 s|none=>k0 (0,false):=by
 have key:∀(r p:List Ex),p++r=ks->∀(n:Nat)(s:Int),r.length<n->0<=s->s<=1+256*p.length->L n s (p.length:Int)=match mE r (d+1) s with|some s=>k1 s|none=>k0 (0,false):=by
  intro r
  induction r with
  |nil=>
    intro p hp n s hn _ _;obtain⟨n,rfl⟩:∃m,n=m+1:=⟨n-1,by simp at hn;omega⟩
    rw[hL,bD (by rw[<-hp];simp),bM];unfold mE;rfl
  |cons y r ih=>
    intro p hp n s hn hs0 hs1;obtain⟨n,rfl⟩:∃m,n=m+1:=⟨n-1,by simp at hn;omega⟩
    have hlen:ks.length=p.length+(r.length+1):=by rw[<-hp];simp
    have hy:ks[p.length]?=some y:=by rw[<-hp,dN (cE _),kZ];rfl
    rw[hL,aX (show(p.length:Int)<ks.length by rw[hlen];omega),bJ,iP (y:=y) (by omega) (by rw[kB];exact hy),cA (n:=d+1) (by omega) (by omega),hz y (iM hy),aK];unfold mE;have hge:=aIz y (d+1);have hle:=a61 y (d+1);cases hr:jR y (d+1)with
    |mk m b=>
      rw[hr]at hge hle;cases b with
      |false=>rfl
      |true=>
        simp only at hge hle;have hle':m<=256:=by rcases hle with h|h;exact h;cases h
        show br (!true) _ _=_;rw[Bj,bM,cA (n:=s+m) (by omega) (by omega),cA (n:=(p.length:Int)+1) (by omega) (by omega)];have:=ih (p++[y]) (by rw[bP];exact hp) n (s+m) (by simp at hn;omega) (by omega) (by simp;omega);rw[aL,show((p.length+[y].length:Nat):Int)=(p.length:Int)+1 by simp]at this;exact this
 exact key ks [] rfl F 1 hl (by omega) (by simp)
theorem aUQ(R:mR)(d op num:Int)(ks:List Ex)(K:Int->Int->Bool->Int->Int->List Ex->O):aDX R d 0 op num ks K=K d (yD op) (decide (op=0)) op num ks:=by
 show br (decide (op=0)) (K d 999999 (decide (op=0)) op num ks) (br (decide (op=1)) (K d 25 (decide (op=0)) op num ks) (K d 0 (decide (op=0)) op num ks))=_;unfold yD;by_cases h0:op=0
 .rw[aI h0,aX h0];rfl
 .by_cases h1:op=1
  .rw[aE h0,aI h1,bD h0,aX h1];rfl
  .rw[aE h0,aE h1,bD h0,bD h1];rfl
theorem a7N{c:Bool}{z:Option Int}{b:Int}(h:z=some b)(k:Int->O):cg c z 0 k=k (match c with|true=>b|false=>0):=by
 cases c with
 |true=>rw[n5,h,aK]
 |false=>rfl
theorem aUR(N:Nat)(hN:N<=1000000):∀(n:Nat)(e:Ex)(d:Int),0<=d->17<d+n->d<=17->dD e<N->G8 (Cp N n) (Ex.op e,Ex.num e,Ex.kids e,d)=some (jR e d):=by
 intro n
 induction n with
 |zero=>intro e d h0 h1 h2;omega
 |succ n ih=>
   intro e d h0 h1 h2 hs;cases e with
   |mk op num ks=>
   have hN1:(Cp N n).1=N:=by cases n <;> rfl
   have hks:ks.length<N:=by have:=NU ks;simp only[dD]at hs;omega
   show aDW (Cp N n) op num ks d=_;unfold aDW LQ jR Dm;generalize Cp N n=R at hN1 ih;rw[aUQ,fM (mU R.1 op 0 10),fM (mU R.1 num 0 (yD op)),a7N (aDH R.1 op)];rw[show decide ((16:Int)<d)=!decide (d<=16)from by rw[<-decide_not];exact qD.2 (by omega)];cases hd:decide (d<=16)with
   |false=>rfl
   |true=>
     have hd:=bK hd;cases cN op 0 10 with
     |false=>rfl
     |true=>
       cases cN num 0 (yD op)with
       |false=>rfl
       |true=>
         simp only[Bj,Bool.not_false,Bool.or_false,Bool.false_or,Bool.and_true,iU];by_cases hk:(ks.length:Int)=n7 op
         case neg=>
          rw[bD hk,aX (show(ks.length:Int)≠n7 op from hk)];rfl
         case pos=>
          rw[aX hk,bD (show ¬ (ks.length:Int)≠n7 op from λh=>h hk),bM];have hz:∀k∈ks,G8 R (Ex.op k,Ex.num k,Ex.kids k,d+1)=some (jR k (d+1)):=λk hk=>ih k (d+1) (by omega) (by omega) (by omega) (by have:=vZ hk;simp only[dD]at hs;omega)
          refine(aR (λz:O=>z.bind (aG AZ)) (a6X R.1 (G8 R) d ks (by omega) (by omega) h0 h2 hz _ _ (λn s i=>LP R n (d,s,ks,((ks.length:Int)),i) _ _ nn) (λ_ _ _=>rfl))).trans ?_;cases mE ks (d+1) 1 with
          |none=>rfl
          |some s=>rfl
def Nh(e:Ex):Bool:=(jR e 1).2
theorem aUP{N:Nat}(e:Ex)(hs:dD e<N)(h20:20<=N)(hN:N<=1000000):LO N (Ex.op e) (Ex.num e) (Ex.kids e) 1=some (jR e 1):=aUR N hN N e 1 (by omega) (by omega) (by omega) hs
end Go.Proofs
/- Numbers and formulas as pieces. -/
namespace Go.Proofs
open Go Go.Ax Go.Ax.aA
abbrev lK(n:Int):Prop:=-9223372036854775808<=n/\n<=9223372036854775807
theorem aDf(N:Nat){n:Int}(h:lK n):vS N n=some (Lib.itoa n):=by
 unfold vS;rw[aX h]
def fB(l:List Int):List Pc:=l.flatMap λn=>[([32],Lib.itoa n)]
theorem xG{N:Nat}(l:List Int)(hr:∀n∈l,lK n)(hl:l.length<N)(hN:N<=1000000):Wr (qW N l) (fB l):=
 Wc.r (T:=λb k=>Hi N N (l,((l.length:Nat):Int),(0:Int),b) k nn nn) (mk:=aB Hh) (un:=aG Hh)
  (Wc.loop (S:=λy b k=>cb (vS N y) λr=>cb (pY N r b) k) (λy hy=>by
   have:=(xH N (Lib.itoa y)).c;intro b hb hb' k;show cb (vS N y) _=_;rw[aDf N (hr y hy),aK];exact this b hb hb' k) hN hl (λk n i b=>Hi N n (l,((l.length:Nat):Int),i,b) k nn nn) (λ_ _ _ _=>rfl))
  (λ_=>rfl) (λ_=>rfl)
inductive rN:Ex->Prop where
 |mk {op num:Int} {ks:List Ex}:cN op 0 10=true->cN num 0 (yD op)=true->(ks.length:Int)=n7 op->(∀k∈ks,rN k)->rN (.mk op num ks)
theorem a6Z(e:Ex):∀d,(jR e d).2=true->rN e:=by
 have key:∀n (e:Ex),dD e<n->∀d,(jR e d).2=true->rN e:=by
  intro n
  induction n with
  |zero=>intro e h;omega
  |succ n ih=>
    intro e h d hd;obtain⟨op,num,ks⟩:=e;unfold jR at hd;have hh:Dm op num ks.length d=true:=by
     cases hq:Dm op num ks.length d with
     |true=>rfl
     |false=>rw[hq]at hd;cases hd
    rw[hh]at hd;have hk:∀(l:List Ex)(s:Int),(∃r,mE l (d+1) s=some r)->∀k∈l,(jR k (d+1)).2=true:=by
     intro l
     induction l with
     |nil=>intro s _ k hk;cases hk
     |cons x l ihl=>
       intro s hs k hk;unfold mE at hs;rcases hx:jR x (d+1)with⟨m,c⟩;rw[hx]at hs;cases c with
       |false=>obtain⟨r,hr⟩:=hs;cases hr
       |true=>
         rcases eZ.1 hk with rfl|hk
         .rw[hx]
         .exact ihl _ hs k hk
    have hs:∃r,mE ks (d+1) 1=some r:=by
     cases hq:mE ks (d+1) 1 with
     |none=>rw[hq]at hd;cases hd
     |some r=>exact⟨r,rfl⟩
    unfold Dm at hh;simp only[aT,eR]at hh;refine .mk hh.1.1.2 hh.1.2 hh.2 λk hm=>ih k ?_ (d+1) (hk ks 1 hs k hm)
    have:=vZ hm;simp only[dD]at h;omega
 exact key (dD e+1) e (by omega)
def gO:List (List UInt8):=[[],[],[110,101,103],[43],[45],[42],[47],[94],[114,111,111,116],[61],[60]]
def kS(op:Int):List UInt8:=(gO[op.toNat]?).getD []
mutual
def iL:List UInt8->Ex->List Pc
 |sep,.mk op num ks=>if op=0 then[(sep,Lib.itoa num)]else if op=1 then[(sep,[kP (97+num)])]else(sep,[40])::([],kS op)::(nZ ks++[([],[41])])
def nZ:List Ex->List Pc
 |[]=>[]
 |k::l=>iL [32] k++nZ l
end
theorem a6Y(l:List Ex):nZ l=l.flatMap (iL [32]):=by
 induction l with
 |nil=>rfl
 |cons k l ih=>unfold nZ;rw[ih];rfl
theorem XM(op:Int):(kS op).length<=4:=by
 unfold kS;cases h:gO[op.toNat]? with
 |none=>exact Nat.zero_le _
 |some s=>
   have:s∈gO:=iM h;have key:∀s∈gO,s.length<=4:=by decide
   exact key s this
mutual
theorem Yh:∀(sep:List UInt8)(e:Ex),rN e->(fl (iL sep e)).length+1<=sep.length+32*dD e
 |sep,.mk op num ks,h=>by
   have ho:=XM op;cases h with
   |mk h1 h2 h3 h4=>
   have ih:=Yg ks h4;unfold iL;simp only[dD];by_cases h0:op=0
   .rw[aI h0,jA,aL]
    subst h0;unfold cN at h2;simp only[aT,eR,yD]at h2;have:=Lib.itoa_length_le num (by omega) (by simp at h2;omega);show sep.length+(Lib.itoa num).length+1<=_;omega
   .rw[aE h0]
    by_cases h1:op=1
    .rw[aI h1,jA,aL]
     show sep.length+1+1<=_;omega
    .rw[aE h1,lD,lD,cS,jA]
     simp only[aL,eD,jV];omega
theorem Yg:∀l:List Ex,(∀k∈l,rN k)->(fl (nZ l)).length<=32*jF l
 |[],_=>cE _
 |k::l,h=>by
   have h1:=Yh [32] k (h k List.mem_cons_self);have h2:=Yg l (λx hx=>h x (List.mem_cons_of_mem _ hx));unfold nZ;rw[cS,aL];simp only[jF,eD,jV]at h1 ⊢;omega
end
theorem Mo{op:Int}(h:cN op 0 10=true):gO[op.toNat]?=some (kS op)/\0<=op:=by
 unfold cN at h;simp only[aT,eR]at h;refine⟨?_,h.1⟩;unfold kS;rw[List.getElem?_eq_getElem (by show op.toNat<11;omega)];rfl
theorem aVN(N:Nat)(hN:N<=1000000):∀(n:Nat)(e:Ex),rN e->dD e<n->dD e<N->Cr (Cs N n) (Ex.op e,Ex.num e,Ex.kids e)=some (fl (iL [] e)):=by
 intro n
 induction n with
 |zero=>intro e _ h;omega
 |succ n ih=>
   intro e hw h hs;have hlen:=Yh [] e hw;obtain⟨op,num,ks⟩:=e;have hN1:(Cs N n).1=N:=by cases n <;> rfl
   have hks:ks.length<N:=by have:=NU ks;simp only[dD]at hs;omega
   show aDl (Cs N n) op num ks=_;unfold aDl L3;generalize Cs N n=R at hN1 ih;cases hw with
   |mk h1 h2 h3 h4=>
   have hop:=Mo h1;unfold iL at hlen ⊢;by_cases h0:op=0
   .rw[aI h0,jA,aX h0,bJ]
    subst h0;have h2:cN num 0 999999=true:=h2;unfold cN at h2;simp only[aT,eR]at h2;rw[hN1,aDf N ⟨by omega,by omega⟩,aK];rfl
   .rw[bD h0,bM]
    rw[aE h0]at hlen ⊢;by_cases h1:op=1
    .rw[aI h1,jA,aX h1,bJ]
     subst h1;have h2:cN num 0 25=true:=h2;unfold cN at h2;simp only[aT,eR]at h2;have e1:IntKind.i32.wrap (aH.wrap (97+num))=97+num:=by
      rw[cA (by omega) (by omega)];unfold IntKind.wrap;simp[IntKind.bits,IntKind.signed];omega
     rw[e1,eY (aX (by omega))];rfl
    .rw[bD h1,bM]
     rw[aE h1,lD,lD,cS,jA]at hlen ⊢;have hL:=Yg ks h4;have hsz:jF ks<N:=by simp only[dD]at hs;omega
     have ho:=XM op;refine(aR (λz:O=>z.bind (aG vT)) ((iP (l:=gO) hop.2 hop.1 _).trans (eY (aX (by omega)) _))).trans ?_;have key:∀hd:List UInt8,hd≠[]->hd.length<=5->∀E:List UInt8->O,Gl R R.1 (hd,ks,((ks.length:Nat):Int),(0:Int)) E nn nn=E (hd++fl (nZ ks)):=by
      intro hd hd0 lC E;have hb1:(hd++fl (nZ ks)).length<=cV:=by
       rw[aL];unfold cV;omega
      rw[hN1];rw[a6Y]at hb1 ⊢;refine aJq (N:=N) ks (λy b k=>cb (Cr R (Ex.op y,Ex.num y,Ex.kids y)) λr=>ck (decide ((1:Int)+(r.length:Int)<=9223372036854775807)) (ck (decide ((b.length:Int)+(([(32:UInt8)]++r).length:Int)<=9223372036854775807)) (k (b++([32]++r))))) (iL [32]) ?_ hN hks (λn i b=>Gl R n (b,ks,((ks.length:Nat):Int),i) E nn nn) E (λ_ _ _=>rfl) _ hd0 hb1;intro y hy b hb hbl k;have hm:=vZ hy;have hwy:=h4 y hy;have hy2:Cr R (Ex.op y,Ex.num y,Ex.kids y)=some (fl (iL [] y)):=ih y hwy (by simp only[dD]at h;omega) (by omega);have hsep:fl (iL [32] y)=[32]++fl (iL [] y):=by
       obtain⟨a,c,l⟩:=y;unfold iL;split
       .rw[jA,jA];rfl
       .split
        .rw[jA,jA];rfl
        .rw[lD,lD (([],[40]):Pc)];rfl
      rw[hsep]at hbl ⊢;unfold cV at hbl;rw[aL,aL]at hbl;have h32:[(32:UInt8)].length=1:=rfl;have hz:(([(32:UInt8)]++fl (iL [] y)).length:Int)=1+((fl (iL [] y)).length:Int):=by rw[aL];omega
      show cb (Cr R (Ex.op y,Ex.num y,Ex.kids y)) _=_;rw[hy2,aK];refine(eY (aX (by omega)) _).trans (eY (aX ?_) _);rw[hz];omega
     have hz:((([40]++kS op++fl (nZ ks)).length:Nat):Int)+1<=9223372036854775807:=by
      rw[aL,aL];have:[(40:UInt8)].length=1:=rfl;omega
     have hh1:([40]++kS op).length<=5:=by
      rw[aL];have:[(40:UInt8)].length=1:=rfl;omega
     have hk:=key ([40]++kS op) (by simp) hh1 (λz9:List UInt8=>ck (decide ((z9.length:Int)+1<=9223372036854775807)) (some (aB vT (z9++[41]))));rw[aX hz,BY]at hk;refine(aR (λz:O=>z.bind (aG vT)) hk).trans ?_;show some _=some _;refine aR some ?_;exact(by intro a b c d;simp only[bP]:∀a b c d:List UInt8,(a++b++c)++d=a++(b++(c++d))) [40] (kS op) (fl (nZ ks)) [41]
theorem aVM{N:Nat}(e:Ex)(hw:rN e)(hs:dD e<N)(hN:N<=1000000):L2 N (Ex.op e) (Ex.num e) (Ex.kids e)=some (fl (iL [] e)):=by
 unfold L2;exact aVN N hN N e hw hs hs
end Go.Proofs
