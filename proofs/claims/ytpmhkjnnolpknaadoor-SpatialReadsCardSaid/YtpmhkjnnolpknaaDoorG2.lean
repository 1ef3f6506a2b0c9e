/- Calculations that are drawn and changed; carries. Conditions are in the theorems. -/
import Derived.Test.YtpmhkjnnolpknaaDoorG1
import Derived.Lib.ItoaMem
open Bool renaming true_and->Dy
open Go.IntKind renaming i64->aA
open Int renaming natCast_nonneg->a1v,tdiv_eq_ediv_of_nonneg->BY,tdiv_le_self->OU,tdiv_nonneg->OT,tmod_eq_emod_of_nonneg->V9,tmod_lt_of_pos->V8,tmod_nonneg->V7
open List renaming drop_eq_nil_of_le->fK,drop_zero->kJ,foldl_cons->HF,getElem?_eq_getElem->bJ,getElem_mem->lF,map_cons->eX,sum_cons->BW
open Nat renaming one_le_pow->V2
open UInt8 renaming ofNat->dV
/- What the reference's calculations are, and what becomes of them when something is changed. -/
namespace Go.Proofs
open Go Go.Ax Go.Ax.aB
def pH(l:List Int):Prop:=∀x∈l,iH x
theorem eJ{n b:Nat}(h:n*b<=140737488355328)(h2:n<=140737488355327):b9 n b=true:=aO ⟨h,h2⟩
theorem aRb(x:Int):(some (C5 x):O).bind FG=some x:=rfl
theorem LU(N:Nat){l:List Int}(hl:pH l){i m:Int}(hm:1<=m):∃v,qG N l i m=some v/\0<=v/\v<m:=by
 unfold qG w34 Ri;by_cases h:i<0\/(l.length:Int)<=i
 .have hd:(decide (i<0)||decide ((l.length:Int)<=i))=true:=by simpa using h
  rw[hd,aW];exact⟨0,rfl,by omega,by omega⟩
 .have hd:(decide (i<0)||decide ((l.length:Int)<=i))=false:=by simp;omega
  rw[hd,aT];have hi:i.toNat<l.length:=by omega
  rw[D3 (by omega) (bJ hi)];have h25:=Lk N (m:=m) (hl l[i.toNat] (lF hi));rw[aL (aCb h25),aCa h25];exact⟨_,rfl,Gu hm⟩
theorem aRd(N:Nat){n:Int}(hn:iH n):∃v,vP N n=some v/\0<=v/\v<=999999:=by
 unfold vP w35 Rf;have h25:=Lk N (m:=6000000) hn;rw[aL (aCb h25),aCa h25,e9,e9];have hb:=Gu (n:=n) (m:=6000000) (by omega);generalize pD n 6000000=a at *
 have h1:0<=a.tmod 6/\a.tmod 6<6:=⟨V7 _ hb.1,V8 _ (by omega)⟩;have h2:0<=a.tdiv 6/\a.tdiv 6<=a:=⟨OT hb.1 (by omega),OU _ hb.1⟩;rw[wr (by omega) (by omega)];have key:∀y:Int,y=10\/y=100\/y=1000\/y=10000\/y=1000000->∃v,((ck (decide (y≠0)) <|some (C5 ((a.tdiv 6).tmod y))):O).bind FG=some v/\0<=v/\v<=999999:=by
  intro y hy;rw[aL (aO (by omega))];have:=V7 y h2.1;have:=V8 (a.tdiv 6) (b:=y) (by omega);exact⟨_,aRb _,by omega,by omega⟩
 rcases(show a.tmod 6=0\/a.tmod 6=1\/a.tmod 6=2\/a.tmod 6=3\/a.tmod 6=4\/a.tmod 6=5 by omega)with h|h|h|h|h|h
 .rw[h];exact key 10 (by omega)
 .rw[h];exact key 100 (by omega)
 .rw[h];exact key 1000 (by omega)
 .rw[h];exact key 100 (by omega)
 .rw[h];exact key 10000 (by omega)
 .rw[h];exact key 1000000 (by omega)
theorem aDj(N:Nat){l:List Int}(hl:pH l)(n0 x3 x4:Int)(hn0:n0<=8)(k0:Int×Int×List Int->O)(k1 k2:Unit->O):∀(n i:Nat)(a:List Int),n0.toNat-i<n->(i:Int)<=n0->a.length=i->(∀x∈a,0<=x/\x<=999999)->
    ∃b,An N n (l,n0,i,x3,x4,a) k0 k1 k2=k0 (x3,x4,b)/\(b.length:Int)=n0/\∀x∈b,0<=x/\x<=999999
 |0,i,_,h,_,_,_=>by omega
 |n+1,i,a,h,hi,ha,hall=>by
   show ∃b,M6 N _ _ l n0 x3 x4 i a=_/\_
   unfold M6;by_cases hlt:(i:Int)<n0
   .rw[aO hlt,aW,wr (by omega) (by omega)]
    obtain⟨v,hv,v0,v1⟩:=LU N hl (i:=2+i) (m:=6000000) (by omega);obtain⟨u,hu,u0,u1⟩:=aRd N (n:=v) ⟨by omega,by omega⟩;rw[aL (LS hv),FK hv,aL (aRc hu),aRa hu,aL (eJ (by simp;omega) (by simp;omega)),wr (by omega) (by omega)];have hx:∀x∈a++[u],0<=x/\x<=999999:=λx hx=>by
     rcases List.mem_append.1 hx with h|h
     .exact hall x h
     .simp at h;omega
    exact aDj N hl n0 x3 x4 hn0 k0 k1 k2 n (i+1) (a++[u]) (by omega) (by omega) (by simp[ha]) hx
   .rw[bA hlt,aT]
    exact⟨a,rfl,by omega,hall⟩
theorem aV8(N:Nat){op:Int}{a:List Int}(x0:Int)(h2:2<=a.length)(h8:a.length<=8)(hp:op≠3->a.length=2)(ho:op=3\/op=4\/op=5\/op=6)(hall:∀x∈a,0<=x/\x<=999999):
    ∃b,(Cl N x0 op a (λ_ z24 z25=>
              ck (!decide (z24=6)||decide ((0:Int)<=1/\1<(↑z25.length:Int)))<|
              gn z25 ((1:Nat)) λy26=>
              br (decide (z24=6)&&decide (y26=0))
               (ck (decide ((0:Int)<=1/\1<(↑z25.length:Int)))<|
               gn z25 ((1:Nat)) λ_=>
               some (oQ z24 (z25.set (1:Nat) 7)))
               (some (oQ z24 z25)))).bind Ck=some (op,b)/\gN op b:=by
 obtain⟨x,y,r,rfl⟩:=jN h2;have hx:=hall x (by simp);have hy:=hall y (by simp);rw[aVU];unfold M5;have c0:∀b:Bool,(b||decide ((0:Int)<=0/\0<(((x::y::r).length:Nat):Int)))=true:=λb=>by simp;omega
 have c1:∀b:Bool,(b||decide ((0:Int)<=1/\1<(((x::y::r).length:Nat):Int)))=true:=λb=>by simp;omega
 have d0:decide ((0:Int)<=0/\0<(((x::y::r).length:Nat):Int))=true:=c0 false;have d1:decide ((0:Int)<=1/\1<(((x::y::r).length:Nat):Int))=true:=c1 false;rw[aL (c0 _),aFi,aL (c1 _),U5];by_cases h4:op=4
 .subst h4
  have hr:r=[]:=by
   have:=hp (by omega);simpa using this
  subst hr;by_cases hlt:x<y
  .simp only[tI,Dy,aO hlt,aW]
   rw[aL d1,U5,aL d0,aFi];exact⟨[y,x],rfl,by simp,by simp,λ_=>rfl,by omega,λz hz=>by simp at hz;omega,λ_=>by simp;omega,λh=>by omega⟩
  .simp only[tI,Dy,bA hlt,aT]
   exact⟨[x,y],rfl,by simp,by simp,λ_=>rfl,by omega,λz hz=>by simp at hz;omega,λ_=>by simp;omega,λh=>by omega⟩
 .rw[bA h4,Bool.false_and,aT]
  simp only[U5];by_cases h6:op=6/\y=0
  .obtain⟨rfl,rfl⟩:=h6
   simp only[tI,Dy,aW];rw[aL (c1 _),aL d1];exact⟨x::7::r,rfl,by simp,by simpa using h8,λh=>by simpa using hp h,by omega,λz hz=>by
    simp at hz;rcases hz with h|h|h
    .omega
    .omega
    .exact hall z (by simp[h]),λh=>by omega,λ_=>by simp⟩
  .have:(decide (op=6)&&decide (y=0))=false:=by simpa using h6
   rw[this,aT,aL (c1 _)];exact⟨x::y::r,rfl,h2,h8,hp,ho,hall,λh=>absurd h h4,λh=>λhy0=>h6 ⟨h,by simpa using hy0⟩⟩
theorem aVa{N:Nat}{l:List Int}(hl:pH l)(hN:10<N):∃op a,oP N l=some (op,a)/\gN op a/\∃p:Int,qG N l 0 4=some p/\([3,4,5,6]:List Int)[p.toNat]?=some op:=by
 obtain⟨p,hp,p0,p1⟩:=LU N hl (i:=0) (m:=4) (by omega);obtain⟨q,hq,q0,q1⟩:=LU N hl (i:=1) (m:=5) (by omega);unfold oP w10 Sl;rw[aL (LS hp),FK hp,aL (aO ⟨p0,p1⟩)];have hop:∃op,([3,4,5,6]:List Int)[p.toNat]?=some op/\(op=3\/op=4\/op=5\/op=6):=by
  rcases(show p=0\/p=1\/p=2\/p=3 by omega)with h|h|h|h <;> subst h <;> exact⟨_,rfl,by omega⟩
 obtain⟨op,hop,ho⟩:=hop;have wrap:∀{z:Option (Int×List Int)},(∃op' a,z=some (op',a)/\gN op' a/\op'=op)->∃op' a,z=some (op',a)/\gN op' a/\∃p:Int,qG N l 0 4=some p/\([3,4,5,6]:List Int)[p.toNat]?=some op':=by
  rintro z ⟨op',a,h1,h2,rfl⟩;exact⟨_,a,h1,h2,p,hp,hop⟩
 apply wrap;rw[kF hop,aVV];unfold M7;have fin:∀n0:Int,2<=n0->n0<=8->(op≠3->n0=2)->∃op' a,(Sf N l n0 0 0 op [] λz7 z8 z9=>Cl N z7 z8 z9 (λ_ z24 z25=>
             ck (!decide (z24=6)||decide ((0:Int)<=1/\1<(↑z25.length:Int)))<|
             gn z25 ((1:Nat)) λy26=>
             br (decide (z24=6)&&decide (y26=0))
              (ck (decide ((0:Int)<=1/\1<(↑z25.length:Int)))<|
              gn z25 ((1:Nat)) λ_=>
              some (oQ z24 (z25.set (1:Nat) 7)))
              (some (oQ z24 z25)))).bind Ck=some (op',a)/\gN op' a/\op'=op:=by
  intro n0 h2 h8 h3;obtain⟨b,hb,hbl,hall⟩:=aDj N hl n0 0 op h8 (λy=>Cl N y.1 y.2.1 y.2.2 (λ_ z24 z25=>
            ck (!decide (z24=6)||decide ((0:Int)<=1/\1<(↑z25.length:Int)))<|
            gn z25 ((1:Nat)) λy26=>
            br (decide (z24=6)&&decide (y26=0))
             (ck (decide ((0:Int)<=1/\1<(↑z25.length:Int)))<|
             gn z25 ((1:Nat)) λ_=>
             some (oQ z24 (z25.set (1:Nat) 7)))
             (some (oQ z24 z25)))) (λ_=>none) (λ_=>none) N 0 [] (by omega) (by omega) rfl (by simp)
  obtain⟨b',hb',V⟩:=aV8 N (op:=op) (a:=b) 0 (by omega) (by omega) (λh=>by have:=h3 h;omega) ho hall;exact⟨op,b',(aY (λz:O=>z.bind Ck) hb).trans hb',V,rfl⟩
 by_cases h3:op=3
 .rw[aO h3,aW,aL (LS hq),FK hq,wr (by omega) (by omega)]
  exact fin (2+q) (by omega) (by omega) (λh=>absurd h3 h)
 .rw[bA h3,aT]
  exact fin 2 (by omega) (by omega) (λ_=>rfl)
theorem aVb{N:Nat}{l:List Int}(hl:pH l)(hN:10<N):∃op a,oP N l=some (op,a)/\gN op a:=by
 obtain⟨op,a,h1,h2,_⟩:=aVa hl hN;exact⟨op,a,h1,h2⟩
end Go.Proofs
/- Digits, columns and carries: what the program's function and the reference's reckon is one. -/
namespace Go.Proofs
open Go Go.Ax Go.Ax.aB
def aD(n:Int):Nat:=Lib.nDigits n.toNat
theorem aYW:∀(u v:Nat),u<=v->Lib.nDigits u<=Lib.nDigits v:=by
 intro u
 induction u using Nat.strongRecOn with
 |_ u ih=>
   intro v h;by_cases hu:u<10
   .rw[Lib.nDigits_small hu];exact Lib.nDigits_pos v
   .rw[Lib.nDigits_big hu,Lib.nDigits_big (show ¬ v<10 by omega)]
    have:=ih (u / 10) (by omega) (v / 10) (by omega);omega
theorem jW{a b:Int}(h:a<=b):aD a<=aD b:=aYW _ _ (by omega)
theorem gJ{a:Int}(h:a<=999999):aD a<=6:=by
 have h1:=jW h;have:aD 999999=6:=Lib.nDigits_unique 5 999999 (by decide) (by decide);omega
theorem N7{a:Int}(h:a<1000000000000000000):aD a<=18:=by
 have h1:=jW (show a<=999999999999999999 by omega);have:aD 999999999999999999=18:=Lib.nDigits_unique 17 999999999999999999 (by decide) (by decide);omega
theorem UQ(a:Int):1<=aD a:=Lib.nDigits_pos _
theorem xC(u:Nat):(Lib.decDigits u).length=Lib.nDigits u:=by rw[Lib.decDigits_eq];simp
theorem Pb(N:Nat){n:Int}(hn:iH n)(h0:0<=n):CC N n=true/\nI N n=Lib.decDigits n.toNat:=by
 refine⟨aO hn,?_⟩;show Lib.itoa n=_;obtain⟨u,rfl⟩:=Int.eq_ofNat_of_zero_le h0;rw[Lib.itoa_nonneg];rfl
theorem sG(N:Nat){n:Int}(hn:iH n)(h0:0<=n):uX N n=some (aD n:Int):=by
 obtain⟨h1,h2⟩:=Pb N hn h0;unfold uX ZM QV;rw[aL h1,h2,xC];rfl
theorem Sq{d:Int}(h0:0<=d)(h1:d<=9):gH (aA.wrap (48+d))=dV (48+d.toNat):=by
 rw[wr (by omega) (by omega)];show dV ((48+d)%256).toNat=_
 congr 1
 omega
theorem ZA(N:Nat):∀(m:Nat)(n:Int),aD n<=m->0<=n->n<1000000000000000000->lJ N m n=some (Lib.decDigits n.toNat)
 |0,n,h,_,_=>by have:=UQ n;omega
 |m+1,n,h,h0,hb=>by
   show JG (N,lJ N m) n=_;unfold JG ZB QP;by_cases h10:n<10
   .rw[aO h10,aW,Sq h0 (by omega),Lib.decDigits,dif_pos (by omega)]
    rfl
   .have hd:n.tdiv 10=n / 10:=BY h0
    have hm:n.tmod 10=n%10:=V9 h0;rw[bA h10,aT,e9,hd,hm,wr (by omega) (by omega)];have hl:aD n=aD (n / 10)+1:=by
     unfold aD;rw[Lib.nDigits_big (by omega),show n.toNat / 10=(n / 10).toNat by omega]
    have ih:=ZA N m (n / 10) (by omega) (by omega) (by omega);have hlen:=N7 (show n / 10<1000000000000000000 by omega);have ih':(N,lJ N m).2 (n / 10)=some (Lib.decDigits (n / 10).toNat):=ih;rw[ih',Sq (by omega) (by omega)];have hck:decide ((↑((some (Lib.decDigits (n / 10).toNat)).getD []).length:Int)+(↑[dV (48+(n%10).toNat)].length:Int)<=9223372036854775807)=true:=by
     apply aO;show((Lib.decDigits (n / 10).toNat).length:Int)+(1:Nat)<=_;rw[xC];have:Lib.nDigits (n / 10).toNat<=18:=hlen;omega
    rw[e9,aL hck];rw[Lib.decDigits.eq_def n.toNat,dif_neg (by omega),show n.toNat / 10=(n / 10).toNat by omega,show n.toNat%10=(n%10).toNat by omega];rfl
theorem lI{N:Nat}{n:Int}(hN:20<=N)(h0:0<=n)(hb:n<1000000000000000000):iB N n=true/\cV N n=Lib.decDigits n.toNat:=by
 have:=ZA N N n (by have:=N7 hb;omega) h0 hb;unfold iB cV;rw[this];exact⟨rfl,rfl⟩
theorem Uf:∀(r:List Int)(x:Int),x<=r.foldl max x/\∀y∈r,y<=r.foldl max x
 |[],x=>⟨Int.le_refl _,by simp⟩
 |y::r,x=>by
   obtain⟨h1,h2⟩:=Uf r (max x y);refine⟨by simp only[HF];omega,λz hz=>?_⟩;simp only[HF];rcases List.mem_cons.1 hz with rfl|h
   .omega
   .exact h2 z h
theorem Ue:∀(r:List Int)(x b:Int),x<=b->(∀y∈r,y<=b)->r.foldl max x<=b
 |[],x,b,h,_=>h
 |y::r,x,b,h,hr=>Ue r (max x y) b (by have:=hr y (by simp);omega) λz hz=>hr z (by simp[hz])
theorem ZI(N:Nat)(a:List Int)(hs:a.length<4611686018427387904)(x1:Int)(k0:Int×Int->O)(k1 k2:Unit->O):∀(n i:Nat)(acc:Int),a.length-i<n->i<=a.length->zF N n (a,x1,acc,i) k0 k1 k2=k0 (x1,(a.drop i).foldl max acc)
 |0,i,_,h,_=>by omega
 |n+1,i,acc,h,hi=>by
   show JQ N _ _ a x1 acc i=_;unfold JQ;by_cases hlt:i<a.length
   .have hg:a[i]?=some a[i]:=bJ hlt
    have hd:decide ((i:Int)<(a.length:Int))=true:=aO (by omega);have e:aA.wrap ((i:Int)+1)=((i+1:Nat):Int):=by rw[wr (by omega) (by omega)];omega
    rw[hd,aW,dA hg,e,iS hg,HF];exact ZI N a hs x1 k0 k1 k2 n (i+1) (max acc a[i]) (by omega) (by omega)
   .have hd:decide ((i:Int)<(a.length:Int))=false:=bA (by omega)
    rw[hd,aT,fK (by omega)];rfl
theorem aMV{N:Nat}{x:Int}{r:List Int}(hs:(x::r).length<4611686018427387904)(hN:(x::r).length<N):uW N (x::r)=some (r.foldl max x):=by
 unfold uW ZJ QT;rw[aMM];unfold JR;rw[show decide (((x::r).length:Int)<1)=false from bA (by simp;omega),aT];simp only[gK];have:=ZI N (x::r) hs 0 (λy=>some (Ee y.2)) (λ_=>none) (λ_=>none) N 1 x (by omega) (by simp);exact(aY (λz:O=>z.bind JI) this).trans rfl
def fD(a:List Int):Nat:=a.foldl (λm y=>max m (aD y)) 0
theorem aGP:∀(r:List Int)(x:Int),r.foldl (λm y=>max m (aD y)) (aD x)=aD (r.foldl max x)
 |[],x=>rfl
 |y::r,x=>by
   rw[HF,HF,<-aGP r (max x y)]
   congr 1
   by_cases h:x<=y
   .have:=jW h
    rw[show max x y=y by omega];omega
   .have:=jW (show y<=x by omega)
    rw[show max x y=x by omega];omega
theorem Gk(x:Int)(r:List Int):fD (x::r)=aD (r.foldl max x):=by
 unfold fD;rw[HF,show max 0 (aD x)=aD x by omega,aGP]
def cN(n:Int)(k:Nat):Int:=n / ((10^k:Nat):Int)%10
theorem kU(n:Int)(k:Nat):0<=cN n k/\cN n k<=9:=by unfold cN;omega
theorem TP(n:Int)(k:Nat):n / ((10^k:Nat):Int) / 10=n / ((10^(k+1):Nat):Int):=by
 rw[Int.ediv_ediv_of_nonneg (a1v _),Nat.pow_succ]
 push_cast
 rfl
theorem oS{n:Int}(h0:0<=n)(k:Nat):0<=n / ((10^k:Nat):Int)/\n / ((10^k:Nat):Int)<=n:=
 ⟨Int.ediv_nonneg h0 (a1v _),Int.ediv_le_self _ h0⟩
theorem Yv(N:Nat){m:Int}(h0:0<=m)(h1:m<=9223372036854775807)(c:Nat)(hc:c<4611686018427387904)(x2:Int)(k0:Int×Int->O)(k1 k2:Unit->O):∀(n i:Nat),c-i<n->i<=c->zD N n (m / ((10^i:Nat):Int),c,x2,i) k0 k1 k2=k0 (m / ((10^c:Nat):Int),x2)
 |0,i,h,_=>by omega
 |n+1,i,h,hi=>by
   show JF N _ _ c x2 (m / ((10^i:Nat):Int)) i=_;unfold JF;have hb:=oS h0 i;by_cases hlt:i<c
   .have e:aA.wrap ((i:Int)+1)=((i+1:Nat):Int):=by rw[wr (by omega) (by omega)];omega
    rw[aO (show(i:Int)<(c:Int)by omega),aW,e9,e,BY hb.1,wr (by omega) (by omega),TP];exact Yv N h0 h1 c hc x2 k0 k1 k2 n (i+1) (by omega) (by omega)
   .rw[bA (show ¬ (i:Int)<(c:Int)by omega),aT,show i=c by omega]
theorem uV{N:Nat}{m:Int}(h0:0<=m)(h1:m<=9223372036854775807){c:Nat}(hc:c<N)(hs:c<4611686018427387904):uS N m c=some (cN m c):=by
 unfold uS Yw QM;have:=Yv N h0 h1 c hs 0 (λy=>ck true <|some (Eb (y.1.tmod 10))) (λ_=>none) (λ_=>none) N 0 (by omega) (by omega);rw[show m / ((10^0:Nat):Int)=m by simp]at this;refine(aY (λz:O=>z.bind JB) this).trans ?_;rw[e9,V9 (oS h0 c).1];rfl
def gT(k:Nat)(a:List Int):Int:=(a.map λx=>cN x k).sum
theorem Nt(k:Nat):∀a:List Int,0<=gT k a/\gT k a<=9*a.length
 |[]=>by simp[gT]
 |x::a=>by
   have h1:=Nt k a;have h2:=kU x k;have:gT k (x::a)=cN x k+gT k a:=by simp[gT]
   rw[this,List.length_cons];omega
def dH(op:Int)(a:List Int):Nat->Int
 |0=>0
 |k+1=>if op=4 then(if cN (a.getD 0 0) k<cN (a.getD 1 0) k+dH op a k then 1 else 0)else(dH op a k+gT k a) / 10
theorem Dg(op:Int){a:List Int}(h8:a.length<=8):∀k,0<=dH op a k/\dH op a k<=8
 |0=>by simp[dH]
 |k+1=>by
   have ih:=Dg op h8 k;have hs:=Nt k a;show 0<=(if op=4 then(if cN (a.getD 0 0) k<cN (a.getD 1 0) k+dH op a k then 1 else 0)else(dH op a k+gT k a) / 10)/\(if op=4 then(if cN (a.getD 0 0) k<cN (a.getD 1 0) k+dH op a k then 1 else 0)else(dH op a k+gT k a) / 10)<=8;split
   .split <;> omega
   .omega
theorem aBb(N:Nat×(Int->List Int->Int->Option Int))(a:List Int)(h8:a.length<=8)(hall:∀x∈a,0<=x/\x<=999999)(c:Nat)(hc:c<N.1)(hs:c<4611686018427387904)(x1 op:Int)(k0:Int×Int->O)(k1 k2:Unit->O):∀(n i:Nat)(acc:Int),a.length-i<n->i<=a.length->0<=acc->acc<=8+9*i->AW N n (c,x1,acc,i,op,a) k0 k1 k2=k0 (x1,acc+gT c (a.drop i))
 |0,i,_,h,_,_,_=>by omega
 |n+1,i,acc,h,hi,ha0,ha1=>by
   show LJ N _ _ c x1 op a acc i=_;unfold LJ;by_cases hlt:i<a.length
   .have hg:a[i]?=some a[i]:=bJ hlt
    have hx:=hall a[i] (lF hlt);have hd:decide ((i:Int)<(a.length:Int))=true:=aO (by omega);have e:aA.wrap ((i:Int)+1)=((i+1:Nat):Int):=by rw[wr (by omega) (by omega)];omega
    have h60:=uV (N:=N.1) hx.1 (by omega) hc hs;have hb:=kU a[i] c;rw[hd,aW,dA hg,aL (uU h60),uT h60,e,iS hg,wr (by omega) (by omega)];refine(aBb N a h8 hall c hc hs x1 op k0 k1 k2 n (i+1) (acc+cN a[i] c) (by omega) (by omega) (by omega) (by omega)).trans ?_;simp only[gT,eX,BW];rw[Int.add_assoc]
   .have hd:decide ((i:Int)<(a.length:Int))=false:=bA (by omega)
    rw[hd,aT,fK (by omega)];simp[gT]
theorem aBd{N:Nat}{op:Int}{a:List Int}(V:gN op a)(hN:20<=N):∀(m k:Nat),k<m->k<=15->k6 N m op a ((k:Int)-1)=some (dH op a k)
 |0,k,h,_=>by omega
 |m+1,0,_,_=>by
   show C2 (N,k6 N m) op a _=_;unfold C2 R7 LI;rw[aO (show((0:Nat):Int)-1<0 by omega),aW];rfl
 |m+1,k+1,h,hk=>by
   show C2 (N,k6 N m) op a _=_;have ih:=aBd V hN m k (by omega) (by omega);have hc:=Dg op V.eight k;unfold C2 R7 LI;rw[show((k+1:Nat):Int)-1=(k:Int)by omega,bA (show ¬ (k:Int)<0 by omega),aT,wr (by omega) (by omega)];simp only[];simp only[ih,Option.isSome_some,e9,Option.getD_some];show _=some (if op=4 then(if cN (a.getD 0 0) k<cN (a.getD 1 0) k+dH op a k then 1 else 0)else(dH op a k+gT k a) / 10);generalize dH op a k=c at *
   by_cases h4:op=4
   .have hl:=V.pair (by omega)
    obtain⟨x,y,r,rfl⟩:=jN V.two;have hx:=V.all x (by simp);have hy:=V.all y (by simp);have e1:=uV (N:=N) (m:=x) (c:=k) hx.1 (by omega) (by omega) (by omega);have e2:=uV (N:=N) (m:=y) (c:=k) hy.1 (by omega) (by omega) (by omega);have b2:=kU y k;rw[aO h4,aW,gK,aL (uU e1),kT,aL (uU e2),uT e1,uT e2,wr (by omega) (by omega),aJ h4];show _=some (if cN x k<cN y k+c then 1 else 0);by_cases hlt:cN x k<cN y k+c
    .rw[aO hlt,aW,aJ hlt];rfl
    .rw[bA hlt,aT,aH hlt];rfl
   .rw[bA h4,aT,aH h4]
    have h8:=V.eight;have hl:=aBb (N,k6 N m) a h8 V.all k (show k<N by omega) (by omega) 0 op (λy=>ck true <|some (k5 (aA.wrap (y.2.tdiv 10)))) (λ_=>none) (λ_=>none) N 0 c (by omega) (by omega) (by omega) (by omega);rw[kJ]at hl;refine(aY (λz:O=>z.bind LD) hl).trans ?_;have hb:=Nt k a;rw[e9,BY (show 0<=c+gT k a by omega),wr (show _<=(c+gT k a) / 10 by omega) (by omega)];rfl
theorem aRG{N:Nat}{op:Int}{a:List Int}(V:gN op a)(hN:20<=N){k:Nat}(hk:k<=15):LG N op a ((k:Int)-1)=true/\C3 N op a ((k:Int)-1)=dH op a k:=by
 have:=aBd V hN N k (by omega) hk;unfold LG C3;rw[this];exact⟨rfl,rfl⟩
def xG(op:Int)(a:List Int):List Int:=(List.range (fD a)).map λk=>dH op a (k+1)
theorem gN.Uz{op:Int}{a:List Int}(V:gN op a):fD a<=6:=by
 obtain⟨x,y,r,rfl⟩:=jN V.two;rw[Gk];exact gJ (Ue _ _ _ (V.all x (by simp)).2 λz hz=>(V.all z (by simp at hz ⊢;exact .inr hz)).2)
theorem aBn(N:Nat)(a:List Int)(h8:a.length<=8)(hall:∀x∈a,0<=x/\x<=999999)(c:Nat)(hc:c<=6)(x0 x2 x3:Int)(x4:Bool)(x5 op:Int)(hop:op=3)(b o:List Int)(k0:Int×Int×Int×Int×Bool×Int×Int×List Int×Int×Int×Bool×Int×List Int×List Int->O)(k1 k2:Unit->O):∀(n i:Nat)(acc:Int),a.length-i<n->i<=a.length->0<=acc->acc<=8+9*i->
    vO N n (x0,((10^c:Nat):Int),x2,x3,x4,x5,acc,a,a.length,i,op,b,o) k0 k1 k2=k0 (x0,((10^c:Nat):Int),x2,x3,x4,x5,acc+gT c (a.drop i),a,a.length,a.length,false,op,b,o)
 |0,i,_,h,_,_,_=>by omega
 |n+1,i,acc,h,hi,ha0,ha1=>by
   show qF N _ _ x0 ((10^c:Nat):Int) x2 x3 x4 x5 a a.length op b o acc i=_;unfold qF;by_cases hlt:i<a.length
   .have hg:a[i]?=some a[i]:=bJ hlt
    have hx:=hall a[i] (lF hlt);have hd:decide ((i:Int)<(a.length:Int))=true:=aO (by omega);have e:aA.wrap ((i:Int)+1)=((i+1:Nat):Int):=by rw[wr (by omega) (by omega)];omega
    have hp:((10^c:Nat):Int)≠0:=by have:=V2 c 10 (by omega);omega
    have hq:=oS hx.1 c;have hb:=kU a[i] c;have e2:(aA.wrap (a[i].tdiv ((10^c:Nat):Int))).tmod 10=cN a[i] c:=by
     rw[BY hx.1,wr (by omega) (by omega),V9 hq.1];rfl
    rw[hd,aW,dA hg,aL (aO hp),e9,show(decide (op=4)&&decide ((i:Int)=0))=false by rw[hop];rfl,aT,e2,e,wr (by omega) (by omega)];refine(aBn N a h8 hall c hc x0 x2 x3 x4 x5 op hop b o k0 k1 k2 n (i+1) (acc+cN a[i] c) (by omega) (by omega) (by omega) (by omega)).trans ?_;rw[iS hg];simp only[gT,eX,BW];rw[Int.add_assoc]
   .have hd:decide ((i:Int)<(a.length:Int))=false:=bA (by omega)
    rw[hd,aT,fK (by omega),show i=a.length by omega];simp[gT]
theorem aR0(N n:Nat){x y:Int}(hx:0<=x/\x<=999999)(hy:0<=y/\y<=999999)(c:Nat)(x0 x2 x3:Int)(x4:Bool)(x5:Int)(b o:List Int)(k0:Int×Int×Int×Int×Bool×Int×Int×List Int×Int×Int×Bool×Int×List Int×List Int->O)(k1 k2:Unit->O)(acc:Int)(h0:0<=acc)(h1:acc<=8):
    vO N (n+3) (x0,((10^c:Nat):Int),x2,x3,x4,x5,acc,[x,y],2,0,4,b,o) k0 k1 k2=k0 (x0,((10^c:Nat):Int),x2,x3,x4,x5,acc-cN x c+cN y c,[x,y],2,2,false,4,b,o):=by
 have hp:((10^c:Nat):Int)≠0:=by have:=V2 c 10 (by omega);omega
 have e:∀z:Int,0<=z/\z<=999999->(aA.wrap (z.tdiv ((10^c:Nat):Int))).tmod 10=cN z c:=λz hz=>by
  have hq:=oS hz.1 c;rw[BY hz.1,wr (by omega) (by omega),V9 hq.1];rfl
 have bx:=kU x c;have byy:=kU y c;show qF N _ _ x0 ((10^c:Nat):Int) x2 x3 x4 x5 [x,y] 2 4 b o acc 0=_;unfold qF;rw[show decide ((0:Int)<2)=true from rfl,aW,gK,aL (aO hp),e9,show(decide ((4:Int)=4)&&decide ((0:Int)=0))=true from rfl,aW,e x hx,wr (by omega) (by omega),show aA.wrap ((0:Int)+1)=1 by decide];show qF N _ _ x0 ((10^c:Nat):Int) x2 x3 x4 x5 [x,y] 2 4 b o (acc-cN x c) 1=_;unfold qF;rw[show decide ((1:Int)<2)=true from rfl,aW,kT,aL (aO hp),e9,show(decide ((4:Int)=4)&&decide ((1:Int)=0))=false from rfl,aT,e y hy,wr (by omega) (by omega),show aA.wrap ((1:Int)+1)=2 by decide];show qF N _ _ x0 ((10^c:Nat):Int) x2 x3 x4 x5 [x,y] 2 4 b o (acc-cN x c+cN y c) 2=_;unfold qF;rw[show decide ((2:Int)<2)=false from rfl,aT]
theorem aBm{N:Nat}{op:Int}{a:List Int}(V:gN op a)(hop:op=3\/op=4)(hN:20<=N)(k0:List Int->O)(k1 k2:Unit->O):∀(n i:Nat),fD a-i<n->i<=fD a->
    AY N n (dH op a i,((10^i:Nat):Int),(fD a:Int),i,op,a,(List.range i).map λk=>dH op a (k+1)) k0 k1 k2=k0 (xG op a)
 |0,i,h,_=>by omega
 |n+1,i,h,hi=>by
   show LQ N _ _ _ (dH op a i) ((10^i:Nat):Int) (fD a:Int) i op a _=_;have hc:=V.Uz;have h8:=V.eight;have hcb:=Dg op h8 i;unfold LQ;by_cases hlt:i<fD a
   .have e:aA.wrap ((i:Int)+1)=((i+1:Nat):Int):=by rw[wr (by omega) (by omega)];omega
    have e10:aA.wrap (((10^i:Nat):Int)*10)=((10^(i+1):Nat):Int):=by
     have h1:10^i<=10^6:=Nat.pow_le_pow_right (by omega) (by omega);rw[Nat.pow_succ];generalize 10^i=u at *
     rw[wr (by omega) (by omega)];omega
    rw[aO (show(i:Int)<(fD a:Int)by omega),aW];have hnext:=aBm V hop hN k0 k1 k2 n (i+1) (by omega) (by omega);rw[List.range_succ,List.map_append]at hnext;rcases hop with h3|h4
    .subst h3
     refine(aBn N a h8 V.all i (by omega) _ _ _ _ _ 3 rfl a _ _ _ _ N 0 (dH 3 a i) (by omega) (by omega) hcb.1 (by omega)).trans ?_;have hb:=Nt i a;rw[kJ];show br (decide ((3:Int)=3)) _ _=_;rw[show decide ((3:Int)=3)=true from rfl,aW,e9];have hcz:dH 3 a (i+1)=(dH 3 a i+gT i a) / 10:=rfl;have ed:aA.wrap ((dH 3 a i+gT i a).tdiv 10)=dH 3 a (i+1):=by
      rw[BY (by omega),wr (by omega) (by omega),hcz]
     simp only[];rw[ed,aL (eJ (by simp;omega) (by simp;omega)),e10,e];exact hnext
    .subst h4
     have hl:=V.pair (by omega);obtain⟨x,y,r,rfl⟩:=jN V.two;have hr:r=[]:=by simpa using hl
     subst hr;obtain⟨m,rfl⟩:∃m,N=m+3:=⟨N-3,by omega⟩
     refine(aR0 (m+3) m (V.all x (by simp)) (V.all y (by simp)) i _ _ _ _ _ _ _ _ _ _ (dH 4 [x,y] i) hcb.1 hcb.2).trans ?_;show br (decide ((4:Int)=3)) _ _=_;rw[show decide ((4:Int)=3)=false from rfl,aT];have b1:=kU x i;have b2:=kU y i;have ed:min (max (dH 4 [x,y] i-cN x i+cN y i) 0) 1=dH 4 [x,y] (i+1):=by
      show _=if cN x i<cN y i+dH 4 [x,y] i then(1:Int)else 0
      split <;> omega
     simp only[];rw[ed,aL (eJ (by simp;omega) (by simp;omega)),e10,e];exact hnext
   .rw[bA (show ¬ (i:Int)<(fD a:Int)by omega),aT,show i=fD a by omega]
    rfl
theorem aR1{N:Nat}{op:Int}{a:List Int}(V:gN op a)(ho:op=3\/op=4)(hN:20<=N):vM N op a=some (xG op a):=by
 unfold vM w36 Re;have hl:=aBm V ho hN (λy=>some (FE y)) (λ_=>none) (λ_=>none) N 0 (by have:=V.Uz;omega) (by omega);have h8:=V.eight;have hall:=V.all;obtain⟨x,y,r,rfl⟩:=jN V.two;have hx:=hall x (by simp);have h58:=aMV (N:=N) (x:=x) (r:=y::r) (by omega) (by omega);have hg:=(Uf (y::r) x).1;have hm:=Ue (y::r) x 999999 hx.2 λz hz=>(hall z (List.mem_cons_of_mem _ hz)).2
 have h57:=sG N (n:=(y::r).foldl max x) ⟨by omega,by omega⟩ (by omega);rw[<-Gk]at h57;rw[aL (aMU h58),aMT h58,aL (sF h57),sE h57];exact(aY (λz:O=>z.bind LK) hl).trans rfl
end Go.Proofs
/- SpatialResults, in plain words. -/
namespace Go.Proofs
open Go Go.Ax Go.Ax.aB
theorem iH.tdiv{x m:Int}(h:iH x)(hm:1<=m):iH (aA.wrap (x.tdiv m)):=by
 obtain⟨b1,b2⟩:=h;have:-9223372036854775808<=x.tdiv m/\x.tdiv m<=9223372036854775807:=by
  by_cases h0:0<=x
  .have:=OT h0 (show(0:Int)<=m by omega)
   have:=OU m h0;omega
  .have e:x.tdiv m = -((-x).tdiv m):=by rw[Int.neg_tdiv];omega
   have:=OT (show 0 <= -x by omega) (show(0:Int)<=m by omega);have:=OU m (show 0 <= -x by omega);omega
 rw[wr this.1 this.2];exact this
end Go.Proofs
