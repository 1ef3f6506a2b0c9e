/- The reader of the reference. Conditions are in the theorems. -/
import Derived.Test.YtlhdefefoaldfaaGreatDoorG5
import Derived.Test.YtlhdefefoaldfaaGreatDoorF4
open Bool renaming false_and->iU,false_or->vZ,not_false->gX,true_and->iE
open Go.IntKind renaming i64->aC
open List renaming dropWhile_cons->Jw,suffix_rfl->aAo,takeWhile_cons->bAI
open Prod.mk renaming injEq->s8
open UInt8 renaming le_iff_toNat_le->zF,toNat_sub_of_le->a9p
/- The reference's reader: what it sees, takes, needs, numerals. -/
namespace Go.Proofs
open Go Go.Ax Go.Ax.aA
theorem aC7{N:Nat}{s:Tx}{b:Bool}{K:Tx×Int×Bool->O}{k1 k2:Unit->O}(hs:s.length<2^62):∀(l:Tx)(m:Nat),l <:+ s->l.length<m->AE N m (s,at_ s l,b) K k1 k2=K (s,at_ s (aU l),b)
 |_,0,_,h=>by omega
 |[],m+1,_,_=>by
   show Ce _ _ _ _ _ _=_;unfold Ce;simp only[];rw[zD,aR (by omega),qX,iU,aK];rfl
 |c::t,m+1,h,hm=>by
   have a:=rC h;show Ce _ _ _ _ _ _=_;unfold Ce;simp only[];rw[aQ a.2.2,pT,pS h,iE];by_cases hc:c=32
   .rw[aQ hc,aX,oS h hs,aU,aJ hc]
    exact aC7 hs t m (Ix h) (by simp at hm;omega)
   .rw[aR hc,aK,aU,aD hc]
section
variable{N:Nat}{s l:Tx}{b:Bool}(hs:s.length<2^62)(h:l <:+ s)(hN:s.length<N)
include hs h hN
theorem Kx:AD N s (at_ s l) b=some (s,at_ s (aU l),b):=by
 have hl:=h.length_le;have:=aC7 (N:=N) (b:=b) (K:=λy=>(λz4 z5 z6=>some (GR z4 z5 z6)) y.1 y.2.1 y.2.2) (k1:=λ_=>none) (k2:=λ_=>none) hs l N h (by omega);exact(bE (λz:O=>z.bind Kv) this).trans rfl
theorem aC6:GS N s (at_ s l) b=true:=by unfold GS;rw[Kx hs h hN];rfl
theorem aC5:wL N s (at_ s l) b=s:=by unfold wL;rw[Kx hs h hN];rfl
theorem aC4:wK N s (at_ s l) b=at_ s (aU l):=by unfold wK;rw[Kx hs h hN];rfl
theorem aC3:Cd N s (at_ s l) b=b:=by unfold Cd;rw[Kx hs h hN];rfl
theorem Ik:xT N s (at_ s l) b=some ((aU l).headD 0,s,at_ s (aU l),b):=by
 have h':=(eK l).trans h;show(QD _ _ _ _:O).bind QC=_;unfold QD;rw[aI (aC6 hs h hN),aC5 hs h hN,aC4 hs h hN,aC3 hs h hN];cases hk:aU l with
 |nil=>rw[zD,aQ (by omega),aX];rfl
 |cons c t=>
   rw[hk]at h';have a:=rC h';rw[aR (by omega),aK,pS h'];rfl
theorem xZ:Ii N s (at_ s l) b=true:=by unfold Ii;rw[Ik hs h hN];rfl
theorem xY:uZ N s (at_ s l) b=(aU l).headD 0:=by unfold uZ;rw[Ik hs h hN];rfl
theorem xX:Bj N s (at_ s l) b=s:=by unfold Bj;rw[Ik hs h hN];rfl
theorem xW:xU N s (at_ s l) b=at_ s (aU l):=by unfold xU;rw[Ik hs h hN];rfl
theorem xV:Eh N s (at_ s l) b=b:=by unfold Eh;rw[Ik hs h hN];rfl
theorem kG{c:UInt8}{t:Tx}(hk:aU l=c::t):lK N c s (at_ s l) false=some (true,s,at_ s t,false):=by
 have h':(c::t) <:+ s:=hk ▸ (eK l).trans h;have a:=rC h';show(Cg _ _ _ _ _:O).bind GU=_;unfold Cg;rw[aK,aI (xZ hs h hN),xY hs h hN,xX hs h hN,xW hs h hN,xV hs h hN,hk,aR (by simp),aR (by omega),vZ,aK,oS h' hs];rfl
theorem kH{c:UInt8}(hk:(aU l).head?≠some c)(h0:c≠0):lK N c s (at_ s l) false=some (false,s,at_ s (aU l),false):=by
 show(Cg _ _ _ _ _:O).bind GU=_;unfold Cg;rw[aK,aI (xZ hs h hN),xY hs h hN,xX hs h hN,xW hs h hN,xV hs h hN,aQ,Bool.true_or,aX]
 .rfl
 .cases hk':aU l with
  |nil=>exact λh=>h0 h.symm
  |cons d t=>rw[hk']at hk;exact λh=>hk (by rw[<-h];rfl)
end
theorem It{N:Nat}{s:Tx}{c:UInt8}{i:Int}:lK N c s i true=some (false,s,i,true):=rfl
section
variable{N:Nat}{s:Tx}{c:UInt8}{i j:Int}{a b d:Bool}
theorem fW{r}(h:lK N c s i b=some r):nG N c s i b=true:=by unfold nG;rw[h];rfl
theorem gD(h:lK N c s i b=some (a,s,j,d)):nF N c s i b=a:=by unfold nF;rw[h];rfl
theorem fZ(h:lK N c s i b=some (a,s,j,d)):kY N c s i b=s:=by unfold kY;rw[h];rfl
theorem fY(h:lK N c s i b=some (a,s,j,d)):kX N c s i b=j:=by unfold kX;rw[h];rfl
theorem fX(h:lK N c s i b=some (a,s,j,d)):lL N c s i b=d:=by unfold lL;rw[h];rfl
theorem pN(h:lK N c s i b=some (a,s,j,d)):nU N c s i b=some (s,j,d||!a):=by
 show(Pg _ _ _ _ _:O).bind Pf=_;unfold Pg;rw[aI (fW h),gD h,fZ h,fY h,fX h];cases a <;> cases d <;> rfl
theorem RX{r}(h:nU N c s i b=some r):IZ N c s i b=true:=by unfold IZ;rw[h];rfl
theorem R7(h:nU N c s i b=some (s,j,d)):IX N c s i b=s:=by unfold IX;rw[h];rfl
theorem RZ(h:nU N c s i b=some (s,j,d)):IW N c s i b=j:=by unfold IW;rw[h];rfl
theorem RY(h:nU N c s i b=some (s,j,d)):IV N c s i b=d:=by unfold IV;rw[h];rfl
end
theorem XY{N:Nat}{s:Tx}{z i0 x y:Int}{b:Bool}{K:Int×Int×Int×Int×Tx×Int×Bool×Int×Int->O}{k1 k2:Unit->O}(hs:s.length<2^62)(i:Nat)(hi:i0=(i:Int)):∀(l:Tx)(m:Nat)(acc:Int)(j:Nat),l <:+ s->l.length<m->at_ s l=((i+j:Nat):Int)->0<=acc->acc<10^(min j 7)->
    ∃n,r8 N m (z,i0,acc,at_ s l,s,i0,b,x,y) K k1 k2=K (z,i0,n,at_ s (l.dropWhile bG),s,i0,b,x,y)/\(j+(l.takeWhile bG).length<=7->n=(l.takeWhile bG).foldl (λn c=>10*n+((c.toNat:Int)-48)) acc)
 |_,0,_,_,_,h,_,_,_=>by omega
 |[],m+1,acc,j,_,_,_,_,_=>by
   refine⟨acc,?_,λ_=>rfl⟩;show xM _ _ _ _ _ _ _ _ _ _ _ _=_;unfold xM;simp only[];rw[zD,aR (by omega),qX,iU,qX,iU,aK];rfl
 |c::t,m+1,acc,j,h,hm,hj,h0,h1=>by
   have ha:=rC h;have step:∀X:O,(decide (48<=c)&&decide (c<=57))=true->r8 N (m+1) (z,i0,acc,at_ s (c::t),s,i0,b,x,y) K k1 k2=br (decide (aC.wrap (at_ s (c::t)-i0)<7)) (r8 N m (z,i0,aC.wrap (aC.wrap (10*acc)+aC.wrap (((c-48).toNat:Nat):Int)),at_ s t,s,i0,b,x,y) K k1 k2) (r8 N m (z,i0,acc,at_ s t,s,i0,b,x,y) K k1 k2):=λ_ hd=>by
    rw[Bool.and_eq_true]at hd;show xM _ _ _ _ _ _ _ _ _ _ _ _=_;unfold xM;simp only[];rw[aQ ha.2.2,pT,pS h,iE,hd.1,pT,pS h,iE,hd.2,aX,pS h,oS h hs]
   cases hd:bG c with
   |false=>
     have hn:¬ bG c=true:=by rw[hd];simp
     refine⟨acc,?_,λ_=>by rw[bAI,aD hn];rfl⟩;show xM _ _ _ _ _ _ _ _ _ _ _ _=_;unfold xM;simp only[];rw[aQ ha.2.2,pT,pS h,iE,Jw,aD hn];unfold bG at hd;cases h1:decide (48<=c)with
     |false=>rw[qX,iU,aK]
     |true=>
       rw[h1,iE]at hd;rw[pT,pS h,iE,hd,aK]
   |true=>
     have hc:=CK hd;have hsub:(c-48).toNat=c.toNat-48:=by rw[a9p _ _ (zF.2 (show(48:UInt8).toNat<=c.toNat from hc.1))];rfl
     rw[step none hd,hsub,bAI,aJ hd,Jw,aJ hd,hj,hi];have hle:=aM4 (s:=s) (l:=c::t);rw[wr (x:=((i+j:Nat):Int)-(i:Int)) (by omega) (by omega)];have hp7:(10:Int)^min j 7<=10000000:=by
      have:(10:Int)^min j 7<=10^7:=by
       have:=Nat.pow_le_pow_right (n:=10) (by omega) (show min j 7<=7 by omega)
       exact_mod_cast this
      exact this
     by_cases h7:j<7
     .rw[aQ (by omega),aX,wr (x:=10*acc) (by omega) (by omega),wr (x:=((c.toNat-48:Nat):Int)) (by omega) (by omega),wr (by omega) (by omega)]
      have hp:(10:Int)^(min (j+1) 7)=10^(min j 7)*10:=by rw[show min (j+1) 7=min j 7+1 by omega];exact Int.pow_succ ..
      obtain⟨n,e1,e2⟩:=XY (N:=N) (z:=z) (x:=x) (y:=y) (b:=b) (K:=K) (k1:=k1) (k2:=k2) hs i rfl t m (10*acc+((c.toNat-48:Nat):Int)) (j+1) (Ix h) (by simp at hm;omega) (by omega) (by omega) (by omega);refine⟨n,e1,λhl=>?_⟩;rw[e2 (by simp at hl;omega),List.foldl_cons,show((c.toNat-48:Nat):Int)=(c.toNat:Int)-48 by omega]
     .rw[aR (by omega),aK]
      obtain⟨n,e1,_⟩:=XY (N:=N) (z:=z) (x:=x) (y:=y) (b:=b) (K:=K) (k1:=k1) (k2:=k2) hs i rfl t m acc (j+1) (Ix h) (by simp at hm;omega) (by omega) h0 (by rw[show min (j+1) 7=min j 7 by omega];exact h1);exact⟨n,e1,λhl=>by simp at hl;omega⟩
theorem a2H{N:Nat}{s t:Tx}{c:UInt8}(hs:s.length<2^62)(h:(c::t) <:+ s)(hN:s.length<N)(hd:bG c=true):
    r7 N s (at_ s (c::t)) false=some (if mB ((c::t).takeWhile bG)=true then(0,mS ((c::t).takeWhile bG),[],s,at_ s ((c::t).dropWhile bG),false)else(0,0,[],s,at_ s (c::t),true)):=by
 have hl:=h.length_le;obtain⟨n,e1,e2⟩:=XY (N:=N) (z:=at_ s (c::t)) (x:=0) (y:=0) (b:=false) (K:=λy=>(λ_ z11 z12 z13 z14 z15 z16 _ _=>
     gc (!decide (6<aC.wrap (z13-z11))&&decide (1<aC.wrap (z13-z11))) 0 z14 z11 λy19=>
     br (decide (6<aC.wrap (z13-z11))||decide (1<aC.wrap (z13-z11))&&decide (y19=48))
      (some (B0 0 0 [] z14 z15 true))
      (some (B0 0 z12 [] z14 z13 z16))) y.1 y.2.1 y.2.2.1 y.2.2.2.1 y.2.2.2.2.1 y.2.2.2.2.2.1 y.2.2.2.2.2.2.1 y.2.2.2.2.2.2.2.1 y.2.2.2.2.2.2.2.2) (k1:=λ_=>none) (k2:=λ_=>none) hs (s.length-(c::t).length) rfl (c::t) N 0 0 h (by omega) rfl (by omega) (by simp)
 refine(bE (λz:O=>z.bind Ph) e1).trans ?_;simp only[];have hw:aC.wrap (at_ s ((c::t).dropWhile bG)-at_ s (c::t))=(((c::t).takeWhile bG).length:Int):=by
  have e:=bE List.length (List.takeWhile_append_dropWhile (p:=bG) (l:=c::t));rw[List.length_append]at e;unfold at_;rw[wr (by omega) (by omega)];omega
 rw[show((s.length-(c::t).length:Nat):Int)=at_ s (c::t)from rfl,hw];have e2:((c::t).takeWhile bG).length<=7->n=mS ((c::t).takeWhile bG):=λhh=>e2 (by omega)
 have hg:∀(b:Bool)(k:UInt8->O),gc b 0 s (at_ s (c::t)) k=k (if b then c else 0):=λb k=>by
  cases b
  .rfl
  .rw[pT,pS h];rfl
 rw[hg];have hne:(c::t).takeWhile bG=c::t.takeWhile bG:=Yc hd;unfold mB;rw[hne]at e2 ⊢;generalize t.takeWhile bG=run at *
 by_cases h6:(c::run).length<=6
 .rw[aR (by omega),aQ h6,e2 (by omega),gX,iE,iE,vZ]
  by_cases h1:1<(c::run).length
  .rw[aQ (show(1:Int)<((c::run).length:Int)by omega),aQ h1,iE,iE,aJ rfl]
   by_cases h48:c=48
   .subst h48;rfl
   .rw[aR h48,aK,aJ (by simpa using h48)];rfl
  .rw[aR (show ¬ (1:Int)<((c::run).length:Int)by omega),aR h1,iU,iU,aK];rfl
 .rw[aQ (by omega),aR h6,Bool.true_or,aX];rfl
end Go.Proofs
/- The reference's reader: atoms, factors, terms, sums, round by round. -/
namespace Go.Proofs
open Go Go.Ax Go.Ax.aA
abbrev Vr:=Int×Int×List Ex×Tx×Int×Bool
abbrev Fr:=Tx->Int->Bool->Option Vr
abbrev Rr:=Fr×Fr×Fr×Fr
def jU(s:Tx):Pr->Vr->Prop
 |.ok e t,v=>v=(e.op,e.num,e.kids,s,at_ s t,false)
 |.bad b,v=>∃x y z,v=(x,y,z,s,at_ s b,true)
def Rv(N:Nat)(S:Fr)(s:Tx)(i:Int)(r:Pr):Prop:=∃a b x y z j d j' d',nU N 40 s i false=some (s,a,b)/\S s a b=some (x,y,z,s,j,d)/\nU N 41 s j d=some (s,j',d')/\jU s r (x,y,z,s,j',d')
section
variable{N:Nat}{rc:Rr}{s l:Tx}(hs:s.length<2^62)(h:l <:+ s)(hN:s.length<N)
include hs h hN
theorem aK1{t:Tx}{c:UInt8}(hk:aU l=c::t)(hd:bG c=true):uQ (N,rc) s (at_ s l) false=some (if mB ((c::t).takeWhile bG)=true then(0,mS ((c::t).takeWhile bG),[],s,at_ s ((c::t).dropWhile bG),false)else(0,0,[],s,at_ s (c::t),true)):=by
 have h':(c::t) <:+ s:=hk ▸ (eK l).trans h;have hz:=a2H hs h' hN hd;show(nV _ _ _ _:O).bind uR=_;unfold nV;simp only[];rw[aI (xZ hs h hN),xY hs h hN,xX hs h hN,xW hs h hN,xV hs h hN,aK,hk];have hdd:(decide (48<=(c::t).headD 0)&&decide ((c::t).headD 0<=57))=true:=hd;rw[hdd,aX];unfold XU XS XR XQ XP XN XM;rw[hz,aI sm,sg];cases mB ((c::t).takeWhile bG)with
 |true=>rfl
 |false=>rfl
theorem a4w{t:Tx}{c:UInt8}(hk:aU l=c::t)(hl:eH c=true):uQ (N,rc) s (at_ s l) false=some (1,(c.toNat:Int)-97,[],s,at_ s t,false):=by
 have h':(c::t) <:+ s:=hk ▸ (eK l).trans h;obtain⟨hd,h1,h2⟩:=aLP hl;show(nV _ _ _ _:O).bind uR=_;unfold nV;simp only[];rw[aI (xZ hs h hN),xY hs h hN,xX hs h hN,xW hs h hN,xV hs h hN,aK,hk];have hdd:(decide (48<=(c::t).headD 0)&&decide ((c::t).headD 0<=57))=false:=hd;have hll:(decide (97<=(c::t).headD 0)&&decide ((c::t).headD 0<=122))=true:=hl;rw[hdd,aK,hll,aX,oS h' hs];have hw:aC.wrap ((((c::t).headD 0-97).toNat:Nat):Int)=(c.toNat:Int)-97:=by
  have e:((c::t).headD 0-97).toNat=c.toNat-97:=by
   show(c-97).toNat=_;rw[a9p _ _ (zF.2 (show(97:UInt8).toNat<=c.toNat from h1))];rfl
  rw[e,wr (by omega) (by omega)];omega
 rw[hw];rfl
theorem a4y{r:Pr}(hc:∀c,(aU l).head?=some c->bG c=false/\eH c=false/\c≠82)(hp:Rv N rc.2.2.2 s (at_ s (aU l)) r):∃v,uQ (N,rc) s (at_ s l) false=some v/\jU s r v:=by
 have h':=(eK l).trans h;have cond:(decide (48<=(aU l).headD 0)&&decide ((aU l).headD 0<=57))=false/\(decide (97<=(aU l).headD 0)&&decide ((aU l).headD 0<=122))=false:=by
  cases hk:aU l with
  |nil=>exact⟨rfl,rfl⟩
  |cons c t=>
    have:=hc c (by rw[hk];rfl);exact⟨this.1,this.2.1⟩
 have tk:=kH (c:=82) hs h' hN (by rw[fL];exact λhh=>(hc _ hh).2.2 rfl) (by decide);rw[fL]at tk;obtain⟨a,b,x,y,z,j,d,j',d',h1,h2,h3,h4⟩:=hp;refine⟨(x,y,z,s,j',d'),?_,h4⟩;show(nV _ _ _ _:O).bind uR=_;unfold nV;simp only[];rw[aI (xZ hs h hN),xY hs h hN,xX hs h hN,xW hs h hN,xV hs h hN,aK,cond.1,aK,cond.2,aK];rw[aI (fW tk),gD tk,fZ tk,fY tk,fX tk,aI (RX h1),R7 h1,RZ h1,RY h1,h2,aI sm,sg];simp only[];rw[aI (RX h3),aK,R7 h3,RZ h3,RY h3];rfl
theorem a4x{t:Tx}{r:Pr}(hk:aU l=82::t)(hp:Rv N rc.2.2.2 s (at_ s t) r):∃v,uQ (N,rc) s (at_ s l) false=some v/\jU s (r.map λe=>.mk 8 0 [e]) v:=by
 have h':=(eK l).trans h;have tk:=kG (c:=82) hs h' hN (by rw[fL];exact hk);rw[hk]at tk;obtain⟨a,b,x,y,z,j,d,j',d',h1,h2,h3,h4⟩:=hp;refine⟨(8,0,[Ex.mk x y z],s,j',d'),?_,?_⟩
 .show(nV _ _ _ _:O).bind uR=_
  unfold nV;simp only[];rw[aI (xZ hs h hN),xY hs h hN,xX hs h hN,xW hs h hN,xV hs h hN,aK,hk,
   show(decide (48<=((82::t:Tx)).headD 0)&&decide ((82::t:Tx).headD 0<=57))=false from rfl,aK,show(decide (97<=((82::t:Tx)).headD 0)&&decide ((82::t:Tx).headD 0<=122))=false from rfl,aK]
  rw[aI (fW tk),gD tk,fZ tk,fY tk,fX tk,aI (RX h1),R7 h1,RZ h1,RY h1,h2,aI sm,sg];simp only[];rw[aI (RX h3),aX,R7 h3,RZ h3,RY h3];rfl
 .cases r with
  |ok e u=>
    simp only[jU,s8]at h4;obtain⟨rfl,rfl,rfl,_,rfl,rfl⟩:=h4;rw[kN];exact rfl
  |bad b=>
    obtain⟨x',y',z',e⟩:=h4;simp only[s8]at e;obtain⟨_,_,_,_,rfl,rfl⟩:=e;exact⟨_,_,_,rfl⟩
theorem a4c{t:Tx}{r:Pr}{v:Vr}(hk:aU l=45::t)(hr:rc.2.1 s (at_ s t) false=some v)(hv:jU s r v):∃v,xP (N,rc) s (at_ s l) false=some v/\jU s (r.map λe=>.mk 2 0 [e]) v:=by
 have tk:=kG (c:=45) hs h hN hk;obtain⟨x,y,z,s',j,d⟩:=v;have hs':s'=s:=by
  cases r with
  |ok e u=>simp only[jU,s8]at hv;exact hv.2.2.2.1
  |bad b=>obtain⟨x',y',z',e⟩:=hv;simp only[s8]at e;exact e.2.2.2.1
 subst hs';refine⟨(2,0,[Ex.mk x y z],s',j,d),?_,?_⟩
 .show(r9 _ _ _ _:O).bind Be=_
  unfold r9;simp only[];rw[aK,aI (fW tk),gD tk,fZ tk,fY tk,fX tk,aX,hr,aI sm,sg];rfl
 .cases r with
  |ok e u=>
    simp only[jU,s8]at hv;obtain⟨rfl,rfl,rfl,_,rfl,rfl⟩:=hv;rw[kN];exact rfl
  |bad b=>
    obtain⟨x',y',z',e⟩:=hv;simp only[s8]at e;obtain⟨_,_,_,_,rfl,rfl⟩:=e;exact⟨_,_,_,rfl⟩
theorem a4d{b:Tx}{x y:Int}{z:List Ex}(hh:(aU l).head?≠some 45)(hr:rc.1 s (at_ s (aU l)) false=some (x,y,z,s,at_ s b,true)):xP (N,rc) s (at_ s l) false=some (x,y,z,s,at_ s b,true):=by
 have tk:=kH (c:=45) hs h hN hh (by decide);have tb:=It (N:=N) (s:=s) (c:=94) (i:=at_ s b);show(r9 _ _ _ _:O).bind Be=_;unfold r9;simp only[];rw[aK,aI (fW tk),gD tk,fZ tk,fY tk,fX tk,aK,hr,aI sm,sg];simp only[];rw[aI (fW tb),gD tb,fZ tb,fY tb,fX tb,aK];rfl
theorem a4b{t:Tx}{x y:Int}{z:List Ex}(hh:(aU l).head?≠some 45)(ht:t <:+ s)(hr:rc.1 s (at_ s (aU l)) false=some (x,y,z,s,at_ s t,false))(h2:(aU t).head?≠some 94):xP (N,rc) s (at_ s l) false=some (x,y,z,s,at_ s (aU t),false):=by
 have tk:=kH (c:=45) hs h hN hh (by decide);have tb:=kH (c:=94) hs ht hN h2 (by decide);show(r9 _ _ _ _:O).bind Be=_;unfold r9;simp only[];rw[aK,aI (fW tk),gD tk,fZ tk,fY tk,fX tk,aK,hr,aI sm,sg];simp only[];rw[aI (fW tb),gD tb,fZ tb,fY tb,fX tb,aK];rfl
theorem a4a{t t':Tx}{x y x' y' j:Int}{z z':List Ex}{d:Bool}(hh:(aU l).head?≠some 45)(ht:t <:+ s)(hr:rc.1 s (at_ s (aU l)) false=some (x,y,z,s,at_ s t,false))(h2:aU t=94::t')(hr':rc.2.1 s (at_ s t') false=some (x',y',z',s,j,d)):xP (N,rc) s (at_ s l) false=some (7,0,[Ex.mk x y z,Ex.mk x' y' z'],s,j,d):=by
 have tk:=kH (c:=45) hs h hN hh (by decide);have tb:=kG (c:=94) hs ht hN h2;show(r9 _ _ _ _:O).bind Be=_;unfold r9;simp only[];rw[aK,aI (fW tk),gD tk,fZ tk,fY tk,fX tk,aK,hr,aI sm,sg];simp only[];rw[aI (fW tb),gD tb,fZ tb,fY tb,fX tb,aX,hr',aI sm,sg];rfl
end
theorem a4e{N:Nat}{rc:Rr}{s:Tx}{i:Int}:xP (N,rc) s i true=some (0,0,[],s,i,true):=rfl
theorem Yk{N:Nat}{rc:Rr}{s l:Tx}(hs:s.length<2^62)(h:l <:+ s)(hN:s.length<N):uQ (N,rc) s (at_ s (aU l)) false=uQ (N,rc) s (at_ s l) false:=by
 have h':=(eK l).trans h;show(nV _ _ _ _:O).bind uR=(nV _ _ _ _:O).bind uR;unfold nV;simp only[];rw[aI (xZ hs h hN),aI (xZ hs h' hN),xY hs h hN,xX hs h hN,xW hs h hN,xV hs h hN,xY hs h' hN,xX hs h' hN,xW hs h' hN,xV hs h' hN,fL]
theorem a3r{N m:Nat}{rc:Rr}{s:Tx}{i a b x y:Int}{z:List Ex}{K:Tx×Int×Bool×Int×Int×Int×Int×List Ex->O}{k1 k2:Unit->O}:nX (N,rc) (m+1) (s,i,true,a,b,x,y,z) K k1 k2=K (s,i,true,a,b,x,y,z):=rfl
section
variable{N m:Nat}{rc:Rr}{s l:Tx}{a b x y:Int}{z:List Ex}{K:Tx×Int×Bool×Int×Int×Int×Int×List Ex->O}{k1 k2:Unit->O}(hs:s.length<2^62)(h:l <:+ s)(hN:s.length<N)
include hs h hN
theorem a3q(h1:(aU l).head?≠some 42)(h2:(aU l).head?≠some 47):nX (N,rc) (m+1) (s,at_ s l,false,a,b,x,y,z) K k1 k2=K (s,at_ s (aU l),false,a,b,x,y,z):=by
 have h':=(eK l).trans h;have ta:=kH (c:=42) hs h hN h1 (by decide);have tb:=kH (c:=47) hs h' hN (by rw[fL];exact h2) (by decide);rw[fL]at tb;show Ei _ _ _ _ _ _ _ _ _ _ _=_;unfold Ei;simp only[];rw[gX,aX,aI (fW ta),gD ta,aK,fZ ta,fY ta,fX ta,aI (fW tb),gD tb,aK,fZ tb,fY tb,fX tb]
theorem aJ9{c:UInt8}{o x' y' j:Int}{z':List Ex}{d:Bool}{t:Tx}(hl:aU l=c::t)(ho:(c=42/\o=5)\/(c=47/\o=6))(hr:rc.2.1 s (at_ s t) false=some (x',y',z',s,j,d)):
    nX (N,rc) (m+1) (s,at_ s l,false,a,b,x,y,z) K k1 k2=nX (N,rc) m (s,j,d,a,b,o,0,[Ex.mk x y z,Ex.mk x' y' z']) K k1 k2:=by
 have h':=(eK l).trans h;show Ei _ _ _ _ _ _ _ _ _ _ _=_;unfold Ei;simp only[];rcases ho with⟨rfl,rfl⟩|⟨rfl,rfl⟩
 .have ta:=kG (c:=42) hs h hN hl
  rw[gX,aX,aI (fW ta),gD ta,aX,fZ ta,fY ta,fX ta,hr,aI sm,sg]
 .have ta:=kH (c:=42) hs h hN (by rw[hl];simp) (by decide)
  have tb:=kG (c:=47) hs h' hN (by rw[fL];exact hl);rw[gX,aX,aI (fW ta),gD ta,aK,fZ ta,fY ta,fX ta,aI (fW tb),gD tb,aX,fZ tb,fY tb,fX tb,hr,aI sm,sg]
end
theorem YB{N:Nat}{rc:Rr}{s:Tx}{i j j' x y x' y':Int}{z z':List Ex}{b0 d d':Bool}(hf:rc.2.1 s i b0=some (x,y,z,s,j,d))
    (hlo:∀(K:Tx×Int×Bool×Int×Int×Int×Int×List Ex->O)(k1 k2:Unit->O),nX (N,rc) N (s,j,d,0,0,x,y,z) K k1 k2=K (s,j',d',0,0,x',y',z')):QE (N,rc) s i b0=some (x',y',z',s,j',d'):=by
 show(QI _ _ _ _ _:O).bind QF=_;unfold QI;simp only[];rw[hf,aI sm,sg];simp only[];unfold Xx;simp only[];rw[hlo];rfl
theorem aQM{N m:Nat}{rc:Rr}{s:Tx}{i a b x y:Int}{z:List Ex}{K:Tx×Int×Bool×Int×Int×Int×Int×List Ex->O}{k1 k2:Unit->O}:nH (N,rc) (m+1) (s,i,true,a,b,x,y,z) K k1 k2=K (s,i,true,a,b,x,y,z):=rfl
section
variable{N m:Nat}{rc:Rr}{s l:Tx}{a b x y:Int}{z:List Ex}{K:Tx×Int×Bool×Int×Int×Int×Int×List Ex->O}{k1 k2:Unit->O}(hs:s.length<2^62)(h:l <:+ s)(hN:s.length<N)
include hs h hN
theorem aQL(h1:(aU l).head?≠some 43)(h2:(aU l).head?≠some 45):nH (N,rc) (m+1) (s,at_ s l,false,a,b,x,y,z) K k1 k2=K (s,at_ s (aU l),false,a,b,x,y,z):=by
 have h':=(eK l).trans h;have ta:=kH (c:=43) hs h hN h1 (by decide);have tb:=kH (c:=45) hs h' hN (by rw[fL];exact h2) (by decide);rw[fL]at tb;show Cp _ _ _ _ _ _ _ _ _ _ _=_;unfold Cp;simp only[];rw[gX,aX,aI (fW ta),gD ta,aK,fZ ta,fY ta,fX ta,aI (fW tb),gD tb,aK,fZ tb,fY tb,fX tb]
theorem aCh{c:UInt8}{o x' y' j:Int}{z':List Ex}{d:Bool}{t:Tx}(hl:aU l=c::t)(ho:(c=43/\o=3)\/(c=45/\o=4))(hr:rc.2.2.1 s (at_ s t) false=some (x',y',z',s,j,d)):
    nH (N,rc) (m+1) (s,at_ s l,false,a,b,x,y,z) K k1 k2=nH (N,rc) m (s,j,d,a,b,o,0,[Ex.mk x y z,Ex.mk x' y' z']) K k1 k2:=by
 have h':=(eK l).trans h;show Cp _ _ _ _ _ _ _ _ _ _ _=_;unfold Cp;simp only[];rcases ho with⟨rfl,rfl⟩|⟨rfl,rfl⟩
 .have ta:=kG (c:=43) hs h hN hl
  rw[gX,aX,aI (fW ta),gD ta,aX,fZ ta,fY ta,fX ta,hr,aI sm,sg]
 .have ta:=kH (c:=43) hs h hN (by rw[hl];simp) (by decide)
  have tb:=kG (c:=45) hs h' hN (by rw[fL];exact hl);rw[gX,aX,aI (fW ta),gD ta,aK,fZ ta,fY ta,fX ta,aI (fW tb),gD tb,aX,fZ tb,fY tb,fX tb,hr,aI sm,sg]
end
theorem TI{N:Nat}{rc:Rr}{s:Tx}{i j j' x y x' y':Int}{z z':List Ex}{b0 d d':Bool}(hf:rc.2.2.1 s i b0=some (x,y,z,s,j,d))
    (hlo:∀(K:Tx×Int×Bool×Int×Int×Int×Int×List Ex->O)(k1 k2:Unit->O),nH (N,rc) N (s,j,d,0,0,x,y,z) K k1 k2=K (s,j',d',0,0,x',y',z')):Kz (N,rc) s i b0=some (x',y',z',s,j',d'):=by
 show(LG _ _ _ _ _:O).bind LA=_;unfold LG;simp only[];rw[hf,aI sm,sg];simp only[];unfold TF;simp only[];rw[hlo];rfl
end Go.Proofs
/- The reference's Parse: what it returns for any text. -/
namespace Go.Proofs
open Go Go.Ax Go.Ax.aA
abbrev gR(N n:Nat):Rr:=iG N n
theorem aJa{N:Nat}(hN:1<=N){rc:Rr}{s:Tx}{i x y:Int}{z:List Ex}(K:Tx×Int×Bool×Int×Int×Int×Int×List Ex->O)(k1 k2:Unit->O):nX (N,rc) N (s,i,true,0,0,x,y,z) K k1 k2=K (s,i,true,0,0,x,y,z):=by
 cases N with
 |zero=>omega
 |succ N=>rfl
theorem aCi{N:Nat}(hN:1<=N){rc:Rr}{s:Tx}{i x y:Int}{z:List Ex}(K:Tx×Int×Bool×Int×Int×Int×Int×List Ex->O)(k1 k2:Unit->O):nH (N,rc) N (s,i,true,0,0,x,y,z) K k1 k2=K (s,i,true,0,0,x,y,z):=by
 cases N with
 |zero=>omega
 |succ N=>rfl
theorem bF{N n:Nat}{s:Tx}{i:Int}:(gR N (n+1)).2.1 s i true=some (0,0,[],s,i,true):=a4e (N:=N) (rc:=gR N n)
theorem bT{N n:Nat}{s:Tx}{i:Int}(hN:1<=N):(gR N (n+2)).2.2.1 s i true=some (0,0,[],s,i,true):=YB (rc:=gR N (n+1)) bF (aJa hN)
theorem bS{N n:Nat}{s:Tx}{i:Int}(hN:1<=N):(gR N (n+3)).2.2.2 s i true=some (0,0,[],s,i,true):=TI (rc:=gR N (n+2)) (bT hN) (aCi hN)
def bAA(N:Nat)(s:Tx):Kd->Tx->Pr->Prop
 |.pa,l,r=>∀n,8*l.length+4<=n->Rv N (gR N n).2.2.2 s (at_ s l) r/\Rv N (gR N n).2.2.2 s (at_ s (aU l)) r
 |.at,l,r=>∀n,8*l.length+5<=n->∃v,(gR N n).1 s (at_ s l) false=some v/\jU s r v
 |.lv k,l,r=>∀n,8*l.length+9<=n+k->(k=3->∃v,(gR N n).2.1 s (at_ s l) false=some v/\jU s r v)/\(k=2->∃v,(gR N n).2.2.1 s (at_ s l) false=some v/\jU s r v)/\(k=1->∃v,(gR N n).2.2.2 s (at_ s l) false=some v/\jU s r v)
 |.lo k e,l,r=>(k=2->∀n m a b,8*l.length<=n->l.length<m->∃x y z j d,(∀K k1 k2,nX (N,gR N n) m (s,at_ s l,false,a,b,e.op,e.num,e.kids) K k1 k2=K (s,j,d,a,b,x,y,z))/\jU s r (x,y,z,s,j,d)) /\
   (k=1->∀n m a b,8*l.length<=n->l.length<m->∃x y z j d,(∀K k1 k2,nH (N,gR N n) m (s,at_ s l,false,a,b,e.op,e.num,e.kids) K k1 k2=K (s,j,d,a,b,x,y,z))/\jU s r (x,y,z,s,j,d))
theorem pJ{s:Tx}{e:Ex}{t:Tx}{v:Vr}(h:jU s (.ok e t) v):v=(e.op,e.num,e.kids,s,at_ s t,false):=h
theorem sG{s:Tx}{b:Tx}{v:Vr}(h:jU s (.bad b) v):∃x y z,v=(x,y,z,s,at_ s b,true):=h
theorem a4k{s:Tx}{r:Pr}{v:Vr}(h:jU s r v):∃x y z j d,v=(x,y,z,s,j,d):=by
 cases r with
 |ok e t=>exact⟨_,_,_,_,_,pJ h⟩
 |bad b=>obtain⟨x,y,z,e⟩:=sG h;exact⟨_,_,_,_,_,e⟩
theorem a4l{s:Tx}{r:Pr}{e:Ex}{x y j:Int}{z:List Ex}{d:Bool}(o:Int)(h:jU s r (x,y,z,s,j,d)):jU s (r.map λf=>.mk o 0 [e,f]) (o,0,[e,Ex.mk x y z],s,j,d):=by
 cases r with
 |ok f t=>
   have:=pJ h;simp only[s8]at this;obtain⟨rfl,rfl,rfl,_,rfl,rfl⟩:=this;rw[kN];exact rfl
 |bad b=>
   obtain⟨x',y',z',e'⟩:=sG h;simp only[s8]at e';obtain⟨_,_,_,_,rfl,rfl⟩:=e';exact⟨_,_,_,rfl⟩
theorem op2{c:UInt8}{o:Int}(h:iR 2 c=some o):(c=42/\o=5)\/(c=47/\o=6):=FQ h
theorem op1{c:UInt8}{o:Int}(h:iR 1 c=some o):(c=43/\o=3)\/(c=45/\o=4):=FQ h
theorem cX{c:UInt8}{o:Int}(h:iR 0 c=some o):(c=61/\o=9)\/(c=60/\o=10):=FQ h
theorem a4p{N:Nat}{s:Tx}(hs:s.length<2^62)(hN:s.length+2<N){k:Kd}{l:Tx}{r:Pr}(h:Rd k l r):l <:+ s->bAA N s k l r:=by
 have hN':s.length<N:=by omega
 induction h with
 |Bu h1 h2 h3 ih=>
   intro hl;rename_i l t t2 t3 e;have hs1:=dU h1;have ht:=hs1.1.trans hl;have ht2:t2 <:+ s:=((kK h2).1:t2 <:+ t).trans ht;have hl':=(eK l).trans hl;intro n hn;obtain⟨v,hv,rv⟩:=(ih ht n (by omega)).2.2 rfl;cases pJ rv;have a:=pN (kG hs hl hN' h1);have a':=pN (kG (l:=aU l) hs hl' hN' (by rw[fL];exact h1));have b:=pN (kG hs ht2 hN' h3);exact⟨⟨_,_,_,_,_,_,_,_,_,a,hv,b,rfl⟩,⟨_,_,_,_,_,_,_,_,_,a',hv,b,rfl⟩⟩
 |FE h1=>
   intro hl;rename_i l;have hl':=(eK l).trans hl;intro n hn;have a:=pN (kH hs hl hN' h1 (by decide));have a':=pN (kH (l:=aU l) hs hl' hN' (by rw[fL];exact h1) (by decide));rw[fL]at a'
   match n,hn with
   |n+3,_=>
     have b:=bS (N:=N) (n:=n) (s:=s) (i:=at_ s (aU l)) (by omega);have d:=pN (It (N:=N) (s:=s) (c:=41) (i:=at_ s (aU l)));exact⟨⟨_,_,_,_,_,_,_,_,_,a,b,d,_,_,_,rfl⟩,⟨_,_,_,_,_,_,_,_,_,a',b,d,_,_,_,rfl⟩⟩
 |JW h1 h2 ih=>
   intro hl;rename_i l t b;have hs1:=dU h1;have ht:=hs1.1.trans hl;have hl':=(eK l).trans hl;intro n hn;obtain⟨v,hv,rv⟩:=(ih ht n (by omega)).2.2 rfl;obtain⟨x,y,z,rfl⟩:=sG rv;have a:=pN (kG hs hl hN' h1);have a':=pN (kG (l:=aU l) hs hl' hN' (by rw[fL];exact h1));have d:=pN (It (N:=N) (s:=s) (c:=41) (i:=at_ s b));exact⟨⟨_,_,_,_,_,_,_,_,_,a,hv,d,_,_,_,rfl⟩,⟨_,_,_,_,_,_,_,_,_,a',hv,d,_,_,_,rfl⟩⟩
 |FD h1 h2 h3 ih=>
   intro hl;rename_i l t t2 e;have hs1:=dU h1;have ht:=hs1.1.trans hl;have ht2:t2 <:+ s:=((kK h2).1:t2 <:+ t).trans ht;have hl':=(eK l).trans hl;intro n hn;obtain⟨v,hv,rv⟩:=(ih ht n (by omega)).2.2 rfl;cases pJ rv;have a:=pN (kG hs hl hN' h1);have a':=pN (kG (l:=aU l) hs hl' hN' (by rw[fL];exact h1));have b:=pN (kH hs ht2 hN' h3 (by decide));exact⟨⟨_,_,_,_,_,_,_,_,_,a,hv,b,_,_,_,rfl⟩,⟨_,_,_,_,_,_,_,_,_,a',hv,b,_,_,_,rfl⟩⟩
 |num h1 h2 h3=>
   intro hl n hn
   match n,hn with
   |n+1,_=>
     have a:=aK1 (rc:=gR N n) hs hl hN' h1 h2;rw[aJ h3]at a;exact⟨_,a,rfl⟩
 |JY h1 h2 h3=>
   intro hl n hn
   match n,hn with
   |n+1,_=>
     have a:=aK1 (rc:=gR N n) hs hl hN' h1 h2;rw[aD (by rw[h3];exact Bool.false_ne_true)]at a;exact⟨_,a,_,_,_,rfl⟩
 |var h1 h2=>
   intro hl n hn
   match n,hn with
   |n+1,_=>exact⟨_,a4w (rc:=gR N n) hs hl hN' h1 h2,rfl⟩
 |root h1 h2 ih=>
   intro hl n hn;have hs1:=dU h1
   match n,hn with
   |n+1,hn=>exact a4x (rc:=gR N n) hs hl hN' h1 (ih (hs1.1.trans hl) n (by omega)).1
 |par h1 h2 ih=>
   intro hl n hn
   match n,hn with
   |n+1,hn=>exact a4y (rc:=gR N n) hs hl hN' h1 (ih hl n (by omega)).2
 |neg h1 h2 ih=>
   intro hl n hn;have hs1:=dU h1;refine⟨λ_=>?_,λhk=>by omega,λhk=>by omega⟩
   match n,hn with
   |0,hn=>omega
   |n+1,hn=>
     obtain⟨v,hv,rv⟩:=(ih (hs1.1.trans hl) n (by omega)).1 rfl;exact a4c (rc:=gR N n) hs hl hN' h1 hv rv
 |Jo h1 h2 ih=>
   intro hl n hn;refine⟨λ_=>?_,λhk=>by omega,λhk=>by omega⟩
   match n,hn with
   |n+2,hn=>
     obtain⟨v,hv,rv⟩:=ih hl (n+1) (by omega);obtain⟨x,y,z,rfl⟩:=sG rv;exact⟨_,a4d (rc:=gR N (n+1)) hs hl hN' h1 ((Yk (rc:=gR N n) hs hl hN').trans hv),_,_,_,rfl⟩
   |0,hn=>omega
   |1,hn=>omega
 |mX h1 h2 h3 ih=>
   intro hl n hn;rename_i l t e;have ht:t <:+ s:=((kK h2).1:t <:+ l).trans hl;refine⟨λ_=>?_,λhk=>by omega,λhk=>by omega⟩
   match n,hn with
   |n+2,hn=>
     obtain⟨v,hv,rv⟩:=ih hl (n+1) (by omega);cases pJ rv;exact⟨_,a4b (rc:=gR N (n+1)) hs hl hN' h1 ht ((Yk (rc:=gR N n) hs hl hN').trans hv) h3,rfl⟩
   |0,hn=>omega
   |1,hn=>omega
 |pow h1 h2 h3 h4 ih1 ih2=>
   intro hl n hn;rename_i l t t' e r;have sf:=kK h2;have ht:t <:+ s:=(sf.1:t <:+ l).trans hl;have hlt:=sf.2 _ _ rfl;have hs3:=dU h3;simp only[Kd.str]at hlt;refine⟨λ_=>?_,λhk=>by omega,λhk=>by omega⟩
   match n,hn with
   |n+2,hn=>
     obtain⟨v,hv,rv⟩:=ih1 hl (n+1) (by omega);cases pJ rv;obtain⟨w,hw,rw'⟩:=(ih2 (hs3.1.trans ht) (n+1) (by omega)).1 rfl;obtain⟨x,y,z,j,d,rfl⟩:=a4k rw';refine⟨_,a4a (rc:=gR N (n+1)) hs hl hN' h1 ht ((Yk (rc:=gR N n) hs hl hN').trans hv) h3 hw,?_⟩;rw[kN];exact a4l 7 rw'
   |0,hn=>omega
   |1,hn=>omega
 |FM h0 h1 ih=>
   intro hl n hn;rename_i k l b;have hle:=hl.length_le;refine⟨λhk=>by omega,λhk=>?_,λhk=>?_⟩
   .subst hk
    match n,hn with
    |0,hn=>omega
    |n+1,hn=>
      obtain⟨v,hv,rv⟩:=(ih hl n (by omega)).1 rfl;obtain⟨x,y,z,rfl⟩:=sG rv;exact⟨(x,y,z,s,at_ s b,true),YB (rc:=gR N n) hv (aJa (by omega)),x,y,z,rfl⟩
   .subst hk
    match n,hn with
    |0,hn=>omega
    |n+1,hn=>
      obtain⟨v,hv,rv⟩:=(ih hl n (by omega)).2.1 rfl;obtain⟨x,y,z,rfl⟩:=sG rv;exact⟨(x,y,z,s,at_ s b,true),TI (rc:=gR N n) hv (aCi (by omega)),x,y,z,rfl⟩
 |vC h0 h1 h2 ih1 ih2=>
   intro hl n hn;rename_i k l t e r;have sf:=kK h1;have ht:t <:+ s:=(sf.1:t <:+ l).trans hl;have hlt:=sf.2 _ _ rfl;have hle:=ht.length_le;simp only[Kd.str]at hlt;refine⟨λhk=>by omega,λhk=>?_,λhk=>?_⟩
   .subst hk
    match n,hn with
    |0,hn=>omega
    |n+1,hn=>
      obtain⟨v,hv,rv⟩:=(ih1 hl n (by omega)).1 rfl;cases pJ rv;obtain⟨x,y,z,j,d,lo,rl⟩:=(ih2 ht).1 rfl n N 0 0 (by omega) (by omega);exact⟨_,YB (rc:=gR N n) hv lo,rl⟩
   .subst hk
    match n,hn with
    |0,hn=>omega
    |n+1,hn=>
      obtain⟨v,hv,rv⟩:=(ih1 hl n (by omega)).2.1 rfl;cases pJ rv;obtain⟨x,y,z,j,d,lo,rl⟩:=(ih2 ht).2 rfl n N 0 0 (by omega) (by omega);exact⟨_,TI (rc:=gR N n) hv lo,rl⟩
 |sL h0 h1=>
   intro hl;rename_i k e t;refine⟨λhk n m a b hn hm=>?_,λhk n m a b hn hm=>?_⟩
   .subst hk
    match m,hm with
    |m+1,_=>exact⟨_,_,_,_,_,λK k1 k2=>a3q hs hl hN' (λhh=>by have:=h1 _ hh;cases this) (λhh=>by have:=h1 _ hh;cases this),rfl⟩
   .subst hk
    match m,hm with
    |m+1,_=>exact⟨_,_,_,_,_,λK k1 k2=>aQL hs hl hN' (λhh=>by have:=h1 _ hh;cases this) (λhh=>by have:=h1 _ hh;cases this),rfl⟩
 |FO h0 h1 h2 h3 ih=>
   intro hl;rename_i k e t t' b' c o;have hs1:=dU h1;refine⟨λhk n m a b hn hm=>?_,λhk n m a b hn hm=>?_⟩
   .subst hk
    obtain⟨v,hv,rv⟩:=(ih (hs1.1.trans hl) n (by omega)).1 rfl;obtain⟨x,y,z,rfl⟩:=sG rv
    match m,hm with
    |m+2,_=>exact⟨_,_,_,_,_,λK k1 k2=>(aJ9 hs hl hN' h1 (op2 h2) hv).trans a3r,_,_,_,rfl⟩
    |0,hm=>omega
    |1,hm=>omega
   .subst hk
    obtain⟨v,hv,rv⟩:=(ih (hs1.1.trans hl) n (by omega)).2.1 rfl;obtain⟨x,y,z,rfl⟩:=sG rv
    match m,hm with
    |m+2,_=>exact⟨_,_,_,_,_,λK k1 k2=>(aCh hs hl hN' h1 (op1 h2) hv).trans aQM,_,_,_,rfl⟩
    |0,hm=>omega
    |1,hm=>omega
 |yO h0 h1 h2 h3 h4 h5 ih1 ih2=>
   intro hl;rename_i k e f t t' t2 c o r;have hs1:=dU h1;have ht:=hs1.1.trans hl;have sf:=kK h4;have ht2:t2 <:+ s:=(sf.1:t2 <:+ t').trans ht;have hlt:=sf.2 _ _ rfl;simp only[Kd.str]at hlt;refine⟨λhk n m a b hn hm=>?_,λhk n m a b hn hm=>?_⟩
   .subst hk
    obtain⟨v,hv,rv⟩:=(ih1 ht n (by omega)).1 rfl;cases pJ rv
    match m,hm with
    |m+1,hm=>
      obtain⟨x,y,z,j,d,lo,rl⟩:=(ih2 ht2).1 rfl n m a b (by omega) (by omega);refine⟨x,y,z,j,d,λK k1 k2=>(aJ9 hs hl hN' h1 (op2 h2) hv).trans ?_,rl⟩;rw[kN,kN];exact lo K k1 k2
   .subst hk
    obtain⟨v,hv,rv⟩:=(ih1 ht n (by omega)).2.1 rfl;cases pJ rv
    match m,hm with
    |m+1,hm=>
      obtain⟨x,y,z,j,d,lo,rl⟩:=(ih2 ht2).2 rfl n m a b (by omega) (by omega);refine⟨x,y,z,j,d,λK k1 k2=>(aCh hs hl hN' h1 (op1 h2) hv).trans ?_,rl⟩;rw[kN,kN];exact lo K k1 k2
 |Bz _ _ _ _=>exact λ_=>⟨λhk=>by omega,λhk=>by omega⟩
theorem LD{N:Nat}{s l:Tx}(hs:s.length<2^62)(hN:8*s.length+12<=N){r:Pr}(h:Rd (.lv 1) l r)(hl:l <:+ s):∃v,(gR N N).2.2.2 s (at_ s l) false=some v/\jU s r v:=by
 have hle:=hl.length_le;exact(a4p (N:=N) hs (by omega) h hl N (by omega)).2.2 rfl
end Go.Proofs
/- Both Parses return the same. -/
namespace Go.Proofs
open Go Go.Ax Go.Ax.aA
section
variable{N:Nat}{s:Tx}{i j x y:Int}{z:List Ex}{b d:Bool}
theorem JB{v}(h:(gR N N).2.2.2 s i b=some v):Co N s i b=true:=by unfold Co;rw[h];rfl
theorem JH(h:(gR N N).2.2.2 s i b=some (x,y,z,s,j,d)):Cm N s i b=x:=by unfold Cm;rw[h];rfl
theorem JG(h:(gR N N).2.2.2 s i b=some (x,y,z,s,j,d)):Cl N s i b=y:=by unfold Cl;rw[h];rfl
theorem JF(h:(gR N N).2.2.2 s i b=some (x,y,z,s,j,d)):Ck N s i b=z:=by unfold Ck;rw[h];rfl
theorem JE(h:(gR N N).2.2.2 s i b=some (x,y,z,s,j,d)):Cj N s i b=s:=by unfold Cj;rw[h];rfl
theorem JD(h:(gR N N).2.2.2 s i b=some (x,y,z,s,j,d)):Ci N s i b=j:=by unfold Ci;rw[h];rfl
theorem JC(h:(gR N N).2.2.2 s i b=some (x,y,z,s,j,d)):Ch N s i b=d:=by unfold Ch;rw[h];rfl
end
def RS(N:Nat)(s:Tx)(z1 z2 z3:Int)(S:Tx)(j:Int)(d:Bool)(x y:Int)(z:List Ex):O:=
 N7 N s z1 z2 z3 S j d x y z λz12 _ _ _ _ z17 z18 z19 z20 z21=>
  br (z18||decide (z17<(z12.length:Int))) (some (tX 0 0 [] z17 2))
   (ck (xF N z19 z20 z21) <|br (decide (rX N z19 z20 z21≠0)) (some (tX 0 0 [] 0 4)) (some (tX z19 z20 z21 0 0)))
theorem Zz{N:Nat}{s b:Tx}{z1 z2 z3 x y:Int}{z:List Ex}:(RS N s z1 z2 z3 s (at_ s b) true x y z).bind w4=some (Bs s (.bad b)):=rfl
theorem Zy{N:Nat}{s t:Tx}{e:Ex}{z1 z2 z3:Int}(hs:s.length<2^59)(hN:s.length<N)(ht:t <:+ s)(hz:aT e<=s.length):(RS N s z1 z2 z3 s (at_ s t) false e.op e.num e.kids).bind w4=some (Bs s (.ok e t)):=by
 unfold RS N7 HN VM;simp only[];rw[gX,aX,aI (aC6 (by omega) ht hN),aC5 (by omega) ht hN,aC4 (by omega) ht hN,aC3 (by omega) ht hN];rw[vZ,aI (OP (by omega) (by omega)),OO (by omega) (by omega)];have re:Bs s (.ok e t)=if aU t=[]then(if c9 e=0 then(e.op,e.num,e.kids,0,0)else(0,0,[],0,4))else(0,0,[],at_ s (aU t),2):=rfl
 rw[re];cases hk:aU t with
 |nil=>
   rw[aR (by rw[zD];omega),aK,aJ rfl];by_cases h0:c9 e=0
   .rw[aR (λh=>h h0),aK,aJ h0];rfl
   .rw[aQ h0,aX,aD h0];rfl
 |cons c u=>
   have h':(c::u) <:+ s:=hk ▸ (eK t).trans ht;rw[aQ (rC h').2.2,aX,aD (List.cons_ne_nil c u)];rfl
theorem aW5{N:Nat}(hN:70000<=N){s:Tx}(hs:s.length<=8192){r:Pr}(h:Rd (.lv 0) s r):o8 N s=some (Bs s r):=by
 have hN':s.length<N:=by omega
 have hs':s.length<2^62:=by omega
 have go:∀{x y j:Int}{z:List Ex}{d:Bool}{R:Option _},(gR N N).2.2.2 s 0 false=some (x,y,z,s,j,d)->
     ((HM N s 0 0 0 s j d x y z (λz1 z2 z3 z4 z5 z6 z7 z8 z9 z10=>RS N z1 z2 z3 z4 z5 z6 z7 z8 z9 z10)).bind w4=R)->o8 N s=R:=λ{x y j z d R} hv hR=>by
  show(Df _ _ _ _:O).bind w4=_;unfold Df;rw[aR (by omega),aK,aI (JB hv),JH hv,JG hv,JF hv,JE hv,JD hv,JC hv];exact hR
 cases h with
 |FM h0 h1=>
   rename_i b;obtain⟨v,hv,rv⟩:=LD (N:=N) hs' (by omega) h1 aAo;rw[aA0]at hv;obtain⟨x,y,z,rfl⟩:=sG rv;refine go hv ?_;have ta:=It (N:=N) (s:=s) (c:=61) (i:=at_ s b);have tb:=It (N:=N) (s:=s) (c:=60) (i:=at_ s b);unfold HM Dc Nb;simp only[];rw[aI (fW ta),gD ta,aK,fZ ta,fY ta,fX ta,aI (fW tb),gD tb,aK,fZ tb,fY tb,fX tb];exact Zz
 |vC h0 h1 h2=>
   rename_i t e;have ht:t <:+ s:=(kK h1).1;have hz:=Q8 h1 e t rfl;simp only[lR]at hz;obtain⟨v,hv,rv⟩:=LD (N:=N) hs' (by omega) h1 aAo;rw[aA0]at hv;cases pJ rv;refine go hv ?_;unfold HM Dc Nb;simp only[];have ht':=(eK t).trans ht;have hsz:∀(o:Int)(e f:Ex),aT (.mk o 0 [e,f])=1+(aT e+aT f):=λo e f=>by simp[aT,dH]
   cases h2 with
   |sL _ h3=>
     have ta:=kH (c:=61) hs' ht hN' (λhh=>by have:=h3 _ hh;cases this) (by decide);have tb:=kH (c:=60) (l:=aU t) hs' ht' hN' (λhh=>by rw[fL]at hh;have:=h3 _ hh;cases this) (by decide);rw[fL]at tb;rw[aI (fW ta),gD ta,aK,fZ ta,fY ta,fX ta,aI (fW tb),gD tb,aK,fZ tb,fY tb,fX tb];refine(Zy (t:=aU t) (by omega) hN' ht' (by omega)).trans ?_;show some (if aU (aU t)=[]then _ else _)=some (if aU (aU t)=[]then _ else _);rfl
   |FO _ h3 h4 h5=>
     rename_i t' b c o;have hs3:=dU h3;have ht2:=hs3.1.trans ht;obtain⟨w,hw,rw'⟩:=LD (N:=N) hs' (by omega) h5 ht2;obtain⟨x,y,z,rfl⟩:=sG rw';rcases cX h4 with⟨rfl,rfl⟩|⟨rfl,rfl⟩
     .have ta:=kG (c:=61) hs' ht hN' h3
      rw[aI (fW ta),gD ta,aX,fZ ta,fY ta,fX ta,aI (JB hw),JH hw,JG hw,JF hw,JE hw,JD hw,JC hw];exact Zz
     .have ta:=kH (c:=61) hs' ht hN' (by rw[h3];simp) (by decide)
      have tb:=kG (c:=60) (l:=aU t) hs' ht' hN' (by rw[fL];exact h3);rw[aI (fW ta),gD ta,aK,fZ ta,fY ta,fX ta,aI (fW tb),gD tb,aX,fZ tb,fY tb,fX tb,aI (JB hw),JH hw,JG hw,JF hw,JE hw,JD hw,JC hw];exact Zz
   |yO _ _ _ h3 _ _=>exact absurd rfl h3
   |Bz h3 h4 h5=>
     rename_i f t' t2 c o;have hs3:=dU h3;have ht2:=hs3.1.trans ht;have ht3:t2 <:+ s:=((kK h5).1:t2 <:+ t').trans ht2;have hz2:=Q8 h5 f t2 rfl;simp only[lR]at hz2;obtain⟨w,hw,rw'⟩:=LD (N:=N) hs' (by omega) h5 ht2;cases pJ rw';rcases cX h4 with⟨rfl,rfl⟩|⟨rfl,rfl⟩
     .have ta:=kG (c:=61) hs' ht hN' h3
      rw[aI (fW ta),gD ta,aX,fZ ta,fY ta,fX ta,aI (JB hw),JH hw,JG hw,JF hw,JE hw,JD hw,JC hw,kN,kN];exact Zy (e:=.mk 9 0 [e,f]) (by omega) hN' ht3 (by rw[hsz];omega)
     .have ta:=kH (c:=61) hs' ht hN' (by rw[h3];simp) (by decide)
      have tb:=kG (c:=60) (l:=aU t) hs' ht' hN' (by rw[fL];exact h3);rw[aI (fW ta),gD ta,aK,fZ ta,fY ta,fX ta,aI (fW tb),gD tb,aX,fZ tb,fY tb,fX tb,aI (JB hw),JH hw,JG hw,JF hw,JE hw,JD hw,JC hw,kN,kN];exact Zy (e:=.mk 10 0 [e,f]) (by omega) hN' ht3 (by rw[hsz];omega)
theorem aW6{N:Nat}{s:Tx}(hs:8192<s.length):o8 N s=some (0,0,[],0,4):=by
 show(Df _ _ _ _:O).bind w4=_;unfold Df;rw[aQ (by omega),aX];rfl
theorem a4q{N:Nat}(hN:70000<=N)(s:Tx):o8 N s=jZ N s:=by
 by_cases hs:s.length<=8192
 .obtain⟨r,hr⟩:=aKZ s.length s (Nat.le_refl _) (.lv 0) (λm h=>by cases h;omega) (λm e h=>by cases h)
  rw[VY hN hs hr,aW5 hN hs hr]
 .rw[aGA (by omega),aW6 (by omega)]
end Go.Proofs
