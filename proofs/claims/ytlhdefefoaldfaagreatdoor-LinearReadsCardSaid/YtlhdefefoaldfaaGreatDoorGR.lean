/- The reader of the reference. Conditions are in the theorems. -/
import Derived.Test.YtlhdefefoaldfaaGreatDoorG5
import Derived.Test.YtlhdefefoaldfaaGreatDoorF4
open Bool renaming false_and->jG,false_or->uY,not_false->iL,true_and->gX
open Go.IntKind renaming i64->aB
open List renaming dropWhile_cons->IM,suffix_rfl->Xb,takeWhile_cons->a4Z
open Prod.mk renaming injEq->sA
open UInt8 renaming le_iff_toNat_le->xZ,toNat_sub_of_le->a4G
/- The reference's reader: what it sees, takes, needs, numerals. -/
namespace Go.Proofs
open Go Go.Ax Go.Ax.aA
theorem ZT{N:Nat}{s:Tx}{b:Bool}{K:Tx×Int×Bool->O}{k1 k2:Unit->O}(hs:s.length<2^62):∀(l:Tx)(m:Nat),l <:+ s->l.length<m->yU N m (s,at_ s l,b) K k1 k2=K (s,at_ s (aQ l),b)
 |_,0,_,h=>by omega
 |[],m+1,_,_=>by
   show Bm _ _ _ _ _ _=_;unfold Bm;simp only[];rw[xX,aX (by omega),p8,jG,aM];rfl
 |c::t,m+1,h,hm=>by
   have a:=qH h;show Bm _ _ _ _ _ _=_;unfold Bm;simp only[];rw[aU a.2.2,o8,o7 h,gX];by_cases hc:c=32
   .rw[aU hc,bA,oA h hs,aQ,aN hc]
    exact ZT hs t m (HJ h) (by simp at hm;omega)
   .rw[aX hc,aM,aQ,aF hc]
section
variable{N:Nat}{s l:Tx}{b:Bool}(hs:s.length<2^62)(h:l <:+ s)(hN:s.length<N)
include hs h hN
theorem JR:yT N s (at_ s l) b=some (s,at_ s (aQ l),b):=by
 have hl:=h.length_le;have:=ZT (N:=N) (b:=b) (K:=λy=>(λz4 z5 z6=>some (Ez z4 z5 z6)) y.1 y.2.1 y.2.2) (k1:=λ_=>none) (k2:=λ_=>none) hs l N h (by omega);exact(bG (λz:O=>z.bind JP) this).trans rfl
theorem ZS:FA N s (at_ s l) b=true:=by unfold FA;rw[JR hs h hN];rfl
theorem ZR:vG N s (at_ s l) b=s:=by unfold vG;rw[JR hs h hN];rfl
theorem ZQ:vF N s (at_ s l) b=at_ s (aQ l):=by unfold vF;rw[JR hs h hN];rfl
theorem ZP:Bl N s (at_ s l) b=b:=by unfold Bl;rw[JR hs h hN];rfl
theorem Gx:wL N s (at_ s l) b=some ((aQ l).headD 0,s,at_ s (aQ l),b):=by
 have h':=(eE l).trans h;show(NV _ _ _ _:O).bind NU=_;unfold NV;rw[aG (ZS hs h hN),ZR hs h hN,ZQ hs h hN,ZP hs h hN];cases hk:aQ l with
 |nil=>rw[xX,aU (by omega),bA];rfl
 |cons c t=>
   rw[hk]at h';have a:=qH h';rw[aX (by omega),aM,o7 h'];rfl
theorem wR:Gv N s (at_ s l) b=true:=by unfold Gv;rw[Gx hs h hN];rfl
theorem wQ:tV N s (at_ s l) b=(aQ l).headD 0:=by unfold tV;rw[Gx hs h hN];rfl
theorem wP:Ar N s (at_ s l) b=s:=by unfold Ar;rw[Gx hs h hN];rfl
theorem wO:wM N s (at_ s l) b=at_ s (aQ l):=by unfold wM;rw[Gx hs h hN];rfl
theorem wN:D0 N s (at_ s l) b=b:=by unfold D0;rw[Gx hs h hN];rfl
theorem j7{c:UInt8}{t:Tx}(hk:aQ l=c::t):k7 N c s (at_ s l) false=some (true,s,at_ s t,false):=by
 have h':(c::t) <:+ s:=hk ▸ (eE l).trans h;have a:=qH h';show(Bo _ _ _ _ _:O).bind FB=_;unfold Bo;rw[aM,aG (wR hs h hN),wQ hs h hN,wP hs h hN,wO hs h hN,wN hs h hN,hk,aX (by simp),aX (by omega),uY,aM,oA h' hs];rfl
theorem j8{c:UInt8}(hk:(aQ l).head?≠some c)(h0:c≠0):k7 N c s (at_ s l) false=some (false,s,at_ s (aQ l),false):=by
 show(Bo _ _ _ _ _:O).bind FB=_;unfold Bo;rw[aM,aG (wR hs h hN),wQ hs h hN,wP hs h hN,wO hs h hN,wN hs h hN,aU,Bool.true_or,bA]
 .rfl
 .cases hk':aQ l with
  |nil=>exact λh=>h0 h.symm
  |cons d t=>rw[hk']at hk;exact λh=>hk (by rw[<-h];rfl)
end
theorem HF{N:Nat}{s:Tx}{c:UInt8}{i:Int}:k7 N c s i true=some (false,s,i,true):=rfl
section
variable{N:Nat}{s:Tx}{c:UInt8}{i j:Int}{a b d:Bool}
theorem fN{r}(h:k7 N c s i b=some r):mQ N c s i b=true:=by unfold mQ;rw[h];rfl
theorem fR(h:k7 N c s i b=some (a,s,j,d)):mP N c s i b=a:=by unfold mP;rw[h];rfl
theorem fQ(h:k7 N c s i b=some (a,s,j,d)):kL N c s i b=s:=by unfold kL;rw[h];rfl
theorem fP(h:k7 N c s i b=some (a,s,j,d)):kK N c s i b=j:=by unfold kK;rw[h];rfl
theorem fO(h:k7 N c s i b=some (a,s,j,d)):k8 N c s i b=d:=by unfold k8;rw[h];rfl
theorem oW(h:k7 N c s i b=some (a,s,j,d)):nE N c s i b=some (s,j,d||!a):=by
 show(My _ _ _ _ _:O).bind Mx=_;unfold My;rw[aG (fN h),fR h,fQ h,fP h,fO h];cases a <;> cases d <;> rfl
theorem Ob{r}(h:nE N c s i b=some r):Ge N c s i b=true:=by unfold Ge;rw[h];rfl
theorem Oe(h:nE N c s i b=some (s,j,d)):Gb N c s i b=s:=by unfold Gb;rw[h];rfl
theorem Od(h:nE N c s i b=some (s,j,d)):Ga N c s i b=j:=by unfold Ga;rw[h];rfl
theorem Oc(h:nE N c s i b=some (s,j,d)):G9 N c s i b=d:=by unfold G9;rw[h];rfl
end
theorem Tz{N:Nat}{s:Tx}{z i0 x y:Int}{b:Bool}{K:Int×Int×Int×Int×Tx×Int×Bool×Int×Int->O}{k1 k2:Unit->O}(hs:s.length<2^62)(i:Nat)(hi:i0=(i:Int)):∀(l:Tx)(m:Nat)(acc:Int)(j:Nat),l <:+ s->l.length<m->at_ s l=((i+j:Nat):Int)->0<=acc->acc<10^(min j 7)->
    ∃n,rB N m (z,i0,acc,at_ s l,s,i0,b,x,y) K k1 k2=K (z,i0,n,at_ s (l.dropWhile bE),s,i0,b,x,y)/\(j+(l.takeWhile bE).length<=7->n=(l.takeWhile bE).foldl (λn c=>10*n+((c.toNat:Int)-48)) acc)
 |_,0,_,_,_,h,_,_,_=>by omega
 |[],m+1,acc,j,_,_,_,_,_=>by
   refine⟨acc,?_,λ_=>rfl⟩;show wE _ _ _ _ _ _ _ _ _ _ _ _=_;unfold wE;simp only[];rw[xX,aX (by omega),p8,jG,p8,jG,aM];rfl
 |c::t,m+1,acc,j,h,hm,hj,h0,h1=>by
   have ha:=qH h;have step:∀X:O,(decide (48<=c)&&decide (c<=57))=true->rB N (m+1) (z,i0,acc,at_ s (c::t),s,i0,b,x,y) K k1 k2=br (decide (aB.wrap (at_ s (c::t)-i0)<7)) (rB N m (z,i0,aB.wrap (aB.wrap (10*acc)+aB.wrap (((c-48).toNat:Nat):Int)),at_ s t,s,i0,b,x,y) K k1 k2) (rB N m (z,i0,acc,at_ s t,s,i0,b,x,y) K k1 k2):=λ_ hd=>by
    rw[Bool.and_eq_true]at hd;show wE _ _ _ _ _ _ _ _ _ _ _ _=_;unfold wE;simp only[];rw[aU ha.2.2,o8,o7 h,gX,hd.1,o8,o7 h,gX,hd.2,bA,o7 h,oA h hs]
   cases hd:bE c with
   |false=>
     have hn:¬ bE c=true:=by rw[hd];simp
     refine⟨acc,?_,λ_=>by rw[a4Z,aF hn];rfl⟩;show wE _ _ _ _ _ _ _ _ _ _ _ _=_;unfold wE;simp only[];rw[aU ha.2.2,o8,o7 h,gX,IM,aF hn];unfold bE at hd;cases h1:decide (48<=c)with
     |false=>rw[p8,jG,aM]
     |true=>
       rw[h1,gX]at hd;rw[o8,o7 h,gX,hd,aM]
   |true=>
     have hc:=BS hd;have hsub:(c-48).toNat=c.toNat-48:=by rw[a4G _ _ (xZ.2 (show(48:UInt8).toNat<=c.toNat from hc.1))];rfl
     rw[step none hd,hsub,a4Z,aN hd,IM,aN hd,hj,hi];have hle:=aI5 (s:=s) (l:=c::t);rw[wr (x:=((i+j:Nat):Int)-(i:Int)) (by omega) (by omega)];have hp7:(10:Int)^min j 7<=10000000:=by
      have:(10:Int)^min j 7<=10^7:=by
       have:=Nat.pow_le_pow_right (n:=10) (by omega) (show min j 7<=7 by omega)
       exact_mod_cast this
      exact this
     by_cases h7:j<7
     .rw[aU (by omega),bA,wr (x:=10*acc) (by omega) (by omega),wr (x:=((c.toNat-48:Nat):Int)) (by omega) (by omega),wr (by omega) (by omega)]
      have hp:(10:Int)^(min (j+1) 7)=10^(min j 7)*10:=by rw[show min (j+1) 7=min j 7+1 by omega];exact Int.pow_succ ..
      obtain⟨n,e1,e2⟩:=Tz (N:=N) (z:=z) (x:=x) (y:=y) (b:=b) (K:=K) (k1:=k1) (k2:=k2) hs i rfl t m (10*acc+((c.toNat-48:Nat):Int)) (j+1) (HJ h) (by simp at hm;omega) (by omega) (by omega) (by omega);refine⟨n,e1,λhl=>?_⟩;rw[e2 (by simp at hl;omega),List.foldl_cons,show((c.toNat-48:Nat):Int)=(c.toNat:Int)-48 by omega]
     .rw[aX (by omega),aM]
      obtain⟨n,e1,_⟩:=Tz (N:=N) (z:=z) (x:=x) (y:=y) (b:=b) (K:=K) (k1:=k1) (k2:=k2) hs i rfl t m acc (j+1) (HJ h) (by simp at hm;omega) (by omega) h0 (by rw[show min (j+1) 7=min j 7 by omega];exact h1);exact⟨n,e1,λhl=>by simp at hl;omega⟩
theorem aWe{N:Nat}{s t:Tx}{c:UInt8}(hs:s.length<2^62)(h:(c::t) <:+ s)(hN:s.length<N)(hd:bE c=true):
    rA N s (at_ s (c::t)) false=some (if lQ ((c::t).takeWhile bE)=true then(0,mE ((c::t).takeWhile bE),[],s,at_ s ((c::t).dropWhile bE),false)else(0,0,[],s,at_ s (c::t),true)):=by
 have hl:=h.length_le;obtain⟨n,e1,e2⟩:=Tz (N:=N) (z:=at_ s (c::t)) (x:=0) (y:=0) (b:=false) (K:=λy=>(λ_ z11 z12 z13 z14 z15 z16 _ _=>
     gc (!decide (6<aB.wrap (z13-z11))&&decide (1<aB.wrap (z13-z11))) 0 z14 z11 λy19=>
     br (decide (6<aB.wrap (z13-z11))||decide (1<aB.wrap (z13-z11))&&decide (y19=48))
      (some (A7 0 0 [] z14 z15 true))
      (some (A7 0 z12 [] z14 z13 z16))) y.1 y.2.1 y.2.2.1 y.2.2.2.1 y.2.2.2.2.1 y.2.2.2.2.2.1 y.2.2.2.2.2.2.1 y.2.2.2.2.2.2.2.1 y.2.2.2.2.2.2.2.2) (k1:=λ_=>none) (k2:=λ_=>none) hs (s.length-(c::t).length) rfl (c::t) N 0 0 h (by omega) rfl (by omega) (by simp)
 refine(bG (λz:O=>z.bind Mz) e1).trans ?_;simp only[];have hw:aB.wrap (at_ s ((c::t).dropWhile bE)-at_ s (c::t))=(((c::t).takeWhile bE).length:Int):=by
  have e:=bG List.length (List.takeWhile_append_dropWhile (p:=bE) (l:=c::t));rw[List.length_append]at e;unfold at_;rw[wr (by omega) (by omega)];omega
 rw[show((s.length-(c::t).length:Nat):Int)=at_ s (c::t)from rfl,hw];have e2:((c::t).takeWhile bE).length<=7->n=mE ((c::t).takeWhile bE):=λhh=>e2 (by omega)
 have hg:∀(b:Bool)(k:UInt8->O),gc b 0 s (at_ s (c::t)) k=k (if b then c else 0):=λb k=>by
  cases b
  .rfl
  .rw[o8,o7 h];rfl
 rw[hg];have hne:(c::t).takeWhile bE=c::t.takeWhile bE:=VM hd;unfold lQ;rw[hne]at e2 ⊢;generalize t.takeWhile bE=run at *
 by_cases h6:(c::run).length<=6
 .rw[aX (by omega),aU h6,e2 (by omega),iL,gX,gX,uY]
  by_cases h1:1<(c::run).length
  .rw[aU (show(1:Int)<((c::run).length:Int)by omega),aU h1,gX,gX,aN rfl]
   by_cases h48:c=48
   .subst h48;rfl
   .rw[aX h48,aM,aN (by simpa using h48)];rfl
  .rw[aX (show ¬ (1:Int)<((c::run).length:Int)by omega),aX h1,jG,jG,aM];rfl
 .rw[aU (by omega),aX h6,Bool.true_or,bA];rfl
end Go.Proofs
/- The reference's reader: atoms, factors, terms, sums, round by round. -/
namespace Go.Proofs
open Go Go.Ax Go.Ax.aA
abbrev Vr:=Int×Int×List Ex×Tx×Int×Bool
abbrev Fr:=Tx->Int->Bool->Option Vr
abbrev Rr:=Fr×Fr×Fr×Fr
def jP(s:Tx):Pr->Vr->Prop
 |.ok e t,v=>v=(e.op,e.num,e.kids,s,at_ s t,false)
 |.bad b,v=>∃x y z,v=(x,y,z,s,at_ s b,true)
def PB(N:Nat)(S:Fr)(s:Tx)(i:Int)(r:Pr):Prop:=∃a b x y z j d j' d',nE N 40 s i false=some (s,a,b)/\S s a b=some (x,y,z,s,j,d)/\nE N 41 s j d=some (s,j',d')/\jP s r (x,y,z,s,j',d')
section
variable{N:Nat}{rc:Rr}{s l:Tx}(hs:s.length<2^62)(h:l <:+ s)(hN:s.length<N)
include hs h hN
theorem aGa{t:Tx}{c:UInt8}(hk:aQ l=c::t)(hd:bE c=true):tM (N,rc) s (at_ s l) false=some (if lQ ((c::t).takeWhile bE)=true then(0,mE ((c::t).takeWhile bE),[],s,at_ s ((c::t).dropWhile bE),false)else(0,0,[],s,at_ s (c::t),true)):=by
 have h':(c::t) <:+ s:=hk ▸ (eE l).trans h;have hz:=aWe hs h' hN hd;show(nF _ _ _ _:O).bind tN=_;unfold nF;simp only[];rw[aG (wR hs h hN),wQ hs h hN,wP hs h hN,wO hs h hN,wN hs h hN,aM,hk];have hdd:(decide (48<=(c::t).headD 0)&&decide ((c::t).headD 0<=57))=true:=hd;rw[hdd,bA];unfold Tt Ts Tr Tq Tp To Tn;rw[hz,aG sm,sg];cases lQ ((c::t).takeWhile bE)with
 |true=>rfl
 |false=>rfl
theorem aZS{t:Tx}{c:UInt8}(hk:aQ l=c::t)(hl:eA c=true):tM (N,rc) s (at_ s l) false=some (1,(c.toNat:Int)-97,[],s,at_ s t,false):=by
 have h':(c::t) <:+ s:=hk ▸ (eE l).trans h;obtain⟨hd,h1,h2⟩:=aHX hl;show(nF _ _ _ _:O).bind tN=_;unfold nF;simp only[];rw[aG (wR hs h hN),wQ hs h hN,wP hs h hN,wO hs h hN,wN hs h hN,aM,hk];have hdd:(decide (48<=(c::t).headD 0)&&decide ((c::t).headD 0<=57))=false:=hd;have hll:(decide (97<=(c::t).headD 0)&&decide ((c::t).headD 0<=122))=true:=hl;rw[hdd,aM,hll,bA,oA h' hs];have hw:aB.wrap ((((c::t).headD 0-97).toNat:Nat):Int)=(c.toNat:Int)-97:=by
  have e:((c::t).headD 0-97).toNat=c.toNat-97:=by
   show(c-97).toNat=_;rw[a4G _ _ (xZ.2 (show(97:UInt8).toNat<=c.toNat from h1))];rfl
  rw[e,wr (by omega) (by omega)];omega
 rw[hw];rfl
theorem aZU{r:Pr}(hc:∀c,(aQ l).head?=some c->bE c=false/\eA c=false/\c≠82)(hp:PB N rc.2.2.2 s (at_ s (aQ l)) r):∃v,tM (N,rc) s (at_ s l) false=some v/\jP s r v:=by
 have h':=(eE l).trans h;have cond:(decide (48<=(aQ l).headD 0)&&decide ((aQ l).headD 0<=57))=false/\(decide (97<=(aQ l).headD 0)&&decide ((aQ l).headD 0<=122))=false:=by
  cases hk:aQ l with
  |nil=>exact⟨rfl,rfl⟩
  |cons c t=>
    have:=hc c (by rw[hk];rfl);exact⟨this.1,this.2.1⟩
 have tk:=j8 (c:=82) hs h' hN (by rw[fB];exact λhh=>(hc _ hh).2.2 rfl) (by decide);rw[fB]at tk;obtain⟨a,b,x,y,z,j,d,j',d',h1,h2,h3,h4⟩:=hp;refine⟨(x,y,z,s,j',d'),?_,h4⟩;show(nF _ _ _ _:O).bind tN=_;unfold nF;simp only[];rw[aG (wR hs h hN),wQ hs h hN,wP hs h hN,wO hs h hN,wN hs h hN,aM,cond.1,aM,cond.2,aM];rw[aG (fN tk),fR tk,fQ tk,fP tk,fO tk,aG (Ob h1),Oe h1,Od h1,Oc h1,h2,aG sm,sg];simp only[];rw[aG (Ob h3),aM,Oe h3,Od h3,Oc h3];rfl
theorem aZT{t:Tx}{r:Pr}(hk:aQ l=82::t)(hp:PB N rc.2.2.2 s (at_ s t) r):∃v,tM (N,rc) s (at_ s l) false=some v/\jP s (r.map λe=>.mk 8 0 [e]) v:=by
 have h':=(eE l).trans h;have tk:=j7 (c:=82) hs h' hN (by rw[fB];exact hk);rw[hk]at tk;obtain⟨a,b,x,y,z,j,d,j',d',h1,h2,h3,h4⟩:=hp;refine⟨(8,0,[Ex.mk x y z],s,j',d'),?_,?_⟩
 .show(nF _ _ _ _:O).bind tN=_
  unfold nF;simp only[];rw[aG (wR hs h hN),wQ hs h hN,wP hs h hN,wO hs h hN,wN hs h hN,aM,hk,
   show(decide (48<=((82::t:Tx)).headD 0)&&decide ((82::t:Tx).headD 0<=57))=false from rfl,aM,show(decide (97<=((82::t:Tx)).headD 0)&&decide ((82::t:Tx).headD 0<=122))=false from rfl,aM]
  rw[aG (fN tk),fR tk,fQ tk,fP tk,fO tk,aG (Ob h1),Oe h1,Od h1,Oc h1,h2,aG sm,sg];simp only[];rw[aG (Ob h3),bA,Oe h3,Od h3,Oc h3];rfl
 .cases r with
  |ok e u=>
    simp only[jP,sA]at h4;obtain⟨rfl,rfl,rfl,_,rfl,rfl⟩:=h4;rw[kE];exact rfl
  |bad b=>
    obtain⟨x',y',z',e⟩:=h4;simp only[sA]at e;obtain⟨_,_,_,_,rfl,rfl⟩:=e;exact⟨_,_,_,rfl⟩
theorem aYy{t:Tx}{r:Pr}{v:Vr}(hk:aQ l=45::t)(hr:rc.2.1 s (at_ s t) false=some v)(hv:jP s r v):∃v,wH (N,rc) s (at_ s l) false=some v/\jP s (r.map λe=>.mk 2 0 [e]) v:=by
 have tk:=j7 (c:=45) hs h hN hk;obtain⟨x,y,z,s',j,d⟩:=v;have hs':s'=s:=by
  cases r with
  |ok e u=>simp only[jP,sA]at hv;exact hv.2.2.2.1
  |bad b=>obtain⟨x',y',z',e⟩:=hv;simp only[sA]at e;exact e.2.2.2.1
 subst hs';refine⟨(2,0,[Ex.mk x y z],s',j,d),?_,?_⟩
 .show(rC _ _ _ _:O).bind Am=_
  unfold rC;simp only[];rw[aM,aG (fN tk),fR tk,fQ tk,fP tk,fO tk,bA,hr,aG sm,sg];rfl
 .cases r with
  |ok e u=>
    simp only[jP,sA]at hv;obtain⟨rfl,rfl,rfl,_,rfl,rfl⟩:=hv;rw[kE];exact rfl
  |bad b=>
    obtain⟨x',y',z',e⟩:=hv;simp only[sA]at e;obtain⟨_,_,_,_,rfl,rfl⟩:=e;exact⟨_,_,_,rfl⟩
theorem aYz{b:Tx}{x y:Int}{z:List Ex}(hh:(aQ l).head?≠some 45)(hr:rc.1 s (at_ s (aQ l)) false=some (x,y,z,s,at_ s b,true)):wH (N,rc) s (at_ s l) false=some (x,y,z,s,at_ s b,true):=by
 have tk:=j8 (c:=45) hs h hN hh (by decide);have tb:=HF (N:=N) (s:=s) (c:=94) (i:=at_ s b);show(rC _ _ _ _:O).bind Am=_;unfold rC;simp only[];rw[aM,aG (fN tk),fR tk,fQ tk,fP tk,fO tk,aM,hr,aG sm,sg];simp only[];rw[aG (fN tb),fR tb,fQ tb,fP tb,fO tb,aM];rfl
theorem aYx{t:Tx}{x y:Int}{z:List Ex}(hh:(aQ l).head?≠some 45)(ht:t <:+ s)(hr:rc.1 s (at_ s (aQ l)) false=some (x,y,z,s,at_ s t,false))(h2:(aQ t).head?≠some 94):wH (N,rc) s (at_ s l) false=some (x,y,z,s,at_ s (aQ t),false):=by
 have tk:=j8 (c:=45) hs h hN hh (by decide);have tb:=j8 (c:=94) hs ht hN h2 (by decide);show(rC _ _ _ _:O).bind Am=_;unfold rC;simp only[];rw[aM,aG (fN tk),fR tk,fQ tk,fP tk,fO tk,aM,hr,aG sm,sg];simp only[];rw[aG (fN tb),fR tb,fQ tb,fP tb,fO tb,aM];rfl
theorem aYw{t t':Tx}{x y x' y' j:Int}{z z':List Ex}{d:Bool}(hh:(aQ l).head?≠some 45)(ht:t <:+ s)(hr:rc.1 s (at_ s (aQ l)) false=some (x,y,z,s,at_ s t,false))(h2:aQ t=94::t')(hr':rc.2.1 s (at_ s t') false=some (x',y',z',s,j,d)):wH (N,rc) s (at_ s l) false=some (7,0,[Ex.mk x y z,Ex.mk x' y' z'],s,j,d):=by
 have tk:=j8 (c:=45) hs h hN hh (by decide);have tb:=j7 (c:=94) hs ht hN h2;show(rC _ _ _ _:O).bind Am=_;unfold rC;simp only[];rw[aM,aG (fN tk),fR tk,fQ tk,fP tk,fO tk,aM,hr,aG sm,sg];simp only[];rw[aG (fN tb),fR tb,fQ tb,fP tb,fO tb,bA,hr',aG sm,sg];rfl
end
theorem aZA{N:Nat}{rc:Rr}{s:Tx}{i:Int}:wH (N,rc) s i true=some (0,0,[],s,i,true):=rfl
theorem VT{N:Nat}{rc:Rr}{s l:Tx}(hs:s.length<2^62)(h:l <:+ s)(hN:s.length<N):tM (N,rc) s (at_ s (aQ l)) false=tM (N,rc) s (at_ s l) false:=by
 have h':=(eE l).trans h;show(nF _ _ _ _:O).bind tN=(nF _ _ _ _:O).bind tN;unfold nF;simp only[];rw[aG (wR hs h hN),aG (wR hs h' hN),wQ hs h hN,wP hs h hN,wO hs h hN,wN hs h hN,wQ hs h' hN,wP hs h' hN,wO hs h' hN,wN hs h' hN,fB]
theorem aYS{N m:Nat}{rc:Rr}{s:Tx}{i a b x y:Int}{z:List Ex}{K:Tx×Int×Bool×Int×Int×Int×Int×List Ex->O}{k1 k2:Unit->O}:nH (N,rc) (m+1) (s,i,true,a,b,x,y,z) K k1 k2=K (s,i,true,a,b,x,y,z):=rfl
section
variable{N m:Nat}{rc:Rr}{s l:Tx}{a b x y:Int}{z:List Ex}{K:Tx×Int×Bool×Int×Int×Int×Int×List Ex->O}{k1 k2:Unit->O}(hs:s.length<2^62)(h:l <:+ s)(hN:s.length<N)
include hs h hN
theorem aYR(h1:(aQ l).head?≠some 42)(h2:(aQ l).head?≠some 47):nH (N,rc) (m+1) (s,at_ s l,false,a,b,x,y,z) K k1 k2=K (s,at_ s (aQ l),false,a,b,x,y,z):=by
 have h':=(eE l).trans h;have ta:=j8 (c:=42) hs h hN h1 (by decide);have tb:=j8 (c:=47) hs h' hN (by rw[fB];exact h2) (by decide);rw[fB]at tb;show D1 _ _ _ _ _ _ _ _ _ _ _=_;unfold D1;simp only[];rw[iL,bA,aG (fN ta),fR ta,aM,fQ ta,fP ta,fO ta,aG (fN tb),fR tb,aM,fQ tb,fP tb,fO tb]
theorem aFk{c:UInt8}{o x' y' j:Int}{z':List Ex}{d:Bool}{t:Tx}(hl:aQ l=c::t)(ho:(c=42/\o=5)\/(c=47/\o=6))(hr:rc.2.1 s (at_ s t) false=some (x',y',z',s,j,d)):
    nH (N,rc) (m+1) (s,at_ s l,false,a,b,x,y,z) K k1 k2=nH (N,rc) m (s,j,d,a,b,o,0,[Ex.mk x y z,Ex.mk x' y' z']) K k1 k2:=by
 have h':=(eE l).trans h;show D1 _ _ _ _ _ _ _ _ _ _ _=_;unfold D1;simp only[];rcases ho with⟨rfl,rfl⟩|⟨rfl,rfl⟩
 .have ta:=j7 (c:=42) hs h hN hl
  rw[iL,bA,aG (fN ta),fR ta,bA,fQ ta,fP ta,fO ta,hr,aG sm,sg]
 .have ta:=j8 (c:=42) hs h hN (by rw[hl];simp) (by decide)
  have tb:=j7 (c:=47) hs h' hN (by rw[fB];exact hl);rw[iL,bA,aG (fN ta),fR ta,aM,fQ ta,fP ta,fO ta,aG (fN tb),fR tb,bA,fQ tb,fP tb,fO tb,hr,aG sm,sg]
end
theorem Uc{N:Nat}{rc:Rr}{s:Tx}{i j j' x y x' y':Int}{z z':List Ex}{b0 d d':Bool}(hf:rc.2.1 s i b0=some (x,y,z,s,j,d))
    (hlo:∀(K:Tx×Int×Bool×Int×Int×Int×Int×List Ex->O)(k1 k2:Unit->O),nH (N,rc) N (s,j,d,0,0,x,y,z) K k1 k2=K (s,j',d',0,0,x',y',z')):NW (N,rc) s i b0=some (x',y',z',s,j',d'):=by
 show(N0 _ _ _ _ _:O).bind NX=_;unfold N0;simp only[];rw[hf,aG sm,sg];simp only[];unfold U8;simp only[];rw[hlo];rfl
theorem aML{N m:Nat}{rc:Rr}{s:Tx}{i a b x y:Int}{z:List Ex}{K:Tx×Int×Bool×Int×Int×Int×Int×List Ex->O}{k1 k2:Unit->O}:mR (N,rc) (m+1) (s,i,true,a,b,x,y,z) K k1 k2=K (s,i,true,a,b,x,y,z):=rfl
section
variable{N m:Nat}{rc:Rr}{s l:Tx}{a b x y:Int}{z:List Ex}{K:Tx×Int×Bool×Int×Int×Int×Int×List Ex->O}{k1 k2:Unit->O}(hs:s.length<2^62)(h:l <:+ s)(hN:s.length<N)
include hs h hN
theorem aMK(h1:(aQ l).head?≠some 43)(h2:(aQ l).head?≠some 45):mR (N,rc) (m+1) (s,at_ s l,false,a,b,x,y,z) K k1 k2=K (s,at_ s (aQ l),false,a,b,x,y,z):=by
 have h':=(eE l).trans h;have ta:=j8 (c:=43) hs h hN h1 (by decide);have tb:=j8 (c:=45) hs h' hN (by rw[fB];exact h2) (by decide);rw[fB]at tb;show Bx _ _ _ _ _ _ _ _ _ _ _=_;unfold Bx;simp only[];rw[iL,bA,aG (fN ta),fR ta,aM,fQ ta,fP ta,fO ta,aG (fN tb),fR tb,aM,fQ tb,fP tb,fO tb]
theorem Z3{c:UInt8}{o x' y' j:Int}{z':List Ex}{d:Bool}{t:Tx}(hl:aQ l=c::t)(ho:(c=43/\o=3)\/(c=45/\o=4))(hr:rc.2.2.1 s (at_ s t) false=some (x',y',z',s,j,d)):
    mR (N,rc) (m+1) (s,at_ s l,false,a,b,x,y,z) K k1 k2=mR (N,rc) m (s,j,d,a,b,o,0,[Ex.mk x y z,Ex.mk x' y' z']) K k1 k2:=by
 have h':=(eE l).trans h;show Bx _ _ _ _ _ _ _ _ _ _ _=_;unfold Bx;simp only[];rcases ho with⟨rfl,rfl⟩|⟨rfl,rfl⟩
 .have ta:=j7 (c:=43) hs h hN hl
  rw[iL,bA,aG (fN ta),fR ta,bA,fQ ta,fP ta,fO ta,hr,aG sm,sg]
 .have ta:=j8 (c:=43) hs h hN (by rw[hl];simp) (by decide)
  have tb:=j7 (c:=45) hs h' hN (by rw[fB];exact hl);rw[iL,bA,aG (fN ta),fR ta,aM,fQ ta,fP ta,fO ta,aG (fN tb),fR tb,bA,fQ tb,fP tb,fO tb,hr,aG sm,sg]
end
theorem QL{N:Nat}{rc:Rr}{s:Tx}{i j j' x y x' y':Int}{z z':List Ex}{b0 d d':Bool}(hf:rc.2.2.1 s i b0=some (x,y,z,s,j,d))
    (hlo:∀(K:Tx×Int×Bool×Int×Int×Int×Int×List Ex->O)(k1 k2:Unit->O),mR (N,rc) N (s,j,d,0,0,x,y,z) K k1 k2=K (s,j',d',0,0,x',y',z')):JT (N,rc) s i b0=some (x',y',z',s,j',d'):=by
 show(JZ _ _ _ _ _:O).bind JU=_;unfold JZ;simp only[];rw[hf,aG sm,sg];simp only[];unfold QI;simp only[];rw[hlo];rfl
end Go.Proofs
/- The reference's Parse: what it returns for any text. -/
namespace Go.Proofs
open Go Go.Ax Go.Ax.aA
abbrev gR(N n:Nat):Rr:=gZ N n
theorem aFl{N:Nat}(hN:1<=N){rc:Rr}{s:Tx}{i x y:Int}{z:List Ex}(K:Tx×Int×Bool×Int×Int×Int×Int×List Ex->O)(k1 k2:Unit->O):nH (N,rc) N (s,i,true,0,0,x,y,z) K k1 k2=K (s,i,true,0,0,x,y,z):=by
 cases N with
 |zero=>omega
 |succ N=>rfl
theorem Z4{N:Nat}(hN:1<=N){rc:Rr}{s:Tx}{i x y:Int}{z:List Ex}(K:Tx×Int×Bool×Int×Int×Int×Int×List Ex->O)(k1 k2:Unit->O):mR (N,rc) N (s,i,true,0,0,x,y,z) K k1 k2=K (s,i,true,0,0,x,y,z):=by
 cases N with
 |zero=>omega
 |succ N=>rfl
theorem bF{N n:Nat}{s:Tx}{i:Int}:(gR N (n+1)).2.1 s i true=some (0,0,[],s,i,true):=aZA (N:=N) (rc:=gR N n)
theorem bT{N n:Nat}{s:Tx}{i:Int}(hN:1<=N):(gR N (n+2)).2.2.1 s i true=some (0,0,[],s,i,true):=Uc (rc:=gR N (n+1)) bF (aFl hN)
theorem bS{N n:Nat}{s:Tx}{i:Int}(hN:1<=N):(gR N (n+3)).2.2.2 s i true=some (0,0,[],s,i,true):=QL (rc:=gR N (n+2)) (bT hN) (Z4 hN)
def a4Q(N:Nat)(s:Tx):Kd->Tx->Pr->Prop
 |.pa,l,r=>∀n,8*l.length+4<=n->PB N (gR N n).2.2.2 s (at_ s l) r/\PB N (gR N n).2.2.2 s (at_ s (aQ l)) r
 |.at,l,r=>∀n,8*l.length+5<=n->∃v,(gR N n).1 s (at_ s l) false=some v/\jP s r v
 |.lv k,l,r=>∀n,8*l.length+9<=n+k->(k=3->∃v,(gR N n).2.1 s (at_ s l) false=some v/\jP s r v)/\(k=2->∃v,(gR N n).2.2.1 s (at_ s l) false=some v/\jP s r v)/\(k=1->∃v,(gR N n).2.2.2 s (at_ s l) false=some v/\jP s r v)
 |.lo k e,l,r=>(k=2->∀n m a b,8*l.length<=n->l.length<m->∃x y z j d,(∀K k1 k2,nH (N,gR N n) m (s,at_ s l,false,a,b,e.op,e.num,e.kids) K k1 k2=K (s,j,d,a,b,x,y,z))/\jP s r (x,y,z,s,j,d)) /\
   (k=1->∀n m a b,8*l.length<=n->l.length<m->∃x y z j d,(∀K k1 k2,mR (N,gR N n) m (s,at_ s l,false,a,b,e.op,e.num,e.kids) K k1 k2=K (s,j,d,a,b,x,y,z))/\jP s r (x,y,z,s,j,d))
theorem oT{s:Tx}{e:Ex}{t:Tx}{v:Vr}(h:jP s (.ok e t) v):v=(e.op,e.num,e.kids,s,at_ s t,false):=h
theorem rK{s:Tx}{b:Tx}{v:Vr}(h:jP s (.bad b) v):∃x y z,v=(x,y,z,s,at_ s b,true):=h
theorem aZG{s:Tx}{r:Pr}{v:Vr}(h:jP s r v):∃x y z j d,v=(x,y,z,s,j,d):=by
 cases r with
 |ok e t=>exact⟨_,_,_,_,_,oT h⟩
 |bad b=>obtain⟨x,y,z,e⟩:=rK h;exact⟨_,_,_,_,_,e⟩
theorem aZH{s:Tx}{r:Pr}{e:Ex}{x y j:Int}{z:List Ex}{d:Bool}(o:Int)(h:jP s r (x,y,z,s,j,d)):jP s (r.map λf=>.mk o 0 [e,f]) (o,0,[e,Ex.mk x y z],s,j,d):=by
 cases r with
 |ok f t=>
   have:=oT h;simp only[sA]at this;obtain⟨rfl,rfl,rfl,_,rfl,rfl⟩:=this;rw[kE];exact rfl
 |bad b=>
   obtain⟨x',y',z',e'⟩:=rK h;simp only[sA]at e';obtain⟨_,_,_,_,rfl,rfl⟩:=e';exact⟨_,_,_,rfl⟩
theorem op2{c:UInt8}{o:Int}(h:iI 2 c=some o):(c=42/\o=5)\/(c=47/\o=6):=Dx h
theorem op1{c:UInt8}{o:Int}(h:iI 1 c=some o):(c=43/\o=3)\/(c=45/\o=4):=Dx h
theorem cQ{c:UInt8}{o:Int}(h:iI 0 c=some o):(c=61/\o=9)\/(c=60/\o=10):=Dx h
theorem aZL{N:Nat}{s:Tx}(hs:s.length<2^62)(hN:s.length+2<N){k:Kd}{l:Tx}{r:Pr}(h:Rd k l r):l <:+ s->a4Q N s k l r:=by
 have hN':s.length<N:=by omega
 induction h with
 |BC h1 h2 h3 ih=>
   intro hl;rename_i l t t2 t3 e;have hs1:=dM h1;have ht:=hs1.1.trans hl;have ht2:t2 <:+ s:=((kB h2).1:t2 <:+ t).trans ht;have hl':=(eE l).trans hl;intro n hn;obtain⟨v,hv,rv⟩:=(ih ht n (by omega)).2.2 rfl;cases oT rv;have a:=oW (j7 hs hl hN' h1);have a':=oW (j7 (l:=aQ l) hs hl' hN' (by rw[fB];exact h1));have b:=oW (j7 hs ht2 hN' h3);exact⟨⟨_,_,_,_,_,_,_,_,_,a,hv,b,rfl⟩,⟨_,_,_,_,_,_,_,_,_,a',hv,b,rfl⟩⟩
 |Dk h1=>
   intro hl;rename_i l;have hl':=(eE l).trans hl;intro n hn;have a:=oW (j8 hs hl hN' h1 (by decide));have a':=oW (j8 (l:=aQ l) hs hl' hN' (by rw[fB];exact h1) (by decide));rw[fB]at a'
   match n,hn with
   |n+3,_=>
     have b:=bS (N:=N) (n:=n) (s:=s) (i:=at_ s (aQ l)) (by omega);have d:=oW (HF (N:=N) (s:=s) (c:=41) (i:=at_ s (aQ l)));exact⟨⟨_,_,_,_,_,_,_,_,_,a,b,d,_,_,_,rfl⟩,⟨_,_,_,_,_,_,_,_,_,a',b,d,_,_,_,rfl⟩⟩
 |Hc h1 h2 ih=>
   intro hl;rename_i l t b;have hs1:=dM h1;have ht:=hs1.1.trans hl;have hl':=(eE l).trans hl;intro n hn;obtain⟨v,hv,rv⟩:=(ih ht n (by omega)).2.2 rfl;obtain⟨x,y,z,rfl⟩:=rK rv;have a:=oW (j7 hs hl hN' h1);have a':=oW (j7 (l:=aQ l) hs hl' hN' (by rw[fB];exact h1));have d:=oW (HF (N:=N) (s:=s) (c:=41) (i:=at_ s b));exact⟨⟨_,_,_,_,_,_,_,_,_,a,hv,d,_,_,_,rfl⟩,⟨_,_,_,_,_,_,_,_,_,a',hv,d,_,_,_,rfl⟩⟩
 |Dj h1 h2 h3 ih=>
   intro hl;rename_i l t t2 e;have hs1:=dM h1;have ht:=hs1.1.trans hl;have ht2:t2 <:+ s:=((kB h2).1:t2 <:+ t).trans ht;have hl':=(eE l).trans hl;intro n hn;obtain⟨v,hv,rv⟩:=(ih ht n (by omega)).2.2 rfl;cases oT rv;have a:=oW (j7 hs hl hN' h1);have a':=oW (j7 (l:=aQ l) hs hl' hN' (by rw[fB];exact h1));have b:=oW (j8 hs ht2 hN' h3 (by decide));exact⟨⟨_,_,_,_,_,_,_,_,_,a,hv,b,_,_,_,rfl⟩,⟨_,_,_,_,_,_,_,_,_,a',hv,b,_,_,_,rfl⟩⟩
 |num h1 h2 h3=>
   intro hl n hn
   match n,hn with
   |n+1,_=>
     have a:=aGa (rc:=gR N n) hs hl hN' h1 h2;rw[aN h3]at a;exact⟨_,a,rfl⟩
 |He h1 h2 h3=>
   intro hl n hn
   match n,hn with
   |n+1,_=>
     have a:=aGa (rc:=gR N n) hs hl hN' h1 h2;rw[aF (by rw[h3];exact Bool.false_ne_true)]at a;exact⟨_,a,_,_,_,rfl⟩
 |var h1 h2=>
   intro hl n hn
   match n,hn with
   |n+1,_=>exact⟨_,aZS (rc:=gR N n) hs hl hN' h1 h2,rfl⟩
 |root h1 h2 ih=>
   intro hl n hn;have hs1:=dM h1
   match n,hn with
   |n+1,hn=>exact aZT (rc:=gR N n) hs hl hN' h1 (ih (hs1.1.trans hl) n (by omega)).1
 |par h1 h2 ih=>
   intro hl n hn
   match n,hn with
   |n+1,hn=>exact aZU (rc:=gR N n) hs hl hN' h1 (ih hl n (by omega)).2
 |neg h1 h2 ih=>
   intro hl n hn;have hs1:=dM h1;refine⟨λ_=>?_,λhk=>by omega,λhk=>by omega⟩
   match n,hn with
   |0,hn=>omega
   |n+1,hn=>
     obtain⟨v,hv,rv⟩:=(ih (hs1.1.trans hl) n (by omega)).1 rfl;exact aYy (rc:=gR N n) hs hl hN' h1 hv rv
 |IB h1 h2 ih=>
   intro hl n hn;refine⟨λ_=>?_,λhk=>by omega,λhk=>by omega⟩
   match n,hn with
   |n+2,hn=>
     obtain⟨v,hv,rv⟩:=ih hl (n+1) (by omega);obtain⟨x,y,z,rfl⟩:=rK rv;exact⟨_,aYz (rc:=gR N (n+1)) hs hl hN' h1 ((VT (rc:=gR N n) hs hl hN').trans hv),_,_,_,rfl⟩
   |0,hn=>omega
   |1,hn=>omega
 |mH h1 h2 h3 ih=>
   intro hl n hn;rename_i l t e;have ht:t <:+ s:=((kB h2).1:t <:+ l).trans hl;refine⟨λ_=>?_,λhk=>by omega,λhk=>by omega⟩
   match n,hn with
   |n+2,hn=>
     obtain⟨v,hv,rv⟩:=ih hl (n+1) (by omega);cases oT rv;exact⟨_,aYx (rc:=gR N (n+1)) hs hl hN' h1 ht ((VT (rc:=gR N n) hs hl hN').trans hv) h3,rfl⟩
   |0,hn=>omega
   |1,hn=>omega
 |pow h1 h2 h3 h4 ih1 ih2=>
   intro hl n hn;rename_i l t t' e r;have sf:=kB h2;have ht:t <:+ s:=(sf.1:t <:+ l).trans hl;have hlt:=sf.2 _ _ rfl;have hs3:=dM h3;simp only[Kd.str]at hlt;refine⟨λ_=>?_,λhk=>by omega,λhk=>by omega⟩
   match n,hn with
   |n+2,hn=>
     obtain⟨v,hv,rv⟩:=ih1 hl (n+1) (by omega);cases oT rv;obtain⟨w,hw,rw'⟩:=(ih2 (hs3.1.trans ht) (n+1) (by omega)).1 rfl;obtain⟨x,y,z,j,d,rfl⟩:=aZG rw';refine⟨_,aYw (rc:=gR N (n+1)) hs hl hN' h1 ht ((VT (rc:=gR N n) hs hl hN').trans hv) h3 hw,?_⟩;rw[kE];exact aZH 7 rw'
   |0,hn=>omega
   |1,hn=>omega
 |Dt h0 h1 ih=>
   intro hl n hn;rename_i k l b;have hle:=hl.length_le;refine⟨λhk=>by omega,λhk=>?_,λhk=>?_⟩
   .subst hk
    match n,hn with
    |0,hn=>omega
    |n+1,hn=>
      obtain⟨v,hv,rv⟩:=(ih hl n (by omega)).1 rfl;obtain⟨x,y,z,rfl⟩:=rK rv;exact⟨(x,y,z,s,at_ s b,true),Uc (rc:=gR N n) hv (aFl (by omega)),x,y,z,rfl⟩
   .subst hk
    match n,hn with
    |0,hn=>omega
    |n+1,hn=>
      obtain⟨v,hv,rv⟩:=(ih hl n (by omega)).2.1 rfl;obtain⟨x,y,z,rfl⟩:=rK rv;exact⟨(x,y,z,s,at_ s b,true),QL (rc:=gR N n) hv (Z4 (by omega)),x,y,z,rfl⟩
 |uC h0 h1 h2 ih1 ih2=>
   intro hl n hn;rename_i k l t e r;have sf:=kB h1;have ht:t <:+ s:=(sf.1:t <:+ l).trans hl;have hlt:=sf.2 _ _ rfl;have hle:=ht.length_le;simp only[Kd.str]at hlt;refine⟨λhk=>by omega,λhk=>?_,λhk=>?_⟩
   .subst hk
    match n,hn with
    |0,hn=>omega
    |n+1,hn=>
      obtain⟨v,hv,rv⟩:=(ih1 hl n (by omega)).1 rfl;cases oT rv;obtain⟨x,y,z,j,d,lo,rl⟩:=(ih2 ht).1 rfl n N 0 0 (by omega) (by omega);exact⟨_,Uc (rc:=gR N n) hv lo,rl⟩
   .subst hk
    match n,hn with
    |0,hn=>omega
    |n+1,hn=>
      obtain⟨v,hv,rv⟩:=(ih1 hl n (by omega)).2.1 rfl;cases oT rv;obtain⟨x,y,z,j,d,lo,rl⟩:=(ih2 ht).2 rfl n N 0 0 (by omega) (by omega);exact⟨_,QL (rc:=gR N n) hv lo,rl⟩
 |rP h0 h1=>
   intro hl;rename_i k e t;refine⟨λhk n m a b hn hm=>?_,λhk n m a b hn hm=>?_⟩
   .subst hk
    match m,hm with
    |m+1,_=>exact⟨_,_,_,_,_,λK k1 k2=>aYR hs hl hN' (λhh=>by have:=h1 _ hh;cases this) (λhh=>by have:=h1 _ hh;cases this),rfl⟩
   .subst hk
    match m,hm with
    |m+1,_=>exact⟨_,_,_,_,_,λK k1 k2=>aMK hs hl hN' (λhh=>by have:=h1 _ hh;cases this) (λhh=>by have:=h1 _ hh;cases this),rfl⟩
 |Dv h0 h1 h2 h3 ih=>
   intro hl;rename_i k e t t' b' c o;have hs1:=dM h1;refine⟨λhk n m a b hn hm=>?_,λhk n m a b hn hm=>?_⟩
   .subst hk
    obtain⟨v,hv,rv⟩:=(ih (hs1.1.trans hl) n (by omega)).1 rfl;obtain⟨x,y,z,rfl⟩:=rK rv
    match m,hm with
    |m+2,_=>exact⟨_,_,_,_,_,λK k1 k2=>(aFk hs hl hN' h1 (op2 h2) hv).trans aYS,_,_,_,rfl⟩
    |0,hm=>omega
    |1,hm=>omega
   .subst hk
    obtain⟨v,hv,rv⟩:=(ih (hs1.1.trans hl) n (by omega)).2.1 rfl;obtain⟨x,y,z,rfl⟩:=rK rv
    match m,hm with
    |m+2,_=>exact⟨_,_,_,_,_,λK k1 k2=>(Z3 hs hl hN' h1 (op1 h2) hv).trans aML,_,_,_,rfl⟩
    |0,hm=>omega
    |1,hm=>omega
 |xI h0 h1 h2 h3 h4 h5 ih1 ih2=>
   intro hl;rename_i k e f t t' t2 c o r;have hs1:=dM h1;have ht:=hs1.1.trans hl;have sf:=kB h4;have ht2:t2 <:+ s:=(sf.1:t2 <:+ t').trans ht;have hlt:=sf.2 _ _ rfl;simp only[Kd.str]at hlt;refine⟨λhk n m a b hn hm=>?_,λhk n m a b hn hm=>?_⟩
   .subst hk
    obtain⟨v,hv,rv⟩:=(ih1 ht n (by omega)).1 rfl;cases oT rv
    match m,hm with
    |m+1,hm=>
      obtain⟨x,y,z,j,d,lo,rl⟩:=(ih2 ht2).1 rfl n m a b (by omega) (by omega);refine⟨x,y,z,j,d,λK k1 k2=>(aFk hs hl hN' h1 (op2 h2) hv).trans ?_,rl⟩;rw[kE,kE];exact lo K k1 k2
   .subst hk
    obtain⟨v,hv,rv⟩:=(ih1 ht n (by omega)).2.1 rfl;cases oT rv
    match m,hm with
    |m+1,hm=>
      obtain⟨x,y,z,j,d,lo,rl⟩:=(ih2 ht2).2 rfl n m a b (by omega) (by omega);refine⟨x,y,z,j,d,λK k1 k2=>(Z3 hs hl hN' h1 (op1 h2) hv).trans ?_,rl⟩;rw[kE,kE];exact lo K k1 k2
 |BH _ _ _ _=>exact λ_=>⟨λhk=>by omega,λhk=>by omega⟩
theorem JX{N:Nat}{s l:Tx}(hs:s.length<2^62)(hN:8*s.length+12<=N){r:Pr}(h:Rd (.lv 1) l r)(hl:l <:+ s):∃v,(gR N N).2.2.2 s (at_ s l) false=some v/\jP s r v:=by
 have hle:=hl.length_le;exact(aZL (N:=N) hs (by omega) h hl N (by omega)).2.2 rfl
end Go.Proofs
/- Both Parses return the same. -/
namespace Go.Proofs
open Go Go.Ax Go.Ax.aA
section
variable{N:Nat}{s:Tx}{i j x y:Int}{z:List Ex}{b d:Bool}
theorem HO{v}(h:(gR N N).2.2.2 s i b=some v):Bw N s i b=true:=by unfold Bw;rw[h];rfl
theorem HU(h:(gR N N).2.2.2 s i b=some (x,y,z,s,j,d)):Bu N s i b=x:=by unfold Bu;rw[h];rfl
theorem HT(h:(gR N N).2.2.2 s i b=some (x,y,z,s,j,d)):Bt N s i b=y:=by unfold Bt;rw[h];rfl
theorem HS(h:(gR N N).2.2.2 s i b=some (x,y,z,s,j,d)):Bs N s i b=z:=by unfold Bs;rw[h];rfl
theorem HR(h:(gR N N).2.2.2 s i b=some (x,y,z,s,j,d)):Br N s i b=s:=by unfold Br;rw[h];rfl
theorem HQ(h:(gR N N).2.2.2 s i b=some (x,y,z,s,j,d)):Bq N s i b=j:=by unfold Bq;rw[h];rfl
theorem HP(h:(gR N N).2.2.2 s i b=some (x,y,z,s,j,d)):Bp N s i b=d:=by unfold Bp;rw[h];rfl
end
def O7(N:Nat)(s:Tx)(z1 z2 z3:Int)(S:Tx)(j:Int)(d:Bool)(x y:Int)(z:List Ex):O:=
 La N s z1 z2 z3 S j d x y z λz12 _ _ _ _ z17 z18 z19 z20 z21=>
  br (z18||decide (z17<(z12.length:Int))) (some (s7 0 0 [] z17 2))
   (ck (AQ N z19 z20 z21) <|br (decide (v8 N z19 z20 z21≠0)) (some (s7 0 0 [] 0 4)) (some (s7 z19 z20 z21 0 0)))
theorem Wg{N:Nat}{s b:Tx}{z1 z2 z3 x y:Int}{z:List Ex}:(O7 N s z1 z2 z3 s (at_ s b) true x y z).bind vT=some (BA s (.bad b)):=rfl
theorem We{N:Nat}{s t:Tx}{e:Ex}{z1 z2 z3:Int}(hs:s.length<2^59)(hN:s.length<N)(ht:t <:+ s)(hz:aR e<=s.length):(O7 N s z1 z2 z3 s (at_ s t) false e.op e.num e.kids).bind vT=some (BA s (.ok e t)):=by
 unfold O7 La Fm SM;simp only[];rw[iL,bA,aG (ZS (by omega) ht hN),ZR (by omega) ht hN,ZQ (by omega) ht hN,ZP (by omega) ht hN];rw[uY,aG (Sj (by omega) (by omega)),Si (by omega) (by omega)];have re:BA s (.ok e t)=if aQ t=[]then(if dJ e=0 then(e.op,e.num,e.kids,0,0)else(0,0,[],0,4))else(0,0,[],at_ s (aQ t),2):=rfl
 rw[re];cases hk:aQ t with
 |nil=>
   rw[aX (by rw[xX];omega),aM,aN rfl];by_cases h0:dJ e=0
   .rw[aX (λh=>h h0),aM,aN h0];rfl
   .rw[aU h0,bA,aF h0];rfl
 |cons c u=>
   have h':(c::u) <:+ s:=hk ▸ (eE t).trans ht;rw[aU (qH h').2.2,bA,aF (List.cons_ne_nil c u)];rfl
theorem aSB{N:Nat}(hN:70000<=N){s:Tx}(hs:s.length<=8192){r:Pr}(h:Rd (.lv 0) s r):oK N s=some (BA s r):=by
 have hN':s.length<N:=by omega
 have hs':s.length<2^62:=by omega
 have go:∀{x y j:Int}{z:List Ex}{d:Bool}{R:Option _},(gR N N).2.2.2 s 0 false=some (x,y,z,s,j,d)->
     ((Fl N s 0 0 0 s j d x y z (λz1 z2 z3 z4 z5 z6 z7 z8 z9 z10=>O7 N z1 z2 z3 z4 z5 z6 z7 z8 z9 z10)).bind vT=R)->oK N s=R:=λ{x y j z d R} hv hR=>by
  show(Cg _ _ _ _:O).bind vT=_;unfold Cg;rw[aX (by omega),aM,aG (HO hv),HU hv,HT hv,HS hv,HR hv,HQ hv,HP hv];exact hR
 cases h with
 |Dt h0 h1=>
   rename_i b;obtain⟨v,hv,rv⟩:=JX (N:=N) hs' (by omega) h1 Xb;rw[XM]at hv;obtain⟨x,y,z,rfl⟩:=rK rv;refine go hv ?_;have ta:=HF (N:=N) (s:=s) (c:=61) (i:=at_ s b);have tb:=HF (N:=N) (s:=s) (c:=60) (i:=at_ s b);unfold Fl Cd Le;simp only[];rw[aG (fN ta),fR ta,aM,fQ ta,fP ta,fO ta,aG (fN tb),fR tb,aM,fQ tb,fP tb,fO tb];exact Wg
 |uC h0 h1 h2=>
   rename_i t e;have ht:t <:+ s:=(kB h1).1;have hz:=Np h1 e t rfl;simp only[lC]at hz;obtain⟨v,hv,rv⟩:=JX (N:=N) hs' (by omega) h1 Xb;rw[XM]at hv;cases oT rv;refine go hv ?_;unfold Fl Cd Le;simp only[];have ht':=(eE t).trans ht;have hsz:∀(o:Int)(e f:Ex),aR (.mk o 0 [e,f])=1+(aR e+aR f):=λo e f=>by simp[aR,c9]
   cases h2 with
   |rP _ h3=>
     have ta:=j8 (c:=61) hs' ht hN' (λhh=>by have:=h3 _ hh;cases this) (by decide);have tb:=j8 (c:=60) (l:=aQ t) hs' ht' hN' (λhh=>by rw[fB]at hh;have:=h3 _ hh;cases this) (by decide);rw[fB]at tb;rw[aG (fN ta),fR ta,aM,fQ ta,fP ta,fO ta,aG (fN tb),fR tb,aM,fQ tb,fP tb,fO tb];refine(We (t:=aQ t) (by omega) hN' ht' (by omega)).trans ?_;show some (if aQ (aQ t)=[]then _ else _)=some (if aQ (aQ t)=[]then _ else _);rfl
   |Dv _ h3 h4 h5=>
     rename_i t' b c o;have hs3:=dM h3;have ht2:=hs3.1.trans ht;obtain⟨w,hw,rw'⟩:=JX (N:=N) hs' (by omega) h5 ht2;obtain⟨x,y,z,rfl⟩:=rK rw';rcases cQ h4 with⟨rfl,rfl⟩|⟨rfl,rfl⟩
     .have ta:=j7 (c:=61) hs' ht hN' h3
      rw[aG (fN ta),fR ta,bA,fQ ta,fP ta,fO ta,aG (HO hw),HU hw,HT hw,HS hw,HR hw,HQ hw,HP hw];exact Wg
     .have ta:=j8 (c:=61) hs' ht hN' (by rw[h3];simp) (by decide)
      have tb:=j7 (c:=60) (l:=aQ t) hs' ht' hN' (by rw[fB];exact h3);rw[aG (fN ta),fR ta,aM,fQ ta,fP ta,fO ta,aG (fN tb),fR tb,bA,fQ tb,fP tb,fO tb,aG (HO hw),HU hw,HT hw,HS hw,HR hw,HQ hw,HP hw];exact Wg
   |xI _ _ _ h3 _ _=>exact absurd rfl h3
   |BH h3 h4 h5=>
     rename_i f t' t2 c o;have hs3:=dM h3;have ht2:=hs3.1.trans ht;have ht3:t2 <:+ s:=((kB h5).1:t2 <:+ t').trans ht2;have hz2:=Np h5 f t2 rfl;simp only[lC]at hz2;obtain⟨w,hw,rw'⟩:=JX (N:=N) hs' (by omega) h5 ht2;cases oT rw';rcases cQ h4 with⟨rfl,rfl⟩|⟨rfl,rfl⟩
     .have ta:=j7 (c:=61) hs' ht hN' h3
      rw[aG (fN ta),fR ta,bA,fQ ta,fP ta,fO ta,aG (HO hw),HU hw,HT hw,HS hw,HR hw,HQ hw,HP hw,kE,kE];exact We (e:=.mk 9 0 [e,f]) (by omega) hN' ht3 (by rw[hsz];omega)
     .have ta:=j8 (c:=61) hs' ht hN' (by rw[h3];simp) (by decide)
      have tb:=j7 (c:=60) (l:=aQ t) hs' ht' hN' (by rw[fB];exact h3);rw[aG (fN ta),fR ta,aM,fQ ta,fP ta,fO ta,aG (fN tb),fR tb,bA,fQ tb,fP tb,fO tb,aG (HO hw),HU hw,HT hw,HS hw,HR hw,HQ hw,HP hw,kE,kE];exact We (e:=.mk 10 0 [e,f]) (by omega) hN' ht3 (by rw[hsz];omega)
theorem aSC{N:Nat}{s:Tx}(hs:8192<s.length):oK N s=some (0,0,[],0,4):=by
 show(Cg _ _ _ _:O).bind vT=_;unfold Cg;rw[aU (by omega),bA];rfl
theorem aZM{N:Nat}(hN:70000<=N)(s:Tx):oK N s=jU N s:=by
 by_cases hs:s.length<=8192
 .obtain⟨r,hr⟩:=aG8 s.length s (Nat.le_refl _) (.lv 0) (λm h=>by cases h;omega) (λm e h=>by cases h)
  rw[SY hN hs hr,aSB hN hs hr]
 .rw[aCn (by omega),aSC (by omega)]
end Go.Proofs
