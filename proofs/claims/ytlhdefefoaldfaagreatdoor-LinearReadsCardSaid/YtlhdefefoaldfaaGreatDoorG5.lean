/- The own reader. Conditions are in the theorems. -/
import Derived.Test.YtlhdefefoaldfaaGreatDoorG4
import Derived.Test.YtlhdefefoaldfaaGreatDoorF1
import Derived.Test.YtlhdefefoaldfaaGreatDoorF5
import Derived.Test.YtlhdefefoaldfaaGreatDoorG1
open Bool renaming and_eq_true->bM,and_false->EX,false_and->jG,false_eq_true->EW,not_false->iL,true_and->gX
open Go.IntKind renaming i64->aB
open Int renaming toNat_natCast->uV
open List renaming dropWhile_cons->IM,findIdx?_eq_none_iff->aIu,foldl_cons->aIt,length_append->dO,length_cons->eB,mem_cons->fA,mem_cons_of_mem->fM,mem_cons_self->iA,not_mem_nil->IK
open Option renaming map_none->nZ,map_some->kX
open UInt8 renaming le_iff_toNat_le->xZ
/- The own reader: what it sees, what it needs, numerals, operations. -/
namespace Go.Proofs
open Go Go.Ax Go.Ax.aA
def at_(s l:Tx):Int:=((s.length-l.length:Nat):Int)
theorem qH{s t:Tx}{c:UInt8}(h:(c::t) <:+ s):s[s.length-(c::t).length]?=some c/\at_ s t=at_ s (c::t)+1/\at_ s (c::t)<(s.length:Int):=by
 obtain⟨p,rfl⟩:=h;unfold at_;refine⟨?_,?_,?_⟩
 .simp
 .simp only[dO,eB];omega
 .simp only[dO,eB];omega
theorem xX{s:Tx}:at_ s []=(s.length:Int):=rfl
theorem XM{s:Tx}:at_ s s=0:=by unfold at_;simp
theorem aI5{s l:Tx}:0<=at_ s l/\at_ s l<=(s.length:Int):=by unfold at_;omega
theorem HJ{s t:Tx}{c:UInt8}(h:(c::t) <:+ s):t <:+ s:=(List.suffix_cons c t).trans h
theorem o7{s t:Tx}{c:UInt8}(h:(c::t) <:+ s)(k:UInt8->O):gx s (at_ s (c::t)) k=k c:=eN (qH h).1 k
theorem oA{s t:Tx}{c:UInt8}(h:(c::t) <:+ s)(hs:s.length<2^62):aB.wrap (at_ s (c::t)+1)=at_ s t:=by
 have a:=qH h;have b:=aI5 (s:=s) (l:=t);rw[<-a.2.1];exact wr (by omega) (by omega)
theorem Zd{N:Nat}{s:Tx}{K:Tx×Int->O}{k1 k2:Unit->O}(hs:s.length<2^62):∀(l:Tx)(m:Nat),l <:+ s->l.length<m->zC N m (s,at_ s l) K k1 k2=K (s,at_ s (aQ l))
 |_,0,_,h=>by omega
 |[],m+1,_,_=>by
   show CA _ _ _ _ _=_;unfold CA;simp only[];rw[xX,aX (by omega),p8,jG,aM];rfl
 |c::t,m+1,h,hm=>by
   have a:=qH h;show CA _ _ _ _ _=_;unfold CA;simp only[];rw[aU a.2.2,o8,o7 h,gX];by_cases hc:c=32
   .rw[aU hc,bA,oA h hs,aQ,aN hc]
    exact Zd hs t m (HJ h) (by simp at hm;omega)
   .rw[aX hc,aM,aQ,aF hc]
theorem J4{N:Nat}{s l:Tx}(hs:s.length<2^62)(h:l <:+ s)(hN:s.length<N):zA N s (at_ s l)=some ((aQ l).headD 0,s,at_ s (aQ l)):=by
 have hl:=h.length_le;have:=Zd (N:=N) (K:=λy=>(λz4 z5=>br (decide (z5=(z4.length:Int))) (some (zB 0 z4 z5)) (gx z4 z5 λy6=>some (zB y6 z4 z5))) y.1 y.2) (k1:=λ_=>none) (k2:=λ_=>none) hs l N h (by omega);refine(bG (λz:O=>z.bind J2) this).trans ?_;simp only[];have h':=(eE l).trans h;cases hk:aQ l with
 |nil=>rw[xX,aU rfl,bA];rfl
 |cons c t=>
   rw[hk]at h';have a:=qH h';rw[aX (by omega),aM,o7 h'];rfl
section
variable{N:Nat}{s l:Tx}(hs:s.length<2^62)(h:l <:+ s)(hN:s.length<N)
include hs h hN
theorem j6:pI N s (at_ s l)=true:=by unfold pI;rw[J4 hs h hN];rfl
theorem j5:eI N s (at_ s l)=(aQ l).headD 0:=by unfold eI;rw[J4 hs h hN];rfl
theorem j4:aJ N s (at_ s l)=s:=by unfold aJ;rw[J4 hs h hN];rfl
theorem j3:aI N s (at_ s l)=at_ s (aQ l):=by unfold aI;rw[J4 hs h hN];rfl
end
theorem Z6{N:Nat}{s:Tx}{i:Int}:lX N s i=true:=rfl
theorem aMZ{N:Nat}{s:Tx}{i:Int}:lW N s i=i:=rfl
theorem aMY{N:Nat}{s:Tx}{i:Int}:qX N s i=s:=rfl
theorem aMX{N:Nat}{s:Tx}{i:Int}:qW N s i=i:=rfl
section
variable{N:Nat}{s l:Tx}(hs:s.length<2^62)(h:l <:+ s)(hN:s.length<N){c:UInt8}
include hs h hN
theorem Ah{t:Tx}(hk:aQ l=c::t):gN N c s (at_ s l)=some (.inl (s,at_ s t)):=by
 have h':(c::t) <:+ s:=hk ▸ (eE l).trans h;show(DP _ _ _ _:O).bind Aa=_;unfold DP;rw[aG (j6 hs h hN),j5 hs h hN,j4 hs h hN,j3 hs h hN,hk,aX (by simp),aM,oA h' hs];rfl
theorem UD(hk:(aQ l).head?≠some c)(h0:c≠0):gN N c s (at_ s l)=some (.inr (at_ s (aQ l),s,at_ s (aQ l))):=by
 show(DP _ _ _ _:O).bind Aa=_;unfold DP;rw[aG (j6 hs h hN),j5 hs h hN,j4 hs h hN,j3 hs h hN,aU,bA,aG Z6,aMZ,aMY,aMX]
 .rfl
 .cases hk':aQ l with
  |nil=>exact λh=>h0 h.symm
  |cons d t=>rw[hk']at hk;exact λh=>hk (by rw[<-h];rfl)
end
theorem UP{N:Nat}{s:Tx}{i a b:Int}{K:Int×Tx×Int×Int×Int->O}{k1 k2:Unit->O}(hs:s.length<2^62):∀(l:Tx)(m:Nat),l <:+ s->l.length<m->Ai N m (at_ s l,s,i,a,b) K k1 k2=K (at_ s (l.dropWhile bE),s,i,a,b)
 |_,0,_,h=>by omega
 |[],m+1,_,_=>by
   show DW _ _ _ _ _ _ _ _=_;unfold DW;simp only[];rw[xX,aX (by omega),p8,jG,p8,jG,aM];rfl
 |c::t,m+1,h,hm=>by
   have ha:=qH h;have ih:=UP (N:=N) (i:=i) (a:=a) (b:=b) (K:=K) (k1:=k1) (k2:=k2) hs t m (HJ h) (by simp at hm;omega);show DW _ _ _ _ _ _ _ _=_;unfold DW;simp only[];rw[aU ha.2.2,o8,o7 h,gX];rw[IM];cases h1:decide (48<=c)with
   |false=>
     have hn:¬ bE c=true:=by unfold bE;rw[h1];simp
     rw[p8,jG,aM,aF hn]
   |true=>
     rw[o8,o7 h,gX];cases h2:decide (c<=57)with
     |false=>
       have hn:¬ bE c=true:=by unfold bE;rw[h2];simp
       rw[aM,aF hn]
     |true=>
       have hn:bE c=true:=by unfold bE;rw[h1,h2];rfl
       rw[bA,aN hn,oA h hs];exact ih
theorem aGL{s l:Tx}(h:l <:+ s):eQ s.length (some (at_ s l)) (some (at_ s (l.dropWhile bE)))=true/\dY s (some (at_ s l)) (some (at_ s (l.dropWhile bE)))=l.takeWhile bE:=by
 obtain⟨p,rfl⟩:=h;have e:=List.takeWhile_append_dropWhile (p:=bE) (l:=l);generalize l.takeWhile bE=a at e;generalize l.dropWhile bE=b at e;subst e;unfold at_ dY eQ;have e1:(p++(a++b)).length-(a++b).length=p.length:=by simp
 have e2:(p++(a++b)).length-b.length=p.length+a.length:=by simp only[dO];omega
 rw[e1,e2];refine⟨aU ?_,?_⟩
 .simp only[dO];omega
 .show((p++(a++b)).take ((p.length+a.length:Nat):Int).toNat).drop ((p.length:Nat):Int).toNat=a
  rw[uV,uV,<-List.append_assoc,<-dO,List.take_left,List.drop_left]
theorem a3G{l:Tx}:∀acc:Nat,(∀c∈l,bE c=true)->Lib.decFrom acc l=some (l.foldl (λn c=>10*n+(c.toNat-48)) acc):=by
 induction l with
 |nil=>intro acc _;rfl
 |cons c l ih=>
   intro acc h;have hc:=BS (h c (iA ..));unfold Lib.decFrom Lib.digitVal;rw[aN hc];simp only[];rw[ih _ (λd hd=>h d (fM _ hd)),aIt,Nat.mul_comm]
theorem foldI{l:Tx}:∀acc:Nat,(∀c∈l,bE c=true)->((l.foldl (λn c=>10*n+(c.toNat-48)) acc:Nat):Int)=l.foldl (λn c=>10*n+((c.toNat:Int)-48)) (acc:Int):=by
 induction l with
 |nil=>intro acc _;rfl
 |cons c l ih=>
   intro acc h;have hc:=BS (h c (iA ..));rw[aIt,aIt,ih _ (λd hd=>h d (fM _ hd))]
   congr 1
   omega
theorem a3u{l:Tx}(hne:l≠[])(h:∀c∈l,bE c=true):Lib.atoi l=some (mE l):=by
 cases l with
 |nil=>exact absurd rfl hne
 |cons c t=>
   have hc:=BS (h c (iA ..));have n1:(c == 45)=false:=beq_eq_false_iff_ne.2 (xC (by show c.toNat≠45;omega));have n2:(c == 43)=false:=beq_eq_false_iff_ne.2 (xC (by show c.toNat≠43;omega));simp only[Lib.atoi,n1,n2,Lib.decNat,List.isEmpty_cons,EW,if_false,a3G 0 h,kX];rw[foldI 0 h];rfl
theorem aYp(l:Tx):∀c∈l.takeWhile bE,bE c=true:=λc hc=>List.all_eq_true.1 (List.all_takeWhile (p:=bE) (l:=l)) c hc
theorem VM{c:UInt8}{t:Tx}(h:bE c=true):(c::t).takeWhile bE=c::t.takeWhile bE:=by rw[List.takeWhile_cons,aN h]
section
variable{N:Nat}{s t:Tx}{c:UInt8}(hs:s.length<2^62)(h:(c::t) <:+ s)(hN:s.length<N)(hd:bE c=true)
include hs h hN hd
theorem aXR(hr:lQ ((c::t).takeWhile bE)=true):lK N s (at_ s (c::t))=some (.inl (0,mE ((c::t).takeWhile bE),[],s,at_ s ((c::t).dropWhile bE))):=by
 have hl:=h.length_le;have lp:=UP (N:=N) (i:=at_ s (c::t)) (a:=0) (b:=0) (K:=λy=>(λz7 z8 z9 z10 z11=>
     ck (eQ z8.length (some z9) (some z7))<|
     DS N z7 (dY z8 (some z9) (some z7)) z8 z9 z10 z11
      (λz16 z17 z18=>some (nG z16 z17 z18))
      (λz19 z20 z21 z22 _ _=>
       ck (tL N z20)<|
       br false
        (ck (lX N z21 z22) <|some (nG (lW N z21 z22) (qX N z21 z22) (qW N z21 z22)))
        (some (wF 0 (A9 N z20) [] z21 z19)))) y.1 y.2.1 y.2.2.1 y.2.2.2.1 y.2.2.2.2) (k1:=λ_=>none) (k2:=λ_=>none) hs (c::t) N h (by omega)
 refine(bG (λz:O=>z.bind tR) lp).trans ?_;simp only[];have sl:=aGL h;have ai:=a3u (l:=(c::t).takeWhile bE) (by rw[VM hd];simp) (aYp _);unfold lQ at hr;rw[bM]at hr;have h6:=cR hr.1;have h1:=hr.2;have hp:tL N ((c::t).takeWhile bE)=true:=by
  unfold tL;rw[aU (by omega),ai];rfl
 have hy:A9 N ((c::t).takeWhile bE)=mE ((c::t).takeWhile bE):=by unfold A9;rw[ai];rfl
 rw[aG sl.1,sl.2];unfold DS DT NJ;simp only[];rw[aX (by omega),iL,gX];generalize(c::t).takeWhile bE=run at *
 have goal:∀b:Bool,b=false->((br b (ck (lX N s (at_ s (c::t))) <|some (nG (lW N s (at_ s (c::t))) (qX N s (at_ s (c::t))) (qW N s (at_ s (c::t)))))
     (ck (tL N run) <|br false (ck (lX N s (at_ s (c::t))) <|some (nG (lW N s (at_ s (c::t))) (qX N s (at_ s (c::t))) (qW N s (at_ s (c::t))))) (some (wF 0 (A9 N run) [] s (at_ s ((c::t).dropWhile bE))))):O)).bind tR=some (.inl (0,mE run,[],s,at_ s ((c::t).dropWhile bE))):=λb hb=>by
  rw[hb,aM,aG hp,aM,hy];rfl
 cases run with
 |nil=>rw[aX (by simp),p8];exact goal _ rfl
 |cons d r=>
   cases hl1:decide ((1:Int)<((d::r).length:Int))with
   |false=>rw[p8];exact goal _ rfl
   |true=>
     rw[o8,rU];refine goal _ ?_;have:decide (1<(d::r).length)=true:=aU (by have:=cR hl1;omega);rw[this,gX]at h1;simpa using h1
theorem aXS(hr:lQ ((c::t).takeWhile bE)=false):lK N s (at_ s (c::t))=some (.inr (at_ s (c::t),s,at_ s (c::t))):=by
 have hl:=h.length_le;have lp:=UP (N:=N) (i:=at_ s (c::t)) (a:=0) (b:=0) (K:=λy=>(λz7 z8 z9 z10 z11=>
     ck (eQ z8.length (some z9) (some z7))<|
     DS N z7 (dY z8 (some z9) (some z7)) z8 z9 z10 z11
      (λz16 z17 z18=>some (nG z16 z17 z18))
      (λz19 z20 z21 z22 _ _=>
       ck (tL N z20)<|
       br false
        (ck (lX N z21 z22) <|some (nG (lW N z21 z22) (qX N z21 z22) (qW N z21 z22)))
        (some (wF 0 (A9 N z20) [] z21 z19)))) y.1 y.2.1 y.2.2.1 y.2.2.2.1 y.2.2.2.2) (k1:=λ_=>none) (k2:=λ_=>none) hs (c::t) N h (by omega)
 refine(bG (λz:O=>z.bind tR) lp).trans ?_;simp only[];have sl:=aGL h;rw[aG sl.1,sl.2];unfold DS DT NJ;simp only[];unfold lQ at hr;have hne:(c::t).takeWhile bE=c::t.takeWhile bE:=VM hd;rw[hne]at hr ⊢;generalize c::t.takeWhile bE=run at *
 have goal:∀(b:Bool)(X:O),b=true->((br b (ck (lX N s (at_ s (c::t))) <|some (nG (lW N s (at_ s (c::t))) (qX N s (at_ s (c::t))) (qW N s (at_ s (c::t))))) X:O)).bind tR=some (.inr (at_ s (c::t),s,at_ s (c::t))):=λb X hb=>by
  rw[hb,bA,aG Z6];rfl
 cases run with
 |nil=>simp at hr
 |cons d r=>
   cases h6:decide ((6:Int)<((d::r).length:Int))with
   |true=>rw[Bool.not_true,jG,p8];exact goal _ _ rfl
   |false=>
     rw[aU (by have:=of_decide_eq_false h6;omega),gX]at hr;cases h1:decide (1<(d::r).length)with
     |false=>rw[h1]at hr;simp at hr
     |true=>
       rw[h1]at hr;rw[aU (by have:=cR h1;omega),iL,gX,o8,rU];refine goal _ _ ?_;simpa using hr
end
abbrev opsL:List (Int×(Int×(Int×UInt8))):=[(0,999999,4,0),(0,25,4,0),(1,0,3,45),(2,0,1,43),(2,0,1,45),(2,0,2,42),(2,0,2,47),(2,0,3,94),(1,0,4,82),(2,0,0,61),(2,0,0,60)]
def BJ(n:Int)(c:UInt8)(o:Int×(Int×(Int×UInt8))):Bool:=decide (o.2.2.1=n)&&decide (o.1=2)&&decide (o.2.2.2=c)
theorem YF{N:Nat}{n:Int}{c:UInt8}{K:Int×Int×UInt8->O}{k1:Int×UInt8->O}{k2:Unit->O}:∀(l pre os:List (Int×(Int×(Int×UInt8))))(m:Nat),os=pre++l->l.length<m->os.length<2^62->
    vB N m (os,(os.length:Int),(pre.length:Int),n,c) K k1 k2=match l.findIdx? (BJ n c)with|some j=>K (((pre.length+j:Nat):Int),n,c)|none=>k1 (n,c)
 |_,_,_,0,_,h,_=>by omega
 |[],pre,os,m+1,hk,_,_=>by
   show Bb _ _ _ _ _ _ _ _ _=_;unfold Bb;simp only[];subst hk;rw[aX (by simp),aM];rfl
 |o::l,pre,os,m+1,hk,hm,h2=>by
   have hl:os.length=pre.length+(l.length+1):=by rw[hk];simp
   have ih:=YF (N:=N) (n:=n) (c:=c) (K:=K) (k1:=k1) (k2:=k2) l (pre++[o]) os m (by rw[hk];simp) (by simp at hm;omega) h2;rw[show((pre++[o]).length:Int)=(pre.length:Int)+1 by simp]at ih;have hg:os[pre.length]?=some o:=by rw[hk];simp
   show Bb _ _ _ _ _ _ _ _ _=_;unfold Bb;simp only[];rw[aU (by omega),bA,eN hg,aG (show PU N _ _ _ _ _ _=true from rfl),wr (by omega) (by omega)];show br (BJ n c o) (K ((pre.length:Int),n,c)) (vB N m (os,(os.length:Int),(pre.length:Int)+1,n,c) K k1 k2)=_;rw[ih,List.findIdx?_cons];cases BJ n c o with
   |true=>rw[bA];rfl
   |false=>
     rw[aM];simp only[EW,if_false];cases l.findIdx? (BJ n c)with
     |none=>rfl
     |some j=>
       simp only[kX,dO,eB,List.length_nil]
       congr 2
       omega
theorem o6{n:Int}{c:UInt8}{o:Int×(Int×(Int×UInt8))}(h:o.2.2.1=n->o.1=2->o.2.2.2≠c):BJ n c o=false:=by
 unfold BJ;by_cases h1:o.2.2.1=n
 .by_cases h2:o.1=2
  .rw[aX (h h1 h2),EX]
  .rw[aX h2,EX,jG]
 .rw[aX h1,jG,jG]
theorem a2b{k:Nat}{c:UInt8}(hk:k<3):opsL.findIdx? (BJ (k:Int) c)=(iI k c).map Int.toNat:=by
 match k,hk with
 |0,_=>
   by_cases h1:c=61
   .subst h1;rfl
   by_cases h2:c=60
   .subst h2;rfl
   have:iI 0 c=none:=by show(if c=61 then some (9:Int)else if c=60 then some 10 else none)=none;rw[aF h1,aF h2]
   rw[this,nZ,aIu];intro o ho;simp only[opsL,fA,IK,or_false]at ho;rcases ho with rfl|rfl|rfl|rfl|rfl|rfl|rfl|rfl|rfl|rfl|rfl <;>
   first|exact o6 (λh _=>absurd h (by decide))|exact o6 (λ_ h=>absurd h (by decide))|exact o6 (λ_ _ h=>h1 h.symm)|exact o6 (λ_ _ h=>h2 h.symm)
 |1,_=>
   by_cases h1:c=43
   .subst h1;rfl
   by_cases h2:c=45
   .subst h2;rfl
   have:iI 1 c=none:=by show(if c=43 then some (3:Int)else if c=45 then some 4 else none)=none;rw[aF h1,aF h2]
   rw[this,nZ,aIu];intro o ho;simp only[opsL,fA,IK,or_false]at ho;rcases ho with rfl|rfl|rfl|rfl|rfl|rfl|rfl|rfl|rfl|rfl|rfl <;>
   first|exact o6 (λh _=>absurd h (by decide))|exact o6 (λ_ h=>absurd h (by decide))|exact o6 (λ_ _ h=>h1 h.symm)|exact o6 (λ_ _ h=>h2 h.symm)
 |2,_=>
   by_cases h1:c=42
   .subst h1;rfl
   by_cases h2:c=47
   .subst h2;rfl
   have:iI 2 c=none:=by show(if c=42 then some (5:Int)else if c=47 then some 6 else none)=none;rw[aF h1,aF h2]
   rw[this,nZ,aIu];intro o ho;simp only[opsL,fA,IK,or_false]at ho;rcases ho with rfl|rfl|rfl|rfl|rfl|rfl|rfl|rfl|rfl|rfl|rfl <;>
   first|exact o6 (λh _=>absurd h (by decide))|exact o6 (λ_ h=>absurd h (by decide))|exact o6 (λ_ _ h=>h1 h.symm)|exact o6 (λ_ _ h=>h2 h.symm)
def Dl(k:Nat)(c:UInt8):Int:=(iI k c).getD (-1)
theorem YE{N k:Nat}{c:UInt8}(hN:12<=N)(hk:k<3):yK N opsL (k:Int) c=some (Dl k c,(k:Int),c):=by
 have:=YF (N:=N) (n:=(k:Int)) (c:=c) (K:=λy=>(λz4 z5 z6=>some (yL z4 z5 z6)) y.1 y.2.1 y.2.2) (k1:=λy=>(λz7 z8=>some (yL (-1) z7 z8)) y.1 y.2) (k2:=λ_=>none) opsL [] opsL N rfl (by simp;omega) (by simp);refine(bG (λz:O=>z.bind IX) this).trans ?_;rw[a2b hk];unfold Dl;cases ho:iI k c with
 |none=>rfl
 |some o=>
   have h0:0<=o:=by have:=(aGl ho).2.2;omega
   simp only[kX];rw[show(((([]:List (Int×(Int×(Int×UInt8)))).length+o.toNat:Nat):Int))=o by simp;omega];rfl
end Go.Proofs
/- The own reader: atoms, factors, levels, round by round. -/
namespace Go.Proofs
open Go Go.Ax Go.Ax.aA
abbrev Rs:=(Int×Int×List Ex×Tx×Int) ⊕ (Int×Tx×Int)
abbrev Rc:=(Tx->Int->Option Rs)×(Tx->Int->Option Rs)×(Int->Tx->Int->Option Rs)
def enc(s:Tx):Pr->Rs
 |.ok e t=>.inl (e.op,e.num,e.kids,s,at_ s t)
 |.bad b=>.inr (at_ s b,s,at_ s b)
section
variable{N:Nat}{c:UInt8}{s:Tx}{i j:Int}
theorem oX{r}(h:gN N c s i=some r):Af N c s i=true:=by unfold Af;rw[h];rfl
theorem xD(h:gN N c s i=some (.inl (s,j))):tQ N c s i=true:=by unfold tQ;rw[h];rfl
theorem xF(h:gN N c s i=some (.inl (s,j))):dC N c s i=s:=by unfold dC;rw[h];rfl
theorem xE(h:gN N c s i=some (.inl (s,j))):dB N c s i=j:=by unfold dB;rw[h];rfl
theorem OO(h:gN N c s i=some (.inr (j,s,j))):tQ N c s i=false:=by unfold tQ;rw[h];rfl
theorem ON(h:gN N c s i=some (.inr (j,s,j))):Ae N c s i=j:=by unfold Ae;rw[h];rfl
theorem OM(h:gN N c s i=some (.inr (j,s,j))):Ad N c s i=s:=by unfold Ad;rw[h];rfl
theorem OL(h:gN N c s i=some (.inr (j,s,j))):Ac N c s i=j:=by unfold Ac;rw[h];rfl
theorem sg{α:Type}{x d:α}:(some x).getD d=x:=rfl
theorem sm{α:Type}{x:α}:(some x).isSome=true:=rfl
theorem pV{e:Ex}{t:Tx}:kD (some (enc s (.ok e t)))=true:=rfl
theorem xL{b:Tx}:kD (some (enc s (.bad b)))=false:=rfl
theorem pX{e:Ex}{t:Tx}{d}:bC d (some (enc s (.ok e t)))=(e.op,e.num,e.kids,s,at_ s t):=rfl
theorem wW{b:Tx}{d}:c7 d (some (enc s (.bad b)))=(at_ s b,s,at_ s b):=rfl
theorem kE(e:Ex):Ex.mk e.op e.num e.kids=e:=by cases e;rfl
def PA(N:Nat)(V:Int->Tx->Int->Option Rs)(s:Tx)(i:Int):Pr->Prop
 |.ok e t3=>∃t t2,gN N 40 s i=some (.inl (s,at_ s t))/\V 1 s (at_ s t)=some (enc s (.ok e t2))/\gN N 41 s (at_ s t2)=some (.inl (s,at_ s t3))
 |.bad b=>gN N 40 s i=some (.inr (at_ s b,s,at_ s b))\/(∃t,gN N 40 s i=some (.inl (s,at_ s t))/\V 1 s (at_ s t)=some (enc s (.bad b))) \/
   ∃e t t2,gN N 40 s i=some (.inl (s,at_ s t))/\V 1 s (at_ s t)=some (enc s (.ok e t2))/\gN N 41 s (at_ s t2)=some (.inr (at_ s b,s,at_ s b))
end
theorem aHX{c:UInt8}(hl:eA c=true):bE c=false/\97<=c.toNat/\c.toNat<=122:=by
 unfold eA at hl;rw[bM]at hl;have h1:=xZ.1 (cR hl.1);have h2:=xZ.1 (cR hl.2);have h3:(97:UInt8).toNat=97:=rfl;have h4:(122:UInt8).toNat=122:=rfl;exact⟨a2y (by omega),by omega,by omega⟩
theorem OX{l:Tx}{c:UInt8}(h0:c≠0)(hh:(aQ l).head?≠some c):decide ((aQ l).headD 0=c)=false:=by
 cases hk:aQ l with
 |nil=>exact aX λe=>h0 e.symm
 |cons d t=>rw[hk]at hh;exact aX λe=>hh (by rw[<-e];rfl)
section
variable{N:Nat}{rc:Rc}{s l:Tx}(hs:s.length<2^62)(h:l <:+ s)(hN:s.length<N)
include hs h hN
theorem a3y{t:Tx}{c:UInt8}(hk:aQ l=c::t)(hd:bE c=true)(hr:lQ ((c::t).takeWhile bE)=true):pP (N,rc) s (at_ s l)=some (enc s (.ok (.mk 0 (mE ((c::t).takeWhile bE)) []) ((c::t).dropWhile bE))):=by
 have h':(c::t) <:+ s:=hk ▸ (eE l).trans h;have hz:=aXR hs h' hN hd hr;show(lL _ _ _:O).bind oM=_;unfold lL;simp only[];rw[aG (j6 hs h hN),j5 hs h hN,j4 hs h hN,j3 hs h hN,hk];have hdd:(decide (48<=(c::t).headD 0)&&decide ((c::t).headD 0<=57))=true:=hd;rw[hdd,bA,aG (show DQ N s (at_ s (c::t))=true by unfold DQ;rw[hz];rfl),show DU N s (at_ s (c::t))=true by unfold DU;rw[hz];rfl,bA];unfold UI UH UG UF UE;rw[hz];rfl
theorem a3x{t:Tx}{c:UInt8}(hk:aQ l=c::t)(hd:bE c=true)(hr:lQ ((c::t).takeWhile bE)=false):pP (N,rc) s (at_ s l)=some (enc s (.bad (c::t))):=by
 have h':(c::t) <:+ s:=hk ▸ (eE l).trans h;have hz:=aXS hs h' hN hd hr;show(lL _ _ _:O).bind oM=_;unfold lL;simp only[];rw[aG (j6 hs h hN),j5 hs h hN,j4 hs h hN,j3 hs h hN,hk];have hdd:(decide (48<=(c::t).headD 0)&&decide ((c::t).headD 0<=57))=true:=hd;rw[hdd,bA,aG (show DQ N s (at_ s (c::t))=true by unfold DQ;rw[hz];rfl),show DU N s (at_ s (c::t))=false by unfold DU;rw[hz];rfl,aM];unfold UL UK UJ;rw[hz];rfl
theorem a3v{t:Tx}{c:UInt8}(hk:aQ l=c::t)(hl:eA c=true):pP (N,rc) s (at_ s l)=some (enc s (.ok (.mk 1 ((c.toNat:Int)-97) []) t)):=by
 have h':(c::t) <:+ s:=hk ▸ (eE l).trans h;obtain⟨hd,h1,h2⟩:=aHX hl;show(lL _ _ _:O).bind oM=_;unfold lL;simp only[];rw[aG (j6 hs h hN),j5 hs h hN,j4 hs h hN,j3 hs h hN,hk];have hdd:(decide (48<=(c::t).headD 0)&&decide ((c::t).headD 0<=57))=false:=hd;have hll:(decide (97<=(c::t).headD 0)&&decide ((c::t).headD 0<=122))=true:=hl;rw[hdd,aM,hll,bA,oA h' hs];have hw:aB.wrap ((((c::t).headD 0-97).toNat:Nat):Int)=(c.toNat:Int)-97:=by
  have e:((c::t).headD 0-97).toNat=c.toNat-97:=by
   show(c-97).toNat=_;rw[UInt8.toNat_sub_of_le _ _ (xZ.2 (show(97:UInt8).toNat<=c.toNat from h1))];rfl
  rw[e,wr (by omega) (by omega)];omega
 rw[hw];rfl
theorem a3w{r:Pr}(hc:∀c,(aQ l).head?=some c->bE c=false/\eA c=false/\c≠82)(hp:PA N rc.2.2 s (at_ s (aQ l)) r):pP (N,rc) s (at_ s l)=some (enc s r):=by
 have cond:(decide (48<=(aQ l).headD 0)&&decide ((aQ l).headD 0<=57))=false/\(decide (97<=(aQ l).headD 0)&&decide ((aQ l).headD 0<=122))=false/\decide ((aQ l).headD 0=82)=false:=by
  cases hk:aQ l with
  |nil=>exact⟨rfl,rfl,rfl⟩
  |cons c t=>
    have:=hc c (by rw[hk];rfl);exact⟨this.1,this.2.1,aX this.2.2⟩
 show(lL _ _ _:O).bind oM=_;unfold lL;simp only[];rw[aG (j6 hs h hN),j5 hs h hN,j4 hs h hN,j3 hs h hN,cond.1,aM,cond.2.1,aM,cond.2.2,aM];cases r with
 |ok e t3=>
   obtain⟨t,t2,h1,h2,h3⟩:=hp;rw[aG (oX h1),xD h1,bA,xF h1,xE h1,h2,aG sm,pV,bA,pX];simp only[];rw[aG (oX h3),xD h3,bA,xF h3,xE h3];rfl
 |bad b=>
   rcases hp with h1|⟨t,h1,h2⟩|⟨e,t,t2,h1,h2,h3⟩
   .rw[aG (oX h1),OO h1,aM,ON h1,OM h1,OL h1]
    rfl
   .rw[aG (oX h1),xD h1,bA,xF h1,xE h1,h2,aG sm,xL,aM,wW]
    rfl
   .rw[aG (oX h1),xD h1,bA,xF h1,xE h1,h2,aG sm,pV,bA,pX]
    simp only[];rw[aG (oX h3),OO h3,aM,ON h3,OM h3,OL h3];rfl
theorem at_root{t:Tx}{r:Pr}(hk:aQ l=82::t)(hp:PA N rc.2.2 s (at_ s t) r):pP (N,rc) s (at_ s l)=some (enc s (r.map λe=>.mk 8 0 [e])):=by
 have h':(82::t) <:+ s:=hk ▸ (eE l).trans h;show(lL _ _ _:O).bind oM=_;unfold lL;simp only[];rw[aG (j6 hs h hN),j5 hs h hN,j4 hs h hN,j3 hs h hN,hk,
  show(decide (48<=((82::t:Tx)).headD 0)&&decide ((82::t:Tx).headD 0<=57))=false from rfl,aM,show(decide (97<=((82::t:Tx)).headD 0)&&decide ((82::t:Tx).headD 0<=122))=false from rfl,aM,show decide ((82::t:Tx).headD 0=82)=true from rfl,bA,oA h' hs]
 cases r with
 |ok e t3=>
   obtain⟨t,t2,h1,h2,h3⟩:=hp;rw[aG (oX h1),xD h1,bA,xF h1,xE h1,h2,aG sm,pV,bA,pX];simp only[];rw[aG (oX h3),xD h3,bA,xF h3,xE h3,kE];rfl
 |bad b=>
   rcases hp with h1|⟨t,h1,h2⟩|⟨e,t,t2,h1,h2,h3⟩
   .rw[aG (oX h1),OO h1,aM,ON h1,OM h1,OL h1]
    rfl
   .rw[aG (oX h1),xD h1,bA,xF h1,xE h1,h2,aG sm,xL,aM,wW]
    rfl
   .rw[aG (oX h1),xD h1,bA,xF h1,xE h1,h2,aG sm,pV,bA,pX]
    simp only[];rw[aG (oX h3),OO h3,aM,ON h3,OM h3,OL h3];rfl
theorem aHv{t:Tx}{r:Pr}(hk:aQ l=45::t)(hr:rc.2.1 s (at_ s t)=some (enc s r)):vC (N,rc) s (at_ s l)=some (enc s (r.map λe=>.mk 2 0 [e])):=by
 have h':(45::t) <:+ s:=hk ▸ (eE l).trans h;show(qT _ _ _:O).bind sI=_;unfold qT;simp only[];rw[aG (j6 hs h hN),j5 hs h hN,j4 hs h hN,j3 hs h hN,hk,show decide ((45::t:Tx).headD 0=45)=true from rfl,bA,oA h' hs,hr,aG sm];cases r with
 |ok e u=>rw[pV,bA,pX,kE];rfl
 |bad b=>rw[xL,aM,wW];rfl
theorem aHw{b:Tx}(hh:(aQ l).head?≠some 45)(hr:rc.1 s (at_ s (aQ l))=some (enc s (.bad b))):vC (N,rc) s (at_ s l)=some (enc s (.bad b)):=by
 show(qT _ _ _:O).bind sI=_;unfold qT;simp only[];rw[aG (j6 hs h hN),j5 hs h hN,j4 hs h hN,j3 hs h hN,OX (by decide) hh,aM,hr,aG sm,xL,aM,wW];rfl
theorem aHu{t:Tx}{e:Ex}(hh:(aQ l).head?≠some 45)(ht:t <:+ s)(hr:rc.1 s (at_ s (aQ l))=some (enc s (.ok e t)))(h2:(aQ t).head?≠some 94):vC (N,rc) s (at_ s l)=some (enc s (.ok e (aQ t))):=by
 show(qT _ _ _:O).bind sI=_;unfold qT;simp only[];rw[aG (j6 hs h hN),j5 hs h hN,j4 hs h hN,j3 hs h hN,OX (by decide) hh,aM,hr,aG sm,pV,bA,pX];simp only[];rw[aG (j6 hs ht hN),j5 hs ht hN,j4 hs ht hN,j3 hs ht hN,OX (by decide) h2,aM];rfl
theorem aHt{t t':Tx}{e:Ex}{r:Pr}(hh:(aQ l).head?≠some 45)(ht:t <:+ s)(hr:rc.1 s (at_ s (aQ l))=some (enc s (.ok e t)))(h2:aQ t=94::t')(hr':rc.2.1 s (at_ s t')=some (enc s r)):vC (N,rc) s (at_ s l)=some (enc s (r.map λf=>.mk 7 0 [e,f])):=by
 have h':(94::t') <:+ s:=h2 ▸ (eE t).trans ht;show(qT _ _ _:O).bind sI=_;unfold qT;simp only[];rw[aG (j6 hs h hN),j5 hs h hN,j4 hs h hN,j3 hs h hN,OX (by decide) hh,aM,hr,aG sm,pV,bA,pX];simp only[];rw[aG (j6 hs ht hN),j5 hs ht hN,j4 hs ht hN,j3 hs ht hN,h2,show decide ((94::t':Tx).headD 0=94)=true from rfl,bA,oA h' hs,hr',aG sm];cases r with
 |ok f u=>rw[pV,bA,pX,kE,kE];rfl
 |bad b=>rw[xL,aM,wW];rfl
end
end Go.Proofs
/- The own reader: what it does with any text. -/
namespace Go.Proofs
open Go Go.Ax Go.Ax.aA
def aID(K0:Tx×Int×Int×Int×List Ex->O)(K1:Int×Tx×Int->O)(s:Tx):Pr->O
 |.ok f t2=>K0 (s,at_ s t2,f.op,f.num,f.kids)
 |.bad b=>K1 (at_ s b,s,at_ s b)
def goK(k:Nat)(K0:Tx×Int×Int×Int×List Ex->O)(K1:Int×Tx×Int->O)(G:Ex->Tx->O)(s:Tx)(o:Int)(e:Ex):Pr->O
 |.ok f t2=>if k=0 then K0 (s,at_ s t2,o,0,[e,f])else G f t2
 |.bad b=>K1 (at_ s b,s,at_ s b)
section
variable{N:Nat}{rc:Rc}{s l:Tx}(hs:s.length<2^62)(h:l <:+ s)(hN:s.length<N)
include hs h hN
theorem a1I{k m:Nat}{e:Ex}{a b:Int}{K0:Tx×Int×Int×Int×List Ex->O}{K1:Int×Tx×Int->O}{K2:Unit->O}(hk:k<3)(h12:12<=N)(he:∀c,(aQ l).head?=some c->iI k c=none):
    pJ (N,rc) (m+1) (s,at_ s l,(k:Int),a,b,e.op,e.num,e.kids) K0 K1 K2=K0 (s,at_ s (aQ l),e.op,e.num,e.kids):=by
 show CD _ _ _ _ _ _ _ _ _ _ _ _=_;unfold CD;simp only[];have w:=YE (N:=N) (k:=k) (c:=(aQ l).headD 0) h12 hk;have ho:Dl k ((aQ l).headD 0) = -1:=by
  unfold Dl;cases hk':aQ l with
  |nil=>
    match k,hk with
    |0,_=>rfl
    |1,_=>rfl
    |2,_=>rfl
  |cons c t=>rw[show(c::t).headD 0=c from rfl,he c (by rw[hk'];rfl)];rfl
 rw[ho]at w;rw[aG (j6 hs h hN),j5 hs h hN,j4 hs h hN,j3 hs h hN];rw[aG (show Ba N opsL (k:Int) ((aQ l).headD 0)=true by unfold Ba;rw[w];rfl),show vA N opsL (k:Int) ((aQ l).headD 0) = -1 by unfold vA;rw[w];rfl];rfl
theorem WB{k m:Nat}{e:Ex}{a b o:Int}{c:UInt8}{t:Tx}{r:Pr}{K0:Tx×Int×Int×Int×List Ex->O}{K1:Int×Tx×Int->O}{K2:Unit->O}(hk:k<3)(h12:12<=N)(hl:aQ l=c::t)(ho:iI k c=some o)(hr:rc.2.2 ((k+1:Nat):Int) s (at_ s t)=some (enc s r)):
    pJ (N,rc) (m+1) (s,at_ s l,(k:Int),a,b,e.op,e.num,e.kids) K0 K1 K2=goK k K0 K1 (λf t2=>pJ (N,rc) m (s,at_ s t2,(k:Int),a,b,o,0,[e,f]) K0 K1 K2) s o e r:=by
 have h':(c::t) <:+ s:=hl ▸ (eE l).trans h;have w:=YE (N:=N) (k:=k) (c:=c) h12 hk;have oi:Dl k c=o:=by unfold Dl;rw[ho];rfl
 rw[oi]at w;have h0:0<=o:=by have:=(aGl ho).2.2;omega
 have hc:c≠0:=by
  rintro rfl
  match k,hk with
  |0,_=>cases ho
  |1,_=>cases ho
  |2,_=>cases ho
 show CD _ _ _ _ _ _ _ _ _ _ _ _=_;unfold CD;simp only[];rw[aG (j6 hs h hN),j5 hs h hN,j4 hs h hN,j3 hs h hN,hl,show(c::t).headD 0=c from rfl];rw[aG (show Ba N opsL (k:Int) c=true by unfold Ba;rw[w];rfl),show vA N opsL (k:Int) c=o by unfold vA;rw[w];rfl,show jH N opsL (k:Int) c=(k:Int)by unfold jH;rw[w];rfl,show IW N opsL (k:Int) c=c by unfold IW;rw[w];rfl];rw[aX (by omega),Bool.false_or,aX hc,aM,oA h' hs,wr (x:=(k:Int)+1) (by omega) (by omega),show(k:Int)+1=((k+1:Nat):Int)by omega,hr,aG sm];cases r with
 |bad b=>rw[xL,aM,wW];rfl
 |ok f t2=>
   rw[pV,bA,pX];simp only[];rw[kE,kE];by_cases hk0:k=0
   .rw[aU (by omega),bA];exact(aN hk0).symm
   .rw[aX (by omega),aM];exact(aF hk0).symm
end
theorem OS{N:Nat}{rc:Rc}{s l:Tx}{r:Pr}(hr:rc.2.1 s (at_ s l)=some (enc s r)):zE (N,rc) 3 s (at_ s l)=some (enc s r):=by
 show(vK _ _ _ _ _:O).bind vH=_;unfold vK;rw[show decide ((3:Int)=3)=true from rfl,bA];simp only[];rw[hr,aG sm];cases r with
 |ok e t=>rw[pV,bA,pX];rfl
 |bad b=>rw[xL,aM,wW];rfl
theorem a0y{N:Nat}{rc:Rc}{s l:Tx}{k:Nat}{b:Tx}(hk:k<3)(hr:rc.2.2 ((k+1:Nat):Int) s (at_ s l)=some (enc s (.bad b))):zE (N,rc) (k:Int) s (at_ s l)=some (enc s (.bad b)):=by
 show(vK _ _ _ _ _:O).bind vH=_;unfold vK;simp only[];rw[aX (by omega),aM,wr (x:=(k:Int)+1) (by omega) (by omega),show(k:Int)+1=((k+1:Nat):Int)by omega,hr,aG sm,xL,aM,wW];rfl
theorem a0x{N:Nat}{rc:Rc}{s l:Tx}{k:Nat}{t:Tx}{e:Ex}{r:Pr}(hk:k<3)(hr:rc.2.2 ((k+1:Nat):Int) s (at_ s l)=some (enc s (.ok e t)))
    (hlo:∀(K0:Tx×Int×Int×Int×List Ex->O)(K1:Int×Tx×Int->O)(K2:Unit->O),pJ (N,rc) N (s,at_ s t,(k:Int),0,0,e.op,e.num,e.kids) K0 K1 K2=aID K0 K1 s r):zE (N,rc) (k:Int) s (at_ s l)=some (enc s r):=by
 show(vK _ _ _ _ _:O).bind vH=_;unfold vK;simp only[];rw[aX (by omega),aM,wr (x:=(k:Int)+1) (by omega) (by omega),show(k:Int)+1=((k+1:Nat):Int)by omega,hr,aG sm,pV,bA,pX];simp only[];unfold QS;simp only[];rw[hlo];cases r with
 |ok f t2=>rfl
 |bad b=>rfl
theorem IA{N:Nat}{rc:Rc}{s l:Tx}(hs:s.length<2^62)(h:l <:+ s)(hN:s.length<N):pP (N,rc) s (at_ s (aQ l))=pP (N,rc) s (at_ s l):=by
 have h':=(eE l).trans h;show(lL _ _ _:O).bind oM=(lL _ _ _:O).bind oM;unfold lL;simp only[];rw[aG (j6 hs h hN),aG (j6 hs h' hN),j5 hs h hN,j4 hs h hN,j3 hs h hN,j5 hs h' hN,j4 hs h' hN,j3 hs h' hN,fB]
abbrev gT(N n:Nat):Rc:=gI N n
def Mot(N:Nat)(s:Tx):Kd->Tx->Pr->Prop
 |.pa,l,r=>∀n,8*l.length+1<=n->PA N (gT N n).2.2 s (at_ s l) r/\PA N (gT N n).2.2 s (at_ s (aQ l)) r
 |.at,l,r=>∀n,8*l.length+2<=n->(gT N n).1 s (at_ s l)=some (enc s r)/\(gT N n).1 s (at_ s (aQ l))=some (enc s r)
 |.lv k,l,r=>k<=3/\(∀n,8*l.length+7<=n+k->(gT N n).2.2 (k:Int) s (at_ s l)=some (enc s r))/\(k=3->∀n,8*l.length+3<=n->(gT N n).2.1 s (at_ s l)=some (enc s r))
 |.lo k e,l,r=>k<3/\∀n m a b K0 K1 K2,8*l.length<=n->l.length<m->pJ (N,gT N n) m (s,at_ s l,(k:Int),a,b,e.op,e.num,e.kids) K0 K1 K2=aID K0 K1 s r
theorem aZ7{N:Nat}{s:Tx}(hs:s.length<2^62)(hN:s.length<N)(h12:12<=N){k:Kd}{l:Tx}{r:Pr}(h:Rd k l r):l <:+ s->Mot N s k l r:=by
 induction h with
 |BC h1 h2 h3 ih=>
   intro hl;rename_i l t t2 t3 e;have hs1:=dM h1;have ht:=hs1.1.trans hl;have ht2:t2 <:+ s:=((kB h2).1:t2 <:+ t).trans ht;have hl':=(eE l).trans hl;intro n hn;have a:=(ih ht).2.1 n (by omega);have b:=Ah hs ht2 hN h3;exact⟨⟨t,t2,Ah hs hl hN h1,a,b⟩,⟨t,t2,Ah hs hl' hN (by rw[fB];exact h1),a,b⟩⟩
 |Dk h1=>
   intro hl;rename_i l;have hl':=(eE l).trans hl;intro n hn;have b:=UD hs hl' hN (by rw[fB];exact h1) (by decide);rw[fB]at b;exact⟨.inl (UD hs hl hN h1 (by decide)),.inl b⟩
 |Hc h1 h2 ih=>
   intro hl;rename_i l t b;have hs1:=dM h1;have ht:=hs1.1.trans hl;have hl':=(eE l).trans hl;intro n hn;have a:=(ih ht).2.1 n (by omega);exact⟨.inr (.inl ⟨t,Ah hs hl hN h1,a⟩),.inr (.inl ⟨t,Ah hs hl' hN (by rw[fB];exact h1),a⟩)⟩
 |Dj h1 h2 h3 ih=>
   intro hl;rename_i l t t2 e;have hs1:=dM h1;have ht:=hs1.1.trans hl;have ht2:t2 <:+ s:=((kB h2).1:t2 <:+ t).trans ht;have hl':=(eE l).trans hl;intro n hn;have a:=(ih ht).2.1 n (by omega);have b:=UD hs ht2 hN h3 (by decide);exact⟨.inr (.inr ⟨e,t,t2,Ah hs hl hN h1,a,b⟩),.inr (.inr ⟨e,t,t2,Ah hs hl' hN (by rw[fB];exact h1),a,b⟩)⟩
 |num h1 h2 h3=>
   intro hl n hn
   match n,hn with
   |n+1,hn=>
     have a:=a3y (rc:=gT N n) hs hl hN h1 h2 h3;exact⟨a,(IA hs hl hN).trans a⟩
 |He h1 h2 h3=>
   intro hl n hn
   match n,hn with
   |n+1,hn=>
     have a:=a3x (rc:=gT N n) hs hl hN h1 h2 h3;exact⟨a,(IA hs hl hN).trans a⟩
 |var h1 h2=>
   intro hl n hn
   match n,hn with
   |n+1,hn=>
     have a:=a3v (rc:=gT N n) hs hl hN h1 h2;exact⟨a,(IA hs hl hN).trans a⟩
 |root h1 h2 ih=>
   intro hl n hn;have hs1:=dM h1
   match n,hn with
   |n+1,hn=>
     have a:=at_root (rc:=gT N n) hs hl hN h1 (ih (hs1.1.trans hl) n (by omega)).1;exact⟨a,(IA hs hl hN).trans a⟩
 |par h1 h2 ih=>
   intro hl n hn
   match n,hn with
   |n+1,hn=>
     have a:=a3w (rc:=gT N n) hs hl hN h1 (ih hl n (by omega)).2;exact⟨a,(IA hs hl hN).trans a⟩
 |neg h1 h2 ih=>
   intro hl;have hs1:=dM h1;have i:=(ih (hs1.1.trans hl)).2.2 rfl;refine⟨by omega,λn hn=>?_,λ_ n hn=>?_⟩
   .match n,hn with
    |0,hn=>omega
    |1,hn=>omega
    |n+2,hn=>exact OS (rc:=gT N (n+1)) (aHv (rc:=gT N n) hs hl hN h1 (i n (by omega)))
   .match n,hn with
    |n+1,hn=>exact aHv (rc:=gT N n) hs hl hN h1 (i n (by omega))
 |IB h1 h2 ih=>
   intro hl;have i:=ih hl;refine⟨by omega,λn hn=>?_,λ_ n hn=>?_⟩
   .match n,hn with
    |0,hn=>omega
    |1,hn=>omega
    |n+2,hn=>exact OS (rc:=gT N (n+1)) (aHw (rc:=gT N n) hs hl hN h1 (i n (by omega)).2)
   .match n,hn with
    |n+1,hn=>exact aHw (rc:=gT N n) hs hl hN h1 (i n (by omega)).2
 |mH h1 h2 h3 ih=>
   intro hl;have i:=ih hl;have ht:_ <:+ s:=((kB h2).1:_ <:+ _).trans hl;refine⟨by omega,λn hn=>?_,λ_ n hn=>?_⟩
   .match n,hn with
    |0,hn=>omega
    |1,hn=>omega
    |n+2,hn=>exact OS (rc:=gT N (n+1)) (aHu (rc:=gT N n) hs hl hN h1 ht (i n (by omega)).2 h3)
   .match n,hn with
    |n+1,hn=>exact aHu (rc:=gT N n) hs hl hN h1 ht (i n (by omega)).2 h3
 |pow h1 h2 h3 h4 ih1 ih2=>
   intro hl;have i:=ih1 hl;have sf:=kB h2;have ht:_ <:+ s:=(sf.1:_ <:+ _).trans hl;have hlt:=sf.2 _ _ rfl;have hs3:=dM h3;have j:=(ih2 (hs3.1.trans ht)).2.2 rfl;simp only[Kd.str]at hlt;refine⟨by omega,λn hn=>?_,λ_ n hn=>?_⟩
   .match n,hn with
    |0,hn=>omega
    |1,hn=>omega
    |n+2,hn=>exact OS (rc:=gT N (n+1)) (aHt (rc:=gT N n) hs hl hN h1 ht (i n (by omega)).2 h3 (j n (by omega)))
   .match n,hn with
    |n+1,hn=>exact aHt (rc:=gT N n) hs hl hN h1 ht (i n (by omega)).2 h3 (j n (by omega))
 |Dt h0 h1 ih=>
   intro hl;have i:=(ih hl).2.1;refine⟨by omega,λn hn=>?_,λhk=>by omega⟩
   match n,hn with
   |0,hn=>omega
   |n+1,hn=>exact a0y (rc:=gT N n) h0 (i n (by omega))
 |uC h0 h1 h2 ih1 ih2=>
   intro hl;rename_i k l t e r;have i:=(ih1 hl).2.1;have sf:=kB h1;have ht:t <:+ s:=(sf.1:t <:+ l).trans hl;have hlt:=sf.2 _ _ rfl;have hle:=ht.length_le;have j:=(ih2 ht).2;simp only[Kd.str]at hlt;refine⟨by omega,λn hn=>?_,λhk=>by omega⟩
   match n,hn with
   |0,hn=>omega
   |n+1,hn=>exact a0x (rc:=gT N n) h0 (i n (by omega)) (λK0 K1 K2=>j n N 0 0 K0 K1 K2 (by omega) (by omega))
 |rP h0 h1=>
   intro hl;refine⟨h0,λn m a b K0 K1 K2 hn hm=>?_⟩
   match m,hm with
   |m+1,hm=>exact a1I hs hl hN h0 h12 h1
 |Dv h0 h1 h2 h3 ih=>
   intro hl;have hs1:=dM h1;have i:=(ih (hs1.1.trans hl)).2.1;refine⟨h0,λn m a b K0 K1 K2 hn hm=>?_⟩
   match m,hm with
   |m+1,hm=>exact WB hs hl hN h0 h12 h1 h2 (i n (by omega))
 |xI h0 h1 h2 h3 h4 h5 ih1 ih2=>
   intro hl;have hs1:=dM h1;have ht:=hs1.1.trans hl;rename_i k e f t t' t2 c o r;have i:=(ih1 ht).2.1;have sf:=kB h4;have ht2:t2 <:+ s:=(sf.1:t2 <:+ t').trans ht;have hlt:=sf.2 _ _ rfl;have j:=(ih2 ht2).2;simp only[Kd.str]at hlt;refine⟨h0,λn m a b K0 K1 K2 hn hm=>?_⟩
   match m,hm with
   |m+1,hm=>
     refine(WB hs hl hN h0 h12 h1 h2 (i n (by omega))).trans ?_;refine(aF h3).trans ?_;exact j n m a b K0 K1 K2 (by omega) (by omega)
 |BH h1 h2 h3 ih1=>
   intro hl;have hs1:=dM h1;have i:=(ih1 (hs1.1.trans hl)).2.1;refine⟨by omega,λn m a b K0 K1 K2 hn hm=>?_⟩
   match m,hm with
   |m+1,hm=>
     refine(WB (k:=0) hs hl hN (by omega) h12 h1 h2 (i n (by omega))).trans ?_;rfl
theorem aMt{N:Nat}{s:Tx}(hs:s.length<2^62)(hN:8*s.length+12<=N){r:Pr}(h:Rd (.lv 0) s r):(gT N N).2.2 0 s 0=some (enc s r):=by
 have:=(aZ7 (N:=N) hs (by omega) (by omega) h List.suffix_rfl).2.1 N (by omega);rw[XM]at this;exact this
end Go.Proofs
/- Parse: what it returns for any text. -/
namespace Go.Proofs
open Go Go.Ax Go.Ax.aA
def lC:Kd->Nat
 |.lo _ e=>aR e
 |_=>0
theorem Np{k:Kd}{l:Tx}{r:Pr}(h:Rd k l r):∀e t,r = .ok e t->aR e+t.length<=l.length+lC k:=by
 have one:∀(o:Int)(e:Ex),aR (.mk o 0 [e])=1+aR e:=λo e=>by simp[aR,c9]
 have two:∀(o:Int)(e f:Ex),aR (.mk o 0 [e,f])=1+(aR e+aR f):=λo e f=>by simp[aR,c9]
 have nul:∀(o n:Int),aR (.mk o n [])=1:=λo n=>by simp[aR,c9]
 induction h with
 |BC h1 _ h2 ih=>
   intro e t he;cases he;have:=ih _ _ rfl;have a:=dM h1;have b:=dM h2;simp only[lC]at this ⊢;omega
 |Dk _=>intro e t he;cases he
 |Hc _ _ _=>intro e t he;cases he
 |Dj _ _ _ _=>intro e t he;cases he
 |num h1 h2 _=>
   rename_i l t c _;intro e t' he;cases he;have a:=dM h1;rw[IM,aN h2,nul];have b:=(aII bE t).length_le;simp only[lC];omega
 |He _ _ _=>intro e t he;cases he
 |var h1 h2=>
   intro e t he;cases he;have a:=dM h1;rw[nul];simp only[lC];omega
 |root h1 _ ih=>
   intro e t he;obtain⟨e',he',rfl⟩:=Vt he;have:=ih _ _ he';have a:=dM h1;rw[one];simp only[lC]at this ⊢;omega
 |par _ _ ih=>exact ih
 |neg h1 _ ih=>
   intro e t he;obtain⟨e',he',rfl⟩:=Vt he;have:=ih _ _ he';have a:=dM h1;rw[one];simp only[lC]at this ⊢;omega
 |IB _ _ _=>intro e t he;cases he
 |mH _ _ _ ih=>
   rename_i l t e _ _ _;intro e' t' he;cases he;have:=ih _ _ rfl;have a:=(eE t).length_le;simp only[lC]at this ⊢;omega
 |pow _ _ h1 _ ih1 ih2=>
   intro e t he;obtain⟨e',he',rfl⟩:=Vt he;have a:=ih1 _ _ rfl;have b:=ih2 _ _ he';have c:=dM h1;rw[two];simp only[lC]at a b ⊢;omega
 |Dt _ _ _=>intro e t he;cases he
 |uC _ _ _ ih1 ih2=>
   intro e t he;have a:=ih1 _ _ rfl;have b:=ih2 _ _ he;simp only[lC]at a b ⊢;omega
 |rP _ _=>
   rename_i k e t _ _;intro e' t' he;cases he;have a:=(eE t).length_le;simp only[lC];omega
 |Dv _ _ _ _ _=>intro e t he;cases he
 |xI _ h1 _ _ _ _ ih1 ih2=>
   intro e t he;have a:=ih1 _ _ rfl;have b:=ih2 _ _ he;have c:=dM h1;simp only[lC,two]at a b ⊢;omega
 |BH h1 _ _ ih1=>
   intro e t he;cases he;have a:=ih1 _ _ rfl;have c:=dM h1;rw[two];simp only[lC]at a ⊢;omega
noncomputable def BA(s:Tx):Pr->Int×Int×List Ex×Int×Int
 |.bad b=>(0,0,[],at_ s b,2)
 |.ok e t=>if aQ t=[]then(if dJ e=0 then(e.op,e.num,e.kids,0,0)else(0,0,[],0,4))else(0,0,[],at_ s (aQ t),2)
theorem SY{N:Nat}(hN:70000<=N){s:Tx}(hs:s.length<=8192){r:Pr}(h:Rd (.lv 0) s r):jU N s=some (BA s r):=by
 have hv:(gI N N).2.2 0 s 0=some (enc s r):=aMt (by omega) (by omega) h;unfold jU;rw[aF (by omega),aN (show CC N 0 s 0=true by unfold CC;rw[hv];rfl)];cases r with
 |bad b=>
   rw[aF (show ¬ vJ N 0 s 0=true by unfold vJ;rw[hv];exact Bool.false_ne_true),show CB N 0 s 0=at_ s b by unfold CB;rw[hv];rfl];rfl
 |ok e t=>
   have ht:t <:+ s:=(kB h).1;have hsz:=Np h e t rfl;simp only[lC]at hsz;rw[aN (show vJ N 0 s 0=true by unfold vJ;rw[hv];rfl),show gF N 0 s 0=s by unfold gF;rw[hv];rfl,show gE N 0 s 0=at_ s t by unfold gE;rw[hv];rfl,
    show oE N 0 s 0=e.op by unfold oE;rw[hv];rfl,show oD N 0 s 0=e.num by unfold oD;rw[hv];rfl,show oC N 0 s 0=e.kids by unfold oC;rw[hv];rfl]
   rw[aN (j6 (by omega) ht (by omega)),j5 (by omega) ht (by omega),j4 (by omega) ht (by omega),j3 (by omega) ht (by omega),aN (show lX N s (at_ s (aQ t))=true from rfl),show lW N s (at_ s (aQ t))=at_ s (aQ t)from rfl,
    aN (Sx (by omega) (by omega)),Sw (by omega) (by omega)]
   have re:BA s (.ok e t)=if aQ t=[]then(if dJ e=0 then(e.op,e.num,e.kids,0,0)else(0,0,[],0,4))else(0,0,[],at_ s (aQ t),2):=rfl
   rw[re];cases hk:aQ t with
   |nil=>
     rw[aF (by rw[xX];simp),aN rfl];by_cases h0:dJ e=0
     .rw[aF (λh=>h h0),aN h0]
     .rw[aN h0,aF h0]
   |cons c u=>
     have h':(c::u) <:+ s:=hk ▸ (eE t).trans ht;rw[aN (.inr (qH h').2.2),aF (List.cons_ne_nil c u)]
theorem aCn{N:Nat}{s:Tx}(hs:8192<s.length):jU N s=some (0,0,[],0,4):=by
 unfold jU;rw[aN (by omega)]
section
variable{N:Nat}{s:Tx}{d:Int×Int×List Ex×Int×Int}(h:jU N s=some d)
include h
theorem aCm:Ll N s=true:=by unfold Ll;rw[h];rfl
theorem aCl:vW N s=d.1:=by unfold vW;rw[h];rfl
theorem aCk:vV N s=d.2.1:=by unfold vV;rw[h];rfl
theorem aCj:vU N s=d.2.2.1:=by unfold vU;rw[h];rfl
theorem aCi:s9 N s=d.2.2.2.2:=by unfold s9;rw[h];rfl
end
theorem aGg{N:Nat}(hN:70000<=N)(s:Tx):∃d,jU N s=some d/\(d.2.2.2.2=0->∃e t,Rd (.lv 0) s (.ok e t)/\aQ t=[]/\dJ e=0/\d=(e.op,e.num,e.kids,0,0)/\s.length<=8192/\aR e<=s.length)/\(∃e:Ex,d.1=e.op/\d.2.1=e.num/\d.2.2.1=e.kids/\aR e<=8193):=by
 by_cases hs:s.length<=8192
 .obtain⟨r,hr⟩:=aG8 s.length s (Nat.le_refl _) (.lv 0) (λm h=>by cases h;omega) (λm e h=>by cases h)
  refine⟨_,SY hN hs hr,?_⟩;cases r with
  |bad b=>exact⟨λh=>absurd h (show ¬ (2:Int)=0 by decide),.mk 0 0 [],rfl,rfl,rfl,by simp[aR,c9]⟩
  |ok e t=>
    have re:BA s (.ok e t)=if aQ t=[]then(if dJ e=0 then(e.op,e.num,e.kids,0,0)else(0,0,[],0,4))else(0,0,[],at_ s (aQ t),2):=rfl
    have hz:=Np hr e t rfl;simp only[lC]at hz;rw[re];by_cases h1:aQ t=[]
    .rw[aN h1]
     by_cases h2:dJ e=0
     .rw[aN h2];exact⟨λ_=>⟨e,t,hr,h1,h2,rfl,hs,by omega⟩,e,rfl,rfl,rfl,by omega⟩
     .rw[aF h2];exact⟨λh=>absurd h (show ¬ (4:Int)=0 by decide),.mk 0 0 [],rfl,rfl,rfl,by simp[aR,c9]⟩
    .rw[aF h1];exact⟨λh=>absurd h (show ¬ (2:Int)=0 by decide),.mk 0 0 [],rfl,rfl,rfl,by simp[aR,c9]⟩
 .exact⟨_,aCn (by omega),λh=>absurd h (show ¬ (4:Int)=0 by decide),.mk 0 0 [],rfl,rfl,rfl,by simp[aR,c9]⟩
theorem aZ1{N:Nat}(hN:70000<=N){s t:Tx}{e:Ex}(hs:s.length<=8192)(h:Rd (.lv 0) s (.ok e t))(ht:aQ t=[])(hv:dJ e=0):jU N s=some (e.op,e.num,e.kids,0,0):=by
 rw[SY hN hs h];show some (if aQ t=[]then(if dJ e=0 then(e.op,e.num,e.kids,0,0)else(0,0,[],0,4))else(0,0,[],at_ s (aQ t),2))=_;rw[aN ht,aN hv]
end Go.Proofs
