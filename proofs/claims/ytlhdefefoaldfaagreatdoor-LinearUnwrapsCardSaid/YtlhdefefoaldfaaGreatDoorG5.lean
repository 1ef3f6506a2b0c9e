/- The own reader. Conditions are in the theorems. -/
import Derived.Test.YtlhdefefoaldfaaGreatDoorG4
import Derived.Test.YtlhdefefoaldfaaGreatDoorF1
import Derived.Test.YtlhdefefoaldfaaGreatDoorF5
import Derived.Test.YtlhdefefoaldfaaGreatDoorG1
open Bool renaming and_eq_true->bM,and_false->Fj,false_and->iU,false_eq_true->Fi,not_false->gX,true_and->iE
open Go.IntKind renaming i64->aC
open Int renaming toNat_natCast->nC
open List renaming dropWhile_cons->Jw,findIdx?_eq_none_iff->aMs,foldl_cons->aMr,length_append->dK,length_cons->dD,mem_cons->eP,mem_cons_of_mem->eY,mem_cons_self->gN,not_mem_nil->Jv
open Option renaming map_none->oN,map_some->lG
open UInt8 renaming le_iff_toNat_le->zF
/- The own reader: what it sees, what it needs, numerals, operations. -/
namespace Go.Proofs
open Go Go.Ax Go.Ax.aA
def at_(s l:Tx):Int:=((s.length-l.length:Nat):Int)
theorem rC{s t:Tx}{c:UInt8}(h:(c::t) <:+ s):s[s.length-(c::t).length]?=some c/\at_ s t=at_ s (c::t)+1/\at_ s (c::t)<(s.length:Int):=by
 obtain⟨p,rfl⟩:=h;unfold at_;refine⟨?_,?_,?_⟩
 .simp
 .simp only[dK,dD];omega
 .simp only[dK,dD];omega
theorem zD{s:Tx}:at_ s []=(s.length:Int):=rfl
theorem aA0{s:Tx}:at_ s s=0:=by unfold at_;simp
theorem aM4{s l:Tx}:0<=at_ s l/\at_ s l<=(s.length:Int):=by unfold at_;omega
theorem Ix{s t:Tx}{c:UInt8}(h:(c::t) <:+ s):t <:+ s:=(List.suffix_cons c t).trans h
theorem pS{s t:Tx}{c:UInt8}(h:(c::t) <:+ s)(k:UInt8->O):gx s (at_ s (c::t)) k=k c:=dO (rC h).1 k
theorem oS{s t:Tx}{c:UInt8}(h:(c::t) <:+ s)(hs:s.length<2^62):aC.wrap (at_ s (c::t)+1)=at_ s t:=by
 have a:=rC h;have b:=aM4 (s:=s) (l:=t);rw[<-a.2.1];exact wr (by omega) (by omega)
theorem aCr{N:Nat}{s:Tx}{K:Tx×Int->O}{k1 k2:Unit->O}(hs:s.length<2^62):∀(l:Tx)(m:Nat),l <:+ s->l.length<m->AM N m (s,at_ s l) K k1 k2=K (s,at_ s (aU l))
 |_,0,_,h=>by omega
 |[],m+1,_,_=>by
   show Cs _ _ _ _ _=_;unfold Cs;simp only[];rw[zD,aR (by omega),qX,iU,aK];rfl
 |c::t,m+1,h,hm=>by
   have a:=rC h;show Cs _ _ _ _ _=_;unfold Cs;simp only[];rw[aQ a.2.2,pT,pS h,iE];by_cases hc:c=32
   .rw[aQ hc,aX,oS h hs,aU,aJ hc]
    exact aCr hs t m (Ix h) (by simp at hm;omega)
   .rw[aR hc,aK,aU,aD hc]
theorem LL{N:Nat}{s l:Tx}(hs:s.length<2^62)(h:l <:+ s)(hN:s.length<N):AK N s (at_ s l)=some ((aU l).headD 0,s,at_ s (aU l)):=by
 have hl:=h.length_le;have:=aCr (N:=N) (K:=λy=>(λz4 z5=>br (decide (z5=(z4.length:Int))) (some (AL 0 z4 z5)) (gx z4 z5 λy6=>some (AL y6 z4 z5))) y.1 y.2) (k1:=λ_=>none) (k2:=λ_=>none) hs l N h (by omega);refine(bE (λz:O=>z.bind LJ) this).trans ?_;simp only[];have h':=(eK l).trans h;cases hk:aU l with
 |nil=>rw[zD,aQ rfl,aX];rfl
 |cons c t=>
   rw[hk]at h';have a:=rC h';rw[aR (by omega),aK,pS h'];rfl
section
variable{N:Nat}{s l:Tx}(hs:s.length<2^62)(h:l <:+ s)(hN:s.length<N)
include hs h hN
theorem kF:qB N s (at_ s l)=true:=by unfold qB;rw[LL hs h hN];rfl
theorem kE:eQ N s (at_ s l)=(aU l).headD 0:=by unfold eQ;rw[LL hs h hN];rfl
theorem kD:aP N s (at_ s l)=s:=by unfold aP;rw[LL hs h hN];rfl
theorem kC:aN N s (at_ s l)=at_ s (aU l):=by unfold aN;rw[LL hs h hN];rfl
end
theorem aCk{N:Nat}{s:Tx}{i:Int}:mH N s i=true:=rfl
theorem aQ0{N:Nat}{s:Tx}{i:Int}:mG N s i=i:=rfl
theorem aQZ{N:Nat}{s:Tx}{i:Int}:rS N s i=s:=rfl
theorem aQY{N:Nat}{s:Tx}{i:Int}:rR N s i=i:=rfl
section
variable{N:Nat}{s l:Tx}(hs:s.length<2^62)(h:l <:+ s)(hN:s.length<N){c:UInt8}
include hs h hN
theorem B9{t:Tx}(hk:aU l=c::t):gY N c s (at_ s l)=some (.inl (s,at_ s t)):=by
 have h':(c::t) <:+ s:=hk ▸ (eK l).trans h;show(E7 _ _ _ _:O).bind B3=_;unfold E7;rw[aI (kF hs h hN),kE hs h hN,kD hs h hN,kC hs h hN,hk,aR (by simp),aK,oS h' hs];rfl
theorem X2(hk:(aU l).head?≠some c)(h0:c≠0):gY N c s (at_ s l)=some (.inr (at_ s (aU l),s,at_ s (aU l))):=by
 show(E7 _ _ _ _:O).bind B3=_;unfold E7;rw[aI (kF hs h hN),kE hs h hN,kD hs h hN,kC hs h hN,aQ,aX,aI aCk,aQ0,aQZ,aQY]
 .rfl
 .cases hk':aU l with
  |nil=>exact λh=>h0 h.symm
  |cons d t=>rw[hk']at hk;exact λh=>hk (by rw[<-h];rfl)
end
theorem Xe{N:Nat}{s:Tx}{i a b:Int}{K:Int×Tx×Int×Int×Int->O}{k1 k2:Unit->O}(hs:s.length<2^62):∀(l:Tx)(m:Nat),l <:+ s->l.length<m->Ba N m (at_ s l,s,i,a,b) K k1 k2=K (at_ s (l.dropWhile bG),s,i,a,b)
 |_,0,_,h=>by omega
 |[],m+1,_,_=>by
   show Ed _ _ _ _ _ _ _ _=_;unfold Ed;simp only[];rw[zD,aR (by omega),qX,iU,qX,iU,aK];rfl
 |c::t,m+1,h,hm=>by
   have ha:=rC h;have ih:=Xe (N:=N) (i:=i) (a:=a) (b:=b) (K:=K) (k1:=k1) (k2:=k2) hs t m (Ix h) (by simp at hm;omega);show Ed _ _ _ _ _ _ _ _=_;unfold Ed;simp only[];rw[aQ ha.2.2,pT,pS h,iE];rw[Jw];cases h1:decide (48<=c)with
   |false=>
     have hn:¬ bG c=true:=by unfold bG;rw[h1];simp
     rw[qX,iU,aK,aD hn]
   |true=>
     rw[pT,pS h,iE];cases h2:decide (c<=57)with
     |false=>
       have hn:¬ bG c=true:=by unfold bG;rw[h2];simp
       rw[aK,aD hn]
     |true=>
       have hn:bG c=true:=by unfold bG;rw[h1,h2];rfl
       rw[aX,aJ hn,oS h hs];exact ih
theorem aKB{s l:Tx}(h:l <:+ s):dX s.length (some (at_ s l)) (some (at_ s (l.dropWhile bG)))=true/\c8 s (some (at_ s l)) (some (at_ s (l.dropWhile bG)))=l.takeWhile bG:=by
 obtain⟨p,rfl⟩:=h;have e:=List.takeWhile_append_dropWhile (p:=bG) (l:=l);generalize l.takeWhile bG=a at e;generalize l.dropWhile bG=b at e;subst e;unfold at_ c8 dX;have e1:(p++(a++b)).length-(a++b).length=p.length:=by simp
 have e2:(p++(a++b)).length-b.length=p.length+a.length:=by simp only[dK];omega
 rw[e1,e2];refine⟨aQ ?_,?_⟩
 .simp only[dK];omega
 .show((p++(a++b)).take ((p.length+a.length:Nat):Int).toNat).drop ((p.length:Nat):Int).toNat=a
  rw[nC,nC,<-List.append_assoc,<-dK,List.take_left,List.drop_left]
theorem a8p{l:Tx}:∀acc:Nat,(∀c∈l,bG c=true)->Lib.decFrom acc l=some (l.foldl (λn c=>10*n+(c.toNat-48)) acc):=by
 induction l with
 |nil=>intro acc _;rfl
 |cons c l ih=>
   intro acc h;have hc:=CK (h c (gN ..));unfold Lib.decFrom Lib.digitVal;rw[aJ hc];simp only[];rw[ih _ (λd hd=>h d (eY _ hd)),aMr,Nat.mul_comm]
theorem foldI{l:Tx}:∀acc:Nat,(∀c∈l,bG c=true)->((l.foldl (λn c=>10*n+(c.toNat-48)) acc:Nat):Int)=l.foldl (λn c=>10*n+((c.toNat:Int)-48)) (acc:Int):=by
 induction l with
 |nil=>intro acc _;rfl
 |cons c l ih=>
   intro acc h;have hc:=CK (h c (gN ..));rw[aMr,aMr,ih _ (λd hd=>h d (eY _ hd))]
   congr 1
   omega
theorem a9d{l:Tx}(hne:l≠[])(h:∀c∈l,bG c=true):Lib.atoi l=some (mS l):=by
 cases l with
 |nil=>exact absurd rfl hne
 |cons c t=>
   have hc:=CK (h c (gN ..));have n1:(c == 45)=false:=beq_eq_false_iff_ne.2 (yI (by show c.toNat≠45;omega));have n2:(c == 43)=false:=beq_eq_false_iff_ne.2 (yI (by show c.toNat≠43;omega));simp only[Lib.atoi,n1,n2,Lib.decNat,List.isEmpty_cons,Fi,if_false,a8p 0 h,lG];rw[foldI 0 h];rfl
theorem a41(l:Tx):∀c∈l.takeWhile bG,bG c=true:=λc hc=>List.all_eq_true.1 (List.all_takeWhile (p:=bG) (l:=l)) c hc
theorem Yc{c:UInt8}{t:Tx}(h:bG c=true):(c::t).takeWhile bG=c::t.takeWhile bG:=by rw[List.takeWhile_cons,aJ h]
section
variable{N:Nat}{s t:Tx}{c:UInt8}(hs:s.length<2^62)(h:(c::t) <:+ s)(hN:s.length<N)(hd:bG c=true)
include hs h hN hd
theorem a2o(hr:mB ((c::t).takeWhile bG)=true):lZ N s (at_ s (c::t))=some (.inl (0,mS ((c::t).takeWhile bG),[],s,at_ s ((c::t).dropWhile bG))):=by
 have hl:=h.length_le;have lp:=Xe (N:=N) (i:=at_ s (c::t)) (a:=0) (b:=0) (K:=λy=>(λz7 z8 z9 z10 z11=>
     ck (dX z8.length (some z9) (some z7))<|
     E9 N z7 (c8 z8 (some z9) (some z7)) z8 z9 z10 z11
      (λz16 z17 z18=>some (nW z16 z17 z18))
      (λz19 z20 z21 z22 _ _=>
       ck (uP N z20)<|
       br false
        (ck (mH N z21 z22) <|some (nW (mG N z21 z22) (rS N z21 z22) (rR N z21 z22)))
        (some (xN 0 (B2 N z20) [] z21 z19)))) y.1 y.2.1 y.2.2.1 y.2.2.2.1 y.2.2.2.2) (k1:=λ_=>none) (k2:=λ_=>none) hs (c::t) N h (by omega)
 refine(bE (λz:O=>z.bind uV) lp).trans ?_;simp only[];have sl:=aKB h;have ai:=a9d (l:=(c::t).takeWhile bG) (by rw[Yc hd];simp) (a41 _);unfold mB at hr;rw[bM]at hr;have h6:=cU hr.1;have h1:=hr.2;have hp:uP N ((c::t).takeWhile bG)=true:=by
  unfold uP;rw[aQ (by omega),ai];rfl
 have hy:B2 N ((c::t).takeWhile bG)=mS ((c::t).takeWhile bG):=by unfold B2;rw[ai];rfl
 rw[aI sl.1,sl.2];unfold E9 Ea Pq;simp only[];rw[aR (by omega),gX,iE];generalize(c::t).takeWhile bG=run at *
 have goal:∀b:Bool,b=false->((br b (ck (mH N s (at_ s (c::t))) <|some (nW (mG N s (at_ s (c::t))) (rS N s (at_ s (c::t))) (rR N s (at_ s (c::t)))))
     (ck (uP N run) <|br false (ck (mH N s (at_ s (c::t))) <|some (nW (mG N s (at_ s (c::t))) (rS N s (at_ s (c::t))) (rR N s (at_ s (c::t))))) (some (xN 0 (B2 N run) [] s (at_ s ((c::t).dropWhile bG))))):O)).bind uV=some (.inl (0,mS run,[],s,at_ s ((c::t).dropWhile bG))):=λb hb=>by
  rw[hb,aK,aI hp,aK,hy];rfl
 cases run with
 |nil=>rw[aR (by simp),qX];exact goal _ rfl
 |cons d r=>
   cases hl1:decide ((1:Int)<((d::r).length:Int))with
   |false=>rw[qX];exact goal _ rfl
   |true=>
     rw[pT,sR];refine goal _ ?_;have:decide (1<(d::r).length)=true:=aQ (by have:=cU hl1;omega);rw[this,iE]at h1;simpa using h1
theorem a2p(hr:mB ((c::t).takeWhile bG)=false):lZ N s (at_ s (c::t))=some (.inr (at_ s (c::t),s,at_ s (c::t))):=by
 have hl:=h.length_le;have lp:=Xe (N:=N) (i:=at_ s (c::t)) (a:=0) (b:=0) (K:=λy=>(λz7 z8 z9 z10 z11=>
     ck (dX z8.length (some z9) (some z7))<|
     E9 N z7 (c8 z8 (some z9) (some z7)) z8 z9 z10 z11
      (λz16 z17 z18=>some (nW z16 z17 z18))
      (λz19 z20 z21 z22 _ _=>
       ck (uP N z20)<|
       br false
        (ck (mH N z21 z22) <|some (nW (mG N z21 z22) (rS N z21 z22) (rR N z21 z22)))
        (some (xN 0 (B2 N z20) [] z21 z19)))) y.1 y.2.1 y.2.2.1 y.2.2.2.1 y.2.2.2.2) (k1:=λ_=>none) (k2:=λ_=>none) hs (c::t) N h (by omega)
 refine(bE (λz:O=>z.bind uV) lp).trans ?_;simp only[];have sl:=aKB h;rw[aI sl.1,sl.2];unfold E9 Ea Pq;simp only[];unfold mB at hr;have hne:(c::t).takeWhile bG=c::t.takeWhile bG:=Yc hd;rw[hne]at hr ⊢;generalize c::t.takeWhile bG=run at *
 have goal:∀(b:Bool)(X:O),b=true->((br b (ck (mH N s (at_ s (c::t))) <|some (nW (mG N s (at_ s (c::t))) (rS N s (at_ s (c::t))) (rR N s (at_ s (c::t))))) X:O)).bind uV=some (.inr (at_ s (c::t),s,at_ s (c::t))):=λb X hb=>by
  rw[hb,aX,aI aCk];rfl
 cases run with
 |nil=>simp at hr
 |cons d r=>
   cases h6:decide ((6:Int)<((d::r).length:Int))with
   |true=>rw[Bool.not_true,iU,qX];exact goal _ _ rfl
   |false=>
     rw[aQ (by have:=of_decide_eq_false h6;omega),iE]at hr;cases h1:decide (1<(d::r).length)with
     |false=>rw[h1]at hr;simp at hr
     |true=>
       rw[h1]at hr;rw[aQ (by have:=cU h1;omega),gX,iE,pT,sR];refine goal _ _ ?_;simpa using hr
end
abbrev opsL:List (Int×(Int×(Int×UInt8))):=[(0,999999,4,0),(0,25,4,0),(1,0,3,45),(2,0,1,43),(2,0,1,45),(2,0,2,42),(2,0,2,47),(2,0,3,94),(1,0,4,82),(2,0,0,61),(2,0,0,60)]
def CB(n:Int)(c:UInt8)(o:Int×(Int×(Int×UInt8))):Bool:=decide (o.2.2.1=n)&&decide (o.1=2)&&decide (o.2.2.2=c)
theorem aBW{N:Nat}{n:Int}{c:UInt8}{K:Int×Int×UInt8->O}{k1:Int×UInt8->O}{k2:Unit->O}:∀(l pre os:List (Int×(Int×(Int×UInt8))))(m:Nat),os=pre++l->l.length<m->os.length<2^62->
    wG N m (os,(os.length:Int),(pre.length:Int),n,c) K k1 k2=match l.findIdx? (CB n c)with|some j=>K (((pre.length+j:Nat):Int),n,c)|none=>k1 (n,c)
 |_,_,_,0,_,h,_=>by omega
 |[],pre,os,m+1,hk,_,_=>by
   show C3 _ _ _ _ _ _ _ _ _=_;unfold C3;simp only[];subst hk;rw[aR (by simp),aK];rfl
 |o::l,pre,os,m+1,hk,hm,h2=>by
   have hl:os.length=pre.length+(l.length+1):=by rw[hk];simp
   have ih:=aBW (N:=N) (n:=n) (c:=c) (K:=K) (k1:=k1) (k2:=k2) l (pre++[o]) os m (by rw[hk];simp) (by simp at hm;omega) h2;rw[show((pre++[o]).length:Int)=(pre.length:Int)+1 by simp]at ih;have hg:os[pre.length]?=some o:=by rw[hk];simp
   show C3 _ _ _ _ _ _ _ _ _=_;unfold C3;simp only[];rw[aQ (by omega),aX,dO hg,aI (show SP N _ _ _ _ _ _=true from rfl),wr (by omega) (by omega)];show br (CB n c o) (K ((pre.length:Int),n,c)) (wG N m (os,(os.length:Int),(pre.length:Int)+1,n,c) K k1 k2)=_;rw[ih,List.findIdx?_cons];cases CB n c o with
   |true=>rw[aX];rfl
   |false=>
     rw[aK];simp only[Fi,if_false];cases l.findIdx? (CB n c)with
     |none=>rfl
     |some j=>
       simp only[lG,dK,dD,List.length_nil]
       congr 2
       omega
theorem pR{n:Int}{c:UInt8}{o:Int×(Int×(Int×UInt8))}(h:o.2.2.1=n->o.1=2->o.2.2.2≠c):CB n c o=false:=by
 unfold CB;by_cases h1:o.2.2.1=n
 .by_cases h2:o.1=2
  .rw[aR (h h1 h2),Fj]
  .rw[aR h2,Fj,iU]
 .rw[aR h1,iU,iU]
theorem a8S{k:Nat}{c:UInt8}(hk:k<3):opsL.findIdx? (CB (k:Int) c)=(iR k c).map Int.toNat:=by
 match k,hk with
 |0,_=>
   by_cases h1:c=61
   .subst h1;rfl
   by_cases h2:c=60
   .subst h2;rfl
   have:iR 0 c=none:=by show(if c=61 then some (9:Int)else if c=60 then some 10 else none)=none;rw[aD h1,aD h2]
   rw[this,oN,aMs];intro o ho;simp only[opsL,eP,Jv,or_false]at ho;rcases ho with rfl|rfl|rfl|rfl|rfl|rfl|rfl|rfl|rfl|rfl|rfl <;>
   first|exact pR (λh _=>absurd h (by decide))|exact pR (λ_ h=>absurd h (by decide))|exact pR (λ_ _ h=>h1 h.symm)|exact pR (λ_ _ h=>h2 h.symm)
 |1,_=>
   by_cases h1:c=43
   .subst h1;rfl
   by_cases h2:c=45
   .subst h2;rfl
   have:iR 1 c=none:=by show(if c=43 then some (3:Int)else if c=45 then some 4 else none)=none;rw[aD h1,aD h2]
   rw[this,oN,aMs];intro o ho;simp only[opsL,eP,Jv,or_false]at ho;rcases ho with rfl|rfl|rfl|rfl|rfl|rfl|rfl|rfl|rfl|rfl|rfl <;>
   first|exact pR (λh _=>absurd h (by decide))|exact pR (λ_ h=>absurd h (by decide))|exact pR (λ_ _ h=>h1 h.symm)|exact pR (λ_ _ h=>h2 h.symm)
 |2,_=>
   by_cases h1:c=42
   .subst h1;rfl
   by_cases h2:c=47
   .subst h2;rfl
   have:iR 2 c=none:=by show(if c=42 then some (5:Int)else if c=47 then some 6 else none)=none;rw[aD h1,aD h2]
   rw[this,oN,aMs];intro o ho;simp only[opsL,eP,Jv,or_false]at ho;rcases ho with rfl|rfl|rfl|rfl|rfl|rfl|rfl|rfl|rfl|rfl|rfl <;>
   first|exact pR (λh _=>absurd h (by decide))|exact pR (λ_ h=>absurd h (by decide))|exact pR (λ_ _ h=>h1 h.symm)|exact pR (λ_ _ h=>h2 h.symm)
def FF(k:Nat)(c:UInt8):Int:=(iR k c).getD (-1)
theorem aBV{N k:Nat}{c:UInt8}(hN:12<=N)(hk:k<3):zT N opsL (k:Int) c=some (FF k c,(k:Int),c):=by
 have:=aBW (N:=N) (n:=(k:Int)) (c:=c) (K:=λy=>(λz4 z5 z6=>some (zU z4 z5 z6)) y.1 y.2.1 y.2.2) (k1:=λy=>(λz7 z8=>some (zU (-1) z7 z8)) y.1 y.2) (k2:=λ_=>none) opsL [] opsL N rfl (by simp;omega) (by simp);refine(bE (λz:O=>z.bind KE) this).trans ?_;rw[a8S hk];unfold FF;cases ho:iR k c with
 |none=>rfl
 |some o=>
   have h0:0<=o:=by have:=(aKc ho).2.2;omega
   simp only[lG];rw[show(((([]:List (Int×(Int×(Int×UInt8)))).length+o.toNat:Nat):Int))=o by simp;omega];rfl
end Go.Proofs
/- The own reader: atoms, factors, levels, round by round. -/
namespace Go.Proofs
open Go Go.Ax Go.Ax.aA
abbrev Rs:=(Int×Int×List Ex×Tx×Int) ⊕ (Int×Tx×Int)
abbrev Rc:=(Tx->Int->Option Rs)×(Tx->Int->Option Rs)×(Int->Tx->Int->Option Rs)
def enc(s:Tx):Pr->Rs
 |.ok e t=>.inl (e.op,e.num,e.kids,s,at_ s t)
 |.bad b=>.inr (at_ s b,s,at_ s b)
section
variable{N:Nat}{c:UInt8}{s:Tx}{i j:Int}
theorem pO{r}(h:gY N c s i=some r):B7 N c s i=true:=by unfold B7;rw[h];rfl
theorem yJ(h:gY N c s i=some (.inl (s,j))):uU N c s i=true:=by unfold uU;rw[h];rfl
theorem yL(h:gY N c s i=some (.inl (s,j))):dM N c s i=s:=by unfold dM;rw[h];rfl
theorem yK(h:gY N c s i=some (.inl (s,j))):dL N c s i=j:=by unfold dL;rw[h];rfl
theorem Qx(h:gY N c s i=some (.inr (j,s,j))):uU N c s i=false:=by unfold uU;rw[h];rfl
theorem Qw(h:gY N c s i=some (.inr (j,s,j))):B6 N c s i=j:=by unfold B6;rw[h];rfl
theorem Qv(h:gY N c s i=some (.inr (j,s,j))):B5 N c s i=s:=by unfold B5;rw[h];rfl
theorem Qu(h:gY N c s i=some (.inr (j,s,j))):B4 N c s i=j:=by unfold B4;rw[h];rfl
theorem sg{α:Type}{x d:α}:(some x).getD d=x:=rfl
theorem sm{α:Type}{x:α}:(some x).isSome=true:=rfl
theorem qQ{e:Ex}{t:Tx}:kM (some (enc s (.ok e t)))=true:=rfl
theorem yR{b:Tx}:kM (some (enc s (.bad b)))=false:=rfl
theorem qR{e:Ex}{t:Tx}{d}:aV d (some (enc s (.ok e t)))=(e.op,e.num,e.kids,s,at_ s t):=rfl
theorem yA{b:Tx}{d}:dF d (some (enc s (.bad b)))=(at_ s b,s,at_ s b):=rfl
theorem kN(e:Ex):Ex.mk e.op e.num e.kids=e:=by cases e;rfl
def Ru(N:Nat)(V:Int->Tx->Int->Option Rs)(s:Tx)(i:Int):Pr->Prop
 |.ok e t3=>∃t t2,gY N 40 s i=some (.inl (s,at_ s t))/\V 1 s (at_ s t)=some (enc s (.ok e t2))/\gY N 41 s (at_ s t2)=some (.inl (s,at_ s t3))
 |.bad b=>gY N 40 s i=some (.inr (at_ s b,s,at_ s b))\/(∃t,gY N 40 s i=some (.inl (s,at_ s t))/\V 1 s (at_ s t)=some (enc s (.bad b))) \/
   ∃e t t2,gY N 40 s i=some (.inl (s,at_ s t))/\V 1 s (at_ s t)=some (enc s (.ok e t2))/\gY N 41 s (at_ s t2)=some (.inr (at_ s b,s,at_ s b))
end
theorem aLP{c:UInt8}(hl:eH c=true):bG c=false/\97<=c.toNat/\c.toNat<=122:=by
 unfold eH at hl;rw[bM]at hl;have h1:=zF.1 (cU hl.1);have h2:=zF.1 (cU hl.2);have h3:(97:UInt8).toNat=97:=rfl;have h4:(122:UInt8).toNat=122:=rfl;exact⟨a8h (by omega),by omega,by omega⟩
theorem RG{l:Tx}{c:UInt8}(h0:c≠0)(hh:(aU l).head?≠some c):decide ((aU l).headD 0=c)=false:=by
 cases hk:aU l with
 |nil=>exact aR λe=>h0 e.symm
 |cons d t=>rw[hk]at hh;exact aR λe=>hh (by rw[<-e];rfl)
section
variable{N:Nat}{rc:Rc}{s l:Tx}(hs:s.length<2^62)(h:l <:+ s)(hN:s.length<N)
include hs h hN
theorem a9h{t:Tx}{c:UInt8}(hk:aU l=c::t)(hd:bG c=true)(hr:mB ((c::t).takeWhile bG)=true):qI (N,rc) s (at_ s l)=some (enc s (.ok (.mk 0 (mS ((c::t).takeWhile bG)) []) ((c::t).dropWhile bG))):=by
 have h':(c::t) <:+ s:=hk ▸ (eK l).trans h;have hz:=a2o hs h' hN hd hr;show(l6 _ _ _:O).bind pB=_;unfold l6;simp only[];rw[aI (kF hs h hN),kE hs h hN,kD hs h hN,kC hs h hN,hk];have hdd:(decide (48<=(c::t).headD 0)&&decide ((c::t).headD 0<=57))=true:=hd;rw[hdd,aX,aI (show E8 N s (at_ s (c::t))=true by unfold E8;rw[hz];rfl),show Eb N s (at_ s (c::t))=true by unfold Eb;rw[hz];rfl,aX];unfold X7 X6 X5 X4 X3;rw[hz];rfl
theorem a9g{t:Tx}{c:UInt8}(hk:aU l=c::t)(hd:bG c=true)(hr:mB ((c::t).takeWhile bG)=false):qI (N,rc) s (at_ s l)=some (enc s (.bad (c::t))):=by
 have h':(c::t) <:+ s:=hk ▸ (eK l).trans h;have hz:=a2p hs h' hN hd hr;show(l6 _ _ _:O).bind pB=_;unfold l6;simp only[];rw[aI (kF hs h hN),kE hs h hN,kD hs h hN,kC hs h hN,hk];have hdd:(decide (48<=(c::t).headD 0)&&decide ((c::t).headD 0<=57))=true:=hd;rw[hdd,aX,aI (show E8 N s (at_ s (c::t))=true by unfold E8;rw[hz];rfl),show Eb N s (at_ s (c::t))=false by unfold Eb;rw[hz];rfl,aK];unfold Xa X9 X8;rw[hz];rfl
theorem a9e{t:Tx}{c:UInt8}(hk:aU l=c::t)(hl:eH c=true):qI (N,rc) s (at_ s l)=some (enc s (.ok (.mk 1 ((c.toNat:Int)-97) []) t)):=by
 have h':(c::t) <:+ s:=hk ▸ (eK l).trans h;obtain⟨hd,h1,h2⟩:=aLP hl;show(l6 _ _ _:O).bind pB=_;unfold l6;simp only[];rw[aI (kF hs h hN),kE hs h hN,kD hs h hN,kC hs h hN,hk];have hdd:(decide (48<=(c::t).headD 0)&&decide ((c::t).headD 0<=57))=false:=hd;have hll:(decide (97<=(c::t).headD 0)&&decide ((c::t).headD 0<=122))=true:=hl;rw[hdd,aK,hll,aX,oS h' hs];have hw:aC.wrap ((((c::t).headD 0-97).toNat:Nat):Int)=(c.toNat:Int)-97:=by
  have e:((c::t).headD 0-97).toNat=c.toNat-97:=by
   show(c-97).toNat=_;rw[UInt8.toNat_sub_of_le _ _ (zF.2 (show(97:UInt8).toNat<=c.toNat from h1))];rfl
  rw[e,wr (by omega) (by omega)];omega
 rw[hw];rfl
theorem a9f{r:Pr}(hc:∀c,(aU l).head?=some c->bG c=false/\eH c=false/\c≠82)(hp:Ru N rc.2.2 s (at_ s (aU l)) r):qI (N,rc) s (at_ s l)=some (enc s r):=by
 have cond:(decide (48<=(aU l).headD 0)&&decide ((aU l).headD 0<=57))=false/\(decide (97<=(aU l).headD 0)&&decide ((aU l).headD 0<=122))=false/\decide ((aU l).headD 0=82)=false:=by
  cases hk:aU l with
  |nil=>exact⟨rfl,rfl,rfl⟩
  |cons c t=>
    have:=hc c (by rw[hk];rfl);exact⟨this.1,this.2.1,aR this.2.2⟩
 show(l6 _ _ _:O).bind pB=_;unfold l6;simp only[];rw[aI (kF hs h hN),kE hs h hN,kD hs h hN,kC hs h hN,cond.1,aK,cond.2.1,aK,cond.2.2,aK];cases r with
 |ok e t3=>
   obtain⟨t,t2,h1,h2,h3⟩:=hp;rw[aI (pO h1),yJ h1,aX,yL h1,yK h1,h2,aI sm,qQ,aX,qR];simp only[];rw[aI (pO h3),yJ h3,aX,yL h3,yK h3];rfl
 |bad b=>
   rcases hp with h1|⟨t,h1,h2⟩|⟨e,t,t2,h1,h2,h3⟩
   .rw[aI (pO h1),Qx h1,aK,Qw h1,Qv h1,Qu h1]
    rfl
   .rw[aI (pO h1),yJ h1,aX,yL h1,yK h1,h2,aI sm,yR,aK,yA]
    rfl
   .rw[aI (pO h1),yJ h1,aX,yL h1,yK h1,h2,aI sm,qQ,aX,qR]
    simp only[];rw[aI (pO h3),Qx h3,aK,Qw h3,Qv h3,Qu h3];rfl
theorem at_root{t:Tx}{r:Pr}(hk:aU l=82::t)(hp:Ru N rc.2.2 s (at_ s t) r):qI (N,rc) s (at_ s l)=some (enc s (r.map λe=>.mk 8 0 [e])):=by
 have h':(82::t) <:+ s:=hk ▸ (eK l).trans h;show(l6 _ _ _:O).bind pB=_;unfold l6;simp only[];rw[aI (kF hs h hN),kE hs h hN,kD hs h hN,kC hs h hN,hk,
  show(decide (48<=((82::t:Tx)).headD 0)&&decide ((82::t:Tx).headD 0<=57))=false from rfl,aK,show(decide (97<=((82::t:Tx)).headD 0)&&decide ((82::t:Tx).headD 0<=122))=false from rfl,aK,show decide ((82::t:Tx).headD 0=82)=true from rfl,aX,oS h' hs]
 cases r with
 |ok e t3=>
   obtain⟨t,t2,h1,h2,h3⟩:=hp;rw[aI (pO h1),yJ h1,aX,yL h1,yK h1,h2,aI sm,qQ,aX,qR];simp only[];rw[aI (pO h3),yJ h3,aX,yL h3,yK h3,kN];rfl
 |bad b=>
   rcases hp with h1|⟨t,h1,h2⟩|⟨e,t,t2,h1,h2,h3⟩
   .rw[aI (pO h1),Qx h1,aK,Qw h1,Qv h1,Qu h1]
    rfl
   .rw[aI (pO h1),yJ h1,aX,yL h1,yK h1,h2,aI sm,yR,aK,yA]
    rfl
   .rw[aI (pO h1),yJ h1,aX,yL h1,yK h1,h2,aI sm,qQ,aX,qR]
    simp only[];rw[aI (pO h3),Qx h3,aK,Qw h3,Qv h3,Qu h3];rfl
theorem aLq{t:Tx}{r:Pr}(hk:aU l=45::t)(hr:rc.2.1 s (at_ s t)=some (enc s r)):wH (N,rc) s (at_ s l)=some (enc s (r.map λe=>.mk 2 0 [e])):=by
 have h':(45::t) <:+ s:=hk ▸ (eK l).trans h;show(rO _ _ _:O).bind tG=_;unfold rO;simp only[];rw[aI (kF hs h hN),kE hs h hN,kD hs h hN,kC hs h hN,hk,show decide ((45::t:Tx).headD 0=45)=true from rfl,aX,oS h' hs,hr,aI sm];cases r with
 |ok e u=>rw[qQ,aX,qR,kN];rfl
 |bad b=>rw[yR,aK,yA];rfl
theorem aLr{b:Tx}(hh:(aU l).head?≠some 45)(hr:rc.1 s (at_ s (aU l))=some (enc s (.bad b))):wH (N,rc) s (at_ s l)=some (enc s (.bad b)):=by
 show(rO _ _ _:O).bind tG=_;unfold rO;simp only[];rw[aI (kF hs h hN),kE hs h hN,kD hs h hN,kC hs h hN,RG (by decide) hh,aK,hr,aI sm,yR,aK,yA];rfl
theorem aLp{t:Tx}{e:Ex}(hh:(aU l).head?≠some 45)(ht:t <:+ s)(hr:rc.1 s (at_ s (aU l))=some (enc s (.ok e t)))(h2:(aU t).head?≠some 94):wH (N,rc) s (at_ s l)=some (enc s (.ok e (aU t))):=by
 show(rO _ _ _:O).bind tG=_;unfold rO;simp only[];rw[aI (kF hs h hN),kE hs h hN,kD hs h hN,kC hs h hN,RG (by decide) hh,aK,hr,aI sm,qQ,aX,qR];simp only[];rw[aI (kF hs ht hN),kE hs ht hN,kD hs ht hN,kC hs ht hN,RG (by decide) h2,aK];rfl
theorem aLo{t t':Tx}{e:Ex}{r:Pr}(hh:(aU l).head?≠some 45)(ht:t <:+ s)(hr:rc.1 s (at_ s (aU l))=some (enc s (.ok e t)))(h2:aU t=94::t')(hr':rc.2.1 s (at_ s t')=some (enc s r)):wH (N,rc) s (at_ s l)=some (enc s (r.map λf=>.mk 7 0 [e,f])):=by
 have h':(94::t') <:+ s:=h2 ▸ (eK t).trans ht;show(rO _ _ _:O).bind tG=_;unfold rO;simp only[];rw[aI (kF hs h hN),kE hs h hN,kD hs h hN,kC hs h hN,RG (by decide) hh,aK,hr,aI sm,qQ,aX,qR];simp only[];rw[aI (kF hs ht hN),kE hs ht hN,kD hs ht hN,kC hs ht hN,h2,show decide ((94::t':Tx).headD 0=94)=true from rfl,aX,oS h' hs,hr',aI sm];cases r with
 |ok f u=>rw[qQ,aX,qR,kN,kN];rfl
 |bad b=>rw[yR,aK,yA];rfl
end
end Go.Proofs
/- The own reader: what it does with any text. -/
namespace Go.Proofs
open Go Go.Ax Go.Ax.aA
def aLy(K0:Tx×Int×Int×Int×List Ex->O)(K1:Int×Tx×Int->O)(s:Tx):Pr->O
 |.ok f t2=>K0 (s,at_ s t2,f.op,f.num,f.kids)
 |.bad b=>K1 (at_ s b,s,at_ s b)
def goK(k:Nat)(K0:Tx×Int×Int×Int×List Ex->O)(K1:Int×Tx×Int->O)(G:Ex->Tx->O)(s:Tx)(o:Int)(e:Ex):Pr->O
 |.ok f t2=>if k=0 then K0 (s,at_ s t2,o,0,[e,f])else G f t2
 |.bad b=>K1 (at_ s b,s,at_ s b)
section
variable{N:Nat}{rc:Rc}{s l:Tx}(hs:s.length<2^62)(h:l <:+ s)(hN:s.length<N)
include hs h hN
theorem a6q{k m:Nat}{e:Ex}{a b:Int}{K0:Tx×Int×Int×Int×List Ex->O}{K1:Int×Tx×Int->O}{K2:Unit->O}(hk:k<3)(h12:12<=N)(he:∀c,(aU l).head?=some c->iR k c=none):
    qC (N,rc) (m+1) (s,at_ s l,(k:Int),a,b,e.op,e.num,e.kids) K0 K1 K2=K0 (s,at_ s (aU l),e.op,e.num,e.kids):=by
 show Cv _ _ _ _ _ _ _ _ _ _ _ _=_;unfold Cv;simp only[];have w:=aBV (N:=N) (k:=k) (c:=(aU l).headD 0) h12 hk;have ho:FF k ((aU l).headD 0) = -1:=by
  unfold FF;cases hk':aU l with
  |nil=>
    match k,hk with
    |0,_=>rfl
    |1,_=>rfl
    |2,_=>rfl
  |cons c t=>rw[show(c::t).headD 0=c from rfl,he c (by rw[hk'];rfl)];rfl
 rw[ho]at w;rw[aI (kF hs h hN),kE hs h hN,kD hs h hN,kC hs h hN];rw[aI (show C2 N opsL (k:Int) ((aU l).headD 0)=true by unfold C2;rw[w];rfl),show wF N opsL (k:Int) ((aU l).headD 0) = -1 by unfold wF;rw[w];rfl];rfl
theorem Z0{k m:Nat}{e:Ex}{a b o:Int}{c:UInt8}{t:Tx}{r:Pr}{K0:Tx×Int×Int×Int×List Ex->O}{K1:Int×Tx×Int->O}{K2:Unit->O}(hk:k<3)(h12:12<=N)(hl:aU l=c::t)(ho:iR k c=some o)(hr:rc.2.2 ((k+1:Nat):Int) s (at_ s t)=some (enc s r)):
    qC (N,rc) (m+1) (s,at_ s l,(k:Int),a,b,e.op,e.num,e.kids) K0 K1 K2=goK k K0 K1 (λf t2=>qC (N,rc) m (s,at_ s t2,(k:Int),a,b,o,0,[e,f]) K0 K1 K2) s o e r:=by
 have h':(c::t) <:+ s:=hl ▸ (eK l).trans h;have w:=aBV (N:=N) (k:=k) (c:=c) h12 hk;have oi:FF k c=o:=by unfold FF;rw[ho];rfl
 rw[oi]at w;have h0:0<=o:=by have:=(aKc ho).2.2;omega
 have hc:c≠0:=by
  rintro rfl
  match k,hk with
  |0,_=>cases ho
  |1,_=>cases ho
  |2,_=>cases ho
 show Cv _ _ _ _ _ _ _ _ _ _ _ _=_;unfold Cv;simp only[];rw[aI (kF hs h hN),kE hs h hN,kD hs h hN,kC hs h hN,hl,show(c::t).headD 0=c from rfl];rw[aI (show C2 N opsL (k:Int) c=true by unfold C2;rw[w];rfl),show wF N opsL (k:Int) c=o by unfold wF;rw[w];rfl,show jO N opsL (k:Int) c=(k:Int)by unfold jO;rw[w];rfl,show KD N opsL (k:Int) c=c by unfold KD;rw[w];rfl];rw[aR (by omega),Bool.false_or,aR hc,aK,oS h' hs,wr (x:=(k:Int)+1) (by omega) (by omega),show(k:Int)+1=((k+1:Nat):Int)by omega,hr,aI sm];cases r with
 |bad b=>rw[yR,aK,yA];rfl
 |ok f t2=>
   rw[qQ,aX,qR];simp only[];rw[kN,kN];by_cases hk0:k=0
   .rw[aQ (by omega),aX];exact(aJ hk0).symm
   .rw[aR (by omega),aK];exact(aD hk0).symm
end
theorem RB{N:Nat}{rc:Rc}{s l:Tx}{r:Pr}(hr:rc.2.1 s (at_ s l)=some (enc s r)):AO (N,rc) 3 s (at_ s l)=some (enc s r):=by
 show(wP _ _ _ _ _:O).bind wM=_;unfold wP;rw[show decide ((3:Int)=3)=true from rfl,aX];simp only[];rw[hr,aI sm];cases r with
 |ok e t=>rw[qQ,aX,qR];rfl
 |bad b=>rw[yR,aK,yA];rfl
theorem a6g{N:Nat}{rc:Rc}{s l:Tx}{k:Nat}{b:Tx}(hk:k<3)(hr:rc.2.2 ((k+1:Nat):Int) s (at_ s l)=some (enc s (.bad b))):AO (N,rc) (k:Int) s (at_ s l)=some (enc s (.bad b)):=by
 show(wP _ _ _ _ _:O).bind wM=_;unfold wP;simp only[];rw[aR (by omega),aK,wr (x:=(k:Int)+1) (by omega) (by omega),show(k:Int)+1=((k+1:Nat):Int)by omega,hr,aI sm,yR,aK,yA];rfl
theorem a6f{N:Nat}{rc:Rc}{s l:Tx}{k:Nat}{t:Tx}{e:Ex}{r:Pr}(hk:k<3)(hr:rc.2.2 ((k+1:Nat):Int) s (at_ s l)=some (enc s (.ok e t)))
    (hlo:∀(K0:Tx×Int×Int×Int×List Ex->O)(K1:Int×Tx×Int->O)(K2:Unit->O),qC (N,rc) N (s,at_ s t,(k:Int),0,0,e.op,e.num,e.kids) K0 K1 K2=aLy K0 K1 s r):AO (N,rc) (k:Int) s (at_ s l)=some (enc s r):=by
 show(wP _ _ _ _ _:O).bind wM=_;unfold wP;simp only[];rw[aR (by omega),aK,wr (x:=(k:Int)+1) (by omega) (by omega),show(k:Int)+1=((k+1:Nat):Int)by omega,hr,aI sm,qQ,aX,qR];simp only[];unfold TP;simp only[];rw[hlo];cases r with
 |ok f t2=>rfl
 |bad b=>rfl
theorem Jn{N:Nat}{rc:Rc}{s l:Tx}(hs:s.length<2^62)(h:l <:+ s)(hN:s.length<N):qI (N,rc) s (at_ s (aU l))=qI (N,rc) s (at_ s l):=by
 have h':=(eK l).trans h;show(l6 _ _ _:O).bind pB=(l6 _ _ _:O).bind pB;unfold l6;simp only[];rw[aI (kF hs h hN),aI (kF hs h' hN),kE hs h hN,kD hs h hN,kC hs h hN,kE hs h' hN,kD hs h' hN,kC hs h' hN,fL]
abbrev gT(N n:Nat):Rc:=gQ N n
def Mot(N:Nat)(s:Tx):Kd->Tx->Pr->Prop
 |.pa,l,r=>∀n,8*l.length+1<=n->Ru N (gT N n).2.2 s (at_ s l) r/\Ru N (gT N n).2.2 s (at_ s (aU l)) r
 |.at,l,r=>∀n,8*l.length+2<=n->(gT N n).1 s (at_ s l)=some (enc s r)/\(gT N n).1 s (at_ s (aU l))=some (enc s r)
 |.lv k,l,r=>k<=3/\(∀n,8*l.length+7<=n+k->(gT N n).2.2 (k:Int) s (at_ s l)=some (enc s r))/\(k=3->∀n,8*l.length+3<=n->(gT N n).2.1 s (at_ s l)=some (enc s r))
 |.lo k e,l,r=>k<3/\∀n m a b K0 K1 K2,8*l.length<=n->l.length<m->qC (N,gT N n) m (s,at_ s l,(k:Int),a,b,e.op,e.num,e.kids) K0 K1 K2=aLy K0 K1 s r
theorem a5M{N:Nat}{s:Tx}(hs:s.length<2^62)(hN:s.length<N)(h12:12<=N){k:Kd}{l:Tx}{r:Pr}(h:Rd k l r):l <:+ s->Mot N s k l r:=by
 induction h with
 |Bu h1 h2 h3 ih=>
   intro hl;rename_i l t t2 t3 e;have hs1:=dU h1;have ht:=hs1.1.trans hl;have ht2:t2 <:+ s:=((kK h2).1:t2 <:+ t).trans ht;have hl':=(eK l).trans hl;intro n hn;have a:=(ih ht).2.1 n (by omega);have b:=B9 hs ht2 hN h3;exact⟨⟨t,t2,B9 hs hl hN h1,a,b⟩,⟨t,t2,B9 hs hl' hN (by rw[fL];exact h1),a,b⟩⟩
 |FE h1=>
   intro hl;rename_i l;have hl':=(eK l).trans hl;intro n hn;have b:=X2 hs hl' hN (by rw[fL];exact h1) (by decide);rw[fL]at b;exact⟨.inl (X2 hs hl hN h1 (by decide)),.inl b⟩
 |JW h1 h2 ih=>
   intro hl;rename_i l t b;have hs1:=dU h1;have ht:=hs1.1.trans hl;have hl':=(eK l).trans hl;intro n hn;have a:=(ih ht).2.1 n (by omega);exact⟨.inr (.inl ⟨t,B9 hs hl hN h1,a⟩),.inr (.inl ⟨t,B9 hs hl' hN (by rw[fL];exact h1),a⟩)⟩
 |FD h1 h2 h3 ih=>
   intro hl;rename_i l t t2 e;have hs1:=dU h1;have ht:=hs1.1.trans hl;have ht2:t2 <:+ s:=((kK h2).1:t2 <:+ t).trans ht;have hl':=(eK l).trans hl;intro n hn;have a:=(ih ht).2.1 n (by omega);have b:=X2 hs ht2 hN h3 (by decide);exact⟨.inr (.inr ⟨e,t,t2,B9 hs hl hN h1,a,b⟩),.inr (.inr ⟨e,t,t2,B9 hs hl' hN (by rw[fL];exact h1),a,b⟩)⟩
 |num h1 h2 h3=>
   intro hl n hn
   match n,hn with
   |n+1,hn=>
     have a:=a9h (rc:=gT N n) hs hl hN h1 h2 h3;exact⟨a,(Jn hs hl hN).trans a⟩
 |JY h1 h2 h3=>
   intro hl n hn
   match n,hn with
   |n+1,hn=>
     have a:=a9g (rc:=gT N n) hs hl hN h1 h2 h3;exact⟨a,(Jn hs hl hN).trans a⟩
 |var h1 h2=>
   intro hl n hn
   match n,hn with
   |n+1,hn=>
     have a:=a9e (rc:=gT N n) hs hl hN h1 h2;exact⟨a,(Jn hs hl hN).trans a⟩
 |root h1 h2 ih=>
   intro hl n hn;have hs1:=dU h1
   match n,hn with
   |n+1,hn=>
     have a:=at_root (rc:=gT N n) hs hl hN h1 (ih (hs1.1.trans hl) n (by omega)).1;exact⟨a,(Jn hs hl hN).trans a⟩
 |par h1 h2 ih=>
   intro hl n hn
   match n,hn with
   |n+1,hn=>
     have a:=a9f (rc:=gT N n) hs hl hN h1 (ih hl n (by omega)).2;exact⟨a,(Jn hs hl hN).trans a⟩
 |neg h1 h2 ih=>
   intro hl;have hs1:=dU h1;have i:=(ih (hs1.1.trans hl)).2.2 rfl;refine⟨by omega,λn hn=>?_,λ_ n hn=>?_⟩
   .match n,hn with
    |0,hn=>omega
    |1,hn=>omega
    |n+2,hn=>exact RB (rc:=gT N (n+1)) (aLq (rc:=gT N n) hs hl hN h1 (i n (by omega)))
   .match n,hn with
    |n+1,hn=>exact aLq (rc:=gT N n) hs hl hN h1 (i n (by omega))
 |Jo h1 h2 ih=>
   intro hl;have i:=ih hl;refine⟨by omega,λn hn=>?_,λ_ n hn=>?_⟩
   .match n,hn with
    |0,hn=>omega
    |1,hn=>omega
    |n+2,hn=>exact RB (rc:=gT N (n+1)) (aLr (rc:=gT N n) hs hl hN h1 (i n (by omega)).2)
   .match n,hn with
    |n+1,hn=>exact aLr (rc:=gT N n) hs hl hN h1 (i n (by omega)).2
 |mX h1 h2 h3 ih=>
   intro hl;have i:=ih hl;have ht:_ <:+ s:=((kK h2).1:_ <:+ _).trans hl;refine⟨by omega,λn hn=>?_,λ_ n hn=>?_⟩
   .match n,hn with
    |0,hn=>omega
    |1,hn=>omega
    |n+2,hn=>exact RB (rc:=gT N (n+1)) (aLp (rc:=gT N n) hs hl hN h1 ht (i n (by omega)).2 h3)
   .match n,hn with
    |n+1,hn=>exact aLp (rc:=gT N n) hs hl hN h1 ht (i n (by omega)).2 h3
 |pow h1 h2 h3 h4 ih1 ih2=>
   intro hl;have i:=ih1 hl;have sf:=kK h2;have ht:_ <:+ s:=(sf.1:_ <:+ _).trans hl;have hlt:=sf.2 _ _ rfl;have hs3:=dU h3;have j:=(ih2 (hs3.1.trans ht)).2.2 rfl;simp only[Kd.str]at hlt;refine⟨by omega,λn hn=>?_,λ_ n hn=>?_⟩
   .match n,hn with
    |0,hn=>omega
    |1,hn=>omega
    |n+2,hn=>exact RB (rc:=gT N (n+1)) (aLo (rc:=gT N n) hs hl hN h1 ht (i n (by omega)).2 h3 (j n (by omega)))
   .match n,hn with
    |n+1,hn=>exact aLo (rc:=gT N n) hs hl hN h1 ht (i n (by omega)).2 h3 (j n (by omega))
 |FM h0 h1 ih=>
   intro hl;have i:=(ih hl).2.1;refine⟨by omega,λn hn=>?_,λhk=>by omega⟩
   match n,hn with
   |0,hn=>omega
   |n+1,hn=>exact a6g (rc:=gT N n) h0 (i n (by omega))
 |vC h0 h1 h2 ih1 ih2=>
   intro hl;rename_i k l t e r;have i:=(ih1 hl).2.1;have sf:=kK h1;have ht:t <:+ s:=(sf.1:t <:+ l).trans hl;have hlt:=sf.2 _ _ rfl;have hle:=ht.length_le;have j:=(ih2 ht).2;simp only[Kd.str]at hlt;refine⟨by omega,λn hn=>?_,λhk=>by omega⟩
   match n,hn with
   |0,hn=>omega
   |n+1,hn=>exact a6f (rc:=gT N n) h0 (i n (by omega)) (λK0 K1 K2=>j n N 0 0 K0 K1 K2 (by omega) (by omega))
 |sL h0 h1=>
   intro hl;refine⟨h0,λn m a b K0 K1 K2 hn hm=>?_⟩
   match m,hm with
   |m+1,hm=>exact a6q hs hl hN h0 h12 h1
 |FO h0 h1 h2 h3 ih=>
   intro hl;have hs1:=dU h1;have i:=(ih (hs1.1.trans hl)).2.1;refine⟨h0,λn m a b K0 K1 K2 hn hm=>?_⟩
   match m,hm with
   |m+1,hm=>exact Z0 hs hl hN h0 h12 h1 h2 (i n (by omega))
 |yO h0 h1 h2 h3 h4 h5 ih1 ih2=>
   intro hl;have hs1:=dU h1;have ht:=hs1.1.trans hl;rename_i k e f t t' t2 c o r;have i:=(ih1 ht).2.1;have sf:=kK h4;have ht2:t2 <:+ s:=(sf.1:t2 <:+ t').trans ht;have hlt:=sf.2 _ _ rfl;have j:=(ih2 ht2).2;simp only[Kd.str]at hlt;refine⟨h0,λn m a b K0 K1 K2 hn hm=>?_⟩
   match m,hm with
   |m+1,hm=>
     refine(Z0 hs hl hN h0 h12 h1 h2 (i n (by omega))).trans ?_;refine(aD h3).trans ?_;exact j n m a b K0 K1 K2 (by omega) (by omega)
 |Bz h1 h2 h3 ih1=>
   intro hl;have hs1:=dU h1;have i:=(ih1 (hs1.1.trans hl)).2.1;refine⟨by omega,λn m a b K0 K1 K2 hn hm=>?_⟩
   match m,hm with
   |m+1,hm=>
     refine(Z0 (k:=0) hs hl hN (by omega) h12 h1 h2 (i n (by omega))).trans ?_;rfl
theorem aQu{N:Nat}{s:Tx}(hs:s.length<2^62)(hN:8*s.length+12<=N){r:Pr}(h:Rd (.lv 0) s r):(gT N N).2.2 0 s 0=some (enc s r):=by
 have:=(a5M (N:=N) hs (by omega) (by omega) h List.suffix_rfl).2.1 N (by omega);rw[aA0]at this;exact this
end Go.Proofs
/- Parse: what it returns for any text. -/
namespace Go.Proofs
open Go Go.Ax Go.Ax.aA
def lR:Kd->Nat
 |.lo _ e=>aT e
 |_=>0
theorem Q8{k:Kd}{l:Tx}{r:Pr}(h:Rd k l r):∀e t,r = .ok e t->aT e+t.length<=l.length+lR k:=by
 have one:∀(o:Int)(e:Ex),aT (.mk o 0 [e])=1+aT e:=λo e=>by simp[aT,dH]
 have two:∀(o:Int)(e f:Ex),aT (.mk o 0 [e,f])=1+(aT e+aT f):=λo e f=>by simp[aT,dH]
 have nul:∀(o n:Int),aT (.mk o n [])=1:=λo n=>by simp[aT,dH]
 induction h with
 |Bu h1 _ h2 ih=>
   intro e t he;cases he;have:=ih _ _ rfl;have a:=dU h1;have b:=dU h2;simp only[lR]at this ⊢;omega
 |FE _=>intro e t he;cases he
 |JW _ _ _=>intro e t he;cases he
 |FD _ _ _ _=>intro e t he;cases he
 |num h1 h2 _=>
   rename_i l t c _;intro e t' he;cases he;have a:=dU h1;rw[Jw,aJ h2,nul];have b:=(aMD bG t).length_le;simp only[lR];omega
 |JY _ _ _=>intro e t he;cases he
 |var h1 h2=>
   intro e t he;cases he;have a:=dU h1;rw[nul];simp only[lR];omega
 |root h1 _ ih=>
   intro e t he;obtain⟨e',he',rfl⟩:=ZU he;have:=ih _ _ he';have a:=dU h1;rw[one];simp only[lR]at this ⊢;omega
 |par _ _ ih=>exact ih
 |neg h1 _ ih=>
   intro e t he;obtain⟨e',he',rfl⟩:=ZU he;have:=ih _ _ he';have a:=dU h1;rw[one];simp only[lR]at this ⊢;omega
 |Jo _ _ _=>intro e t he;cases he
 |mX _ _ _ ih=>
   rename_i l t e _ _ _;intro e' t' he;cases he;have:=ih _ _ rfl;have a:=(eK t).length_le;simp only[lR]at this ⊢;omega
 |pow _ _ h1 _ ih1 ih2=>
   intro e t he;obtain⟨e',he',rfl⟩:=ZU he;have a:=ih1 _ _ rfl;have b:=ih2 _ _ he';have c:=dU h1;rw[two];simp only[lR]at a b ⊢;omega
 |FM _ _ _=>intro e t he;cases he
 |vC _ _ _ ih1 ih2=>
   intro e t he;have a:=ih1 _ _ rfl;have b:=ih2 _ _ he;simp only[lR]at a b ⊢;omega
 |sL _ _=>
   rename_i k e t _ _;intro e' t' he;cases he;have a:=(eK t).length_le;simp only[lR];omega
 |FO _ _ _ _ _=>intro e t he;cases he
 |yO _ h1 _ _ _ _ ih1 ih2=>
   intro e t he;have a:=ih1 _ _ rfl;have b:=ih2 _ _ he;have c:=dU h1;simp only[lR,two]at a b ⊢;omega
 |Bz h1 _ _ ih1=>
   intro e t he;cases he;have a:=ih1 _ _ rfl;have c:=dU h1;rw[two];simp only[lR]at a ⊢;omega
noncomputable def Bs(s:Tx):Pr->Int×Int×List Ex×Int×Int
 |.bad b=>(0,0,[],at_ s b,2)
 |.ok e t=>if aU t=[]then(if c9 e=0 then(e.op,e.num,e.kids,0,0)else(0,0,[],0,4))else(0,0,[],at_ s (aU t),2)
theorem VY{N:Nat}(hN:70000<=N){s:Tx}(hs:s.length<=8192){r:Pr}(h:Rd (.lv 0) s r):jZ N s=some (Bs s r):=by
 have hv:(gQ N N).2.2 0 s 0=some (enc s r):=aQu (by omega) (by omega) h;unfold jZ;rw[aD (by omega),aJ (show Cu N 0 s 0=true by unfold Cu;rw[hv];rfl)];cases r with
 |bad b=>
   rw[aD (show ¬ wO N 0 s 0=true by unfold wO;rw[hv];exact Bool.false_ne_true),show Ct N 0 s 0=at_ s b by unfold Ct;rw[hv];rfl];rfl
 |ok e t=>
   have ht:t <:+ s:=(kK h).1;have hsz:=Q8 h e t rfl;simp only[lR]at hsz;rw[aJ (show wO N 0 s 0=true by unfold wO;rw[hv];rfl),show gM N 0 s 0=s by unfold gM;rw[hv];rfl,show gL N 0 s 0=at_ s t by unfold gL;rw[hv];rfl,
    show oW N 0 s 0=e.op by unfold oW;rw[hv];rfl,show oV N 0 s 0=e.num by unfold oV;rw[hv];rfl,show oU N 0 s 0=e.kids by unfold oU;rw[hv];rfl]
   rw[aJ (kF (by omega) ht (by omega)),kE (by omega) ht (by omega),kD (by omega) ht (by omega),kC (by omega) ht (by omega),aJ (show mH N s (at_ s (aU t))=true from rfl),show mG N s (at_ s (aU t))=at_ s (aU t)from rfl,
    aJ (O2 (by omega) (by omega)),O1 (by omega) (by omega)]
   have re:Bs s (.ok e t)=if aU t=[]then(if c9 e=0 then(e.op,e.num,e.kids,0,0)else(0,0,[],0,4))else(0,0,[],at_ s (aU t),2):=rfl
   rw[re];cases hk:aU t with
   |nil=>
     rw[aD (by rw[zD];simp),aJ rfl];by_cases h0:c9 e=0
     .rw[aD (λh=>h h0),aJ h0]
     .rw[aJ h0,aD h0]
   |cons c u=>
     have h':(c::u) <:+ s:=hk ▸ (eK t).trans ht;rw[aJ (.inr (rC h').2.2),aD (List.cons_ne_nil c u)]
theorem aGA{N:Nat}{s:Tx}(hs:8192<s.length):jZ N s=some (0,0,[],0,4):=by
 unfold jZ;rw[aJ (by omega)]
section
variable{N:Nat}{s:Tx}{d:Int×Int×List Ex×Int×Int}(h:jZ N s=some d)
include h
theorem aFz:Nn N s=true:=by unfold Nn;rw[h];rfl
theorem aFy:xA N s=d.1:=by unfold xA;rw[h];rfl
theorem aFx:w9 N s=d.2.1:=by unfold w9;rw[h];rfl
theorem aFw:w7 N s=d.2.2.1:=by unfold w7;rw[h];rfl
theorem aFv:tZ N s=d.2.2.2.2:=by unfold tZ;rw[h];rfl
end
theorem aK7{N:Nat}(hN:70000<=N)(s:Tx):∃d,jZ N s=some d/\(d.2.2.2.2=0->∃e t,Rd (.lv 0) s (.ok e t)/\aU t=[]/\c9 e=0/\d=(e.op,e.num,e.kids,0,0)/\s.length<=8192/\aT e<=s.length)/\(∃e:Ex,d.1=e.op/\d.2.1=e.num/\d.2.2.1=e.kids/\aT e<=8193):=by
 by_cases hs:s.length<=8192
 .obtain⟨r,hr⟩:=aKZ s.length s (Nat.le_refl _) (.lv 0) (λm h=>by cases h;omega) (λm e h=>by cases h)
  refine⟨_,VY hN hs hr,?_⟩;cases r with
  |bad b=>exact⟨λh=>absurd h (show ¬ (2:Int)=0 by decide),.mk 0 0 [],rfl,rfl,rfl,by simp[aT,dH]⟩
  |ok e t=>
    have re:Bs s (.ok e t)=if aU t=[]then(if c9 e=0 then(e.op,e.num,e.kids,0,0)else(0,0,[],0,4))else(0,0,[],at_ s (aU t),2):=rfl
    have hz:=Q8 hr e t rfl;simp only[lR]at hz;rw[re];by_cases h1:aU t=[]
    .rw[aJ h1]
     by_cases h2:c9 e=0
     .rw[aJ h2];exact⟨λ_=>⟨e,t,hr,h1,h2,rfl,hs,by omega⟩,e,rfl,rfl,rfl,by omega⟩
     .rw[aD h2];exact⟨λh=>absurd h (show ¬ (4:Int)=0 by decide),.mk 0 0 [],rfl,rfl,rfl,by simp[aT,dH]⟩
    .rw[aD h1];exact⟨λh=>absurd h (show ¬ (2:Int)=0 by decide),.mk 0 0 [],rfl,rfl,rfl,by simp[aT,dH]⟩
 .exact⟨_,aGA (by omega),λh=>absurd h (show ¬ (4:Int)=0 by decide),.mk 0 0 [],rfl,rfl,rfl,by simp[aT,dH]⟩
theorem a5G{N:Nat}(hN:70000<=N){s t:Tx}{e:Ex}(hs:s.length<=8192)(h:Rd (.lv 0) s (.ok e t))(ht:aU t=[])(hv:c9 e=0):jZ N s=some (e.op,e.num,e.kids,0,0):=by
 rw[VY hN hs h];show some (if aU t=[]then(if c9 e=0 then(e.op,e.num,e.kids,0,0)else(0,0,[],0,4))else(0,0,[],at_ s (aU t),2))=_;rw[aJ ht,aJ hv]
end Go.Proofs
