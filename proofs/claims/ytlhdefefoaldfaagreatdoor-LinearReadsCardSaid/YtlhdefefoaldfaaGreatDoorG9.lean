/- Decoding; the law in plain words. Conditions are in the theorems. -/
import Derived.Test.YtlhdefefoaldfaaGreatDoorG7
import Derived.Test.YtlhdefefoaldfaaGreatDoorGR
import Derived.Test.YtlhdefefoaldfaaGreatDoorG2
import Derived.Test.YtlhdefefoaldfaaGreatDoorF6
import Derived.Test.YtlhdefefoaldfaaGreatDoorG1
import Derived.Test.YtlhdefefoaldfaaGreatDoorE7
open Bool renaming and_false->EX,and_self->a4q,false_and->jG,not_false->iL,not_true->mN,or_true->yI,true_or->aJH
open Go.IntKind renaming i64->aB
open Int renaming not_lt->aIy,toNat_natCast->uV
open List renaming append_assoc->iK,append_nil->yE,getElem?_append_right->eP,length_append->dO,length_cons->eB,length_nil->lG,length_singleton->kZ,length_take->lU,takeWhile_append_dropWhile->a41,takeWhile_cons_of_neg->a4Y,takeWhile_cons_of_pos->a4X
open Nat renaming le_refl->cE
open Option renaming map_eq_some_iff->cN
open UInt8 renaming ofNat->eW
/- Decoding: what both do with any cells. -/
namespace Go.Proofs
open Go Go.Ax Go.Ax.aA
theorem aC9{N:Nat}{s:Tx}{c:UInt8}(hl:s.length<=2^40){K:Int->O}{k1 k2:Unit->O}:∀(r pre:Tx)(m:Nat),s=pre++r->r.length<m->
    AI N m (s,c,(pre.length:Int)) K k1 k2=if Lib.indexByte r c<0 then k1 ()else K ((pre.length:Int)+Lib.indexByte r c)
 |_,_,0,_,h=>by omega
 |[],pre,m+1,hs,_=>by
   show Ci _ _ _ _ _ _ _=_;unfold Ci;simp only[];have h0:s.length=pre.length:=by rw[hs];simp
   rw[aX (by omega),aM];rfl
 |x::r,pre,m+1,hs,hm=>by
   have hlt:pre.length<s.length:=by rw[hs];simp
   have hg:s[pre.length]?=some x:=by rw[hs,eP (cE _)];simp
   have hx:=oZ (c:=c) (l:=r);show Ci _ _ _ _ _ _ _=_;unfold Ci;simp only[];rw[aU (by omega),bA,eN hg];have e:Lib.indexByte (x::r) c=if x=c then 0 else if Lib.indexByte r c = -1 then -1 else Lib.indexByte r c+1:=by
    conv=>lhs;unfold Lib.indexByte
    by_cases h:x=c
    .simp[h]
    .simp[h]
   rw[e];by_cases h:x=c
   .rw[aU h,bA,aN h,aF (by omega),Int.add_zero]
   .rw[aX h,aM,aF h,wr (by omega) (by omega)]
    have ih:=aC9 (N:=N) (s:=s) (c:=c) hl (K:=K) (k1:=k1) (k2:=k2) r (pre++[x]) m (by rw[hs];simp) (by simp at hm;omega);have hpl:((pre++[x]).length:Int)=(pre.length:Int)+1:=by simp
    rw[hpl]at ih;refine ih.trans ?_;by_cases h2:Lib.indexByte r c = -1
    .rw[aN h2,aN (by omega),aN (by omega)]
    .rw[aF h2,aF (by omega),aF (by omega),show(pre.length:Int)+1+Lib.indexByte r c=(pre.length:Int)+(Lib.indexByte r c+1)by omega]
theorem aC8{N:Nat}{s:Tx}{c:UInt8}(hl:s.length<=2^40)(hN:s.length<N):Ch N s c=some (Lib.indexByte s c):=by
 have hx:=oZ (c:=c) (l:=s);unfold Ch w44 SU SN;refine(bG (λz:O=>z.bind Lf) (aC9 (N:=N) (s:=s) (c:=c) hl s [] N rfl hN)).trans ?_;by_cases h:Lib.indexByte s c<0
 .rw[aN h,show Lib.indexByte s c = -1 by omega];rfl
 .rw[aF h]
  simp only[lG];rw[show((0:Nat):Int)+Lib.indexByte s c=Lib.indexByte s c by omega];rfl
theorem SS{N:Nat}{s:Tx}{c:UInt8}(hl:s.length<=2^40)(hN:s.length<N):q8 N s c=true:=by unfold q8;rw[aC8 hl hN];rfl
theorem SR{N:Nat}{s:Tx}{c:UInt8}(hl:s.length<=2^40)(hN:s.length<N):k9 N s c=Lib.indexByte s c:=by unfold k9;rw[aC8 hl hN];rfl
def jO(c:UInt8):Bool:=decide (0<=Lib.indexByte dW c)
def xS(c:UInt8):UInt8:=eW (48+bN dW c)
theorem a3B{N:Nat}(hN:100<N){c:UInt8}:q8 N dW c=true:=SS (s:=dW) (show(10:Nat)<=_ by omega) (show 10<N by omega)
theorem a3A{N:Nat}(hN:100<N){c:UInt8}:k9 N dW c=Lib.indexByte dW c:=SR (s:=dW) (show(10:Nat)<=_ by omega) (show 10<N by omega)
theorem a1E{N:Nat}(hN:100<N){c:UInt8}:q8 N eS c=true:=SS (s:=eS) (show(26:Nat)<=_ by omega) (show 26<N by omega)
theorem a1D{N:Nat}(hN:100<N){c:UInt8}:k9 N eS c=Lib.indexByte eS c:=SR (s:=eS) (show(26:Nat)<=_ by omega) (show 26<N by omega)
theorem a3W{d:UInt8}(h:0<=Lib.indexByte dW d):dV (aB.wrap ((48:Int)+Lib.indexByte dW d))=xS d:=Wv (b:=48) (l:=dW) (c:=d) (by omega) (show(10:Nat)<=100 by omega) h
def HM(c:UInt8):UInt8:=if cW.contains c then eK.getD (bN cW c) 0 else 0
theorem aAL{N:Nat}{c:UInt8}{K:UInt8->O}{k1 k2:Unit->O}:∀(r pre:Tx)(m:Nat),cW=pre++r->c∉r->r.length<m->
    vM N m (c,cW,(pre.length:Int)) K k1 k2=k1 ()
 |_,_,0,_,_,h=>by omega
 |[],pre,m+1,hs,_,_=>by
   show vN _ _ _ _ _ _ _=_;unfold vN;simp only[];have h0:cW.length=pre.length:=by rw[hs];simp
   rw[aX (by omega),aM]
 |x::r,pre,m+1,hs,hc,hm=>by
   have hl:cW.length=pre.length+(r.length+1):=by rw[hs];simp
   have hg:cW[pre.length]?=some x:=by rw[hs,eP (cE _)];simp
   have h10:cW.length=10:=rfl;show vN _ _ _ _ _ _ _=_;unfold vN;simp only[];have hx:x≠c:=λe=>hc (by rw[e];exact List.mem_cons_self ..)
   rw[aU (by omega),bA,eN hg,aX hx,aM,wr (by omega) (by omega)];have ih:=aAL (N:=N) (c:=c) (K:=K) (k1:=k1) (k2:=k2) r (pre++[x]) m (by rw[hs];simp) (λh=>hc (List.mem_cons_of_mem _ h)) (by simp at hm;omega);have hpl:((pre++[x]).length:Int)=(pre.length:Int)+1:=by simp
   rw[hpl]at ih;exact ih
theorem aAN{N:Nat}(hN:10<N){c:UInt8}:vL N c=some (HM c):=by
 unfold HM;by_cases h:cW.contains c=true
 .rw[aN h];exact aAK hN h
 .rw[aF h]
  have hm:c∉cW:=by simpa using h
  unfold vL Qc Js Jp;exact(bG (λz:O=>z.bind FM) (aAL (N:=N) (c:=c) cW [] N rfl hm hN)).trans rfl
theorem aNj{N:Nat}(hN:10<N){c:UInt8}:zI N c=true:=by unfold zI;rw[aAN hN];rfl
theorem aNi{N:Nat}(hN:10<N){c:UInt8}:sQ N c=HM c:=by unfold sQ;rw[aAN hN];rfl
def mB(x:UInt8):Nat->Nat->Tx
 |0,_=>[]
 |k+1,c=>(if HM (eW c)=x/\x≠0 then[eW c]else[])++mB x k (c+1)
theorem aGP(x:UInt8):(mB x 94 33).length<=1/\(0<=Lib.indexByte eK x->mB x 94 33=[cW.getD (bN eK x) 0]):=by
 have:=nI (p:=λx=>decide ((mB x 94 33).length<=1)&&(!decide (0<=Lib.indexByte eK x)||mB x 94 33 == [cW.getD (bN eK x) 0])) (by kernel_rfl) x;simp only[Bool.and_eq_true,fU,Bool.or_eq_true,Bool.not_eq_true',decide_eq_false_iff_not,qG]at this;exact⟨this.1,λh=>this.2.resolve_left (λh'=>h' h)⟩
def gJ:Bool->Tx->Tx
 |_,[]=>[]
 |num,c::l=>
   if num&&jO c then xS c::gJ num l
   else if c=60 then gJ true l
   else if c=48 then(match l with
    |[]=>mB c 94 33
    |d::l'=>eW (97+bN eS d)::gJ false l')
   else mB c 94 33++gJ false l
theorem H6:∀(n:Nat)(l:Tx)(num:Bool)(t:Tx),l.length<=n->fK num l=some t->gJ num l=t
 |_,[],_,t,_,h=>by simp[fK]at h;simp[gJ,h]
 |0,c::l,_,_,h,_=>by simp at h
 |n+1,c::l,num,t,hn,h=>by
   simp only[eB]at hn;unfold fK at h;unfold gJ jO xS;by_cases h1:(num&&decide (0<=Lib.indexByte dW c))=true
   .rw[aN h1]at h ⊢
    obtain⟨t',ht,rfl⟩:=cN.1 h;rw[H6 n l num t' (by omega) ht]
   .rw[aF h1]at h ⊢
    by_cases h2:c=60
    .rw[aN h2]at h ⊢
     exact H6 n l true t (by omega) h
    .rw[aF h2]at h ⊢
     by_cases h3:c=48
     .rw[aN h3]at h ⊢
      cases l with
      |nil=>cases h
      |cons d l'=>
        simp only[eB]at hn h ⊢;split at h
        .cases h
        .obtain⟨t',ht,rfl⟩:=cN.1 h
         rw[H6 n l' false t' (by omega) ht]
     .rw[aF h3]at h ⊢
      split at h
      .cases h
      .rename_i h4
       obtain⟨t',ht,rfl⟩:=cN.1 h;rw[H6 n l false t' (by omega) ht,(aGP c).2 (by omega)];rfl
theorem aG6:∀(l:Tx),gJ true l=(l.takeWhile jO).map xS++gJ false (l.dropWhile jO)
 |[]=>by simp[gJ]
 |c::l=>by
   by_cases h:jO c=true
   .rw[a4X h,List.dropWhile_cons_of_pos h]
    conv=>lhs;unfold gJ
    rw[aN (by rw[h];rfl),aG6 l];rfl
   .rw[a4Y h,List.dropWhile_cons_of_neg h]
    unfold gJ;have h:jO c=false:=by simpa using h
    simp[h]
section
variable{N:Nat}(hN:100<N){s:Tx}(hl:s.length<=2^40)
include hN hl
omit hN in
theorem aRd{K:(List UInt8)×(List UInt8)×Int->O}{k1 k2:Unit->O}{i:Nat}{out:Tx}{m:Nat}(h0:s.length=i+1):
    qZ N (m+1) (s,out,(i:Int)) K k1 k2=K (s,out,(i:Int)):=by
 show Cc _ _ _ _ _ _=_;unfold Cc;simp only[];rw[wr (x:=(i:Int)+1) (by omega) (by omega),aX (by omega)];simp only[iL,aJH,dH,WY,jG,aM]
theorem aRc{K:(List UInt8)×(List UInt8)×Int->O}{k1 k2:Unit->O}{i:Nat}{out:Tx}{m:Nat}{d:UInt8}(hg:s[i+1]?=some d)(ho:out.length<=2^41):
    qZ N (m+1) (s,out,(i:Int)) K k1 k2=if jO d=true then qZ N m (s,out++[xS d],((i+1:Nat):Int)) K k1 k2 else K (s,out,(i:Int)):=by
 have h0:i+1<s.length:=(List.getElem?_eq_some_iff.1 hg).1;show Cc _ _ _ _ _ _=_;unfold Cc;simp only[];rw[wr (x:=(i:Int)+1) (by omega) (by omega),aU (by omega)];rw[show(i:Int)+1=((i+1:Nat):Int)by omega];have y44:k9 N (pM N) d=Lib.indexByte dW d:=a3A hN;have p44:q8 N (pM N) d=true:=a3B hN;rw[aG (show(!true||zK N)=true from rfl),Hm hg,aN rfl,p44,y44,aG (show(!true||true)=true from rfl)];by_cases h:jO d=true
 .have h':0<=Lib.indexByte dW d:=cR h
  rw[aU h',a4q,bA,aN h,aG aA3,eN hg,p44,y44,aG rfl,a3W h',aG (aU (by rw[kZ];omega))]
 .have h':¬ 0<=Lib.indexByte dW d:=λhh=>h (aU hh)
  rw[aX h',EX,aM,aF h]
theorem aRb{K:(List UInt8)×(List UInt8)×Int->O}{k1 k2:Unit->O}(r:Tx):∀(pre:Tx)(c0:UInt8)(out:Tx)(m:Nat),s=pre++c0::r->out.length+r.length<=2^41->r.length<m->
    qZ N m (s,out,(pre.length:Int)) K k1 k2=K (s,out++(r.takeWhile jO).map xS,((pre.length+(r.takeWhile jO).length:Nat):Int)):=by
 induction r with
 |nil=>
   intro pre c0 out m hs ho hm;obtain⟨m,rfl⟩:∃k,m=k+1:=⟨m-1,by simp at hm;omega⟩
   rw[aRd hl (by rw[hs];simp),List.takeWhile_nil,List.map_nil,yE,lG,Nat.add_zero]
 |cons d r ih=>
   intro pre c0 out m hs ho hm;simp only[eB]at ho hm;obtain⟨m,rfl⟩:∃k,m=k+1:=⟨m-1,by omega⟩
   have hg:s[pre.length+1]?=some d:=by rw[hs,eP (by omega),show pre.length+1-pre.length=1 by omega];rfl
   rw[aRc hN hl hg (by omega)];by_cases h:jO d=true
   .have ih:=ih (pre++[c0]) d (out++[xS d]) m (by rw[hs];simp) (by simp;omega) (by omega)
    have hpl:(pre++[c0]).length=pre.length+1:=by simp
    rw[hpl]at ih;rw[aN h,ih,a4X h,List.map_cons,eB,iK,List.singleton_append];rw[show pre.length+1+(r.takeWhile jO).length=pre.length+((r.takeWhile jO).length+1)by omega]
   .rw[aF h,a4Y h,List.map_nil,yE,lG,Nat.add_zero]
omit hl in
theorem aCX{x:UInt8}{i:Nat}(hg:s[i]?=some x){K:(List UInt8)×(List UInt8)×Int×Int->O}{k1 k2:Unit->O}:∀(k c:Nat)(out:Tx)(m:Nat),c+k=127->out.length+k<=2^42->k<m->
    AE N m (s,out,(i:Int),(s.length:Int),(c:Int)) K k1 k2=K (s,out++mB x k c,(i:Int),127)
 |_,_,_,0,_,_,h=>by omega
 |0,c,out,m+1,hc,_,_=>by
   show Cb _ _ _ _ _ _ _ _=_;unfold Cb;simp only[];have:c=127:=by omega
   subst this;rw[aX (by omega),aM];simp[mB]
 |k+1,c,out,m+1,hc,ho,hm=>by
   have eu:dV (c:Int)=eW c:=by unfold dV;rw[show((c:Int)%256).toNat=c by omega]
   have ih:=λ(o':Tx)(h1:o'.length+k<=2^42)=>aCX hg (K:=K) (k1:=k1) (k2:=k2) k (c+1) o' m (by omega) h1 (by omega)
   have hpl:((c+1:Nat):Int)=(c:Int)+1:=by omega
   rw[hpl]at ih;show Cb _ _ _ _ _ _ _ _=_;unfold Cb;simp only[];rw[aU (by omega),bA,eu,aNj (by omega),dH,aNi (by omega),wr (x:=(c:Int)+1) (by omega) (by omega)];simp only[eN hg,Hm hg];unfold mB;by_cases h1:HM (eW c)=x
   .simp only[aU h1,gV,Bool.true_and]
    by_cases h2:x≠0
    .rw[aU h2,bA,aN ⟨h1,h2⟩,aG (aU (by simp;omega))]
     refine(ih _ (by simp;omega)).trans ?_;simp
    .rw[aX h2,aM,aF (λh=>h2 h.2)]
     refine(ih _ (by omega)).trans ?_;simp
   .simp only[aX h1,jG,aM]
    rw[aF (λh=>h1 h.1)];refine(ih _ (by omega)).trans ?_;simp
theorem LZ(hsN:s.length<N){K:(List UInt8)->O}{k1 k2:Unit->O}:∀(n:Nat)(r pre:Tx)(out:Tx)(m:Nat),r.length<=n->s=pre++r->out.length+r.length<=2^40->n<m->
    vS N m (s,out,(pre.length:Int)) K k1 k2=K (out++gJ false r)
 |_,_,_,_,0,_,_,_,h=>by omega
 |_,[],pre,out,m+1,_,hs,_,_=>by
   show Ca _ _ _ _ _ _ _ _=_;unfold Ca;simp only[];have h0:s.length=pre.length:=by rw[hs];simp
   rw[aX (by omega),aM];simp[gJ]
 |0,c::r,_,_,_,h,_,_,_=>by simp at h
 |n+1,c::r,pre,out,m+1,hn,hs,ho,hm=>by
   have h0:s.length=pre.length+(r.length+1):=by rw[hs];simp
   have hg:s[pre.length]?=some c:=by rw[hs,eP (cE _)];simp
   simp only[eB]at hn ho;show Ca _ _ _ _ _ _ _ _=_;unfold Ca;simp only[];rw[aU (by omega),bA,eN hg];unfold gJ;simp only[jG];rw[aF (show ¬ (false=true)by decide)];by_cases h2:c=60
   .rw[aU h2,bA,aN h2]
    have htw:(r.takeWhile jO).length+(r.dropWhile jO).length=r.length:=by
     rw[<-dO,a41]
    unfold LY;rw[aRb hN hl r pre c out N hs (by omega) (by omega)];simp only[];rw[wr (by omega) (by omega)];have ih:=LZ hsN (K:=K) (k1:=k1) (k2:=k2) n (r.dropWhile jO) (pre++[c]++r.takeWhile jO) (out++(r.takeWhile jO).map xS) m (by omega) (by rw[hs,iK,a41];simp) (by simp;omega) (by omega);have hpl:(((pre++[c]++r.takeWhile jO).length:Nat):Int)=((pre.length+(r.takeWhile jO).length:Nat):Int)+1:=by simp;omega
    rw[hpl]at ih;refine ih.trans ?_;rw[aG6,iK]
   .rw[aX h2,aM,eN hg,aF h2]
    have hsg:∀(k:Tx->O) ,(∀out',k out'=k out')->True:=λ_ _=>trivial
    have sg:∀(q:(List UInt8)->(List UInt8)->Int->Int->O),Fj N s out (pre.length:Int) (s.length:Int) 33 q=q s (out++mB c 94 33) (pre.length:Int) 127:=λq=>by
     unfold Fj;exact aCX hN hg (K:=λy=>q y.1 y.2.1 y.2.2.1 y.2.2.2) 94 33 out N rfl (by omega) (by omega)
    have tail:vS N m (s,out++mB c 94 33,aB.wrap ((pre.length:Int)+1)) K k1 k2=K (out++(mB c 94 33++gJ false r)):=by
     have hone:=(aGP c).1;have ih:=LZ hsN (K:=K) (k1:=k1) (k2:=k2) n r (pre++[c]) (out++mB c 94 33) m (by omega) (by rw[hs];simp) (by simp;omega) (by omega);have hpl:((pre++[c]).length:Int)=(pre.length:Int)+1:=by simp
     rw[hpl]at ih;rw[wr (by omega) (by omega)];refine ih.trans ?_;rw[iK]
    rw[wr (x:=(pre.length:Int)+1) (by omega) (by omega)];by_cases h3:c=48
    .rw[aN h3]
     cases r with
     |nil=>
       have hlen:s.length=pre.length+1:=by rw[h0];simp
       rw[aX (show ¬ ((pre.length:Int)+1<(s.length:Int))by omega),EX,aM,sg];refine tail.trans ?_;simp[gJ]
     |cons d r'=>
       have hg2:s[pre.length+1]?=some d:=by rw[hs,eP (by omega),show pre.length+1-pre.length=1 by omega];rfl
       simp only[eB]at h0 hn ho;have hd:=oZ (c:=d) (l:=eS);have hdl:(eS:Tx).length=26:=rfl;have e1:dV (aB.wrap ((97:Int)+max (Lib.indexByte eS d) 0))=eW (97+bN eS d):=by
        rw[wr (by omega) (by omega)];unfold dV bN
        congr 1
        omega
       rw[aU h3,aU (show(pre.length:Int)+1<(s.length:Int)by omega),a4q,bA,aAS,dH,aAR];rw[show(pre.length:Int)+1=((pre.length+1:Nat):Int)by omega,eN hg2,a1E hN,dH,a1D hN,e1,aG (aU (by simp;omega)),wr (by omega) (by omega)];have ih:=LZ hsN (K:=K) (k1:=k1) (k2:=k2) n r' (pre++[c,d]) (out++[eW (97+bN eS d)]) m (by omega) (by rw[hs];simp) (by simp;omega) (by omega);have hpl:(((pre++[c,d]).length:Nat):Int)=((pre.length+1:Nat):Int)+1:=by simp;omega
       rw[hpl]at ih;refine ih.trans ?_;simp
    .rw[aF h3,aX h3,jG,aM,sg]
     exact tail
end
theorem aRa{N:Nat}(hN:100<N){s:Tx}(hl:s.length<=2^39)(hsN:s.length<N):C9 N s=some (gJ false s):=by
 unfold C9 w46 SJ SF;refine(bG (λz:O=>z.bind LR) (LZ (N:=N) hN (s:=s) (by omega) hsN s.length s [] [] N (cE _) rfl (by simp;omega) hsN)).trans ?_;simp only[List.nil_append];rfl
end Go.Proofs
/- Decoding; the law on reading. -/
namespace Go.Proofs
open Go Go.Ax Go.Ax.aA
open Classical in
noncomputable def lE(l:Tx):Int×Int×List Ex×Int×Int:=
 if Lib.indexByte l 63<0 then(0,0,[],0,3)
 else if h:∃e,dJ e=0/\cO e=l.take (bN l 63+1)then(h.choose.op,h.choose.num,h.choose.kids,((bN l 63+1:Nat):Int),0)
 else(0,0,[],0,2)
theorem aIP{l:Tx}(h:Lib.indexByte l 63<0):lE l=(0,0,[],0,3):=by unfold lE;rw[aN h]
theorem a3I{l:Tx}(h:¬ Lib.indexByte l 63<0)(hn:¬ ∃e,dJ e=0/\cO e=l.take (bN l 63+1)):lE l=(0,0,[],0,2):=by
 unfold lE;rw[aF h,dif_neg hn]
theorem a3H{l:Tx}(h:¬ Lib.indexByte l 63<0){e:Ex}(hv:dJ e=0)(he:cO e=l.take (bN l 63+1)):lE l=(e.op,e.num,e.kids,((bN l 63+1:Nat):Int),0):=by
 have hx:∃e,dJ e=0/\cO e=l.take (bN l 63+1):=⟨e,hv,he⟩
 have h1:hx.choose=e:=a2t (N:=70000) (by omega) hx.choose_spec.1 hv (hx.choose_spec.2.trans he.symm);unfold lE;rw[aF h,dif_pos hx,h1]
theorem Wq(l:Tx):(Lib.indexByte l 63<0/\lE l=(0,0,[],0,3))\/(∃e,dJ e=0/\cO e=l.take (bN l 63+1)/\¬ Lib.indexByte l 63<0/\lE l=(e.op,e.num,e.kids,((bN l 63+1:Nat):Int),0))\/(¬ Lib.indexByte l 63<0/\(¬ ∃e,dJ e=0/\cO e=l.take (bN l 63+1))/\lE l=(0,0,[],0,2)):=by
 by_cases h:Lib.indexByte l 63<0
 .exact .inl ⟨h,aIP h⟩
 .by_cases hn:∃e,dJ e=0/\cO e=l.take (bN l 63+1)
  .obtain⟨e,hv,he⟩:=hn
   exact .inr (.inl ⟨e,hv,he,h,a3H h hv he⟩)
  .exact .inr (.inr ⟨h,hn,a3I h hn⟩)
theorem N9{l:Tx}{i:Nat}:dY l none (some (i:Int))=l.take i:=by
 show List.take _ _=_;rw[uV]
theorem aVP{N:Nat}(hN:70000<=N){l:Tx}(hl:l.length<=60000):nD N l=some (lE l):=by
 rcases Wq l with⟨h,e⟩|⟨e,hv,he,h,ee⟩|⟨h,hn,ee⟩
 .rw[e]
  have:=oZ (c:=63) (l:=l);unfold nD Mh GW;simp only[];rw[aG Cn,aU (show lA N l 63<0 from h),bA];rfl
 .rw[ee]
  have h1:=TV hN hv (l.drop (bN l 63+1)) (by simp;omega);have h2:=oZ (c:=63) (l:=l);have h3:(cO e).length=bN l 63+1:=by rw[he,lU];unfold bN;omega
  have h1':cO e++l.drop (bN l 63+1)=l:=by rw[he,List.take_append_drop]
  rw[h1',h3]at h1;exact h1
 .rw[ee]
  have hx:=oZ (c:=63) (l:=l);have hi:=Dw (aIy.1 h);have e1:aB.wrap (Lib.indexByte l 63+1)=((bN l 63+1:Nat):Int):=by rw[wr (by omega) (by omega)];omega
  have s1:dY l none (some (Lib.indexByte l 63))=l.take (bN l 63):=by rw[hi];exact N9
  have hpl:(l.take (bN l 63)).length<=60000:=by rw[lU];omega
  have q0:=aCv (N:=N) (l:=l.take (bN l 63)) (by omega) (by omega);have q1:=aCu (N:=N) (l:=l.take (bN l 63)) (by omega) (by omega);have q2:=aCt (N:=N) (l:=l.take (bN l 63)) (by omega) (by omega);have so1:eQ l.length none (some (Lib.indexByte l 63))=true:=by unfold eQ;exact aU (by omega)
  have so2:eQ l.length none (some ((bN l 63+1:Nat):Int))=true:=by unfold eQ;exact aU (by omega)
  unfold nD Mh GW;simp only[];rw[aG Cn,aX (show ¬ lA N l 63<0 from h),aM];simp only[Cm,e1,s1,q1,q2,N9];rw[so1,dH,q0,dH];cases ht:fK false (l.take (bN l 63))with
  |none=>rfl
  |some t=>
    simp only[Option.isSome_some,Option.getD_some,mN,aM];obtain⟨d,hd,d0,f,f1,f2,f3,f4⟩:=aGg hN t;have r1:=aCm hd;simp only[aCl hd,aCk hd,aCj hd,aCi hd,f1,f2,f3,Ex.eta,aFT hN (show aR f<=8500 by omega),aFS hN (show aR f<=8500 by omega),aFR hN (show aR f<=8500 by omega),aCf,aCe,r1,dH,so2,yI];have hc:(decide (d.2.2.2.2≠0)||decide (dJ f≠0)||!decide (cO f=l.take (bN l 63+1)))=true:=by
     by_cases hz:d.2.2.2.2=0
     .obtain⟨e,_,_,_,hv,hde,_,_⟩:=d0 hz
      have hef:f=e:=by
       rw[<-Ex.eta f,<-Ex.eta e,<-f1,<-f2,<-f3,hde]
      subst hef;have:¬ cO f=l.take (bN l 63+1):=λhh=>hn ⟨f,hv,hh⟩
      rw[aX this,iL,yI]
     .rw[aU hz,aJH,aJH]
    rw[hc,bA];rfl
theorem aVJ{N:Nat}(hN:70000<=N){l:Tx}(hl:l.length<=60000):pO N l=some (lE l):=by
 have hx:=oZ (c:=63) (l:=l);have p44:=SS (N:=N) (s:=l) (c:=63) (by omega) (by omega);have y44:=SR (N:=N) (s:=l) (c:=63) (by omega) (by omega);by_cases h:Lib.indexByte l 63<0
 .rw[aIP h]
  unfold pO TQ Mf;simp only[];rw[aG p44,aU (show k9 N l 63<0 by rw[y44];exact h),bA];rfl
 .have hi:=Dw (aIy.1 h)
  have e1:aB.wrap (Lib.indexByte l 63+1)=((bN l 63+1:Nat):Int):=by rw[wr (by omega) (by omega)];omega
  have s1:dY l none (some (Lib.indexByte l 63))=l.take (bN l 63):=by rw[hi];exact N9
  have hpl:(l.take (bN l 63)).length<=60000:=by rw[lU];omega
  have z46:=aRa (N:=N) (by omega) (s:=l.take (bN l 63)) (by omega) (by omega);have p46:LX N (l.take (bN l 63))=true:=by unfold LX;rw[z46];rfl
  have y46:LQ N (l.take (bN l 63))=gJ false (l.take (bN l 63)):=by unfold LQ;rw[z46];rfl
  have so1:eQ l.length none (some (Lib.indexByte l 63))=true:=by unfold eQ;exact aU (by omega)
  have so2:eQ l.length none (some ((bN l 63+1:Nat):Int))=true:=by unfold eQ;exact aU (by omega)
  obtain⟨d,hd',d0,f,f1,f2,f3,f4⟩:=aGg hN (gJ false (l.take (bN l 63)));have hd:=(aZM hN (gJ false (l.take (bN l 63)))).trans hd';have p45:L9 N (gJ false (l.take (bN l 63)))=true:=by unfold L9;rw[hd];rfl
  have y0:L6 N (gJ false (l.take (bN l 63)))=f.op:=by unfold L6;rw[hd];exact f1
  have y1:L5 N (gJ false (l.take (bN l 63)))=f.num:=by unfold L5;rw[hd];exact f2
  have y2:L4 N (gJ false (l.take (bN l 63)))=f.kids:=by unfold L4;rw[hd];exact f3
  have y4:L3 N (gJ false (l.take (bN l 63)))=d.2.2.2.2:=by unfold L3;rw[hd];rfl
  have hfl:=aIE (e:=f);have p14:=aWE (N:=N) (a:=cO f) (b:=l.take (bN l 63+1)) (by omega) (by omega);have y14:=aWD (N:=N) (a:=cO f) (b:=l.take (bN l 63+1)) (by omega) (by omega);unfold pO TQ Mf;simp only[];rw[aG p44,aX (show ¬ k9 N l 63<0 by rw[y44];exact h),aM];simp only[y44,e1,s1,y46,y0,y1,y2,y4,Ex.eta,N9,aEk hN (show aR f<=8500 by omega),aEj hN (show aR f<=8500 by omega),aWT hN (show aR f<=8500 by omega),p14,y14,so2,dH,yI];rw[so1,dH,p46,dH,p45,dH];rcases Wq l with⟨h',_⟩|⟨e,hv,he,_,ee⟩|⟨_,hn,ee⟩
  .exact absurd h' h
  .rw[ee]
   have hck:l.take (bN l 63)=dT 40 (cY e):=by
    have h3:(dT 40 (cY e)++[63]).length=bN l 63+1:=by rw[<-Wh hv,he,lU];omega
    have h4:(l.take (bN l 63+1)).take (bN l 63)=l.take (bN l 63):=by rw[List.take_take];congr 1;omega
    rw[<-h4,<-he,Wh hv];simp only[dO,eB,lG]at h3;rw[List.take_append_of_le_length (by omega),List.take_of_length_le (by omega)]
   have hdec:fK false (dT 40 (cY e))=some (cY e):=Wo (cY e) 40 (HG e);have hrt:gJ false (l.take (bN l 63))=cY e:=by rw[hck];exact H6 _ _ _ _ (cE _) hdec
   have hsz:=VF hv;have rd:=aGF hN (e:=e) (by omega) hv;rw[hrt]at hd';have hde:d=(e.op,e.num,e.kids,0,0):=Option.some.inj (hd'.symm.trans rd);have hef:f=e:=by rw[<-Ex.eta f,<-Ex.eta e,<-f1,<-f2,<-f3,hde]
   subst hef;rw[hde];simp only[hv,he,ne_eq,not_true_eq_false,decide_false,aM,decide_true,mN,Bool.or_self];rfl
  .rw[ee]
   by_cases hz:d.2.2.2.2=0
   .obtain⟨e,_,_,_,hv,hde,_,_⟩:=d0 hz
    have hef:f=e:=by rw[<-Ex.eta f,<-Ex.eta e,<-f1,<-f2,<-f3,hde]
    subst hef;have hne:¬ cO f=l.take (bN l 63+1):=λhh=>hn ⟨f,hv,hh⟩
    rw[aX (by simp[hz]),aM,aX hne,iL,yI,bA];rfl
   .rw[aU hz,bA];rfl
theorem a3J(l:Tx):∃e:Ex,(lE l).1=e.op/\(lE l).2.1=e.num/\(lE l).2.2.1=e.kids/\aR e<=256/\((lE l).2.2.2.2=0->dJ e=0/\cO e=l.take (bN l 63+1)/\((lE l).2.2.2.1=((cO e).length:Int))/\(cO e).length<=l.length):=by
 have hx:=oZ (c:=63) (l:=l);rcases Wq l with⟨_,e⟩|⟨e,hv,he,h,ee⟩|⟨_,_,e⟩
 .exact⟨Ex.mk 0 0 [],by rw[e];exact⟨rfl,rfl,rfl,by decide,λh=>by cases h⟩⟩
 .have hlen:((bN l 63+1:Nat):Int)=((cO e).length:Int)/\(cO e).length<=l.length:=by
   have hi:=Dw (aIy.1 h);rw[he,lU];omega
  refine⟨e,?_⟩;rw[ee];exact⟨rfl,rfl,rfl,VF hv,λ_=>⟨hv,he,hlen.1,hlen.2⟩⟩
 .exact⟨Ex.mk 0 0 [],by rw[e];exact⟨rfl,rfl,rfl,by decide,λh=>by cases h⟩⟩
end Go.Proofs
/- Cells with one changed: what comes of it is not longer than one more. -/
namespace Go.Proofs
open Go Go.Ax Go.Ax.aA
theorem aGO{n:Nat}{a:Int}(h:0<=a)(h2:a<=n):eQ n (some a) none=true:=by unfold eQ;exact aU ⟨h,h2⟩
theorem aGM{l:Tx}{a:Int}:(dY l (some a) none).length<=l.length-a.toNat:=by
 show(l.drop _).length<=_;simp
theorem aEQ{N:Nat}{l:Tx}{at1 how by3:Int}(hl:l.length<=2^30)(ha:gL at1)(hh:gL how)(hb:gL by3):∃r,DI N l at1 how by3=some r/\r.length<=l.length+1:=by
 have b1:=M6 (N:=N) hb (show(1:Int)<=64 by omega);have c1:=M6 (N:=N) hh (show(1:Int)<=4 by omega);have c2:=TH (N:=N) hh (show(1:Int)<=4 by omega);unfold DI w18 T0;simp only[b1,c1,c2,dH];by_cases h0:l.length=0
 .rw[aU (by omega),bA]
  exact⟨[dV (oL N by3 64)],rfl,by rw[kZ];omega⟩
 .have a1:=M6 (N:=N) ha (show(1:Int)<=(l.length:Int)by omega)
  have a2:=TH (N:=N) ha (show(1:Int)<=(l.length:Int)by omega);obtain⟨k1,k2⟩:=aI8 (x:=at1) (m:=(l.length:Int)) (by omega);simp only[a2];generalize qI at1 (l.length:Int)=k at k1 k2;obtain⟨i,rfl⟩:∃i:Nat,k=(i:Int):=⟨k.toNat,by omega⟩
  have f1:=GZ (N:=N) (l:=l) (m:=(i:Int)) k1 (by omega);have f2:=GY (N:=N) (l:=l) (m:=(i:Int)) k1 (by omega);rw[uV]at f2;have e1:aB.wrap ((i:Int)+1)=((i+1:Nat):Int):=by rw[wr (by omega) (by omega)];omega
  have g1:=aGM (l:=l) (a:=(i:Int));have g2:=aGM (l:=l) (a:=((i+1:Nat):Int));rw[uV]at g1 g2;have t1:(l.take i).length<=i:=by rw[lU];omega
  have so1:=aGO (n:=l.length) (a:=(i:Int)) (by omega) (by omega);have so2:=aGO (n:=l.length) (a:=((i+1:Nat):Int)) (by omega) (by omega);have hg:l[i]?=some (l.getD i 0):=getD_at (by omega);simp only[a1,dH,f1,f2,e1,so1,so2,eN hg];rw[aX (by omega),aM];have lm:∀{q:Tx},q.length<=2^40->cZ q.length 1=true:=λh=>jB (by omega) (by omega)
  generalize dV (oL N by3 64)=c;generalize l.getD i 0=c';generalize dY l (some (i:Int)) none=q1 at *
  generalize dY l (some ((i+1:Nat):Int)) none=q2 at *
  generalize l.take i=q0 at *
  have l1:(q0++[c]).length=q0.length+1:=by simp
  have l1':(q0++[c']).length=q0.length+1:=by simp
  have l2:(q0++[c]++q2).length=q0.length+1+q2.length:=by simp;omega
  have l3:(q0++q2).length=q0.length+q2.length:=by simp
  have l4:(q0++[c]++q1).length=q0.length+1+q1.length:=by simp;omega
  have l5:(q0++[c']++q1).length=q0.length+1+q1.length:=by simp;omega
  by_cases h1:qI how 4=0
  .rw[aU h1,bA,lm (by omega),dH,lm (by omega),dH]
   exact⟨q0++[c]++q2,rfl,by omega⟩
  .rw[aX h1,aM]
   by_cases h2:qI how 4=1
   .rw[aU h2,bA,lm (by omega),dH]
    exact⟨q0++q2,rfl,by omega⟩
   .rw[aX h2,aM]
    by_cases h3:qI how 4=2
    .rw[aU h3,bA,lm (by omega),dH,lm (by omega),dH]
     exact⟨q0++[c]++q1,rfl,by omega⟩
    .rw[aX h3,aM,lm (by omega),dH,lm (by omega),dH]
     exact⟨q0++[c']++q1,rfl,by omega⟩
end Go.Proofs
/- The law on reading. -/
namespace Go.Proofs
open Go Go.Ax Go.Ax.aA
theorem aBp{N:Nat}(hN:70000<=N){a:Int}{L:List Tx}(hL:∀l∈L,l.length<=60000)(hl:L.length<=100){K:Bool->O}{k1 k2:Unit->O}:∀(r pre:List Tx)(m:Nat),L=pre++r->r.length<m->
    zY N m (a,(pre.length:Int),L) K k1 k2=k1 ()
 |_,_,0,_,h=>by omega
 |[],pre,m+1,hs,_=>by
   show C5 _ _ _ _ _ _ _=_;unfold C5;simp only[];have h0:L.length=pre.length:=by rw[hs];simp
   rw[aX (by omega),aM]
 |x::r,pre,m+1,hs,hm=>by
   have hlt:pre.length<L.length:=by rw[hs];simp
   have hg:L[pre.length]?=some x:=by rw[hs,eP (cE _)];simp
   have hx:=hL x (by rw[hs];simp);have z20:=aVP hN hx;have z21:=aVJ hN hx;obtain⟨e,e1,e2,e3,hsz,_⟩:=a3J x;have p20:Mg N x=true:=by unfold Mg;rw[z20];rfl
   have y20:iV N x=e.op:=by unfold iV;rw[z20];exact e1
   have y20':iU N x=e.num:=by unfold iU;rw[z20];exact e2
   have y20'':iT N x=e.kids:=by unfold iT;rw[z20];exact e3
   have p21:Me N x=true:=by unfold Me;rw[z21];rfl
   have y21:iS N x=e.op:=by unfold iS;rw[z21];exact e1
   have y21':iR N x=e.num:=by unfold iR;rw[z21];exact e2
   have y21'':iQ N x=e.kids:=by unfold iQ;rw[z21];exact e3
   have y3:GU N x=GQ N x:=by unfold GU GQ;rw[z20,z21]
   have y4:GS N x=GP N x:=by unfold GS GP;rw[z20,z21]
   show C5 _ _ _ _ _ _ _=_;unfold C5;simp only[eN hg,y20,y20',y20'',y21,y21',y21'',y3,y4,p20,p21,Ex.eta,dH,aVB (N:=N) (e:=e) (f:=e) (by omega) (by omega) (by omega),aVA (N:=N) (e:=e) (f:=e) (by omega) (by omega) (by omega),aGV,ne_eq,not_true_eq_false,decide_false,Bool.or_self,mN,iL,yI,aM];rw[aU (by omega),bA,wr (by omega) (by omega)];have ih:=aBp hN (a:=a) hL hl (K:=K) (k1:=k1) (k2:=k2) r (pre++[x]) m (by rw[hs];simp) (by simp at hm;omega);have hpl:((pre++[x]).length:Int)=(pre.length:Int)+1:=by simp
   rw[hpl]at ih;exact ih
theorem a19{N:Nat}(hN:70000<=N){l:List Int}{at1 how by3:Int}{raw:Tx}(hl:∀x∈l,gL x)(hlen:l.length<2^60)(ha:gL at1)(hh:gL how)(hb:gL by3):Rl N l at1 how by3 raw=some true:=by
 obtain⟨e,g1,hs⟩:=aLV (N:=N) (by omega) hl hlen;have a0:JM N l=true:=by unfold JM;rw[g1];rfl
 have a1:JK N l=e.op:=by unfold JK;rw[g1];rfl
 have a2:JJ N l=e.num:=by unfold JJ;rw[g1];rfl
 have a3:JI N l=e.kids:=by unfold JI;rw[g1];rfl
 have hel:=aIE (e:=e);obtain⟨r,hr,hrl⟩:=aEQ (N:=N) (l:=cO e) (by omega) ha hh hb;have p18:A2 N (cO e) at1 how by3=true:=by unfold A2;rw[hr];rfl
 have y18:tH N (cO e) at1 how by3=r:=by unfold tH;rw[hr];rfl
 have hd:gL (how.tdiv 4):=by
  have h1:=Int.natAbs_tdiv how 4;have h2:(how.natAbs).div (4:Int).natAbs=how.natAbs / 4:=rfl;unfold gL at *
  omega
 have ed:aB.wrap (how.tdiv 4)=how.tdiv 4:=by unfold gL at hd;exact wr (by omega) (by omega)
 obtain⟨r',hr',hrl'⟩:=aEQ (N:=N) (l:=r) (by omega) hb hd ha;have p18':A2 N r by3 (how.tdiv 4) at1=true:=by unfold A2;rw[hr'];rfl
 have y18':tH N r by3 (how.tdiv 4) at1=r':=by unfold tH;rw[hr'];rfl
 have f60:=GZ (N:=N) (l:=raw) (m:=60) (by omega) (by omega);have f60':=GY (N:=N) (l:=raw) (m:=60) (by omega) (by omega);have f20:=GZ (N:=N) (l:=raw) (m:=20) (by omega) (by omega);have f20':=GY (N:=N) (l:=raw) (m:=20) (by omega) (by omega);have f9:=GZ (N:=N) (l:=raw) (m:=9) (by omega) (by omega);have f9':=GY (N:=N) (l:=raw) (m:=9) (by omega) (by omega);have fb:=GZ (N:=N) (l:=cO e) (m:=((cO e).length:Int)) (by omega) (by omega);have fb':=GY (N:=N) (l:=cO e) (m:=((cO e).length:Int)) (by omega) (by omega);rw[uV,List.take_length]at fb';have t60:(raw.take (60:Int).toNat).length<=60:=by rw[lU];omega
 have t20:(raw.take (20:Int).toNat).length<=20:=by rw[lU];omega
 have t9:(raw.take (9:Int).toNat).length<=9:=by rw[lU];omega
 unfold Rl w4 Rq;simp only[a0,a1,a2,a3,Ex.eta,aEk hN (show aR e<=8500 by omega),aEj hN (show aR e<=8500 by omega),p18,y18,ed,p18',y18',f60,f60',f20,f20',f9,f9',fb,fb',dH];rw[aG (jB (by rw[dO];omega) (by omega)),aG (jB (by rw[dO,kZ];omega) (by omega))];have hL:∀x∈([cO e,r,r',raw.take (60:Int).toNat,cO e++raw.take (20:Int).toNat,raw.take (9:Int).toNat++[63]]:List Tx),x.length<=60000:=by
  intro x hx;simp only[List.mem_cons,List.not_mem_nil,or_false]at hx;rcases hx with rfl|rfl|rfl|rfl|rfl|rfl
  .omega
  .omega
  .omega
  .omega
  .rw[dO];omega
  .rw[dO,kZ];omega
 unfold Rm;exact(bG (λz:O=>z.bind Kz) (aBp (N:=N) hN (a:=by3) hL (show(6:Nat)<=100 by omega) _ [] N rfl (show(6:Nat)<N by omega))).trans rfl
end Go.Proofs
/- Numbers that came in. -/
namespace Go.Proofs
open Go Go.Ax
theorem OW{z:Int}(h:qJ (.i .i64) z):gL z:=by
 have h:(Lit.int .i64 z).wf=true:=h;simp[Lit.wf]at h;have h1:aB.min = -9223372036854775808:=by decide
 rw[h1]at h;unfold gL;omega
theorem a1f{l:List Int}(h:qJ (.sl (.i .i64)) l):∀x∈l,gL x:=λx hx=>OW (h x hx)
theorem a1R{l:List Int}(h:r8 (.sl (.i .i64)) l):l.length<2^60:=by
 have h1:=h.1;have h2:l.length*8<=reachBytes:=h1;have h3:reachBytes=0x7ffffffff000:=rfl;omega
end Go.Proofs
