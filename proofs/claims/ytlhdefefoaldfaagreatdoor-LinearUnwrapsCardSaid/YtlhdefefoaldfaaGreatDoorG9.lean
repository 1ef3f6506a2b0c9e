/- Decoding. Conditions are in the theorems. -/
import Derived.Test.YtlhdefefoaldfaaGreatDoorG7
import Derived.Test.YtlhdefefoaldfaaGreatDoorGR
open Bool renaming and_false->Fj,and_self->SI,false_and->iU,not_false->gX,not_true->kU,or_true->tE,true_or->aNE
open Go.IntKind renaming i64->aC
open Int renaming not_lt->aMw,toNat_natCast->nC
open List renaming append_assoc->iC,append_nil->rI,getElem?_append_right->dW,length_append->dK,length_cons->dD,length_nil->j9,length_singleton->j8,length_take->kS,takeWhile_append_dropWhile->bAJ,takeWhile_cons_of_neg->bAH,takeWhile_cons_of_pos->bAG
open Nat renaming le_refl->bZ
open Option renaming map_eq_some_iff->cV
open UInt8 renaming ofNat->fF
/- Decoding: what both do with any cells. -/
namespace Go.Proofs
open Go Go.Ax Go.Ax.aA
theorem aFp{N:Nat}{s:Tx}{c:UInt8}(hl:s.length<=2^40){K:Int->O}{k1 k2:Unit->O}:∀(r pre:Tx)(m:Nat),s=pre++r->r.length<m->
    Ao N m (s,c,(pre.length:Int)) K k1 k2=if Lib.indexByte r c<0 then k1 ()else K ((pre.length:Int)+Lib.indexByte r c)
 |_,_,0,_,h=>by omega
 |[],pre,m+1,hs,_=>by
   show Dh _ _ _ _ _ _ _=_;unfold Dh;simp only[];have h0:s.length=pre.length:=by rw[hs];simp
   rw[aR (by omega),aK];rfl
 |x::r,pre,m+1,hs,hm=>by
   have hlt:pre.length<s.length:=by rw[hs];simp
   have hg:s[pre.length]?=some x:=by rw[hs,dW (bZ _)];simp
   have hx:=pQ (c:=c) (l:=r);show Dh _ _ _ _ _ _ _=_;unfold Dh;simp only[];rw[aQ (by omega),aX,dO hg];have e:Lib.indexByte (x::r) c=if x=c then 0 else if Lib.indexByte r c = -1 then -1 else Lib.indexByte r c+1:=by
    conv=>lhs;unfold Lib.indexByte
    by_cases h:x=c
    .simp[h]
    .simp[h]
   rw[e];by_cases h:x=c
   .rw[aQ h,aX,aJ h,aD (by omega),Int.add_zero]
   .rw[aR h,aK,aD h,wr (by omega) (by omega)]
    have ih:=aFp (N:=N) (s:=s) (c:=c) hl (K:=K) (k1:=k1) (k2:=k2) r (pre++[x]) m (by rw[hs];simp) (by simp at hm;omega);have hpl:((pre++[x]).length:Int)=(pre.length:Int)+1:=by simp
    rw[hpl]at ih;refine ih.trans ?_;by_cases h2:Lib.indexByte r c = -1
    .rw[aJ h2,aJ (by omega),aJ (by omega)]
    .rw[aD h2,aD (by omega),aD (by omega),show(pre.length:Int)+1+Lib.indexByte r c=(pre.length:Int)+(Lib.indexByte r c+1)by omega]
theorem aFo{N:Nat}{s:Tx}{c:UInt8}(hl:s.length<=2^40)(hN:s.length<N):Dg N s c=some (Lib.indexByte s c):=by
 have hx:=pQ (c:=c) (l:=s);unfold Dg w44 VT VN;refine(bE (λz:O=>z.bind Nc) (aFp (N:=N) (s:=s) (c:=c) hl s [] N rfl hN)).trans ?_;by_cases h:Lib.indexByte s c<0
 .rw[aJ h,show Lib.indexByte s c = -1 by omega];rfl
 .rw[aD h]
  simp only[j9];rw[show((0:Nat):Int)+Lib.indexByte s c=Lib.indexByte s c by omega];rfl
theorem VS{N:Nat}{s:Tx}{c:UInt8}(hl:s.length<=2^40)(hN:s.length<N):rV N s c=true:=by unfold rV;rw[aFo hl hN];rfl
theorem VR{N:Nat}{s:Tx}{c:UInt8}(hl:s.length<=2^40)(hN:s.length<N):lN N s c=Lib.indexByte s c:=by unfold lN;rw[aFo hl hN];rfl
def jT(c:UInt8):Bool:=decide (0<=Lib.indexByte eE c)
def yY(c:UInt8):UInt8:=fF (48+bN eE c)
theorem a8k{N:Nat}(hN:100<N){c:UInt8}:rV N eE c=true:=VS (s:=eE) (show(10:Nat)<=_ by omega) (show 10<N by omega)
theorem a8j{N:Nat}(hN:100<N){c:UInt8}:lN N eE c=Lib.indexByte eE c:=VR (s:=eE) (show(10:Nat)<=_ by omega) (show 10<N by omega)
theorem a6m{N:Nat}(hN:100<N){c:UInt8}:rV N fB c=true:=VS (s:=fB) (show(26:Nat)<=_ by omega) (show 26<N by omega)
theorem a6l{N:Nat}(hN:100<N){c:UInt8}:lN N fB c=Lib.indexByte fB c:=VR (s:=fB) (show(26:Nat)<=_ by omega) (show 26<N by omega)
theorem a9F{d:UInt8}(h:0<=Lib.indexByte eE d):eD (aC.wrap ((48:Int)+Lib.indexByte eE d))=yY d:=aAL (b:=48) (l:=eE) (c:=d) (by omega) (show(10:Nat)<=100 by omega) h
def Iz(c:UInt8):UInt8:=if dB.contains c then eS.getD (bN dB c) 0 else 0
theorem aD8{N:Nat}{c:UInt8}{K:UInt8->O}{k1 k2:Unit->O}:∀(r pre:Tx)(m:Nat),dB=pre++r->c∉r->r.length<m->
    wT N m (c,dB,(pre.length:Int)) K k1 k2=k1 ()
 |_,_,0,_,_,h=>by omega
 |[],pre,m+1,hs,_,_=>by
   show wU _ _ _ _ _ _ _=_;unfold wU;simp only[];have h0:dB.length=pre.length:=by rw[hs];simp
   rw[aR (by omega),aK]
 |x::r,pre,m+1,hs,hc,hm=>by
   have hl:dB.length=pre.length+(r.length+1):=by rw[hs];simp
   have hg:dB[pre.length]?=some x:=by rw[hs,dW (bZ _)];simp
   have h10:dB.length=10:=rfl;show wU _ _ _ _ _ _ _=_;unfold wU;simp only[];have hx:x≠c:=λe=>hc (by rw[e];exact List.mem_cons_self ..)
   rw[aQ (by omega),aX,dO hg,aR hx,aK,wr (by omega) (by omega)];have ih:=aD8 (N:=N) (c:=c) (K:=K) (k1:=k1) (k2:=k2) r (pre++[x]) m (by rw[hs];simp) (λh=>hc (List.mem_cons_of_mem _ h)) (by simp at hm;omega);have hpl:((pre++[x]).length:Int)=(pre.length:Int)+1:=by simp
   rw[hpl]at ih;exact ih
theorem aDa{N:Nat}(hN:10<N){c:UInt8}:wS N c=some (Iz c):=by
 unfold Iz;by_cases h:dB.contains c=true
 .rw[aJ h];exact aD7 hN h
 .rw[aD h]
  have hm:c∉dB:=by simpa using h
  unfold wS Tm Li Lf;exact(bE (λz:O=>z.bind G9) (aD8 (N:=N) (c:=c) dB [] N rfl hm hN)).trans rfl
theorem aSK{N:Nat}(hN:10<N){c:UInt8}:AX N c=true:=by unfold AX;rw[aDa hN];rfl
theorem aSJ{N:Nat}(hN:10<N){c:UInt8}:tO N c=Iz c:=by unfold tO;rw[aDa hN];rfl
def mP(x:UInt8):Nat->Nat->Tx
 |0,_=>[]
 |k+1,c=>(if Iz (fF c)=x/\x≠0 then[fF c]else[])++mP x k (c+1)
theorem aKE(x:UInt8):(mP x 94 33).length<=1/\(0<=Lib.indexByte eS x->mP x 94 33=[dB.getD (bN eS x) 0]):=by
 have:=nY (p:=λx=>decide ((mP x 94 33).length<=1)&&(!decide (0<=Lib.indexByte eS x)||mP x 94 33 == [dB.getD (bN eS x) 0])) (by kernel_rfl) x;simp only[Bool.and_eq_true,gG,Bool.or_eq_true,Bool.not_eq_true',decide_eq_false_iff_not,rB]at this;exact⟨this.1,λh=>this.2.resolve_left (λh'=>h' h)⟩
def gU:Bool->Tx->Tx
 |_,[]=>[]
 |num,c::l=>
   if num&&jT c then yY c::gU num l
   else if c=60 then gU true l
   else if c=48 then(match l with
    |[]=>mP c 94 33
    |d::l'=>fF (97+bN fB d)::gU false l')
   else mP c 94 33++gU false l
theorem JQ:∀(n:Nat)(l:Tx)(num:Bool)(t:Tx),l.length<=n->fT num l=some t->gU num l=t
 |_,[],_,t,_,h=>by simp[fT]at h;simp[gU,h]
 |0,c::l,_,_,h,_=>by simp at h
 |n+1,c::l,num,t,hn,h=>by
   simp only[dD]at hn;unfold fT at h;unfold gU jT yY;by_cases h1:(num&&decide (0<=Lib.indexByte eE c))=true
   .rw[aJ h1]at h ⊢
    obtain⟨t',ht,rfl⟩:=cV.1 h;rw[JQ n l num t' (by omega) ht]
   .rw[aD h1]at h ⊢
    by_cases h2:c=60
    .rw[aJ h2]at h ⊢
     exact JQ n l true t (by omega) h
    .rw[aD h2]at h ⊢
     by_cases h3:c=48
     .rw[aJ h3]at h ⊢
      cases l with
      |nil=>cases h
      |cons d l'=>
        simp only[dD]at hn h ⊢;split at h
        .cases h
        .obtain⟨t',ht,rfl⟩:=cV.1 h
         rw[JQ n l' false t' (by omega) ht]
     .rw[aD h3]at h ⊢
      split at h
      .cases h
      .rename_i h4
       obtain⟨t',ht,rfl⟩:=cV.1 h;rw[JQ n l false t' (by omega) ht,(aKE c).2 (by omega)];rfl
theorem aKX:∀(l:Tx),gU true l=(l.takeWhile jT).map yY++gU false (l.dropWhile jT)
 |[]=>by simp[gU]
 |c::l=>by
   by_cases h:jT c=true
   .rw[bAG h,List.dropWhile_cons_of_pos h]
    conv=>lhs;unfold gU
    rw[aJ (by rw[h];rfl),aKX l];rfl
   .rw[bAH h,List.dropWhile_cons_of_neg h]
    unfold gU;have h:jT c=false:=by simpa using h
    simp[h]
section
variable{N:Nat}(hN:100<N){s:Tx}(hl:s.length<=2^40)
include hN hl
omit hN in
theorem aWH{K:(List UInt8)×(List UInt8)×Int->O}{k1 k2:Unit->O}{i:Nat}{out:Tx}{m:Nat}(h0:s.length=i+1):
    rU N (m+1) (s,out,(i:Int)) K k1 k2=K (s,out,(i:Int)):=by
 show Db _ _ _ _ _ _=_;unfold Db;simp only[];rw[wr (x:=(i:Int)+1) (by omega) (by omega),aR (by omega)];simp only[gX,aNE,cP,RO,iU,aK]
theorem aWG{K:(List UInt8)×(List UInt8)×Int->O}{k1 k2:Unit->O}{i:Nat}{out:Tx}{m:Nat}{d:UInt8}(hg:s[i+1]?=some d)(ho:out.length<=2^41):
    rU N (m+1) (s,out,(i:Int)) K k1 k2=if jT d=true then rU N m (s,out++[yY d],((i+1:Nat):Int)) K k1 k2 else K (s,out,(i:Int)):=by
 have h0:i+1<s.length:=(List.getElem?_eq_some_iff.1 hg).1;show Db _ _ _ _ _ _=_;unfold Db;simp only[];rw[wr (x:=(i:Int)+1) (by omega) (by omega),aQ (by omega)];rw[show(i:Int)+1=((i+1:Nat):Int)by omega];have y44:lN N (qE N) d=Lib.indexByte eE d:=a8j hN;have p44:rV N (qE N) d=true:=a8k hN;rw[aI (show(!true||AZ N)=true from rfl),vJ hg,aJ rfl,p44,y44,aI (show(!true||true)=true from rfl)];by_cases h:jT d=true
 .have h':0<=Lib.indexByte eE d:=cU h
  rw[aQ h',SI,aX,aJ h,aI aDq,dO hg,p44,y44,aI rfl,a9F h',aI (aQ (by rw[j8];omega))]
 .have h':¬ 0<=Lib.indexByte eE d:=λhh=>h (aQ hh)
  rw[aR h',Fj,aK,aD h]
theorem aWF{K:(List UInt8)×(List UInt8)×Int->O}{k1 k2:Unit->O}(r:Tx):∀(pre:Tx)(c0:UInt8)(out:Tx)(m:Nat),s=pre++c0::r->out.length+r.length<=2^41->r.length<m->
    rU N m (s,out,(pre.length:Int)) K k1 k2=K (s,out++(r.takeWhile jT).map yY,((pre.length+(r.takeWhile jT).length:Nat):Int)):=by
 induction r with
 |nil=>
   intro pre c0 out m hs ho hm;obtain⟨m,rfl⟩:∃k,m=k+1:=⟨m-1,by simp at hm;omega⟩
   rw[aWH hl (by rw[hs];simp),List.takeWhile_nil,List.map_nil,rI,j9,Nat.add_zero]
 |cons d r ih=>
   intro pre c0 out m hs ho hm;simp only[dD]at ho hm;obtain⟨m,rfl⟩:∃k,m=k+1:=⟨m-1,by omega⟩
   have hg:s[pre.length+1]?=some d:=by rw[hs,dW (by omega),show pre.length+1-pre.length=1 by omega];rfl
   rw[aWG hN hl hg (by omega)];by_cases h:jT d=true
   .have ih:=ih (pre++[c0]) d (out++[yY d]) m (by rw[hs];simp) (by simp;omega) (by omega)
    have hpl:(pre++[c0]).length=pre.length+1:=by simp
    rw[hpl]at ih;rw[aJ h,ih,bAG h,List.map_cons,dD,iC,List.singleton_append];rw[show pre.length+1+(r.takeWhile jT).length=pre.length+((r.takeWhile jT).length+1)by omega]
   .rw[aD h,bAH h,List.map_nil,rI,j9,Nat.add_zero]
omit hl in
theorem aFd{x:UInt8}{i:Nat}(hg:s[i]?=some x){K:(List UInt8)×(List UInt8)×Int×Int->O}{k1 k2:Unit->O}:∀(k c:Nat)(out:Tx)(m:Nat),c+k=127->out.length+k<=2^42->k<m->
    Ak N m (s,out,(i:Int),(s.length:Int),(c:Int)) K k1 k2=K (s,out++mP x k c,(i:Int),127)
 |_,_,_,0,_,_,h=>by omega
 |0,c,out,m+1,hc,_,_=>by
   show Da _ _ _ _ _ _ _ _=_;unfold Da;simp only[];have:c=127:=by omega
   subst this;rw[aR (by omega),aK];simp[mP]
 |k+1,c,out,m+1,hc,ho,hm=>by
   have eu:eD (c:Int)=fF c:=by unfold eD;rw[show((c:Int)%256).toNat=c by omega]
   have ih:=λ(o':Tx)(h1:o'.length+k<=2^42)=>aFd hg (K:=K) (k1:=k1) (k2:=k2) k (c+1) o' m (by omega) h1 (by omega)
   have hpl:((c+1:Nat):Int)=(c:Int)+1:=by omega
   rw[hpl]at ih;show Da _ _ _ _ _ _ _ _=_;unfold Da;simp only[];rw[aQ (by omega),aX,eu,aSK (by omega),cP,aSJ (by omega),wr (x:=(c:Int)+1) (by omega) (by omega)];simp only[dO hg,vJ hg];unfold mP;by_cases h1:Iz (fF c)=x
   .simp only[aQ h1,gZ,Bool.true_and]
    by_cases h2:x≠0
    .rw[aQ h2,aX,aJ ⟨h1,h2⟩,aI (aQ (by simp;omega))]
     refine(ih _ (by simp;omega)).trans ?_;simp
    .rw[aR h2,aK,aD (λh=>h2 h.2)]
     refine(ih _ (by omega)).trans ?_;simp
   .simp only[aR h1,iU,aK]
    rw[aD (λh=>h1 h.1)];refine(ih _ (by omega)).trans ?_;simp
theorem NW(hsN:s.length<N){K:(List UInt8)->O}{k1 k2:Unit->O}:∀(n:Nat)(r pre:Tx)(out:Tx)(m:Nat),r.length<=n->s=pre++r->out.length+r.length<=2^40->n<m->
    wZ N m (s,out,(pre.length:Int)) K k1 k2=K (out++gU false r)
 |_,_,_,_,0,_,_,_,h=>by omega
 |_,[],pre,out,m+1,_,hs,_,_=>by
   show D9 _ _ _ _ _ _ _ _=_;unfold D9;simp only[];have h0:s.length=pre.length:=by rw[hs];simp
   rw[aR (by omega),aK];simp[gU]
 |0,c::r,_,_,_,h,_,_,_=>by simp at h
 |n+1,c::r,pre,out,m+1,hn,hs,ho,hm=>by
   have h0:s.length=pre.length+(r.length+1):=by rw[hs];simp
   have hg:s[pre.length]?=some c:=by rw[hs,dW (bZ _)];simp
   simp only[dD]at hn ho;show D9 _ _ _ _ _ _ _ _=_;unfold D9;simp only[];rw[aQ (by omega),aX,dO hg];unfold gU;simp only[iU];rw[aD (show ¬ (false=true)by decide)];by_cases h2:c=60
   .rw[aQ h2,aX,aJ h2]
    have htw:(r.takeWhile jT).length+(r.dropWhile jT).length=r.length:=by
     rw[<-dK,bAJ]
    unfold NV;rw[aWF hN hl r pre c out N hs (by omega) (by omega)];simp only[];rw[wr (by omega) (by omega)];have ih:=NW hsN (K:=K) (k1:=k1) (k2:=k2) n (r.dropWhile jT) (pre++[c]++r.takeWhile jT) (out++(r.takeWhile jT).map yY) m (by omega) (by rw[hs,iC,bAJ];simp) (by simp;omega) (by omega);have hpl:(((pre++[c]++r.takeWhile jT).length:Nat):Int)=((pre.length+(r.takeWhile jT).length:Nat):Int)+1:=by simp;omega
    rw[hpl]at ih;refine ih.trans ?_;rw[aKX,iC]
   .rw[aR h2,aK,dO hg,aD h2]
    have hsg:∀(k:Tx->O) ,(∀out',k out'=k out')->True:=λ_ _=>trivial
    have sg:∀(q:(List UInt8)->(List UInt8)->Int->Int->O),HJ N s out (pre.length:Int) (s.length:Int) 33 q=q s (out++mP c 94 33) (pre.length:Int) 127:=λq=>by
     unfold HJ;exact aFd hN hg (K:=λy=>q y.1 y.2.1 y.2.2.1 y.2.2.2) 94 33 out N rfl (by omega) (by omega)
    have tail:wZ N m (s,out++mP c 94 33,aC.wrap ((pre.length:Int)+1)) K k1 k2=K (out++(mP c 94 33++gU false r)):=by
     have hone:=(aKE c).1;have ih:=NW hsN (K:=K) (k1:=k1) (k2:=k2) n r (pre++[c]) (out++mP c 94 33) m (by omega) (by rw[hs];simp) (by simp;omega) (by omega);have hpl:((pre++[c]).length:Int)=(pre.length:Int)+1:=by simp
     rw[hpl]at ih;rw[wr (by omega) (by omega)];refine ih.trans ?_;rw[iC]
    rw[wr (x:=(pre.length:Int)+1) (by omega) (by omega)];by_cases h3:c=48
    .rw[aJ h3]
     cases r with
     |nil=>
       have hlen:s.length=pre.length+1:=by rw[h0];simp
       rw[aR (show ¬ ((pre.length:Int)+1<(s.length:Int))by omega),Fj,aK,sg];refine tail.trans ?_;simp[gU]
     |cons d r'=>
       have hg2:s[pre.length+1]?=some d:=by rw[hs,dW (by omega),show pre.length+1-pre.length=1 by omega];rfl
       simp only[dD]at h0 hn ho;have hd:=pQ (c:=d) (l:=fB);have hdl:(fB:Tx).length=26:=rfl;have e1:eD (aC.wrap ((97:Int)+max (Lib.indexByte fB d) 0))=fF (97+bN fB d):=by
        rw[wr (by omega) (by omega)];unfold eD bN
        congr 1
        omega
       rw[aQ h3,aQ (show(pre.length:Int)+1<(s.length:Int)by omega),SI,aX,aDf,cP,aDe];rw[show(pre.length:Int)+1=((pre.length+1:Nat):Int)by omega,dO hg2,a6m hN,cP,a6l hN,e1,aI (aQ (by simp;omega)),wr (by omega) (by omega)];have ih:=NW hsN (K:=K) (k1:=k1) (k2:=k2) n r' (pre++[c,d]) (out++[fF (97+bN fB d)]) m (by omega) (by rw[hs];simp) (by simp;omega) (by omega);have hpl:(((pre++[c,d]).length:Nat):Int)=((pre.length+1:Nat):Int)+1:=by simp;omega
       rw[hpl]at ih;refine ih.trans ?_;simp
    .rw[aD h3,aR h3,iU,aK,sg]
     exact tail
end
theorem aWE{N:Nat}(hN:100<N){s:Tx}(hl:s.length<=2^39)(hsN:s.length<N):D8 N s=some (gU false s):=by
 unfold D8 w46 VJ VF;refine(bE (λz:O=>z.bind NP) (NW (N:=N) hN (s:=s) (by omega) hsN s.length s [] [] N (bZ _) rfl (by simp;omega) hsN)).trans ?_;simp only[List.nil_append];rfl
end Go.Proofs
/- Decoding; the law on reading. -/
namespace Go.Proofs
open Go Go.Ax Go.Ax.aA
open Classical in
noncomputable def fU(l:Tx):Int×Int×List Ex×Int×Int:=
 if Lib.indexByte l 63<0 then(0,0,[],0,3)
 else if h:∃e,c9 e=0/\cH e=l.take (bN l 63+1)then(h.choose.op,h.choose.num,h.choose.kids,((bN l 63+1:Nat):Int),0)
 else(0,0,[],0,2)
theorem aMK{l:Tx}(h:Lib.indexByte l 63<0):fU l=(0,0,[],0,3):=by unfold fU;rw[aJ h]
theorem a8r{l:Tx}(h:¬ Lib.indexByte l 63<0)(hn:¬ ∃e,c9 e=0/\cH e=l.take (bN l 63+1)):fU l=(0,0,[],0,2):=by
 unfold fU;rw[aD h,dif_neg hn]
theorem a8q{l:Tx}(h:¬ Lib.indexByte l 63<0){e:Ex}(hv:c9 e=0)(he:cH e=l.take (bN l 63+1)):fU l=(e.op,e.num,e.kids,((bN l 63+1:Nat):Int),0):=by
 have hx:∃e,c9 e=0/\cH e=l.take (bN l 63+1):=⟨e,hv,he⟩
 have h1:hx.choose=e:=aLz (N:=70000) (by omega) hx.choose_spec.1 hv (hx.choose_spec.2.trans he.symm);unfold fU;rw[aD h,dif_pos hx,h1]
theorem aAH(l:Tx):(Lib.indexByte l 63<0/\fU l=(0,0,[],0,3))\/(∃e,c9 e=0/\cH e=l.take (bN l 63+1)/\¬ Lib.indexByte l 63<0/\fU l=(e.op,e.num,e.kids,((bN l 63+1:Nat):Int),0))\/(¬ Lib.indexByte l 63<0/\(¬ ∃e,c9 e=0/\cH e=l.take (bN l 63+1))/\fU l=(0,0,[],0,2)):=by
 by_cases h:Lib.indexByte l 63<0
 .exact .inl ⟨h,aMK h⟩
 .by_cases hn:∃e,c9 e=0/\cH e=l.take (bN l 63+1)
  .obtain⟨e,hv,he⟩:=hn
   exact .inr (.inl ⟨e,hv,he,h,a8q h hv he⟩)
  .exact .inr (.inr ⟨h,hn,a8r h hn⟩)
theorem QQ{l:Tx}{i:Nat}:c8 l none (some (i:Int))=l.take i:=by
 show List.take _ _=_;rw[nC]
theorem aHt{N:Nat}(hN:70000<=N){l:Tx}(hl:l.length<=60000):nT N l=some (fU l):=by
 rcases aAH l with⟨h,e⟩|⟨e,hv,he,h,ee⟩|⟨h,hn,ee⟩
 .rw[e]
  have:=pQ (c:=63) (l:=l);unfold nT PW IE;simp only[];rw[aI Dm,aQ (show lO N l 63<0 from h),aX];rfl
 .rw[ee]
  have h1:=PV hN hv (l.drop (bN l 63+1)) (by simp;omega);have h2:=pQ (c:=63) (l:=l);have h3:(cH e).length=bN l 63+1:=by rw[he,kS];unfold bN;omega
  have h1':cH e++l.drop (bN l 63+1)=l:=by rw[he,List.take_append_drop]
  rw[h1',h3]at h1;exact h1
 .rw[ee]
  have hx:=pQ (c:=63) (l:=l);have hi:=FP (aMw.1 h);have e1:aC.wrap (Lib.indexByte l 63+1)=((bN l 63+1:Nat):Int):=by rw[wr (by omega) (by omega)];omega
  have s1:c8 l none (some (Lib.indexByte l 63))=l.take (bN l 63):=by rw[hi];exact QQ
  have hpl:(l.take (bN l 63)).length<=60000:=by rw[kS];omega
  have q0:=aGI (N:=N) (l:=l.take (bN l 63)) (by omega) (by omega);have q1:=aGH (N:=N) (l:=l.take (bN l 63)) (by omega) (by omega);have q2:=aGG (N:=N) (l:=l.take (bN l 63)) (by omega) (by omega);have so1:dX l.length none (some (Lib.indexByte l 63))=true:=by unfold dX;exact aQ (by omega)
  have so2:dX l.length none (some ((bN l 63+1:Nat):Int))=true:=by unfold dX;exact aQ (by omega)
  unfold nT PW IE;simp only[];rw[aI Dm,aR (show ¬ lO N l 63<0 from h),aK];simp only[Dl,e1,s1,q1,q2,QQ];rw[so1,cP,q0,cP];cases ht:fT false (l.take (bN l 63))with
  |none=>rfl
  |some t=>
    simp only[Option.isSome_some,Option.getD_some,kU,aK];obtain⟨d,hd,d0,f,f1,f2,f3,f4⟩:=aK7 hN t;have r1:=aFz hd;simp only[aFy hd,aFx hd,aFw hd,aFv hd,f1,f2,f3,Ex.eta,Xj hN (show aT f<=8500 by omega),Xi hN (show aT f<=8500 by omega),Xh hN (show aT f<=8500 by omega),VX,VW,r1,cP,so2,tE];have hc:(decide (d.2.2.2.2≠0)||decide (c9 f≠0)||!decide (cH f=l.take (bN l 63+1)))=true:=by
     by_cases hz:d.2.2.2.2=0
     .obtain⟨e,_,_,_,hv,hde,_,_⟩:=d0 hz
      have hef:f=e:=by
       rw[<-Ex.eta f,<-Ex.eta e,<-f1,<-f2,<-f3,hde]
      subst hef;have:¬ cH f=l.take (bN l 63+1):=λhh=>hn ⟨f,hv,hh⟩
      rw[aR this,gX,tE]
     .rw[aQ hz,aNE,aNE]
    rw[hc,aX];rfl
theorem a05{N:Nat}(hN:70000<=N){l:Tx}(hl:l.length<=60000):qH N l=some (fU l):=by
 have hx:=pQ (c:=63) (l:=l);have p44:=VS (N:=N) (s:=l) (c:=63) (by omega) (by omega);have y44:=VR (N:=N) (s:=l) (c:=63) (by omega) (by omega);by_cases h:Lib.indexByte l 63<0
 .rw[aMK h]
  unfold qH We PU;simp only[];rw[aI p44,aQ (show lN N l 63<0 by rw[y44];exact h),aX];rfl
 .have hi:=FP (aMw.1 h)
  have e1:aC.wrap (Lib.indexByte l 63+1)=((bN l 63+1:Nat):Int):=by rw[wr (by omega) (by omega)];omega
  have s1:c8 l none (some (Lib.indexByte l 63))=l.take (bN l 63):=by rw[hi];exact QQ
  have hpl:(l.take (bN l 63)).length<=60000:=by rw[kS];omega
  have z46:=aWE (N:=N) (by omega) (s:=l.take (bN l 63)) (by omega) (by omega);have p46:NU N (l.take (bN l 63))=true:=by unfold NU;rw[z46];rfl
  have y46:NO N (l.take (bN l 63))=gU false (l.take (bN l 63)):=by unfold NO;rw[z46];rfl
  have so1:dX l.length none (some (Lib.indexByte l 63))=true:=by unfold dX;exact aQ (by omega)
  have so2:dX l.length none (some ((bN l 63+1:Nat):Int))=true:=by unfold dX;exact aQ (by omega)
  obtain⟨d,hd',d0,f,f1,f2,f3,f4⟩:=aK7 hN (gU false (l.take (bN l 63)));have hd:=(a4q hN (gU false (l.take (bN l 63)))).trans hd';have p45:N6 N (gU false (l.take (bN l 63)))=true:=by unfold N6;rw[hd];rfl
  have y0:N3 N (gU false (l.take (bN l 63)))=f.op:=by unfold N3;rw[hd];exact f1
  have y1:N2 N (gU false (l.take (bN l 63)))=f.num:=by unfold N2;rw[hd];exact f2
  have y2:N1 N (gU false (l.take (bN l 63)))=f.kids:=by unfold N1;rw[hd];exact f3
  have y4:N0 N (gU false (l.take (bN l 63)))=d.2.2.2.2:=by unfold N0;rw[hd];rfl
  have hfl:=F0 (e:=f);have p14:=aIW (N:=N) (a:=cH f) (b:=l.take (bN l 63+1)) (by omega) (by omega);have y14:=aIV (N:=N) (a:=cH f) (b:=l.take (bN l 63+1)) (by omega) (by omega);unfold qH We PU;simp only[];rw[aI p44,aR (show ¬ lN N l 63<0 by rw[y44];exact h),aK];simp only[y44,e1,s1,y46,y0,y1,y2,y4,Ex.eta,QQ,aIc hN (show aT f<=8500 by omega),aIb hN (show aT f<=8500 by omega),aIa hN (show aT f<=8500 by omega),p14,y14,so2,cP,tE];rw[so1,cP,p46,cP,p45,cP];rcases aAH l with⟨h',_⟩|⟨e,hv,he,_,ee⟩|⟨_,hn,ee⟩
  .exact absurd h' h
  .rw[ee]
   have hck:l.take (bN l 63)=dQ 40 (c7 e):=by
    have h3:(dQ 40 (c7 e)++[63]).length=bN l 63+1:=by rw[<-Jg hv,he,kS];omega
    have h4:(l.take (bN l 63+1)).take (bN l 63)=l.take (bN l 63):=by rw[List.take_take];congr 1;omega
    rw[<-h4,<-he,Jg hv];simp only[dK,dD,j9]at h3;rw[List.take_append_of_le_length (by omega),List.take_of_length_le (by omega)]
   have hdec:fT false (dQ 40 (c7 e))=some (c7 e):=aAF (c7 e) 40 (Iu e);have hrt:gU false (l.take (bN l 63))=c7 e:=by rw[hck];exact JQ _ _ _ _ (bZ _) hdec
   have hsz:=QY hv;have rd:=aJu hN (e:=e) (by omega) hv;rw[hrt]at hd';have hde:d=(e.op,e.num,e.kids,0,0):=Option.some.inj (hd'.symm.trans rd);have hef:f=e:=by rw[<-Ex.eta f,<-Ex.eta e,<-f1,<-f2,<-f3,hde]
   subst hef;rw[hde];simp only[hv,he,ne_eq,not_true_eq_false,decide_false,aK,decide_true,kU,Bool.or_self];rfl
  .rw[ee]
   by_cases hz:d.2.2.2.2=0
   .obtain⟨e,_,_,_,hv,hde,_,_⟩:=d0 hz
    have hef:f=e:=by rw[<-Ex.eta f,<-Ex.eta e,<-f1,<-f2,<-f3,hde]
    subst hef;have hne:¬ cH f=l.take (bN l 63+1):=λhh=>hn ⟨f,hv,hh⟩
    rw[aR (by simp[hz]),aK,aR hne,gX,tE,aX];rfl
   .rw[aQ hz,aX];rfl
theorem aML(l:Tx):∃e:Ex,(fU l).1=e.op/\(fU l).2.1=e.num/\(fU l).2.2.1=e.kids/\aT e<=256/\((fU l).2.2.2.2=0->c9 e=0/\cH e=l.take (bN l 63+1)/\((fU l).2.2.2.1=((cH e).length:Int))/\(cH e).length<=l.length):=by
 have hx:=pQ (c:=63) (l:=l);rcases aAH l with⟨_,e⟩|⟨e,hv,he,h,ee⟩|⟨_,_,e⟩
 .exact⟨Ex.mk 0 0 [],by rw[e];exact⟨rfl,rfl,rfl,by decide,λh=>by cases h⟩⟩
 .have hlen:((bN l 63+1:Nat):Int)=((cH e).length:Int)/\(cH e).length<=l.length:=by
   have hi:=FP (aMw.1 h);rw[he,kS];omega
  refine⟨e,?_⟩;rw[ee];exact⟨rfl,rfl,rfl,QY hv,λ_=>⟨hv,he,hlen.1,hlen.2⟩⟩
 .exact⟨Ex.mk 0 0 [],by rw[e];exact⟨rfl,rfl,rfl,by decide,λh=>by cases h⟩⟩
end Go.Proofs
/- Cells with one changed: what comes of it is not longer than one more. -/
namespace Go.Proofs
open Go Go.Ax Go.Ax.aA
theorem QX{n:Nat}{a:Int}(h:0<=a)(h2:a<=n):dX n (some a) none=true:=by unfold dX;exact aQ ⟨h,h2⟩
theorem aKC{l:Tx}{a:Int}:(c8 l (some a) none).length<=l.length-a.toNat:=by
 show(l.drop _).length<=_;simp
theorem a0m{N:Nat}{l:Tx}{at1 how by3:Int}(hl:l.length<=2^30)(ha:iD at1)(hh:iD how)(hb:iD by3):∃r,ES N l at1 how by3=some r/\r.length<=l.length+1:=by
 have b1:=EL (N:=N) hb (show(1:Int)<=64 by omega);have c1:=EL (N:=N) hh (show(1:Int)<=4 by omega);have c2:=PL (N:=N) hh (show(1:Int)<=4 by omega);unfold ES w18 Wn;simp only[b1,c1,c2,cP];by_cases h0:l.length=0
 .rw[aQ (by omega),aX]
  exact⟨[eD (k8 N by3 64)],rfl,by rw[j8];omega⟩
 .have a1:=EL (N:=N) ha (show(1:Int)<=(l.length:Int)by omega)
  have a2:=PL (N:=N) ha (show(1:Int)<=(l.length:Int)by omega);obtain⟨k1,k2⟩:=aA5 (x:=at1) (m:=(l.length:Int)) (by omega);simp only[a2];generalize pV at1 (l.length:Int)=k at k1 k2;obtain⟨i,rfl⟩:∃i:Nat,k=(i:Int):=⟨k.toNat,by omega⟩
  have f1:=aHz (N:=N) (l:=l) (m:=(i:Int)) k1 (by omega);have f2:=aHy (N:=N) (l:=l) (m:=(i:Int)) k1 (by omega);rw[nC]at f2;have e1:aC.wrap ((i:Int)+1)=((i+1:Nat):Int):=by rw[wr (by omega) (by omega)];omega
  have g1:=aKC (l:=l) (a:=(i:Int));have g2:=aKC (l:=l) (a:=((i+1:Nat):Int));rw[nC]at g1 g2;have t1:(l.take i).length<=i:=by rw[kS];omega
  have so1:=QX (n:=l.length) (a:=(i:Int)) (by omega) (by omega);have so2:=QX (n:=l.length) (a:=((i+1:Nat):Int)) (by omega) (by omega);have hg:l[i]?=some (l.getD i 0):=getD_at (by omega);simp only[a1,cP,f1,f2,e1,so1,so2,dO hg];rw[aR (by omega),aK];have lm:∀{q:Tx},q.length<=2^40->cF q.length 1=true:=λh=>gV (by omega) (by omega)
  generalize eD (k8 N by3 64)=c;generalize l.getD i 0=c';generalize c8 l (some (i:Int)) none=q1 at *
  generalize c8 l (some ((i+1:Nat):Int)) none=q2 at *
  generalize l.take i=q0 at *
  have l1:(q0++[c]).length=q0.length+1:=by simp
  have l1':(q0++[c']).length=q0.length+1:=by simp
  have l2:(q0++[c]++q2).length=q0.length+1+q2.length:=by simp;omega
  have l3:(q0++q2).length=q0.length+q2.length:=by simp
  have l4:(q0++[c]++q1).length=q0.length+1+q1.length:=by simp;omega
  have l5:(q0++[c']++q1).length=q0.length+1+q1.length:=by simp;omega
  by_cases h1:pV how 4=0
  .rw[aQ h1,aX,lm (by omega),cP,lm (by omega),cP]
   exact⟨q0++[c]++q2,rfl,by omega⟩
  .rw[aR h1,aK]
   by_cases h2:pV how 4=1
   .rw[aQ h2,aX,lm (by omega),cP]
    exact⟨q0++q2,rfl,by omega⟩
   .rw[aR h2,aK]
    by_cases h3:pV how 4=2
    .rw[aQ h3,aX,lm (by omega),cP,lm (by omega),cP]
     exact⟨q0++[c]++q1,rfl,by omega⟩
    .rw[aR h3,aK,lm (by omega),cP,lm (by omega),cP]
     exact⟨q0++[c']++q1,rfl,by omega⟩
end Go.Proofs
