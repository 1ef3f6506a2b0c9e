/- ListingReads in plain words. Conditions are in the theorems. -/
import Derived.Test.YtihfefggdgiodaaGreatDoorF9
import Derived.Test.YtihfefggdgiodaaGreatDoorG4
open Bool renaming false_or->jG
open Go.IntKind renaming i64->aS
open Int renaming toNat_natCast->iT
open List renaming flatten_append->tT,flatten_cons->fR,getElem?_eq_getElem->bM,getElem_mem->pV,length_append->bF,length_drop->jM,length_nil->iJ,length_set->iI,length_singleton->Ti,length_take->fL,nil_append->fK,take_of_length_le->iS
open Nat renaming zero_le->dC
/- Spoilt gives a page that is hardly larger. -/
namespace Go.Proofs
open Go Go.Ax Go.Ax.aA
def Bx(m n:Nat)(p:List (List UInt8)):Prop:=p.length<=m/\p.flatten.length<=n
theorem aDC{p:List (List UInt8)}{k:Nat}{r:List UInt8}(h:p[k]?=some r):p.flatten.length=(p.take k).flatten.length+r.length+(p.drop (k+1)).flatten.length:=by
 have e:p=p.take k++r::p.drop (k+1):=by rw[<-fZ h,List.take_append_drop]
 have:=aO (λl=>(List.flatten l).length) e;simp only[tT,fR,bF]at this;omega
theorem aQb{p:List (List UInt8)}{k:Nat}{r:List UInt8}(q:List UInt8)(h:p[k]?=some r):(p.set k q).flatten.length+r.length=p.flatten.length+q.length:=by
 have hk:=(List.getElem?_eq_some_iff.1 h).1;rw[aDC h,List.set_eq_take_append_cons_drop,aE hk];simp only[tT,fR,bF];omega
theorem aWP(b:Bool):ck b (none:O)=none:=by cases b <;> rfl
theorem aU3{α:Type}(l:List α)(i:Nat):gn l i (λ_=>(none:O))=none:=by
 show(match l[i]? with|some _=>none|none=>none)=(none:O);cases l[i]? <;> rfl
theorem aUX{α:Type}(l:List α)(i:Int):gx l i (λ_=>(none:O))=none:=by
 show vK l i (λ_=>(none:O))=none;unfold vK;split
 .cases l[i.toNat]? <;> rfl
 .rfl
theorem aA6(N:Nat){b:List UInt8}(hb:b.length<=1000000):zZ N b (b.length:Int)=some b:=by
 unfold zZ Q7 Q6;have e:cA b none (some (min (b.length:Int) (b.length:Int)))=b:=by
  show b.take (min (b.length:Int) (b.length:Int)).toNat=b;rw[iS (by omega)]
 have ok:dJ b.length none (some (min (b.length:Int) (b.length:Int)))=true:=aL ⟨by omega,by omega⟩;rw[aP ok,e,aP (eT (by omega) (by omega))];rfl
theorem B9(x:List (List UInt8)):(some (sM x):O).bind J0=some x:=rfl
theorem aWR(N:Nat){m n:Nat}{p:List (List UInt8)}(hp:Bx m n p)(hm:m<=20000)(hn:n<=20000){a h b:Int}(ha:iK a)(hh:iK h)(hb:iK b):
    ∃q,(B8 N p a h b=some q\/(B8 N p a h b=none/\Fp p a h b/\q=CD p a b))/\Bx (m+1) (2*n+1) q:=by
 obtain⟨p1,p2⟩:=hp;unfold B8 Yo PG;simp only[aP (EN N ha),aP (EN N hh),aP (EN N hb),EM N ha,EM N hh,EM N hb,fK];by_cases h0:p.length=0
 .rw[aL (show(p.length:Int)=0 by omega),bJ]
  exact⟨_,.inl (B9 _),by simp,by simp⟩
 rw[aZ (show ¬ (p.length:Int)=0 by omega),bL,aP (eT (by omega) (by omega))];have hk0:=A4 (n:=a) (m:=(p.length:Int)) (by omega);obtain⟨k,hk⟩:∃k:Nat,fO a p.length=k:=⟨(fO a p.length).toNat,by omega⟩
 have hkl:k<p.length:=by omega
 have g:=bM hkl;have hrl:=Ki (pV hkl);have cf:=aDC g;have hsp:(∀r∈p,r.length<=60000):=λr hr=>by have:=Ki hr;omega
 have eg:p.getD k []=p[k]:=by rw[List.getD_eq_getElem?_getD,g];rfl
 have sf:=λq=>aQb q g
 generalize hrr:p[k]=r at g hrl cf eg sf;have hset:∀q:List UInt8,q.length<=r.length+1->Bx (m+1) (2*n+1) (p.set k q):=λq hq=>⟨by rw[iI];omega,by have:=sf q;omega⟩
 have hu:E5 N r (r.length:Int)=true:=by unfold E5;rw[aA6 N (by omega)];rfl
 have hy:lY N r (r.length:Int)=r:=by unfold lY;rw[aA6 N (by omega)];rfl
 have ekt:((k:Nat):Int).toNat=k:=iT k;have hin:decide ((0:Int)<=(k:Int)/\(k:Int)<(p.length:Int))=true:=aL ⟨by omega,by omega⟩;have hw1:aS.wrap ((k:Int)+1)=((k+1:Nat):Int):=by rw[wr (by omega) (by omega)];omega
 have s1:dJ p.length none (some (k:Int))=true:=aL ⟨by omega,by omega⟩;have s2:dJ p.length (some ((k+1:Nat):Int)) none=true:=aL ⟨by omega,by omega⟩;have s3:dJ p.length (some (k:Int)) none=true:=aL ⟨by omega,by omega⟩;have e1:qX p.length (some (k:Int))-0=k:=by show(k:Int).toNat-0=k;omega
 have e2:cA p (some ((k+1:Nat):Int)) none=p.drop (k+1):=by show p.drop (((k+1:Nat):Int)).toNat=_;rw[iT]
 have e3:cA p (some (k:Int)) none=p.drop k:=by show p.drop ((k:Int)).toNat=_;rw[iT]
 have hc0:=A4 (n:=h) (m:=5) (by omega);have hmk:Fp p a h b->Bx (m+1) (2*n+1) (CD p a b):=λ_=>by
  unfold CD;rw[hk,ekt,eg];refine hset _ ?_;split
  .rw[iI];omega
  .omega
 have hspo:fO h 5=4->Fp p a h b:=λh4=>⟨by omega,hsp,ha,hh,hb,by omega,h4⟩
 rw[hk];generalize fO h 5=c at hc0 hspo ⊢;by_cases c0:c=0
 .rw[aL c0,bJ,aP s1,hw1,aP s2,e1,e2,aP (aL (by omega)),aP (eT (by rw[jM];omega) (by rw[jM];omega))]
  refine⟨_,.inl (B9 _),?_,?_⟩
  .rw[bF,fL,jM];omega
  .rw[tT,bF];omega
 rw[aZ c0,bL];by_cases c1:c=1
 .rw[aL c1,bJ,aP s1,cU g,e1,aP (aL (by omega)),aP (eT (by rw[Ti];omega) (by rw[Ti];omega)),aP s3,e3,aP (eT (by simp;omega) (by simp;omega))]
  refine⟨_,.inl (B9 _),?_,?_⟩
  .simp;omega
  .have:=aO (λl=>(List.flatten l).length) (fZ g)
   simp only[fR,bF]at this;simp only[tT,bF,fR,List.flatten_nil,iJ];omega
 rw[aZ c1,bL];by_cases c2:c=2
 .rw[aL c2,bJ,cU g,cU g,aP hu,hy,aP (eT (by simp;omega) (by simp;omega)),aP hin,ekt,L6 g]
  exact⟨_,.inl (B9 _),hset _ (by simp)⟩
 rw[aZ c2,bL];by_cases c3:c=3
 .have ew:aS.wrap ((r.length:Int).tdiv 2)=((r.length / 2:Nat):Int):=by
   have:(r.length:Int).tdiv 2=((r.length / 2:Nat):Int):=rfl;rw[this,wr (by omega) (by omega)]
  have s4:dJ r.length none (some ((r.length / 2:Nat):Int))=true:=aL ⟨by omega,by omega⟩;have e4:cA r none (some ((r.length / 2:Nat):Int))=r.take (r.length / 2):=by show r.take (((r.length / 2:Nat):Int)).toNat=_;rw[iT]
  rw[aL c3,bJ,cU g,cU g,Sw,ew,aP s4,e4,aP hin,ekt,L6 g];exact⟨_,.inl (B9 _),hset _ (by rw[fL];omega)⟩
 rw[aZ c3,bL,cU g,cU g,aP hu,hy,aP hin,ekt,L6 g,aP (by rw[iI];exact hin),L6 (y:=r) (by rw[List.getElem?_set_self hkl])];have h4:=hspo (by omega);by_cases hr0:0<r.length
 .rw[aL (show(0:Int)<(r.length:Int)by omega),bJ]
  simp only[aWP,aU3,aUX];exact⟨_,.inr ⟨rfl,h4,rfl⟩,hmk h4⟩
 .rw[aZ (show ¬ (0:Int)<(r.length:Int)by omega),bL]
  exact⟨_,.inl (B9 _),hset _ (by omega)⟩
theorem aCU(N:Nat){m n:Nat}{p:List (List UInt8)}(hp:Bx m n p)(hm:m<=20000)(hn:n<=20000){a h b:Int}(ha:iK a)(hh:iK h)(hb:iK b):tG N p a h b=true/\Bx (m+1) (2*n+1) (pD N p a h b):=by
 obtain⟨q,h1|⟨h1,h2,rfl⟩,hq⟩:=aWR N hp hm hn ha hh hb
 .have hw:yN N p a h b=true:=by unfold yN;rw[h1];rfl
  unfold tG pD;rw[hw,aE rfl];refine⟨rfl,?_⟩;unfold JZ;rw[h1];exact hq
 .have hw:yN N p a h b=false:=by unfold yN;rw[h1];rfl
  unfold tG pD;rw[hw,aC (by simp)];exact⟨by rw[jG];exact @aL _ (Classical.propDecidable _) h2,hq⟩
end Go.Proofs
/- Law 5 in plain words. -/
namespace Go.Proofs
open Go Go.Ax Go.Ax.aA
theorem Zt(N:Nat)(b:List UInt8):Bj N b 41=some (b.take 41):=by
 unfold Bj Zu Py;have e:cA b none (some (min (b.length:Int) 41))=b.take 41:=by
  show b.take (min (b.length:Int) 41).toNat=_;by_cases h:b.length<=41
  .rw[iS (by omega),iS h]
  .rw[show(min (b.length:Int) 41).toNat=41 by omega]
 have ok:dJ b.length none (some (min (b.length:Int) 41))=true:=aL ⟨by omega,by omega⟩;rw[aP ok,e,aP (eT (by rw[fL];omega) (by rw[fL];omega))];rfl
theorem aO6(N:Nat)(b:List UInt8):KJ N b 41=true:=by unfold KJ;rw[Zt];rfl
theorem aO5(N:Nat)(b:List UInt8):EO N b 41=b.take 41:=by unfold EO;rw[Zt];rfl
theorem aCl:∀(l:List (List UInt8)),((l.map (·.take 41)).flatten).length<=41*l.length
 |[]=>Nat.le_refl _
 |r::l=>by
   have:=aCl l;rw[List.map_cons,fR,bF,fL,List.length_cons];omega
theorem V5(N:Nat)(k0:Int->Int->Int->List (List UInt8)->List (List UInt8)->List (List UInt8)->O)(k1 k2:Unit->O)(a h b:Int)(raw p q:List (List UInt8)):∀(n i:Nat),6-i<n->i<=6->i<=raw.length->
    wV N n (a,h,b,raw,p,q,(i:Int),(raw.take i).map (·.take 41)) (λy=>k0 y.1 y.2.1 y.2.2.1 y.2.2.2.1 y.2.2.2.2.1 y.2.2.2.2.2) k1 k2=k0 a h b p q ((raw.take 6).map (·.take 41))
 |0,i,h,_,_=>by omega
 |n+1,i,hn,hi,hr=>by
   show HM N _ (λy0 y1 y2 y3 y4 y5=>k0 y0 y1 y2 y3 y4 y5) a h b raw p q (i:Int) _=_;unfold HM;by_cases hlt:i<raw.length/\i<6
   .have g:=bM hlt.1
    have hs:(raw.take i).map (·.take 41)++[(raw[i]'hlt.1).take 41]=(raw.take (i+1)).map (·.take 41):=by rw[List.take_succ_eq_append_getElem hlt.1,List.map_append];rfl
    rw[aL (by omega),aL (by omega),Bool.true_and,bJ,cU g,aP (aO6 ..),aO5,aP (eT (by simp;omega) (by simp;omega)),hs,wr (by omega) (by omega)];exact V5 N k0 k1 k2 a h b raw p q n (i+1) (by omega) (by omega) (by omega)
   .have e:(decide ((i:Int)<(raw.length:Int))&&decide ((i:Int)<6))=false:=by
     by_cases h1:i<raw.length
     .rw[aZ (show ¬ (i:Int)<6 by omega),Bool.and_false]
     .rw[aZ (show ¬ (i:Int)<(raw.length:Int)by omega),Bool.false_and]
    have et:raw.take i=raw.take 6:=by
     by_cases h1:i<raw.length
     .rw[show i=6 by omega]
     .rw[iS (by omega),iS (by omega)]
    rw[e,bL,et]
theorem aRC(p:List (List UInt8))(hp:p.flatten.length<=15000):(kU p).1.length<=p.length:=by
 unfold kU;cases hr:jT p [] []with
 |none=>exact dC _
 |some out=>
   obtain⟨_,h2⟩:=Ko hr (λs h=>by cases h) (by rw[iJ];omega);rw[iJ]at h2;show(if j0 out p=true then(out,(0:Int))else([],2)).1.length<=_;split
   .show out.length<=_;omega
   .exact dC _
theorem V4{N:Nat}(hN:60000<=N)(k0:Bool->O)(k1 k2:Unit->O)(h:Int)(ps:List (List (List UInt8)))(hl:ps.length<=100)(hp:∀p∈ps,Bx 50000 15000 p):∀(n i:Nat),ps.length-i<n->i<=ps.length->
    uF N n (h,(i:Int),ps) k0 k1 k2=k1 ()
 |0,i,h,_=>by omega
 |n+1,i,hn,hi=>by
   show HK N _ (λy0=>k0 y0) (λ_=>k1 ()) h ps (i:Int)=_;unfold HK;by_cases hlt:i<ps.length
   .have g:=bM hlt
    obtain⟨b1,b2⟩:=hp _ (pV hlt);generalize ps[i]=p at g b1 b2;have hlen:=aRC p b2;rw[aL (by omega),bJ,cU g,aP (Yk hN b1 b2),cU g,aP (aLw hN b1 b2),Yi hN b1 b2,aLu hN b1 b2,Yj hN b1 b2,aLv hN b1 b2,aZ (λh=>h rfl),aL9 (by omega) (by omega),aP (by rw[aLa (by omega) (by omega),Bool.or_true]),aL rfl,Bool.not_true,jG,bL,wr (by omega) (by omega)];exact V4 hN k0 k1 k2 h ps hl hp n (i+1) (by omega) (by omega)
   .rw[aZ (by omega),bL]
noncomputable def k5(N:Nat):Int->Int->Int->List (List UInt8)->List (List UInt8)->List (List UInt8)->O:=λz5 z6 z7 z8 z9 z10=>
      ck true <|
      ck (tG N z9 z7 (aS.wrap (z6.tdiv (5:Int))) z5)<|
      ck (b8 ([]++z8).length (24:Nat))<|
      ck (b8 ([]++z8++z10).length (24:Nat))<|
      uF N N (z6,(0:Int),([z8,z9,pD N z9 z7 (aS.wrap (z6.tdiv (5:Int))) z5,z10,[]++z8++z10]))
       (λy=>some (uE y))
       (λ_=>ck true <|some (uE true)) (λ_=>none)
theorem aUG{N:Nat}(hN:60000<=N){l:List Int}{x a h b:Int}{raw:List (List UInt8)}(hl:vY l)(hx:iK x)(ha:iK a)(hh:iK h)(hb:iK b):NF N l x a h b raw=some true:=by
 obtain⟨m,mp,my,mo⟩:=aE2 N (by omega) hl;have har:=A4 (n:=x) (m:=30) (by omega);obtain⟨v,hv⟩:∃v:Nat,4+fO x 30=v:=⟨(4+fO x 30).toNat,by omega⟩
 have made:∀s∈m,s.length<=1000000/\s.length<N:=λs hs=>by have:=(mo.2 s hs).1;omega
 have m4:=mo.1;have hp:Bx 6592 1224 (eW m (v:Int)).1:=by
  refine⟨(aVk m v).1,?_⟩;by_cases hf:gO m (v:Int)=0
  .have e:eW m (v:Int)=(m.flatMap (dZ (v:Int).toNat),0):=(aBM hf).1
   rw[e,iT];have:=aBW (w:=v) (by omega) (a:=m) (λs hs=>by have:=(mo.2 s hs).1;omega);show(m.flatMap (dZ v)).flatten.length<=_;omega
  .have e:eW m (v:Int)=([],gO m v):=by unfold eW;rw[aC hf]
   rw[e];exact dC _
 have hdv:iK (aS.wrap (h.tdiv 5)):=by
  unfold iK;rw[IntKind.wrap_i64];omega
 unfold NF w5 NK NH NG;rw[aP mp,my,aP (EN N hx),EM N hx,wr (by omega) (by omega),hv,aP (ZP (by omega) (by omega) (by omega) made),ZO (by omega) (by omega) (by omega) made];generalize(eW m (v:Int)).1=p at hp;obtain⟨q1,q2⟩:=aCU N hp (by omega) (by omega) ha hh hb;rw[aP q1];generalize pD N p a h b=q at q2;obtain⟨r1,r2⟩:=aCU N q2 (by omega) (by omega) hb hdv ha;have ff:=aCl (raw.take 6);have fl:((raw.take 6).map (·.take 41)).length<=6:=by rw[List.length_map,fL];omega
 have fl2:(raw.take 6).length<=6:=by rw[fL];omega
 have h0:=V5 N (k5 N) (λ_=>none) (λ_=>none) a h b raw p q N 0 (by omega) (by omega) (dC _);refine(aO (λz:O=>z.bind DQ) h0).trans ?_;generalize(raw.take 6).map (·.take 41)=few at ff fl;unfold k5;generalize pD N q b (aS.wrap (h.tdiv 5)) a=s at r2;obtain⟨p1,p2⟩:=hp;obtain⟨q3,q4⟩:=q2;obtain⟨r3,r4⟩:=r2;rw[Sw,aP r1,fK,aP (eT (by omega) (by omega)),aP (eT (by rw[bF];omega) (by rw[bF];omega))];have h1:=V4 hN (λy=>some (uE y)) (λ_=>ck true <|some (uE true)) (λ_=>none) h [p,q,s,few,p++few] (by simp) (λx hx=>by
  simp only[List.mem_cons,List.not_mem_nil,or_false]at hx;rcases hx with rfl|rfl|rfl|rfl|rfl
  .exact⟨by omega,by omega⟩
  .exact⟨by omega,by omega⟩
  .exact⟨by omega,by omega⟩
  .exact⟨by omega,by omega⟩
  .exact⟨by rw[bF];omega,by rw[tT,bF];omega⟩) N 0 (by simp;omega) (dC _)
 exact aO (λz:O=>z.bind DQ) h1
end Go.Proofs
