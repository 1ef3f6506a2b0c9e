/- What functions do, and plain laws. Conditions are in the theorems. -/
import Derived.Test.YtpfljkkcaplgeaaGreatDoorG3
import Derived.Test.YtpfljkkcaplgeaaGreatDoorG1
import Derived.Test.YtpfljkkcaplgeaaGreatDoorG2
open Bool renaming and_eq_true->aT,or_eq_true->lS,or_false->Bi
open Go.IntKind renaming i64->aH
open Int renaming le_refl->iC,tmod_lt_of_pos->O0,tmod_nonneg->E6
open List renaming any_eq_true->vH,append_assoc->bP,append_nil->e9,cons_append->pP,flatMap_cons->fV,getElem?_eq_getElem->dC,length_append->aL,length_map->cP,map_append->gH,map_eq_append_iff->qO,mem_cons->eZ,mem_cons_of_mem->fR,mem_cons_self->iB,mem_of_getElem?->iM,mem_singleton->nH,nil_append->k7,suffix_cons->a9F
open Nat renaming le_refl->cE
open Prod renaming fst->fF,snd->dB
/- Blocks read back. -/
namespace Go.Proofs
open Go Go.Ax Go.Ax.aA
theorem a7f{N:Nat}(hN:1000<=N){b:fI}(hv:jJ b=true){l rest:List Tok}(hl:l.map fF=(lF b).map dB)(he:sT (bH rest false)=true):lN N (l++rest) false=ED b rest:=by
 obtain⟨a0,a1,⟨a2,a3,a4⟩,⟨a5,a6⟩,a7,⟨a8,a9,a10⟩,a11,a12⟩:=b;unfold jJ vY oT at hv;unfold lF at hl;obtain⟨e1,e2,e3⟩:=aJF he;simp only[aT,lS,eR,BV]at hv;obtain⟨⟨⟨⟨⟨⟨⟨s0,s1⟩,s2⟩,s3⟩,s4⟩,s5⟩,s6⟩,hk⟩:=hv;simp only at hl hk;by_cases h0:a0=0
 .rw[aI h0]at hk hl
  subst h0;simp at s1 s2 s3 s4 s5 s6;obtain⟨rfl,rfl,rfl⟩:=(Ex.mk.injEq _ _ _ _ _ _).mp s1;obtain⟨rfl,rfl⟩:=s2;obtain⟨⟨rfl,rfl⟩,rfl⟩:=s4;subst s3 s5 s6;have hr:dK a1 1 8 oL=true:=by unfold pB at hk;exact(aT _ _ ▸ hk).2
  refine B0 (k:=0) (w:=[116,101,120,116]) rfl (by decide) hl λl' hl'=>?_
  have e:=aGk (N:=N) (l:=l') (rest:=rest) (by have:=sZ hr;omega) (λy hy=>aGo ((cM hr).2 y hy)) (by have:=(cM hr).1;omega) hl' (e1 _ (by decide));unfold rJ;rw[aI rfl,e];rfl
 by_cases h1:a0=1
 .rw[aE h0,aI h1]at hk hl
  subst h1;simp at s0 s2 s3 s4 s5 s6;subst s0;obtain⟨rfl,rfl⟩:=s2;subst s3;obtain⟨⟨rfl,rfl⟩,rfl⟩:=s4;subst s5;subst s6;have hx:=Ng hk;refine B0 (k:=1) (w:=[102,111,114,109,117,108,97]) rfl (by decide) hl λl' hl'=>?_
  have e:kV N (l'++rest) false=(a2,a3,a4,rest,false):=a6W N (Ex.mk a2 a3 a4) (by omega) hx.1 [32] l' rest hl';unfold rJ;rw[aE (by decide),aI rfl,e];rfl
 by_cases h2:a0=2
 .rw[aE h0,aE h1,aI h2]at hk hl
  subst h2;simp at s0 s1 s3 s4 s5 s6;subst s0;obtain⟨rfl,rfl,rfl⟩:=(Ex.mk.injEq _ _ _ _ _ _).mp s1;subst s3;obtain⟨⟨rfl,rfl⟩,rfl⟩:=s4;subst s5;subst s6;unfold D5 at hk;rw[aT]at hk;have hg:=cM hk.2;refine B0 (k:=2) (w:=[99,111,108,117,109,110]) rfl (by decide) hl λl' hl'=>?_
  obtain⟨u,l'',rfl,hu,hl''⟩:=gY (a:=kS a5) (m:=(fB a6).map dB) hl';have ei:=a4s (N:=N) (ns:=a6) (l:=l'') (rest:=rest) (NH (by have:(1:Int)<=((a6.length:Nat):Int):=sZ hk.2;omega)) (λn hn=>o9 (hg.2 n hn) (by decide) (by decide)) (by have:((a6.length:Nat):Int)<=8:=hg.1;omega) hl'' e2;have e:xM N (u::l''++rest) false=(a5,a6,rest,false):=by
   have ho:=hk.1;unfold I0 at ho;simp only[List.any_cons,List.any_nil,Bi,lS,eR]at ho;have hs:∃n:Int,0<=n/\uF[n.toNat]?=some (kS a5)/\XN n=a5/\kS a5≠[]:=by
    rcases ho with rfl|rfl|rfl|rfl
    .exact⟨0,by decide,by decide,by decide,by decide⟩
    .exact⟨1,by decide,by decide,by decide,by decide⟩
    .exact⟨2,by decide,by decide,by decide,by decide⟩
    .exact⟨3,by decide,by decide,by decide,by decide⟩
   obtain⟨n,n0,n1,n2,n3⟩:=hs;unfold xM;rw[pP,JO (L:=uF) (l''++rest) hu n3 n0 n1 (by decide)];simp only;rw[ei,n2]
  unfold rJ;rw[aE (by decide),aE (by decide),aI rfl,e];rfl
 by_cases h3:a0=3
 .rw[aE h0,aE h1,aE h2,aI h3]at hk hl
  subst h3;simp at s0 s1 s2 s4 s5 s6;subst s0;obtain⟨rfl,rfl,rfl⟩:=(Ex.mk.injEq _ _ _ _ _ _).mp s1;obtain⟨rfl,rfl⟩:=s2;obtain⟨⟨rfl,rfl⟩,rfl⟩:=s4;subst s5;subst s6;have hg:=cM hk;refine B0 (k:=3) (w:=[101,110,116,114,105,101,115]) rfl (by decide) hl λl' hl'=>?_
  have e:=a1f (N:=N) (l:=l') (rest:=rest) (by have:=sZ hk;omega) (λy hy=>by
   have:=hg.2 y hy;unfold xR at this;rw[aT]at this;have h1:=sZ this.2;have h2:=(cM this.2).1;exact⟨NH (by omega),by omega⟩) (by omega) hl' (e1 _ (by decide)) e3
  unfold rJ;rw[aE (by decide),aE (by decide),aE (by decide),aI rfl,e];rfl
 by_cases h4:a0=4
 .rw[aE h0,aE h1,aE h2,aE h3,aI h4]at hk hl
  subst h4;simp at s0 s1 s2 s3 s5 s6;subst s0;obtain⟨rfl,rfl,rfl⟩:=(Ex.mk.injEq _ _ _ _ _ _).mp s1;obtain⟨rfl,rfl⟩:=s2;subst s3;subst s5;subst s6;unfold BR at hk;simp only[aT]at hk;have hg:=cM hk.2;refine B0 (k:=4) (w:=[100,114,97,119,105,110,103]) rfl (by decide) hl λl' hl'=>?_
  rw[gH]at hl';obtain⟨l1,l2,rfl,g1,g2⟩:=qO.1 hl';have ei:=N0 (o9 hk.1.1 (by decide) (by decide)) (o9 hk.1.2 (by decide) (by decide)) (rest:=l2++rest) g1;have e:=a1J (N:=N) (l:=l2) (rest:=rest) (by have:=sZ hk.2;omega) (λy hy=>by
   have:=hg.2 y hy;unfold As at this;rw[aT]at this;have h1:=sZ this.2;have h2:=cM this.2;exact⟨this.1,NH (by omega),by omega,λp hp=>a2B (h2.2 p hp)⟩) (by have:((a10.length:Nat):Int)<=8:=hg.1;omega) g2 (e1 _ (by decide)) e2
  unfold rJ;rw[aE (by decide),aE (by decide),aE (by decide),aE (by decide),aI rfl,bP,ei];simp only;rw[e];rfl
 by_cases h5:a0=5
 .rw[aE h0,aE h1,aE h2,aE h3,aE h4,aI h5]at hk hl
  subst h5;simp at s0 s1 s2 s3 s4 s6;subst s0;obtain⟨rfl,rfl,rfl⟩:=(Ex.mk.injEq _ _ _ _ _ _).mp s1;obtain⟨rfl,rfl⟩:=s2;subst s3;obtain⟨⟨rfl,rfl⟩,rfl⟩:=s4;subst s6;have hg:=cM hk;refine B0 (k:=5) (w:=[109,117,115,105,99]) rfl (by decide) hl λl' hl'=>?_
  have e:=a5E (N:=N) (l:=l') (rest:=rest) (by have:=sZ hk;omega) (λy hy=>by
   have:=hg.2 y hy;unfold EB at this;rw[aT]at this;have h1:=sZ this.2;have h2:=cM this.2;refine⟨by omega,by omega,λz hz=>?_⟩;have h3:=h2.2 z hz;have h4:=sZ h3;have h5:=cM h3;exact⟨NH (by omega),by omega,λp hp=>a3i (h5.2 p hp)⟩) (by omega) hl' (e1 _ (by decide)) (e1 _ (by decide)) e2
  unfold rJ;rw[aE (by decide),aE (by decide),aE (by decide),aE (by decide),aE (by decide),aI rfl,e];rfl
 by_cases h6:a0=6
 .rw[aE h0,aE h1,aE h2,aE h3,aE h4,aE h5,aI h6]at hk hl
  subst h6;simp at s0 s1 s2 s3 s4 s5;subst s0;obtain⟨rfl,rfl,rfl⟩:=(Ex.mk.injEq _ _ _ _ _ _).mp s1;obtain⟨rfl,rfl⟩:=s2;subst s3;obtain⟨⟨rfl,rfl⟩,rfl⟩:=s4;subst s5;have hg:=cM hk;refine B0 (k:=6) (w:=[108,105,115,116,105,110,103]) rfl (by decide) hl λl' hl'=>?_
  have e:=a4Q (N:=N) (l:=l') (rest:=rest) (by have:=sZ hk;omega) (by omega) hl' (e1 _ (by decide));unfold rJ;rw[aE (by decide),aE (by decide),aE (by decide),aE (by decide),aE (by decide),aE (by decide),aI rfl,e];rfl
 rw[aE h0,aE h1,aE h2,aE h3,aE h4,aE h5,aE h6]at hk;cases hk
end Go.Proofs
/- Lists of blocks read back. -/
namespace Go.Proofs
open Go Go.Ax Go.Ax.aA
theorem a5A{s:List UInt8}(h:nU s=true):s∈j7:=by
 unfold nU at h;rw[lM]at h;obtain⟨y,hy,he⟩:=vH.1 h;rw[bK he];exact hy
theorem a4D{s:List UInt8}(h:s∈j7):nU s=true:=by
 unfold nU;rw[lM];exact vH.2 ⟨s,h,aX rfl⟩
theorem a7j:∀w∈j7,sT w=true:=by decide +kernel
theorem a7g{b:fI}(hv:jJ b=true):∃p Q,lF b=p::Q/\p.2∈j7:=by
 unfold jJ at hv;rw[aT]at hv;have hk:=hv.2;unfold oT at hk;unfold lF;by_cases h0:b.1=0
 .rw[aI h0];exact⟨_,_,rfl,by decide⟩
 by_cases h1:b.1=1
 .rw[aE h0,aI h1];exact⟨_,_,rfl,by decide⟩
 by_cases h2:b.1=2
 .rw[aE h0,aE h1,aI h2];exact⟨_,_,rfl,by decide⟩
 by_cases h3:b.1=3
 .rw[aE h0,aE h1,aE h2,aI h3];exact⟨_,_,rfl,by decide⟩
 by_cases h4:b.1=4
 .rw[aE h0,aE h1,aE h2,aE h3,aI h4];exact⟨_,_,rfl,by decide⟩
 by_cases h5:b.1=5
 .rw[aE h0,aE h1,aE h2,aE h3,aE h4,aI h5];exact⟨_,_,rfl,by decide⟩
 by_cases h6:b.1=6
 .rw[aE h0,aE h1,aE h2,aE h3,aE h4,aE h5,aI h6];exact⟨_,_,rfl,by decide⟩
 .rw[aE h0,aE h1,aE h2,aE h3,aE h4,aE h5,aE h6]at hk
  cases hk
theorem Y7(b:fI)(rest:List Tok):zD (ED b rest)=b/\rK (ED b rest)=rest/\zF (ED b rest)=false:=by
 obtain⟨a0,a1,⟨a2,a3,a4⟩,⟨a5,a6⟩,a7,⟨a8,a9,a10⟩,a11,a12⟩:=b;exact⟨rfl,rfl,rfl⟩
theorem a7c{N:Nat}(hN:1000<=N):∀(ys:List fI),(∀y∈ys,jJ y=true)->∀(n:Nat)(l rest:List Tok)(acc:List fI),l.map fF=(ys.flatMap lF).map dB->nU (bH rest false)=false->sT (bH rest false)=true->ys.length<n->
    iZ zD rK zF (lN N) nU n (l++rest) false acc=(acc++ys,rest,false):=by
 intro ys
 induction ys with
 |nil=>
   intro _ n l rest acc hl hp _ hn;obtain⟨n,rfl⟩:∃m,n=m+1:=⟨n-1,by simp at hn;omega⟩
   have:l=[]:=pG (by simpa using hl);subst this;unfold iZ;rw[k7,hp];show(acc,rest,false)=(acc++[],rest,false);rw[e9]
 |cons y ys ih=>
   intro hr n l rest acc hl hp he hn;obtain⟨n,rfl⟩:∃m,n=m+1:=⟨n-1,by simp at hn;omega⟩
   rw[fV,gH]at hl;obtain⟨l1,l2,rfl,h1,h2⟩:=qO.1 hl;have hd:∀(y:fI)(l1 m:List Tok),jJ y=true->l1.map fF=(lF y).map dB->bH (l1++m) false∈j7:=by
    intro y l1 m hy h1;obtain⟨p,Q,hF,hq⟩:=a7g hy;rw[hF]at h1;obtain⟨u,l',rfl,hu,_⟩:=gY h1;rw[pP,jY,hu];exact hq
   have hy:=hr y iB;have he2:sT (bH (l2++rest) false)=true:=by
    cases ys with
    |nil=>
      have:l2=[]:=pG (by simpa using h2);rw[this];exact he
    |cons z zs=>
      rw[fV,gH]at h2;obtain⟨l3,l4,rfl,h3,_⟩:=qO.1 h2;rw[bP];exact a7j _ (hd z l3 (l4++rest) (hr z (by simp)) h3)
   have e:=a7f hN hy h1 he2;rw[bP];unfold iZ;rw[a4D (hd y l1 (l2++rest) hy h1)];show iZ zD rK zF (lN N) nU n (rK (lN N (l1++(l2++rest)) false)) (zF (lN N (l1++(l2++rest)) false)) (acc++[zD (lN N (l1++(l2++rest)) false)])=_;rw[e,(Y7 y _).1,(Y7 y _).2.1,(Y7 y _).2.2,ih (λz hz=>hr z (fR _ hz)) n l2 rest (acc++[y]) h2 hp he (by simp at hn;omega),bP];rfl
end Go.Proofs
/- Questions read back. -/
namespace Go.Proofs
open Go Go.Ax Go.Ax.aA
theorem a1t{n:Int}(h:cN n 0 2=true):pE n≠[]:=by
 have key:∀w∈sG,w≠[]:=by decide
 exact key _ (iM (Dh h).1)
def Mh(q:jK):List Pc:=gW (pE q.1)++(fB [q.2.2.2.2.2.1]++(eO q.2.2.2.2.1++(q.2.2.2.1.flatMap rE++(p7 q.2.1++(q.2.2.1.zip q.2.2.2.2.2.2).flatMap sH))))
theorem a1s{N:Nat}(hN:1000<=N){q:jK}(hv:p8 q=true){l rest:List Tok}(hl:l.map fF=(Mh q).map dB)(he:sT (bH rest false)=true):rB N (l++rest) false=(q.1,q.2.1,q.2.2.1,q.2.2.2.1,q.2.2.2.2.1,q.2.2.2.2.2.1,q.2.2.2.2.2.2,rest,false):=by
 obtain⟨q0,q1,q2,q3,q4,q5,q6⟩:=q;obtain⟨e1,e2,e3⟩:=aJF he;unfold p8 at hv;simp only[aT,eR]at hv;obtain⟨⟨⟨⟨⟨⟨⟨v0,v1⟩,v2⟩,v3⟩,v4⟩,v5⟩,v6⟩,v7⟩:=hv;have l3:((q2.length:Nat):Int)<=6/\_:=cM v3;have l5:((q3.length:Nat):Int)<=8/\_:=cM v5;have vr:dK q1 1 8 oL=true:=by unfold pB at v1;exact(aT _ _ ▸ v1).2
 have lr:((q1.length:Nat):Int)<=8/\_:=cM vr;have gr:(1:Int)<=((q1.length:Nat):Int):=sZ vr;unfold Mh at hl;simp only at hl;obtain⟨u,l1,rfl,hu,h1⟩:=gY (a:=pE q0) (m:=(fB [q5]++(eO q4++(q3.flatMap rE++(p7 q1++(q2.zip q6).flatMap sH)))).map dB) hl;obtain⟨v,l2,rfl,hv,h2⟩:=gY (a:=Lib.itoa q5) (m:=(eO q4++(q3.flatMap rE++(p7 q1++(q2.zip q6).flatMap sH))).map dB) h1;obtain⟨x,l3',rfl,hx,h3⟩:=gY (a:=quo q4) (m:=(q3.flatMap rE++(p7 q1++(q2.zip q6).flatMap sH)).map dB) h2;rw[gH]at h3;obtain⟨ln,l4,rfl,h4,h5⟩:=qO.1 h3;rw[gH]at h5;obtain⟨lr',lo,rfl,h6,h7⟩:=qO.1 h5;have s5:=o9 v7 (by decide) (by decide);have p1:bH (lr'++(lo++rest)) false≠[110,101,101,100]:=by
  cases q1 with
  |nil=>simp at gr
  |cons y ys=>
    obtain⟨z,l',rfl,hz,_⟩:=gY (a:=[114,117,110]) (m:=(fB [y.1]++eO y.2++ys.flatMap Au).map dB) h6;rw[pP,jY,hz];decide
 have p2:bH (lo++rest) false≠[114,117,110]:=by
  cases hz:q2.zip q6 with
  |nil=>
    rw[hz]at h7;have:lo=[]:=pG (by simpa using h7);rw[this];exact e1 _ (by decide)
  |cons y ys=>
    rw[hz]at h7;obtain⟨z,l',rfl,hz,_⟩:=gY (a:=[111,112,116,105,111,110]) (m:=(eO y.1++eO y.2++ys.flatMap sH).map dB) h7;rw[pP,jY,hz];decide
 have a1:=a3p (N:=N) (ys:=q3) (l:=ln) (rest:=lr'++(lo++rest)) (λn hn=>o9 (l5.2 n hn) (by decide) (by decide)) (by omega) h4 p1;have a2:=aGk (N:=N) (ys:=q1) (l:=lr') (rest:=lo++rest) (by omega) (λy hy=>aGo (lr.2 y hy)) (by omega) h6 p2;have a3:=a2J (N:=N) (ys:=q2.zip q6) (l:=lo) (rest:=rest) (by rw[List.length_zip];omega) h7 (e1 _ (by decide));have hsh:u::v::x::(ln++(lr'++lo))++rest=u::v::x::(ln++(lr'++(lo++rest))):=by simp
 rw[hsh];unfold rB;rw[JO (L:=sG) _ hu (a1t v0) (Dh v0).2 (Dh v0).1 (by decide)];simp only;rw[yJ _ hv s5.1 s5.2];simp only;rw[Am _ hx];simp only;rw[a1];simp only;rw[a2];simp only;rw[a3];simp only;rw[List.map_fst_zip (by omega),List.map_snd_zip (by omega)]
end Go.Proofs
/- Items read back. -/
namespace Go.Proofs
open Go Go.Ax Go.Ax.aA
theorem a8I{N:Nat}(hN:1000<=N){ys:List jK}(hs:∀y∈ys,p8 y=true)(hl0:ys.length<N){l rest:List Tok}(hl:l.map fF=(ys.flatMap rA).map dB)(hp:bH rest false≠[97,115,107])(he:sT (bH rest false)=true):B6 N 0 [97,115,107] (l++rest) false=(ys,rest,false):=by
 unfold B6;exact rZ _ _ _ _ [97,115,107] (by simp) Mh (λr=>sT (bH r false)=true) 0 ys (λy hy l rest hl ho=>by
  rw[a1s hN (hs y hy) hl ho];exact⟨rfl,rfl,rfl⟩) (λu r hu=>by rw[jY,hu];decide +kernel) N l rest [] hl he hp hl0 (by omega)
theorem a3t{s:List UInt8}(h:wB s=true):s≠[]:=by
 intro e;rw[e]at h;exact absurd h (by decide)
def YL(i:mN):List Pc:=gW i.1++(i.2.1.flatMap lF++(i.2.2.1.flatMap rG++i.2.2.2.flatMap rA))
def Ym(s:List UInt8):Bool:=sT s&&!j7.contains s&&!decide (s=[102,97,99,116])&&!decide (s=[97,115,107])
theorem X3{s:List UInt8}(h:j7.contains s=false):nU s=false:=by
 cases hb:nU s with
 |false=>rfl
 |true=>
   have:=List.contains_iff_mem.2 (a5A hb);rw[h]at this;cases this
theorem a4o{N:Nat}(hN:1000<=N){i:mN}(hv:oV i=true){l rest:List Tok}(hl:l.map fF=(YL i).map dB)(he:Ym (bH rest false)=true):sO N (l++rest) false=(i.1,i.2.1,i.2.2.1,i.2.2.2,rest,false):=by
 obtain⟨i0,i1,i2,i3⟩:=i;unfold Ym at he;simp only[aT,Bool.not_eq_true',Np]at he;obtain⟨⟨⟨g1,g2⟩,g3⟩,g4⟩:=he;unfold oV at hv;simp only[aT]at hv;have b1:((i1.length:Nat):Int)<=8/\_:=cM hv.1.1.2;have b2:((i2.length:Nat):Int)<=8/\_:=cM hv.1.2;have b3:((i3.length:Nat):Int)<=4/\_:=cM hv.2;have hn:=hv.1.1.1;unfold YL at hl;simp only at hl hn;obtain⟨u,l1,rfl,hu,h1⟩:=gY (a:=i0) (m:=(i1.flatMap lF++(i2.flatMap rG++i3.flatMap rA)).map dB) hl;rw[gH]at h1;obtain⟨lb,l2,rfl,h2,h3⟩:=qO.1 h1;rw[gH]at h3;obtain⟨lf,lq,rfl,h4,h5⟩:=qO.1 h3;have pq:bH (lq++rest) false=[97,115,107]\/lq=[]:=by
  cases i3 with
  |nil=>exact .inr (pG (by simpa using h5))
  |cons y ys=>
    obtain⟨z,l',rfl,hz,_⟩:=gY (a:=[97,115,107]) (m:=(Mh y++ys.flatMap rA).map dB) h5;left;rw[pP,jY,hz]
 have pf:bH (lf++(lq++rest)) false=[102,97,99,116]\/lf=[]:=by
  cases i2 with
  |nil=>exact .inr (pG (by simpa using h4))
  |cons y ys=>
    obtain⟨z,l',rfl,hz,_⟩:=gY (a:=[102,97,99,116]) (m:=((gW (sR y.1)++fB [y.2.1,y.2.2.1,y.2.2.2])++ys.flatMap rG).map dB) h4;left;rw[pP,jY,hz]
 have c1:bH (lq++rest) false≠[102,97,99,116]:=by
  rcases pq with h|h
  .rw[h];decide
  .rw[h];exact g3
 have c2:sT (bH (lf++(lq++rest)) false)=true/\nU (bH (lf++(lq++rest)) false)=false:=by
  rcases pf with h|h
  .rw[h];exact⟨by decide +kernel,X3 (by decide)⟩
  .rw[h]
   rcases pq with h'|h'
   .rw[k7,h'];exact⟨by decide +kernel,X3 (by decide)⟩
   .rw[h'];exact⟨g1,X3 g2⟩
 have a1:ET N (lb++(lf++(lq++rest))) false=(i1,lf++(lq++rest),false):=a7c hN i1 b1.2 N lb _ [] h2 c2.2 c2.1 (by omega);have a2:=a6Q (N:=N) (ys:=i2) (l:=lf) (rest:=lq++rest) (λy hy=>by
  have:=b2.2 y hy;unfold uV at this;simp only[aT]at this;exact⟨this.1.1.1,o9 this.1.1.2 (by decide) (by decide),o9 this.1.2 (by decide) (by decide),o9 this.2 (by decide) (by decide)⟩) (by omega) h4 c1
 have a3:=a8I hN (ys:=i3) (l:=lq) (rest:=rest) b3.2 (by omega) h5 g4 g1;have hsh:u::(lb++(lf++lq))++rest=u::(lb++(lf++(lq++rest))):=by simp
 rw[hsh];unfold sO BH;rw[jY,hu,hn,Dn _ (by rw[hu];exact a3t hn),hu];simp only;rw[a1];simp only;rw[a2];simp only;rw[a3]
theorem a4l{N:Nat}(hN:1000<=N){ys:List mN}(hs:∀y∈ys,oV y=true)(hl0:ys.length<N){l:List Tok}(hl:l.map fF=(ys.flatMap uQ).map dB):Ik N 0 [105,116,101,109] l false=(ys,[],false):=by
 unfold Ik;have:=rZ (λr:List UInt8×List fI×List kD×List jK×List Tok×Bool=>(r.1,r.2.1,r.2.2.1,r.2.2.2.1)) (λr=>r.2.2.2.2.1) (λr=>r.2.2.2.2.2) (sO N) [105,116,101,109] (by simp) YL (λr=>Ym (bH r false)=true) 0 ys (λy hy l rest hl ho=>by
  rw[a4o hN (hs y hy) hl ho];exact⟨rfl,rfl,rfl⟩) (λu r hu=>by rw[jY,hu];decide +kernel) N l [] [] hl (by decide +kernel) (by decide) hl0 (by omega)
 rw[e9]at this;exact this
end Go.Proofs
/- Examinations held against each other. -/
namespace Go.Proofs
open Go Go.Ax Go.Ax.aA
theorem Nj{α β:Type}(a c:α)(b d:β):bT (a,b) (c,d)=(bT a c&&bT b d):=(Nk (by rw[aT,BV,BV,Prod.mk.injEq])).symm
theorem Nq{α:Type}[DecidableEq α](a b:α):decide (a=b)=bT a b:=Nk eR
section
variable{N:Nat}(hN:N<=1000000)
include hN
theorem aNX(y y':fI)(h:J6 N y):AV N y.1 y.2.1 (Ex.op y.2.2.1) (Ex.num y.2.2.1) (Ex.kids y.2.2.1) y.2.2.2.1.1 y.2.2.2.1.2 y.2.2.2.2.1 y.2.2.2.2.2.1.1 y.2.2.2.2.2.1.2.1 y.2.2.2.2.2.1.2.2 y.2.2.2.2.2.2.1 y.2.2.2.2.2.2.2 y'.1 y'.2.1 (Ex.op y'.2.2.1) (Ex.num y'.2.2.1) (Ex.kids y'.2.2.1) y'.2.2.2.1.1 y'.2.2.2.1.2 y'.2.2.2.2.1 y'.2.2.2.2.2.1.1 y'.2.2.2.2.2.1.2.1 y'.2.2.2.2.2.1.2.2 y'.2.2.2.2.2.2.1 y'.2.2.2.2.2.2.2=some (bT y y'):=by
 obtain⟨a0,a1,⟨a2,a3,a4⟩,⟨a5,a6⟩,a7,⟨a8,a9,a10⟩,a11,a12⟩:=y;obtain⟨b0,b1,⟨b2,b3,b4⟩,⟨b5,b6⟩,b7,⟨b8,b9,b10⟩,b11,b12⟩:=y';refine(vN (a0:=a0) (a5:=a5) (a8:=a8) (a9:=a9) (b0:=b0) (b1:=b1) (b2:=b2) (b3:=b3) (b4:=b4) (b5:=b5) (b6:=b6) (b7:=b7) (b8:=b8) (b9:=b9) (b10:=b10) (b11:=b11) (b12:=b12) h hN).trans ?_;simp only[Nj,Nq,Bool.and_assoc]
theorem aNI(q q':jK)(h:EZ N q):FM N q.1 q.2.1 q.2.2.1 q.2.2.2.1 q.2.2.2.2.1 q.2.2.2.2.2.1 q.2.2.2.2.2.2 q'.1 q'.2.1 q'.2.2.1 q'.2.2.2.1 q'.2.2.2.2.1 q'.2.2.2.2.2.1 q'.2.2.2.2.2.2=some (bT q q'):=by
 obtain⟨q0,q1,q2,q3,q4,q5,q6⟩:=q;obtain⟨r0,r1,r2,r3,r4,r5,r6⟩:=q';obtain⟨h1,h2,h3,h4,h6⟩:=h;simp only at h1 h2 h3 h4 h6;unfold FM Pq;simp only;rw[fM (aFQ q1 r1 h1.1 hN),fM (Lr q2 r2 h2.1 hN),fM (aFJ q3 r3 h3 hN),fM (Lr q6 r6 h6.1 hN)];simp only[Nj,Nq];generalize bT q0 r0=x0,bT q1 r1=x1,bT q2 r2=x2,bT q3 r3=x3,bT q4 r4=x4,bT q5 r5=x5,bT q6 r6=x6;cases x0 <;> cases x1 <;> cases x2 <;> cases x3 <;> cases x4 <;> cases x5 <;> cases x6 <;> rfl
theorem aN6(i j:mN)(h:OX N i):FU N i.1 i.2.1 i.2.2.1 i.2.2.2 j.1 j.2.1 j.2.2.1 j.2.2.2=some (bT i j):=by
 obtain⟨i0,i1,i2,i3⟩:=i;obtain⟨j0,j1,j2,j3⟩:=j;obtain⟨h0,h1,h2,h3⟩:=h;simp only at h0 h1 h2 h3;unfold FU QB;simp only;rw[fM (aN0 i1 j1 h1.1 hN λy hy y' _=>aNX hN y y' (h1.2 y hy)),fM (aNR i2 j2 h2 hN),fM (aNL i3 j3 h3.1 hN λy hy y' _=>aNI hN y y' (h3.2 y hy))];simp only[Nj,Nq];generalize bT i0 j0=x0,bT i1 j1=x1,bT i2 j2=x2,bT i3 j3=x3;cases x0 <;> cases x1 <;> cases x2 <;> cases x3 <;> rfl
theorem aS3(x y:lO)(h:EW N x):S7 N x.1 x.2 y.1 y.2=some (bT x y):=by
 obtain⟨x0,x1⟩:=x;obtain⟨y0,y1⟩:=y;obtain⟨h0,h1,h2⟩:=h;simp only at h0 h1 h2;unfold S7 S9;simp only;rw[fM (aN9 x1 y1 h1 hN λy hy y' _=>aN6 hN y y' (h2 y hy))];simp only[Nj,Nq];generalize bT x0 y0=a,bT x1 y1=b;cases a <;> cases b <;> rfl
end
end Go.Proofs
/- Runs that come to some outcome: numbers taken one after the other. -/
namespace Go.Proofs
open Go Go.Ax Go.Ax.aA
def Ev{α:Type}(mk:α->aF)(Q:α->Prop)(x:O):Prop:=∃d,x=some (mk d)/\Q d
section
variable{α β:Type}{mk:α->aF}{Q:α->Prop}
theorem dX{d:α}(h:Q d):Ev mk Q (some (mk d)):=⟨d,rfl,h⟩
theorem kW{un:aF->Option α}{x:O}(hu:∀d,un (mk d)=some d)(h:Ev mk Q x):∃d,x.bind un=some d/\Q d:=by
 obtain⟨d,rfl,hd⟩:=h;exact⟨d,hu d,hd⟩
theorem dQ{c:Bool}{x y:O}(h1:c=true->Ev mk Q x)(h2:c=false->Ev mk Q y):Ev mk Q (br c x y):=by
 cases c with
 |true=>exact h1 rfl
 |false=>exact h2 rfl
theorem fE{b:Bool}{x:O}(h:b=true)(hx:Ev mk Q x):Ev mk Q (ck b x):=by
 rw[eY h];exact hx
theorem bX{z:Option β}{R:β->Prop}{k:β->O}(hz:∃r,z=some r/\R r)(hk:∀r,R r->Ev mk Q (k r)):Ev mk Q (cb z k):=by
 obtain⟨r,rfl,h⟩:=hz;exact hk r h
theorem mF{l:List β}{n:Int}{k:β->O}(h0:0<=n)(h1:n<(l.length:Int))(hk:∀y∈l,Ev mk Q (k y)):Ev mk Q (gx l n k):=by
 have hy:l[n.toNat]?=some (l[n.toNat]'(by omega)):=dC _;rw[iP h0 hy];exact hk _ (iM hy)
theorem sS{σ:Type}(L:Nat->σ->O)(F:(σ->O)->σ->O)(hL:∀n x,L (n+1) x=F (L n) x)(Inv:σ->Prop)(mu:σ->Nat)(h:∀(self:σ->O) x,Inv x->(∀y,Inv y->mu y<mu x->Ev mk Q (self y))->Ev mk Q (F self x)):∀n x,Inv x->mu x<n->Ev mk Q (L n x):=by
 intro n
 induction n with
 |zero=>intro x _ h;omega
 |succ n ih=>
   intro x hx hm;rw[hL];exact h _ x hx λy hy hl=>ih y hy (by omega)
theorem Ni{s:Lp}{F:(s.V->O)->s.F}{n:Nat}{x:s.V}{k0:s.Y 0->O}{k1:s.Y 1->O}{k2:s.Y 2->O}(h:Ev mk Q (F (λy=>bL s F n y k0 k1 k2) x k0 k1 k2)):Ev mk Q (bL s F (n+1) x k0 k1 k2):=h
end
def Mk(l:List Int):Prop:=∀n∈l,lK n
theorem aVI(N:Nat){n:Int}(h:lK n)(m:Int):∃r,Gj N n m=some r/\0<=r/\(1<=m->r<m):=by
 unfold Gj L1;refine kW (mk:=aB A1) (λ_=>rfl) (dQ (λhc=>?_) (λhc=>?_))
 .have hc:=bK hc
  refine dQ (λh1=>dX ⟨iC _,λh2=>by have:=bK h1;omega⟩) λh1=>?_
  have h1:=nS h1;rw[cA (n:=n+1) (by omega) (by omega),cA (by omega) (by omega)];exact fE (aX (by omega)) (dX ⟨E6 _ (by omega),λ_=>O0 _ (by omega)⟩)
 .have hc:=nS hc
  refine dQ (λh1=>dX ⟨iC _,λh2=>by have:=bK h1;omega⟩) λh1=>?_
  have h1:=nS h1;exact fE (aX (by omega)) (dX ⟨E6 _ (by omega),λ_=>O0 _ (by omega)⟩)
theorem aOm(N:Nat){L:List Int}(hL:Mk L)(i m:Int):∃r,CM N L i m=some r/\0<=r/\(1<=m->r<m):=by
 unfold CM K2;refine kW (mk:=aB Fi) (λ_=>rfl) (dQ (λhc=>dX ⟨iC _,λh=>h⟩) (λhc=>?_));rw[Bool.or_eq_false_iff,Np,Np]at hc;exact mF (by omega) (by omega) λy hy=>bX (aVI N (hL y hy) m) λr hr=>dX hr
def Tk(m:Int)(d:Int×List Int×Int):Prop:=0<=d.1/\(1<=m->d.1<m)/\Mk d.2.1
theorem dH(N:Nat){L:List Int}(hL:Mk L)(m I:Int):∃d,bU N m L I=some d/\Tk m d:=by
 unfold bU RF;exact kW (mk:=aB Kf) (λ_=>rfl) (bX (aOm N hL _ m) λr hr=>dX ⟨hr.1,hr.2,hL⟩)
theorem Jt(N:Nat){L:List Int}(hL:Mk L)(I:Int):∃d,CD N L I=some d/\d.1.length<=9/\Mk d.2.1:=by
 unfold CD PX;refine kW (mk:=aB Js) (λ_=>rfl) (bX (dH N hL 12 I) λr hr=>mF hr.1 (hr.2.1 (by decide)) λy hy=>dX ⟨?_,hr.2.2⟩);show y.length<=9
 revert y
 decide +kernel
theorem qB{β:Type}{P:β->Prop}{l:List β}{y:β}(hl:∀x∈l,P x)(hy:P y):∀x∈l++[y],P x:=by
 intro x hx;rcases List.mem_append.1 hx with h|h
 .exact hl x h
 .rw[nH.1 h];exact hy
theorem fC{β:Type}(l:List β)(y:β):(l++[y]).length=l.length+1:=by simp
theorem lB{n b:Nat}(h:n<=1000000)(hb:b<=1000):bE n b=true:=rF (Nat.le_trans (Nat.mul_le_mul h hb) (by decide)) (by omega)
theorem aAv{N:Nat}(hN:1000<=N){L:List Int}(hL:Mk L)(I:Int):∃d,KM N L I=some d/\JU N d.1/\Mk d.2.1:=by
 unfold KM Pm;refine kW (mk:=aB KN) (λ_=>rfl) (bX (dH N hL 2 I) λr hr=>bX (dH N hr.2.2 5 _) λr1 hr1=>mF hr1.1 (hr1.2.1 (by decide)) λy hy=>?_);have hy3:y<=3:=by revert y;decide
 unfold aAt;refine sS (λn (x:Int×Int×Int×List Int×Int×List (Int×List UInt8))=>KO N n x _ nn nn) (λself x=>KQ N self x _ nn nn) (λ_ _=>rfl) (λx=>x.2.1<=3/\0<=x.2.2.1/\Mk x.2.2.2.1/\(x.2.2.2.2.2.length:Int)<=x.2.2.1/\x.2.2.1<=3/\JU N x.2.2.2.2.2) (λx=>(4-x.2.2.1).toNat) ?_ N _ ⟨hy3,iC _,hr1.2.2,iC _,by show(0:Int)<=3;decide,by show 0<N;omega,λ_ h=>by cases h⟩ (by show 4<N;omega);intro self x hx ih;obtain⟨x0,x1,x2,M,J,out⟩:=x;obtain⟨h1,h2,h3,h4,h5,h6⟩:=hx;simp only at h1 h2 h3 h4 h5 h6;unfold KQ aAx
 dsimp only
 refine dQ (λhc=>fE rfl (bX (Jt N h3 J) λq hq=>?_)) λ_=>dX ⟨h6,h3⟩
 have hc:=bK hc;rw[cA (n:=x2+1) (by omega) (by omega)];refine fE (lB (by rw[fC];omega) (by decide)) (ih (x0,x1,x2+1,q.2.1,q.2.2,out++[_]) ⟨h1,by show 0<=x2+1;omega,hq.2,by show((out++[_]).length:Int)<=x2+1;rw[fC];omega,by show x2+1<=3;omega,by rw[fC];omega,qB h6.2 (by show q.1.length<N;omega)⟩ (by show(4-(x2+1)).toNat<(4-x2).toNat;omega))
end Go.Proofs
/- The generator's blocks: they are small. -/
namespace Go.Proofs
open Go Go.Ax Go.Ax.aA
theorem aMt{N:Nat}(hN:1000<=N){L:List Int}(hL:Mk L)(I:Int):∃d,Ph N L I=some d/\d.2.1.length<N/\Mk d.2.2.1:=by
 unfold Ph Pj;refine kW (mk:=aB w6) (λ_=>rfl) (bX (dH N hL 5 I) λr0 h0=>mF h0.1 (h0.2.1 (by decide)) λy1 _=>bX (dH N h0.2.2 6 _) λr2 h2=>mF h2.1 (h2.2.1 (by decide)) λy3 _=>bX (dH N h2.2.2 6 _) λr4 h4=>mF h4.1 (h4.2.1 (by decide)) λy5 _=>?_);refine dQ (λ_=>dX ⟨by show 2<N;omega,h4.2.2⟩) λ_=>dQ (λ_=>bX (dH N h4.2.2 3 _) λr6 h6=>dQ (λ_=>dX ⟨by show 3<N;omega,h6.2.2⟩) λ_=>dX ⟨by show 2<N;omega,h6.2.2⟩) λ_=>dQ (λh=>by cases h) λ_=>dX ⟨by show 2<N;omega,h4.2.2⟩
def WY:Nat->Int
 |0=>10
 |k+1=>10*WY k
theorem aNE(N:Nat):∀(k:Nat)(n:Int),0<=n->n<WY k->n<=1000000->∀m,k<m->k<=10->∃s,Po (FJ N m) n=some s/\s.length<=k+1:=by
 intro k
 induction k with
 |zero=>
   intro n h0 h1 _ m hm _;obtain⟨m,rfl⟩:∃j,m=j+1:=⟨m-1,by omega⟩
   show ∃s,KR (FJ N m) n=some s/\_
   unfold KR FL;exact kW (mk:=aB AR) (λ_=>rfl) (dQ (λ_=>dX (cE 1)) λhc=>absurd h1 (nS hc))
 |succ k ih=>
   intro n h0 h1 h2 m hm hk;obtain⟨m,rfl⟩:∃j,m=j+1:=⟨m-1,by omega⟩
   show ∃s,KR (FJ N m) n=some s/\_
   unfold KR FL;refine kW (mk:=aB AR) (λ_=>rfl) (dQ (λ_=>dX (by show 1<=_;omega)) λhc=>fE rfl ?_);have h1:n<10*WY k:=h1;have h3:n.tdiv 10=n / 10:=Int.tdiv_eq_ediv_of_nonneg h0;rw[h3,cA (n:=n / 10) (by omega) (by omega)];refine bX (ih (n / 10) (by omega) (by omega) (by omega) m (by omega) (by omega)) λr hr=>fE rfl (fE (aX ?_) (dX ?_))
   .show(r.length:Int)+1<=_
    omega
   .rw[fC]
    omega
theorem aAz{N:Nat}(hN:1000<=N){n:Int}(h0:0<=n)(h1:n<1000):∃s,Pn N n=some s/\s.length<=3:=aNE N 2 n h0 (by show n<1000;exact h1) (by omega) N (by omega) (by decide)
theorem aTL(N:Nat)(op:Int):∃r,Su N op=some r/\0<=r/\r<=2:=by
 unfold Su Sv;exact kW (mk:=aB Ci) (λ_=>rfl) (dQ (λ_=>dX (by decide)) λ_=>dQ (λ_=>dX (by decide)) λ_=>dX (by decide))
theorem a1H(l:List Ex)(e:Ex):jF (l++[e])=jF l+dD e:=by
 induction l with
 |nil=>simp[jF]
 |cons x l ih=>rw[pP];simp only[jF,ih];omega
def qE:Nat->Nat
 |0=>1
 |k+1=>2*qE k+1
theorem a7a:∀k,1<=qE k
 |0=>cE _
 |k+1=>by show 1<=2*qE k+1;omega
theorem aXV{N:Nat}(hN:1000<=N):∀(k:Nat)(d:Int),d<=k->-10<=d->k<=10->∀m,k<m->∀{L:List Int}(_:Mk L)(I:Int),∃r,Uq (rY N m) (d,L,I)=some r/\dD (Ex.mk r.1 r.2.1 r.2.2.1)<=qE k/\Mk r.2.2.2.1:=by
 intro k
 induction k with
 |zero=>
   intro d hd hd' hk m hm L hL I;obtain⟨m,rfl⟩:∃j,m=j+1:=⟨m-1,by omega⟩
   show ∃s,Lm (rY N m) d L I=some s/\_
   unfold Lm HJ;refine kW (mk:=aB qV) (λ_=>rfl) (bX (dH _ hL 12 I) λr hr=>?_);unfold Ut HI Lq Uv
   dsimp only
   refine dQ (λ_=>fE rfl ?_) (λhc=>absurd (nS hc) (by omega));have h3:0<=r.1.tmod 3/\r.1.tmod 3<3:=⟨E6 _ hr.1,O0 _ (by decide)⟩;refine dQ (λ_=>bX (dH _ hr.2.2 6 _) λq hq=>mF hq.1 (hq.2.1 (by decide)) λy _=>dX ⟨by simp[dD,jF,qE],hq.2.2⟩) λh2=>dQ (λ_=>bX (dH _ hr.2.2 4 _) λq hq=>dX ⟨by simp[dD,jF,qE],hq.2.2⟩) λh3'=>?_
   exact absurd (nS h3') (by have:=nS h2;show ¬ ¬ r.1.tmod 3=2;have h4:¬ r.1.tmod 3<2:=this;omega)
 |succ k ih=>
   intro d hd hd' hk m hm L hL I;obtain⟨m,rfl⟩:∃j,m=j+1:=⟨m-1,by omega⟩
   show ∃s,Lm (rY N m) d L I=some s/\_
   have hN1:(rY N m).1=N:=by cases m <;> rfl
   have hR:=λ{L:List Int}(hL:Mk L)(I:Int)=>ih (d-1) (by omega)
   unfold Lm HJ;refine kW (mk:=aB qV) (λ_=>rfl) (bX (dH _ hL 12 I) λr hr=>?_);unfold Ut HI Lq Uv
   dsimp only
   have hb:=a7a k;have key:∀z:Int,0<=z->(d<=0->z<3)->Ev (aB qV) (λr=>dD (Ex.mk r.1 r.2.1 r.2.2.1)<=qE (k+1)/\Mk r.2.2.2.1)
    (br (decide (z<(2:Int)))
     (cb (bU (rY N m).1 (6:Int) r.2.1 r.2.2)  λr8=>
     gx [(0:Int),(1:Int),(7:Int),(12:Int),(100:Int),(999999:Int)] r8.1 λy9=>
     some (aB qV (((0:Int)),y9,[],r8.2.1,r8.2.2)))
     (br (decide (z=(2:Int)))
      (cb (bU (rY N m).1 (4:Int) r.2.1 r.2.2)  λr10=>
      some (aB qV (((1:Int)),r10.1,[],r10.2.1,r10.2.2)))
      (cb (bU (rY N m).1 (7:Int) r.2.1 r.2.2)  λr11=>
      Us (rY N m) d (aH.wrap ((2:Int)+r11.1)) ((0:Int)) r11.2.1 r11.2.2 0 0 (aH.wrap ((2:Int)+r11.1)) ((0:Int)) []
       (λz21 z22 _ _ z25 z26 z27=>
        some (aB qV (z25,z26,z27,z21,z22)))))):=by
    intro z hz0 hz3;refine dQ (λ_=>bX (dH _ hr.2.2 6 _) λq hq=>mF hq.1 (hq.2.1 (by decide)) λy _=>dX ⟨by simp[dD,jF,qE],hq.2.2⟩) λh2=>dQ (λ_=>bX (dH _ hr.2.2 4 _) λq hq=>dX ⟨by simp[dD,jF,qE],hq.2.2⟩) λh3'=>bX (dH _ hr.2.2 7 _) λq hq=>?_
    have h2:=nS h2;have h3':=nS h3';have hd0:0<d:=by
     rcases Int.lt_or_le 0 d with h|h
     .exact h
     .have:=hz3 h;omega
    have hRz:=λ{L:List Int}(hL:Mk L)(I:Int)=>ih (d-1) (by omega) (by omega) (by omega) m (by omega) hL I
    unfold Us;generalize rY N m=R at hN1 hRz ⊢;refine sS (λn (x:Int×Int×Int×List Int×Int×Int×Int×Int×Int×List Ex)=>Ln R n x _ nn nn) (λself x=>Lo R self x _ nn nn) (λ_ _=>rfl) (λx=>x.1=d/\0<=x.2.2.1/\x.2.2.1<=2/\Mk x.2.2.2.1/\(jF x.2.2.2.2.2.2.2.2.2:Int)<=x.2.2.1*(qE k:Int)/\(x.2.2.2.2.2.2.2.2.2.length:Int)<=x.2.2.1) (λx=>(4-x.2.2.1).toNat) ?_ R.1 _ ⟨rfl,iC _,by show(0:Int)<=_;decide,hq.2.2,by simp[jF],by show(0:Int)<=0;decide⟩ (by show 4<R.1;omega);intro self x hx ih';obtain⟨x0,x1,x2,M,J,x5,x6,x7,x8,out⟩:=x;obtain⟨h1,h2,h3,h4,h5,h6⟩:=hx;simp only at h1 h2 h3 h4 h5 h6;subst h1;unfold Lo aEt
    dsimp only
    refine bX (aTL _ x1) λa ha=>dQ (λhc=>?_) λ_=>dX ⟨?_,h4⟩
    .have hc:=bK hc
     rw[cA (n:=x0-1) (by omega) (by omega),cA (n:=x2+1) (by omega) (by omega)];refine bX (hRz h4 J) λq hq=>fE (lB (by rw[fC];omega) (by decide)) (ih' (x0,x1,x2+1,q.2.2.2.1,q.2.2.2.2,x5,x6,x7,x8,out++[Ex.mk q.1 q.2.1 q.2.2.1]) ⟨rfl,by show 0<=x2+1;omega,by show x2+1<=2;omega,hq.2,?_,?_⟩ (by show(4-(x2+1)).toNat<(4-x2).toNat;omega))
     .show(jF (out++[_]):Int)<=(x2+1)*_
      rw[a1H,Int.add_mul,Int.one_mul];have:=hq.1;omega
     .show((out++[_]).length:Int)<=x2+1
      rw[fC];omega
    .show dD (Ex.mk x7 x8 out)<=2*qE k+1
     simp only[dD];have:x2*(qE k:Int)<=2*(qE k:Int):=Int.mul_le_mul_of_nonneg_right h3 (by omega);omega
   refine dQ (λhc=>fE rfl (key (r.1.tmod 3) (E6 _ hr.1) λ_=>O0 _ (by decide))) λhc=>key r.1 hr.1 λh=>absurd (nS hc) (by omega)
theorem aMy{N:Nat}(hN:1000<=N){L:List Int}(hL:Mk L)(I:Int):∃r,Pk N 3 L I=some r/\dD (Ex.mk r.1 r.2.1 r.2.2.1)<N/\Mk r.2.2.2.1:=by
 have hz:∀(d:Int),d<=3->-10<=d->∀{L:List Int}(_:Mk L)(I:Int),∃r,Ll N d L I=some r/\dD (Ex.mk r.1 r.2.1 r.2.2.1)<=15/\Mk r.2.2.2.1:=λd h h' _ hL I=>aXV hN 3 d h h' (by decide) N (by omega) hL I
 unfold Pk Pl;refine kW (mk:=aB FH) (λ_=>rfl) (bX (dH _ hL 4 I) λr hr=>dQ (λ_=>?_) λ_=>bX (hz 3 (by decide) (by decide) hr.2.2 _) λq hq=>dX ⟨by have:=hq.1;show dD (Ex.mk q.1 q.2.1 q.2.2.1)<N;omega,hq.2⟩);refine bX (hz _ (by decide) (by decide) hr.2.2 _) λa ha=>bX (dH _ ha.2 2 _) λb hb=>bX (hz _ (by decide) (by decide) hb.2.2 _) λc hc=>dX ⟨?_,hc.2⟩
 have h1:=ha.1;have h2:=hc.1;show dD (Ex.mk _ _ [Ex.mk a.1 a.2.1 a.2.2.1,Ex.mk c.1 c.2.1 c.2.2.1])<N;have:∀(u v:Int)(x y:Ex),dD (Ex.mk u v [x,y])=1+(dD x+(dD y+0)):=λ_ _ _ _=>by simp only[dD,jF]
 rw[this];omega
theorem aMm{N:Nat}(hN:1000<=N){L:List Int}(hL:Mk L)(I:Int):∃d,Pe N L I=some d/\(aK5 N d.1/\d.1≠[])/\Mk d.2.1:=by
 unfold Pe Pg;refine kW (mk:=aB KH) (λ_=>rfl) (bX (dH N hL 3 I) λr hr=>bX (dH N hr.2.2 3 _) λr1 hr1=>?_);have a0:=hr.1;have a1:=hr.2.1 (by decide);have b0:=hr1.1;have b1:=hr1.2.1 (by decide);rw[cA (n:=1+r.1) (by omega) (by omega),cA (n:=1+r1.1) (by omega) (by omega)];unfold aAp;refine sS (λn (x:Int×Int×Int×List Int×Int×List aN)=>KI N n x _ nn nn) (λself x=>KK N self x _ nn nn) (λ_ _=>rfl) (λx=>(1<=x.1/\x.1<=3)/\(1<=x.2.1/\x.2.1<=3)/\(0<=x.2.2.1/\x.2.2.1<=3)/\Mk x.2.2.2.1/\((x.2.2.2.2.2.length:Int)=x.2.2.1)/\∀r∈x.2.2.2.2.2,s9 N r) (λx=>(4-x.2.2.1).toNat) ?_ N _ ⟨⟨by show 1<=1+r.1;omega,by show 1+r.1<=3;omega⟩,⟨by show 1<=1+r1.1;omega,by show 1+r1.1<=3;omega⟩,⟨iC _,by show(0:Int)<=_;decide⟩,hr1.2.2,rfl,λ_ h=>by cases h⟩ (by show 4<N;omega);intro self x hx ih;obtain⟨x0,x1,x2,M,J,out⟩:=x;obtain⟨⟨h1,h2⟩,⟨h3,h4⟩,⟨h5,h6⟩,h7,h8,h9⟩:=hx;simp only at h1 h2 h3 h4 h5 h6 h7 h8 h9;unfold KK aAr
 dsimp only
 refine dQ (λhc=>?_) λhc=>dX ⟨⟨⟨?_,h9⟩,?_⟩,h7⟩
 .have hc:=bK hc
  unfold aAq;refine sS (λn (x:Int×Int×Int×Int×List Int×Int×List (List UInt8)×List aN)=>KJ N n x _ nn nn) (λself x=>KL N self x _ nn nn) (λ_ _=>rfl) (λy=>y.1=x0/\y.2.1=x1/\y.2.2.1=x2/\y.2.2.2.2.2.2.2=out/\(0<=y.2.2.2.1/\y.2.2.2.1<=3)/\Mk y.2.2.2.2.1/\((y.2.2.2.2.2.2.1.length:Int)<=y.2.2.2.1)/\∀s∈y.2.2.2.2.2.2.1,s.length<N) (λx=>(4-x.2.2.2.1).toNat) ?_ N _ ⟨rfl,rfl,rfl,rfl,⟨iC _,by show(0:Int)<=_;decide⟩,h7,iC _,λ_ h=>by cases h⟩ (by show 4<N;omega);intro self y hy ih';obtain⟨y0,y1,y2,y3,M',J',row,out'⟩:=y;obtain⟨g1,g2,g3,g4,⟨g5,g6⟩,g7,g8,g9⟩:=hy;simp only at g1 g2 g3 g4 g5 g6 g7 g8 g9;subst g1 g2 g3 g4;unfold KL aAs
  dsimp only
  refine dQ (λhc'=>?_) λ_=>?_
  .have hc':=bK hc'
   rw[cA (n:=y3+1) (by omega) (by omega)];exact bX (Jt N g7 J') λq hq=>fE (lB (by rw[fC];omega) (by decide)) (ih' (y0,y1,y2,y3+1,q.2.1,q.2.2,row++[q.1],out') ⟨rfl,rfl,rfl,rfl,⟨by show 0<=y3+1;omega,by show y3+1<=3;omega⟩,hq.2,by show((row++[_]).length:Int)<=y3+1;rw[fC];omega,qB g9 (by have:=hq.1;omega)⟩ (by show(4-(y3+1)).toNat<(4-y3).toNat;omega))
  .rw[cA (n:=y2+1) (by omega) (by omega)]
   exact fE (lB (by rw[fC];omega) (by decide)) (ih (y0,y1,y2+1,M',J',out'++[row]) ⟨⟨h1,h2⟩,⟨h3,h4⟩,⟨by show 0<=y2+1;omega,by show y2+1<=3;omega⟩,g7,by show((out'++[_]).length:Int)=y2+1;rw[fC];omega,qB h9 ⟨by omega,g9⟩⟩ (by show(4-(y2+1)).toNat<(4-y2).toNat;omega))
 .show out.length<N
  omega
 .have hc:=nS hc
  show out≠[];intro e;rw[e]at h8;simp at h8;omega
theorem aMV{N:Nat}(hN:1000<=N){L:List Int}(hL:Mk L)(I:Int):∃d,PY N L I=some d/\s9 N d.1/\Mk d.2.1:=by
 unfold PY PZ;refine kW (mk:=aB Ju) (λ_=>rfl) (bX (dH N hL 3 I) λr hr=>?_);have a0:=hr.1;have a1:=hr.2.1 (by decide);rw[cA (n:=1+r.1) (by omega) (by omega)];unfold aAg;refine sS (λn (x:Int×Int×List Int×Int×List (List UInt8)×List (List UInt8))=>Jv N n x _ nn nn) (λself x=>Jw N self x _ nn nn) (λ_ _=>rfl) (λx=>x.1<=3/\(0<=x.2.1/\x.2.1<=3)/\Mk x.2.2.1/\(x.2.2.2.2.1.length=7/\∀s∈x.2.2.2.2.1,s.length<100)/\((x.2.2.2.2.2.length:Int)<=x.2.1)/\∀r∈x.2.2.2.2.2,r.length<N) (λx=>(4-x.2.1).toNat) ?_ N _ ⟨by show 1+r.1<=3;omega,⟨iC _,by show(0:Int)<=_;decide⟩,hr.2.2,⟨rfl,by dsimp only;decide +kernel⟩,iC _,λ_ h=>by cases h⟩ (by show 4<N;omega);intro self x hx ih;obtain⟨x0,x1,M,J,l,out⟩:=x;obtain⟨h1,⟨h3,h4⟩,h5,⟨h6,h7⟩,h8,h9⟩:=hx;simp only at h1 h3 h4 h5 h6 h7 h8 h9;unfold Jw aAi
 dsimp only
 refine dQ (λhc=>?_) λhc=>dX ⟨⟨by show out.length<N;omega,h9⟩,h5⟩
 have hc:=bK hc;rw[cA (n:=x1+1) (by omega) (by omega)];exact bX (dH N h5 7 J) λq hq=>mF hq.1 (by have:=hq.2.1 (by decide);omega) λy hy=>fE (lB (by rw[fC];omega) (by decide)) (ih (x0,x1+1,q.2.1,q.2.2,l,out++[y]) ⟨h1,⟨by show 0<=x1+1;omega,by show x1+1<=3;omega⟩,hq.2.2,⟨h6,h7⟩,by show((out++[_]).length:Int)<=x1+1;rw[fC];omega,qB h9 (by have:=h7 y hy;omega)⟩ (by show(4-(x1+1)).toNat<(4-x1).toNat;omega))
end Go.Proofs
/- The generator: figures, melodies. -/
namespace Go.Proofs
open Go Go.Ax Go.Ax.aA
theorem aEq(N:Nat)(a b c d:Int):∃r,Uo N a b c d=some r/\r.length=4:=⟨_,rfl,rfl⟩
theorem aI7{α β:Type}{mk:α->aF}{Q:α->Prop}{l:List β}{n:Nat}{k:β->O}(h:n<l.length)(hk:∀y∈l,Ev mk Q (k y)):Ev mk Q (gn l n k):=by
 rw[N6 (dC h)];exact hk _ (List.getElem_mem h)
theorem a4V(n:Int):yH 5 n=n:=rfl
def Fw(n m:Nat)(l:List (Int×List (Int×Int))):Prop:=(n<=l.length/\l.length<=m)/\∀s∈l,s.2.length<=4
theorem YX{n m:Nat}{l:List (Int×List (Int×Int))}(h:Fw n m l){a:Int×List (Int×Int)}(ha:a.2.length<=4):Fw (n+1) (m+1) (l++[a]):=⟨by rw[fC];have:=h.1;omega,qB h.2 ha⟩
theorem aIf{n m n' m':Nat}{l:List (Int×List (Int×Int))}(h:Fw n m l)(hn:n'<=n)(hm:m<=m'):Fw n' m' l:=⟨by have:=h.1;omega,h.2⟩
theorem aIg{N n m:Nat}(hN:1000<=N){l:List (Int×List (Int×Int))}(h:Fw n m l)(hn:1<=n)(hm:m<=10):Zr N l/\l≠[]:=⟨⟨by have:=h.1;omega,λs hs=>by have:=h.2 s hs;omega⟩,λe=>by have:=h.1;rw[e]at this;simp at this;omega⟩
theorem aMf{N:Nat}{α:Type}{mk:α->aF}{Q:α->Prop}{M:List Int}(hM:Mk M)(J a b c d:Int){l:List (Int×List (Int×Int))}(hl:Fw 1 1 l){k:List Int->Int->Int->Int->Int->Int->List (Int×List (Int×Int))->O}(hk:∀M J l,Mk M->Fw 1 2 l->Ev mk Q (k M J a b c d l)):Ev mk Q (P8 N M J a b c d l k):=by
 unfold P8 KG Pb aAo
 dsimp only
 refine bX (dH N hM 3 _) λr10 h10=>dQ (λ_=>bX (dH N h10.2.2 5 _) λr11 h11=>bX (dH N h11.2.2 8 _) λr12 h12=>fE (lB (by have:=hl.1;simp;omega) (by decide)) (hk _ _ _ h12.2.2 (aIf (YX hl (by simp)) (by decide) (by decide)))) λ_=>hk _ _ _ h10.2.2 (aIf hl (by decide) (by decide))
theorem aMe{N:Nat}{α:Type}{mk:α->aF}{Q:α->Prop}{M:List Int}(hM:Mk M)(x J a b c d:Int){l:List (Int×List (Int×Int))}(hl:Fw 1 2 l){k:List Int->Int->Int->Int->Int->Int->List (Int×List (Int×Int))->O}(hk:∀M J l,Mk M->Fw 2 3 l->Ev mk Q (k M J a b c d l)):Ev mk Q (P7 N x M J a b c d l k):=by
 unfold P7 KF Pa aAn
 dsimp only
 refine bX (dH N hM 2 _) λr30 h30=>dQ (λ_=>bX (dH N h30.2.2 6 _) λr31 h31=>fE (lB (by have:=hl.1;simp;omega) (by decide)) (hk _ _ _ h31.2.2 (YX hl (by simp)))) λ_=>bX (dH N h30.2.2 12 _) λr32 h32=>bX (aEq N _ _ _ _) λr33 h33=>fE (lB (by have:=hl.1;simp;omega) (by decide)) (hk _ _ _ h32.2.2 (YX hl (by simp;omega)))
theorem aMd{N:Nat}(hN:1000<=N){L:List Int}(hL:Mk L)(I:Int):∃d,P4 N L I=some d/\(Zr N d.2.2.1/\d.2.2.1≠[])/\Mk d.2.2.2.1:=by
 unfold P4 Pd;refine kW (mk:=aB FE) (λ_=>rfl) (bX (dH N hL 4 I) λr0 h0=>bX (dH N h0.2.2 9 _) λr1 h1=>bX (aEq N _ _ _ _) λr2 h2=>fE rfl (aMf h1.2.2 _ _ _ _ _ ⟨by simp,by intro s hs;rw[nH.1 hs];show r2.length<=4;omega⟩ λM J l hM hl=>bX (dH N hM 4 J) λr20 h20=>aMe h20.2.2 _ _ _ _ _ _ hl λM J z hM hz=>bX (dH N hM 3 J) λr41 h41=>dQ (λ_=>bX (dH N h41.2.2 20 _) λr42 h42=>?_) λ_=>dX ⟨aIg hN hz (by decide) (by decide),h41.2.2⟩));have hz1:=hz.1;have hw:∀a:Int×List (Int×Int),aH.wrap (((z++[a]).length:Int)-1)=(z.length:Int):=by
  intro a;rw[fC,cA (by omega) (by omega)];omega
 simp only[a4V,hw];have hy:∀a:Int×List (Int×Int),(z++[a])[((z.length:Nat):Int).toNat]?=some a:=λa=>by rw[Int.toNat_natCast,List.getElem?_append_right (cE _),Nat.sub_self];rfl
 refine fE (lB (by simp;omega) (by decide)) ?_;rw[iP (by omega) (hy _)];refine fE (aX ⟨by omega,by rw[fC];omega⟩) (fE (aX trivial) ?_);rw[N6 (hy _)];refine fE (aX ⟨by omega,by rw[fC];omega⟩) (fE (aX trivial) ?_);rw[N6 (hy _)];refine fE rfl (aI7 (by simp) λy46 _=>fE rfl (aI7 (by simp) λy47 _=>?_));rw[iP (by omega) (hy _)];refine dX ⟨?_,h42.2.2⟩;refine aIg (n:=3) (m:=4) hN ⟨by rw[List.length_set,fC];omega,λs hs=>?_⟩ (by decide) (by decide);rcases List.mem_or_eq_of_mem_set hs with h|h
 .exact qB hz.2 (by simp) s h
 .rw[h]
  simp
theorem aM4{N:Nat}(hN:1000<=N){α:Type}{mk:α->aF}{Q:α->Prop}{M:List Int}(hM:Mk M)(a b c d n J:Int)(h0:List (List (Int×Int×Int)))(o:List (List (List (Int×Int×Int))))(hn:n<=4){k:Int->Int->Int->Int->List Int->Int->List (List (Int×Int×Int))->List (Int×Int×Int)->List (List (List (Int×Int×Int)))->O}(hk:∀M J l,Mk M->l.length<=4->Ev mk Q (k a b c d M J h0 l o)):Ev mk Q (P2 N a b c d n 0 M J h0 [] o k):=by
 unfold P2;refine sS (λn (x:Int×Int×Int×Int×Int×Int×List Int×Int×List (List (Int×Int×Int))×List (Int×Int×Int)×List (List (List (Int×Int×Int))))=>KA N n x _ nn nn) (λself x=>KE N self x _ nn nn) (λ_ _=>rfl) (λx=>(x.1=a/\x.2.1=b/\x.2.2.1=c/\x.2.2.2.1=d/\x.2.2.2.2.1=n/\x.2.2.2.2.2.2.2.2.1=h0/\x.2.2.2.2.2.2.2.2.2.2=o)/\(0<=x.2.2.2.2.2.1/\x.2.2.2.2.2.1<=4)/\Mk x.2.2.2.2.2.2.1/\(x.2.2.2.2.2.2.2.2.2.1.length:Int)<=x.2.2.2.2.2.1) (λx=>(5-x.2.2.2.2.2.1).toNat) ?_ N _ ⟨⟨rfl,rfl,rfl,rfl,rfl,rfl,rfl⟩,⟨iC _,by show(0:Int)<=_;decide⟩,hM,iC _⟩ (by show 5<N;omega);intro self x hx ih;obtain⟨x0,x1,x2,x3,x4,x5,M,J,x8,out,x10⟩:=x;obtain⟨⟨g1,g2,g3,g4,g5,g6,g7⟩,⟨h1,h2⟩,h3,h4⟩:=hx;simp only at g1 g2 g3 g4 g5 g6 g7 h1 h2 h3 h4;subst g1 g2 g3 g4 g5 g6 g7;unfold KE aAm
 dsimp only
 refine dQ (λhc=>?_) λ_=>hk M J out h3 (by omega)
 have hc:=bK hc;rw[cA (n:=x5+1) (by omega) (by omega)];have step:∀(M:List Int)(J:Int)(y:Int×Int×Int),Mk M->_:=λM J y hM=>ih (x0,x1,x2,x3,x4,x5+1,M,J,x8,out++[y],x10) ⟨⟨rfl,rfl,rfl,rfl,rfl,rfl,rfl⟩,⟨by show 0<=x5+1;omega,by show x5+1<=4;omega⟩,hM,by show((out++[_]).length:Int)<=x5+1;rw[fC];omega⟩ (by show(5-(x5+1)).toNat<(5-x5).toNat;omega)
 exact bX (dH N h3 21 J) λr1 q1=>bX (dH N q1.2.2 5 _) λr2 q2=>bX (dH N q2.2.2 5 _) λr3 q3=>mF q3.1 (q3.2.1 (by decide)) λy _=>bX (dH N q3.2.2 6 _) λr5 q5=>dQ (λ_=>fE (lB (by rw[fC];omega) (by decide)) (step _ _ _ q5.2.2)) λ_=>fE (lB (by rw[fC];omega) (by decide)) (step _ _ _ q5.2.2)
theorem aM3{N:Nat}(hN:1000<=N){α:Type}{mk:α->aF}{Q:α->Prop}{M:List Int}(hM:Mk M)(a n c J:Int)(o:List (List (List (Int×Int×Int))))(hn:n<=3){k:Int->Int->Int->List Int->Int->List (List (Int×Int×Int))->List (List (List (Int×Int×Int)))->O}(hk:∀M J l,Mk M->J1 N l->Ev mk Q (k a n c M J l o)):Ev mk Q (P1 N a n c 0 M J [] o k):=by
 unfold P1;refine sS (λn (x:Int×Int×Int×Int×List Int×Int×List (List (Int×Int×Int))×List (List (List (Int×Int×Int))))=>Jz N n x _ nn nn) (λself x=>KD N self x _ nn nn) (λ_ _=>rfl) (λx=>(x.1=a/\x.2.1=n/\x.2.2.1=c/\x.2.2.2.2.2.2.2=o)/\(0<=x.2.2.2.1/\x.2.2.2.1<=3)/\Mk x.2.2.2.2.1/\(x.2.2.2.2.2.2.1.length:Int)<=x.2.2.2.1/\∀b∈x.2.2.2.2.2.2.1,b.length<N) (λx=>(5-x.2.2.2.1).toNat) ?_ N _ ⟨⟨rfl,rfl,rfl,rfl⟩,⟨iC _,by show(0:Int)<=_;decide⟩,hM,iC _,λ_ h=>by cases h⟩ (by show 5<N;omega);intro self x hx ih;obtain⟨x0,x1,x2,x3,M,J,out,x7⟩:=x;obtain⟨⟨g1,g2,g3,g4⟩,⟨h1,h2⟩,h3,h4,h5⟩:=hx;simp only at g1 g2 g3 g4 h1 h2 h3 h4 h5;subst g1 g2 g3 g4;unfold KD aAl
 dsimp only
 refine dQ (λhc=>?_) λ_=>hk M J out h3 ⟨by omega,h5⟩
 have hc:=bK hc;refine bX (dH N h3 4 J) λr1 q1=>?_
 have q2:=q1.2.1 (by decide);have q3:=q1.1;rw[cA (n:=1+r1.1) (by omega) (by omega)];refine aM4 hN q1.2.2 _ _ _ _ _ _ _ _ (by omega) λM J l hM hl=>fE (lB (by rw[fC];omega) (by decide)) ?_
 rw[cA (n:=x3+1) (by omega) (by omega)];exact ih (x0,x1,x2,x3+1,M,J,out++[l],x7) ⟨⟨rfl,rfl,rfl,rfl⟩,⟨by show 0<=x3+1;omega,by show x3+1<=3;omega⟩,hM,by show((out++[_]).length:Int)<=x3+1;rw[fC];omega,qB h5 (by omega)⟩ (by show(5-(x3+1)).toNat<(5-x3).toNat;omega)
theorem aM2{N:Nat}(hN:1000<=N){L:List Int}(hL:Mk L)(I:Int):∃d,P0 N L I=some d/\(Zh N d.1/\d.1≠[])/\Mk d.2.1:=by
 unfold P0 P3;refine kW (mk:=aB Jx) (λ_=>rfl) (bX (dH N hL 2 I) λr hr=>bX (dH N hr.2.2 3 _) λr1 hr1=>?_);have a0:=hr.1;have a1:=hr.2.1 (by decide);have b0:=hr1.1;have b1:=hr1.2.1 (by decide);rw[cA (n:=1+r.1) (by omega) (by omega),cA (n:=1+r1.1) (by omega) (by omega)];unfold aAj;refine sS (λn (x:Int×Int×Int×List Int×Int×List (List (List (Int×Int×Int))))=>Jy N n x _ nn nn) (λself x=>KC N self x _ nn nn) (λ_ _=>rfl) (λx=>(1<=x.1/\x.1<=2)/\x.2.1<=3/\(0<=x.2.2.1/\x.2.2.1<=2)/\Mk x.2.2.2.1/\((x.2.2.2.2.2.length:Int)=x.2.2.1)/\∀r∈x.2.2.2.2.2,J1 N r) (λx=>(4-x.2.2.1).toNat) ?_ N _ ⟨⟨by show 1<=1+r.1;omega,by show 1+r.1<=2;omega⟩,by show 1+r1.1<=3;omega,⟨iC _,by show(0:Int)<=_;decide⟩,hr1.2.2,rfl,λ_ h=>by cases h⟩ (by show 4<N;omega);intro self x hx ih;obtain⟨x0,x1,x2,M,J,out⟩:=x;obtain⟨⟨h1,h2⟩,h4,⟨h5,h6⟩,h7,h8,h9⟩:=hx;simp only at h1 h2 h4 h5 h6 h7 h8 h9;unfold KC aAk
 dsimp only
 refine dQ (λhc=>?_) λhc=>dX ⟨⟨⟨?_,h9⟩,?_⟩,h7⟩
 .have hc:=bK hc
  refine aM3 hN h7 _ _ _ _ _ h4 λM J l hM hl=>fE (lB (by rw[fC];omega) (by decide)) ?_
  rw[cA (n:=x2+1) (by omega) (by omega)];exact ih (x0,x1,x2+1,M,J,out++[l]) ⟨⟨h1,h2⟩,h4,⟨by show 0<=x2+1;omega,by show x2+1<=2;omega⟩,hM,by show((out++[_]).length:Int)=x2+1;rw[fC];omega,qB h9 hl⟩ (by show(4-(x2+1)).toNat<(4-x2).toNat;omega)
 .show out.length<N
  omega
 .have hc:=nS hc
  show out≠[];intro e;rw[e]at h8;simp at h8;omega
end Go.Proofs
/- The generator: blocks, facts, questions. -/
namespace Go.Proofs
open Go Go.Ax Go.Ax.aA
theorem a7i{N:Nat}(hN:1000<=N):J7 N [] (Ex.mk 0 0 []) [] [] [] [] []:=by
 refine⟨⟨?_,λ_ h=>by cases h⟩,?_,?_,⟨?_,λ_ h=>by cases h⟩,⟨?_,λ_ h=>by cases h⟩,⟨?_,λ_ h=>by cases h⟩,⟨?_,λ_ h=>by cases h⟩⟩
 .show 0<N;omega
 .show dD (Ex.mk 0 0 [])<N;simp only[dD,jF];omega
 all_goals (show 0<N;omega)
abbrev B28:=Int×List (Int×List UInt8)×Int×Int×List Ex×Int×List Int×List aN×Int×Int×List (Int×List (Int×Int))×List (List (List (Int×Int×Int)))×List (List UInt8)×List Int×Int
structure a8r(N:Nat)(d:B28):Prop where
 b:J7 N d.2.1 (Ex.mk d.2.2.1 d.2.2.2.1 d.2.2.2.2.1) d.2.2.2.2.2.2.1 d.2.2.2.2.2.2.2.1 d.2.2.2.2.2.2.2.2.2.2.1 d.2.2.2.2.2.2.2.2.2.2.2.1 d.2.2.2.2.2.2.2.2.2.2.2.2.1
 g:d.1=3->d.2.2.2.2.2.2.2.1≠[]
 f:d.1=4->d.2.2.2.2.2.2.2.2.2.2.1≠[]
 m:d.1=5->d.2.2.2.2.2.2.2.2.2.2.2.1≠[]
 k:Mk d.2.2.2.2.2.2.2.2.2.2.2.2.2.1
theorem aPc{N:Nat}(hN:1000<=N)(kd:Int){L:List Int}(hL:Mk L)(I:Int):∃d,Qk N kd L I=some d/\a8r N d:=by
 have z:=a7i hN;unfold Qk Ql;refine kW (mk:=aB tU) (λ_=>rfl) (dQ (λh=>?_) λh0=>dQ (λh=>?_) λh1=>dQ (λh=>?_) λh2=>dQ (λh=>?_) λh3=>dQ (λh=>?_) λh4=>dQ (λh=>?_) λh5=>?_)
 .have h:=bK h
  exact bX (aAv hN hL I) λr hr=>dX ⟨{ z with r:=hr.1 },λe=>absurd e (by show ¬ kd=3;omega),λe=>absurd e (by show ¬ kd=4;omega),λe=>absurd e (by show ¬ kd=5;omega),hr.2⟩
 .have h:=bK h
  exact bX (aMy hN hL I) λr hr=>dX ⟨{ z with e:=hr.1 },λe=>absurd e (by show ¬ kd=3;omega),λe=>absurd e (by show ¬ kd=4;omega),λe=>absurd e (by show ¬ kd=5;omega),hr.2⟩
 .have h:=bK h
  exact bX (aMt hN hL I) λr hr=>dX ⟨{ z with s:=hr.1 },λe=>absurd e (by show ¬ kd=3;omega),λe=>absurd e (by show ¬ kd=4;omega),λe=>absurd e (by show ¬ kd=5;omega),hr.2⟩
 .have h:=bK h
  exact bX (aMm hN hL I) λr hr=>dX ⟨{ z with g:=hr.1.1 },λ_=>hr.1.2,λe=>absurd e (by show ¬ kd=4;omega),λe=>absurd e (by show ¬ kd=5;omega),hr.2⟩
 .have h:=bK h
  exact bX (aMd hN hL I) λr hr=>dX ⟨{ z with f:=hr.1.1 },λe=>absurd e (by show ¬ kd=3;omega),λ_=>hr.1.2,λe=>absurd e (by show ¬ kd=5;omega),hr.2⟩
 .have h:=bK h
  exact bX (aM2 hN hL I) λr hr=>dX ⟨{ z with m:=hr.1.1 },λe=>absurd e (by show ¬ kd=3;omega),λe=>absurd e (by show ¬ kd=4;omega),λ_=>hr.1.2,hr.2⟩
 .have h3:=nS h3
  have h4:=nS h4;have h5:=nS h5;exact bX (aMV hN hL I) λr hr=>dX ⟨{ z with l:=hr.1 },λe=>absurd e h3,λe=>absurd e h4,λe=>absurd e h5,hr.2⟩
theorem XE{α:Type}{l:List α}(h:l≠[]):0<(l.length:Int):=by
 cases l with
 |nil=>exact absurd rfl h
 |cons a l=>simp
theorem aP8{N:Nat}(b0 b2 b3 b5 b8 b9 at2:Int)(b1:List (Int×List UInt8))(b4:List Ex)(b6:List Int)(b7:List aN)(b10:List (Int×List (Int×Int)))(b11:List (List (List (Int×Int×Int))))(b12:List (List UInt8))(h3:b0=3->b7≠[])(h4:b0=4->b10≠[])(h5:b0=5->b11≠[]){L:List Int}(hL:Mk L)(I:Int):
    ∃d,Qi N b0 b1 b2 b3 b4 b5 b6 b7 b8 b9 b10 b11 b12 at2 L I=some d/\Mk d.2.2.2.2.1:=by
 have p3:decide (b0=3)=true->0<(b7.length:Int):=λh=>XE (h3 (bK h))
 have p5:decide (b0=5)=true->0<(b11.length:Int):=λh=>XE (h5 (bK h))
 unfold Qi Qj;refine kW (mk:=aB iD) (λ_=>rfl) (dQ (λh=>?_) λ_=>?_)
 .have h:=XE (h4 (bK h))
  exact bX (dH N hL _ I) λr0 q0=>bX (dH N q0.2.2 2 _) λr1 q1=>mF q1.1 (q1.2.1 (by decide)) λy _=>bX (dH N q1.2.2 _ _) λr3 q3=>fE (aX (by omega)) (bX (dH N q3.2.2 3 _) λr4 q4=>dQ (λ_=>dX q4.2.2) λ_=>dX q4.2.2)
 .have tk:∀{L:List Int}(_:Mk L)(m I:Int){k:Int×List Int×Int->O},(∀r,Mk r.2.1->Ev (aB iD) (λd=>Mk d.2.2.2.2.1) (k r))->Ev (aB iD) (λd=>Mk d.2.2.2.2.1) (cb (bU N m L I) k):=λhL m I k hk=>bX (dH N hL m I) λr hr=>hk r hr.2.2
  repeat' first
   |exact dX (by assumption)
   |refine tk (by assumption) _ _ λr hr=>?_
   |refine mF (iC _) (p3 (by assumption)) λy _=>?_
   |refine mF (iC _) (p5 (by assumption)) λy _=>?_
   |refine dQ (λh=>?_) λh=>?_
   |cases ‹false=true›
theorem aP2{N:Nat}{l:List (Int×Int×Int×Int)}(hl:l.length<N)(hN:N<=1000000)(a b c d:Int):∃r,Qg N l a b c d=some r/\True:=by
 unfold Qg Qh aCB;refine kW (mk:=aB vQ) (λ_=>rfl) (sS (λn (x:List (Int×Int×Int×Int)×Int×Int×Int×Int×Int)=>K8 N n x (λz=>some (aB vQ z)) (λ_=>some (aB vQ false)) nn) (λself x=>K9 N self x (λz=>some (aB vQ z)) (λ_=>some (aB vQ false)) nn) (λ_ _=>rfl) (λx=>x.1=l/\0<=x.2.1) (λx=>(l.length-x.2.1).toNat) ?_ N _ ⟨rfl,iC _⟩ (by show((l.length:Int)-0).toNat<N;omega));intro self x hx ih;obtain⟨x0,x1,x2,x3,x4,x5⟩:=x;obtain⟨h1,h2⟩:=hx;simp only at h1 h2;subst h1;unfold K9 aCD
 dsimp only
 refine dQ (λhc=>?_) λ_=>dX trivial
 have hc:=bK hc;refine mF h2 hc λy _=>dQ (λ_=>dX trivial) λ_=>?_
 rw[cA (n:=x1+1) (by omega) (by omega)];exact ih (x0,x1+1,x2,x3,x4,x5) ⟨rfl,by show 0<=x1+1;omega⟩ (by show((x0.length:Int)-(x1+1)).toNat<((x0.length:Int)-x1).toNat;omega)
theorem aOx{N:Nat}(hN:1000<=N){α:Type}{mk:α->aF}{Q:α->Prop}{M:List Int}(hM:Mk M)(f J a4:Int)(a5:List UInt8)(a6 a7:Int)(a8:List (Int×List UInt8))(a9:List UInt8)(a10:Int)(hf:f<=100){k:List Int->Int->Int->List UInt8->Int->Int->List (Int×List UInt8)->List UInt8->Int->List Int->O}(hk:∀M J l,Mk M->l.length<=100->Ev mk Q (k M J a4 a5 a6 a7 a8 a9 a10 l)):Ev mk Q (Q3 N f 0 M J a4 a5 a6 a7 a8 a9 a10 [] k):=by
 unfold Q3;refine sS (λn (x:Int×Int×List Int×Int×Int×List UInt8×Int×Int×List (Int×List UInt8)×List UInt8×Int×List Int)=>K5 N n x _ nn nn) (λself x=>K7 N self x _ nn nn) (λ_ _=>rfl) (λx=>(x.1=f/\x.2.2.2.2.1=a4/\x.2.2.2.2.2.1=a5/\x.2.2.2.2.2.2.1=a6/\x.2.2.2.2.2.2.2.1=a7/\x.2.2.2.2.2.2.2.2.1=a8/\x.2.2.2.2.2.2.2.2.2.1=a9/\x.2.2.2.2.2.2.2.2.2.2.1=a10)/\(0<=x.2.1/\x.2.1<=100)/\Mk x.2.2.1/\(x.2.2.2.2.2.2.2.2.2.2.2.length:Int)<=x.2.1) (λx=>(101-x.2.1).toNat) ?_ N _ ⟨⟨rfl,rfl,rfl,rfl,rfl,rfl,rfl,rfl⟩,⟨iC _,by show(0:Int)<=_;decide⟩,hM,iC _⟩ (by show 101<N;omega);intro self x hx ih;obtain⟨x0,x1,M,J,x4,x5,x6,x7,x8,x9,x10,out⟩:=x;obtain⟨⟨g1,g2,g3,g4,g5,g6,g7,g8⟩,⟨h1,h2⟩,h3,h4⟩:=hx;simp only at g1 g2 g3 g4 g5 g6 g7 g8 h1 h2 h3 h4;subst g1 g2 g3 g4 g5 g6 g7 g8;unfold K7 aBl
 dsimp only
 refine dQ (λhc=>?_) λ_=>hk M J out h3 (by omega)
 have hc:=bK hc;rw[cA (n:=x1+1) (by omega) (by omega)];refine bX (dH N h3 2 J) λr hr=>dQ (λ_=>fE (lB (by rw[fC];omega) (by decide)) ?_) λ_=>?_
 .exact ih (x0,x1+1,r.2.1,r.2.2,x4,x5,x6,x7,x8,x9,x10,out++[x1]) ⟨⟨rfl,rfl,rfl,rfl,rfl,rfl,rfl,rfl⟩,⟨by show 0<=x1+1;omega,by show x1+1<=100;omega⟩,hr.2.2,by show((out++[_]).length:Int)<=x1+1;rw[fC];omega⟩ (by show(101-(x1+1)).toNat<(101-x1).toNat;omega)
 .exact ih (x0,x1+1,r.2.1,r.2.2,x4,x5,x6,x7,x8,x9,x10,out) ⟨⟨rfl,rfl,rfl,rfl,rfl,rfl,rfl,rfl⟩,⟨by show 0<=x1+1;omega,by show x1+1<=100;omega⟩,hr.2.2,by show(out.length:Int)<=x1+1;omega⟩ (by show(101-(x1+1)).toNat<(101-x1).toNat;omega)
theorem aOw{N:Nat}(hN:1000<=N){α:Type}{mk:α->aF}{Q:α->Prop}{M:List Int}(hM:Mk M)(f J a4:Int)(a5:List UInt8)(a6 a7:Int)(a8:List (Int×List UInt8))(a9:List UInt8)(a10:Int)(nd:List Int)(hf:f<=4){k:Int->List Int->Int->Int->List UInt8->Int->Int->List (Int×List UInt8)->List UInt8->Int->List (List UInt8)->List Int->List (List UInt8)->O}(hk:∀M J l l',Mk M->s9 N l->s9 N l'->Ev mk Q (k f M J a4 a5 a6 a7 a8 a9 a10 l nd l')):Ev mk Q (Q2 N f 0 M J a4 a5 a6 a7 a8 a9 a10 [] nd [] k):=by
 unfold Q2;refine sS (λn (x:Int×Int×List Int×Int×Int×List UInt8×Int×Int×List (Int×List UInt8)×List UInt8×Int×List (List UInt8)×List Int×List (List UInt8))=>K4 N n x _ nn nn) (λself x=>K6 N self x _ nn nn) (λ_ _=>rfl) (λx=>(x.1=f/\x.2.2.2.2.1=a4/\x.2.2.2.2.2.1=a5/\x.2.2.2.2.2.2.1=a6/\x.2.2.2.2.2.2.2.1=a7/\x.2.2.2.2.2.2.2.2.1=a8/\x.2.2.2.2.2.2.2.2.2.1=a9/\x.2.2.2.2.2.2.2.2.2.2.1=a10/\x.2.2.2.2.2.2.2.2.2.2.2.2.1=nd)/\(0<=x.2.1/\x.2.1<=4)/\Mk x.2.2.1/\((x.2.2.2.2.2.2.2.2.2.2.2.1.length:Int)<=x.2.1/\∀s∈x.2.2.2.2.2.2.2.2.2.2.2.1,s.length<N)/\((x.2.2.2.2.2.2.2.2.2.2.2.2.2.length:Int)<=x.2.1/\∀s∈x.2.2.2.2.2.2.2.2.2.2.2.2.2,s.length<N)) (λx=>(101-x.2.1).toNat) ?_ N _ ⟨⟨rfl,rfl,rfl,rfl,rfl,rfl,rfl,rfl,rfl⟩,⟨iC _,by show(0:Int)<=_;decide⟩,hM,⟨iC _,λ_ h=>by cases h⟩,⟨iC _,λ_ h=>by cases h⟩⟩ (by show 101<N;omega);intro self x hx ih;obtain⟨x0,x1,M,J,x4,x5,x6,x7,x8,x9,x10,o,x12,out⟩:=x;obtain⟨⟨g1,g2,g3,g4,g5,g6,g7,g8,g9⟩,⟨h1,h2⟩,h3,⟨h4,h5⟩,⟨h6,h7⟩⟩:=hx;simp only at g1 g2 g3 g4 g5 g6 g7 g8 g9 h1 h2 h3 h4 h5 h6 h7;subst g1 g2 g3 g4 g5 g6 g7 g8 g9;unfold K6 aBk
 dsimp only
 refine dQ (λhc=>?_) λ_=>hk M J o out h3 ⟨by omega,h5⟩ ⟨by omega,h7⟩
 have hc:=bK hc;refine bX (Jt N h3 J) λr35 q35=>bX (dH N q35.2 2 _) λr36 q36=>fE rfl ?_
 have a0:=q36.1;have a1:=q36.2.1 (by decide);rw[cA (n:=x1+r36.1) (by omega) (by omega),cA (n:=x1+1) (by omega) (by omega)];refine mF (E6 _ (by omega)) (O0 _ (by decide)) λy37 m37=>fE (lB (by rw[fC];omega) (by decide)) (bX (dH N q36.2.2 3 _) λr38 q38=>mF q38.1 (q38.2.1 (by decide)) λy39 m39=>fE (lB (by rw[fC];omega) (by decide)) ?_)
 have l37:y37.length<N:=by
  simp only[eZ,List.not_mem_nil,or_false]at m37;rcases m37 with rfl|rfl|rfl|rfl
  .show 3<N;omega
  .show 2<N;omega
  .have:=q35.1;omega
  .show 2<N;omega
 have l39:y39.length<N:=by
  have:∀y∈([[],[105,116,32,108,111,111,107,115,32,115,111],[97,32,115,108,105,112]]:List (List UInt8)),y.length<=11:=by decide
  have:=this y39 m39;omega
 exact ih (x0,x1+1,r38.2.1,r38.2.2,x4,x5,x6,x7,x8,x9,x10,o++[y37],x12,out++[y39]) ⟨⟨rfl,rfl,rfl,rfl,rfl,rfl,rfl,rfl,rfl⟩,⟨by show 0<=x1+1;omega,by show x1+1<=4;omega⟩,q38.2.2,⟨by show((o++[_]).length:Int)<=x1+1;rw[fC];omega,qB h5 l37⟩,⟨by show((out++[_]).length:Int)<=x1+1;rw[fC];omega,qB h7 l39⟩⟩ (by show(101-(x1+1)).toNat<(101-x1).toNat;omega)
theorem a1i{N:Nat}(hN:1000<=N):s9 N []:=⟨by show 0<N;omega,λ_ h=>by cases h⟩
theorem aOv{N:Nat}(hN:1000<=N){f:Int}(hf:f<=100){L:List Int}(hL:Mk L)(I:Int):∃d,Q1 N f L I=some d/\EZ N (d.1,d.2.1,d.2.2.1,d.2.2.2.1,d.2.2.2.2.1,d.2.2.2.2.2.1,d.2.2.2.2.2.2.1)/\Mk d.2.2.2.2.2.2.2.1:=by
 have nil:=a1i hN;unfold Q1 Q5;refine kW (mk:=aB CO) (λ_=>rfl) (bX (dH N hL 3 I) λr0 q0=>bX (aAv hN q0.2.2 _) λr1 q1=>bX (dH N q1.2 9 _) λr2 q2=>aOx hN q2.2.2 f _ _ _ _ _ _ _ _ hf λM J nd hM hnd=>dQ (λ_=>bX (dH N hM 3 J) λr18 q18=>?_) λ_=>dQ (λ_=>bX (dH N hM 200 J) λr55 q55=>bX (aAz hN q55.1 (by have:=q55.2.1 (by decide);omega)) λr56 q56=>dX ⟨⟨q1.1,nil,by show nd.length<N;omega,by show r56.length<N;omega,nil⟩,q55.2.2⟩) λ_=>bX (Jt N hM J) λr57 q57=>dX ⟨⟨q1.1,nil,by show nd.length<N;omega,by have:=q57.1;show r57.1.length<N;omega,nil⟩,q57.2⟩);have a0:=q18.1;have a1:=q18.2.1 (by decide);rw[cA (n:=2+r18.1) (by omega) (by omega)];exact aOw hN q18.2.2 _ _ _ _ _ _ _ _ _ _ (by omega) λM J o s hM ho hs=>bX (dH N hM _ J) λr53 q53=>bX (aAz hN q53.1 (by have:=q53.2.1 (by omega);omega)) λr54 q54=>dX ⟨⟨q1.1,ho,by show nd.length<N;omega,by show r54.length<N;omega,hs⟩,q53.2.2⟩
end Go.Proofs
/- The generator: examinations are small. -/
namespace Go.Proofs
open Go Go.Ax Go.Ax.aA
theorem aLM{N:Nat}(hN:1000<=N)(hN1:N<=1000000){α:Type}{mk:α->aF}{Q:α->Prop}{M:List Int}(hM:Mk M)(a0 a1 a2 a3 n J:Int)(a6 a9 a10:List UInt8)(b0:Int)(b1:List (Int×List UInt8))(b2 b3:Int)(b4:List Ex)(b5:Int)(b6:List Int)(b7:List aN)(b8 b9:Int)(b10:List (Int×List (Int×Int)))(b11:List (List (List (Int×Int×Int))))(b12:List (List UInt8))(a24:List mN)(a25:List fI)(fs:List kD)(hn:n<=2)(hfs:fs.length<=10)(h3:b0=3->b7≠[])(h4:b0=4->b10≠[])(h5:b0=5->b11≠[])
    {k:Int->Int->Int->Int->List UInt8->List Int->Int->List UInt8->List UInt8->List mN->List fI->List kD->O} (hk:∀M J l,Mk M->l.length<=fs.length+2->Ev mk Q (k a0 a1 a2 a3 a6 M J a9 a10 a24 a25 l)):Ev mk Q (Oh N a0 a1 a2 a3 n 0 a6 M J a9 a10 b0 b1 b2 b3 b4 b5 b6 b7 b8 b9 b10 b11 b12 a24 a25 fs k):=by
 unfold Oh;have key:∀(m:Nat)(i:Int)(M:List Int)(J:Int)(l:List kD),0<=i->i<=2->(3-i).toNat<m->Mk M->(l.length:Int)<=fs.length+i->Ev mk Q (Jj N m (a0,a1,a2,a3,n,i,a6,M,J,a9,a10,b0,b1,b2,b3,b4,b5,b6,b7,b8,b9,b10,b11,b12,a24,a25,l) (λy=>k y.1 y.2.1 y.2.2.1 y.2.2.2.1 y.2.2.2.2.1 y.2.2.2.2.2.1 y.2.2.2.2.2.2.1 y.2.2.2.2.2.2.2.1 y.2.2.2.2.2.2.2.2.1 y.2.2.2.2.2.2.2.2.2.1 y.2.2.2.2.2.2.2.2.2.2.1 y.2.2.2.2.2.2.2.2.2.2.2) nn nn):=by
  intro m
  induction m with
  |zero=>intro i M J l _ _ h;omega
  |succ m ih=>
    intro i M J l h1 h2 hm hM hl;refine Ni ?_;unfold Om aAT
    dsimp only
    refine dQ (λhc=>?_) λ_=>hk M J l hM (by omega)
    have hc:=bK hc;rw[cA (n:=i+1) (by omega) (by omega)];refine bX (aP8 b0 b2 b3 b5 b8 b9 a3 b1 b4 b6 b7 b10 b11 b12 h3 h4 h5 hM J) λr hr=>bX (aP2 (l:=l) (by omega) hN1 _ _ _ _) λq _=>dQ (λ_=>fE (lB (by rw[fC];omega) (by decide)) ?_) λ_=>?_
    .exact ih (i+1) _ _ _ (by omega) (by omega) (by omega) hr (by rw[fC];omega)
    .exact ih (i+1) _ _ _ (by omega) (by omega) (by omega) hr (by omega)
 exact key N 0 M J fs (by omega) (by omega) (by show 3<N;omega) hM (by omega)
theorem aLL{N:Nat}(hN:1000<=N)(hN1:N<=1000000){α:Type}{mk:α->aF}{Q:α->Prop}{M:List Int}(hM:Mk M)(a0 a1 n J:Int)(a4 a7 a8:List UInt8)(a9:List mN)(hn:n<=3)
    {k:Int->Int->List UInt8->List Int->Int->List UInt8->List UInt8->List mN->List fI->List kD->O} (hk:∀M J bs fs,Mk M->(bs.length<=3/\∀b∈bs,J6 N b)->fs.length<=6->Ev mk Q (k a0 a1 a4 M J a7 a8 a9 bs fs)):Ev mk Q (Og N a0 a1 n 0 a4 M J a7 a8 a9 [] [] k):=by
 unfold Og;have key:∀(m:Nat)(i:Int)(M:List Int)(J:Int)(bs:List fI)(l:List kD),0<=i->i<=3->(4-i).toNat<m->Mk M->(bs.length:Int)<=i->(∀b∈bs,J6 N b)->(l.length:Int)<=2*i->Ev mk Q (Ji N m (a0,a1,n,i,a4,M,J,a7,a8,a9,bs,l) (λy=>k y.1 y.2.1 y.2.2.1 y.2.2.2.1 y.2.2.2.2.1 y.2.2.2.2.2.1 y.2.2.2.2.2.2.1 y.2.2.2.2.2.2.2.1 y.2.2.2.2.2.2.2.2.1 y.2.2.2.2.2.2.2.2.2) nn nn):=by
  intro m
  induction m with
  |zero=>intro i M J bs l _ _ h;omega
  |succ m ih=>
    intro i M J bs l h1 h2 hm hM hb hbs hl;refine Ni ?_;unfold Ol aAS
    dsimp only
    refine dQ (λhc=>?_) λ_=>hk M J bs l hM ⟨by omega,hbs⟩ (by omega)
    have hc:=bK hc;refine bX (dH N hM 7 J) λr429 q429=>bX (aPc hN r429.1 q429.2.2 _) λr q=>fE (lB (by rw[fC];omega) (by decide)) (bX (dH N q.k 2 _) λr1 q1=>?_)
    have c0:=q1.1;have c1:=q1.2.1 (by decide);rw[cA (n:=1+r1.1) (by omega) (by omega)];refine aLM hN hN1 q1.2.2 _ _ _ _ _ _ _ _ _ _ _ _ _ _ _ _ _ _ _ _ _ _ _ _ _ (by omega) (by omega) q.g q.f q.m λM J l' hM hl'=>?_
    rw[cA (n:=i+1) (by omega) (by omega)];exact ih (i+1) M J _ l' (by omega) (by omega) (by omega) hM (by rw[fC];omega) (qB hbs q.b) (by omega)
 exact key N 0 M J [] [] (by omega) (by omega) (by show 4<N;omega) hM (iC _) (λ_ h=>by cases h) (iC _)
theorem aLK{N:Nat}(hN:1000<=N){α:Type}{mk:α->aF}{Q:α->Prop}{M:List Int}(hM:Mk M)(a0 a1 n J:Int)(a4 a7 a8:List UInt8)(a9:List mN)(a10:List fI)(a11:List kD)(hn:n<=3)(hfs:a11.length<=6)
    {k:Int->Int->List UInt8->List Int->Int->List UInt8->List UInt8->List mN->List fI->List kD->List jK->O} (hk:∀M J qs,Mk M->(qs.length<=3/\∀q∈qs,EZ N q)->Ev mk Q (k a0 a1 a4 M J a7 a8 a9 a10 a11 qs)):Ev mk Q (Of N a0 a1 n 0 a4 M J a7 a8 a9 a10 a11 [] k):=by
 unfold Of;have key:∀(m:Nat)(i:Int)(M:List Int)(J:Int)(qs:List jK),0<=i->i<=3->(4-i).toNat<m->Mk M->(qs.length:Int)<=i->(∀q∈qs,EZ N q)->Ev mk Q (Jh N m (a0,a1,n,i,a4,M,J,a7,a8,a9,a10,a11,qs) (λy=>k y.1 y.2.1 y.2.2.1 y.2.2.2.1 y.2.2.2.2.1 y.2.2.2.2.2.1 y.2.2.2.2.2.2.1 y.2.2.2.2.2.2.2.1 y.2.2.2.2.2.2.2.2.1 y.2.2.2.2.2.2.2.2.2.1 y.2.2.2.2.2.2.2.2.2.2) nn nn):=by
  intro m
  induction m with
  |zero=>intro i M J qs _ _ h;omega
  |succ m ih=>
    intro i M J qs h1 h2 hm hM hb hbs;refine Ni ?_;unfold Oj aAR
    dsimp only
    refine dQ (λhc=>?_) λ_=>hk M J qs hM ⟨by omega,hbs⟩
    have hc:=bK hc;refine bX (aOv hN (f:=(a11.length:Int)) (by omega) hM J) λr q=>fE (lB (by rw[fC];omega) (by decide)) ?_
    rw[cA (n:=i+1) (by omega) (by omega)];exact ih (i+1) _ _ _ (by omega) (by omega) (by omega) q.2 (by rw[fC];omega) (qB hbs q.1)
 exact key N 0 M J [] (by omega) (by omega) (by show 4<N;omega) hM (iC _) (λ_ h=>by cases h)
theorem aLJ{N:Nat}(hN:1000<=N)(hN1:N<=1000000){L:List Int}(hL:Mk L):∃d:lO,Oe N L=some d/\EW N d:=by
 have hM0:Mk (iE L none (some (min (L.length:Int) 400))):=λn hn=>hL n (List.mem_of_mem_take hn)
 unfold Oe Oo;refine kW (mk:=aB Bv) (λ_=>rfl) (fE (aX ⟨by omega,by omega⟩) (bX (dH N hM0 3 0) λr0 q0=>mF q0.1 (q0.2.1 (by decide)) λt ht=>bX (dH N q0.2.2 3 _) λr2 q2=>?_));have ht':t.length<=14:=by revert t;decide +kernel
 have c0:=q2.1;have c1:=q2.2.1 (by decide);rw[cA (n:=1+r2.1) (by omega) (by omega)];unfold aAP;have key:∀(m:Nat)(i:Int)(x2:List UInt8)(M:List Int)(J:Int)(l:List mN),0<=i->i<=3->(4-i).toNat<m->Mk M->(l.length:Int)<=i->(∀x∈l,OX N x)->Ev (aB Bv) (λd:lO=>EW N d) (Jg N m (1+r2.1,i,x2,M,J,t,l) (λy=>some (aB Bv (y.2.1,y.2.2))) nn nn):=by
  intro m
  induction m with
  |zero=>intro i x2 M J l _ _ h;omega
  |succ m ih=>
    intro i x2 M J l h1 h2 hm hM hl hls;refine Ni ?_;unfold Oi aAQ
    dsimp only
    refine dQ (λhc=>?_) λ_=>dX ⟨by show t.length<N;omega,by show l.length<N;omega,hls⟩
    have hc:=bK hc;refine mF h1 (by show i<3;omega) λnm hnm=>bX (dH N hM 3 J) λr q=>?_
    have hnm':nm.length<=5:=by revert nm;decide +kernel
    have d0:=q.1;have d1:=q.2.1 (by decide);rw[cA (n:=1+r.1) (by omega) (by omega)];refine aLL hN hN1 q.2.2 _ _ _ _ _ _ _ _ (by omega) λM J bs fs hM hbs hfs=>bX (dH N hM 3 J) λr' q'=>aLK hN q'.2.2 _ _ _ _ _ _ _ _ _ _ (by have:=q'.2.1 (by decide);omega) hfs λM J qs hM hqs=>fE (lB (by rw[fC];omega) (by decide)) ?_
    rw[cA (n:=i+1) (by omega) (by omega)];exact ih (i+1) _ M J _ (by omega) (by omega) (by omega) hM (by rw[fC];omega) (qB hls ⟨by show nm.length<N;omega,⟨by show bs.length<N;omega,hbs.2⟩,by show fs.length<N;omega,⟨by show qs.length<N;omega,hqs.2⟩⟩)
 exact key N 0 [] r2.2.1 r2.2.2 [] (by omega) (by omega) (by show 4<N;omega) q2.2.2 (iC _) (λ_ h=>by cases h)
end Go.Proofs
/- The examples hold. -/
namespace Go.Proofs
noncomputable section
open Go.Ax Go.Ax.aA Go.RowKit Go.Ab
open Go
def aEB:Sg:=ag [] []
def aEA:aF:=(.e .bo (Ty.zero _),[])
def Ct(N:Nat):Option Bool:=match Nat.beq N 10000 with|true=>some true|false=>none
def UF(N:Nat):List KP:=[aE8 N,Kz N,aDR N]
theorem a4P:(@exec k9 (cx (UF 10000)) Tryz.f16.ntmps .d (jQ Tryz.f16) (jM aEB ()) (wH (cx (UF 10000)) Tryz.f16 false)).bind (aG aEA)=some true:=by kernel_rfl
def aV6(N:Nat):KP:=kt (f:=16) (Yn (kX (UF N)) (fn:=Tryz.f16) (h:=.d) (jO _) (i:=aEB) (o:=aEA) (ow:=false) (z:=λ_=>Ct N) (λd d' h=>by
 have h:Ct N=some d':=h;unfold Ct at h;split at h
 .rename_i hl
  cases h;obtain rfl:=Nat.eq_of_beq_eq_true hl;exact a4P
 .cases h))
end
end Go.Proofs
/- What the law does. -/
namespace Go.Proofs
noncomputable section
open Go.Ax Go.Ax.aA Go.RowKit Go.Ab
open Go
def w7i:Sg:=ag [dT,dT] []
def CA:aF:=(bA,[])
def w7l(N:Nat):List KP:=[w9K N,aDR N,aYs N,aE8 N,Kz N,aV6 N,aS4 N]
def Oz[aA](N:Nat)(a b:aJ):O:=
 cb (Oe N a)  λc=>
 cb (TN N c.1 c.2)  λd=>
 cb (V4 N d b)  λe=>
 cb (A2 N e)  λf=>
 cb (G4 N c.1 c.2)  λg=>
 br (decide (g≠0)||decide (8192<(↑e.length:Int)))
  (cb (Ct N)  λh=>
  some (aB CA h))
  (cg (decide (f.2.2.2=0)&&decide (f.2.2.1=0)) (S7 N c.1 c.2 f.1 f.2.1) (false) λi=>
  cg (decide (f.2.2.2=0)&&decide (f.2.2.1=0)&&i) (Ct N) (false) λj=>
  some (aB CA (decide (f.2.2.2=0)&&decide (f.2.2.1=0)&&i&&j)))
def Jm(N:Nat)(a b:aJ):Option (Bool):=(Oz N a b).bind (aG CA)
def w7K(N:Nat):KP:=kE 7 Tryz.f7 w7i CA (w7l N) λA d=>@Oz A N d.1 d.2
end
end Go.Proofs
/- What is printed is read back; other blanks do not matter. -/
namespace Go.Proofs
open Go Go.Ax Go.Ax.aA
theorem aHI:∀{P:List Pc},(∀p∈P,p.2≠[])->P.length<=(fl P).length
 |[],_=>cE _
 |p::P,h=>by
   have h1:=aHI (P:=P) λz hz=>h z (fR _ hz)
   have h2:=h p iB;rw[lD];have:0<p.2.length:=by cases hq:p.2 with|nil=>exact absurd hq h2|cons a l=>simp
   simp only[aL,List.length_cons];omega
theorem aHJ:∀{P:List Pc}{p:Pc},p∈P->p.2.length<=(fl P).length
 |q::P,p,h=>by
   rw[lD];simp only[aL];rcases eZ.1 h with rfl|h
   .omega
   .have:=aHJ h
    omega
theorem aFv{x:lO}(h:uA x=0):nX x=true/\(oJ x).length<=8192:=by
 unfold uA at h;by_cases h1:nX x=true
 .rw[aI h1]at h
  refine⟨h1,?_⟩;rcases Nat.lt_or_ge 8192 (oJ x).length with h2|h2
  .rw[aI h2]at h;cases h
  .exact h2
 .rw[aE h1]at h;cases h
theorem a6I{x:lO}(h:nX x=true):∀i∈x.2,oV i=true:=by
 unfold nX at h;rw[aT]at h;exact(cM h.2).2
theorem aWm{N:Nat}(h9:10000<=N)(hN:N<=1000000){x:lO}(hv:uA x=0)(hx:EW N x){P:List Pc}(ht:P.map dB=(D7 x).map dB)(hg:o8 [] P)(hl:(fl P).length<=8192):A2 N (fl P)=some (x.1,x.2,0,0):=by
 have hf:=(aFv hv).1;have hs:=a1U [] P hg N 0 (by rw[e9];omega);rw[e9]at hs;have hm:=N5 hg;unfold A2 HB;rw[bD (by omega),bM,aBf hN _ (by omega),aK];have hlok:dW N (gJ N 0 (fl P)).1:=by
  refine⟨?_,λt h=>?_⟩
  .have h1:=aR List.length hs.1
   rw[cP,cP]at h1;have h2:=aHI λp hp=>(hm p hp).2
   omega
  .have h1:t.1∈P.map dB:=hs.1 ▸ List.mem_map_of_mem h
   obtain⟨p,hp,e⟩:=List.mem_map.1 h1;have:=aHJ hp;rw[<-e];omega
 generalize gJ N 0 (fl P)=r at hs hlok;obtain⟨T,e⟩:=r;obtain⟨h1,h2⟩:=hs;simp only at h1 h2 hlok ⊢;rw[ht]at h1;obtain⟨u,T1,rfl,hu,h3⟩:=gY (a:=[101,120,97,109]) (m:=(Iu x).map dB) h1;obtain⟨v,T2,rfl,hw,h4⟩:=gY (a:=quo x.1) (m:=(x.2.flatMap uQ).map dB) h3;have l1:dW N (v::T2):=hlok.gN (a9F _ _);have l2:dW N T2:=l1.gN (a9F _ _);rw[Ff,NI _ (by simp) hu,aK,vP hN _ _ l1,Am _ hw,aK,aB8 hN (by omega) _ _ _ _ l2,a4l (by omega) (a6I hf) hx.2.1 h4,aK];have hz:=Sr hN (by omega) x hx;rw[hv]at hz;rw[bD (p:=(0:Int)<((([]:List Tok).length:Nat):Int)) (by decide),bM,bD (p:=((e:Nat):Int)<((fl P).length:Int)) (by omega)];simp only[Bi,bM];rw[hz,aK];rfl
theorem aWn{N:Nat}(h9:10000<=N)(hN:N<=1000000):∃r,A2 N []=some r:=by
 have l0:dW N []:=⟨by show 1<N;omega,λ_ h=>by cases h⟩;obtain⟨n,rfl⟩:∃n,N=n+1:=⟨N-1,by omega⟩
 unfold A2 HB;rw[bD (by decide),bM,aBf hN _ (by show 0<n+1;omega),aK];have hs:gJ (n+1) 0 []=([],0):=rfl;rw[hs,Ff,aK];have h1:bQ [101,120,97,109] [] false=([],true):=rfl;simp only;rw[h1,vP hN _ _ l0,Al,aK,aB8 hN (by omega) _ _ _ _ l0];have h2:=a4m (n+1) 0 [105,116,101,109] [];simp only;rw[h2,aK];exact⟨_,rfl⟩
theorem a44{N:Nat}(h9:10000<=N)(hN:N<=1000000)(h16:Ct N=some true){l m:List Int}(hl:Mk l)(hm:Mk m):Jm N l m=some true:=by
 obtain⟨x,hx,hX⟩:=aLJ (by omega) hN hl;unfold Jm Oz;rw[hx,aK,aTg hN (by omega) x hX,aK];have hval:=Sr hN (by omega) x hX;by_cases hv:uA x=0
 .obtain⟨hf,hlen⟩:=aFv hv
  obtain⟨P',t1,t2,t3,t4⟩:=aFd hN (P:=D7 x) (e:=[10]) (s:=oJ x) rfl (a5K hf) (by omega) hm;rw[aI hv,t4,aK];rw[hv]at hval;by_cases h8:8192<(fl P').length
  .have h13:A2 N (fl P')=some ([],[],8192,4):=by
    unfold A2 HB;rw[aX (by omega),bJ];rfl
   rw[h13,aK,hval,aK,aX (p:=(8192:Int)<((fl P').length:Int)) (by omega),Bool.or_true,bJ,h16,aK];rfl
  .rw[aWm h9 hN hv hX t1 t2 (by omega),aK,hval,aK,bD (p:=(8192:Int)<((fl P').length:Int)) (by omega),Bi,bD (by simp),bM,aX rfl]
   simp only;rw[fM (aS3 hN x x hX),h16,yV];rfl
 .obtain⟨P',t1,t2,t3,t4⟩:=aFd hN (P:=[]) (e:=[]) (s:=[]) rfl (by intro c hc;cases hc) (by show 0<N;omega) hm
  have:P'=[]:=List.map_eq_nil_iff.1 t1;subst this;rw[aE hv,t4,aK];obtain⟨r,hr⟩:=aWn h9 hN;rw[show fl []=[]from rfl,hr,aK,hval,aK,aX (p:=uA x≠0) hv,Bool.true_or,bJ,h16,aK];rfl
end Go.Proofs
/- The law's contract. -/
namespace Go.Proofs
open Go Go.Ax Go.Ax.aA Go.RowKit Go.Ab
theorem aLj{N:Nat}{x0 x1:List Int}(h:Jm N x0 x1=some true):jD Tryz.prog 7 (([.e (.sl (.i .i64)) x0,.e (.sl (.i .i64)) x1]:List X).map X.D) [] (B true) []:=
 (w7K N).ok [.e (.sl (.i .i64)) x0,.e (.sl (.i .i64)) x1] [] ⟨tR CA,Jm N x0 x1,zT _,aB CA⟩ rfl true h
end Go.Proofs
