/- The abstract machine, run: code, loops, functions, contracts. Conditions are in the theorems. -/
import Derived.Test.YtlhdefefoaldfaaGreatDoorE4
import Derived.Lib.MinMax
import Derived.Laws.Strings
import Derived.Laws.Slices
open Bool renaming and_eq_true->bM,not_eq_true'->Xi
open List renaming all_eq_true->eC,flatMap->iP,flatMap_cons->jS,getElem?_eq_some_iff->cX,getElem?_map->dL,getElem?_set_ne->aIs,getElem?_set_self->aIr,length_cons->eB,length_map->dI,length_set->Xd,map_cons->iN,mem_cons->fA,mem_cons_of_mem->fM,mem_iff_getElem?->jF,mem_map->eX,nodup_cons->a44
open Nat renaming add_mul->jR,ble_eq_true_of_le->X8,eq_of_beq_eq_true->bY,le_of_ble_eq_true->fC,le_refl->cE
open Option renaming map->aIf,map_eq_some_iff->cN,map_some->kX
open Option.some renaming inj->fL,injEq->kG
open UInt8 renaming ofNat->eW,toNat_inj->a4I,toNat_ofNat'->a4H
/- States told otherwise. -/
namespace Go.Ax
open aA
open Go.RowKit Go.Ab
def cI(σ:Sg):St:=mk (λt=>(lk t σ.T).map X.D) (λk=>(lk k σ.H).map XO.A) σ.N
theorem dX.trans'{E:Env}{a b c:St}(h:dX E a b)(k:dX E b c):dX E a c:=λtm w hR=>k tm w (h tm w hR)
theorem dX.rL{E:Env}{a:St}:dX E a a:=λ_ _ h=>h
theorem mk_eq{T T':Nat->Option D}{H H':Nat->Option aS}{N N':Nat}(hT:∀t,T t=T' t)(hH:∀k,H k=H' k)(hN:N=N'):mk T H N=mk T' H' N':=by
 rw[funext hT,funext hH,hN]
theorem Hs{E:Env}{T T':Nat->Option D}{H H':Nat->Option aS}{N:Nat}(hT:∀t d,T' t=some d->T t=some d)(hH:∀k o,H' k=some o->H k=some o):dX E (mk T H N) (mk T' H' N):=λ_ _ ⟨ν,G,I⟩=>
 ⟨ν,G,I.kept,I.eJ,I.fS,I.g0,I.sz,λt d h=>I.T t d (hT t d h),λk o h=>I.H k o (hH k o h),λk o k' o' h h'=>I.dS k o k' o' (hH k o h) (hH k' o' h')⟩
theorem a2r{E:Env}{T T':Nat->Option D}{H:Nat->Option aS}{N:Nat}(hT:∀t d',T' t=some d'->∃d,T t=some d/\cC H d d'):dX E (mk T H N) (mk T' H N):=λtm w ⟨ν,G,I⟩=>
 ⟨ν,G,I.kept,I.eJ,I.fS,I.g0,I.sz,λt d' h=>by
  obtain⟨d,h1,h2⟩:=hT t d' h;obtain⟨v,hv,hd⟩:=I.T t d h1;exact⟨v,hv,h2 E _ ν G w tm (λk o h=>h) I v hd⟩,I.H,I.dS⟩
theorem aHo{α β:Type}{f:α->List β}{m:Nat}(hf:∀x,(f x).length=m):∀l:List α,(l.flatMap f).length=l.length*m
 |[]=>by simp
 |a::l=>by rw[jS,List.length_append,hf,aHo hf l,eB,jR,Nat.one_mul,Nat.add_comm]
theorem aHp{α β:Type}{f:α->List β}{m:Nat}(hf:∀x,(f x).length=m):∀(l:List α)(i j:Nat)(x:α),l[i]?=some x->j<m->(l.flatMap f)[i*m+j]?=(f x)[j]?
 |[],i,j,x,h,_=>by simp at h
 |a::l,0,j,x,h,hj=>by
   simp at h;subst h;rw[jS,Nat.zero_mul,Nat.zero_add,List.getElem?_append_left (by rw[hf];exact hj)]
 |a::l,i+1,j,x,h,hj=>by
   have h':l[i]?=some x:=by simpa using h
   rw[jS,List.getElem?_append_right (by rw[hf,jR];omega),hf,<-aHp hf l i j x h' hj]
   congr 1
   rw[jR];omega
theorem aIW{κ ρ:Ty}(x:List κ.V×ρ.V):(mG x).length=1+ρ.size:=by
 unfold mG;rw[eB,dI,dR,Nat.add_comm]
theorem a30{κ ρ:Ty}(l:List (List κ.V×ρ.V))(c:NC)(h:c∈iP mG l):(∃n ts,c = .fH n ts)\/∃t,c = .qC (.t t):=by
 obtain⟨x,_,hx⟩:=List.mem_flatMap.1 h;unfold mG at hx;rcases fA.1 hx with rfl|hx
 .exact .inl ⟨_,_,rfl⟩
 .obtain⟨t,_,rfl⟩:=eX.1 hx
  exact .inr ⟨t,rfl⟩
theorem a3Z{κ ρ:Ty}{l:List (List κ.V×ρ.V)}{i j:Nat}(h:i<l.length)(hj:j<1+ρ.size):i*(1+ρ.size)+j<(iP mG l).length:=by
 rw[aHo (f:=mG) aIW];have:(i+1)*(1+ρ.size)<=l.length*(1+ρ.size):=Nat.mul_le_mul_right _ h;rw[jR,Nat.one_mul]at this;omega
theorem aHY{m:Nat}{cs:List NC}{ln:Option (Int×Nat)}:(uF m cs ln).length=cs.length:=by
 unfold uF;split
 .rfl
 .rw[Xd]
theorem aIG{o:XO}(h:O9 o=true):qQ o.A:=by
 unfold O9 at h;split at h
 .exact .row
 .exact .nest
 .exact .dQ
 .cases h
theorem H7{α β:Type}(f:α->β):∀(l:List α)(i:Nat)(x:α),(gQ x i l).map f=(l.map f).set i (f x)
 |[],i,x=>by rw[VU];rfl
 |y::l,0,x=>rfl
 |y::l,i+1,x=>by simp only[gQ,iN,List.set_cons_succ];rw[H7 f l i x]
theorem aHj{β:Type}{f:β->List Tree}{g:β->Tree}(h:∀r,f r=[g r]):∀l:List β,l.flatMap f=l.map g
 |[]=>rfl
 |a::l=>by rw[jS,h,aHj h l];rfl
def sD(σ:Sg)(k:Sg->O)(r:aC):Prop:=∃σ',k σ'=some r/\(100<=σ.N->100<=σ'.N)/\(100<=σ.N->∀E,dX E (cI σ) (cI σ'))
theorem sD.same{σ:Sg}{k:Sg->O}{r:aC}(h:k σ=some r):sD σ k r:=⟨σ,h,id,λ_ _=>dX.rL⟩
theorem aGS{q:Nat}{o o':XO}(h:Nh o=some o'){E:Env}{T:Nat->Option D}{H:Nat->Option aS}{N:Nat}(hq:H q=some o.A):dX E (mk T H N) (mk T (λj=>if q=j then some o'.A else H j) N):=by
 unfold Nh at h;split at h
 .cases h;exact a2k q hq
 .cases h
theorem aGT{q:Nat}{σ:Sg}{k:Sg->O}{r:aC}(h:Nj q σ k=some r):sD σ k r:=by
 unfold Nj at h;split at h
 .rename_i o ho
  split at h
  .rename_i o' ho'
   obtain⟨H1,h,hH1⟩:=lO h;refine⟨_,h,id,λ_ E=>?_⟩;have:=aGS (q:=q) ho' (E:=E) (T:=λt=>(lk t σ.T).map X.D) (H:=λk=>(lk k σ.H).map XO.A) (N:=σ.N) (by rw[ho];rfl);unfold cI;rw[show mk (λt=>(lk t σ.T).map X.D) (λk=>(lk k H1).map XO.A) σ.N=_ from mk_eq (λt'=>rfl) (λk'=>?_) rfl]
   .exact this
   .rw[hH1];split <;> rfl
  .exact .same h
 .exact .same h
theorem a0l{q i:Nat}{o:XO}(ho:qQ o.A){σ:Sg}{k:Sg->O}{r:aC}(h:Vg q i o σ k=some r):sD σ k r:=by
 unfold Vg at h;split at h
 .rename_i e' xs hq
  split at h
  .rename_i hx
   obtain⟨H1,h,hH1⟩:=lO h;obtain⟨H2,h,hH2⟩:=lO h;refine⟨_,h,λh=>(by show 100<=σ.N+8;omega),λhN E=>?_⟩;have:=a2n (E:=E) (T:=λt=>(lk t σ.T).map X.D) (H:=λk=>(lk k σ.H).map XO.A) q i ho (e':=e') (ds:=xs.map X.D) (by rw[hq];rfl) (by rw[dL,hx];rfl) hN;unfold cI;rw[show mk (λt=>(lk t σ.T).map X.D) (λk=>(lk k H2).map XO.A) (σ.N+8)=_ from mk_eq (λt'=>rfl) (λk'=>?_) rfl]
   .exact this
   .rw[hH2,hH1]
    split
    .rfl
    .split
     .simp only[kX,XO.A,H7];rfl
     .rfl
  .exact .same h
 .exact .same h
theorem a1e{τ:Ty}{xs:List X}{y:τ.V}(h:xM τ xs=some y):xs.length=(bH τ y).length:=by
 have:=(rR (H:=λ_=>none) h).len;simpa using this
theorem a2q{E:Env}{T:Nat->Option D}{H:Nat->Option aS}{N:Nat}(k i:Nat){e:TypeId}{ds:List D}{d d':D}(hk:H k=some (.box e ds))(hi:ds[i]?=some d)(hw:cC H d d'):dX E (mk T H N) (mk T (λj=>if k=j then some (.box e (ds.set i d'))else H j) N):=by
 refine ED λa w ⟨ν,G,I⟩=>⟨ν,G,I.kept,I.eJ,I.fS,I.g0,I.sz,I.T,λj oj hj=>?_,λj1 o1 j2 o2 e1 e2 hne=>?_⟩
 .by_cases hjk:k=j
  .subst hjk
   simp only[gV,kG]at hj;subst hj;obtain⟨hn,g,cur,z1,z2,z3,z4,z5,z6⟩:=I.H k _ hk;refine⟨hn,g,cur,z1,z2,z3,z4,by rw[Xd];exact z5,λm u dm hu hd=>?_⟩;by_cases hm:i=m
   .subst hm
    have hlt:i<ds.length:=(cX.1 hi).1;rw[aIr hlt]at hd;cases hd;obtain⟨y1,y2⟩:=z6 i u _ hu hi;exact⟨hw E _ ν G w a.tmps (λ_ _ h=>h) I u y1,y2⟩
   .rw[aIs hm]at hd
    exact z6 m u dm hu hd
  .simp only[aF hjk]at hj
   exact I.H j oj hj
 .have back:∀j o,(if k=j then some (.box e (ds.set i d'))else H j)=some o->∃o',H j=some o'/\∀g,cS w (ν j) o g->cS w (ν j) o' g:=λj o h=>by
   by_cases hj:k=j
   .subst hj;simp only[gV,kG]at h;subst h;exact⟨_,hk,λ_ h=>h⟩
   .rw[aF hj]at h;exact⟨o,h,λ_ h=>h⟩
  obtain⟨p1,hp1,f1⟩:=back j1 o1 e1;obtain⟨p2,hp2,f2⟩:=back j2 o2 e2;exact λg hg hg'=>I.dS j1 p1 j2 p2 hp1 hp2 hne g (f1 g hg) (f2 g hg')
theorem aYY{H:Nat->Option aS}{τ:Ty}{x:X}{y:τ.V}(h1:τ.one=true)(h:iX τ x=some y):cC H x.D (.t (uM τ y)):=by
 unfold iX at h;rw[h1]at h;exact pT h1 h
theorem a3N{q i:Nat}{τ:Ty}{σ:Sg}{k:Sg->O}{r:aC}(h:Ws q i τ σ k=some r):sD σ k r:=by
 unfold Ws at h;split at h
 .rename_i e xs hq
  split at h
  .rename_i x hx
   split at h
   .rename_i h1
    split at h
    .rename_i y hy
     obtain⟨H1,h,hH1⟩:=lO h;refine⟨_,h,id,λ_ E=>?_⟩;have hg:=EA (⟨λt=>lk t σ.T,λk=>lk k σ.H,none⟩:Vw) x;have:=a2q (E:=E) (T:=λt=>(lk t σ.T).map X.D) (H:=λk=>(lk k σ.H).map XO.A) (N:=σ.N) q i (e:=e) (ds:=xs.map X.D) (d:=x.D) (d':=.t (uM τ y)) (by rw[hq];rfl) (by rw[dL,hx];rfl) (hg.trans (aYY h1 hy));unfold cI;rw[show mk (λt=>(lk t σ.T).map X.D) (λk=>(lk k H1).map XO.A) σ.N=_ from mk_eq (λt'=>rfl) (λk'=>?_) rfl]
     .exact this
     .rw[hH1]
      split
      .simp only[kX,XO.A,H7,qA h1]
      .rfl
    .exact .same h
   .exact .same h
  .exact .same h
 .exact .same h
theorem a4N{E:Env}{ν:Nat->Value}{nm:Nat->Bool}{w:World}{G:cA}{k k':Nat}{o:aS}(h:eZ E ν nm w G k o)(e:ν k'=ν k):eZ E ν nm w G k' o:=by
 cases o <;> (unfold eZ at h ⊢;rw[e];exact h)
theorem a2l{E:Env}{T:Nat->Option D}{H:Nat->Option aS}{N:Nat}(k i q:Nat){e':TypeId}{ds:List D}{o0:aS}(hk:H k=some (.box e' ds))(hi:ds[i]?=some (.own q))(hq:H q=some o0)(hne:q≠k)(hN:100<=N):
    dX E (mk T H N) (mk T (λj=>if N=j then some o0 else if q=j then none else if k=j then some (.box e' (ds.set i (.own N)))else H j) (N+8)):=by
 refine ED λa w ⟨ν,G,I⟩=>?_
 have lt:∀j,(mk T H N).nm j=true->j<N:=λj hj=>by simpa using hj
 have ne:∀j,(mk T H N).nm j=true->dA ν N (ν q) j=ν j:=λj hj=>lN (by have:=lt j hj;omega)
 have hn:∀j,(mk T H N).nm j=true->decide (j<N+8)=true/\dA ν N (ν q) j=ν j:=λj hj=>⟨by have:=lt j hj;simp;omega,ne j hj⟩
 have old:∀j o,H j=some o->j<N:=λj o hj=>lt j (I.H j o hj).1
 have hqN:=old q o0 hq;have hkN:=old k _ hk;have back:∀j o,(if N=j then some o0 else if q=j then none else if k=j then some (.box e' (ds.set i (.own N)))else H j)=some o->(j=N/\o=o0)\/(j=k/\j≠q/\j<N/\o = .box e' (ds.set i (.own N)))\/(j≠k/\j≠q/\j<N/\H j=some o):=λj o h=>by
  by_cases h1:N=j
  .rw[aN h1]at h;exact .inl ⟨h1.symm,(fL h).symm⟩
  .rw[aF h1]at h
   by_cases h3:q=j
   .rw[aN h3]at h;cases h
   .rw[aF h3]at h
    by_cases h2:k=j
    .rw[aN h2]at h;exact .inr (.inl ⟨h2.symm,Ne.symm h3,by omega,(fL h).symm⟩)
    .rw[aF h2]at h;exact .inr (.inr ⟨Ne.symm h2,Ne.symm h3,old _ _ h,h⟩)
 have hfoot:∀j o,(if N=j then some o0 else if q=j then none else if k=j then some (.box e' (ds.set i (.own N)))else H j)=some o->∃j' o',H j'=some o'/\(∀g,cS w (dA ν N (ν q) j) o g->cS w (ν j') o' g)/\j'=(if j=N then q else j):=λj o h=>by
  rcases back j o h with⟨rfl,rfl⟩|⟨rfl,h2,h3,rfl⟩|⟨h1,h2,h3,h4⟩
  .exact⟨q,_,hq,λg hg=>by rw[dG]at hg;exact hg,by rw[aN rfl]⟩
  .exact⟨_,_,hk,λg hg=>by rw[lN (by omega)]at hg;exact hg,by rw[aF (by omega)]⟩
  .exact⟨_,_,h4,λg hg=>by rw[lN (by omega)]at hg;exact hg,by rw[aF (by omega)]⟩
 refine⟨dA ν N (ν q),G,I.kept,I.eJ,λj h1 h2=>?_,I.g0,I.sz,λt d ht=>?_,λj o hj=>?_,λj1 o1 j2 o2 h1 h2 hne12 g hg=>?_⟩
 .rw[lN (by omega)];exact I.fS j h1 h2
 .obtain⟨v,hv,hdv⟩:=I.T t d ht
  exact⟨v,hv,hdv.mono hn (λ_ _ _ h=>h)⟩
 .have mono:∀j o,H j=some o->eZ E (dA ν N (ν q)) (λj=>decide (j<N+8)) w G j o:=λj o hj=>
   let⟨q1,q2⟩:=I.H j o hj
   q2.mono (ν':=dA ν N (ν q)) (nm':=λj=>decide (j<N+8)) q1 hn (λ_ _ _ h=>h) (λg _=>⟨rfl,rfl⟩)
  rcases back j o hj with⟨rfl,rfl⟩|⟨rfl,h2,h3,rfl⟩|⟨h1,h2,h3,h4⟩
  .refine⟨by simp,a4N (mono q _ hq) ?_⟩
   rw[dG,lN (by omega)]
  .refine⟨by simp;omega,?_⟩
   obtain⟨g,cur,z1,z2,z3,z4,z5,z6⟩:=mono _ _ hk;refine⟨g,cur,z1,z2,z3,z4,by rw[Xd];exact z5,λm u d hu hd=>?_⟩;by_cases hm:i=m
   .subst hm
    have hlt2:i<ds.length:=(cX.1 hi).1;rw[aIr hlt2]at hd;cases hd;obtain⟨y1,y2⟩:=z6 i u _ hu hi;obtain⟨e1,_⟩:=Dr y1;refine⟨?_,y2⟩;have e2:u=dA ν N (ν q) N:=by rw[e1,dG,lN (by omega)]
    have hown:DR (dA ν N (ν q)) (λj=>decide (j<N+8)) w G (dA ν N (ν q) N) (.own N):=.own (by simp) (by rw[<-e2];exact y2);rw[<-e2]at hown;exact hown
   .rw[aIs hm]at hd
    exact z6 m u d hu hd
  .exact⟨by simp;omega,mono j o h4⟩
 .obtain⟨j1',o1',a1,a2,a3⟩:=hfoot j1 o1 h1
  obtain⟨j2',o2',b1,b2,b3⟩:=hfoot j2 o2 h2;have hne':j1'≠j2':=by
   rw[a3,b3];rcases back j1 o1 h1 with⟨c1,_⟩|⟨_,c2,c3,_⟩|⟨_,c2,c3,_⟩ <;> rcases back j2 o2 h2 with⟨d1,_⟩|⟨_,d2,d3,_⟩|⟨_,d2,d3,_⟩
   .exact absurd (c1.trans d1.symm) hne12
   .rw[aN c1,aF (by omega)];exact λe=>d2 e.symm
   .rw[aN c1,aF (by omega)];exact λe=>d2 e.symm
   .rw[aF (by omega),aN d1];exact c2
   .rw[aF (by omega),aF (by omega)];exact hne12
   .rw[aF (by omega),aF (by omega)];exact hne12
   .rw[aF (by omega),aN d1];exact c2
   .rw[aF (by omega),aF (by omega)];exact hne12
   .rw[aF (by omega),aF (by omega)];exact hne12
  exact λhg'=>I.dS j1' o1' j2' o2' a1 b1 hne' g (a2 g hg) (b2 g hg')
theorem aYv{q i:Nat}{σ:Sg}{k:Sg->O}{r:aC}(h:VQ q i σ k=some r):sD σ k r:=by
 unfold VQ at h;split at h
 .rename_i e xs hq
  split at h
  .rename_i q' hx
   split at h
   .rename_i o ho
    split at h
    .rename_i hc
     simp only[bM,Xi]at hc;have hne:q'≠q:=λe=>by rw[e,Nat.beq_refl]at hc;exact absurd hc.2 (by decide)
     obtain⟨H1,h,hH1⟩:=lO h;obtain⟨H2,h,hH2⟩:=Hv h;obtain⟨H3,h,hH3⟩:=lO h;refine⟨_,h,λh=>(by show 100<=σ.N+8;omega),λhN E=>?_⟩;have:=a2l (E:=E) (T:=λt=>(lk t σ.T).map X.D) (H:=λk=>(lk k σ.H).map XO.A) (N:=σ.N) q i q' (e':=e) (ds:=xs.map X.D) (o0:=o.A) (by rw[hq];rfl) (by rw[dL,hx];rfl) (by rw[ho];rfl) hne hN;unfold cI;rw[show mk (λt=>(lk t σ.T).map X.D) (λk=>(lk k H3).map XO.A) (σ.N+8)=_ from mk_eq (λt'=>rfl) (λk'=>?_) rfl]
     .exact this
     .rw[hH3,hH2,hH1]
      split
      .rfl
      .split
       .rfl
       .split
        .simp only[kX,XO.A,H7];rfl
        .rfl
    .exact .same h
   .exact .same h
  .exact .same h
 .exact .same h
theorem a1P{q:Nat}{n:Int}{σ:Sg}{k:Sg->O}{r:aC}(h:WH q n σ k=some r):sD σ k r:=by
 unfold WH at h;exact .same h
theorem a3g{q:Nat}{σ:Sg}{k:Sg->O}{r:aC}(h:XJ q σ k=some r):sD σ k r:=by
 unfold XJ at h;exact .same h
theorem a0s{m:Mv}{σ:Sg}{k:Sg->O}{r:aC}(h:Vm m σ k=some r):sD σ k r:=by
 unfold Vm at h;split at h
 .split at h
  .exact aGT h
  .split at h
   .exact aGT h
   .exact .same h
  .exact .same h
 .rename_i t o
  split at h
  .rename_i ht he
   obtain⟨T',h,hT⟩:=lO h;obtain⟨H',h,hH⟩:=lO h;refine⟨_,h,λh=>(by show 100<=σ.N+8;omega),λhN E=>?_⟩;have:=a2m (E:=E) (T:=λt=>(lk t σ.T).map X.D) (H:=λk=>(lk k σ.H).map XO.A) t (aIG he) (by rw[ht];rfl) hN;unfold cI;rw[show mk (λt=>(lk t T').map X.D) (λk=>(lk k H').map XO.A) (σ.N+8)=_ from mk_eq (λt'=>?_) (λk'=>?_) rfl]
   .exact this
   .rw[hT];split <;> rfl
   .rw[hH];split <;> rfl
  .exact .same h
 .split at h
  .rename_i he
   exact a0l (aIG he) h
  .exact .same h
 .rename_i t τ
  split at h
  .rename_i q ht
   split at h
   .rename_i e xs hq
    split at h
    .rename_i y hy
     obtain⟨T',h,hT⟩:=lO h;obtain⟨H',h,hH⟩:=Hv h;refine⟨_,h,id,λhN E=>?_⟩;have:=a2o (E:=E) (T:=λt=>(lk t σ.T).map X.D) (H:=λk=>(lk k σ.H).map XO.A) (N:=σ.N) t q (e:=e) (ds:=xs.map X.D) (ts:=bH τ y) (by rw[ht];rfl) (by rw[hq];rfl) (by rw[dI];exact a1e hy) (λi tr hi=>by
      obtain⟨d0,h1,h2⟩:=(rR hy).get i (.t tr) (by rw[dL,hi];rfl);exact⟨d0,h1,h2⟩)
     unfold cI;rw[show mk (λt=>(lk t T').map X.D) (λk=>(lk k H').map XO.A) σ.N=_ from mk_eq (λt'=>?_) (λk'=>?_) rfl]
     .exact this
     .rw[hT];split <;> rfl
     .rw[hH];split <;> rfl
    .exact .same h
   .exact .same h
  .exact .same h
 .split at h
  .exact a3N h
  .exact .same h
 .split at h
  .exact aYv h
  .exact .same h
 .split at h
  .exact a1P h
  .exact .same h
 .split at h
  .exact a3g h
  .exact .same h
theorem Vl:∀(l:List Mv)(σ:Sg)(k:Sg->O)(r:aC),OP l σ k=some r->sD σ k r
 |[],σ,k,r,h=>.same h
 |m::l,σ,k,r,h=>by
   obtain⟨σ1,h1,h2,h3⟩:=a0s (m:=m) h;obtain⟨σ2,e1,e2,e3⟩:=Vl l σ1 k r h1;exact⟨σ2,e1,λh=>e2 (h2 h),λhN E=>dX.trans' (h3 hN E) (e3 (h2 hN) E)⟩
theorem aGB{τ:Ty}{y:τ.V}:(iE τ y).D=if τ.one then .t (uM τ y)else .agg ((bH τ y).map .t):=by
 unfold iE;cases h:τ.one with
 |true=>simp only[qA h];rfl
 |false=>simp only[X.D,fD,EJ];rfl
theorem lB{H:Nat->Option aS}{τ:Ty}{x:X}{y:τ.V}(h:iX τ x=some y):cC H x.D (iE τ y).D:=by
 rw[aGB];unfold iX at h;split at h
 .rename_i h1
  rw[aN h1];exact pT h1 h
 .rename_i h1
  rw[aF (by rw[h1];simp)];split at h
  .unfold X.D
   rw[fD];exact cC.agg (rR h)
  .cases h
theorem a3z(σ:Vw)(τ:Ty)(x:X):cC σ.den.H x.D (XP σ τ x).D:=by
 unfold XP;split
 .rename_i y h
  exact(WW σ x).trans (lB h)
 .exact cC.refl
theorem aGd{σ:Sg}{gv:List (Nat×Ty)}:∀(ts:List Nat)(T':XT),Nw σ gv ts=some T'->∀t x',lk t T'=some x'->∃x,lk t σ.T=some x/\cC σ.vw.den.H x.D x'.D
 |[],T',h,t,x',ht=>by cases h;cases ht
 |t0::l,T',h,t,x',ht=>by
   unfold Nw at h;split at h
   .rename_i x hx
    split at h
    .rename_i r hr
     cases h;unfold lk at ht;split at ht
     .rename_i he
      have he:=bY he;subst he;cases ht;refine⟨x,hx,?_⟩;split
      .exact a3z _ _ _
      .exact cC.refl
     .exact aGd l r hr t x' ht
    .cases h
   .cases h
mutual
theorem H4{H:Nat->Option aS}{nm':Nat->Bool}{ρ:Nat->Nat}{f:Nat->Option Nat}(hf:∀k k',f k=some k'->nm' k'=true/\k=ρ k'):∀(x y:X),fJ f x=some y->dU false H nm' ρ x.D y.D
 |.own q,y,h=>by
   unfold fJ at h;split at h
   .rename_i q' hq;cases h;exact .own (hf _ _ hq).1 (hf _ _ hq).2
   .cases h
 |.ref q off,y,h=>by
   unfold fJ at h;split at h
   .rename_i q' hq;cases h;exact .ref (hf _ _ hq).1 (hf _ _ hq).2
   .cases h
 |.rr q i j s,y,h=>by
   unfold fJ at h;split at h
   .rename_i q' hq;cases h;exact .ref (hf _ _ hq).1 (hf _ _ hq).2
   .cases h
 |.agg xs,y,h=>by
   unfold fJ at h;split at h
   .rename_i ys hy;cases h;exact .a4E (wV hf xs ys hy)
   .cases h
 |.bD xs,y,h=>by
   unfold fJ at h;split at h
   .rename_i ys hy;cases h;exact .D7 (wV hf xs ys hy)
   .cases h
 |.fn g xs,y,h=>by
   unfold fJ at h;split at h
   .rename_i ys hy;cases h;exact .fn' (wV hf xs ys hy)
   .cases h
 |.e τ x,y,h=>by
   unfold fJ at h;cases h;unfold X.D;split
   .exact .t rfl
   .exact .any
 |.cH,y,h=>by unfold fJ at h;cases h;exact .t rfl
 |.pt τ x j,y,h=>by unfold fJ at h;cases h;exact .ptr
 |.v w,y,h=>by unfold fJ at h;cases h;exact .t rfl
 |.bit j q,y,h=>by unfold fJ at h;cases h
 |.eO k c x,y,h=>by unfold fJ at h;cases h
 |.sub _ _,y,h=>by unfold fJ at h;cases h
 |.iY _ _ _,y,h=>by unfold fJ at h;cases h
 |.vw _ _ _ _,y,h=>by unfold fJ at h;cases h
 |.via k j,y,h=>by
   unfold fJ at h;split at h
   .rename_i q' hq;cases h;exact .via (hf _ _ hq).1 (hf _ _ hq).2
   .cases h
 |.dP _,y,h=>by unfold fJ at h;cases h
theorem wV{H:Nat->Option aS}{nm':Nat->Bool}{ρ:Nat->Nat}{f:Nat->Option Nat}(hf:∀k k',f k=some k'->nm' k'=true/\k=ρ k'):∀(xs ys:List X),nM f xs=some ys->sG false H nm' ρ (Ds xs) (Ds ys)
 |[],ys,h=>by unfold nM at h;cases h;exact .nil
 |x::l,ys,h=>by
   unfold nM at h;split at h
   .rename_i y hy
    split at h
    .rename_i r hr
     cases h;exact .cons (H4 hf x y hy) (wV hf l r hr)
    .cases h
   .cases h
end
theorem H5{H:Nat->Option aS}{nm':Nat->Bool}{ρ:Nat->Nat}{f:Nat->Option Nat}(hf:∀k k',f k=some k'->nm' k'=true/\k=ρ k'){o o':XO}(h:rI f o=some o'):gW false H nm' ρ o.A o'.A:=by
 cases o with
 |box e xs=>
   simp only[rI]at h;split at h
   .rename_i ys hy
    cases h;have:=wV (H:=H) hf xs ys hy;rw[fD,fD]at this;exact .BT this
   .cases h
 |row e τ l st=>simp only[rI]at h;cases h;exact .row rfl rfl
 |nest e e' τ l=>simp only[rI]at h;cases h;exact .nest rfl
 |dQ e e' κ ρ' l ln=>
   have key:∀c∈iP (mG (κ:=κ) (ρ:=ρ')) l,PF false H nm' ρ c c:=λc hc=>by
    rcases a30 l c hc with⟨n,ts,rfl⟩|⟨t,rfl⟩
    .exact .fH
    .exact .d (.t rfl)
   simp only[rI]at h;split at h
   .cases h
    exact .dQ rfl (λi c c' h h'=>by
     have e:=fL (h.symm.trans h');subst e;exact key c (jF.2 ⟨i,h⟩))
   .rename_i i q
    split at h
    .rename_i q' hq
     cases h;refine .dQ (by rw[aHY,aHY]) (λj c c' h h'=>?_);unfold uF at h h';by_cases hj:i.toNat*(1+ρ'.size)=j
     .subst hj
      have hlt:=(cX.1 h).1;rw[Xd]at hlt;rw[aIr hlt]at h h';cases h;cases h';exact .d (H4 (H:=H) hf (.own q) (.own q') (by unfold fJ;rw[hq]))
     .rw[aIs hj]at h h'
      have e:=fL (h.symm.trans h');subst e;exact key c (jF.2 ⟨j,h⟩)
    .cases h
 |it s pos=>
   simp only[rI]at h;cases h;exact .it
 |mp τ l=>
   simp only[rI]at h;split at h
   .rename_i r hr
    cases h;have key:∀(l r:List (τ.V×X)),Nn f l=some r->l.length=r.length/\∀(i:Nat)(p p':τ.V×X),l[i]?=some p->r[i]?=some p'->p.1=p'.1/\dU false H nm' ρ p.2.D p'.2.D:=by
     intro l
     induction l with
     |nil=>intro r h;cases h;exact⟨rfl,λi p p' h=>by simp at h⟩
     |cons a l ih=>
       intro r h;obtain⟨k,x⟩:=a;unfold Nn at h;split at h
       .rename_i y hy
        split at h
        .rename_i r' hr'
         cases h;obtain⟨h1,h2⟩:=ih r' hr';refine⟨by simp[h1],λi p p' hp hp'=>?_⟩;cases i with
         |zero=>simp at hp hp';subst hp hp';exact⟨rfl,H4 hf _ _ hy⟩
         |succ i=>exact h2 i p p' (by simpa using hp) (by simpa using hp')
        .cases h
       .cases h
    obtain⟨h1,h2⟩:=key l r hr;refine .mp (by simp[h1]) (λi p p' hp hp'=>?_);rw[dL]at hp hp';obtain⟨a,ha,rfl⟩:=cN.1 hp;obtain⟨b,hb,rfl⟩:=cN.1 hp';obtain⟨e1,e2⟩:=h2 i a b ha hb;exact⟨by rw[e1],e2⟩
   .cases h
theorem aG5{f:Nat->Option Nat}:∀(T T':XT),Nl f T=some T'->∀t y,lk t T'=some y->∃x,lk t T=some x/\fJ f x=some y
 |[],T',h,t,y,ht=>by cases h;cases ht
 |(t0,x0)::l,T',h,t,y,ht=>by
   unfold Nl at h;split at h
   .rename_i y0 hy
    split at h
    .rename_i r hr
     cases h;unfold lk at ht ⊢;split at ht
     .cases ht;exact⟨x0,rfl,hy⟩
     .exact aG5 l r hr t y ht
    .cases h
   .cases h
theorem rJ{f:Nat->Option Nat}{H:Nat->Option XO}:∀(al:List (Nat×Nat))(H':XH),oS f H al=some H'->∀k o',lk k H'=some o'->∃q o,lk k al=some q/\H q=some o/\rI f o=some o'
 |[],H',h,k,o',hk=>by cases h;cases hk
 |(new,q)::l,H',h,k,o',hk=>by
   unfold oS at h;split at h
   .rename_i o ho
    split at h
    .rename_i o1 h1
     split at h
     .rename_i r hr
      cases h;unfold lk at hk ⊢;split at hk
      .cases hk;exact⟨q,o,rfl,ho,h1⟩
      .exact rJ l r hr k o' hk
     .cases h
    .cases h
   .cases h
theorem Dm{k new:Nat}:∀{rn:List (Nat×Nat)},old rn k=some new->(new,k)∈rn
 |[],h=>by cases h
 |(n,o)::l,h=>by
   unfold old at h;split at h
   .rename_i he
    have he:=bY he;subst he;cases h;exact List.mem_cons_self ..
   .exact fM _ (Dm h)
theorem mF{α:Type}{k:Nat}{x:α}{l:List (Nat×α)}(h:lk k l=some x):(k,x)∈l:=kT (by rw[<-oY];exact h)
theorem OG:∀{l:List Nat},rO l=true->l.Nodup
 |[],_=>List.nodup_nil
 |k::l,h=>by
   unfold rO at h;split at h
   .cases h
   .rename_i hc
    exact a44.2 ⟨(λhm=>by rw[List.contains_iff_mem.2 hm]at hc;cases hc),OG h⟩
structure X4(rn al:List (Nat×Nat))(lo hi:Nat):Prop where
 iG:∀new q,(new,q)∈rn->lo<=new/\new<hi/\rT new=false/\bO rn new=q
 nd:(al.map (·.2)).Nodup
 al:∀k q,lk k al=some q->bO rn k=q/\(rT k=true\/∃q',(k,q')∈rn)
theorem Dc{rn:List (Nat×Nat)}{k q:Nat}(h:lk k rn=some q):bO rn k=q:=by
 unfold bO;rw[<-oY,h]
theorem rS{k:Nat}:rT k=true ↔ 50<=k/\k<100:=by
 unfold rT;rw[bM];exact⟨λ⟨a,b⟩=>⟨fC a,fC b⟩,λ⟨a,b⟩=>⟨X8 a,X8 b⟩⟩
theorem VP{rn al:List (Nat×Nat)}{lo hi:Nat}(h:HZ rn al lo hi=true):X4 rn al lo hi:=by
 unfold HZ at h;simp only[bM]at h;obtain⟨⟨h1,h2⟩,h3⟩:=h;have hlk:∀{p:Nat×Nat},(match lk p.1 rn with|some q=>Nat.beq q p.2|none=>false)=true->lk p.1 rn=some p.2:=λ{p} h=>by
  split at h
  .rename_i q hq;rw[hq,bY h]
  .cases h
 have h1':∀p∈rn,lo<=p.1/\p.1<hi/\rT p.1=false/\lk p.1 rn=some p.2:=λp hp=>by
  have:=eC.1 h1 p hp;simp only[bM,Xi]at this;obtain⟨⟨⟨a,b⟩,c⟩,d⟩:=this;exact⟨fC a,fC b,c,hlk d⟩
 refine⟨λnew q hm=>?_,OG h2,λk q hk=>?_⟩
 .obtain⟨a,b,c,d⟩:=h1' _ hm
  exact⟨a,b,c,Dc d⟩
 .have:=eC.1 h3 _ (mF hk)
  simp only[Bool.or_eq_true,bM]at this;rcases this with⟨a,b⟩|c
  .have hb:=bY b
   have hkH:=rS.1 a;refine⟨?_,.inl a⟩;rw[<-hb];unfold bO;cases hl:Ab.look k rn with
   |none=>rfl
   |some z=>
     have:=(h1' _ (kT hl)).2.2.1;simp only at this;rw[a]at this;cases this
  .have:=hlk (p:=(k,q)) c
   exact⟨Dc this,.inr ⟨_,mF this⟩⟩
theorem X4.f{rn al:List (Nat×Nat)}{lo hi:Nat}(F:X4 rn al lo hi)(hhi:hi<=100):∀k k',pU rn k=some k'->decide (k'<100)=true/\k=bO rn k':=λk k' h=>by
 unfold pU at h;split at h
 .rename_i hH
  cases h;refine⟨aU (rS.1 hH).2,?_⟩;unfold bO;cases hl:Ab.look k rn with
  |none=>rfl
  |some z=>
    have:=(F.iG _ _ (kT hl)).2.2.1;rw[hH]at this;cases this
 .obtain⟨a,b,c,d⟩:=F.iG _ _ (Dm h)
  exact⟨aU (by omega),d.symm⟩
theorem OE{al:List (Nat×Nat)}(h:(al.map (·.2)).Nodup):∀{a b q:Nat},(a,q)∈al->(b,q)∈al->a=b:=by
 induction al with
 |nil=>intro a b q ha;cases ha
 |cons p l ih=>
   intro a b q ha hb;rw[iN,a44]at h;rcases fA.1 ha with e1|h1
   .rcases fA.1 hb with e2|h2
    .rw[<-e1]at e2;cases e2;rfl
    .exact absurd (eX.2 ⟨_,h2,by rw[<-e1]⟩) h.1
   .rcases fA.1 hb with e2|h2
    .exact absurd (eX.2 ⟨_,h1,by rw[<-e2]⟩) h.1
    .exact ih h.2 h1 h2
theorem a2p{E:Env}{T T':Nat->Option D}{H H':Nat->Option aS}{N N':Nat}(ρ:Nat->Nat)(hT:∀t d',T' t=some d'->∃d,T t=some d/\dU false H (λk=>decide (k<N')) ρ d d')
    (hH:∀k o',H' k=some o'->k<N'/\∃o,H (ρ k)=some o/\gW false H (λk=>decide (k<N')) ρ o o') (hinj:∀k k' o o',H' k=some o->H' k'=some o'->ρ k=ρ k'->k=k') (hid:∀k,50<=k->k<100->ρ k=k):dX E (mk T H N) (mk T' H' N'):=by
 intro tm w ⟨ν,G,I⟩;have hρ:∀k',decide (k'<N')=true->(mk T H N).nm (ρ k')=true->(λk=>ν (ρ k)) k'=ν (ρ k'):=λ_ _ _=>rfl
 refine⟨λk=>ν (ρ k),G,I.kept,I.eJ,λk h1 h2=>?_,I.g0,I.sz,λt d' h=>?_,λk o' h=>?_,λk o k' o' h h' hne g hg=>?_⟩
 .show ν (ρ k)=_
  rw[hid k h1 h2];exact I.fS k h1 h2
 .obtain⟨d,hd,hle⟩:=hT t d' h
  obtain⟨v,hv,hvd⟩:=I.T t d hd;exact⟨v,hv,hle.rel (λ_ _ _ h=>h) I.rows hρ hvd⟩
 .obtain⟨hk,o,ho,hle⟩:=hH k o' h
  exact⟨aU hk,(I.H _ o ho).2.view hle I.rows hρ rfl (λ_ _ h=>h)⟩
 .obtain⟨_,o1,h1,l1⟩:=hH k o h
  obtain⟨_,o2,h2,l2⟩:=hH k' o' h';exact λhg'=>I.dS _ o1 _ o2 h1 h2 (λe=>hne (hinj k k' o o' h h' e)) g (l1.ft.1 hg) (l2.ft.1 hg')
theorem OD{nm:Nm}{σ:Sg}{k:Sg->O}{r:aC}(h:BG nm σ k=some r)(hN:100<=σ.N):∃σ',k σ'=some r/\σ'.N=100/\∀E,dX E (cI σ) (cI σ'):=by
 unfold BG at h;obtain⟨σ2,h,hN2,hE2⟩:=Vl _ _ _ _ h;obtain⟨T1,hp,h⟩:=bL h;simp only at h;split at h
 case h_2=>cases h
 rename_i hrn;have F:=VP hrn;obtain⟨T2,hT2,h⟩:=bL h;obtain⟨H2,hH2,h⟩:=bL h;refine⟨_,h,rfl,λE=>(dX.trans' (hE2 hN E) (dX.trans' (b:=mk (λt=>(lk t T1).map X.D) (λk=>(lk k σ2.H).map XO.A) σ2.N) (a2r λt d' ht=>?_) ?_))⟩
 .obtain⟨x',hx',rfl⟩:=cN.1 ht
  obtain⟨x,e1,e2⟩:=aGd _ _ hp t x' hx';exact⟨x.D,by rw[e1];rfl,e2⟩
 .have hf:=F.f (by omega)
  refine a2p (bO (jA 0 (reach σ2.vw.H 60 (Vk T1 (nQ σ2.H)) []))) (λt d' ht=>?_) (λk o' hk=>?_) (λk k' o o' h1 h2 e=>?_) (λk h1 h2=>?_)
  .obtain⟨y,hy,rfl⟩:=cN.1 ht
   obtain⟨x,e1,e2⟩:=aG5 _ _ hT2 t y hy;exact⟨x.D,by rw[e1];rfl,H4 hf x y e2⟩
  .obtain⟨y,hy,rfl⟩:=cN.1 hk
   obtain⟨q,o,e1,e2,e3⟩:=rJ _ _ hH2 k y hy;obtain⟨a1,a2⟩:=F.al k q e1;refine⟨?_,o.A,by rw[a1];exact bG (aIf XO.A) e2,H5 hf e3⟩;rcases a2 with a2|⟨q',a2⟩
   .exact(rS.1 a2).2
   .have:=(F.iG _ _ a2).2.1;show k<100;omega
  .obtain⟨y1,hy1,rfl⟩:=cN.1 h1
   obtain⟨y2,hy2,rfl⟩:=cN.1 h2;obtain⟨q1,_,e1,_,_⟩:=rJ _ _ hH2 k y1 hy1;obtain⟨q2,_,e2,_,_⟩:=rJ _ _ hH2 k' y2 hy2;rw[(F.al k q1 e1).1,(F.al k' q2 e2).1]at e;subst e;exact OE F.nd (mF e1) (mF e2)
  .unfold bO
   cases hl:Ab.look k _ with
   |none=>rfl
   |some z=>
     have:=(F.iG _ _ (kT hl)).2.2.1;rw[rS.2 ⟨h1,h2⟩]at this;cases this
end Go.Ax
/- Code, loops, functions. -/
namespace Go.Ax
open aA
open Go.RowKit Go.Ab
def r9(c:Cx)(M:Nat)(code:Code)(σ:Sg)(Post:Exit->Sg->Prop):Prop:=∀E:Env,E.m=M->gY c.P E code (λe s=>∃σ',Post e σ'/\dX E s (cI σ')) (cI σ)
def cU(c:Cx)(M:Nat)(code:Code){Y1 Y2 Y3:Type}(I1:Y1->Exit×Sg)(I2:Y2->Exit×Sg)(I3:Y3->Exit×Sg)(L:Sg->(Y1->O)->(Y2->O)->(Y3->O)->O):Prop:=∀σ k1 k2 k3 r,L σ k1 k2 k3=some r->σ.N=100->
 r9 c M code σ λe σ'=>100<=σ'.N/\((∃y,k1 y=some r/\I1 y=(e,σ'))\/(∃y,k2 y=some r/\I2 y=(e,σ'))\/∃y,k3 y=some r/\I3 y=(e,σ'))
def bJ(c:Cx)(M:Nat)(h:Hint)(code:Code):Prop:=match h with
 |.sub _ _ _ _ I1 I2 I3 L=>cU c M code I1 I2 I3 L
 |h=>match code with
   |.seq a b=>bJ c M (match h with|.seq x _=>x|_=>.d) a/\bJ c M (match h with|.seq _ y=>y|_=>.d) b
   |.cond _ a b=>bJ c M (match h with|.cond x _=>x|_=>.d) a/\bJ c M (match h with|.cond _ y=>y|_=>.d) b
   |.block _ a=>bJ c M (match h with|.block x=>x|_=>.d) a
   |_=>True
termination_by structural code
theorem cT{c:Cx}{M:Nat}:∀code:Code,bJ c M .d code
 |.skip=>trivial
 |.region ..=>trivial
 |.seq a b=>⟨cT a,cT b⟩
 |.cond _ a b=>⟨cT a,cT b⟩
 |.block _ a=>cT a
 |.loop _=>trivial
 |.rangeFunc ..=>trivial
 |.exit _=>trivial
 |.scope _=>trivial
 |.label _=>trivial
 |.goto _=>trivial
 |.ret=>trivial
 |.refuse _=>trivial
theorem Wl{σ:Sg}{s:St}(h:gG σ.T σ.H s){E:Env}:dX E (mk s.T s.H σ.N) (cI σ):=Hs (λt d ht=>by
    obtain⟨x,hx,rfl⟩:=cN.1 ht;exact h.T t x hx) (λk o hk=>by
    obtain⟨x,hx,rfl⟩:=cN.1 hk;exact h.H k x hx)
theorem gG.den(σ:Sg):gG σ.T σ.H (cI σ):=⟨λt x h=>by show(lk t σ.T).map X.D=_;rw[h];rfl,λk o h=>by show(lk k σ.H).map XO.A=_;rw[h];rfl⟩
theorem Wi{M:Nat}:∀{l:List Oper},Hu M l=true->(l.all λo=>match o.dst with|none=>true|some t=>decide (t<M))=true
 |[],_=>rfl
 |o::l,h=>by
   unfold Hu at h;rw[List.all_cons,bM];split at h
   .rename_i t ht
    split at h
    .rename_i hb
     exact⟨by rw[ht];exact aU (fC hb),Wi h⟩
    .cases h
   .rename_i ht
    exact⟨by rw[ht],Wi h⟩
theorem aFv(n:Int)(h:0<=n/\n<256):(X.e .u8 (eW n.toNat)).D = .t (.v (.int .u8 n)):=by
 have:((eW n.toNat).toNat:Int)=n:=by
  rw[a4H];omega
 show D.t (.v (.int .u8 ((eW n.toNat).toNat:Int)))=_;rw[this]
theorem V9{σ:Sg}{w:Value}{x:X}(h:rN w=some x):(cI σ).ev (.const w)=some x.D:=by
 have h1:∀v:Value,(∀vs,v≠.tuple vs)->(∀cs,v≠.agg cs)->(nN v).D = .t (.v v):=λv h1 h2=>by
  unfold nN;split
  .split
   .exact aFv _ (cR ‹_›)
   .rfl
  .rfl
  .rfl
  .rfl
  .rfl
  .rfl
 unfold rN at h;unfold St.ev;split at h
 .rename_i cs
  split at h
  .rename_i ha
   cases h;show(if EH (.agg cs)=true then some (iZ (.agg cs))else none)=_;rw[aN (show EH (.agg cs)=true from ha)];simp only[iZ,X.D,fD,List.map_map]
   congr 2
   refine List.map_congr_left λv hv=>(h1 v (λvs e=>?_) (λcs' e=>?_)).symm
   .have:=eC.1 ha v hv;rw[e]at this;cases this
   .have:=eC.1 ha v hv;rw[e]at this;cases this
  .cases h
 .cases h
 .rename_i h2 h3
  cases h;rw[h1 w (λvs e=>h3 vs e) (λcs e=>h2 cs e)];cases w with
  |agg cs=>exact absurd rfl (h2 cs)
  |tuple vs=>exact absurd rfl (h3 vs)
  |_=>rfl
theorem a2i{σ:Sg}{x:Operand}{v:X}(h:σ.vw.ev x=some v):(cI σ).ev x=some v.D:=by
 cases x with
 |tmp t=>
   simp only[Vw.ev,Sg.vw]at h;split at h
   .rename_i y hy
    have e:(cI σ).ev (.tmp t)=some y.D:=by show(lk t σ.T).map X.D=_;rw[hy];rfl
    rw[e];unfold tY at h;split at h
    .cases h;rfl
    .cases h
    .cases h;rfl
   .cases h
 |const w=>exact V9 h
 |func f=>simp only[Vw.ev]at h;cases h;rfl
 |global g=>simp only[Vw.ev]at h;cases h;exact bG some (aHa g).symm
structure aD(c:Cx):Prop where
 mix:c.P.follows .mixedOrders=true
 step:Ow c
 dP:Oz c
theorem WK{k:Exit->Sg->O}{e:Exit}{σ:Sg}{r:aC}(h:kk k (e,σ)=some r):k e σ=some r:=by
 unfold kk at h;split at h
 .cases h
 .exact h
theorem Hr{c:Cx}(hc:aD c){M:Nat}:∀(code:Code)(h:Hint)(σ:Sg)(k:Exit->Sg->O)(r:aC),exec c M h code σ k=some r->bJ c M h code->100<=σ.N->r9 c M code σ λe σ'=>100<=σ'.N/\k e σ'=some r:=by
 have sub:∀(code:Code) nm (Y1 Y2 Y3:Type) (I1:Y1->Exit×Sg) (I2:Y2->Exit×Sg) (I3:Y3->Exit×Sg) (L:Sg->(Y1->O)->(Y2->O)->(Y3->O)->O) (σ:Sg) (k:Exit->Sg->O) (r:aC),
     BG nm σ (λσ'=>L σ' (λy=>kk k (I1 y)) (λy=>kk k (I2 y)) (λy=>kk k (I3 y)))=some r->cU c M code I1 I2 I3 L->100<=σ.N->r9 c M code σ λe σ'=>100<=σ'.N/\k e σ'=some r:=by
  intro code nm Y1 Y2 Y3 I1 I2 I3 L σ k r h hs hN E hE;obtain⟨σ1,h1,h2,h3⟩:=OD h hN;refine XK (h3 E) (rY (hs σ1 _ _ _ r h1 h2 E hE) ?_);rintro e s ⟨σ',⟨hN',hy⟩,hent⟩;refine⟨σ',⟨hN',?_⟩,hent⟩;rcases hy with⟨y,a,b⟩|⟨y,a,b⟩|⟨y,a,b⟩
  .rw[b]at a;exact WK a
  .rw[b]at a;exact WK a
  .rw[b]at a;exact WK a
 intro code
 induction code with
 |skip=>
   intro h σ k r he hh hN;cases h with
   |sub=>exact sub _ _ _ _ _ _ _ _ _ _ _ _ he hh hN
   |_=>exact λE hE=>a3h ⟨σ,⟨hN,he⟩,dX.rL⟩
 |label l=>
   intro h σ k r he hh hN;cases h with
   |sub=>exact sub _ _ _ _ _ _ _ _ _ _ _ _ he hh hN
   |_=>exact λE hE=>a3m ⟨σ,⟨hN,he⟩,dX.rL⟩
 |exit id=>
   intro h σ k r he hh hN;cases h with
   |sub=>exact sub _ _ _ _ _ _ _ _ _ _ _ _ he hh hN
   |_=>exact λE hE=>a3n ⟨σ,⟨hN,he⟩,dX.rL⟩
 |ret=>
   intro h σ k r he hh hN;cases h with
   |sub=>exact sub _ _ _ _ _ _ _ _ _ _ _ _ he hh hN
   |_=>exact λE hE=>a3j ⟨σ,⟨hN,he⟩,dX.rL⟩
 |loop a _=>
   intro h σ k r he hh hN;cases h with
   |sub=>exact sub _ _ _ _ _ _ _ _ _ _ _ _ he hh hN
   |_=>cases he
 |goto l=>
   intro h σ k r he hh hN;cases h with
   |sub=>exact sub _ _ _ _ _ _ _ _ _ _ _ _ he hh hN
   |_=>cases he
 |scope a _=>
   intro h σ k r he hh hN;cases h with
   |sub=>exact sub _ _ _ _ _ _ _ _ _ _ _ _ he hh hN
   |_=>cases he
 |refuse a=>
   intro h σ k r he hh hN;cases h with
   |sub=>exact sub _ _ _ _ _ _ _ _ _ _ _ _ he hh hN
   |_=>cases he
 |rangeFunc a b x y _ _=>
   intro h σ k r he hh hN;cases h with
   |sub=>exact sub _ _ _ _ _ _ _ _ _ _ _ _ he hh hN
   |_=>cases he
 |block id a ih=>
   intro h σ k r he hh hN;have go:∀x:Hint,bJ c M x a->exec c M x a σ (λe σ'=>match e with
    |.exit id'=>match Nat.beq id' id with|true=>k .normal σ'|false=>k (.exit id') σ'
    |e=>k e σ')=some r->r9 c M (.block id a) σ λe σ'=>100<=σ'.N/\k e σ'=some r:=λx hx hex E hE=>by
    refine a3r (rY (ih x σ _ r hex hx hN E hE) ?_);rintro e s ⟨σ',⟨hN',hk⟩,hent⟩;cases e with
    |exit id'=>
      simp only[Xj];simp only at hk;split at hk
      .rename_i hb
       rw[aN (bY hb)];exact⟨σ',⟨hN',hk⟩,hent⟩
      .rename_i hb
       rw[aF (qF hb)];exact⟨σ',⟨hN',hk⟩,hent⟩
    |_=>exact⟨σ',⟨hN',hk⟩,hent⟩
   cases h with
   |sub=>exact sub _ _ _ _ _ _ _ _ _ _ _ _ he hh hN
   |block x=>exact go x hh he
   |_=>exact go .d hh he
 |cond z a b iha ihb=>
   intro h σ k r he hh hN;have go:∀x y:Hint,bJ c M x a->bJ c M y b->(ob (σ.vw.ev z) λv=>match v with
    |.e .bo q=>br q (exec c M x a σ k) (exec c M y b σ k)
    |_=>none)=some r->r9 c M (.cond z a b) σ λe σ'=>100<=σ'.N/\k e σ'=some r:=λx y hx hy hex E hE=>by
    obtain⟨v,hv,hex⟩:=bL hex;split at hex
    case h_2=>cases hex
    rename_i q;have hev:=a2i hv;refine a3q (b:=q) hev (λhq=>?_) (λhq=>?_)
    .subst hq;exact iha x σ k r hex hx hN E hE
    .subst hq;exact ihb y σ k r hex hy hN E hE
   cases h with
   |sub=>exact sub _ _ _ _ _ _ _ _ _ _ _ _ he hh hN
   |cond x y=>exact go x y hh.1 hh.2 he
   |_=>exact go .d .d hh.1 hh.2 he
 |seq a b iha ihb=>
   intro h σ k r he hh hN;have go:∀x y:Hint,bJ c M x a->bJ c M y b->exec c M x a σ (λe σ'=>match e with
    |.normal=>exec c M y b σ' k
    |e=>k e σ')=some r->r9 c M (.seq a b) σ λe σ'=>100<=σ'.N/\k e σ'=some r:=λx y hx hy hex E hE=>by
    refine a3i (rY (iha x σ _ r hex hx hN E hE) ?_);rintro e s ⟨σ',⟨hN',hk⟩,hent⟩;cases e with
    |normal=>exact XK hent (ihb y σ' k r hk hy hN' E hE)
    |_=>exact⟨σ',⟨hN',hk⟩,hent⟩
   cases h with
   |sub=>exact sub _ _ _ _ _ _ _ _ _ _ _ _ he hh hN
   |seq x y=>exact go x y hh.1 hh.2 he
   |_=>exact go .d .d hh.1 hh.2 he
 |region id ops draw=>
   intro h σ k r he hh hN;have go:∀(stF:List Nat)(sl:List Mv)(kl:List (List Nat)),No c M stF sl kl ops draw σ k=some r->r9 c M (.region id ops draw) σ λe σ'=>100<=σ'.N/\k e σ'=some r:=λstF sl kl hex E hE=>by
    unfold No at hex;obtain⟨σ1,hex,hN1,hent⟩:=Vl _ _ _ _ hex
    dsimp only at hex
    refine XK (hent hN E) ?_;have hN':100<=σ1.N:=hN1 hN;clear hent;split at hex
    .cases hex
    rename_i hpl;obtain⟨l⟩:=ops;simp only at hex;split at hex
    .split at hex
     case h_2=>cases hex
     rename_i hd;obtain⟨ex,σ2,e1,e2,e3,e4⟩:=Df hc.step hc.dP l 0 σ1 _ r (cI σ1) (λ_=>false) hex (gG.den σ1) (λt x ht=>Di (VY hpl t x ht));refine a3k (σ1.N+8*l.length) hE hN' rfl (Wi hd) ?_;have:∀(Post Post':Exit->St->Prop)(hp:∀e s,Post e s->Post' e s)(ops:Array Oper)(l:List Oper)(fr:Nat)(s:St),mK c.P ops Post l fr s->mK c.P ops Post' l fr s:=by
      intro Post Post' hp ops l
      induction l with
      |nil=>intro fr s h;exact hp _ s h
      |cons o l ih=>
        intro fr s h;rcases h with⟨d,W,h1,h2⟩|⟨ι,C,d,W,h0,h1,h2⟩|⟨v,W,h0,h1,h2⟩
        .exact .inl ⟨d,W,h1,ih _ _ h2⟩
        .exact .inr (.inl ⟨ι,C,d,W,h0,h1,λi hi=>ih _ _ (h2 i hi)⟩)
        .exact .inr (.inr ⟨v,W,h0,h1,hp _ _ h2⟩)
     refine this _ _ (λe' s hs=>?_) _ _ _ _ e4;obtain⟨rfl,hs⟩:=hs;refine⟨σ2,⟨by rw[e2];omega,e1⟩,?_⟩;rw[<-e2];exact Wl hs
    .split at hex
     case h_2=>cases hex
     rename_i ha;have e3:=EF (ops:=l.toArray) (pre:=H9 l []) (kl:=kl) (fr:=σ1.N) hc.step hc.dP (s:=cI σ1) (gG.den σ1).T (gG.den σ1).H (λt x ht=>VY hpl t x ht) (gG.den σ1).H (n:=l.length) l 0 [] _ r (λ_=>false) hex rfl (by simp) (λp hp=>by cases hp);refine a3o (H9 l []) kl hc.mix hE hN' ha ?_;have:∀(Post Post':Exit->St->Prop)(hp:∀e s,Post e s->Post' e s)(ops:Array Oper)(pre kl:List (List Nat))(fr:Nat)(s:St)(l:List Oper)(i:Nat)(rs:Rs),pH c.P ops pre kl fr s Post l i rs->pH c.P ops pre kl fr s Post' l i rs:=by
      intro Post Post' hp ops pre kl fr s l
      induction l with
      |nil=>intro i rs h;exact hp _ _ h
      |cons o l ih=>
        intro i rs h;rcases h with⟨d,W,h1,h2,h3⟩|⟨v,W,h1,h2,h3,h4,h5⟩
        .exact .inl ⟨d,W,h1,h2,ih _ _ h3⟩
        .exact .inr ⟨v,W,h1,h2,h3,h4,hp _ _ h5⟩
     refine this _ _ (λe' s hs=>?_) _ _ _ _ _ _ _ _ e3;rcases hs with⟨rfl,rs,e1,e2,rfl⟩|⟨σ',e1,e2,e3⟩
     .obtain⟨T2,H2,e4,e5⟩:=aHi (ops:=l.toArray) (fr:=σ1.N) l 0 rs σ1.T σ1.H _ r (cI σ1) (λq o ho=>by rw[Nat.zero_add];simp[Region.eV,ho]) (by omega) e1 (gG.den σ1)
      obtain⟨T3,e6,e7,e8⟩:=Ha e4;refine⟨⟨T3,H2,σ1.N+8*l.length⟩,⟨by show 100<=σ1.N+8*l.length;omega,e6⟩,?_⟩;exact Wl (σ:=⟨T3,H2,σ1.N+8*l.length⟩) (e5.T' e7)
     .have e2':σ'.N=σ1.N+8*l.length:=by rw[e2];simp
      refine⟨σ',⟨by omega,e1⟩,?_⟩;rw[<-e2'];exact Wl e3
   cases h with
   |sub=>exact sub _ _ _ _ _ _ _ _ _ _ _ _ he hh hN
   |gO a b d=>exact go a b d he
   |_=>exact go [] [] [] he
end Go.Ax
/- Loops and parts of the code as declarations of their own; functions. -/
namespace Go.Ax
open aA
open Go.RowKit Go.Ab
theorem a1F{c:Cx}(hc:aD c){M:Nat}{hb:Hint}{body:Code}(hh:bJ c M hb body){nm:Nm}{out:List (Exit×Nm)}{n:Nat}{σ:Sg}{K:Exit->Sg->O}{r:aC}(h:uD c M hb body nm out n σ K=some r)(hN:100<=σ.N):
    r9 c M (.loop body) σ λe σ'=>100<=σ'.N/\K e σ'=some r:=by
 intro E hE;refine a3l (ι:=Nat×Sg) (λp=>cI p.2) (λp=>uD c M hb body nm out p.1 p.2 K=some r/\100<=p.2.N) (λp=>p.1) (n,σ) dX.rL ⟨h,hN⟩ ?_;rintro⟨m,σ0⟩ ⟨h0,hN0⟩;simp only at h0 hN0;cases m with
 |zero=>cases h0
 |succ m=>
   unfold uD at h0;refine rY (Hr hc body hb σ0 _ r h0 hh hN0 E hE) ?_;rintro e s ⟨σ1,⟨hN1,h1⟩,hent⟩;cases e with
   |normal=>
     obtain⟨σ2,e1,e2,e3⟩:=OD (k:=λσ'=>uD c M hb body nm out m σ' K) h1 hN1;exact⟨(m,σ2),⟨e1,by rw[e2];exact cE _⟩,Nat.lt_succ_self m,dX.trans' hent (e3 E)⟩
   |_=>
     unfold fE at h1;obtain⟨nm',_,h1⟩:=bL h1;obtain⟨σ2,e1,e2,e3⟩:=OD h1 hN1;exact⟨σ2,⟨by rw[e2];exact cE _,e1⟩,dX.trans' hent (e3 E)⟩
theorem aZ0{c:Cx}(hc:aD c){M:Nat}{hb:Hint}{code:Code}(hh:bJ c M hb code){out:List (Exit×Nm)}{σ:Sg}{K:Exit->Sg->O}{r:aC}(h:exec c M hb code σ (iH out K)=some r)(hN:100<=σ.N):
    r9 c M code σ λe σ'=>100<=σ'.N/\K e σ'=some r:=by
 intro E hE;refine rY (Hr hc code hb σ _ r h hh hN E hE) ?_;rintro e s ⟨σ1,⟨hN1,h1⟩,hent⟩;unfold iH at h1;obtain⟨nm',_,h1⟩:=bL h1;obtain⟨σ2,e1,e2,e3⟩:=OD h1 hN1;exact⟨σ2,⟨by rw[e2];exact cE _,e1⟩,dX.trans' hent (e3 E)⟩
section
variable{ι Y1 Y2 Y3:Type}{I:ι->Sg}{un:Sg->ι}{I1:Y1->Exit×Sg}{I2:Y2->Exit×Sg}{I3:Y3->Exit×Sg}
theorem dD{L:ι->(Y1->O)->(Y2->O)->(Y3->O)->O}(h:∀x,un (I x)=x)(x:ι)(k1:Y1->O)(k2:Y2->O)(k3:Y3->O):bB I un L (I x) k1 k2 k3=L x k1 k2 k3:=by
 unfold bB;rw[aN (by rw[h]),h]
open Classical in
noncomputable def rQ(u1:Exit->Sg->Y1)(u2:Exit->Sg->Y2)(u3:Exit->Sg->Y3)(I1:Y1->Exit×Sg)(I2:Y2->Exit×Sg)(I3:Y3->Exit×Sg)(k1:Y1->O)(k2:Y2->O)(k3:Y3->O)(e:Exit)(σ:Sg):O:=
 if I1 (u1 e σ)=(e,σ)then k1 (u1 e σ)else if I2 (u2 e σ)=(e,σ)then k2 (u2 e σ)else if I3 (u3 e σ)=(e,σ)then k3 (u3 e σ)else none
def hY:Exit->Nat
 |.normal=>0
 |.ret=>1
 |.panic _=>2
 |.outgrown=>3
 |.exit n=>4+2*n
 |.goto n=>5+2*n
structure B0(u1:Exit->Sg->Y1)(u2:Exit->Sg->Y2)(u3:Exit->Sg->Y3)(I1:Y1->Exit×Sg)(I2:Y2->Exit×Sg)(I3:Y3->Exit×Sg)(e1 e2 e3:Nat):Prop where
 h1:∀y,u1 (I1 y).1 (I1 y).2=y
 h2:∀y,u2 (I2 y).1 (I2 y).2=y
 h3:∀y,u3 (I3 y).1 (I3 y).2=y
 x1:∀y,hY (I1 y).1=e1
 x2:∀y,hY (I2 y).1=e2
 x3:∀y,hY (I3 y).1=e3
 n12:e1≠e2
 n13:e1≠e3
 n23:e2≠e3
theorem aH6{u1:Exit->Sg->Y1}{u2:Exit->Sg->Y2}{u3:Exit->Sg->Y3}{e1 e2 e3:Nat}(h:B0 u1 u2 u3 I1 I2 I3 e1 e2 e3)(k1:Y1->O)(k2:Y2->O)(k3:Y3->O):(λy=>rQ u1 u2 u3 I1 I2 I3 k1 k2 k3 (I1 y).1 (I1 y).2)=k1:=by
 funext y
 unfold rQ;rw[aN (by rw[h.h1]),h.h1]
theorem aH5{u1:Exit->Sg->Y1}{u2:Exit->Sg->Y2}{u3:Exit->Sg->Y3}{e1 e2 e3:Nat}(h:B0 u1 u2 u3 I1 I2 I3 e1 e2 e3)(k1:Y1->O)(k2:Y2->O)(k3:Y3->O):(λy=>rQ u1 u2 u3 I1 I2 I3 k1 k2 k3 (I2 y).1 (I2 y).2)=k2:=by
 funext y
 unfold rQ;rw[aF (λe=>h.n12 (by have:=bG (λp=>hY p.1) e;simp only[h.x1]at this;rw[this];exact h.x2 y)),aN (by rw[h.h2]),h.h2]
theorem aH4{u1:Exit->Sg->Y1}{u2:Exit->Sg->Y2}{u3:Exit->Sg->Y3}{e1 e2 e3:Nat}(h:B0 u1 u2 u3 I1 I2 I3 e1 e2 e3)(k1:Y1->O)(k2:Y2->O)(k3:Y3->O):(λy=>rQ u1 u2 u3 I1 I2 I3 k1 k2 k3 (I3 y).1 (I3 y).2)=k3:=by
 funext y
 unfold rQ;rw[aF (λe=>h.n13 (by have:=bG (λp=>hY p.1) e;simp only[h.x1]at this;rw[this];exact h.x3 y)),aF (λe=>h.n23 (by have:=bG (λp=>hY p.1) e;simp only[h.x2]at this;rw[this];exact h.x3 y)),aN (by rw[h.h3]),h.h3]
theorem aH3{u1:Exit->Sg->Y1}{u2:Exit->Sg->Y2}{u3:Exit->Sg->Y3}{k1:Y1->O}{k2:Y2->O}{k3:Y3->O}{e:Exit}{σ:Sg}{r:aC}(h:rQ u1 u2 u3 I1 I2 I3 k1 k2 k3 e σ=some r):
    (∃y,k1 y=some r/\I1 y=(e,σ))\/(∃y,k2 y=some r/\I2 y=(e,σ))\/∃y,k3 y=some r/\I3 y=(e,σ):=by
 unfold rQ at h;split at h
 .exact .inl ⟨_,h,‹_›⟩
 .split at h
  .exact .inr (.inl ⟨_,h,‹_›⟩)
  .split at h
   .exact .inr (.inr ⟨_,h,‹_›⟩)
   .cases h
theorem fW{c:Cx}(hc:aD c){M:Nat}{hb:Hint}{body:Code}{nm:Nm}{out:List (Exit×Nm)}(hh:bJ c M hb body){u1:Exit->Sg->Y1}{u2:Exit->Sg->Y2}{u3:Exit->Sg->Y3}{e1 e2 e3:Nat}(hO:B0 u1 u2 u3 I1 I2 I3 e1 e2 e3)
    {L:ι->(Y1->O)->(Y2->O)->(Y3->O)->O} {n:Nat} (hL:∀x K,L x (λy=>K (I1 y).1 (I1 y).2) (λy=>K (I2 y).1 (I2 y).2) (λy=>K (I3 y).1 (I3 y).2)=uD c M hb body nm out n (I x) K):
    cU c M (.loop body) I1 I2 I3 (bB I un L):=by
 intro σ k1 k2 k3 r h hN;unfold bB at h;split at h
 case isFalse=>cases h
 rename_i hσ;have:=hL (un σ) (rQ u1 u2 u3 I1 I2 I3 k1 k2 k3);rw[aH6 hO,aH5 hO,aH4 hO,h,<-hσ]at this;intro E hE;refine rY (a1F hc hh this.symm (by omega) E hE) ?_;rintro e s ⟨σ1,⟨h1,h2⟩,h3⟩;exact⟨σ1,⟨h1,aH3 h2⟩,h3⟩
theorem jL{c:Cx}(hc:aD c){M:Nat}{hb:Hint}{code:Code}{out:List (Exit×Nm)}(hh:bJ c M hb code){u1:Exit->Sg->Y1}{u2:Exit->Sg->Y2}{u3:Exit->Sg->Y3}{e1 e2 e3:Nat}(hO:B0 u1 u2 u3 I1 I2 I3 e1 e2 e3)
    {L:ι->(Y1->O)->(Y2->O)->(Y3->O)->O} (hL:∀x K,L x (λy=>K (I1 y).1 (I1 y).2) (λy=>K (I2 y).1 (I2 y).2) (λy=>K (I3 y).1 (I3 y).2)=exec c M hb code (I x) (iH out K)):
    cU c M code I1 I2 I3 (bB I un L):=by
 intro σ k1 k2 k3 r h hN;unfold bB at h;split at h
 case isFalse=>cases h
 rename_i hσ;have:=hL (un σ) (rQ u1 u2 u3 I1 I2 I3 k1 k2 k3);rw[aH6 hO,aH5 hO,aH4 hO,h,<-hσ]at this;intro E hE;refine rY (aZ0 hc hh this.symm (by omega) E hE) ?_;rintro e s ⟨σ1,⟨h1,h2⟩,h3⟩;exact⟨σ1,⟨h1,aH3 h2⟩,h3⟩
theorem fY{c:Cx}{M:Nat}{hb:Hint}{body:Code}{nm:Nm}{out:List (Exit×Nm)}(l:Nat->ι->(Y1->O)->(Y2->O)->(Y3->O)->O)(h0:∀x k1 k2 k3,l 0 x k1 k2 k3=none)
    (hs:∀n (K:Exit->Sg->O),(∀x,l n x (λy=>K (I1 y).1 (I1 y).2) (λy=>K (I2 y).1 (I2 y).2) (λy=>K (I3 y).1 (I3 y).2)=uD c M hb body nm out n (I x) K)->
     ∀x,l (n+1) x (λy=>K (I1 y).1 (I1 y).2) (λy=>K (I2 y).1 (I2 y).2) (λy=>K (I3 y).1 (I3 y).2)=exec c M hb body (I x) (fE nm out (λσ=>uD c M hb body nm out n σ K) K)):
    ∀n x (K:Exit->Sg->O),l n x (λy=>K (I1 y).1 (I1 y).2) (λy=>K (I2 y).1 (I2 y).2) (λy=>K (I3 y).1 (I3 y).2)=uD c M hb body nm out n (I x) K:=by
 intro n
 induction n with
 |zero=>intro x K;exact h0 ..
 |succ n ih=>intro x K;exact hs n K (λx=>ih x K) x
end
def HA(H:XH):List (Nat×aS):=H.map λp=>(p.1,p.2.A)
theorem uE{k:Nat}:∀{H:XH},Ab.look k (HA H)=(lk k H).map XO.A
 |[]=>rfl
 |(k',o)::H=>by
   have ih:=uE (k:=k) (H:=H);unfold HA at ih ⊢;simp only[iN];unfold Ab.look lk;by_cases e:k'=k
   .subst e;simp
   .rw[aF e,nO e];exact ih
theorem aHU:∀(l:List X)(t0 t:Nat),lk t (bW t0 l)=if t0<=t then l[t-t0]? else none
 |[],t0,t=>by simp[bW,lk]
 |x::l,t0,t=>by
   unfold bW lk;by_cases e:t0=t
   .subst e;simp
   .rw[nO e,]
    simp only;rw[aHU l (t0+1) t];by_cases h:t0<=t
    .rw[aN h,aN (by omega),show t-t0=(t-(t0+1))+1 by omega];simp
    .rw[aF h,aF (by omega)]
theorem aIK(xs:List X)(H:XH):cI ⟨bW 0 xs,H,100⟩=args (xs.map X.D) (HA H):=by
 unfold cI args;refine mk_eq (λt=>?_) (λk=>?_) rfl
 .simp[aHU]
 .exact uE.symm
def lP(o:XO):XO:=match o with
 |.row e τ l _=>.row e τ l true
 |o=>o
theorem wU:∀(H:XH)(k:Nat),lk k (nL H)=(lk k H).map lP
 |[],k=>rfl
 |(k',o)::H,k=>by
   cases o with
   |row e τ l st=>
     unfold nL lk;split
     .rfl
     .exact wU H k
   |box e xs=>
     unfold nL lk;split
     .rfl
     .exact wU H k
   |nest e e' τ l=>
     unfold nL lk;split
     .rfl
     .exact wU H k
   |it s pos=>
     unfold nL lk;split
     .rfl
     .exact wU H k
   |mp τ l=>
     unfold nL lk;split
     .rfl
     .exact wU H k
   |dQ e e' κ ρ l ln=>
     cases ln with
     |none=>
       unfold nL lk;split
       .rfl
       .exact wU H k
     |some p=>
       unfold nL lk;split
       .rfl
       .exact wU H k
theorem aYk(o:XO):lP o=o\/Nh o=some (lP o):=by
 cases o with
 |row e τ l st=>
   cases st with
   |true=>exact .inl rfl
   |false=>exact .inr rfl
 |box e xs=>exact .inl rfl
 |mp τ l=>exact .inl rfl
 |it s pos=>exact .inl rfl
 |dQ e e' κ ρ l ln=>
   exact .inl rfl
 |nest e e' τ l=>
   exact .inl rfl
theorem aIB{E:Env}{σ:Sg}:∀(l:List Nat),dX E (cI σ) (mk (λt=>(lk t σ.T).map X.D) (λk=>((lk k σ.H).map λo=>if k∈l then lP o else o).map XO.A) σ.N)
 |[]=>by
   unfold cI;rw[mk_eq (T':=λt=>(lk t σ.T).map X.D) (H':=λk=>((lk k σ.H).map λo=>if k∈([]:List Nat)then lP o else o).map XO.A) (λ_=>rfl) (λk=>?_) rfl]
   .exact dX.rL
   .cases lk k σ.H <;> simp
 |q::l=>by
   refine dX.trans' (aIB l) ?_;by_cases hq:q∈l
   .rw[mk_eq (T':=λt=>(lk t σ.T).map X.D) (H':=λk=>((lk k σ.H).map λo=>if k∈q::l then lP o else o).map XO.A) (λ_=>rfl) (λk=>?_) rfl]
    .exact dX.rL
    .congr 2
     funext o
     by_cases hk:k∈l
     .rw[aN hk,aN (fM _ hk)]
     .rw[aF hk,aF (λh=>by rcases fA.1 h with h|h;exact hk (h ▸ hq);exact hk h)]
   .cases ho:lk q σ.H with
    |none=>
      rw[mk_eq (T':=λt=>(lk t σ.T).map X.D) (H':=λk=>((lk k σ.H).map λo=>if k∈q::l then lP o else o).map XO.A) (λ_=>rfl) (λk=>?_) rfl]
      .exact dX.rL
      .by_cases e:k=q
       .subst e;rw[ho];rfl
       .congr 2
        funext o
        by_cases hk:k∈l
        .rw[aN hk,aN (fM _ hk)]
        .rw[aF hk,aF (λh=>by rcases fA.1 h with h|h;exact e h;exact hk h)]
    |some o=>
      have other:∀k,k≠q->((lk k σ.H).map λo=>if k∈l then lP o else o)=((lk k σ.H).map λo=>if k∈q::l then lP o else o):=λk e=>by
       congr 1
       funext o
       by_cases hk:k∈l
       .rw[aN hk,aN (fM _ hk)]
       .rw[aF hk,aF (λh=>by rcases fA.1 h with h|h;exact e h;exact hk h)]
      rcases aYk o with h|h
      .rw[mk_eq (T':=λt=>(lk t σ.T).map X.D) (H':=λk=>((lk k σ.H).map λo=>if k∈q::l then lP o else o).map XO.A) (λ_=>rfl) (λk=>?_) rfl]
       .exact dX.rL
       .by_cases e:k=q
        .subst e
         rw[ho];simp[hq,h]
        .rw[other k e]
      .have:=aGS (q:=q) h (E:=E) (T:=λt=>(lk t σ.T).map X.D) (H:=λk=>((lk k σ.H).map λo=>if k∈l then lP o else o).map XO.A) (N:=σ.N) (by rw[ho];simp[hq])
       rw[mk_eq (T':=λt=>(lk t σ.T).map X.D) (H:=λj=>if q=j then some (lP o).A else((lk j σ.H).map λo=>if j∈l then lP o else o).map XO.A) (H':=λk=>((lk k σ.H).map λo=>if k∈q::l then lP o else o).map XO.A) (N:=σ.N) (λ_=>rfl) (λk=>?_) rfl]at this
       .exact this
       .by_cases e:q=k
        .subst e
         rw[aN rfl,ho];simp
        .rw[aF e,other k (λh=>e h.symm)]
theorem aYj(σ:Sg)(E:Env):dX E (cI σ) (cI ⟨σ.T,nL σ.H,σ.N⟩):=by
 have:=aIB (E:=E) (σ:=σ) (σ.H.map (·.1));unfold cI at this ⊢;rw[show(λk=>(lk k (nL σ.H)).map XO.A)=λk=>((lk k σ.H).map λo=>if k∈σ.H.map (·.1)then lP o else o).map XO.A from ?_]
 .exact this
 funext k
 rw[wU];cases hk:lk k σ.H with
 |none=>rfl
 |some o=>
   have hm:k∈σ.H.map (·.1):=eX.2 ⟨_,mF hk,rfl⟩;simp[hm]
end Go.Ax
/- What functions give back; contracts. -/
namespace Go.Ax
open aA
open Go.RowKit Go.Ab
theorem a35(c:Cx)(σ:Vw)(t:TypeId)(x:X):cC σ.den.H x.D (canon c σ t x).D:=by
 unfold canon;split
 .split
  .rename_i y h
   exact(WW σ x).trans (lB h)
  .exact cC.refl
 .exact cC.refl
theorem Oj(c:Cx)(σ:Vw):∀(ts:List TypeId)(xs:List X),eD σ.den.H (xs.map X.D) ((EL c σ ts xs).map X.D)
 |[],xs=>by
   have:EL c σ [] xs=xs:=by cases xs <;> rfl
   rw[this];exact eD.refl
 |t::ts,[]=>.nil
 |t::ts,x::xs=>.cons (a35 c σ t x) (Oj c σ ts xs)
theorem aHQ{α β:Type}{f:α->Option β}:∀{l:List α}{r:List β},xG f l=some r->l.length=r.length/\∀(i:Nat)(y:β),r[i]?=some y->∃x,l[i]?=some x/\f x=some y
 |[],r,h=>by cases h;exact⟨rfl,λi y h=>by simp at h⟩
 |x::l,r,h=>by
   unfold xG at h;split at h
   .rename_i y hy
    split at h
    .rename_i r' hr
     cases h;obtain⟨h1,h2⟩:=aHQ hr;refine⟨by simp[h1],λi z hz=>?_⟩;cases i with
     |zero=>simp at hz;subst hz;exact⟨x,rfl,hy⟩
     |succ i=>exact h2 i z (by simpa using hz)
    .cases h
   .cases h
theorem aZC{P:Program}{σ:Sg}{rv:ResultVar}{x:X}(h:Nk P σ rv=some x):RV P (cI σ) rv x.D:=by
 cases rv with
 |tmp t=>
   simp only[Nk]at h;exact .tmp (by show(lk t σ.T).map X.D=_;rw[h];rfl)
 |cell p t=>
   simp only[Nk]at h;split at h
   .rename_i q hp
    have hp':(cI σ).T p=some (.ref q 0):=by show(lk p σ.T).map X.D=_;rw[hp];rfl
    split at h
    .rename_i e xs hq
     have hq':(cI σ).H q=some (.box e (xs.map X.D)):=by show(lk q σ.H).map XO.A=_;rw[hq];rfl
     split at h
     .rename_i m ys hr hs
      split at h
      .rename_i hb
       cases h;rw[X.D,fD];exact .row hp' hq' hr hs (by rw[dI];exact bY hb)
      .cases h
     .rename_i y hr
      cases h;exact .one hp' hq' hr
     .cases h
    .cases h
   .cases h
theorem aG3{E:Env}{σ:St}{tm:Array Value}{w:World}(ρ:Nat->Nat){d d1 r:D}{H':List (Nat×aS)}(hR:R E σ tm w){v:Value}(hv:∀ν G,Inv E σ ν G w tm->DR ν σ.nm w G v d)(hw:cC σ.H d d1)
    (hle:dU false σ.H (λk=>decide (k<108)) ρ d1 r) (hH:∀k o',Ab.look k H'=some o'->k<108/\∃o,σ.H (ρ k)=some o/\gW false σ.H (λk=>decide (k<108)) ρ o o')
    (hinj:∀k k' o o',Ab.look k H'=some o->Ab.look k' H'=some o'->ρ k=ρ k'->k=k') (hid:∀k,50<=k->k<100->ρ k=k):R { E with m:=1 } (res r H') #[v] w:=by
 obtain⟨ν,G,I⟩:=hR;have hρ:∀k',decide (k'<108)=true->σ.nm (ρ k')=true->(λk=>ν (ρ k)) k'=ν (ρ k'):=λ_ _ _=>rfl
 refine⟨λk=>ν (ρ k),G,⟨I.kept.os,I.kept.tape,I.kept.output,I.kept.size,I.kept.block⟩,I.eJ,λk h1 h2=>?_,I.g0,rfl,λt d' h=>?_,λk o' h=>?_,λk o k' o' h h' hne g hg=>?_⟩
 .show ν (ρ k)=_
  rw[hid k h1 h2];exact I.fS k h1 h2
 .simp only at h
  split at h
  .rename_i e;subst e;cases h
   exact⟨v,rfl,hle.rel (λ_ _ _ h=>h) I.rows hρ (hw _ _ _ _ _ _ (λ_ _ h=>h) I v (hv ν G I))⟩
  .cases h
 .obtain⟨hk,o,ho,hle⟩:=hH k o' h
  exact⟨aU hk,(I.H _ o ho).2.view hle I.rows hρ rfl (λ_ _ h=>h)⟩
 .obtain⟨_,o1,h1,l1⟩:=hH k o h
  obtain⟨_,o2,h2,l2⟩:=hH k' o' h';exact λhg'=>I.dS _ o1 _ o2 h1 h2 (λe=>hne (hinj k k' o o' h h' e)) g (l1.ft.1 hg) (l2.ft.1 hg')
theorem aFy{ν:Nat->Value}{nm:Nat->Bool}{w:World}{G:cA}{vs:List Value}{ds:List D}(hl:vs.length=ds.length)(h:∀(i:Nat)(v:Value)(d:D),vs[i]?=some v->ds[i]?=some d->DR ν nm w G v d):DR ν nm w G (.tuple vs.toArray) (.bD ds):=
 .bD (by simpa using hl) λi u d hu hd=>h i u d (by simpa using hu) hd
theorem cC.bD{H:Nat->Option aS}{a b:List D}(h:eD H a b):cC H (.bD a) (.bD b):=λE s ν G w tm hH I v hv=>by
 cases hv with
 |bD hl hr=>
   refine .bD (hl.trans h.len) (λi u d hu hd=>?_);obtain⟨d0,e0,hw⟩:=h.get i d hd;exact hw E s ν G w tm hH I u (hr i u d0 hu e0)
theorem aZB{P:Program}{fn:Func}{E:Env}{s:St}{tm:Array Value}{w:World}(hR:R E s tm w):∀{xs:List D},fn.results.toList.length=xs.length->xs.length<=5->(∀(i:Nat)(rv:ResultVar)(d:D),fn.results.toList[i]?=some rv->xs[i]?=some d->RV P s rv d)->
    ∃v,(results fn tm).run P w = .ok v w/\∀ν G,Inv E s ν G w tm->DR ν s.nm w G v (match xs with|[d]=>d|xs=>.bD xs):=by
 intro xs hl h3 hrv;have hres:fn.results=fn.results.toList.toArray:=by simp
 match hf:fn.results.toList,xs,hl with
 |[],[],_=>
   refine⟨.tuple #[],?_,λν G I=>.bD rfl (λi u d h=>by simp at h)⟩;rw[Dd,hres,hf];simp
 |[p],[d],_=>
   obtain⟨v,hv,hd⟩:=(hrv 0 p d (by rw[hf];rfl) rfl).all hR;refine⟨v,?_,hd⟩;rw[Dd,hres,hf];simp[hv]
 |[p1,p2],[d1,d2],_=>
   obtain⟨v1,hv1,hd1⟩:=(hrv 0 p1 d1 (by rw[hf];rfl) rfl).all hR;obtain⟨v2,hv2,hd2⟩:=(hrv 1 p2 d2 (by rw[hf];rfl) rfl).all hR;refine⟨.tuple #[v1,v2],?_,λν G I=>aFz (hd1 ν G I) (hd2 ν G I)⟩;rw[Dd,hres,hf];simp[hv1,hv2]
 |[p1,p2,p3],[d1,d2,d3],_=>
   obtain⟨v1,hv1,hd1⟩:=(hrv 0 p1 d1 (by rw[hf];rfl) rfl).all hR;obtain⟨v2,hv2,hd2⟩:=(hrv 1 p2 d2 (by rw[hf];rfl) rfl).all hR;obtain⟨v3,hv3,hd3⟩:=(hrv 2 p3 d3 (by rw[hf];rfl) rfl).all hR;refine⟨.tuple #[v1,v2,v3],?_,λν G I=>aY1 (hd1 ν G I) (hd2 ν G I) (hd3 ν G I)⟩;rw[Dd,hres,hf];simp[hv1,hv2,hv3]
 |[p1,p2,p3,p4],[d1,d2,d3,d4],_=>
   obtain⟨v1,hv1,hd1⟩:=(hrv 0 p1 d1 (by rw[hf];rfl) rfl).all hR;obtain⟨v2,hv2,hd2⟩:=(hrv 1 p2 d2 (by rw[hf];rfl) rfl).all hR;obtain⟨v3,hv3,hd3⟩:=(hrv 2 p3 d3 (by rw[hf];rfl) rfl).all hR;obtain⟨v4,hv4,hd4⟩:=(hrv 3 p4 d4 (by rw[hf];rfl) rfl).all hR;refine⟨.tuple #[v1,v2,v3,v4],?_,λν G I=>aFy (vs:=[v1,v2,v3,v4]) rfl λi v d h1 h2=>?_⟩
   .rw[Dd,hres,hf]
    simp[hv1,hv2,hv3,hv4]
   .match i,h1,h2 with
    |0,h1,h2=>cases h1;cases h2;exact hd1 ν G I
    |1,h1,h2=>cases h1;cases h2;exact hd2 ν G I
    |2,h1,h2=>cases h1;cases h2;exact hd3 ν G I
    |3,h1,h2=>cases h1;cases h2;exact hd4 ν G I
    |i+4,h1,_=>simp at h1
 |[p1,p2,p3,p4,p5],[d1,d2,d3,d4,d5],_=>
   obtain⟨v1,hv1,hd1⟩:=(hrv 0 p1 d1 (by rw[hf];rfl) rfl).all hR;obtain⟨v2,hv2,hd2⟩:=(hrv 1 p2 d2 (by rw[hf];rfl) rfl).all hR;obtain⟨v3,hv3,hd3⟩:=(hrv 2 p3 d3 (by rw[hf];rfl) rfl).all hR;obtain⟨v4,hv4,hd4⟩:=(hrv 3 p4 d4 (by rw[hf];rfl) rfl).all hR;obtain⟨v5,hv5,hd5⟩:=(hrv 4 p5 d5 (by rw[hf];rfl) rfl).all hR;refine⟨.tuple #[v1,v2,v3,v4,v5],?_,λν G I=>aFy (vs:=[v1,v2,v3,v4,v5]) rfl λi v d h1 h2=>?_⟩
   .rw[Dd,hres,hf]
    simp[hv1,hv2,hv3,hv4,hv5]
   .match i,h1,h2 with
    |0,h1,h2=>cases h1;cases h2;exact hd1 ν G I
    |1,h1,h2=>cases h1;cases h2;exact hd2 ν G I
    |2,h1,h2=>cases h1;cases h2;exact hd3 ν G I
    |3,h1,h2=>cases h1;cases h2;exact hd4 ν G I
    |4,h1,h2=>cases h1;cases h2;exact hd5 ν G I
    |i+5,h1,_=>simp at h1
 |a::b::c::d::e::f::l,xs,hl=>simp at hl;omega
theorem W7{c:Cx}{fn:Func}{ow:Bool}{e:Exit}{σ:Sg}{r:aC}(h:p9 c fn ow e σ=some r):(e = .normal\/e = .ret)/\∀(E:Env)(tm:Array Value)(w:World),R E (cI σ) tm w->∃v,(results fn tm).run c.P w = .ok v w/\R { E with m:=1 } (res r.1.D (HA r.2)) #[v] w:=by
 unfold p9 at h;split at h
 case h_2=>cases h
 rename_i he;refine⟨(by cases e <;> first|exact .inl rfl|exact .inr rfl|cases he),λE tm w hR=>?_⟩;clear he;have hR1:R E (cI (Ni ow σ)) tm w:=by
  cases ow
  .exact aYj σ E tm w hR
  .exact hR
 obtain⟨σ1,hσ1⟩:∃σ1,Ni ow σ=σ1:=⟨_,rfl⟩
 rw[hσ1]at hR1;simp only[hσ1]at h;clear hR hσ1;obtain⟨xs,hxs,h⟩:=bL h;obtain⟨ys,hys⟩:∃ys,XA c fn ow σ1 xs=ys:=⟨_,rfl⟩
 simp only[hys]at h;have hw:eD (cI σ1).H (xs.map X.D) (ys.map X.D):=by
  rw[<-hys];cases ow
  .exact Oj c σ1.vw _ xs
  .exact eD.refl
 clear hys;split at h
 case h_2=>cases h
 rename_i hrn;have F:=VP hrn;obtain⟨zs,hzs,h⟩:=bL h;obtain⟨H',hH',h⟩:=bL h;obtain⟨m1,m2⟩:=aHQ hxs;have hlen:xs.length=ys.length:=by have:=hw.len;simpa using this
 have hf:∀k k',pU (jA 100 (reach σ1.vw.H 60 (kC ys (live σ1.H)) [])) k=some k'->decide (k'<108)=true/\k=bO (jA 100 (reach σ1.vw.H 60 (kC ys (live σ1.H)) [])) k':=λk k' hk=>by
  unfold pU at hk;split at hk
  .rename_i hH
   cases hk;refine⟨aU (by have:=(rS.1 hH).2;omega),?_⟩;unfold bO;cases hl:Ab.look k _ with
   |none=>rfl
   |some z=>
     have:=(F.iG _ _ (kT hl)).2.2.1;rw[hH]at this;cases this
  .obtain⟨_,b,_,d⟩:=F.iG _ _ (Dm hk)
   exact⟨aU b,d.symm⟩
 have hren:=wV (H:=(cI σ1).H) (nm':=λk=>decide (k<108)) hf ys zs hzs;have hzl:ys.length=zs.length:=by have:=hren.get.1;simpa[fD]using this
 -- objects
 have hHH:∀k o',Ab.look k (HA H')=some o'->k<108/\∃o,(cI σ1).H (bO (jA 100 (reach σ1.vw.H 60 (kC ys (live σ1.H)) [])) k)=some o/\gW false (cI σ1).H (λk=>decide (k<108)) (bO (jA 100 (reach σ1.vw.H 60 (kC ys (live σ1.H)) []))) o o':=λk o' hk=>by
  rw[uE]at hk;obtain⟨y,hy,rfl⟩:=cN.1 hk;obtain⟨q,o,e1,e2,e3⟩:=rJ _ _ hH' k y hy;obtain⟨a1,a2⟩:=F.al k q e1;refine⟨?_,o.A,by rw[a1];exact bG (aIf XO.A) e2,H5 hf e3⟩;rcases a2 with a2|⟨q',a2⟩
  .have:=(rS.1 a2).2;omega
  .exact(F.iG _ _ a2).2.1
 have hinj:∀k k' o o',Ab.look k (HA H')=some o->Ab.look k' (HA H')=some o'->bO (jA 100 (reach σ1.vw.H 60 (kC ys (live σ1.H)) [])) k=bO (jA 100 (reach σ1.vw.H 60 (kC ys (live σ1.H)) [])) k'->k=k':=λk k' o o' h1 h2 e=>by
  rw[uE]at h1 h2;obtain⟨y1,hy1,rfl⟩:=cN.1 h1;obtain⟨y2,hy2,rfl⟩:=cN.1 h2;obtain⟨q1,_,e1,_,_⟩:=rJ _ _ hH' k y1 hy1;obtain⟨q2,_,e2,_,_⟩:=rJ _ _ hH' k' y2 hy2;rw[(F.al k q1 e1).1,(F.al k' q2 e2).1]at e;subst e;exact OE F.nd (mF e1) (mF e2)
 have hid:∀k,50<=k->k<100->bO (jA 100 (reach σ1.vw.H 60 (kC ys (live σ1.H)) [])) k=k:=λk h1 h2=>by
  unfold bO;cases hl:Ab.look k _ with
  |none=>rfl
  |some z=>
    have:=(F.iG _ _ (kT hl)).2.2.1;rw[rS.2 ⟨h1,h2⟩]at this;cases this
 have hlen3:xs.length<=5:=by
  rw[hlen,hzl];split at h
  .simp
  .simp
  .simp
  .simp
  .simp
  .simp
  .cases h
 obtain⟨v,hv1,hv2⟩:=aZB (P:=c.P) (fn:=fn) hR1 (xs:=xs.map X.D) (by rw[dI];exact m1) (by rw[dI];exact hlen3) (λi rv d h1 h2=>by
  rw[dL]at h2;obtain⟨x,hx,rfl⟩:=cN.1 h2;obtain⟨rv',h3,h4⟩:=m2 i x hx;rw[h1]at h3;cases h3;exact aZC h4)
 refine⟨v,hv1,?_⟩;have hdw:cC (cI σ1).H (match xs.map X.D with|[d]=>d|xs=>.bD xs) (match ys.map X.D with|[d]=>d|xs=>.bD xs):=by
  match xs,ys,hlen,hw with
  |[],[],_,_=>exact cC.refl
  |[x],[y],_,hw=>cases hw with|cons h _=>exact h
  |x1::x2::xs,y1::y2::ys,_,hw=>exact cC.bD hw
 have hdl:dU false (cI σ1).H (λk=>decide (k<108)) (bO (jA 100 (reach σ1.vw.H 60 (kC ys (live σ1.H)) []))) (match ys.map X.D with|[d]=>d|xs=>.bD xs) r.1.D/\r.2=H':=by
  have hy3:ys.length<=5:=by omega
  match ys,zs,hzl,hren,h,hy3 with
  |[],[],_,hren,h,_=>cases h;exact⟨.D7 hren,rfl⟩
  |[y],[z],_,hren,h,_=>cases h;cases hren with|cons h _=>exact⟨h,rfl⟩
  |[y1,y2],[z1,z2],_,hren,h,_=>cases h;exact⟨.D7 hren,rfl⟩
  |[y1,y2,y3],[z1,z2,z3],_,hren,h,_=>cases h;exact⟨.D7 hren,rfl⟩
  |[y1,y2,y3,y4],[z1,z2,z3,z4],_,hren,h,_=>cases h;exact⟨.D7 hren,rfl⟩
  |[y1,y2,y3,y4,y5],[z1,z2,z3,z4,z5],_,hren,h,_=>cases h;exact⟨.D7 hren,rfl⟩
  |_::_::_::_::_::_::_,_,_,_,_,hy3=>simp at hy3
 rw[hdl.2];exact aG3 _ hR1 hv2 hdw hdl.1 hHH hinj hid
theorem aZE{f:Nat->Option Nat}{x y:X}(h:fJ f x=some y)(v:Value):y≠.dP v:=λe=>by
 subst e;cases x <;> unfold fJ at h <;> first|cases h|(split at h <;> cases h)
theorem aZF{f:Nat->Option Nat}{xs:List X}{z:X}(h:nM f xs=some [z]):∃x,fJ f x=some z:=by
 cases xs with
 |nil=>cases h
 |cons x l=>
   unfold nM at h;split at h
   .rename_i y hy
    split at h
    .cases h;exact⟨x,hy⟩
    .cases h
   .cases h
theorem aHq{c:Cx}{fn:Func}{ow:Bool}{e:Exit}{σ:Sg}{r:aC}(h:p9 c fn ow e σ=some r)(v:Value):r.1≠.dP v:=by
 unfold p9 at h;split at h
 case h_2=>cases h
 obtain⟨xs,hxs,h⟩:=bL h;obtain⟨ys,hys⟩:∃ys,XA c fn ow (Ni ow σ) xs=ys:=⟨_,rfl⟩
 simp only[hys]at h;split at h
 case h_2=>cases h
 obtain⟨zs,hzs,h⟩:=bL h;obtain⟨H',hH',h⟩:=bL h;split at h
 .cases h
  obtain⟨x,hx⟩:=aZF hzs;exact aZE hx v
 all_goals first|(cases h;exact λe=>by cases e)|cases h
theorem aHr{ch:List PanicEntry}{σ:Sg}{r:aC}(h:O5 ch σ=some r):∃v,r.1 = .dP v/\ch=[lD v]/\∀(E:Env)(tm:Array Value)(w:World),R E (cI σ) tm w->R { E with m:=1 } (res .any (HA r.2)) #[undef] w:=by
 unfold O5 at h;split at h
 case h_2=>cases h
 rename_i p;split at h
 .cases h
 rename_i hp
 dsimp only at h
 split at h
 case h_2=>cases h
 rename_i hrn;have F:=VP hrn;obtain⟨H',hH',h⟩:=bL h;cases h;refine⟨p.v,rfl,?_,λE tm w hR=>?_⟩
 .obtain⟨v,a,b⟩:=p
  rw[Bool.or_eq_false_iff]at hp;obtain⟨h1,h2⟩:=hp;simp only at h1 h2;subst h1 h2;rfl
 have hf:∀k k',pU (jA 100 (reach σ.vw.H 60 (nQ σ.H) [])) k=some k'->decide (k'<108)=true/\k=bO (jA 100 (reach σ.vw.H 60 (nQ σ.H) [])) k':=λk k' hk=>by
  unfold pU at hk;split at hk
  .rename_i hH
   cases hk;refine⟨aU (by have:=(rS.1 hH).2;omega),?_⟩;unfold bO;cases hl:Ab.look k _ with
   |none=>rfl
   |some z=>
     have:=(F.iG _ _ (kT hl)).2.2.1;rw[hH]at this;cases this
  .obtain⟨_,b,_,d⟩:=F.iG _ _ (Dm hk)
   exact⟨aU b,d.symm⟩
 have hHH:∀k o',Ab.look k (HA H')=some o'->k<108/\∃o,(cI σ).H (bO (jA 100 (reach σ.vw.H 60 (nQ σ.H) [])) k)=some o/\gW false (cI σ).H (λk=>decide (k<108)) (bO (jA 100 (reach σ.vw.H 60 (nQ σ.H) []))) o o':=λk o' hk=>by
  rw[uE]at hk;obtain⟨y,hy,rfl⟩:=cN.1 hk;obtain⟨q,o,e1,e2,e3⟩:=rJ _ _ hH' k y hy;obtain⟨a1,a2⟩:=F.al k q e1;refine⟨?_,o.A,by rw[a1];exact bG (aIf XO.A) e2,H5 hf e3⟩;rcases a2 with a2|⟨q',a2⟩
  .have:=(rS.1 a2).2;omega
  .exact(F.iG _ _ a2).2.1
 have hinj:∀k k' o o',Ab.look k (HA H')=some o->Ab.look k' (HA H')=some o'->bO (jA 100 (reach σ.vw.H 60 (nQ σ.H) [])) k=bO (jA 100 (reach σ.vw.H 60 (nQ σ.H) [])) k'->k=k':=λk k' o o' h1 h2 e=>by
  rw[uE]at h1 h2;obtain⟨y1,hy1,rfl⟩:=cN.1 h1;obtain⟨y2,hy2,rfl⟩:=cN.1 h2;obtain⟨q1,_,e1,_,_⟩:=rJ _ _ hH' k y1 hy1;obtain⟨q2,_,e2,_,_⟩:=rJ _ _ hH' k' y2 hy2;rw[(F.al k q1 e1).1,(F.al k' q2 e2).1]at e;subst e;exact OE F.nd (mF e1) (mF e2)
 have hid:∀k,50<=k->k<100->bO (jA 100 (reach σ.vw.H 60 (nQ σ.H) [])) k=k:=λk h1 h2=>by
  unfold bO;cases hl:Ab.look k _ with
  |none=>rfl
  |some z=>
    have:=(F.iG _ _ (kT hl)).2.2.1;rw[rS.2 ⟨h1,h2⟩]at this;cases this
 exact aG3 (d:=.any) (d1:=.any) _ hR (λ_ _ _=>.any) cC.refl .any hHH hinj hid
def iB(P:Program)(f:FuncId)(ds:List D)(H:List (Nat×aS))(r:aC):Prop:=match r.1 with
 |.dP v=>yH P f ds H v (HA r.2)
 |x=>cK P f ds H x.D (HA r.2)
theorem iB.of{P:Program}{f:FuncId}{ds:List D}{H:List (Nat×aS)}{r:aC}(h:∀v,r.1≠.dP v)(k:cK P f ds H r.1.D (HA r.2)):iB P f ds H r:=by
 obtain⟨x,H'⟩:=r;unfold iB;cases x with
 |dP v=>exact absurd rfl (h v)
 |_=>exact k
theorem xO{c:Cx}(hc:aD c){f:FuncId}{fn:Func}{code:Code}(hf:c.P.funcs[f]?=some fn)(hb:fn.body=some code){h:Hint}(hh:bJ c fn.ntmps h code){xs:List X}{H:XH}(hm:xs.length<=fn.ntmps){ow:Bool}{r:aC}
    (he:exec c fn.ntmps h code ⟨bW 0 xs,H,100⟩ (bX c fn ow)=some r):iB c.P f (xs.map X.D) (HA H) r:=by
 have key:∀E:Env,E.m=fn.ntmps->gY c.P E code _ (args (xs.map X.D) (HA H)):=λE hE=>aIK xs H ▸ Hr hc code h _ _ r he hh (cE _) E hE
 have fin:∀{e:Exit}{σ:Sg},bX c fn ow e σ=some r->(∃ch,e = .panic ch/\O5 ch σ=some r)\/p9 c fn ow e σ=some r:=λ{e σ} h=>by
  unfold bX at h;split at h
  .exact .inl ⟨_,rfl,h⟩
  .exact .inr h
 by_cases hp:∃v,r.1 = .dP v
 .obtain⟨v,hv⟩:=hp
  have:iB c.P f (xs.map X.D) (HA H) r=yH c.P f (xs.map X.D) (HA H) v (HA r.2):=by unfold iB;rw[hv]
  rw[this];refine aYe hf hb (by rw[dI];exact hm) λE hE=>rY (key E hE) ?_
  rintro e s ⟨σ',⟨_,h1⟩,hent⟩;rcases fin h1 with⟨ch,rfl,h1⟩|h1
  .obtain⟨v',e1,e2,e3⟩:=aHr h1
   rw[hv]at e1;cases e1;exact⟨e2,λtm w hR=>e3 E tm w (hent tm w hR)⟩
  .exact absurd hv (aHq h1 v)
 .refine iB.of (λv hv=>hp ⟨v,hv⟩) (aYf hf hb (by rw[dI];exact hm) λE hE=>rY (key E hE) ?_)
  rintro e s ⟨σ',⟨_,h1⟩,hent⟩;rcases fin h1 with⟨ch,rfl,h1⟩|h1
  .obtain⟨v',e1,_⟩:=aHr h1
   exact absurd ⟨v',e1⟩ hp
  .obtain⟨h2,h3⟩:=W7 h1
   rcases h2 with rfl|rfl
   .exact λtm w hR=>h3 E tm w (hent tm w hR)
   .exact λtm w hR=>h3 E tm w (hent tm w hR)
def aK(P:Program)(f:FuncId)(g:bK):Prop:=∀xs H pre r,g xs H=some (pre,r)->pre=true->cK P f (xs.map X.D) (HA H) r.1.D (HA r.2)
def j0(P:Program)(f:FuncId)(g:kI):Prop:=∀xs H pre b r rp,g xs H=some (pre,b,r,rp)->pre=true->(b=some true->cK P f (xs.map X.D) (HA H) r.1.D (HA r.2))/\(b≠some true->∀v,rp.1 = .dP v->yH P f (xs.map X.D) (HA H) v (HA rp.2))
def Dq (P : Program) (f : FuncId) : Bool := match P.funcs[f]? with | some fn => !(decide (fn.name = "runtime.NumGoroutine")) | none => true
def pC(P:Program)(G:List (Nat×bK)):Prop:=∀f g,lk f G=some g->Dq P f=true/\aK P f g
theorem pC.nil{P:Program}:pC P []:=λf g h=>by cases h
theorem pC.cons{P:Program}{f:Nat}{g:bK}{G:List (Nat×bK)}(hn:Dq P f=true)(h:aK P f g)(k:pC P G):pC P ((f,g)::G):=λf' g' h'=>by
 unfold lk at h';split at h'
 .rename_i he
  have:=bY he;subst this;cases h';exact⟨hn,h⟩
 .exact k f' g' h'
end Go.Ax
/- Operations: what a look-up is, numbers, truth values, strings. -/
namespace Go.Ax
open aA
open Go.RowKit Go.Ab
abbrev BK(g:Option Bool):Prop:=∀c,g=some c->c=true
theorem nT{g:Option Bool}{b:Bool}{k:O}{r:aC}(h:kW g b k=some r):k=some r/\(BK g->b=true):=by
 unfold kW at h;split at h
 .exact⟨(jD h).2,λ_=>(jD h).1⟩
 .rename_i c
  refine⟨(jD h).2,λhg=>?_⟩;have:=(jD h).1;rw[hg c rfl]at this;simpa using this
theorem Dy{g:Option Bool}{τ:Ty}{l:List τ.V}{n:Int}{k:τ.V->O}{r:aC}(h:xN g τ l n k=some r):∃y,k y=some r/\(BK g->0<=n/\l[n.toNat]?=some y):=by
 unfold xN at h;split at h
 .obtain⟨y,h1,h2,h3⟩:=WS h
  exact⟨y,h3,λ_=>⟨h1,h2⟩⟩
 .rename_i c
  change WZ c τ.zero l n k=some r at h;unfold WZ at h;cases c with
  |true=>
    obtain⟨y,h1,h2,h3⟩:=WS h;exact⟨y,h3,λ_=>⟨h1,h2⟩⟩
  |false=>exact⟨_,h,λhg=>by have:=hg false rfl;cases this⟩
theorem Vw.On.g{σ:Vw}(h:σ.On):BK (σ.g.map (·.2)):=λc hc=>by
 obtain⟨p,hp,rfl⟩:=cN.1 hc;exact h p.1 p.2 hp
theorem Ue{g:Option (Nat×Bool)}{x v:X}(h:tY g x=some v):v.pl=true:=by
 unfold tY at h;split at h
 .cases h;rfl
 .split at h
  .split at h
   .split at h
    .cases h;rfl
    .cases h
    .rename_i h1 h2
     cases h;cases v with
     |bit j q=>exact absurd rfl (h1 j q)
     |eO a b c=>exact absurd rfl (h2 a b c)
     |_=>rfl
   .cases h
  .cases h
 .rename_i h1 h2
  cases h;cases x with
  |bit j q=>exact absurd rfl (h1 j q)
  |eO a b c=>exact absurd rfl (h2 a b c)
  |_=>rfl
theorem Uf{κ:Nat->Bool}{g:Option (Nat×Bool)}{x v:X}(hg:Good κ x)(hκ:∀key c,g=some (key,c)->c=κ key)(hon:∀key c,g=some (key,c)->c=true)(h:tY g x=some v):x.D=v.D:=by
 unfold tY at h;split at h
 .cases h;rfl
 .rename_i key c y
  split at h
  .rename_i key' c'
   split at h
   .rename_i hb
    have hb:=bY hb;subst hb;have hc:c=true:=hg.1.trans ((hκ _ _ rfl).symm.trans (hon _ _ rfl));subst hc;split at h
    .cases h;rfl
    .cases h
    .cases h;rfl
   .cases h
  .cases h
 .cases h;rfl
theorem a0h(w:Value):(nN w).pl=true:=by
 unfold nN;split
 .split <;> rfl
 all_goals rfl
theorem a0g{w:Value}{x:X}(h:rN w=some x):x.pl=true:=by
 unfold rN at h;split at h
 .split at h
  .cases h;rfl
  .cases h
 .cases h
 .cases h;exact a0h w
theorem a1q(g:Nat):(Hl g).pl=true:=match g with
 |0=>rfl
 |1=>rfl
 |2=>rfl
 |3=>rfl
 |_g+4=>rfl
theorem xP{σ:Vw}{x:Operand}{v:X}(h:σ.ev x=some v):v.pl=true:=by
 cases x with
 |tmp t=>
   simp only[Vw.ev]at h;split at h
   .exact Ue h
   .cases h
 |const w=>exact a0g h
 |func f=>simp only[Vw.ev]at h;cases h;rfl
 |global g=>simp only[Vw.ev]at h;cases h;exact a1q g
theorem bU{σ:Vw}{κ:Nat->Bool}(hσ:σ.Ok κ)(hon:σ.On){x:Operand}{v:X}(h:σ.ev x=some v):σ.den.ev x=some v.D:=by
 cases x with
 |tmp t=>
   simp only[Vw.ev]at h;split at h
   .rename_i y hy
    have e:σ.den.ev (.tmp t)=some y.D:=qB hy;rw[e,Uf (hσ.p6 t y hy) hσ.g hon h]
   .cases h
 |const w=>
   have:=V9 (σ:=⟨[],[],0⟩) h;exact this
 |func f=>simp only[Vw.ev]at h;cases h;rfl
 |global g=>simp only[Vw.ev]at h;cases h;exact bG some (aHa g).symm
section
variable{P:Program}{o:Oper}{σ:St}{fr:Nat}
abbrev T8(c:UInt8):D:=.t (.v (.int .u8 (UInt8.toNat c:Int)))
abbrev TS(s:List UInt8):D:=.t (.v (.string ⟨⟨s⟩⟩))
theorem IT(n:Int):IntKind.u8.wrap n=n%256:=by
 have:IntKind.u8.wrap n=n%((2:Int)^8):=by unfold IntKind.wrap;simp[IntKind.signed,IntKind.bits]
 rw[this];rfl
theorem aYW(n:Int):((dV n).toNat:Int)=IntKind.u8.wrap n:=by
 rw[IT];unfold dV;rw[a4H];omega
theorem a4F(a b:UInt8):IntKind.u8.wrap ((a.toNat:Int)+b.toNat)=((a+b).toNat:Int):=by
 rw[IT,UInt8.toNat_add];omega
theorem aY5(a b:UInt8):IntKind.u8.wrap ((a.toNat:Int)-b.toNat)=((a-b).toNat:Int):=by
 have h1:=a.toNat_lt;have h2:=b.toNat_lt;rw[IT,UInt8.toNat_sub];omega
theorem lt8(a b:UInt8):decide ((a.toNat:Int)<b.toNat)=decide (a<b):=by
 congr 1
 rw[UInt8.lt_iff_toNat_lt];simp
theorem le8(a b:UInt8):decide ((a.toNat:Int)<=b.toNat)=decide (a<=b):=by
 congr 1
 rw[UInt8.le_iff_toNat_le];simp
theorem eq8(a b:UInt8):decide ((a.toNat:Int)=b.toNat)=decide (a=b):=by
 congr 1
 rw[<-a4I];simp only[eq_iff_iff];omega
theorem ne8(a b:UInt8):decide ((a.toNat:Int)≠b.toNat)=decide (a≠b):=by
 congr 1
 rw[ne_eq,ne_eq,<-a4I];simp only[eq_iff_iff];omega
theorem a1i{g:Option Bool}{op:BinOp}{ik:IntKind}{m n:Int}{k:X->O}{r:aC}(h:WM g op ik m n k=some r):∃x,k x=some r/\x.pl=true/\(BK g->∀{xt yt:TypeId}{x' y':Operand},o.op = .binOp op xt x' y' yt->σ.ev x'=some (.t (.v (.int ik m)))->σ.ev y'=some (.t (.v (.int ik n)))->bI P o σ fr x.D []):=by
 unfold WM at h;split at h
 .exact⟨_,h,rfl,λ_ _ _ _ _ ho hx hy=>aHA ho hx hy⟩
 .exact⟨_,h,rfl,λ_ _ _ _ _ ho hx hy=>aGo ho hx hy⟩
 .exact⟨_,h,rfl,λ_ _ _ _ _ ho hx hy=>aZv ho hx hy⟩
 .obtain⟨h1,h2⟩:=nT h
  exact⟨_,h1,rfl,λhg _ _ _ _ ho hx hy=>aZo ho hx hy (cR (h2 hg))⟩
 .obtain⟨h1,h2⟩:=nT h
  exact⟨_,h1,rfl,λhg _ _ _ _ ho hx hy=>aZm ho hx hy (cR (h2 hg))⟩
 .exact⟨_,h,rfl,λ_ _ _ _ _ ho hx hy=>aGq ho hx hy⟩
 .exact⟨_,h,rfl,λ_ _ _ _ _ ho hx hy=>aGr ho hx hy⟩
 .exact⟨_,h,rfl,λ_ _ _ _ _ ho hx hy=>aGu ho hx hy⟩
 .exact⟨_,h,rfl,λ_ _ _ _ _ ho hx hy=>aGv ho hx hy⟩
 .exact⟨_,h,rfl,λ_ _ _ _ _ ho hx hy=>aGx ho hx hy⟩
 .exact⟨_,h,rfl,λ_ _ _ _ _ ho hx hy=>aGp ho hx hy⟩
 .cases h
theorem aYh{g:Option Bool}{op:BinOp}{ik ik':IntKind}{m n:Int}{k:X->O}{r:aC}(h:VG g op ik m n k=some r):∃x,k x=some r/\x.pl=true/\(BK g->∀{xt yt:TypeId}{x' y':Operand},o.op = .binOp op xt x' y' yt->σ.ev x'=some (.t (.v (.int ik m)))->σ.ev y'=some (.t (.v (.int ik' n)))->bI P o σ fr x.D []):=by
 unfold VG at h;split at h
 .obtain⟨h1,h2⟩:=nT h
  refine⟨_,h1,rfl,λhg _ _ _ _ ho hx hy=>jM ho hx hy (λw=>?_) rfl⟩;have:=cR (h2 hg);simp[eqGuard,binOp,Op.shift,Int.not_lt.2 this]
 .obtain⟨h1,h2⟩:=nT h
  refine⟨_,h1,rfl,λhg _ _ _ _ ho hx hy=>jM ho hx hy (λw=>?_) rfl⟩;have:=cR (h2 hg);simp[eqGuard,binOp,Op.shift,Int.not_lt.2 this]
 .cases h
theorem aYX{op:BinOp}{m n:UInt8}{k:X->O}{r:aC}(h:Uh op m n k=some r):∃x,k x=some r/\x.pl=true/\(∀{xt yt:TypeId}{x' y':Operand},o.op = .binOp op xt x' y' yt->σ.ev x'=some (T8 m)->σ.ev y'=some (T8 n)->bI P o σ fr x.D []):=by
 unfold Uh at h;split at h
 .refine⟨_,h,rfl,λho hx hy=>?_⟩
  have:=aHA (P:=P) (fr:=fr) ho hx hy
  rwa [a4F]at this
 .refine⟨_,h,rfl,λho hx hy=>?_⟩
  have:=aGo (P:=P) (fr:=fr) ho hx hy
  rwa [aY5]at this
 .refine⟨_,h,rfl,λho hx hy=>?_⟩
  have:=aGq (P:=P) (fr:=fr) ho hx hy
  rwa [lt8]at this
 .refine⟨_,h,rfl,λho hx hy=>?_⟩
  have:=aGr (P:=P) (fr:=fr) ho hx hy
  rwa [le8]at this
 .refine⟨_,h,rfl,λho hx hy=>?_⟩
  have:=aGu (P:=P) (fr:=fr) ho hx hy
  rwa [lt8]at this
 .refine⟨_,h,rfl,λho hx hy=>?_⟩
  have:=aGv (P:=P) (fr:=fr) ho hx hy
  rwa [le8]at this
 .refine⟨_,h,rfl,λho hx hy=>?_⟩
  have:=aGx (P:=P) (fr:=fr) ho hx hy
  rwa [eq8]at this
 .refine⟨_,h,rfl,λho hx hy=>?_⟩
  have:=aGp (P:=P) (fr:=fr) ho hx hy
  rwa [ne8]at this
 .cases h
theorem a0v(m n:List UInt8):ByteArray.mk ⟨m⟩++ByteArray.mk ⟨n⟩=ByteArray.mk ⟨m++n⟩:=by
 apply ByteArray.ext;rw[ByteArray.data_append];simp
theorem aY7{g:Option Bool}{op:BinOp}{m n:List UInt8}{k:X->O}{r:aC}(h:Uk g op m n k=some r):∃x,k x=some r/\x.pl=true/\(BK g->∀{xt yt:TypeId}{x' y':Operand},o.op = .binOp op xt x' y' yt->σ.ev x'=some (TS m)->σ.ev y'=some (TS n)->bI P o σ fr x.D []):=by
 have tl:∀l:List UInt8,(ByteArray.mk ⟨l⟩).toList=l:=λl=>ByteArray.toList_mk l
 have be:∀m n:List UInt8,(m == n)=decide (m=n):=λm n=>by rw[Bool.eq_iff_iff];simp
 unfold Uk at h;split at h
 .obtain⟨h1,h2⟩:=nT h
  refine⟨_,h1,rfl,λhg _ _ _ _ ho hx hy=>jM ho hx hy (λw=>?_) rfl⟩;have hb:=cR (h2 hg);have hsz:¬ (((ByteArray.mk ⟨m⟩).size+(ByteArray.mk ⟨n⟩).size:Nat):Int)>IntKind.i64.max:=by
   show ¬ ((m.length+n.length:Nat):Int)>9223372036854775807;omega
  simp only[eqGuard,binOp,Op.stringOp,aF hsz,a0v];simp
 .refine⟨_,h,rfl,λhg _ _ _ _ ho hx hy=>jM ho hx hy (λw=>?_) rfl⟩
  simp[eqGuard,binOp,Op.stringOp,tl,be]
 .refine⟨_,h,rfl,λhg _ _ _ _ ho hx hy=>jM ho hx hy (λw=>?_) rfl⟩
  simp[eqGuard,binOp,Op.stringOp,tl,be]
 .cases h
theorem a3e{g:Option Bool}{op:BinOp}{xt:TypeId}{x y:X}{k:X->O}{r:aC}(h:XF P g op xt x y k=some r):∃z,k z=some r/\z.pl=true/\(BK g->∀{yt:TypeId}{x' y':Operand},o.op = .binOp op xt x' y' yt->σ.ev x'=some x.D->σ.ev y'=some y.D->bI P o σ fr z.D []):=by
 unfold XF at h;split at h
 .split at h
  .obtain⟨z,h1,h2,h3⟩:=aYh (P:=P) (o:=o) (σ:=σ) (fr:=fr) h
   exact⟨z,h1,h2,λhg _ _ _ ho hx hy=>h3 hg ho hx hy⟩
  .split at h
   .rename_i he
    have he:=cR he;subst he;obtain⟨z,h1,h2,h3⟩:=a1i (P:=P) (o:=o) (σ:=σ) (fr:=fr) h;exact⟨z,h1,h2,λhg _ _ _ ho hx hy=>h3 hg ho hx hy⟩
   .cases h
 .obtain⟨z,h1,h2,h3⟩:=aYX (P:=P) (o:=o) (σ:=σ) (fr:=fr) h
  exact⟨z,h1,h2,λhg _ _ _ ho hx hy=>h3 ho hx hy⟩
 .obtain⟨z,h1,h2,h3⟩:=aY7 (P:=P) (o:=o) (σ:=σ) (fr:=fr) h
  exact⟨z,h1,h2,λhg _ _ _ ho hx hy=>h3 hg ho hx hy⟩
 .split at h
  .rename_i hu
   unfold aI1 at h;split at h
   .exact⟨_,h,rfl,λhg _ _ _ ho hx hy=>a00 hu ho hx hy⟩
   .exact⟨_,h,rfl,λhg _ _ _ ho hx hy=>aZu hu ho hx hy⟩
   .cases h
  .cases h
 .cases h
theorem aZt{t:TypeId}{x:Operand}{ik:IntKind}{m:Int}(ho:o.op = .unOp .neg t x)(hx:σ.ev x=some (.t (.v (.int ik m)))):bI P o σ fr (.t (.v (.int ik (ik.wrap (-m))))) []:=
 dN λ_ _ _ _ w a _ _ hev=>by
  have h1':=cG (hev x _ hx);refine⟨.int ik (ik.wrap (-m)),?_,.t (.v _ rfl)⟩;unfold execOp;rw[ho];simp only[h1'];simp[Op.unary,Op.intArith]
theorem OB{x:Operand}{d:D}(ho:o.op = .nilCheck x)(hx:σ.ev x=some d)(hd:(∃k off,d = .ref k off)\/(∃ts off,d = .ptr ts off)\/∃f ds,d = .fn f ds):bI P o σ fr d []:=
 dN λ_ _ _ _ w a _ _ hev=>by
  have h:=hev x _ hx;refine⟨a.eval x,?_,h⟩;unfold execOp;rw[ho];obtain⟨v,hv⟩:∃v,a.eval x=v:=⟨_,rfl⟩
  rw[hv]at h;simp only[hv];rcases hd with⟨k,off,rfl⟩|⟨ts,off,rfl⟩|⟨f,ds,rfl⟩
  .cases h with|ref _ _=>rfl
  .cases h with|ptr _ _ _=>rfl
  .cases h with|fn _ _=>rfl
theorem a0A{x y:Operand}{m n:Int}{tys:Array TypeId}(ho:o.op = .call { callee:=.builtin .max,args:=#[x,y],argTypes:=tys })(hx:σ.ev x=some (I m))(hy:σ.ev y=some (I n)):bI P o σ fr (I (max m n)) []:=
 dN λ_ _ _ _ w a _ _ hev=>by
  have h1:=cG (hev x _ hx);have h2:=cG (hev y _ hy);refine⟨.int .i64 (max m n),?_,.t (.v _ rfl)⟩;unfold execOp;rw[ho];simp[resolve,invoke,builtin,h1,h2,Lib.run_max_ints]
theorem aYo{P:Program}(w:World)(ts:Array TypeId)(t:TypeId)(x y z:Int):(Builtin.max_ ts t #[.int .i64 x,.int .i64 y,.int .i64 z]).run P w = .ok (.int .i64 (max (max x y) z)) w:=by
 have e:∀x y:Int,(if y>x then y else x)=max x y:=λx y=>by
  rw[Int.max_def];split <;> split <;> omega
 simp[Builtin.max_,Builtin.max2,e]
theorem a0B{x y z:Operand}{m n p:Int}{tys:Array TypeId}(ho:o.op = .call { callee:=.builtin .max,args:=#[x,y,z],argTypes:=tys })(hx:σ.ev x=some (I m))(hy:σ.ev y=some (I n))(hz:σ.ev z=some (I p)):bI P o σ fr (I (max (max m n) p)) []:=
 dN λ_ _ _ _ w a _ _ hev=>by
  have h1:=cG (hev x _ hx);have h2:=cG (hev y _ hy);have h3:=cG (hev z _ hz);refine⟨.int .i64 (max (max m n) p),?_,.t (.v _ rfl)⟩;unfold execOp;rw[ho];simp[resolve,invoke,builtin,h1,h2,h3,aYo]
theorem aZz{x y:Operand}{m n:Int}{tys:Array TypeId}(ho:o.op = .call { callee:=.builtin .min,args:=#[x,y],argTypes:=tys })(hx:σ.ev x=some (I m))(hy:σ.ev y=some (I n)):bI P o σ fr (I (min m n)) []:=
 dN λ_ _ _ _ w a _ _ hev=>by
  have h1:=cG (hev x _ hx);have h2:=cG (hev y _ hy);refine⟨.int .i64 (min m n),?_,.t (.v _ rfl)⟩;unfold execOp;rw[ho];simp[resolve,invoke,builtin,h1,h2,Lib.run_min_ints]
theorem a0J{t:TypeId}{x:Operand}{s:List UInt8}{tys:Array TypeId}(hu:P.underlying t=some .string)(ho:o.op = .call { callee:=.builtin .len,args:=#[x],argTypes:=tys })(ht:tys = #[t])(hx:σ.ev x=some (TS s)):bI P o σ fr (I s.length) []:=
 dN λ_ _ _ _ w a _ _ hev=>by
  have h1:=cG (hev x _ hx);refine⟨.int .i64 s.length,?_,.t (.v _ rfl)⟩;unfold execOp;rw[ho,ht];simp[resolve,invoke,builtin,h1,run_len_string _ t _ _ hu,goInt];rfl
theorem a0Q{t:TypeId}{x y:Operand}{s:List UInt8}{ik:IntKind}{n:Int}{c:UInt8}(hu:P.underlying t=some .string)(ho:o.op = .index t x y)(hx:σ.ev x=some (TS s))(hy:σ.ev y=some (.t (.v (.int ik n))))(h0:0<=n)(hc:s[n.toNat]?=some c):bI P o σ fr (T8 c) []:=
 dN λ_ _ _ _ w a _ _ hev=>by
  have h1:=cG (hev x _ hx);have h2:=cG (hev y _ hy);refine⟨.int .u8 (c.toNat:Int),?_,.t (.v _ rfl)⟩;obtain⟨hlt,hcc⟩:=cX.1 hc;have hsz:(ByteArray.mk ⟨s⟩).size=s.length:=rfl;have hi:0<=n/\n<((ByteArray.mk ⟨s⟩).size:Nat):=⟨h0,by rw[hsz];omega⟩;have:=run_index_string w t (ByteArray.mk ⟨s⟩) ik n hu;rw[dif_pos hi]at this;unfold execOp;rw[ho];simp only[h1,h2,Sem.run_bind,this,Result.andThen_ok,Sem.run_pure];have hval:((ByteArray.mk ⟨s⟩)[n.toNat]'(by omega))=c:=hcc;rw[hval]
theorem a0C{f:FuncId}{caps:Array Operand}{ds:List D}(ho:o.op = .makeFunc (.func f) #[] caps)(hl:caps.size=ds.length)(hc:∀(i:Nat)(x:Operand)(d:D),caps[i]?=some x->ds[i]?=some d->σ.ev x=some d):bI P o σ fr (.fn f ds) []:=
 dN λ_ _ _ _ w a _ _ hev=>by
  refine⟨.func (.func f) #[] (caps.map a.eval),?_,.fn (by simp[hl]) (λi u d hu hd=>?_)⟩
  .unfold execOp
   rw[ho];simp[Instr.makeFunc]
  .simp only[Array.getElem?_map]at hu
   obtain⟨x,hx,rfl⟩:=cN.1 hu;exact hev x d (hc i x d hx hd)
end
end Go.Ax
