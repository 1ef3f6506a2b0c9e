/- The abstract machine, run: code, loops, functions, contracts. Conditions are in the theorems. -/
import Derived.Test.YtlhdefefoaldfaaGreatDoorE4
import Derived.Lib.MinMax
import Derived.Laws.Strings
import Derived.Laws.Slices
open Bool renaming and_eq_true->bM,not_eq_true'->aAw
open List renaming all_eq_true->eI,flatMap->iY,flatMap_cons->jX,getElem?_eq_some_iff->dC,getElem?_map->dT,getElem?_set_ne->aMq,getElem?_set_self->aMp,length_cons->dD,length_map->dR,length_set->aAq,map_cons->iB,mem_cons->eP,mem_cons_of_mem->eY,mem_iff_getElem?->jN,mem_map->fG,nodup_cons->bAM
open Nat renaming add_mul->jW,ble_eq_true_of_le->aAl,eq_of_beq_eq_true->cA,le_of_ble_eq_true->fN,le_refl->bZ
open Option renaming map->aMd,map_eq_some_iff->cV,map_some->lG
open Option.some renaming inj->fV,injEq->kP
open UInt8 renaming ofNat->fF,toNat_inj->a9r,toNat_ofNat'->a9q
/- States told otherwise. -/
namespace Go.Ax
open aA
open Go.RowKit Go.Ab
def cM(σ:Sg):St:=mk (λt=>(lk t σ.T).map X.D) (λk=>(lk k σ.H).map XO.A) σ.N
theorem eF.trans'{E:Env}{a b c:St}(h:eF E a b)(k:eF E b c):eF E a c:=λtm w hR=>k tm w (h tm w hR)
theorem eF.sH{E:Env}{a:St}:eF E a a:=λ_ _ h=>h
theorem mk_eq{T T':Nat->Option D}{H H':Nat->Option aZ}{N N':Nat}(hT:∀t,T t=T' t)(hH:∀k,H k=H' k)(hN:N=N'):mk T H N=mk T' H' N':=by
 rw[funext hT,funext hH,hN]
theorem Je{E:Env}{T T':Nat->Option D}{H H':Nat->Option aZ}{N:Nat}(hT:∀t d,T' t=some d->T t=some d)(hH:∀k o,H' k=some o->H k=some o):eF E (mk T H N) (mk T' H' N):=λ_ _ ⟨ν,G,I⟩=>
 ⟨ν,G,I.kept,I.eR,I.gE,I.g0,I.sz,λt d h=>I.T t d (hT t d h),λk o h=>I.H k o (hH k o h),λk o k' o' h h'=>I.eB k o k' o' (hH k o h) (hH k' o' h')⟩
theorem a8b{E:Env}{T T':Nat->Option D}{H:Nat->Option aZ}{N:Nat}(hT:∀t d',T' t=some d'->∃d,T t=some d/\cG H d d'):eF E (mk T H N) (mk T' H N):=λtm w ⟨ν,G,I⟩=>
 ⟨ν,G,I.kept,I.eR,I.gE,I.g0,I.sz,λt d' h=>by
  obtain⟨d,h1,h2⟩:=hT t d' h;obtain⟨v,hv,hd⟩:=I.T t d h1;exact⟨v,hv,h2 E _ ν G w tm (λk o h=>h) I v hd⟩,I.H,I.eB⟩
theorem aLj{α β:Type}{f:α->List β}{m:Nat}(hf:∀x,(f x).length=m):∀l:List α,(l.flatMap f).length=l.length*m
 |[]=>by simp
 |a::l=>by rw[jX,List.length_append,hf,aLj hf l,dD,jW,Nat.one_mul,Nat.add_comm]
theorem aLk{α β:Type}{f:α->List β}{m:Nat}(hf:∀x,(f x).length=m):∀(l:List α)(i j:Nat)(x:α),l[i]?=some x->j<m->(l.flatMap f)[i*m+j]?=(f x)[j]?
 |[],i,j,x,h,_=>by simp at h
 |a::l,0,j,x,h,hj=>by
   simp at h;subst h;rw[jX,Nat.zero_mul,Nat.zero_add,List.getElem?_append_left (by rw[hf];exact hj)]
 |a::l,i+1,j,x,h,hj=>by
   have h':l[i]?=some x:=by simpa using h
   rw[jX,List.getElem?_append_right (by rw[hf,jW];omega),hf,<-aLk hf l i j x h' hj]
   congr 1
   rw[jW];omega
theorem aMS{κ ρ:Ty}(x:List κ.V×ρ.V):(mV x).length=1+ρ.size:=by
 unfold mV;rw[dD,dR,eA,Nat.add_comm]
theorem a9J{κ ρ:Ty}(l:List (List κ.V×ρ.V))(c:NC)(h:c∈iY mV l):(∃n ts,c = .fQ n ts)\/∃t,c = .q9 (.t t):=by
 obtain⟨x,_,hx⟩:=List.mem_flatMap.1 h;unfold mV at hx;rcases eP.1 hx with rfl|hx
 .exact .inl ⟨_,_,rfl⟩
 .obtain⟨t,_,rfl⟩:=fG.1 hx
  exact .inr ⟨t,rfl⟩
theorem a9I{κ ρ:Ty}{l:List (List κ.V×ρ.V)}{i j:Nat}(h:i<l.length)(hj:j<1+ρ.size):i*(1+ρ.size)+j<(iY mV l).length:=by
 rw[aLj (f:=mV) aMS];have:(i+1)*(1+ρ.size)<=l.length*(1+ρ.size):=Nat.mul_le_mul_right _ h;rw[jW,Nat.one_mul]at this;omega
theorem aLQ{m:Nat}{cs:List NC}{ln:Option (Int×Nat)}:(vF m cs ln).length=cs.length:=by
 unfold vF;split
 .rfl
 .rw[aAq]
theorem aMB{o:XO}(h:RU o=true):rM o.A:=by
 unfold RU at h;split at h
 .exact .row
 .exact .nest
 .exact .dZ
 .cases h
theorem JR{α β:Type}(f:α->β):∀(l:List α)(i:Nat)(x:α),(hM x i l).map f=(l.map f).set i (f x)
 |[],i,x=>by rw[Yl];rfl
 |y::l,0,x=>rfl
 |y::l,i+1,x=>by simp only[hM,iB,List.set_cons_succ];rw[JR f l i x]
theorem aLe{β:Type}{f:β->List Tree}{g:β->Tree}(h:∀r,f r=[g r]):∀l:List β,l.flatMap f=l.map g
 |[]=>rfl
 |a::l=>by rw[jX,h,aLe h l];rfl
def tB(σ:Sg)(k:Sg->O)(r:aE):Prop:=∃σ',k σ'=some r/\(100<=σ.N->100<=σ'.N)/\(100<=σ.N->∀E,eF E (cM σ) (cM σ'))
theorem tB.same{σ:Sg}{k:Sg->O}{r:aE}(h:k σ=some r):tB σ k r:=⟨σ,h,id,λ_ _=>eF.sH⟩
theorem aKH{q:Nat}{o o':XO}(h:Q1 o=some o'){E:Env}{T:Nat->Option D}{H:Nat->Option aZ}{N:Nat}(hq:H q=some o.A):eF E (mk T H N) (mk T (λj=>if q=j then some o'.A else H j) N):=by
 unfold Q1 at h;split at h
 .cases h;exact a82 q hq
 .cases h
theorem aKI{q:Nat}{σ:Sg}{k:Sg->O}{r:aE}(h:Q3 q σ k=some r):tB σ k r:=by
 unfold Q3 at h;split at h
 .rename_i o ho
  split at h
  .rename_i o' ho'
   obtain⟨H1,h,hH1⟩:=l9 h;refine⟨_,h,id,λ_ E=>?_⟩;have:=aKH (q:=q) ho' (E:=E) (T:=λt=>(lk t σ.T).map X.D) (H:=λk=>(lk k σ.H).map XO.A) (N:=σ.N) (by rw[ho];rfl);unfold cM;rw[show mk (λt=>(lk t σ.T).map X.D) (λk=>(lk k H1).map XO.A) σ.N=_ from mk_eq (λt'=>rfl) (λk'=>?_) rfl]
   .exact this
   .rw[hH1];split <;> rfl
  .exact .same h
 .exact .same h
theorem a63{q i:Nat}{o:XO}(ho:rM o.A){σ:Sg}{k:Sg->O}{r:aE}(h:ZI q i o σ k=some r):tB σ k r:=by
 unfold ZI at h;split at h
 .rename_i e' xs hq
  split at h
  .rename_i hx
   obtain⟨H1,h,hH1⟩:=l9 h;obtain⟨H2,h,hH2⟩:=l9 h;refine⟨_,h,λh=>(by show 100<=σ.N+8;omega),λhN E=>?_⟩;have:=a86 (E:=E) (T:=λt=>(lk t σ.T).map X.D) (H:=λk=>(lk k σ.H).map XO.A) q i ho (e':=e') (ds:=xs.map X.D) (by rw[hq];rfl) (by rw[dT,hx];rfl) hN;unfold cM;rw[show mk (λt=>(lk t σ.T).map X.D) (λk=>(lk k H2).map XO.A) (σ.N+8)=_ from mk_eq (λt'=>rfl) (λk'=>?_) rfl]
   .exact this
   .rw[hH2,hH1]
    split
    .rfl
    .split
     .simp only[lG,XO.A,JR];rfl
     .rfl
  .exact .same h
 .exact .same h
theorem a7T{τ:Ty}{xs:List X}{y:τ.V}(h:yS τ xs=some y):xs.length=(bH τ y).length:=by
 have:=(sO (H:=λ_=>none) h).len;simpa using this
theorem a8a{E:Env}{T:Nat->Option D}{H:Nat->Option aZ}{N:Nat}(k i:Nat){e:TypeId}{ds:List D}{d d':D}(hk:H k=some (.box e ds))(hi:ds[i]?=some d)(hw:cG H d d'):eF E (mk T H N) (mk T (λj=>if k=j then some (.box e (ds.set i d'))else H j) N):=by
 refine FY λa w ⟨ν,G,I⟩=>⟨ν,G,I.kept,I.eR,I.gE,I.g0,I.sz,I.T,λj oj hj=>?_,λj1 o1 j2 o2 e1 e2 hne=>?_⟩
 .by_cases hjk:k=j
  .subst hjk
   simp only[gZ,kP]at hj;subst hj;obtain⟨hn,g,cur,z1,z2,z3,z4,z5,z6⟩:=I.H k _ hk;refine⟨hn,g,cur,z1,z2,z3,z4,by rw[aAq];exact z5,λm u dm hu hd=>?_⟩;by_cases hm:i=m
   .subst hm
    have hlt:i<ds.length:=(dC.1 hi).1;rw[aMp hlt]at hd;cases hd;obtain⟨y1,y2⟩:=z6 i u _ hu hi;exact⟨hw E _ ν G w a.tmps (λ_ _ h=>h) I u y1,y2⟩
   .rw[aMq hm]at hd
    exact z6 m u dm hu hd
  .simp only[aD hjk]at hj
   exact I.H j oj hj
 .have back:∀j o,(if k=j then some (.box e (ds.set i d'))else H j)=some o->∃o',H j=some o'/\∀g,cZ w (ν j) o g->cZ w (ν j) o' g:=λj o h=>by
   by_cases hj:k=j
   .subst hj;simp only[gZ,kP]at h;subst h;exact⟨_,hk,λ_ h=>h⟩
   .rw[aD hj]at h;exact⟨o,h,λ_ h=>h⟩
  obtain⟨p1,hp1,f1⟩:=back j1 o1 e1;obtain⟨p2,hp2,f2⟩:=back j2 o2 e2;exact λg hg hg'=>I.eB j1 p1 j2 p2 hp1 hp2 hne g (f1 g hg) (f2 g hg')
theorem a3y{H:Nat->Option aZ}{τ:Ty}{x:X}{y:τ.V}(h1:τ.one=true)(h:jG τ x=some y):cG H x.D (.t (vN τ y)):=by
 unfold jG at h;rw[h1]at h;exact qN h1 h
theorem a8w{q i:Nat}{τ:Ty}{σ:Sg}{k:Sg->O}{r:aE}(h:aAI q i τ σ k=some r):tB σ k r:=by
 unfold aAI at h;split at h
 .rename_i e xs hq
  split at h
  .rename_i x hx
   split at h
   .rename_i h1
    split at h
    .rename_i y hy
     obtain⟨H1,h,hH1⟩:=l9 h;refine⟨_,h,id,λ_ E=>?_⟩;have hg:=FU (⟨λt=>lk t σ.T,λk=>lk k σ.H,none⟩:Vw) x;have:=a8a (E:=E) (T:=λt=>(lk t σ.T).map X.D) (H:=λk=>(lk k σ.H).map XO.A) (N:=σ.N) q i (e:=e) (ds:=xs.map X.D) (d:=x.D) (d':=.t (vN τ y)) (by rw[hq];rfl) (by rw[dT,hx];rfl) (hg.trans (a3y h1 hy));unfold cM;rw[show mk (λt=>(lk t σ.T).map X.D) (λk=>(lk k H1).map XO.A) σ.N=_ from mk_eq (λt'=>rfl) (λk'=>?_) rfl]
     .exact this
     .rw[hH1]
      split
      .simp only[lG,XO.A,JR,qZ h1]
      .rfl
    .exact .same h
   .exact .same h
  .exact .same h
 .exact .same h
theorem a9x{E:Env}{ν:Nat->Value}{nm:Nat->Bool}{w:World}{G:cE}{k k':Nat}{o:aZ}(h:fI E ν nm w G k o)(e:ν k'=ν k):fI E ν nm w G k' o:=by
 cases o <;> (unfold fI at h ⊢;rw[e];exact h)
theorem a83{E:Env}{T:Nat->Option D}{H:Nat->Option aZ}{N:Nat}(k i q:Nat){e':TypeId}{ds:List D}{o0:aZ}(hk:H k=some (.box e' ds))(hi:ds[i]?=some (.own q))(hq:H q=some o0)(hne:q≠k)(hN:100<=N):
    eF E (mk T H N) (mk T (λj=>if N=j then some o0 else if q=j then none else if k=j then some (.box e' (ds.set i (.own N)))else H j) (N+8)):=by
 refine FY λa w ⟨ν,G,I⟩=>?_
 have lt:∀j,(mk T H N).nm j=true->j<N:=λj hj=>by simpa using hj
 have ne:∀j,(mk T H N).nm j=true->dI ν N (ν q) j=ν j:=λj hj=>l8 (by have:=lt j hj;omega)
 have hn:∀j,(mk T H N).nm j=true->decide (j<N+8)=true/\dI ν N (ν q) j=ν j:=λj hj=>⟨by have:=lt j hj;simp;omega,ne j hj⟩
 have old:∀j o,H j=some o->j<N:=λj o hj=>lt j (I.H j o hj).1
 have hqN:=old q o0 hq;have hkN:=old k _ hk;have back:∀j o,(if N=j then some o0 else if q=j then none else if k=j then some (.box e' (ds.set i (.own N)))else H j)=some o->(j=N/\o=o0)\/(j=k/\j≠q/\j<N/\o = .box e' (ds.set i (.own N)))\/(j≠k/\j≠q/\j<N/\H j=some o):=λj o h=>by
  by_cases h1:N=j
  .rw[aJ h1]at h;exact .inl ⟨h1.symm,(fV h).symm⟩
  .rw[aD h1]at h
   by_cases h3:q=j
   .rw[aJ h3]at h;cases h
   .rw[aD h3]at h
    by_cases h2:k=j
    .rw[aJ h2]at h;exact .inr (.inl ⟨h2.symm,Ne.symm h3,by omega,(fV h).symm⟩)
    .rw[aD h2]at h;exact .inr (.inr ⟨Ne.symm h2,Ne.symm h3,old _ _ h,h⟩)
 have hfoot:∀j o,(if N=j then some o0 else if q=j then none else if k=j then some (.box e' (ds.set i (.own N)))else H j)=some o->∃j' o',H j'=some o'/\(∀g,cZ w (dI ν N (ν q) j) o g->cZ w (ν j') o' g)/\j'=(if j=N then q else j):=λj o h=>by
  rcases back j o h with⟨rfl,rfl⟩|⟨rfl,h2,h3,rfl⟩|⟨h1,h2,h3,h4⟩
  .exact⟨q,_,hq,λg hg=>by rw[dP]at hg;exact hg,by rw[aJ rfl]⟩
  .exact⟨_,_,hk,λg hg=>by rw[l8 (by omega)]at hg;exact hg,by rw[aD (by omega)]⟩
  .exact⟨_,_,h4,λg hg=>by rw[l8 (by omega)]at hg;exact hg,by rw[aD (by omega)]⟩
 refine⟨dI ν N (ν q),G,I.kept,I.eR,λj h1 h2=>?_,I.g0,I.sz,λt d ht=>?_,λj o hj=>?_,λj1 o1 j2 o2 h1 h2 hne12 g hg=>?_⟩
 .rw[l8 (by omega)];exact I.gE j h1 h2
 .obtain⟨v,hv,hdv⟩:=I.T t d ht
  exact⟨v,hv,hdv.mono hn (λ_ _ _ h=>h)⟩
 .have mono:∀j o,H j=some o->fI E (dI ν N (ν q)) (λj=>decide (j<N+8)) w G j o:=λj o hj=>
   let⟨q1,q2⟩:=I.H j o hj
   q2.mono (ν':=dI ν N (ν q)) (nm':=λj=>decide (j<N+8)) q1 hn (λ_ _ _ h=>h) (λg _=>⟨rfl,rfl⟩)
  rcases back j o hj with⟨rfl,rfl⟩|⟨rfl,h2,h3,rfl⟩|⟨h1,h2,h3,h4⟩
  .refine⟨by simp,a9x (mono q _ hq) ?_⟩
   rw[dP,l8 (by omega)]
  .refine⟨by simp;omega,?_⟩
   obtain⟨g,cur,z1,z2,z3,z4,z5,z6⟩:=mono _ _ hk;refine⟨g,cur,z1,z2,z3,z4,by rw[aAq];exact z5,λm u d hu hd=>?_⟩;by_cases hm:i=m
   .subst hm
    have hlt2:i<ds.length:=(dC.1 hi).1;rw[aMp hlt2]at hd;cases hd;obtain⟨y1,y2⟩:=z6 i u _ hu hi;obtain⟨e1,_⟩:=FK y1;refine⟨?_,y2⟩;have e2:u=dI ν N (ν q) N:=by rw[e1,dP,l8 (by omega)]
    have hown:DR (dI ν N (ν q)) (λj=>decide (j<N+8)) w G (dI ν N (ν q) N) (.own N):=.own (by simp) (by rw[<-e2];exact y2);rw[<-e2]at hown;exact hown
   .rw[aMq hm]at hd
    exact z6 m u d hu hd
  .exact⟨by simp;omega,mono j o h4⟩
 .obtain⟨j1',o1',a1,a2,a3⟩:=hfoot j1 o1 h1
  obtain⟨j2',o2',b1,b2,b3⟩:=hfoot j2 o2 h2;have hne':j1'≠j2':=by
   rw[a3,b3];rcases back j1 o1 h1 with⟨c1,_⟩|⟨_,c2,c3,_⟩|⟨_,c2,c3,_⟩ <;> rcases back j2 o2 h2 with⟨d1,_⟩|⟨_,d2,d3,_⟩|⟨_,d2,d3,_⟩
   .exact absurd (c1.trans d1.symm) hne12
   .rw[aJ c1,aD (by omega)];exact λe=>d2 e.symm
   .rw[aJ c1,aD (by omega)];exact λe=>d2 e.symm
   .rw[aD (by omega),aJ d1];exact c2
   .rw[aD (by omega),aD (by omega)];exact hne12
   .rw[aD (by omega),aD (by omega)];exact hne12
   .rw[aD (by omega),aJ d1];exact c2
   .rw[aD (by omega),aD (by omega)];exact hne12
   .rw[aD (by omega),aD (by omega)];exact hne12
  exact λhg'=>I.eB j1' o1' j2' o2' a1 b1 hne' g (a2 g hg) (b2 g hg')
theorem a48{q i:Nat}{σ:Sg}{k:Sg->O}{r:aE}(h:Yh q i σ k=some r):tB σ k r:=by
 unfold Yh at h;split at h
 .rename_i e xs hq
  split at h
  .rename_i q' hx
   split at h
   .rename_i o ho
    split at h
    .rename_i hc
     simp only[bM,aAw]at hc;have hne:q'≠q:=λe=>by rw[e,Nat.beq_refl]at hc;exact absurd hc.2 (by decide)
     obtain⟨H1,h,hH1⟩:=l9 h;obtain⟨H2,h,hH2⟩:=Ji h;obtain⟨H3,h,hH3⟩:=l9 h;refine⟨_,h,λh=>(by show 100<=σ.N+8;omega),λhN E=>?_⟩;have:=a83 (E:=E) (T:=λt=>(lk t σ.T).map X.D) (H:=λk=>(lk k σ.H).map XO.A) (N:=σ.N) q i q' (e':=e) (ds:=xs.map X.D) (o0:=o.A) (by rw[hq];rfl) (by rw[dT,hx];rfl) (by rw[ho];rfl) hne hN;unfold cM;rw[show mk (λt=>(lk t σ.T).map X.D) (λk=>(lk k H3).map XO.A) (σ.N+8)=_ from mk_eq (λt'=>rfl) (λk'=>?_) rfl]
     .exact this
     .rw[hH3,hH2,hH1]
      split
      .rfl
      .split
       .rfl
       .split
        .simp only[lG,XO.A,JR];rfl
        .rfl
    .exact .same h
   .exact .same h
  .exact .same h
 .exact .same h
theorem a6x{q:Nat}{n:Int}{σ:Sg}{k:Sg->O}{r:aE}(h:Z5 q n σ k=some r):tB σ k r:=by
 unfold Z5 at h;exact .same h
theorem a9X{q:Nat}{σ:Sg}{k:Sg->O}{r:aE}(h:aAX q σ k=some r):tB σ k r:=by
 unfold aAX at h;exact .same h
theorem a6a{m:Mv}{σ:Sg}{k:Sg->O}{r:aE}(h:ZP m σ k=some r):tB σ k r:=by
 unfold ZP at h;split at h
 .split at h
  .exact aKI h
  .split at h
   .exact aKI h
   .exact .same h
  .exact .same h
 .rename_i t o
  split at h
  .rename_i ht he
   obtain⟨T',h,hT⟩:=l9 h;obtain⟨H',h,hH⟩:=l9 h;refine⟨_,h,λh=>(by show 100<=σ.N+8;omega),λhN E=>?_⟩;have:=a84 (E:=E) (T:=λt=>(lk t σ.T).map X.D) (H:=λk=>(lk k σ.H).map XO.A) t (aMB he) (by rw[ht];rfl) hN;unfold cM;rw[show mk (λt=>(lk t T').map X.D) (λk=>(lk k H').map XO.A) (σ.N+8)=_ from mk_eq (λt'=>?_) (λk'=>?_) rfl]
   .exact this
   .rw[hT];split <;> rfl
   .rw[hH];split <;> rfl
  .exact .same h
 .split at h
  .rename_i he
   exact a63 (aMB he) h
  .exact .same h
 .rename_i t τ
  split at h
  .rename_i q ht
   split at h
   .rename_i e xs hq
    split at h
    .rename_i y hy
     obtain⟨T',h,hT⟩:=l9 h;obtain⟨H',h,hH⟩:=Ji h;refine⟨_,h,id,λhN E=>?_⟩;have:=a88 (E:=E) (T:=λt=>(lk t σ.T).map X.D) (H:=λk=>(lk k σ.H).map XO.A) (N:=σ.N) t q (e:=e) (ds:=xs.map X.D) (ts:=bH τ y) (by rw[ht];rfl) (by rw[hq];rfl) (by rw[dR];exact a7T hy) (λi tr hi=>by
      obtain⟨d0,h1,h2⟩:=(sO hy).get i (.t tr) (by rw[dT,hi];rfl);exact⟨d0,h1,h2⟩)
     unfold cM;rw[show mk (λt=>(lk t T').map X.D) (λk=>(lk k H').map XO.A) σ.N=_ from mk_eq (λt'=>?_) (λk'=>?_) rfl]
     .exact this
     .rw[hT];split <;> rfl
     .rw[hH];split <;> rfl
    .exact .same h
   .exact .same h
  .exact .same h
 .split at h
  .exact a8w h
  .exact .same h
 .split at h
  .exact a48 h
  .exact .same h
 .split at h
  .exact a6x h
  .exact .same h
 .split at h
  .exact a9X h
  .exact .same h
theorem ZO:∀(l:List Mv)(σ:Sg)(k:Sg->O)(r:aE),Qy l σ k=some r->tB σ k r
 |[],σ,k,r,h=>.same h
 |m::l,σ,k,r,h=>by
   obtain⟨σ1,h1,h2,h3⟩:=a6a (m:=m) h;obtain⟨σ2,e1,e2,e3⟩:=ZO l σ1 k r h1;exact⟨σ2,e1,λh=>e2 (h2 h),λhN E=>eF.trans' (h3 hN E) (e3 (h2 hN) E)⟩
theorem aJq{τ:Ty}{y:τ.V}:(iO τ y).D=if τ.one then .t (vN τ y)else .agg ((bH τ y).map .t):=by
 unfold iO;cases h:τ.one with
 |true=>simp only[qZ h];rfl
 |false=>simp only[X.D,fO,F4];rfl
theorem lQ{H:Nat->Option aZ}{τ:Ty}{x:X}{y:τ.V}(h:jG τ x=some y):cG H x.D (iO τ y).D:=by
 rw[aJq];unfold jG at h;split at h
 .rename_i h1
  rw[aJ h1];exact qN h1 h
 .rename_i h1
  rw[aD (by rw[h1];simp)];split at h
  .unfold X.D
   rw[fO];exact cG.agg (sO h)
  .cases h
theorem a9i(σ:Vw)(τ:Ty)(x:X):cG σ.den.H x.D (aA2 σ τ x).D:=by
 unfold aA2;split
 .rename_i y h
  exact(Zj σ x).trans (lQ h)
 .exact cG.refl
theorem aK4{σ:Sg}{gv:List (Nat×Ty)}:∀(ts:List Nat)(T':XT),Qf σ gv ts=some T'->∀t x',lk t T'=some x'->∃x,lk t σ.T=some x/\cG σ.vw.den.H x.D x'.D
 |[],T',h,t,x',ht=>by cases h;cases ht
 |t0::l,T',h,t,x',ht=>by
   unfold Qf at h;split at h
   .rename_i x hx
    split at h
    .rename_i r hr
     cases h;unfold lk at ht;split at ht
     .rename_i he
      have he:=cA he;subst he;cases ht;refine⟨x,hx,?_⟩;split
      .exact a9i _ _ _
      .exact cG.refl
     .exact aK4 l r hr t x' ht
    .cases h
   .cases h
mutual
theorem JO{H:Nat->Option aZ}{nm':Nat->Bool}{ρ:Nat->Nat}{f:Nat->Option Nat}(hf:∀k k',f k=some k'->nm' k'=true/\k=ρ k'):∀(x y:X),fS f x=some y->eC false H nm' ρ x.D y.D
 |.own q,y,h=>by
   unfold fS at h;split at h
   .rename_i q' hq;cases h;exact .own (hf _ _ hq).1 (hf _ _ hq).2
   .cases h
 |.ref q off,y,h=>by
   unfold fS at h;split at h
   .rename_i q' hq;cases h;exact .ref (hf _ _ hq).1 (hf _ _ hq).2
   .cases h
 |.rr q i j s,y,h=>by
   unfold fS at h;split at h
   .rename_i q' hq;cases h;exact .ref (hf _ _ hq).1 (hf _ _ hq).2
   .cases h
 |.agg xs,y,h=>by
   unfold fS at h;split at h
   .rename_i ys hy;cases h;exact .a9n (x9 hf xs ys hy)
   .cases h
 |.bD xs,y,h=>by
   unfold fS at h;split at h
   .rename_i ys hy;cases h;exact .Eo (x9 hf xs ys hy)
   .cases h
 |.fn g xs,y,h=>by
   unfold fS at h;split at h
   .rename_i ys hy;cases h;exact .fn' (x9 hf xs ys hy)
   .cases h
 |.e τ x,y,h=>by
   unfold fS at h;cases h;unfold X.D;split
   .exact .t rfl
   .exact .any
 |.cC,y,h=>by unfold fS at h;cases h;exact .t rfl
 |.pt τ x j,y,h=>by unfold fS at h;cases h;exact .ptr
 |.v w,y,h=>by unfold fS at h;cases h;exact .t rfl
 |.bit j q,y,h=>by unfold fS at h;cases h
 |.eX k c x,y,h=>by unfold fS at h;cases h
 |.sub _ _,y,h=>by unfold fS at h;cases h
 |.jH _ _ _,y,h=>by unfold fS at h;cases h
 |.vw _ _ _ _,y,h=>by unfold fS at h;cases h
 |.via k j,y,h=>by
   unfold fS at h;split at h
   .rename_i q' hq;cases h;exact .via (hf _ _ hq).1 (hf _ _ hq).2
   .cases h
 |.dY _,y,h=>by unfold fS at h;cases h
theorem x9{H:Nat->Option aZ}{nm':Nat->Bool}{ρ:Nat->Nat}{f:Nat->Option Nat}(hf:∀k k',f k=some k'->nm' k'=true/\k=ρ k'):∀(xs ys:List X),n8 f xs=some ys->tD false H nm' ρ (Ds xs) (Ds ys)
 |[],ys,h=>by unfold n8 at h;cases h;exact .nil
 |x::l,ys,h=>by
   unfold n8 at h;split at h
   .rename_i y hy
    split at h
    .rename_i r hr
     cases h;exact .cons (JO hf x y hy) (x9 hf l r hr)
    .cases h
   .cases h
end
theorem JP{H:Nat->Option aZ}{nm':Nat->Bool}{ρ:Nat->Nat}{f:Nat->Option Nat}(hf:∀k k',f k=some k'->nm' k'=true/\k=ρ k'){o o':XO}(h:sE f o=some o'):iA false H nm' ρ o.A o'.A:=by
 cases o with
 |box e xs=>
   simp only[sE]at h;split at h
   .rename_i ys hy
    cases h;have:=x9 (H:=H) hf xs ys hy;rw[fO,fO]at this;exact .CM this
   .cases h
 |row e τ l st=>simp only[sE]at h;cases h;exact .row rfl rfl
 |nest e e' τ l=>simp only[sE]at h;cases h;exact .nest rfl
 |dZ e e' κ ρ' l ln=>
   have key:∀c∈iY (mV (κ:=κ) (ρ:=ρ')) l,SA false H nm' ρ c c:=λc hc=>by
    rcases a9J l c hc with⟨n,ts,rfl⟩|⟨t,rfl⟩
    .exact .fQ
    .exact .d (.t rfl)
   simp only[sE]at h;split at h
   .cases h
    exact .dZ rfl (λi c c' h h'=>by
     have e:=fV (h.symm.trans h');subst e;exact key c (jN.2 ⟨i,h⟩))
   .rename_i i q
    split at h
    .rename_i q' hq
     cases h;refine .dZ (by rw[aLQ,aLQ]) (λj c c' h h'=>?_);unfold vF at h h';by_cases hj:i.toNat*(1+ρ'.size)=j
     .subst hj
      have hlt:=(dC.1 h).1;rw[aAq]at hlt;rw[aMp hlt]at h h';cases h;cases h';exact .d (JO (H:=H) hf (.own q) (.own q') (by unfold fS;rw[hq]))
     .rw[aMq hj]at h h'
      have e:=fV (h.symm.trans h');subst e;exact key c (jN.2 ⟨j,h⟩)
    .cases h
 |it s pos=>
   simp only[sE]at h;cases h;exact .it
 |mp τ l=>
   simp only[sE]at h;split at h
   .rename_i r hr
    cases h;have key:∀(l r:List (τ.V×X)),Q6 f l=some r->l.length=r.length/\∀(i:Nat)(p p':τ.V×X),l[i]?=some p->r[i]?=some p'->p.1=p'.1/\eC false H nm' ρ p.2.D p'.2.D:=by
     intro l
     induction l with
     |nil=>intro r h;cases h;exact⟨rfl,λi p p' h=>by simp at h⟩
     |cons a l ih=>
       intro r h;obtain⟨k,x⟩:=a;unfold Q6 at h;split at h
       .rename_i y hy
        split at h
        .rename_i r' hr'
         cases h;obtain⟨h1,h2⟩:=ih r' hr';refine⟨by simp[h1],λi p p' hp hp'=>?_⟩;cases i with
         |zero=>simp at hp hp';subst hp hp';exact⟨rfl,JO hf _ _ hy⟩
         |succ i=>exact h2 i p p' (by simpa using hp) (by simpa using hp')
        .cases h
       .cases h
    obtain⟨h1,h2⟩:=key l r hr;refine .mp (by simp[h1]) (λi p p' hp hp'=>?_);rw[dT]at hp hp';obtain⟨a,ha,rfl⟩:=cV.1 hp;obtain⟨b,hb,rfl⟩:=cV.1 hp';obtain⟨e1,e2⟩:=h2 i a b ha hb;exact⟨by rw[e1],e2⟩
   .cases h
theorem aKW{f:Nat->Option Nat}:∀(T T':XT),Q5 f T=some T'->∀t y,lk t T'=some y->∃x,lk t T=some x/\fS f x=some y
 |[],T',h,t,y,ht=>by cases h;cases ht
 |(t0,x0)::l,T',h,t,y,ht=>by
   unfold Q5 at h;split at h
   .rename_i y0 hy
    split at h
    .rename_i r hr
     cases h;unfold lk at ht ⊢;split at ht
     .cases ht;exact⟨x0,rfl,hy⟩
     .exact aKW l r hr t y ht
    .cases h
   .cases h
theorem sF{f:Nat->Option Nat}{H:Nat->Option XO}:∀(al:List (Nat×Nat))(H':XH),pI f H al=some H'->∀k o',lk k H'=some o'->∃q o,lk k al=some q/\H q=some o/\sE f o=some o'
 |[],H',h,k,o',hk=>by cases h;cases hk
 |(new,q)::l,H',h,k,o',hk=>by
   unfold pI at h;split at h
   .rename_i o ho
    split at h
    .rename_i o1 h1
     split at h
     .rename_i r hr
      cases h;unfold lk at hk ⊢;split at hk
      .cases hk;exact⟨q,o,rfl,ho,h1⟩
      .exact sF l r hr k o' hk
     .cases h
    .cases h
   .cases h
theorem FG{k new:Nat}:∀{rn:List (Nat×Nat)},old rn k=some new->(new,k)∈rn
 |[],h=>by cases h
 |(n,o)::l,h=>by
   unfold old at h;split at h
   .rename_i he
    have he:=cA he;subst he;cases h;exact List.mem_cons_self ..
   .exact eY _ (FG h)
theorem mT{α:Type}{k:Nat}{x:α}{l:List (Nat×α)}(h:lk k l=some x):(k,x)∈l:=lC (by rw[<-pP];exact h)
theorem Qp:∀{l:List Nat},sK l=true->l.Nodup
 |[],_=>List.nodup_nil
 |k::l,h=>by
   unfold sK at h;split at h
   .cases h
   .rename_i hc
    exact bAM.2 ⟨(λhm=>by rw[List.contains_iff_mem.2 hm]at hc;cases hc),Qp h⟩
structure RnF(rn al:List (Nat×Nat))(lo hi:Nat):Prop where
 iQ:∀new q,(new,q)∈rn->lo<=new/\new<hi/\sQ new=false/\bP rn new=q
 nd:(al.map (·.2)).Nodup
 al:∀k q,lk k al=some q->bP rn k=q/\(sQ k=true\/∃q',(k,q')∈rn)
theorem Eu{rn:List (Nat×Nat)}{k q:Nat}(h:lk k rn=some q):bP rn k=q:=by
 unfold bP;rw[<-pP,h]
theorem sP{k:Nat}:sQ k=true ↔ 50<=k/\k<100:=by
 unfold sQ;rw[bM];exact⟨λ⟨a,b⟩=>⟨fN a,fN b⟩,λ⟨a,b⟩=>⟨aAl a,aAl b⟩⟩
theorem Yg{rn al:List (Nat×Nat)}{lo hi:Nat}(h:JM rn al lo hi=true):RnF rn al lo hi:=by
 unfold JM at h;simp only[bM]at h;obtain⟨⟨h1,h2⟩,h3⟩:=h;have hlk:∀{p:Nat×Nat},(match lk p.1 rn with|some q=>Nat.beq q p.2|none=>false)=true->lk p.1 rn=some p.2:=λ{p} h=>by
  split at h
  .rename_i q hq;rw[hq,cA h]
  .cases h
 have h1':∀p∈rn,lo<=p.1/\p.1<hi/\sQ p.1=false/\lk p.1 rn=some p.2:=λp hp=>by
  have:=eI.1 h1 p hp;simp only[bM,aAw]at this;obtain⟨⟨⟨a,b⟩,c⟩,d⟩:=this;exact⟨fN a,fN b,c,hlk d⟩
 refine⟨λnew q hm=>?_,Qp h2,λk q hk=>?_⟩
 .obtain⟨a,b,c,d⟩:=h1' _ hm
  exact⟨a,b,c,Eu d⟩
 .have:=eI.1 h3 _ (mT hk)
  simp only[Bool.or_eq_true,bM]at this;rcases this with⟨a,b⟩|c
  .have hb:=cA b
   have hkH:=sP.1 a;refine⟨?_,.inl a⟩;rw[<-hb];unfold bP;cases hl:Ab.look k rn with
   |none=>rfl
   |some z=>
     have:=(h1' _ (lC hl)).2.2.1;simp only at this;rw[a]at this;cases this
  .have:=hlk (p:=(k,q)) c
   exact⟨Eu this,.inr ⟨_,mT this⟩⟩
theorem RnF.f{rn al:List (Nat×Nat)}{lo hi:Nat}(F:RnF rn al lo hi)(hhi:hi<=100):∀k k',qO rn k=some k'->decide (k'<100)=true/\k=bP rn k':=λk k' h=>by
 unfold qO at h;split at h
 .rename_i hH
  cases h;refine⟨aQ (sP.1 hH).2,?_⟩;unfold bP;cases hl:Ab.look k rn with
  |none=>rfl
  |some z=>
    have:=(F.iQ _ _ (lC hl)).2.2.1;rw[hH]at this;cases this
 .obtain⟨a,b,c,d⟩:=F.iQ _ _ (FG h)
  exact⟨aQ (by omega),d.symm⟩
theorem Qn{al:List (Nat×Nat)}(h:(al.map (·.2)).Nodup):∀{a b q:Nat},(a,q)∈al->(b,q)∈al->a=b:=by
 induction al with
 |nil=>intro a b q ha;cases ha
 |cons p l ih=>
   intro a b q ha hb;rw[iB,bAM]at h;rcases eP.1 ha with e1|h1
   .rcases eP.1 hb with e2|h2
    .rw[<-e1]at e2;cases e2;rfl
    .exact absurd (fG.2 ⟨_,h2,by rw[<-e1]⟩) h.1
   .rcases eP.1 hb with e2|h2
    .exact absurd (fG.2 ⟨_,h1,by rw[<-e2]⟩) h.1
    .exact ih h.2 h1 h2
theorem a89{E:Env}{T T':Nat->Option D}{H H':Nat->Option aZ}{N N':Nat}(ρ:Nat->Nat)(hT:∀t d',T' t=some d'->∃d,T t=some d/\eC false H (λk=>decide (k<N')) ρ d d')
    (hH:∀k o',H' k=some o'->k<N'/\∃o,H (ρ k)=some o/\iA false H (λk=>decide (k<N')) ρ o o') (hinj:∀k k' o o',H' k=some o->H' k'=some o'->ρ k=ρ k'->k=k') (hid:∀k,50<=k->k<100->ρ k=k):eF E (mk T H N) (mk T' H' N'):=by
 intro tm w ⟨ν,G,I⟩;have hρ:∀k',decide (k'<N')=true->(mk T H N).nm (ρ k')=true->(λk=>ν (ρ k)) k'=ν (ρ k'):=λ_ _ _=>rfl
 refine⟨λk=>ν (ρ k),G,I.kept,I.eR,λk h1 h2=>?_,I.g0,I.sz,λt d' h=>?_,λk o' h=>?_,λk o k' o' h h' hne g hg=>?_⟩
 .show ν (ρ k)=_
  rw[hid k h1 h2];exact I.gE k h1 h2
 .obtain⟨d,hd,hle⟩:=hT t d' h
  obtain⟨v,hv,hvd⟩:=I.T t d hd;exact⟨v,hv,hle.rel (λ_ _ _ h=>h) I.rows hρ hvd⟩
 .obtain⟨hk,o,ho,hle⟩:=hH k o' h
  exact⟨aQ hk,(I.H _ o ho).2.view hle I.rows hρ rfl (λ_ _ h=>h)⟩
 .obtain⟨_,o1,h1,l1⟩:=hH k o h
  obtain⟨_,o2,h2,l2⟩:=hH k' o' h';exact λhg'=>I.eB _ o1 _ o2 h1 h2 (λe=>hne (hinj k k' o o' h h' e)) g (l1.ft.1 hg) (l2.ft.1 hg')
theorem Qm{nm:Nm}{σ:Sg}{k:Sg->O}{r:aE}(h:By nm σ k=some r)(hN:100<=σ.N):∃σ',k σ'=some r/\σ'.N=100/\∀E,eF E (cM σ) (cM σ'):=by
 unfold By at h;obtain⟨σ2,h,hN2,hE2⟩:=ZO _ _ _ _ h;obtain⟨T1,hp,h⟩:=bL h;simp only at h;split at h
 case h_2=>cases h
 rename_i hrn;have F:=Yg hrn;obtain⟨T2,hT2,h⟩:=bL h;obtain⟨H2,hH2,h⟩:=bL h;refine⟨_,h,rfl,λE=>(eF.trans' (hE2 hN E) (eF.trans' (b:=mk (λt=>(lk t T1).map X.D) (λk=>(lk k σ2.H).map XO.A) σ2.N) (a8b λt d' ht=>?_) ?_))⟩
 .obtain⟨x',hx',rfl⟩:=cV.1 ht
  obtain⟨x,e1,e2⟩:=aK4 _ _ hp t x' hx';exact⟨x.D,by rw[e1];rfl,e2⟩
 .have hf:=F.f (by omega)
  refine a89 (bP (jJ 0 (reach σ2.vw.H 60 (ZN T1 (oD σ2.H)) []))) (λt d' ht=>?_) (λk o' hk=>?_) (λk k' o o' h1 h2 e=>?_) (λk h1 h2=>?_)
  .obtain⟨y,hy,rfl⟩:=cV.1 ht
   obtain⟨x,e1,e2⟩:=aKW _ _ hT2 t y hy;exact⟨x.D,by rw[e1];rfl,JO hf x y e2⟩
  .obtain⟨y,hy,rfl⟩:=cV.1 hk
   obtain⟨q,o,e1,e2,e3⟩:=sF _ _ hH2 k y hy;obtain⟨a1,a2⟩:=F.al k q e1;refine⟨?_,o.A,by rw[a1];exact bE (aMd XO.A) e2,JP hf e3⟩;rcases a2 with a2|⟨q',a2⟩
   .exact(sP.1 a2).2
   .have:=(F.iQ _ _ a2).2.1;show k<100;omega
  .obtain⟨y1,hy1,rfl⟩:=cV.1 h1
   obtain⟨y2,hy2,rfl⟩:=cV.1 h2;obtain⟨q1,_,e1,_,_⟩:=sF _ _ hH2 k y1 hy1;obtain⟨q2,_,e2,_,_⟩:=sF _ _ hH2 k' y2 hy2;rw[(F.al k q1 e1).1,(F.al k' q2 e2).1]at e;subst e;exact Qn F.nd (mT e1) (mT e2)
  .unfold bP
   cases hl:Ab.look k _ with
   |none=>rfl
   |some z=>
     have:=(F.iQ _ _ (lC hl)).2.2.1;rw[sP.2 ⟨h1,h2⟩]at this;cases this
end Go.Ax
/- Code, loops, functions. -/
namespace Go.Ax
open aA
open Go.RowKit Go.Ab
def sZ(c:Cx)(M:Nat)(code:Code)(σ:Sg)(Post:Exit->Sg->Prop):Prop:=∀E:Env,E.m=M->iF c.P E code (λe s=>∃σ',Post e σ'/\eF E s (cM σ')) (cM σ)
def cN(c:Cx)(M:Nat)(code:Code){Y1 Y2 Y3:Type}(I1:Y1->Exit×Sg)(I2:Y2->Exit×Sg)(I3:Y3->Exit×Sg)(L:Sg->(Y1->O)->(Y2->O)->(Y3->O)->O):Prop:=∀σ k1 k2 k3 r,L σ k1 k2 k3=some r->σ.N=100->
 sZ c M code σ λe σ'=>100<=σ'.N/\((∃y,k1 y=some r/\I1 y=(e,σ'))\/(∃y,k2 y=some r/\I2 y=(e,σ'))\/∃y,k3 y=some r/\I3 y=(e,σ'))
def bJ(c:Cx)(M:Nat)(h:Hint)(code:Code):Prop:=match h with
 |.sub _ _ _ _ I1 I2 I3 L=>cN c M code I1 I2 I3 L
 |h=>match code with
   |.seq a b=>bJ c M (match h with|.seq x _=>x|_=>.d) a/\bJ c M (match h with|.seq _ y=>y|_=>.d) b
   |.cond _ a b=>bJ c M (match h with|.cond x _=>x|_=>.d) a/\bJ c M (match h with|.cond _ y=>y|_=>.d) b
   |.block _ a=>bJ c M (match h with|.block x=>x|_=>.d) a
   |_=>True
termination_by structural code
theorem cO{c:Cx}{M:Nat}:∀code:Code,bJ c M .d code
 |.skip=>trivial
 |.region ..=>trivial
 |.seq a b=>⟨cO a,cO b⟩
 |.cond _ a b=>⟨cO a,cO b⟩
 |.block _ a=>cO a
 |.loop _=>trivial
 |.rangeFunc ..=>trivial
 |.exit _=>trivial
 |.scope _=>trivial
 |.label _=>trivial
 |.goto _=>trivial
 |.ret=>trivial
 |.refuse _=>trivial
theorem aAC{σ:Sg}{s:St}(h:gO σ.T σ.H s){E:Env}:eF E (mk s.T s.H σ.N) (cM σ):=Je (λt d ht=>by
    obtain⟨x,hx,rfl⟩:=cV.1 ht;exact h.T t x hx) (λk o hk=>by
    obtain⟨x,hx,rfl⟩:=cV.1 hk;exact h.H k x hx)
theorem gO.den(σ:Sg):gO σ.T σ.H (cM σ):=⟨λt x h=>by show(lk t σ.T).map X.D=_;rw[h];rfl,λk o h=>by show(lk k σ.H).map XO.A=_;rw[h];rfl⟩
theorem aAA{M:Nat}:∀{l:List Oper},Jh M l=true->(l.all λo=>match o.dst with|none=>true|some t=>decide (t<M))=true
 |[],_=>rfl
 |o::l,h=>by
   unfold Jh at h;rw[List.all_cons,bM];split at h
   .rename_i t ht
    split at h
    .rename_i hb
     exact⟨by rw[ht];exact aQ (fN hb),aAA h⟩
    .cases h
   .rename_i ht
    exact⟨by rw[ht],aAA h⟩
theorem aJk(n:Int)(h:0<=n/\n<256):(X.e .u8 (fF n.toNat)).D = .t (.v (.int .u8 n)):=by
 have:((fF n.toNat).toNat:Int)=n:=by
  rw[a9q];omega
 show D.t (.v (.int .u8 ((fF n.toNat).toNat:Int)))=_;rw[this]
theorem ZB{σ:Sg}{w:Value}{x:X}(h:sJ w=some x):(cM σ).ev (.const w)=some x.D:=by
 have h1:∀v:Value,(∀vs,v≠.tuple vs)->(∀cs,v≠.agg cs)->(oA v).D = .t (.v v):=λv h1 h2=>by
  unfold oA;split
  .split
   .exact aJk _ (cU ‹_›)
   .rfl
  .rfl
  .rfl
  .rfl
  .rfl
  .rfl
 unfold sJ at h;unfold St.ev;split at h
 .rename_i cs
  split at h
  .rename_i ha
   cases h;show(if F3 (.agg cs)=true then some (jI (.agg cs))else none)=_;rw[aJ (show F3 (.agg cs)=true from ha)];simp only[jI,X.D,fO,List.map_map]
   congr 2
   refine List.map_congr_left λv hv=>(h1 v (λvs e=>?_) (λcs' e=>?_)).symm
   .have:=eI.1 ha v hv;rw[e]at this;cases this
   .have:=eI.1 ha v hv;rw[e]at this;cases this
  .cases h
 .cases h
 .rename_i h2 h3
  cases h;rw[h1 w (λvs e=>h3 vs e) (λcs e=>h2 cs e)];cases w with
  |agg cs=>exact absurd rfl (h2 cs)
  |tuple vs=>exact absurd rfl (h3 vs)
  |_=>rfl
theorem a8Z{σ:Sg}{x:Operand}{v:X}(h:σ.vw.ev x=some v):(cM σ).ev x=some v.D:=by
 cases x with
 |tmp t=>
   simp only[Vw.ev,Sg.vw]at h;split at h
   .rename_i y hy
    have e:(cM σ).ev (.tmp t)=some y.D:=by show(lk t σ.T).map X.D=_;rw[hy];rfl
    rw[e];unfold u7 at h;split at h
    .cases h;rfl
    .cases h
    .cases h;rfl
   .cases h
 |const w=>exact ZB h
 |func f=>simp only[Vw.ev]at h;cases h;rfl
 |global g=>simp only[Vw.ev]at h;cases h;exact bE some (aL5 g).symm
structure aF(c:Cx):Prop where
 mix:c.P.follows .mixedOrders=true
 step:Rn c
 dY:Rt c
theorem Z8{k:Exit->Sg->O}{e:Exit}{σ:Sg}{r:aE}(h:kk k (e,σ)=some r):k e σ=some r:=by
 unfold kk at h;split at h
 .cases h
 .exact h
theorem Jd{c:Cx}(hc:aF c){M:Nat}:∀(code:Code)(h:Hint)(σ:Sg)(k:Exit->Sg->O)(r:aE),exec c M h code σ k=some r->bJ c M h code->100<=σ.N->sZ c M code σ λe σ'=>100<=σ'.N/\k e σ'=some r:=by
 have sub:∀(code:Code) nm (Y1 Y2 Y3:Type) (I1:Y1->Exit×Sg) (I2:Y2->Exit×Sg) (I3:Y3->Exit×Sg) (L:Sg->(Y1->O)->(Y2->O)->(Y3->O)->O) (σ:Sg) (k:Exit->Sg->O) (r:aE),
     By nm σ (λσ'=>L σ' (λy=>kk k (I1 y)) (λy=>kk k (I2 y)) (λy=>kk k (I3 y)))=some r->cN c M code I1 I2 I3 L->100<=σ.N->sZ c M code σ λe σ'=>100<=σ'.N/\k e σ'=some r:=by
  intro code nm Y1 Y2 Y3 I1 I2 I3 L σ k r h hs hN E hE;obtain⟨σ1,h1,h2,h3⟩:=Qm h hN;refine aAY (h3 E) (sV (hs σ1 _ _ _ r h1 h2 E hE) ?_);rintro e s ⟨σ',⟨hN',hy⟩,hent⟩;refine⟨σ',⟨hN',?_⟩,hent⟩;rcases hy with⟨y,a,b⟩|⟨y,a,b⟩|⟨y,a,b⟩
  .rw[b]at a;exact Z8 a
  .rw[b]at a;exact Z8 a
  .rw[b]at a;exact Z8 a
 intro code
 induction code with
 |skip=>
   intro h σ k r he hh hN;cases h with
   |sub=>exact sub _ _ _ _ _ _ _ _ _ _ _ _ he hh hN
   |_=>exact λE hE=>a9Y ⟨σ,⟨hN,he⟩,eF.sH⟩
 |label l=>
   intro h σ k r he hh hN;cases h with
   |sub=>exact sub _ _ _ _ _ _ _ _ _ _ _ _ he hh hN
   |_=>exact λE hE=>a95 ⟨σ,⟨hN,he⟩,eF.sH⟩
 |exit id=>
   intro h σ k r he hh hN;cases h with
   |sub=>exact sub _ _ _ _ _ _ _ _ _ _ _ _ he hh hN
   |_=>exact λE hE=>a96 ⟨σ,⟨hN,he⟩,eF.sH⟩
 |ret=>
   intro h σ k r he hh hN;cases h with
   |sub=>exact sub _ _ _ _ _ _ _ _ _ _ _ _ he hh hN
   |_=>exact λE hE=>a90 ⟨σ,⟨hN,he⟩,eF.sH⟩
 |loop a _=>
   intro h σ k r he hh hN;cases h with
   |sub=>exact sub _ _ _ _ _ _ _ _ _ _ _ _ he hh hN
   |_=>cases he
 |goto l=>
   intro h σ k r he hh hN;cases h with
   |sub=>exact sub _ _ _ _ _ _ _ _ _ _ _ _ he hh hN
   |_=>cases he
 |scope a _=>
   intro h σ k r he hh hN;cases h with
   |sub=>exact sub _ _ _ _ _ _ _ _ _ _ _ _ he hh hN
   |_=>cases he
 |refuse a=>
   intro h σ k r he hh hN;cases h with
   |sub=>exact sub _ _ _ _ _ _ _ _ _ _ _ _ he hh hN
   |_=>cases he
 |rangeFunc a b x y _ _=>
   intro h σ k r he hh hN;cases h with
   |sub=>exact sub _ _ _ _ _ _ _ _ _ _ _ _ he hh hN
   |_=>cases he
 |block id a ih=>
   intro h σ k r he hh hN;have go:∀x:Hint,bJ c M x a->exec c M x a σ (λe σ'=>match e with
    |.exit id'=>match Nat.beq id' id with|true=>k .normal σ'|false=>k (.exit id') σ'
    |e=>k e σ')=some r->sZ c M (.block id a) σ λe σ'=>100<=σ'.N/\k e σ'=some r:=λx hx hex E hE=>by
    refine a9a (sV (ih x σ _ r hex hx hN E hE) ?_);rintro e s ⟨σ',⟨hN',hk⟩,hent⟩;cases e with
    |exit id'=>
      simp only[aAy];simp only at hk;split at hk
      .rename_i hb
       rw[aJ (cA hb)];exact⟨σ',⟨hN',hk⟩,hent⟩
      .rename_i hb
       rw[aD (rA hb)];exact⟨σ',⟨hN',hk⟩,hent⟩
    |_=>exact⟨σ',⟨hN',hk⟩,hent⟩
   cases h with
   |sub=>exact sub _ _ _ _ _ _ _ _ _ _ _ _ he hh hN
   |block x=>exact go x hh he
   |_=>exact go .d hh he
 |cond z a b iha ihb=>
   intro h σ k r he hh hN;have go:∀x y:Hint,bJ c M x a->bJ c M y b->(ob (σ.vw.ev z) λv=>match v with
    |.e .bo q=>br q (exec c M x a σ k) (exec c M y b σ k)
    |_=>none)=some r->sZ c M (.cond z a b) σ λe σ'=>100<=σ'.N/\k e σ'=some r:=λx y hx hy hex E hE=>by
    obtain⟨v,hv,hex⟩:=bL hex;split at hex
    case h_2=>cases hex
    rename_i q;have hev:=a8Z hv;refine a99 (b:=q) hev (λhq=>?_) (λhq=>?_)
    .subst hq;exact iha x σ k r hex hx hN E hE
    .subst hq;exact ihb y σ k r hex hy hN E hE
   cases h with
   |sub=>exact sub _ _ _ _ _ _ _ _ _ _ _ _ he hh hN
   |cond x y=>exact go x y hh.1 hh.2 he
   |_=>exact go .d .d hh.1 hh.2 he
 |seq a b iha ihb=>
   intro h σ k r he hh hN;have go:∀x y:Hint,bJ c M x a->bJ c M y b->exec c M x a σ (λe σ'=>match e with
    |.normal=>exec c M y b σ' k
    |e=>k e σ')=some r->sZ c M (.seq a b) σ λe σ'=>100<=σ'.N/\k e σ'=some r:=λx y hx hy hex E hE=>by
    refine a9Z (sV (iha x σ _ r hex hx hN E hE) ?_);rintro e s ⟨σ',⟨hN',hk⟩,hent⟩;cases e with
    |normal=>exact aAY hent (ihb y σ' k r hk hy hN' E hE)
    |_=>exact⟨σ',⟨hN',hk⟩,hent⟩
   cases h with
   |sub=>exact sub _ _ _ _ _ _ _ _ _ _ _ _ he hh hN
   |seq x y=>exact go x y hh.1 hh.2 he
   |_=>exact go .d .d hh.1 hh.2 he
 |region id ops draw=>
   intro h σ k r he hh hN;have go:∀(stF:List Nat)(sl:List Mv)(kl:List (List Nat)),Q7 c M stF sl kl ops draw σ k=some r->sZ c M (.region id ops draw) σ λe σ'=>100<=σ'.N/\k e σ'=some r:=λstF sl kl hex E hE=>by
    unfold Q7 at hex;obtain⟨σ1,hex,hN1,hent⟩:=ZO _ _ _ _ hex
    dsimp only at hex
    refine aAY (hent hN E) ?_;have hN':100<=σ1.N:=hN1 hN;clear hent;split at hex
    .cases hex
    rename_i hpl;obtain⟨l⟩:=ops;simp only at hex;split at hex
    .split at hex
     case h_2=>cases hex
     rename_i hd;obtain⟨ex,σ2,e1,e2,e3,e4⟩:=Ey hc.step hc.dY l 0 σ1 _ r (cM σ1) (λ_=>false) hex (gO.den σ1) (λt x ht=>FB (Yq hpl t x ht));refine a92 (σ1.N+8*l.length) hE hN' rfl (aAA hd) ?_;have:∀(Post Post':Exit->St->Prop)(hp:∀e s,Post e s->Post' e s)(ops:Array Oper)(l:List Oper)(fr:Nat)(s:St),nA c.P ops Post l fr s->nA c.P ops Post' l fr s:=by
      intro Post Post' hp ops l
      induction l with
      |nil=>intro fr s h;exact hp _ s h
      |cons o l ih=>
        intro fr s h;rcases h with⟨d,W,h1,h2⟩|⟨ι,C,d,W,h0,h1,h2⟩|⟨v,W,h0,h1,h2⟩
        .exact .inl ⟨d,W,h1,ih _ _ h2⟩
        .exact .inr (.inl ⟨ι,C,d,W,h0,h1,λi hi=>ih _ _ (h2 i hi)⟩)
        .exact .inr (.inr ⟨v,W,h0,h1,hp _ _ h2⟩)
     refine this _ _ (λe' s hs=>?_) _ _ _ _ e4;obtain⟨rfl,hs⟩:=hs;refine⟨σ2,⟨by rw[e2];omega,e1⟩,?_⟩;rw[<-e2];exact aAC hs
    .split at hex
     case h_2=>cases hex
     rename_i ha;have e3:=F1 (ops:=l.toArray) (pre:=JT l []) (kl:=kl) (fr:=σ1.N) hc.step hc.dY (s:=cM σ1) (gO.den σ1).T (gO.den σ1).H (λt x ht=>Yq hpl t x ht) (gO.den σ1).H (n:=l.length) l 0 [] _ r (λ_=>false) hex rfl (by simp) (λp hp=>by cases hp);refine a97 (JT l []) kl hc.mix hE hN' ha ?_;have:∀(Post Post':Exit->St->Prop)(hp:∀e s,Post e s->Post' e s)(ops:Array Oper)(pre kl:List (List Nat))(fr:Nat)(s:St)(l:List Oper)(i:Nat)(rs:Rs),qA c.P ops pre kl fr s Post l i rs->qA c.P ops pre kl fr s Post' l i rs:=by
      intro Post Post' hp ops pre kl fr s l
      induction l with
      |nil=>intro i rs h;exact hp _ _ h
      |cons o l ih=>
        intro i rs h;rcases h with⟨d,W,h1,h2,h3⟩|⟨v,W,h1,h2,h3,h4,h5⟩
        .exact .inl ⟨d,W,h1,h2,ih _ _ h3⟩
        .exact .inr ⟨v,W,h1,h2,h3,h4,hp _ _ h5⟩
     refine this _ _ (λe' s hs=>?_) _ _ _ _ _ _ _ _ e3;rcases hs with⟨rfl,rs,e1,e2,rfl⟩|⟨σ',e1,e2,e3⟩
     .obtain⟨T2,H2,e4,e5⟩:=aLd (ops:=l.toArray) (fr:=σ1.N) l 0 rs σ1.T σ1.H _ r (cM σ1) (λq o ho=>by rw[Nat.zero_add];simp[Region.fE,ho]) (by omega) e1 (gO.den σ1)
      obtain⟨T3,e6,e7,e8⟩:=JU e4;refine⟨⟨T3,H2,σ1.N+8*l.length⟩,⟨by show 100<=σ1.N+8*l.length;omega,e6⟩,?_⟩;exact aAC (σ:=⟨T3,H2,σ1.N+8*l.length⟩) (e5.T' e7)
     .have e2':σ'.N=σ1.N+8*l.length:=by rw[e2];simp
      refine⟨σ',⟨by omega,e1⟩,?_⟩;rw[<-e2'];exact aAC e3
   cases h with
   |sub=>exact sub _ _ _ _ _ _ _ _ _ _ _ _ he hh hN
   |gI a b d=>exact go a b d he
   |_=>exact go [] [] [] he
end Go.Ax
/- Loops and parts of the code as declarations of their own; functions. -/
namespace Go.Ax
open aA
open Go.RowKit Go.Ab
theorem a6n{c:Cx}(hc:aF c){M:Nat}{hb:Hint}{body:Code}(hh:bJ c M hb body){nm:Nm}{out:List (Exit×Nm)}{n:Nat}{σ:Sg}{K:Exit->Sg->O}{r:aE}(h:vD c M hb body nm out n σ K=some r)(hN:100<=σ.N):
    sZ c M (.loop body) σ λe σ'=>100<=σ'.N/\K e σ'=some r:=by
 intro E hE;refine a94 (ι:=Nat×Sg) (λp=>cM p.2) (λp=>vD c M hb body nm out p.1 p.2 K=some r/\100<=p.2.N) (λp=>p.1) (n,σ) eF.sH ⟨h,hN⟩ ?_;rintro⟨m,σ0⟩ ⟨h0,hN0⟩;simp only at h0 hN0;cases m with
 |zero=>cases h0
 |succ m=>
   unfold vD at h0;refine sV (Jd hc body hb σ0 _ r h0 hh hN0 E hE) ?_;rintro e s ⟨σ1,⟨hN1,h1⟩,hent⟩;cases e with
   |normal=>
     obtain⟨σ2,e1,e2,e3⟩:=Qm (k:=λσ'=>vD c M hb body nm out m σ' K) h1 hN1;exact⟨(m,σ2),⟨e1,by rw[e2];exact bZ _⟩,Nat.lt_succ_self m,eF.trans' hent (e3 E)⟩
   |_=>
     unfold eN at h1;obtain⟨nm',_,h1⟩:=bL h1;obtain⟨σ2,e1,e2,e3⟩:=Qm h1 hN1;exact⟨σ2,⟨by rw[e2];exact bZ _,e1⟩,eF.trans' hent (e3 E)⟩
theorem a5F{c:Cx}(hc:aF c){M:Nat}{hb:Hint}{code:Code}(hh:bJ c M hb code){out:List (Exit×Nm)}{σ:Sg}{K:Exit->Sg->O}{r:aE}(h:exec c M hb code σ (hY out K)=some r)(hN:100<=σ.N):
    sZ c M code σ λe σ'=>100<=σ'.N/\K e σ'=some r:=by
 intro E hE;refine sV (Jd hc code hb σ _ r h hh hN E hE) ?_;rintro e s ⟨σ1,⟨hN1,h1⟩,hent⟩;unfold hY at h1;obtain⟨nm',_,h1⟩:=bL h1;obtain⟨σ2,e1,e2,e3⟩:=Qm h1 hN1;exact⟨σ2,⟨by rw[e2];exact bZ _,e1⟩,eF.trans' hent (e3 E)⟩
section
variable{ι Y1 Y2 Y3:Type}{I:ι->Sg}{un:Sg->ι}{I1:Y1->Exit×Sg}{I2:Y2->Exit×Sg}{I3:Y3->Exit×Sg}
theorem cW{L:ι->(Y1->O)->(Y2->O)->(Y3->O)->O}(h:∀x,un (I x)=x)(x:ι)(k1:Y1->O)(k2:Y2->O)(k3:Y3->O):aY I un L (I x) k1 k2 k3=L x k1 k2 k3:=by
 unfold aY;rw[aJ (by rw[h]),h]
open Classical in
noncomputable def sN(u1:Exit->Sg->Y1)(u2:Exit->Sg->Y2)(u3:Exit->Sg->Y3)(I1:Y1->Exit×Sg)(I2:Y2->Exit×Sg)(I3:Y3->Exit×Sg)(k1:Y1->O)(k2:Y2->O)(k3:Y3->O)(e:Exit)(σ:Sg):O:=
 if I1 (u1 e σ)=(e,σ)then k1 (u1 e σ)else if I2 (u2 e σ)=(e,σ)then k2 (u2 e σ)else if I3 (u3 e σ)=(e,σ)then k3 (u3 e σ)else none
def iJ:Exit->Nat
 |.normal=>0
 |.ret=>1
 |.panic _=>2
 |.outgrown=>3
 |.exit n=>4+2*n
 |.goto n=>5+2*n
structure CS(u1:Exit->Sg->Y1)(u2:Exit->Sg->Y2)(u3:Exit->Sg->Y3)(I1:Y1->Exit×Sg)(I2:Y2->Exit×Sg)(I3:Y3->Exit×Sg)(e1 e2 e3:Nat):Prop where
 h1:∀y,u1 (I1 y).1 (I1 y).2=y
 h2:∀y,u2 (I2 y).1 (I2 y).2=y
 h3:∀y,u3 (I3 y).1 (I3 y).2=y
 x1:∀y,iJ (I1 y).1=e1
 x2:∀y,iJ (I2 y).1=e2
 x3:∀y,iJ (I3 y).1=e3
 n12:e1≠e2
 n13:e1≠e3
 n23:e2≠e3
theorem aLZ{u1:Exit->Sg->Y1}{u2:Exit->Sg->Y2}{u3:Exit->Sg->Y3}{e1 e2 e3:Nat}(h:CS u1 u2 u3 I1 I2 I3 e1 e2 e3)(k1:Y1->O)(k2:Y2->O)(k3:Y3->O):(λy=>sN u1 u2 u3 I1 I2 I3 k1 k2 k3 (I1 y).1 (I1 y).2)=k1:=by
 funext y
 unfold sN;rw[aJ (by rw[h.h1]),h.h1]
theorem aLY{u1:Exit->Sg->Y1}{u2:Exit->Sg->Y2}{u3:Exit->Sg->Y3}{e1 e2 e3:Nat}(h:CS u1 u2 u3 I1 I2 I3 e1 e2 e3)(k1:Y1->O)(k2:Y2->O)(k3:Y3->O):(λy=>sN u1 u2 u3 I1 I2 I3 k1 k2 k3 (I2 y).1 (I2 y).2)=k2:=by
 funext y
 unfold sN;rw[aD (λe=>h.n12 (by have:=bE (λp=>iJ p.1) e;simp only[h.x1]at this;rw[this];exact h.x2 y)),aJ (by rw[h.h2]),h.h2]
theorem aLX{u1:Exit->Sg->Y1}{u2:Exit->Sg->Y2}{u3:Exit->Sg->Y3}{e1 e2 e3:Nat}(h:CS u1 u2 u3 I1 I2 I3 e1 e2 e3)(k1:Y1->O)(k2:Y2->O)(k3:Y3->O):(λy=>sN u1 u2 u3 I1 I2 I3 k1 k2 k3 (I3 y).1 (I3 y).2)=k3:=by
 funext y
 unfold sN;rw[aD (λe=>h.n13 (by have:=bE (λp=>iJ p.1) e;simp only[h.x1]at this;rw[this];exact h.x3 y)),aD (λe=>h.n23 (by have:=bE (λp=>iJ p.1) e;simp only[h.x2]at this;rw[this];exact h.x3 y)),aJ (by rw[h.h3]),h.h3]
theorem aLW{u1:Exit->Sg->Y1}{u2:Exit->Sg->Y2}{u3:Exit->Sg->Y3}{k1:Y1->O}{k2:Y2->O}{k3:Y3->O}{e:Exit}{σ:Sg}{r:aE}(h:sN u1 u2 u3 I1 I2 I3 k1 k2 k3 e σ=some r):
    (∃y,k1 y=some r/\I1 y=(e,σ))\/(∃y,k2 y=some r/\I2 y=(e,σ))\/∃y,k3 y=some r/\I3 y=(e,σ):=by
 unfold sN at h;split at h
 .exact .inl ⟨_,h,‹_›⟩
 .split at h
  .exact .inr (.inl ⟨_,h,‹_›⟩)
  .split at h
   .exact .inr (.inr ⟨_,h,‹_›⟩)
   .cases h
theorem eV{c:Cx}(hc:aF c){M:Nat}{hb:Hint}{body:Code}{nm:Nm}{out:List (Exit×Nm)}(hh:bJ c M hb body){u1:Exit->Sg->Y1}{u2:Exit->Sg->Y2}{u3:Exit->Sg->Y3}{e1 e2 e3:Nat}(hO:CS u1 u2 u3 I1 I2 I3 e1 e2 e3)
    {L:ι->(Y1->O)->(Y2->O)->(Y3->O)->O} {n:Nat} (hL:∀x K,L x (λy=>K (I1 y).1 (I1 y).2) (λy=>K (I2 y).1 (I2 y).2) (λy=>K (I3 y).1 (I3 y).2)=vD c M hb body nm out n (I x) K):
    cN c M (.loop body) I1 I2 I3 (aY I un L):=by
 intro σ k1 k2 k3 r h hN;unfold aY at h;split at h
 case isFalse=>cases h
 rename_i hσ;have:=hL (un σ) (sN u1 u2 u3 I1 I2 I3 k1 k2 k3);rw[aLZ hO,aLY hO,aLX hO,h,<-hσ]at this;intro E hE;refine sV (a6n hc hh this.symm (by omega) E hE) ?_;rintro e s ⟨σ1,⟨h1,h2⟩,h3⟩;exact⟨σ1,⟨h1,aLW h2⟩,h3⟩
theorem iV{c:Cx}(hc:aF c){M:Nat}{hb:Hint}{code:Code}{out:List (Exit×Nm)}(hh:bJ c M hb code){u1:Exit->Sg->Y1}{u2:Exit->Sg->Y2}{u3:Exit->Sg->Y3}{e1 e2 e3:Nat}(hO:CS u1 u2 u3 I1 I2 I3 e1 e2 e3)
    {L:ι->(Y1->O)->(Y2->O)->(Y3->O)->O} (hL:∀x K,L x (λy=>K (I1 y).1 (I1 y).2) (λy=>K (I2 y).1 (I2 y).2) (λy=>K (I3 y).1 (I3 y).2)=exec c M hb code (I x) (hY out K)):
    cN c M code I1 I2 I3 (aY I un L):=by
 intro σ k1 k2 k3 r h hN;unfold aY at h;split at h
 case isFalse=>cases h
 rename_i hσ;have:=hL (un σ) (sN u1 u2 u3 I1 I2 I3 k1 k2 k3);rw[aLZ hO,aLY hO,aLX hO,h,<-hσ]at this;intro E hE;refine sV (a5F hc hh this.symm (by omega) E hE) ?_;rintro e s ⟨σ1,⟨h1,h2⟩,h3⟩;exact⟨σ1,⟨h1,aLW h2⟩,h3⟩
theorem eW{c:Cx}{M:Nat}{hb:Hint}{body:Code}{nm:Nm}{out:List (Exit×Nm)}(l:Nat->ι->(Y1->O)->(Y2->O)->(Y3->O)->O)(h0:∀x k1 k2 k3,l 0 x k1 k2 k3=none)
    (hs:∀n (K:Exit->Sg->O),(∀x,l n x (λy=>K (I1 y).1 (I1 y).2) (λy=>K (I2 y).1 (I2 y).2) (λy=>K (I3 y).1 (I3 y).2)=vD c M hb body nm out n (I x) K)->
     ∀x,l (n+1) x (λy=>K (I1 y).1 (I1 y).2) (λy=>K (I2 y).1 (I2 y).2) (λy=>K (I3 y).1 (I3 y).2)=exec c M hb body (I x) (eN nm out (λσ=>vD c M hb body nm out n σ K) K)):
    ∀n x (K:Exit->Sg->O),l n x (λy=>K (I1 y).1 (I1 y).2) (λy=>K (I2 y).1 (I2 y).2) (λy=>K (I3 y).1 (I3 y).2)=vD c M hb body nm out n (I x) K:=by
 intro n
 induction n with
 |zero=>intro x K;exact h0 ..
 |succ n ih=>intro x K;exact hs n K (λx=>ih x K) x
end
def HA(H:XH):List (Nat×aZ):=H.map λp=>(p.1,p.2.A)
theorem vE{k:Nat}:∀{H:XH},Ab.look k (HA H)=(lk k H).map XO.A
 |[]=>rfl
 |(k',o)::H=>by
   have ih:=vE (k:=k) (H:=H);unfold HA at ih ⊢;simp only[iB];unfold Ab.look lk;by_cases e:k'=k
   .subst e;simp
   .rw[aD e,oB e];exact ih
theorem aLM:∀(l:List X)(t0 t:Nat),lk t (bU t0 l)=if t0<=t then l[t-t0]? else none
 |[],t0,t=>by simp[bU,lk]
 |x::l,t0,t=>by
   unfold bU lk;by_cases e:t0=t
   .subst e;simp
   .rw[oB e,]
    simp only;rw[aLM l (t0+1) t];by_cases h:t0<=t
    .rw[aJ h,aJ (by omega),show t-t0=(t-(t0+1))+1 by omega];simp
    .rw[aD h,aD (by omega)]
theorem aMF(xs:List X)(H:XH):cM ⟨bU 0 xs,H,100⟩=args (xs.map X.D) (HA H):=by
 unfold cM args;refine mk_eq (λt=>?_) (λk=>?_) rfl
 .simp[aLM]
 .exact vE.symm
def mA(o:XO):XO:=match o with
 |.row e τ l _=>.row e τ l true
 |o=>o
theorem x8:∀(H:XH)(k:Nat),lk k (n6 H)=(lk k H).map mA
 |[],k=>rfl
 |(k',o)::H,k=>by
   cases o with
   |row e τ l st=>
     unfold n6 lk;split
     .rfl
     .exact x8 H k
   |box e xs=>
     unfold n6 lk;split
     .rfl
     .exact x8 H k
   |nest e e' τ l=>
     unfold n6 lk;split
     .rfl
     .exact x8 H k
   |it s pos=>
     unfold n6 lk;split
     .rfl
     .exact x8 H k
   |mp τ l=>
     unfold n6 lk;split
     .rfl
     .exact x8 H k
   |dZ e e' κ ρ l ln=>
     cases ln with
     |none=>
       unfold n6 lk;split
       .rfl
       .exact x8 H k
     |some p=>
       unfold n6 lk;split
       .rfl
       .exact x8 H k
theorem a4V(o:XO):mA o=o\/Q1 o=some (mA o):=by
 cases o with
 |row e τ l st=>
   cases st with
   |true=>exact .inl rfl
   |false=>exact .inr rfl
 |box e xs=>exact .inl rfl
 |mp τ l=>exact .inl rfl
 |it s pos=>exact .inl rfl
 |dZ e e' κ ρ l ln=>
   exact .inl rfl
 |nest e e' τ l=>
   exact .inl rfl
theorem aLw{E:Env}{σ:Sg}:∀(l:List Nat),eF E (cM σ) (mk (λt=>(lk t σ.T).map X.D) (λk=>((lk k σ.H).map λo=>if k∈l then mA o else o).map XO.A) σ.N)
 |[]=>by
   unfold cM;rw[mk_eq (T':=λt=>(lk t σ.T).map X.D) (H':=λk=>((lk k σ.H).map λo=>if k∈([]:List Nat)then mA o else o).map XO.A) (λ_=>rfl) (λk=>?_) rfl]
   .exact eF.sH
   .cases lk k σ.H <;> simp
 |q::l=>by
   refine eF.trans' (aLw l) ?_;by_cases hq:q∈l
   .rw[mk_eq (T':=λt=>(lk t σ.T).map X.D) (H':=λk=>((lk k σ.H).map λo=>if k∈q::l then mA o else o).map XO.A) (λ_=>rfl) (λk=>?_) rfl]
    .exact eF.sH
    .congr 2
     funext o
     by_cases hk:k∈l
     .rw[aJ hk,aJ (eY _ hk)]
     .rw[aD hk,aD (λh=>by rcases eP.1 h with h|h;exact hk (h ▸ hq);exact hk h)]
   .cases ho:lk q σ.H with
    |none=>
      rw[mk_eq (T':=λt=>(lk t σ.T).map X.D) (H':=λk=>((lk k σ.H).map λo=>if k∈q::l then mA o else o).map XO.A) (λ_=>rfl) (λk=>?_) rfl]
      .exact eF.sH
      .by_cases e:k=q
       .subst e;rw[ho];rfl
       .congr 2
        funext o
        by_cases hk:k∈l
        .rw[aJ hk,aJ (eY _ hk)]
        .rw[aD hk,aD (λh=>by rcases eP.1 h with h|h;exact e h;exact hk h)]
    |some o=>
      have other:∀k,k≠q->((lk k σ.H).map λo=>if k∈l then mA o else o)=((lk k σ.H).map λo=>if k∈q::l then mA o else o):=λk e=>by
       congr 1
       funext o
       by_cases hk:k∈l
       .rw[aJ hk,aJ (eY _ hk)]
       .rw[aD hk,aD (λh=>by rcases eP.1 h with h|h;exact e h;exact hk h)]
      rcases a4V o with h|h
      .rw[mk_eq (T':=λt=>(lk t σ.T).map X.D) (H':=λk=>((lk k σ.H).map λo=>if k∈q::l then mA o else o).map XO.A) (λ_=>rfl) (λk=>?_) rfl]
       .exact eF.sH
       .by_cases e:k=q
        .subst e
         rw[ho];simp[hq,h]
        .rw[other k e]
      .have:=aKH (q:=q) h (E:=E) (T:=λt=>(lk t σ.T).map X.D) (H:=λk=>((lk k σ.H).map λo=>if k∈l then mA o else o).map XO.A) (N:=σ.N) (by rw[ho];simp[hq])
       rw[mk_eq (T':=λt=>(lk t σ.T).map X.D) (H:=λj=>if q=j then some (mA o).A else((lk j σ.H).map λo=>if j∈l then mA o else o).map XO.A) (H':=λk=>((lk k σ.H).map λo=>if k∈q::l then mA o else o).map XO.A) (N:=σ.N) (λ_=>rfl) (λk=>?_) rfl]at this
       .exact this
       .by_cases e:q=k
        .subst e
         rw[aJ rfl,ho];simp
        .rw[aD e,other k (λh=>e h.symm)]
theorem a4U(σ:Sg)(E:Env):eF E (cM σ) (cM ⟨σ.T,n6 σ.H,σ.N⟩):=by
 have:=aLw (E:=E) (σ:=σ) (σ.H.map (·.1));unfold cM at this ⊢;rw[show(λk=>(lk k (n6 σ.H)).map XO.A)=λk=>((lk k σ.H).map λo=>if k∈σ.H.map (·.1)then mA o else o).map XO.A from ?_]
 .exact this
 funext k
 rw[x8];cases hk:lk k σ.H with
 |none=>rfl
 |some o=>
   have hm:k∈σ.H.map (·.1):=fG.2 ⟨_,mT hk,rfl⟩;simp[hm]
end Go.Ax
/- What functions give back; contracts. -/
namespace Go.Ax
open aA
open Go.RowKit Go.Ab
theorem a9N(c:Cx)(σ:Vw)(t:TypeId)(x:X):cG σ.den.H x.D (canon c σ t x).D:=by
 unfold canon;split
 .split
  .rename_i y h
   exact(Zj σ x).trans (lQ h)
  .exact cG.refl
 .exact cG.refl
theorem Re(c:Cx)(σ:Vw):∀(ts:List TypeId)(xs:List X),eJ σ.den.H (xs.map X.D) ((F6 c σ ts xs).map X.D)
 |[],xs=>by
   have:F6 c σ [] xs=xs:=by cases xs <;> rfl
   rw[this];exact eJ.refl
 |t::ts,[]=>.nil
 |t::ts,x::xs=>.cons (a9N c σ t x) (Re c σ ts xs)
theorem aLI{α β:Type}{f:α->Option β}:∀{l:List α}{r:List β},yM f l=some r->l.length=r.length/\∀(i:Nat)(y:β),r[i]?=some y->∃x,l[i]?=some x/\f x=some y
 |[],r,h=>by cases h;exact⟨rfl,λi y h=>by simp at h⟩
 |x::l,r,h=>by
   unfold yM at h;split at h
   .rename_i y hy
    split at h
    .rename_i r' hr
     cases h;obtain⟨h1,h2⟩:=aLI hr;refine⟨by simp[h1],λi z hz=>?_⟩;cases i with
     |zero=>simp at hz;subst hz;exact⟨x,rfl,hy⟩
     |succ i=>exact h2 i z (by simpa using hz)
    .cases h
   .cases h
theorem a4g{P:Program}{σ:Sg}{rv:ResultVar}{x:X}(h:Q4 P σ rv=some x):RV P (cM σ) rv x.D:=by
 cases rv with
 |tmp t=>
   simp only[Q4]at h;exact .tmp (by show(lk t σ.T).map X.D=_;rw[h];rfl)
 |cell p t=>
   simp only[Q4]at h;split at h
   .rename_i q hp
    have hp':(cM σ).T p=some (.ref q 0):=by show(lk p σ.T).map X.D=_;rw[hp];rfl
    split at h
    .rename_i e xs hq
     have hq':(cM σ).H q=some (.box e (xs.map X.D)):=by show(lk q σ.H).map XO.A=_;rw[hq];rfl
     split at h
     .rename_i m ys hr hs
      split at h
      .rename_i hb
       cases h;rw[X.D,fO];exact .row hp' hq' hr hs (by rw[dR];exact cA hb)
      .cases h
     .rename_i y hr
      cases h;exact .one hp' hq' hr
     .cases h
    .cases h
   .cases h
theorem aKU{E:Env}{σ:St}{tm:Array Value}{w:World}(ρ:Nat->Nat){d d1 r:D}{H':List (Nat×aZ)}(hR:R E σ tm w){v:Value}(hv:∀ν G,Inv E σ ν G w tm->DR ν σ.nm w G v d)(hw:cG σ.H d d1)
    (hle:eC false σ.H (λk=>decide (k<108)) ρ d1 r) (hH:∀k o',Ab.look k H'=some o'->k<108/\∃o,σ.H (ρ k)=some o/\iA false σ.H (λk=>decide (k<108)) ρ o o')
    (hinj:∀k k' o o',Ab.look k H'=some o->Ab.look k' H'=some o'->ρ k=ρ k'->k=k') (hid:∀k,50<=k->k<100->ρ k=k):R { E with m:=1 } (res r H') #[v] w:=by
 obtain⟨ν,G,I⟩:=hR;have hρ:∀k',decide (k'<108)=true->σ.nm (ρ k')=true->(λk=>ν (ρ k)) k'=ν (ρ k'):=λ_ _ _=>rfl
 refine⟨λk=>ν (ρ k),G,⟨I.kept.os,I.kept.tape,I.kept.output,I.kept.size,I.kept.block⟩,I.eR,λk h1 h2=>?_,I.g0,rfl,λt d' h=>?_,λk o' h=>?_,λk o k' o' h h' hne g hg=>?_⟩
 .show ν (ρ k)=_
  rw[hid k h1 h2];exact I.gE k h1 h2
 .simp only at h
  split at h
  .rename_i e;subst e;cases h
   exact⟨v,rfl,hle.rel (λ_ _ _ h=>h) I.rows hρ (hw _ _ _ _ _ _ (λ_ _ h=>h) I v (hv ν G I))⟩
  .cases h
 .obtain⟨hk,o,ho,hle⟩:=hH k o' h
  exact⟨aQ hk,(I.H _ o ho).2.view hle I.rows hρ rfl (λ_ _ h=>h)⟩
 .obtain⟨_,o1,h1,l1⟩:=hH k o h
  obtain⟨_,o2,h2,l2⟩:=hH k' o' h';exact λhg'=>I.eB _ o1 _ o2 h1 h2 (λe=>hne (hinj k k' o o' h h' e)) g (l1.ft.1 hg) (l2.ft.1 hg')
theorem aJn{ν:Nat->Value}{nm:Nat->Bool}{w:World}{G:cE}{vs:List Value}{ds:List D}(hl:vs.length=ds.length)(h:∀(i:Nat)(v:Value)(d:D),vs[i]?=some v->ds[i]?=some d->DR ν nm w G v d):DR ν nm w G (.tuple vs.toArray) (.bD ds):=
 .bD (by simpa using hl) λi u d hu hd=>h i u d (by simpa using hu) hd
theorem cG.bD{H:Nat->Option aZ}{a b:List D}(h:eJ H a b):cG H (.bD a) (.bD b):=λE s ν G w tm hH I v hv=>by
 cases hv with
 |bD hl hr=>
   refine .bD (hl.trans h.len) (λi u d hu hd=>?_);obtain⟨d0,e0,hw⟩:=h.get i d hd;exact hw E s ν G w tm hH I u (hr i u d0 hu e0)
theorem a4f{P:Program}{fn:Func}{E:Env}{s:St}{tm:Array Value}{w:World}(hR:R E s tm w):∀{xs:List D},fn.results.toList.length=xs.length->xs.length<=5->(∀(i:Nat)(rv:ResultVar)(d:D),fn.results.toList[i]?=some rv->xs[i]?=some d->RV P s rv d)->
    ∃v,(results fn tm).run P w = .ok v w/\∀ν G,Inv E s ν G w tm->DR ν s.nm w G v (match xs with|[d]=>d|xs=>.bD xs):=by
 intro xs hl h3 hrv;have hres:fn.results=fn.results.toList.toArray:=by simp
 match hf:fn.results.toList,xs,hl with
 |[],[],_=>
   refine⟨.tuple #[],?_,λν G I=>.bD rfl (λi u d h=>by simp at h)⟩;rw[Ev,hres,hf];simp
 |[p],[d],_=>
   obtain⟨v,hv,hd⟩:=(hrv 0 p d (by rw[hf];rfl) rfl).all hR;refine⟨v,?_,hd⟩;rw[Ev,hres,hf];simp[hv]
 |[p1,p2],[d1,d2],_=>
   obtain⟨v1,hv1,hd1⟩:=(hrv 0 p1 d1 (by rw[hf];rfl) rfl).all hR;obtain⟨v2,hv2,hd2⟩:=(hrv 1 p2 d2 (by rw[hf];rfl) rfl).all hR;refine⟨.tuple #[v1,v2],?_,λν G I=>aJo (hd1 ν G I) (hd2 ν G I)⟩;rw[Ev,hres,hf];simp[hv1,hv2]
 |[p1,p2,p3],[d1,d2,d3],_=>
   obtain⟨v1,hv1,hd1⟩:=(hrv 0 p1 d1 (by rw[hf];rfl) rfl).all hR;obtain⟨v2,hv2,hd2⟩:=(hrv 1 p2 d2 (by rw[hf];rfl) rfl).all hR;obtain⟨v3,hv3,hd3⟩:=(hrv 2 p3 d3 (by rw[hf];rfl) rfl).all hR;refine⟨.tuple #[v1,v2,v3],?_,λν G I=>a4B (hd1 ν G I) (hd2 ν G I) (hd3 ν G I)⟩;rw[Ev,hres,hf];simp[hv1,hv2,hv3]
 |[p1,p2,p3,p4],[d1,d2,d3,d4],_=>
   obtain⟨v1,hv1,hd1⟩:=(hrv 0 p1 d1 (by rw[hf];rfl) rfl).all hR;obtain⟨v2,hv2,hd2⟩:=(hrv 1 p2 d2 (by rw[hf];rfl) rfl).all hR;obtain⟨v3,hv3,hd3⟩:=(hrv 2 p3 d3 (by rw[hf];rfl) rfl).all hR;obtain⟨v4,hv4,hd4⟩:=(hrv 3 p4 d4 (by rw[hf];rfl) rfl).all hR;refine⟨.tuple #[v1,v2,v3,v4],?_,λν G I=>aJn (vs:=[v1,v2,v3,v4]) rfl λi v d h1 h2=>?_⟩
   .rw[Ev,hres,hf]
    simp[hv1,hv2,hv3,hv4]
   .match i,h1,h2 with
    |0,h1,h2=>cases h1;cases h2;exact hd1 ν G I
    |1,h1,h2=>cases h1;cases h2;exact hd2 ν G I
    |2,h1,h2=>cases h1;cases h2;exact hd3 ν G I
    |3,h1,h2=>cases h1;cases h2;exact hd4 ν G I
    |i+4,h1,_=>simp at h1
 |[p1,p2,p3,p4,p5],[d1,d2,d3,d4,d5],_=>
   obtain⟨v1,hv1,hd1⟩:=(hrv 0 p1 d1 (by rw[hf];rfl) rfl).all hR;obtain⟨v2,hv2,hd2⟩:=(hrv 1 p2 d2 (by rw[hf];rfl) rfl).all hR;obtain⟨v3,hv3,hd3⟩:=(hrv 2 p3 d3 (by rw[hf];rfl) rfl).all hR;obtain⟨v4,hv4,hd4⟩:=(hrv 3 p4 d4 (by rw[hf];rfl) rfl).all hR;obtain⟨v5,hv5,hd5⟩:=(hrv 4 p5 d5 (by rw[hf];rfl) rfl).all hR;refine⟨.tuple #[v1,v2,v3,v4,v5],?_,λν G I=>aJn (vs:=[v1,v2,v3,v4,v5]) rfl λi v d h1 h2=>?_⟩
   .rw[Ev,hres,hf]
    simp[hv1,hv2,hv3,hv4,hv5]
   .match i,h1,h2 with
    |0,h1,h2=>cases h1;cases h2;exact hd1 ν G I
    |1,h1,h2=>cases h1;cases h2;exact hd2 ν G I
    |2,h1,h2=>cases h1;cases h2;exact hd3 ν G I
    |3,h1,h2=>cases h1;cases h2;exact hd4 ν G I
    |4,h1,h2=>cases h1;cases h2;exact hd5 ν G I
    |i+5,h1,_=>simp at h1
 |a::b::c::d::e::f::l,xs,hl=>simp at hl;omega
theorem Zr{c:Cx}{fn:Func}{ow:Bool}{e:Exit}{σ:Sg}{r:aE}(h:qY c fn ow e σ=some r):(e = .normal\/e = .ret)/\∀(E:Env)(tm:Array Value)(w:World),R E (cM σ) tm w->∃v,(results fn tm).run c.P w = .ok v w/\R { E with m:=1 } (res r.1.D (HA r.2)) #[v] w:=by
 unfold qY at h;split at h
 case h_2=>cases h
 rename_i he;refine⟨(by cases e <;> first|exact .inl rfl|exact .inr rfl|cases he),λE tm w hR=>?_⟩;clear he;have hR1:R E (cM (Q2 ow σ)) tm w:=by
  cases ow
  .exact a4U σ E tm w hR
  .exact hR
 obtain⟨σ1,hσ1⟩:∃σ1,Q2 ow σ=σ1:=⟨_,rfl⟩
 rw[hσ1]at hR1;simp only[hσ1]at h;clear hR hσ1;obtain⟨xs,hxs,h⟩:=bL h;obtain⟨ys,hys⟩:∃ys,aAP c fn ow σ1 xs=ys:=⟨_,rfl⟩
 simp only[hys]at h;have hw:eJ (cM σ1).H (xs.map X.D) (ys.map X.D):=by
  rw[<-hys];cases ow
  .exact Re c σ1.vw _ xs
  .exact eJ.refl
 clear hys;split at h
 case h_2=>cases h
 rename_i hrn;have F:=Yg hrn;obtain⟨zs,hzs,h⟩:=bL h;obtain⟨H',hH',h⟩:=bL h;obtain⟨m1,m2⟩:=aLI hxs;have hlen:xs.length=ys.length:=by have:=hw.len;simpa using this
 have hf:∀k k',qO (jJ 100 (reach σ1.vw.H 60 (kL ys (live σ1.H)) [])) k=some k'->decide (k'<108)=true/\k=bP (jJ 100 (reach σ1.vw.H 60 (kL ys (live σ1.H)) [])) k':=λk k' hk=>by
  unfold qO at hk;split at hk
  .rename_i hH
   cases hk;refine⟨aQ (by have:=(sP.1 hH).2;omega),?_⟩;unfold bP;cases hl:Ab.look k _ with
   |none=>rfl
   |some z=>
     have:=(F.iQ _ _ (lC hl)).2.2.1;rw[hH]at this;cases this
  .obtain⟨_,b,_,d⟩:=F.iQ _ _ (FG hk)
   exact⟨aQ b,d.symm⟩
 have hren:=x9 (H:=(cM σ1).H) (nm':=λk=>decide (k<108)) hf ys zs hzs;have hzl:ys.length=zs.length:=by have:=hren.get.1;simpa[fO]using this
 -- objects
 have hHH:∀k o',Ab.look k (HA H')=some o'->k<108/\∃o,(cM σ1).H (bP (jJ 100 (reach σ1.vw.H 60 (kL ys (live σ1.H)) [])) k)=some o/\iA false (cM σ1).H (λk=>decide (k<108)) (bP (jJ 100 (reach σ1.vw.H 60 (kL ys (live σ1.H)) []))) o o':=λk o' hk=>by
  rw[vE]at hk;obtain⟨y,hy,rfl⟩:=cV.1 hk;obtain⟨q,o,e1,e2,e3⟩:=sF _ _ hH' k y hy;obtain⟨a1,a2⟩:=F.al k q e1;refine⟨?_,o.A,by rw[a1];exact bE (aMd XO.A) e2,JP hf e3⟩;rcases a2 with a2|⟨q',a2⟩
  .have:=(sP.1 a2).2;omega
  .exact(F.iQ _ _ a2).2.1
 have hinj:∀k k' o o',Ab.look k (HA H')=some o->Ab.look k' (HA H')=some o'->bP (jJ 100 (reach σ1.vw.H 60 (kL ys (live σ1.H)) [])) k=bP (jJ 100 (reach σ1.vw.H 60 (kL ys (live σ1.H)) [])) k'->k=k':=λk k' o o' h1 h2 e=>by
  rw[vE]at h1 h2;obtain⟨y1,hy1,rfl⟩:=cV.1 h1;obtain⟨y2,hy2,rfl⟩:=cV.1 h2;obtain⟨q1,_,e1,_,_⟩:=sF _ _ hH' k y1 hy1;obtain⟨q2,_,e2,_,_⟩:=sF _ _ hH' k' y2 hy2;rw[(F.al k q1 e1).1,(F.al k' q2 e2).1]at e;subst e;exact Qn F.nd (mT e1) (mT e2)
 have hid:∀k,50<=k->k<100->bP (jJ 100 (reach σ1.vw.H 60 (kL ys (live σ1.H)) [])) k=k:=λk h1 h2=>by
  unfold bP;cases hl:Ab.look k _ with
  |none=>rfl
  |some z=>
    have:=(F.iQ _ _ (lC hl)).2.2.1;rw[sP.2 ⟨h1,h2⟩]at this;cases this
 have hlen3:xs.length<=5:=by
  rw[hlen,hzl];split at h
  .simp
  .simp
  .simp
  .simp
  .simp
  .simp
  .cases h
 obtain⟨v,hv1,hv2⟩:=a4f (P:=c.P) (fn:=fn) hR1 (xs:=xs.map X.D) (by rw[dR];exact m1) (by rw[dR];exact hlen3) (λi rv d h1 h2=>by
  rw[dT]at h2;obtain⟨x,hx,rfl⟩:=cV.1 h2;obtain⟨rv',h3,h4⟩:=m2 i x hx;rw[h1]at h3;cases h3;exact a4g h4)
 refine⟨v,hv1,?_⟩;have hdw:cG (cM σ1).H (match xs.map X.D with|[d]=>d|xs=>.bD xs) (match ys.map X.D with|[d]=>d|xs=>.bD xs):=by
  match xs,ys,hlen,hw with
  |[],[],_,_=>exact cG.refl
  |[x],[y],_,hw=>cases hw with|cons h _=>exact h
  |x1::x2::xs,y1::y2::ys,_,hw=>exact cG.bD hw
 have hdl:eC false (cM σ1).H (λk=>decide (k<108)) (bP (jJ 100 (reach σ1.vw.H 60 (kL ys (live σ1.H)) []))) (match ys.map X.D with|[d]=>d|xs=>.bD xs) r.1.D/\r.2=H':=by
  have hy3:ys.length<=5:=by omega
  match ys,zs,hzl,hren,h,hy3 with
  |[],[],_,hren,h,_=>cases h;exact⟨.Eo hren,rfl⟩
  |[y],[z],_,hren,h,_=>cases h;cases hren with|cons h _=>exact⟨h,rfl⟩
  |[y1,y2],[z1,z2],_,hren,h,_=>cases h;exact⟨.Eo hren,rfl⟩
  |[y1,y2,y3],[z1,z2,z3],_,hren,h,_=>cases h;exact⟨.Eo hren,rfl⟩
  |[y1,y2,y3,y4],[z1,z2,z3,z4],_,hren,h,_=>cases h;exact⟨.Eo hren,rfl⟩
  |[y1,y2,y3,y4,y5],[z1,z2,z3,z4,z5],_,hren,h,_=>cases h;exact⟨.Eo hren,rfl⟩
  |_::_::_::_::_::_::_,_,_,_,_,hy3=>simp at hy3
 rw[hdl.2];exact aKU _ hR1 hv2 hdw hdl.1 hHH hinj hid
theorem a4i{f:Nat->Option Nat}{x y:X}(h:fS f x=some y)(v:Value):y≠.dY v:=λe=>by
 subst e;cases x <;> unfold fS at h <;> first|cases h|(split at h <;> cases h)
theorem a4j{f:Nat->Option Nat}{xs:List X}{z:X}(h:n8 f xs=some [z]):∃x,fS f x=some z:=by
 cases xs with
 |nil=>cases h
 |cons x l=>
   unfold n8 at h;split at h
   .rename_i y hy
    split at h
    .cases h;exact⟨x,hy⟩
    .cases h
   .cases h
theorem aLl{c:Cx}{fn:Func}{ow:Bool}{e:Exit}{σ:Sg}{r:aE}(h:qY c fn ow e σ=some r)(v:Value):r.1≠.dY v:=by
 unfold qY at h;split at h
 case h_2=>cases h
 obtain⟨xs,hxs,h⟩:=bL h;obtain⟨ys,hys⟩:∃ys,aAP c fn ow (Q2 ow σ) xs=ys:=⟨_,rfl⟩
 simp only[hys]at h;split at h
 case h_2=>cases h
 obtain⟨zs,hzs,h⟩:=bL h;obtain⟨H',hH',h⟩:=bL h;split at h
 .cases h
  obtain⟨x,hx⟩:=a4j hzs;exact a4i hx v
 all_goals first|(cases h;exact λe=>by cases e)|cases h
theorem aLm{ch:List PanicEntry}{σ:Sg}{r:aE}(h:RQ ch σ=some r):∃v,r.1 = .dY v/\ch=[lS v]/\∀(E:Env)(tm:Array Value)(w:World),R E (cM σ) tm w->R { E with m:=1 } (res .any (HA r.2)) #[undef] w:=by
 unfold RQ at h;split at h
 case h_2=>cases h
 rename_i p;split at h
 .cases h
 rename_i hp
 dsimp only at h
 split at h
 case h_2=>cases h
 rename_i hrn;have F:=Yg hrn;obtain⟨H',hH',h⟩:=bL h;cases h;refine⟨p.v,rfl,?_,λE tm w hR=>?_⟩
 .obtain⟨v,a,b⟩:=p
  rw[Bool.or_eq_false_iff]at hp;obtain⟨h1,h2⟩:=hp;simp only at h1 h2;subst h1 h2;rfl
 have hf:∀k k',qO (jJ 100 (reach σ.vw.H 60 (oD σ.H) [])) k=some k'->decide (k'<108)=true/\k=bP (jJ 100 (reach σ.vw.H 60 (oD σ.H) [])) k':=λk k' hk=>by
  unfold qO at hk;split at hk
  .rename_i hH
   cases hk;refine⟨aQ (by have:=(sP.1 hH).2;omega),?_⟩;unfold bP;cases hl:Ab.look k _ with
   |none=>rfl
   |some z=>
     have:=(F.iQ _ _ (lC hl)).2.2.1;rw[hH]at this;cases this
  .obtain⟨_,b,_,d⟩:=F.iQ _ _ (FG hk)
   exact⟨aQ b,d.symm⟩
 have hHH:∀k o',Ab.look k (HA H')=some o'->k<108/\∃o,(cM σ).H (bP (jJ 100 (reach σ.vw.H 60 (oD σ.H) [])) k)=some o/\iA false (cM σ).H (λk=>decide (k<108)) (bP (jJ 100 (reach σ.vw.H 60 (oD σ.H) []))) o o':=λk o' hk=>by
  rw[vE]at hk;obtain⟨y,hy,rfl⟩:=cV.1 hk;obtain⟨q,o,e1,e2,e3⟩:=sF _ _ hH' k y hy;obtain⟨a1,a2⟩:=F.al k q e1;refine⟨?_,o.A,by rw[a1];exact bE (aMd XO.A) e2,JP hf e3⟩;rcases a2 with a2|⟨q',a2⟩
  .have:=(sP.1 a2).2;omega
  .exact(F.iQ _ _ a2).2.1
 have hinj:∀k k' o o',Ab.look k (HA H')=some o->Ab.look k' (HA H')=some o'->bP (jJ 100 (reach σ.vw.H 60 (oD σ.H) [])) k=bP (jJ 100 (reach σ.vw.H 60 (oD σ.H) [])) k'->k=k':=λk k' o o' h1 h2 e=>by
  rw[vE]at h1 h2;obtain⟨y1,hy1,rfl⟩:=cV.1 h1;obtain⟨y2,hy2,rfl⟩:=cV.1 h2;obtain⟨q1,_,e1,_,_⟩:=sF _ _ hH' k y1 hy1;obtain⟨q2,_,e2,_,_⟩:=sF _ _ hH' k' y2 hy2;rw[(F.al k q1 e1).1,(F.al k' q2 e2).1]at e;subst e;exact Qn F.nd (mT e1) (mT e2)
 have hid:∀k,50<=k->k<100->bP (jJ 100 (reach σ.vw.H 60 (oD σ.H) [])) k=k:=λk h1 h2=>by
  unfold bP;cases hl:Ab.look k _ with
  |none=>rfl
  |some z=>
    have:=(F.iQ _ _ (lC hl)).2.2.1;rw[sP.2 ⟨h1,h2⟩]at this;cases this
 exact aKU (d:=.any) (d1:=.any) _ hR (λ_ _ _=>.any) cG.refl .any hHH hinj hid
def iL(P:Program)(f:FuncId)(ds:List D)(H:List (Nat×aZ))(r:aE):Prop:=match r.1 with
 |.dY v=>zR P f ds H v (HA r.2)
 |x=>cR P f ds H x.D (HA r.2)
theorem iL.of{P:Program}{f:FuncId}{ds:List D}{H:List (Nat×aZ)}{r:aE}(h:∀v,r.1≠.dY v)(k:cR P f ds H r.1.D (HA r.2)):iL P f ds H r:=by
 obtain⟨x,H'⟩:=r;unfold iL;cases x with
 |dY v=>exact absurd rfl (h v)
 |_=>exact k
theorem yU{c:Cx}(hc:aF c){f:FuncId}{fn:Func}{code:Code}(hf:c.P.funcs[f]?=some fn)(hb:fn.body=some code){h:Hint}(hh:bJ c fn.ntmps h code){xs:List X}{H:XH}(hm:xs.length<=fn.ntmps){ow:Bool}{r:aE}
    (he:exec c fn.ntmps h code ⟨bU 0 xs,H,100⟩ (bX c fn ow)=some r):iL c.P f (xs.map X.D) (HA H) r:=by
 have key:∀E:Env,E.m=fn.ntmps->iF c.P E code _ (args (xs.map X.D) (HA H)):=λE hE=>aMF xs H ▸ Jd hc code h _ _ r he hh (bZ _) E hE
 have fin:∀{e:Exit}{σ:Sg},bX c fn ow e σ=some r->(∃ch,e = .panic ch/\RQ ch σ=some r)\/qY c fn ow e σ=some r:=λ{e σ} h=>by
  unfold bX at h;split at h
  .exact .inl ⟨_,rfl,h⟩
  .exact .inr h
 by_cases hp:∃v,r.1 = .dY v
 .obtain⟨v,hv⟩:=hp
  have:iL c.P f (xs.map X.D) (HA H) r=zR c.P f (xs.map X.D) (HA H) v (HA r.2):=by unfold iL;rw[hv]
  rw[this];refine a4P hf hb (by rw[dR];exact hm) λE hE=>sV (key E hE) ?_
  rintro e s ⟨σ',⟨_,h1⟩,hent⟩;rcases fin h1 with⟨ch,rfl,h1⟩|h1
  .obtain⟨v',e1,e2,e3⟩:=aLm h1
   rw[hv]at e1;cases e1;exact⟨e2,λtm w hR=>e3 E tm w (hent tm w hR)⟩
  .exact absurd hv (aLl h1 v)
 .refine iL.of (λv hv=>hp ⟨v,hv⟩) (a4Q hf hb (by rw[dR];exact hm) λE hE=>sV (key E hE) ?_)
  rintro e s ⟨σ',⟨_,h1⟩,hent⟩;rcases fin h1 with⟨ch,rfl,h1⟩|h1
  .obtain⟨v',e1,_⟩:=aLm h1
   exact absurd ⟨v',e1⟩ hp
  .obtain⟨h2,h3⟩:=Zr h1
   rcases h2 with rfl|rfl
   .exact λtm w hR=>h3 E tm w (hent tm w hR)
   .exact λtm w hR=>h3 E tm w (hent tm w hR)
def aM(P:Program)(f:FuncId)(g:bK):Prop:=∀xs H pre r,g xs H=some (pre,r)->pre=true->cR P f (xs.map X.D) (HA H) r.1.D (HA r.2)
def kA(P:Program)(f:FuncId)(g:kT):Prop:=∀xs H pre b r rp,g xs H=some (pre,b,r,rp)->pre=true->(b=some true->cR P f (xs.map X.D) (HA H) r.1.D (HA r.2))/\(b≠some true->∀v,rp.1 = .dY v->zR P f (xs.map X.D) (HA H) v (HA rp.2))
def FJ (P : Program) (f : FuncId) : Bool := match P.funcs[f]? with | some fn => !(decide (fn.name = "runtime.NumGoroutine")) | none => true
def pZ(P:Program)(G:List (Nat×bK)):Prop:=∀f g,lk f G=some g->FJ P f=true/\aM P f g
theorem pZ.nil{P:Program}:pZ P []:=λf g h=>by cases h
theorem pZ.cons{P:Program}{f:Nat}{g:bK}{G:List (Nat×bK)}(hn:FJ P f=true)(h:aM P f g)(k:pZ P G):pZ P ((f,g)::G):=λf' g' h'=>by
 unfold lk at h';split at h'
 .rename_i he
  have:=cA he;subst this;cases h';exact⟨hn,h⟩
 .exact k f' g' h'
end Go.Ax
/- Operations: what a look-up is, numbers, truth values, strings. -/
namespace Go.Ax
open aA
open Go.RowKit Go.Ab
abbrev CC(g:Option Bool):Prop:=∀c,g=some c->c=true
theorem oG{g:Option Bool}{b:Bool}{k:O}{r:aE}(h:lF g b k=some r):k=some r/\(CC g->b=true):=by
 unfold lF at h;split at h
 .exact⟨(jL h).2,λ_=>(jL h).1⟩
 .rename_i c
  refine⟨(jL h).2,λhg=>?_⟩;have:=(jL h).1;rw[hg c rfl]at this;simpa using this
theorem FR{g:Option Bool}{τ:Ty}{l:List τ.V}{n:Int}{k:τ.V->O}{r:aE}(h:yT g τ l n k=some r):∃y,k y=some r/\(CC g->0<=n/\l[n.toNat]?=some y):=by
 unfold yT at h;split at h
 .obtain⟨y,h1,h2,h3⟩:=Zg h
  exact⟨y,h3,λ_=>⟨h1,h2⟩⟩
 .rename_i c
  change Zl c τ.zero l n k=some r at h;unfold Zl at h;cases c with
  |true=>
    obtain⟨y,h1,h2,h3⟩:=Zg h;exact⟨y,h3,λ_=>⟨h1,h2⟩⟩
  |false=>exact⟨_,h,λhg=>by have:=hg false rfl;cases this⟩
theorem Vw.On.g{σ:Vw}(h:σ.On):CC (σ.g.map (·.2)):=λc hc=>by
 obtain⟨p,hp,rfl⟩:=cV.1 hc;exact h p.1 p.2 hp
theorem YD{g:Option (Nat×Bool)}{x v:X}(h:u7 g x=some v):v.pl=true:=by
 unfold u7 at h;split at h
 .cases h;rfl
 .split at h
  .split at h
   .split at h
    .cases h;rfl
    .cases h
    .rename_i h1 h2
     cases h;cases v with
     |bit j q=>exact absurd rfl (h1 j q)
     |eX a b c=>exact absurd rfl (h2 a b c)
     |_=>rfl
   .cases h
  .cases h
 .rename_i h1 h2
  cases h;cases x with
  |bit j q=>exact absurd rfl (h1 j q)
  |eX a b c=>exact absurd rfl (h2 a b c)
  |_=>rfl
theorem YE{κ:Nat->Bool}{g:Option (Nat×Bool)}{x v:X}(hg:Good κ x)(hκ:∀key c,g=some (key,c)->c=κ key)(hon:∀key c,g=some (key,c)->c=true)(h:u7 g x=some v):x.D=v.D:=by
 unfold u7 at h;split at h
 .cases h;rfl
 .rename_i key c y
  split at h
  .rename_i key' c'
   split at h
   .rename_i hb
    have hb:=cA hb;subst hb;have hc:c=true:=hg.1.trans ((hκ _ _ rfl).symm.trans (hon _ _ rfl));subst hc;split at h
    .cases h;rfl
    .cases h
    .cases h;rfl
   .cases h
  .cases h
 .cases h;rfl
theorem a6Z(w:Value):(oA w).pl=true:=by
 unfold oA;split
 .split <;> rfl
 all_goals rfl
theorem a6Y{w:Value}{x:X}(h:sJ w=some x):x.pl=true:=by
 unfold sJ at h;split at h
 .split at h
  .cases h;rfl
  .cases h
 .cases h
 .cases h;exact a6Z w
theorem a7b(g:Nat):(J8 g).pl=true:=match g with
 |0=>rfl
 |1=>rfl
 |2=>rfl
 |3=>rfl
 |_g+4=>rfl
theorem yV{σ:Vw}{x:Operand}{v:X}(h:σ.ev x=some v):v.pl=true:=by
 cases x with
 |tmp t=>
   simp only[Vw.ev]at h;split at h
   .exact YD h
   .cases h
 |const w=>exact a6Y h
 |func f=>simp only[Vw.ev]at h;cases h;rfl
 |global g=>simp only[Vw.ev]at h;cases h;exact a7b g
theorem bV{σ:Vw}{κ:Nat->Bool}(hσ:σ.Ok κ)(hon:σ.On){x:Operand}{v:X}(h:σ.ev x=some v):σ.den.ev x=some v.D:=by
 cases x with
 |tmp t=>
   simp only[Vw.ev]at h;split at h
   .rename_i y hy
    have e:σ.den.ev (.tmp t)=some y.D:=q8 hy;rw[e,YE (hσ.qV t y hy) hσ.g hon h]
   .cases h
 |const w=>
   have:=ZB (σ:=⟨[],[],0⟩) h;exact this
 |func f=>simp only[Vw.ev]at h;cases h;rfl
 |global g=>simp only[Vw.ev]at h;cases h;exact bE some (aL5 g).symm
section
variable{P:Program}{o:Oper}{σ:St}{fr:Nat}
abbrev T8(c:UInt8):D:=.t (.v (.int .u8 (UInt8.toNat c:Int)))
abbrev TS(s:List UInt8):D:=.t (.v (.string ⟨⟨s⟩⟩))
theorem KA(n:Int):IntKind.u8.wrap n=n%256:=by
 have:IntKind.u8.wrap n=n%((2:Int)^8):=by unfold IntKind.wrap;simp[IntKind.signed,IntKind.bits]
 rw[this];rfl
theorem a3w(n:Int):((eD n).toNat:Int)=IntKind.u8.wrap n:=by
 rw[KA];unfold eD;rw[a9q];omega
theorem a9o(a b:UInt8):IntKind.u8.wrap ((a.toNat:Int)+b.toNat)=((a+b).toNat:Int):=by
 rw[KA,UInt8.toNat_add];omega
theorem a4G(a b:UInt8):IntKind.u8.wrap ((a.toNat:Int)-b.toNat)=((a-b).toNat:Int):=by
 have h1:=a.toNat_lt;have h2:=b.toNat_lt;rw[KA,UInt8.toNat_sub];omega
theorem lt8(a b:UInt8):decide ((a.toNat:Int)<b.toNat)=decide (a<b):=by
 congr 1
 rw[UInt8.lt_iff_toNat_lt];simp
theorem le8(a b:UInt8):decide ((a.toNat:Int)<=b.toNat)=decide (a<=b):=by
 congr 1
 rw[UInt8.le_iff_toNat_le];simp
theorem eq8(a b:UInt8):decide ((a.toNat:Int)=b.toNat)=decide (a=b):=by
 congr 1
 rw[<-a9r];simp only[eq_iff_iff];omega
theorem ne8(a b:UInt8):decide ((a.toNat:Int)≠b.toNat)=decide (a≠b):=by
 congr 1
 rw[ne_eq,ne_eq,<-a9r];simp only[eq_iff_iff];omega
theorem a7Y{g:Option Bool}{op:BinOp}{ik:IntKind}{m n:Int}{k:X->O}{r:aE}(h:Za g op ik m n k=some r):∃x,k x=some r/\x.pl=true/\(CC g->∀{xt yt:TypeId}{x' y':Operand},o.op = .binOp op xt x' y' yt->σ.ev x'=some (.t (.v (.int ik m)))->σ.ev y'=some (.t (.v (.int ik n)))->bI P o σ fr x.D []):=by
 unfold Za at h;split at h
 .exact⟨_,h,rfl,λ_ _ _ _ _ ho hx hy=>aKr ho hx hy⟩
 .exact⟨_,h,rfl,λ_ _ _ _ _ ho hx hy=>aKf ho hx hy⟩
 .exact⟨_,h,rfl,λ_ _ _ _ _ ho hx hy=>a5d ho hx hy⟩
 .obtain⟨h1,h2⟩:=oG h
  exact⟨_,h1,rfl,λhg _ _ _ _ ho hx hy=>a55 ho hx hy (cU (h2 hg))⟩
 .obtain⟨h1,h2⟩:=oG h
  exact⟨_,h1,rfl,λhg _ _ _ _ ho hx hy=>a52 ho hx hy (cU (h2 hg))⟩
 .exact⟨_,h,rfl,λ_ _ _ _ _ ho hx hy=>aKh ho hx hy⟩
 .exact⟨_,h,rfl,λ_ _ _ _ _ ho hx hy=>aKi ho hx hy⟩
 .exact⟨_,h,rfl,λ_ _ _ _ _ ho hx hy=>aKl ho hx hy⟩
 .exact⟨_,h,rfl,λ_ _ _ _ _ ho hx hy=>aKm ho hx hy⟩
 .exact⟨_,h,rfl,λ_ _ _ _ _ ho hx hy=>aKo ho hx hy⟩
 .exact⟨_,h,rfl,λ_ _ _ _ _ ho hx hy=>aKg ho hx hy⟩
 .cases h
theorem a4S{g:Option Bool}{op:BinOp}{ik ik':IntKind}{m n:Int}{k:X->O}{r:aE}(h:Y6 g op ik m n k=some r):∃x,k x=some r/\x.pl=true/\(CC g->∀{xt yt:TypeId}{x' y':Operand},o.op = .binOp op xt x' y' yt->σ.ev x'=some (.t (.v (.int ik m)))->σ.ev y'=some (.t (.v (.int ik' n)))->bI P o σ fr x.D []):=by
 unfold Y6 at h;split at h
 .obtain⟨h1,h2⟩:=oG h
  refine⟨_,h1,rfl,λhg _ _ _ _ ho hx hy=>jR ho hx hy (λw=>?_) rfl⟩;have:=cU (h2 hg);simp[eqGuard,binOp,Op.shift,Int.not_lt.2 this]
 .obtain⟨h1,h2⟩:=oG h
  refine⟨_,h1,rfl,λhg _ _ _ _ ho hx hy=>jR ho hx hy (λw=>?_) rfl⟩;have:=cU (h2 hg);simp[eqGuard,binOp,Op.shift,Int.not_lt.2 this]
 .cases h
theorem a3x{op:BinOp}{m n:UInt8}{k:X->O}{r:aE}(h:YG op m n k=some r):∃x,k x=some r/\x.pl=true/\(∀{xt yt:TypeId}{x' y':Operand},o.op = .binOp op xt x' y' yt->σ.ev x'=some (T8 m)->σ.ev y'=some (T8 n)->bI P o σ fr x.D []):=by
 unfold YG at h;split at h
 .refine⟨_,h,rfl,λho hx hy=>?_⟩
  have:=aKr (P:=P) (fr:=fr) ho hx hy
  rwa [a9o]at this
 .refine⟨_,h,rfl,λho hx hy=>?_⟩
  have:=aKf (P:=P) (fr:=fr) ho hx hy
  rwa [a4G]at this
 .refine⟨_,h,rfl,λho hx hy=>?_⟩
  have:=aKh (P:=P) (fr:=fr) ho hx hy
  rwa [lt8]at this
 .refine⟨_,h,rfl,λho hx hy=>?_⟩
  have:=aKi (P:=P) (fr:=fr) ho hx hy
  rwa [le8]at this
 .refine⟨_,h,rfl,λho hx hy=>?_⟩
  have:=aKl (P:=P) (fr:=fr) ho hx hy
  rwa [lt8]at this
 .refine⟨_,h,rfl,λho hx hy=>?_⟩
  have:=aKm (P:=P) (fr:=fr) ho hx hy
  rwa [le8]at this
 .refine⟨_,h,rfl,λho hx hy=>?_⟩
  have:=aKo (P:=P) (fr:=fr) ho hx hy
  rwa [eq8]at this
 .refine⟨_,h,rfl,λho hx hy=>?_⟩
  have:=aKg (P:=P) (fr:=fr) ho hx hy
  rwa [ne8]at this
 .cases h
theorem a6d(m n:List UInt8):ByteArray.mk ⟨m⟩++ByteArray.mk ⟨n⟩=ByteArray.mk ⟨m++n⟩:=by
 apply ByteArray.ext;rw[ByteArray.data_append];simp
theorem a4I{g:Option Bool}{op:BinOp}{m n:List UInt8}{k:X->O}{r:aE}(h:YJ g op m n k=some r):∃x,k x=some r/\x.pl=true/\(CC g->∀{xt yt:TypeId}{x' y':Operand},o.op = .binOp op xt x' y' yt->σ.ev x'=some (TS m)->σ.ev y'=some (TS n)->bI P o σ fr x.D []):=by
 have tl:∀l:List UInt8,(ByteArray.mk ⟨l⟩).toList=l:=λl=>ByteArray.toList_mk l
 have be:∀m n:List UInt8,(m == n)=decide (m=n):=λm n=>by rw[Bool.eq_iff_iff];simp
 unfold YJ at h;split at h
 .obtain⟨h1,h2⟩:=oG h
  refine⟨_,h1,rfl,λhg _ _ _ _ ho hx hy=>jR ho hx hy (λw=>?_) rfl⟩;have hb:=cU (h2 hg);have hsz:¬ (((ByteArray.mk ⟨m⟩).size+(ByteArray.mk ⟨n⟩).size:Nat):Int)>IntKind.i64.max:=by
   show ¬ ((m.length+n.length:Nat):Int)>9223372036854775807;omega
  simp only[eqGuard,binOp,Op.stringOp,aD hsz,a6d];simp
 .refine⟨_,h,rfl,λhg _ _ _ _ ho hx hy=>jR ho hx hy (λw=>?_) rfl⟩
  simp[eqGuard,binOp,Op.stringOp,tl,be]
 .refine⟨_,h,rfl,λhg _ _ _ _ ho hx hy=>jR ho hx hy (λw=>?_) rfl⟩
  simp[eqGuard,binOp,Op.stringOp,tl,be]
 .cases h
theorem a9V{g:Option Bool}{op:BinOp}{xt:TypeId}{x y:X}{k:X->O}{r:aE}(h:aAU P g op xt x y k=some r):∃z,k z=some r/\z.pl=true/\(CC g->∀{yt:TypeId}{x' y':Operand},o.op = .binOp op xt x' y' yt->σ.ev x'=some x.D->σ.ev y'=some y.D->bI P o σ fr z.D []):=by
 unfold aAU at h;split at h
 .split at h
  .obtain⟨z,h1,h2,h3⟩:=a4S (P:=P) (o:=o) (σ:=σ) (fr:=fr) h
   exact⟨z,h1,h2,λhg _ _ _ ho hx hy=>h3 hg ho hx hy⟩
  .split at h
   .rename_i he
    have he:=cU he;subst he;obtain⟨z,h1,h2,h3⟩:=a7Y (P:=P) (o:=o) (σ:=σ) (fr:=fr) h;exact⟨z,h1,h2,λhg _ _ _ ho hx hy=>h3 hg ho hx hy⟩
   .cases h
 .obtain⟨z,h1,h2,h3⟩:=a3x (P:=P) (o:=o) (σ:=σ) (fr:=fr) h
  exact⟨z,h1,h2,λhg _ _ _ ho hx hy=>h3 ho hx hy⟩
 .obtain⟨z,h1,h2,h3⟩:=a4I (P:=P) (o:=o) (σ:=σ) (fr:=fr) h
  exact⟨z,h1,h2,λhg _ _ _ ho hx hy=>h3 hg ho hx hy⟩
 .split at h
  .rename_i hu
   unfold aM0 at h;split at h
   .exact⟨_,h,rfl,λhg _ _ _ ho hx hy=>a6I hu ho hx hy⟩
   .exact⟨_,h,rfl,λhg _ _ _ ho hx hy=>a5c hu ho hx hy⟩
   .cases h
  .cases h
 .cases h
theorem a5b{t:TypeId}{x:Operand}{ik:IntKind}{m:Int}(ho:o.op = .unOp .neg t x)(hx:σ.ev x=some (.t (.v (.int ik m)))):bI P o σ fr (.t (.v (.int ik (ik.wrap (-m))))) []:=
 dV λ_ _ _ _ w a _ _ hev=>by
  have h1':=cL (hev x _ hx);refine⟨.int ik (ik.wrap (-m)),?_,.t (.v _ rfl)⟩;unfold execOp;rw[ho];simp only[h1'];simp[Op.unary,Op.intArith]
theorem Qk{x:Operand}{d:D}(ho:o.op = .nilCheck x)(hx:σ.ev x=some d)(hd:(∃k off,d = .ref k off)\/(∃ts off,d = .ptr ts off)\/∃f ds,d = .fn f ds):bI P o σ fr d []:=
 dV λ_ _ _ _ w a _ _ hev=>by
  have h:=hev x _ hx;refine⟨a.eval x,?_,h⟩;unfold execOp;rw[ho];obtain⟨v,hv⟩:∃v,a.eval x=v:=⟨_,rfl⟩
  rw[hv]at h;simp only[hv];rcases hd with⟨k,off,rfl⟩|⟨ts,off,rfl⟩|⟨f,ds,rfl⟩
  .cases h with|ref _ _=>rfl
  .cases h with|ptr _ _ _=>rfl
  .cases h with|fn _ _=>rfl
theorem a5i{x y:Operand}{m n:Int}{tys:Array TypeId}(ho:o.op = .call { callee:=.builtin .max,args:=#[x,y],argTypes:=tys })(hx:σ.ev x=some (I m))(hy:σ.ev y=some (I n)):bI P o σ fr (I (max m n)) []:=
 dV λ_ _ _ _ w a _ _ hev=>by
  have h1:=cL (hev x _ hx);have h2:=cL (hev y _ hy);refine⟨.int .i64 (max m n),?_,.t (.v _ rfl)⟩;unfold execOp;rw[ho];simp[resolve,invoke,builtin,h1,h2,Lib.run_max_ints]
theorem a4Z{P:Program}(w:World)(ts:Array TypeId)(t:TypeId)(x y z:Int):(Builtin.max_ ts t #[.int .i64 x,.int .i64 y,.int .i64 z]).run P w = .ok (.int .i64 (max (max x y) z)) w:=by
 have e:∀x y:Int,(if y>x then y else x)=max x y:=λx y=>by
  rw[Int.max_def];split <;> split <;> omega
 simp[Builtin.max_,Builtin.max2,e]
theorem a5j{x y z:Operand}{m n p:Int}{tys:Array TypeId}(ho:o.op = .call { callee:=.builtin .max,args:=#[x,y,z],argTypes:=tys })(hx:σ.ev x=some (I m))(hy:σ.ev y=some (I n))(hz:σ.ev z=some (I p)):bI P o σ fr (I (max (max m n) p)) []:=
 dV λ_ _ _ _ w a _ _ hev=>by
  have h1:=cL (hev x _ hx);have h2:=cL (hev y _ hy);have h3:=cL (hev z _ hz);refine⟨.int .i64 (max (max m n) p),?_,.t (.v _ rfl)⟩;unfold execOp;rw[ho];simp[resolve,invoke,builtin,h1,h2,h3,a4Z]
theorem a5h{x y:Operand}{m n:Int}{tys:Array TypeId}(ho:o.op = .call { callee:=.builtin .min,args:=#[x,y],argTypes:=tys })(hx:σ.ev x=some (I m))(hy:σ.ev y=some (I n)):bI P o σ fr (I (min m n)) []:=
 dV λ_ _ _ _ w a _ _ hev=>by
  have h1:=cL (hev x _ hx);have h2:=cL (hev y _ hy);refine⟨.int .i64 (min m n),?_,.t (.v _ rfl)⟩;unfold execOp;rw[ho];simp[resolve,invoke,builtin,h1,h2,Lib.run_min_ints]
theorem a5r{t:TypeId}{x:Operand}{s:List UInt8}{tys:Array TypeId}(hu:P.underlying t=some .string)(ho:o.op = .call { callee:=.builtin .len,args:=#[x],argTypes:=tys })(ht:tys = #[t])(hx:σ.ev x=some (TS s)):bI P o σ fr (I s.length) []:=
 dV λ_ _ _ _ w a _ _ hev=>by
  have h1:=cL (hev x _ hx);refine⟨.int .i64 s.length,?_,.t (.v _ rfl)⟩;unfold execOp;rw[ho,ht];simp[resolve,invoke,builtin,h1,run_len_string _ t _ _ hu,goInt];rfl
theorem a5y{t:TypeId}{x y:Operand}{s:List UInt8}{ik:IntKind}{n:Int}{c:UInt8}(hu:P.underlying t=some .string)(ho:o.op = .index t x y)(hx:σ.ev x=some (TS s))(hy:σ.ev y=some (.t (.v (.int ik n))))(h0:0<=n)(hc:s[n.toNat]?=some c):bI P o σ fr (T8 c) []:=
 dV λ_ _ _ _ w a _ _ hev=>by
  have h1:=cL (hev x _ hx);have h2:=cL (hev y _ hy);refine⟨.int .u8 (c.toNat:Int),?_,.t (.v _ rfl)⟩;obtain⟨hlt,hcc⟩:=dC.1 hc;have hsz:(ByteArray.mk ⟨s⟩).size=s.length:=rfl;have hi:0<=n/\n<((ByteArray.mk ⟨s⟩).size:Nat):=⟨h0,by rw[hsz];omega⟩;have:=run_index_string w t (ByteArray.mk ⟨s⟩) ik n hu;rw[dif_pos hi]at this;unfold execOp;rw[ho];simp only[h1,h2,Sem.run_bind,this,Result.andThen_ok,Sem.run_pure];have hval:((ByteArray.mk ⟨s⟩)[n.toNat]'(by omega))=c:=hcc;rw[hval]
theorem a5k{f:FuncId}{caps:Array Operand}{ds:List D}(ho:o.op = .makeFunc (.func f) #[] caps)(hl:caps.size=ds.length)(hc:∀(i:Nat)(x:Operand)(d:D),caps[i]?=some x->ds[i]?=some d->σ.ev x=some d):bI P o σ fr (.fn f ds) []:=
 dV λ_ _ _ _ w a _ _ hev=>by
  refine⟨.func (.func f) #[] (caps.map a.eval),?_,.fn (by simp[hl]) (λi u d hu hd=>?_)⟩
  .unfold execOp
   rw[ho];simp[Instr.makeFunc]
  .simp only[Array.getElem?_map]at hu
   obtain⟨x,hx,rfl⟩:=cV.1 hu;exact hev x d (hc i x d hx hd)
end
end Go.Ax
