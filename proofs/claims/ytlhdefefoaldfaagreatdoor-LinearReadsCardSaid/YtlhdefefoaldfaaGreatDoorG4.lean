/- Texts of formulas: how they are read and printed. Conditions are in the theorems. -/
import Derived.Test.YtlhdefefoaldfaaGreatDoorF5
import Derived.Lib.ItoaNum
open List renaming append_assoc->iK,append_nil->yE,cons_append->yD,dropWhile_cons->IM,mem_cons_self->iA,mem_singleton->IL,suffix_cons->a42,suffix_rfl->Xb
open Nat renaming le_refl->cE,strongRecOn->x9
open Option.some renaming inj->fL
open UInt8 renaming le_iff_toNat_le->xZ,ofNat->eW
/- Texts of formulas: how they are read, as a relation; every text is read in some way. -/
namespace Go.Proofs
open Go Go.Ax
abbrev Tx:=List UInt8
def bE(c:UInt8):Bool:=decide (48<=c)&&decide (c<=57)
def eA(c:UInt8):Bool:=decide (97<=c)&&decide (c<=122)
def aQ:Tx->Tx
 |[]=>[]
 |c::l=>if c=32 then aQ l else c::l
def mE(l:Tx):Int:=l.foldl (λn c=>10*n+((c.toNat:Int)-48)) 0
def lQ(l:Tx):Bool:=decide (l.length<=6)&&!(decide (1<l.length)&&decide (l.head?=some 48))
def iI:Nat->UInt8->Option Int
 |0,c=>if c=61 then some 9 else if c=60 then some 10 else none
 |1,c=>if c=43 then some 3 else if c=45 then some 4 else none
 |2,c=>if c=42 then some 5 else if c=47 then some 6 else none
 |_,_=>none
inductive Pr where
 |ok (e:Ex) (l:Tx)
 |bad (l:Tx)
def Pr.map(f:Ex->Ex):Pr->Pr
 |.ok e l=>.ok (f e) l
 |.bad l=>.bad l
def Pr.left:Pr->Tx
 |.ok _ l=>l
 |.bad l=>l
inductive Kd where
 |pa|at|lv (k:Nat)|lo (k:Nat) (e:Ex)
inductive Rd:Kd->Tx->Pr->Prop
 |BC {l t t2 t3:Tx} {e:Ex}:aQ l=40::t->Rd (.lv 1) t (.ok e t2)->aQ t2=41::t3->Rd .pa l (.ok e t3)
 |Dk {l:Tx}:(aQ l).head?≠some 40->Rd .pa l (.bad (aQ l))
 |Hc {l t b:Tx}:aQ l=40::t->Rd (.lv 1) t (.bad b)->Rd .pa l (.bad b)
 |Dj {l t t2:Tx} {e:Ex}:aQ l=40::t->Rd (.lv 1) t (.ok e t2)->(aQ t2).head?≠some 41->Rd .pa l (.bad (aQ t2))
 |num {l t:Tx} {c:UInt8}:aQ l=c::t->bE c=true->lQ ((c::t).takeWhile bE)=true->Rd .at l (.ok (.mk 0 (mE ((c::t).takeWhile bE)) []) ((c::t).dropWhile bE))
 |He {l t:Tx} {c:UInt8}:aQ l=c::t->bE c=true->lQ ((c::t).takeWhile bE)=false->Rd .at l (.bad (c::t))
 |var {l t:Tx} {c:UInt8}:aQ l=c::t->eA c=true->Rd .at l (.ok (.mk 1 ((c.toNat:Int)-97) []) t)
 |root {l t:Tx} {r:Pr}:aQ l=82::t->Rd .pa t r->Rd .at l (r.map λe=>.mk 8 0 [e])
 |par {l:Tx} {r:Pr}:(∀c,(aQ l).head?=some c->bE c=false/\eA c=false/\c≠82)->Rd .pa l r->Rd .at l r
 |neg {l t:Tx} {r:Pr}:aQ l=45::t->Rd (.lv 3) t r->Rd (.lv 3) l (r.map λe=>.mk 2 0 [e])
 |IB {l b:Tx}:(aQ l).head?≠some 45->Rd .at l (.bad b)->Rd (.lv 3) l (.bad b)
 |mH {l t:Tx} {e:Ex}:(aQ l).head?≠some 45->Rd .at l (.ok e t)->(aQ t).head?≠some 94->Rd (.lv 3) l (.ok e (aQ t))
 |pow {l t t':Tx} {e:Ex} {r:Pr}:(aQ l).head?≠some 45->Rd .at l (.ok e t)->aQ t=94::t'->Rd (.lv 3) t' r->Rd (.lv 3) l (r.map λf=>.mk 7 0 [e,f])
 |Dt {k:Nat} {l b:Tx}:k<3->Rd (.lv (k+1)) l (.bad b)->Rd (.lv k) l (.bad b)
 |uC {k:Nat} {l t:Tx} {e:Ex} {r:Pr}:k<3->Rd (.lv (k+1)) l (.ok e t)->Rd (.lo k e) t r->Rd (.lv k) l r
 |rP {k:Nat} {e:Ex} {t:Tx}:k<3->(∀c,(aQ t).head?=some c->iI k c=none)->Rd (.lo k e) t (.ok e (aQ t))
 |Dv {k:Nat} {e:Ex} {t t' b:Tx} {c:UInt8} {o:Int}:k<3->aQ t=c::t'->iI k c=some o->Rd (.lv (k+1)) t' (.bad b)->Rd (.lo k e) t (.bad b)
 |xI {k:Nat} {e f:Ex} {t t' t2:Tx} {c:UInt8} {o:Int} {r:Pr}:k<3->aQ t=c::t'->iI k c=some o->k≠0->Rd (.lv (k+1)) t' (.ok f t2)->Rd (.lo k (.mk o 0 [e,f])) t2 r->Rd (.lo k e) t r
 |BH {e f:Ex} {t t' t2:Tx} {c:UInt8} {o:Int}:aQ t=c::t'->iI 0 c=some o->Rd (.lv 1) t' (.ok f t2)->Rd (.lo 0 e) t (.ok (.mk o 0 [e,f]) t2)
theorem eE:∀l:Tx,aQ l <:+ l
 |[]=>Xb
 |c::l=>by
   unfold aQ;split
   .exact(eE l).trans (a42 c l)
   .exact Xb
theorem fB:∀l:Tx,aQ (aQ l)=aQ l
 |[]=>rfl
 |c::l=>by
   by_cases h:c=32
   .rw[aQ,aN h];exact fB l
   .rw[aQ,aF h,aQ,aF h]
theorem dM{l t:Tx}{c:UInt8}(h:aQ l=c::t):t <:+ l/\t.length<l.length:=by
 have h1:=eE l;rw[h]at h1;exact⟨(a42 c t).trans h1,by have:=h1.length_le;simp at this;omega⟩
theorem aII(p:UInt8->Bool)(l:Tx):l.dropWhile p <:+ l:=List.dropWhile_suffix p
def Kd.str:Kd->Nat
 |.lo _ _=>0
 |_=>1
theorem kB{k:Kd}{l:Tx}{r:Pr}(h:Rd k l r):r.left <:+ l/\(∀e t,r = .ok e t->t.length+k.str<=l.length):=by
 have mp:∀{r:Pr}{f:Ex->Ex},(r.map f).left=r.left:=λ{r f}=>by cases r <;> rfl
 have mo:∀{r:Pr}{f:Ex->Ex}{e t},r.map f = .ok e t->∃e',r = .ok e' t:=λ{r f e t} h=>by
  cases r with
  |ok a b=>simp only[Pr.map,Pr.ok.injEq]at h;exact⟨a,by rw[h.2]⟩
  |bad b=>simp[Pr.map]at h
 induction h with
 |BC h1 _ h2 ih=>
   have a:=dM h1;have b:=dM h2;have c:=ih.2 _ _ rfl;have d:_ <:+ _:=ih.1;simp only[Kd.str]at c ⊢;refine⟨b.1.trans (d.trans a.1),λe t he=>?_⟩;cases he;omega
 |Dk _=>exact⟨eE _,λe t he=>by cases he⟩
 |Hc h1 _ ih=>exact⟨ih.1.trans (dM h1).1,λe t he=>by cases he⟩
 |Dj h1 _ _ ih=>exact⟨(eE _).trans (ih.1.trans (dM h1).1),λe t he=>by cases he⟩
 |num h1 h2 _=>
   have a:=dM h1;rename_i l t c _;rw[IM,aN h2];have b:=aII bE t;refine⟨b.trans a.1,λe t he=>?_⟩;cases he;have:=b.length_le;simp only[Kd.str];omega
 |He h1 _ _=>
   have:=h1 ▸ eE _;exact⟨this,λe t he=>by cases he⟩
 |var h1 _=>
   have a:=dM h1;refine⟨a.1,λe t he=>?_⟩;cases he;simp only[Kd.str];omega
 |root h1 _ ih=>
   have a:=dM h1;rw[mp];refine⟨ih.1.trans a.1,λe t he=>?_⟩;obtain⟨e',he⟩:=mo he;have:=ih.2 _ _ he;simp only[Kd.str]at this ⊢;omega
 |par _ _ ih=>exact ih
 |neg h1 _ ih=>
   have a:=dM h1;rw[mp];refine⟨ih.1.trans a.1,λe t he=>?_⟩;obtain⟨e',he⟩:=mo he;have:=ih.2 _ _ he;simp only[Kd.str]at this ⊢;omega
 |IB _ _ ih=>exact⟨ih.1,λe t he=>by cases he⟩
 |mH _ _ _ ih=>
   rename_i l t e _ _ _;have a:=eE t;have b:=ih.2 _ _ rfl;refine⟨a.trans ih.1,λe t he=>?_⟩;cases he;have:=a.length_le;simp only[Kd.str]at b ⊢;omega
 |pow _ _ h2 _ ih1 ih2=>
   have a:=dM h2;have b:=ih1.2 _ _ rfl;have c:_ <:+ _:=ih1.1;rw[mp];refine⟨ih2.1.trans (a.1.trans c),λe t he=>?_⟩;obtain⟨e',he⟩:=mo he;have:=ih2.2 _ _ he;simp only[Kd.str]at b this ⊢;omega
 |Dt _ _ ih=>exact⟨ih.1,λe t he=>by cases he⟩
 |uC _ _ _ ih1 ih2=>
   have b:=ih1.2 _ _ rfl;have c:_ <:+ _:=ih1.1;refine⟨ih2.1.trans c,λe t he=>?_⟩;have:=ih2.2 _ _ he;simp only[Kd.str]at b this ⊢;omega
 |rP _ _=>
   rename_i k e t _ _;have a:=eE t;refine⟨a,λe t he=>?_⟩;cases he;have:=a.length_le;simp only[Kd.str];omega
 |Dv _ h1 _ _ ih=>exact⟨ih.1.trans (dM h1).1,λe t he=>by cases he⟩
 |xI _ h1 _ _ _ _ ih1 ih2=>
   have a:=dM h1;have b:=ih1.2 _ _ rfl;have c:_ <:+ _:=ih1.1;refine⟨ih2.1.trans (c.trans a.1),λe t he=>?_⟩;have:=ih2.2 _ _ he;simp only[Kd.str]at b this ⊢;omega
 |BH h1 _ _ ih1=>
   have a:=dM h1;have b:=ih1.2 _ _ rfl;have c:_ <:+ _:=ih1.1;refine⟨c.trans a.1,λe t he=>?_⟩;cases he;simp only[Kd.str]at b ⊢;omega
theorem aG8:∀n (l:Tx),l.length<=n->∀k:Kd,(∀m,k = .lv m->m<=3)->(∀m e,k = .lo m e->m<3)->∃r,Rd k l r:=by
 intro n
 induction n using x9 with
 |ind n IH=>
 intro l hl;have sub:∀t:Tx,t.length<l.length->∀k:Kd,(∀m,k = .lv m->m<=3)->(∀m e,k = .lo m e->m<3)->∃r,Rd k t r:=λt ht=>IH t.length (by omega) t (cE _)
 have lv:∀t:Tx,t.length<l.length->∀m,m<=3->∃r,Rd (.lv m) t r:=λt ht m hm=>sub t ht (.lv m) (λm' h=>by cases h;exact hm) (λ_ _ h=>by cases h)
 have pa:∀t:Tx,t.length<=l.length->∃r,Rd .pa t r:=λt ht=>by
  cases hs:aQ t with
  |nil=>exact⟨_,.Dk (by rw[hs];simp)⟩
  |cons c t1=>
    have a:=dM hs;by_cases hc:c=40
    .subst hc
     obtain⟨r,hr⟩:=lv t1 (by omega) 1 (by omega);cases r with
     |bad b=>exact⟨_,.Hc hs hr⟩
     |ok e t2=>
       cases hs2:aQ t2 with
       |nil=>exact⟨_,.Dj hs hr (by rw[hs2];simp)⟩
       |cons d t3=>
         by_cases hd:d=41
         .subst hd;exact⟨_,.BC hs hr hs2⟩
         .exact⟨_,.Dj hs hr (by rw[hs2];simpa using hd)⟩
    .exact⟨_,.Dk (by rw[hs];simpa using hc)⟩
 have at':∃r,Rd .at l r:=by
  cases hs:aQ l with
  |nil=>
    obtain⟨r,hr⟩:=pa l (cE _);exact⟨r,.par (by rw[hs];simp) hr⟩
  |cons c t1=>
    have a:=dM hs;cases h1:bE c with
    |true=>
      cases h2:lQ ((c::t1).takeWhile bE)with
      |true=>exact⟨_,.num hs h1 h2⟩
      |false=>exact⟨_,.He hs h1 h2⟩
    |false=>
      cases h2:eA c with
      |true=>exact⟨_,.var hs h2⟩
      |false=>
        by_cases hc:c=82
        .subst hc
         obtain⟨r,hr⟩:=pa t1 (by omega);exact⟨_,.root hs hr⟩
        .obtain⟨r,hr⟩:=pa l (cE _)
         refine⟨r,.par (λd hd=>?_) hr⟩;rw[hs]at hd;cases hd;exact⟨h1,h2,hc⟩
 have l3:∃r,Rd (.lv 3) l r:=by
  have go:(aQ l).head?≠some 45->∃r,Rd (.lv 3) l r:=λhh=>by
   obtain⟨r,hr⟩:=at';cases r with
   |bad b=>exact⟨_,.IB hh hr⟩
   |ok e t=>
     have b:=(kB hr).2 _ _ rfl;simp only[Kd.str]at b;cases hs:aQ t with
     |nil=>exact⟨_,.mH hh hr (by rw[hs];simp)⟩
     |cons c t1=>
       have a:=dM hs;by_cases hc:c=94
       .subst hc
        obtain⟨r,hr'⟩:=lv t1 (by omega) 3 (by omega);exact⟨_,.pow hh hr hs hr'⟩
       .exact⟨_,.mH hh hr (by rw[hs];simpa using hc)⟩
  cases hs:aQ l with
  |nil=>exact go (by rw[hs];simp)
  |cons c t1=>
    have a:=dM hs;by_cases hc:c=45
    .subst hc
     obtain⟨r,hr⟩:=lv t1 (by omega) 3 (by omega);exact⟨_,.neg hs hr⟩
    .exact go (by rw[hs];simpa using hc)
 have lo:∀(t:Tx),t.length<=l.length->∀m e,m<3->∃r,Rd (.lo m e) t r:=λt ht m e hm=>by
  cases hs:aQ t with
  |nil=>exact⟨_,.rP hm (by rw[hs];simp)⟩
  |cons c t1=>
    have a:=dM hs;cases ho:iI m c with
    |none=>exact⟨_,.rP hm (by rw[hs];intro d hd;cases hd;exact ho)⟩
    |some o=>
      obtain⟨r,hr⟩:=lv t1 (by omega) (m+1) (by omega);cases r with
      |bad b=>exact⟨_,.Dv hm hs ho hr⟩
      |ok f t2=>
        have b:=(kB hr).2 _ _ rfl;simp only[Kd.str]at b;by_cases h0:m=0
        .subst h0;exact⟨_,.BH hs ho hr⟩
        .obtain⟨r',hr'⟩:=sub t2 (by omega) (.lo m (.mk o 0 [e,f])) (λ_ h=>by cases h) (λ_ _ h=>by cases h;exact hm)
         exact⟨_,.xI hm hs ho h0 hr hr'⟩
 have step:∀m,m<3->(∃r,Rd (.lv (m+1)) l r)->∃r,Rd (.lv m) l r:=λm hm ⟨r,hr⟩=>by
  cases r with
  |bad b=>exact⟨_,.Dt hm hr⟩
  |ok e t=>
    have b:=(kB hr).2 _ _ rfl;obtain⟨r',hr'⟩:=lo t (by omega) m e hm;exact⟨_,.uC hm hr hr'⟩
 have l2:=step 2 (by omega) l3;have l1:=step 1 (by omega) l2;have l0:=step 0 (by omega) l1;intro k hk hk';cases k with
 |pa=>exact pa l (cE _)
 | «at»=>exact at'
 |lv m=>
   have:=hk m rfl
   match m with
   |0=>exact l0
   |1=>exact l1
   |2=>exact l2
   |3=>exact l3
   |m+4=>omega
 |lo m e=>exact lo l (cE _) m e (hk' m e rfl)
end Go.Proofs
/- Digits, and the text of a tree. -/
namespace Go.Proofs
open Go Go.Ax
theorem N4{n:Nat}(h:n<256):(eW n).toNat=n:=by simp;omega
theorem aIJ{d:Nat}(h:d<10):bE (eW (48+d))=true:=by
 have:d=0\/d=1\/d=2\/d=3\/d=4\/d=5\/d=6\/d=7\/d=8\/d=9:=by omega
 rcases this with rfl|rfl|rfl|rfl|rfl|rfl|rfl|rfl|rfl|rfl <;> decide
theorem Wn(u:Nat):∀c∈Lib.decDigits u,bE c=true:=by
 induction u using x9 with
 |_ u ih=>
   by_cases h:u<10
   .rw[Lib.decDigits_one h];intro c hc;rw[IL]at hc;subst hc;exact aIJ h
   .rw[Lib.decDigits,dif_neg h]
    intro c hc;rw[List.mem_append,IL]at hc;rcases hc with hc|rfl
    .exact ih (u / 10) (by omega) c hc
    .exact aIJ (by omega)
theorem a0j(l:Tx)(c:UInt8):mE (l++[c])=10*mE l+((c.toNat:Int)-48):=by simp[mE]
theorem a0i(u:Nat):mE (Lib.decDigits u)=u:=by
 induction u using x9 with
 |_ u ih=>
   by_cases h:u<10
   .rw[Lib.decDigits_one h]
    simp only[mE,List.foldl];rw[N4 (by omega)];omega
   .rw[Lib.decDigits,dif_neg h,a0j,ih (u / 10) (by omega),N4 (by omega)];omega
theorem aIL(u:Nat):Lib.decDigits u≠[]:=λh=>by
 have:=Lib.decDigits_length u;rw[h]at this;have h1:=Lib.nDigits_pos u;simp at this;omega
theorem a3F:∀u:Nat,1<=u->(Lib.decDigits u).head?≠some 48:=by
 intro u
 induction u using x9 with
 |_ u ih=>
   intro h1;by_cases h:u<10
   .rw[Lib.decDigits_one h]
    have:u=1\/u=2\/u=3\/u=4\/u=5\/u=6\/u=7\/u=8\/u=9:=by omega
    rcases this with rfl|rfl|rfl|rfl|rfl|rfl|rfl|rfl|rfl <;> decide
   .rw[Lib.decDigits,dif_neg h]
    have:=ih (u / 10) (by omega) (by omega);have hn:=aIL (u / 10);cases hd:Lib.decDigits (u / 10)with
    |nil=>exact absurd hd hn
    |cons a b=>rw[hd]at this;simpa using this
theorem aHN{u k:Nat}(hk:1<=k)(h:u<10^k):Lib.nDigits u<=k:=by
 induction k generalizing u with
 |zero=>omega
 |succ k ih=>
   by_cases h0:u<10
   .rw[Lib.nDigits_small h0];omega
   .rw[Lib.nDigits_big h0]
    cases k with
    |zero=>simp at h;omega
    |succ k=>
      have:=ih (u:=u / 10) (by omega) (by rw[Nat.pow_succ]at h;omega);omega
theorem aIM{u:Nat}(h:u<=999999):(Lib.decDigits u).length<=6:=by
 rw[Lib.decDigits_length];exact aHN (by omega) (by omega)
theorem a3D{u:Nat}(h:u<=999999):lQ (Lib.decDigits u)=true:=by
 unfold lQ;rw[aU (aIM h),Bool.true_and];by_cases h0:u<10
 .rw[Lib.decDigits_one h0];rfl
 .rw[aX (a3F u (by omega)),Bool.and_false];rfl
theorem aFx{p:UInt8->Bool}:∀{l r:Tx},(∀c∈l,p c=true)->(∀c,r.head?=some c->p c=false)->(l++r).takeWhile p=l/\(l++r).dropWhile p=r
 |[],[],_,_=>⟨rfl,rfl⟩
 |[],c::r,_,h=>by simp[h c rfl]
 |a::l,r,h1,h2=>by
   have:=aFx (l:=l) (r:=r) (λc hc=>h1 c (List.mem_cons_of_mem _ hc)) h2;have ha:=h1 a (iA ..);rw[yD,List.takeWhile_cons,IM,aN ha,aN ha,this.1,this.2];exact⟨rfl,rfl⟩
def bV(o:Int):Nat:=if o=9\/o=10 then 0 else if o=3\/o=4 then 1 else if o=5\/o=6 then 2 else if o=2\/o=7 then 3 else 4
def lM(o:Int):UInt8:=if o=3 then 43 else if o=4 then 45 else if o=5 then 42 else if o=6 then 47 else if o=7 then 94 else if o=9 then 61 else 60
def uO(k:Nat)(p:Int×Tx):Tx:=if bV p.1<k then 40::(p.2++[41])else p.2
def opT(o n:Int)(l:List (Int×Tx)):Tx:=
 if o=0 then Lib.decDigits n.toNat
 else if o=1 then[eW (97+n.toNat)]
 else if o=2 then 45::uO 3 (l.getD 0 (0,[]))
 else if o=8 then 82::40::(uO 1 (l.getD 0 (0,[]))++[41])
 else if o=7 then uO 4 (l.getD 0 (0,[]))++94::uO 3 (l.getD 1 (0,[]))
 else uO (max 1 (bV o)) (l.getD 0 (0,[]))++lM o::uO (bV o+1) (l.getD 1 (0,[]))
mutual
def fV:Ex->Tx
 |.mk o n ks=>opT o n (txL ks)
def txL:List Ex->List (Int×Tx)
 |[]=>[]
 |k::l=>(k.op,fV k)::txL l
end
def cJ(k:Nat)(e:Ex):Tx:=uO k (e.op,fV e)
theorem iJ{k:Nat}{e:Ex}(h:k<=bV e.op):cJ k e=fV e:=by
 unfold cJ uO;rw[aF];show ¬ bV e.op<k;omega
theorem o9{k:Nat}{e:Ex}(h:bV e.op<k):cJ k e=40::(fV e++[41]):=by
 unfold cJ uO;rw[aN];show bV e.op<k;omega
theorem D6{n:Int}:fV (.mk 0 n [])=Lib.decDigits n.toNat:=rfl
theorem D4{n:Int}:fV (.mk 1 n [])=[eW (97+n.toNat)]:=rfl
theorem HE{n:Int}{a:Ex}:fV (.mk 2 n [a])=45::cJ 3 a:=rfl
theorem HC{n:Int}{a:Ex}:fV (.mk 8 n [a])=82::40::(cJ 1 a++[41]):=rfl
theorem HD{n:Int}{a b:Ex}:fV (.mk 7 n [a,b])=cJ 4 a++94::cJ 3 b:=rfl
theorem D5{o n:Int}{a b:Ex}(h:o=3\/o=4\/o=5\/o=6\/o=9\/o=10):fV (.mk o n [a,b])=cJ (max 1 (bV o)) a++lM o::cJ (bV o+1) b:=by
 rcases h with rfl|rfl|rfl|rfl|rfl|rfl <;> rfl
end Go.Proofs
/- What is printed is read as the tree. -/
namespace Go.Proofs
open Go Go.Ax
inductive Wf:Ex->Prop
 |num {n:Int}:0<=n->n<=999999->Wf (.mk 0 n [])
 |var {n:Int}:0<=n->n<=25->Wf (.mk 1 n [])
 |neg {a:Ex}:Wf a->Wf (.mk 2 0 [a])
 |root {a:Ex}:Wf a->Wf (.mk 8 0 [a])
 |pow {a b:Ex}:Wf a->Wf b->Wf (.mk 7 0 [a,b])
 |two {o:Int} {a b:Ex}:o=3\/o=4\/o=5\/o=6->Wf a->Wf b->Wf (.mk o 0 [a,b])
def Ends(k:Nat)(r:Tx):Prop:=(∀c,r.head?=some c->bE c=false)/\∀c,(aQ r).head?=some c->(k<=3->c≠94)/\(k<=2->iI 2 c=none)/\(k<=1->iI 1 c=none)/\(k<=0->iI 0 c=none)
theorem Ends.up{k j:Nat}{r:Tx}(h:Ends k r)(hk:k<=j):Ends j r:=
 ⟨h.1,λc hc=>⟨λx=>(h.2 c hc).1 (by omega),λx=>(h.2 c hc).2.1 (by omega),λx=>(h.2 c hc).2.2.1 (by omega),λx=>(h.2 c hc).2.2.2 (by omega)⟩⟩
theorem Ends.nil{k:Nat}:Ends k []:=⟨λc h=>(by cases h),λc h=>(by cases h)⟩
theorem jX{c:UInt8}{t:Tx}(h:c≠32):aQ (c::t)=c::t:=by rw[aQ,aF h]
theorem Ends.par{k:Nat}{r:Tx}:Ends k (41::r):=⟨λc h=>by cases h;rfl,λc h=>by
 rw[jX (by decide)]at h;cases h;exact⟨λ_=>by decide,λ_=>rfl,λ_=>rfl,λ_=>rfl⟩⟩
structure Reads(e:Ex):Prop where
 a1:∀r,Ends 1 r->Rd (.lv 1) (cJ 1 e++r) (.ok e (aQ r))
 a2:∀r,Ends 2 r->Rd (.lv 2) (cJ 2 e++r) (.ok e (aQ r))
 a3:∀r,Ends 3 r->Rd (.lv 3) (cJ 3 e++r) (.ok e (aQ r))
 a4:∀r,Ends 4 r->Rd .at (cJ 4 e++r) (.ok e r)
 b1:∀r R,Ends 2 r->Rd (.lo 1 e) (aQ r) R->Rd (.lv 1) (cJ 1 e++r) R
 b2:∀r R,Ends 3 r->Rd (.lo 2 e) (aQ r) R->Rd (.lv 2) (cJ 2 e++r) R
theorem BS{c:UInt8}(h:bE c=true):48<=c.toNat/\c.toNat<=57:=by
 unfold bE at h;rw[Bool.and_eq_true]at h;have h1:=cR h.1;have h2:=cR h.2;exact⟨xZ.1 h1,xZ.1 h2⟩
theorem a2y{c:UInt8}(h:c.toNat<48\/57<c.toNat):bE c=false:=by
 cases hd:bE c with
 |false=>rfl
 |true=>have:=BS hd;omega
theorem aIN(u:Nat):∃c t,Lib.decDigits u=c::t/\bE c=true:=by
 cases h:Lib.decDigits u with
 |nil=>exact absurd h (aIL u)
 |cons c t=>exact⟨c,t,rfl,Wn u c (by rw[h];exact iA ..)⟩
theorem a0w{e:Ex}(h:Wf e):1<=bV e.op/\bV e.op<=4:=by
 cases h with
 |num _ _=>exact(by decide:1<=bV 0/\bV 0<=4)
 |var _ _=>exact(by decide:1<=bV 1/\bV 1<=4)
 |neg _=>exact(by decide:1<=bV 2/\bV 2<=4)
 |root _=>exact(by decide:1<=bV 8/\bV 8<=4)
 |pow _ _=>exact(by decide:1<=bV 7/\bV 7<=4)
 |two h _ _=>
   show 1<=bV _/\bV _<=4;rcases h with rfl|rfl|rfl|rfl
   .exact(by decide:1<=bV 3/\bV 3<=4)
   .exact(by decide:1<=bV 4/\bV 4<=4)
   .exact(by decide:1<=bV 5/\bV 5<=4)
   .exact(by decide:1<=bV 6/\bV 6<=4)
theorem xC{c d:UInt8}(h:c.toNat≠d.toNat):c≠d:=λe=>h (by rw[e])
theorem aI6{e:Ex}(h:Wf e):∃c t,cJ 4 e=c::t/\c≠32/\c≠45:=by
 by_cases hl:bV e.op<4
 .exact⟨40,_,o9 hl,by decide,by decide⟩
 .rw[iJ (by omega)]
  cases h with
  |num _ _=>
    rw[D6];obtain⟨c,t,h1,h2⟩:=aIN _;have:=BS h2;exact⟨c,t,h1,xC (by show c.toNat≠32;omega),xC (by show c.toNat≠45;omega)⟩
  |var h0 h1=>
    rename_i n;rw[D4];have:=N4 (n:=97+n.toNat) (by omega);exact⟨_,_,rfl,xC (by rw[this];show _≠32;omega),xC (by rw[this];show _≠45;omega)⟩
  |root _=>exact⟨82,_,rfl,by decide,by decide⟩
  |neg _=>exact absurd (show bV 2<4 by decide) hl
  |pow _ _=>exact absurd (show bV 7<4 by decide) hl
  |two h _ _=>
    rcases h with rfl|rfl|rfl|rfl
    .exact absurd (show bV 3<4 by decide) hl
    .exact absurd (show bV 4<4 by decide) hl
    .exact absurd (show bV 5<4 by decide) hl
    .exact absurd (show bV 6<4 by decide) hl
theorem X0{e:Ex}(h:Wf e)(he:cJ 3 e=cJ 4 e)(a4:∀r,Ends 4 r->Rd .at (cJ 4 e++r) (.ok e r))(r:Tx)(hr:Ends 3 r):Rd (.lv 3) (cJ 3 e++r) (.ok e (aQ r)):=by
 obtain⟨c,t,h1,h2,h3⟩:=aI6 h;have:=a4 r (hr.up (by omega));rw[he];refine .mH ?_ this λhh=>(hr.2 _ hh).1 (by omega) rfl
 rw[h1,yD,jX h2];simpa using h3
theorem EN{e:Ex}{k:Nat}(hk:k<3)(he:cJ k e=cJ (k+1) e)(a:∀r,Ends (k+1) r->Rd (.lv (k+1)) (cJ (k+1) e++r) (.ok e (aQ r)))(r:Tx)(R:Pr)(hr:Ends (k+1) r)(h:Rd (.lo k e) (aQ r) R):Rd (.lv k) (cJ k e++r) R:=by
 rw[he];exact .uC hk (a r hr) h
theorem Ou{e:Ex}(b:∀r R,Ends 2 r->Rd (.lo 1 e) (aQ r) R->Rd (.lv 1) (cJ 1 e++r) R)(r:Tx)(hr:Ends 1 r):Rd (.lv 1) (cJ 1 e++r) (.ok e (aQ r)):=by
 refine b r _ (hr.up (by omega)) ?_;have:=Rd.rP (k:=1) (e:=e) (t:=aQ r) (by omega) (λc hc=>by rw[fB]at hc;exact(hr.2 c hc).2.2.1 (by omega))
 rwa [fB]at this
theorem Ot{e:Ex}(b:∀r R,Ends 3 r->Rd (.lo 2 e) (aQ r) R->Rd (.lv 2) (cJ 2 e++r) R)(r:Tx)(hr:Ends 2 r):Rd (.lv 2) (cJ 2 e++r) (.ok e (aQ r)):=by
 refine b r _ (hr.up (by omega)) ?_;have:=Rd.rP (k:=2) (e:=e) (t:=aQ r) (by omega) (λc hc=>by rw[fB]at hc;exact(hr.2 c hc).2.1 (by omega))
 rwa [fB]at this
theorem XZ{e:Ex}(h:bV e.op<4)(h1:1<=bV e.op)(a1:∀r,Ends 1 r->Rd (.lv 1) (cJ 1 e++r) (.ok e (aQ r)))(r:Tx):Rd .at (cJ 4 e++r) (.ok e r):=by
 rw[o9 h];have a:=a1 (41::r) .par;rw[iJ h1,jX (by decide)]at a;have e1:40::(fV e++[41])++r=40::(fV e++41::r):=by simp
 rw[e1];refine .par (λc hc=>?_) (.BC (t:=fV e++41::r) (jX (by decide)) a (jX (by decide)));rw[jX (by decide)]at hc;cases hc;exact⟨rfl,rfl,by decide⟩
theorem VS{e:Ex}(h:Wf e)(hl:bV e.op=4)(a4:∀r,Ends 4 r->Rd .at (cJ 4 e++r) (.ok e r)):Reads e:=by
 have eq:∀j k,j<=4->k<=4->cJ j e=cJ k e:=λj k hj hk=>by rw[iJ (by omega),iJ (by omega)]
 have a3:=X0 h (eq 3 4 (by omega) (by omega)) a4;have b2:=EN (k:=2) (by omega) (eq 2 3 (by omega) (by omega)) a3;have a2:=Ot b2;have b1:=EN (k:=1) (by omega) (eq 1 2 (by omega) (by omega)) a2;exact⟨Ou b1,a2,a3,a4,b1,b2⟩
theorem aG7{e:Ex}(hl:bV e.op=3)(a3:∀r,Ends 3 r->Rd (.lv 3) (cJ 3 e++r) (.ok e (aQ r))):Reads e:=by
 have eq:∀j k,j<=3->k<=3->cJ j e=cJ k e:=λj k hj hk=>by rw[iJ (by omega),iJ (by omega)]
 have b2:=EN (k:=2) (by omega) (eq 2 3 (by omega) (by omega)) a3;have a2:=Ot b2;have b1:=EN (k:=1) (by omega) (eq 1 2 (by omega) (by omega)) a2;have a1:=Ou b1;exact⟨a1,a2,a3,λr _=>XZ (by omega) (by omega) a1 r,b1,b2⟩
theorem aZP{e:Ex}(h:Wf e)(hl:bV e.op=2)(b2:∀r R,Ends 3 r->Rd (.lo 2 e) (aQ r) R->Rd (.lv 2) (cJ 2 e++r) R):Reads e:=by
 have a2:=Ot b2;have b1:=EN (k:=1) (by omega) (by rw[iJ (by omega),iJ (by omega)]) a2;have a1:=Ou b1;have a4:=XZ (by omega) (by omega) a1;have a3:=X0 h (by rw[o9 (by omega),o9 (by omega)]) (λr _=>a4 r);exact⟨a1,a2,a3,λr _=>a4 r,b1,b2⟩
theorem aZQ{e:Ex}(h:Wf e)(hl:bV e.op=1)(b1:∀r R,Ends 2 r->Rd (.lo 1 e) (aQ r) R->Rd (.lv 1) (cJ 1 e++r) R):Reads e:=by
 have a1:=Ou b1;have a4:=XZ (by omega) (by omega) a1;have a3:=X0 h (by rw[o9 (by omega),o9 (by omega)]) (λr _=>a4 r);have b2:=EN (k:=2) (by omega) (by rw[o9 (by omega),o9 (by omega)]) a3;exact⟨a1,Ot b2,a3,λr _=>a4 r,b1,b2⟩
theorem aIC{o:Int}{k:Nat}{r:Tx}(h:(k=1/\(o=3\/o=4))\/(k=2/\(o=5\/o=6))):Ends (k+1) (lM o::r)/\aQ (lM o::r)=lM o::r/\iI k (lM o)=some o/\bV o=k:=by
 rcases h with⟨rfl,rfl|rfl⟩|⟨rfl,rfl|rfl⟩ <;>
 refine⟨⟨λc h=>by cases h;rfl,λc h=>?_⟩,jX (by decide),rfl,rfl⟩ <;>
 rw[jX (by decide)]at h <;> cases h <;>
 exact⟨λ_=>by decide,λ_=>by first|rfl|omega,λ_=>by first|rfl|omega,λ_=>rfl⟩
theorem a2s{r:Tx}:Ends 4 (94::r):=⟨λc h=>by cases h;rfl,λc h=>⟨λx=>by omega,λx=>by omega,λx=>by omega,λx=>by omega⟩⟩
theorem reads{e:Ex}(h:Wf e):Reads e:=by
 induction h with
 |num h0 h1=>
   rename_i n;refine VS (.num h0 h1) rfl λr hr=>?_
   rw[iJ (show 4<=bV 0 by decide),D6];obtain⟨c,t,e1,e2⟩:=aIN n.toNat;have hc:=BS e2;have tw:=aFx (p:=bE) (l:=Lib.decDigits n.toNat) (r:=r) (Wn _) hr.1;have:=Rd.num (l:=Lib.decDigits n.toNat++r) (c:=c) (t:=t++r) (by rw[e1,yD,jX (xC (by show c.toNat≠32;omega))]) e2 (by
    rw[<-yD,<-e1,tw.1];exact a3D (by omega))
   rw[<-yD,<-e1,tw.1,tw.2,a0i,Int.toNat_of_nonneg h0]at this;exact this
 |var h0 h1=>
   rename_i n;refine VS (.var h0 h1) rfl λr hr=>?_
   rw[iJ (show 4<=bV 1 by decide),D4];have hc:=N4 (n:=97+n.toNat) (by omega);generalize eW (97+n.toNat)=c at hc;have:=Rd.var (l:=c::r) (c:=c) (t:=r) (jX (xC (by show c.toNat≠32;omega))) (by
    unfold eA;rw[aU (xZ.2 (by show 97<=c.toNat;omega)),aU (xZ.2 (by show c.toNat<=122;omega))];rfl)
   rw[hc,show((97+n.toNat:Nat):Int)-97=n by omega]at this;exact this
 |neg ha ih=>
   rename_i a;refine aG7 rfl λr hr=>?_
   rw[iJ (show 3<=bV 2 by decide),HE];exact .neg (t:=cJ 3 a++r) (jX (by decide)) (ih.a3 r hr)
 |root ha ih=>
   rename_i a;refine VS (.root ha) rfl λr hr=>?_
   rw[iJ (show 4<=bV 8 by decide),HC];have a:=ih.a1 (41::r) .par;rw[jX (by decide)]at a;have e1:∀x:Tx,82::40::(x++[41])++r=82::40::(x++41::r):=by simp
   rw[e1];exact .root (jX (by decide)) (.BC (jX (by decide)) a (jX (by decide)))
 |pow ha hb iha ihb=>
   rename_i a b;refine aG7 rfl λr hr=>?_
   rw[iJ (show 3<=bV 7 by decide),HD,iK,yD];obtain⟨c,t,h1,h2,h3⟩:=aI6 ha;refine .pow ?_ (iha.a4 _ a2s) (jX (by decide)) (ihb.a3 r hr);rw[h1,yD,jX h2];simpa using h3
 |two ho ha hb iha ihb=>
   rename_i o a b;have hw:=Wf.two ho ha hb;have tx:fV (.mk o 0 [a,b])=_:=D5 (by omega);by_cases h1:o=3\/o=4
   .have hl:bV o=1:=by rcases h1 with rfl|rfl <;> rfl
    refine aZQ hw hl λr R hr hR=>?_
    have eo:=aIC (o:=o) (k:=1) (r:=cJ 2 b++r) (.inl ⟨rfl,h1⟩);rw[iJ (show 1<=bV o by omega),tx,hl,iK,yD];refine iha.b1 _ R eo.1 ?_;rw[eo.2.1];exact .xI (by omega) eo.2.1 eo.2.2.1 (by omega) (ihb.a2 r hr) hR
   .have hl:bV o=2:=by rcases ho with rfl|rfl|rfl|rfl <;> first|rfl|(exact absurd (by simp) h1)
    refine aZP hw hl λr R hr hR=>?_
    have eo:=aIC (o:=o) (k:=2) (r:=cJ 3 b++r) (.inr ⟨rfl,by omega⟩);rw[iJ (show 2<=bV o by omega),tx,hl,iK,yD];refine iha.b2 _ R eo.1 ?_;rw[eo.2.1];exact .xI (by omega) eo.2.1 eo.2.2.1 (by omega) (ihb.a3 r hr) hR
inductive Ov:Ex->Prop
 |tree {e:Ex}:Wf e->Ov e
 |rel {o:Int} {a b:Ex}:o=9\/o=10->Wf a->Wf b->Ov (.mk o 0 [a,b])
theorem aZO{o:Int}{a b:Ex}(ho:o=9\/o=10){x y r:Tx}(hx:∀r,Ends 1 r->Rd (.lv 1) (x++r) (.ok a (aQ r)))(hy:∀r,Ends 1 r->Rd (.lv 1) (y++r) (.ok b (aQ r)))(hr:Ends 1 r):Rd (.lv 0) (x++lM o::(y++r)) (.ok (.mk o 0 [a,b]) (aQ r)):=by
 have e:Ends 1 (lM o::(y++r))/\aQ (lM o::(y++r))=lM o::(y++r)/\iI 0 (lM o)=some o:=by
  rcases ho with rfl|rfl <;>
  refine⟨⟨λc h=>by cases h;rfl,λc h=>?_⟩,jX (by decide),rfl⟩ <;>
  rw[jX (by decide)]at h <;> cases h <;>
  exact⟨λ_=>by decide,λ_=>rfl,λ_=>rfl,λ_=>by omega⟩
 refine .uC (by omega) (hx _ e.1) ?_;exact .BH (by rw[fB];exact e.2.1) e.2.2 (hy r hr)
theorem aZN{e:Ex}{x r:Tx}(hx:∀r,Ends 1 r->Rd (.lv 1) (x++r) (.ok e (aQ r)))(hr:Ends 0 r):Rd (.lv 0) (x++r) (.ok e (aQ r)):=by
 refine .uC (by omega) (hx r (hr.up (by omega))) ?_;have:=Rd.rP (k:=0) (e:=e) (t:=aQ r) (by omega) (λc hc=>by rw[fB]at hc;exact(hr.2 c hc).2.2.2 (by omega))
 rwa [fB]at this
theorem aZR{e:Ex}(h:Ov e):Rd (.lv 0) (fV e) (.ok e []):=by
 cases h with
 |tree h=>
   have:=aZN (reads h).a1 (Ends.nil (k:=0))
   rwa [yE,iJ (a0w h).1]at this
 |rel ho ha hb=>
   have:=aZO ho (reads ha).a1 (reads hb).a1 (Ends.nil (k:=1));rw[yE]at this;rw[D5 (.inr (.inr (.inr (.inr ho))))];rcases ho with rfl|rfl <;> exact this
end Go.Proofs
/- A text that is read as a tree has at least the parentheses that the tree asks for. -/
namespace Go.Proofs
open Go Go.Ax
abbrev cn(l:Tx):Nat:=l.count 40
theorem Dx{c a b:UInt8}{x y o:Int}(h:(if c=a then some x else if c=b then some y else none)=some o):(c=a/\o=x)\/(c=b/\o=y):=by
 by_cases h1:c=a
 .rw[aN h1]at h;exact .inl ⟨h1,(fL h).symm⟩
 .rw[aF h1]at h
  by_cases h2:c=b
  .rw[aN h2]at h;exact .inr ⟨h2,(fL h).symm⟩
  .rw[aF h2]at h;cases h
theorem aGl{k:Nat}{c:UInt8}{o:Int}(h:iI k c=some o):bV o=k/\lM o=c/\(o=3\/o=4\/o=5\/o=6\/o=9\/o=10):=by
 match k,h with
 |0,h=>rcases Dx h with⟨rfl,rfl⟩|⟨rfl,rfl⟩ <;> exact⟨rfl,rfl,by omega⟩
 |1,h=>rcases Dx h with⟨rfl,rfl⟩|⟨rfl,rfl⟩ <;> exact⟨rfl,rfl,by omega⟩
 |2,h=>rcases Dx h with⟨rfl,rfl⟩|⟨rfl,rfl⟩ <;> exact⟨rfl,rfl,by omega⟩
 |k+3,h=>simp[iI]at h
theorem Vt{r:Pr}{f:Ex->Ex}{e:Ex}{t:Tx}(h:r.map f = .ok e t):∃e',r = .ok e' t/\e=f e':=by
 cases r with
 |ok a b=>simp only[Pr.map,Pr.ok.injEq]at h;exact⟨a,by rw[h.2],h.1.symm⟩
 |bad b=>simp[Pr.map]at h
end Go.Proofs
/- Blanks, and parentheses around the whole, do not change what is read. -/
namespace Go.Proofs
open Go Go.Ax
inductive Sp:Bool->Tx->Tx->Prop
 |nil {p:Bool}:Sp p [] []
 |cons {p:Bool} {c:UInt8} {l m:Tx}:Sp (bE c) l m->Sp p (c::l) (c::m)
 |blank {p:Bool} {l m:Tx}:(p=true->∀c,l.head?=some c->bE c=false)->Sp p l m->Sp p l (32::m)
theorem Sp.rfl:∀{l:Tx}{p:Bool},Sp p l l
 |[],_=>.nil
 |_::_,_=>.cons Sp.rfl
theorem Sp.any{l m:Tx}{p:Bool}(h:Sp p l m):Sp false l m:=by
 induction h with
 |nil=>exact .nil
 |cons h _=>exact .cons h
 |blank _ _ ih=>exact .blank (λh=>by cases h) ih
theorem Sp.tail{l m:Tx}{p:Bool}(h:Sp p l m):Sp p l (m++[32]):=by
 induction h with
 |nil=>exact .blank (λ_ c h=>by cases h) .nil
 |cons _ ih=>exact .cons ih
 |blank h _ ih=>exact .blank h ih
end Go.Proofs
