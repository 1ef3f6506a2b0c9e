/- Texts of formulas: how they are read and printed. Conditions are in the theorems. -/
import Derived.Test.YtlhdefefoaldfaaGreatDoorF5
import Derived.Lib.ItoaNum
open List renaming append_assoc->iC,append_nil->rI,cons_append->zO,dropWhile_cons->Jw,mem_cons_self->gN,mem_singleton->zK,suffix_cons->bAK,suffix_rfl->aAo
open Nat renaming le_refl->bZ,strongRecOn->zJ
open Option.some renaming inj->fV
open UInt8 renaming le_iff_toNat_le->zF,ofNat->fF
/- Texts of formulas: how they are read, as a relation; every text is read in some way. -/
namespace Go.Proofs
open Go Go.Ax
abbrev Tx:=List UInt8
def bG(c:UInt8):Bool:=decide (48<=c)&&decide (c<=57)
def eH(c:UInt8):Bool:=decide (97<=c)&&decide (c<=122)
def aU:Tx->Tx
 |[]=>[]
 |c::l=>if c=32 then aU l else c::l
def mS(l:Tx):Int:=l.foldl (λn c=>10*n+((c.toNat:Int)-48)) 0
def mB(l:Tx):Bool:=decide (l.length<=6)&&!(decide (1<l.length)&&decide (l.head?=some 48))
def iR:Nat->UInt8->Option Int
 |0,c=>if c=61 then some 9 else if c=60 then some 10 else none
 |1,c=>if c=43 then some 3 else if c=45 then some 4 else none
 |2,c=>if c=42 then some 5 else if c=47 then some 6 else none
 |_,_=>none
inductive Pr where
 |ok (e:Ex) (l:Tx)
 |bad (l:Tx)
def Pr.map(f:Ex->Ex):Pr->Pr
 |.ok e l=>.ok (f e) l
 |.bad l=>.bad l
def Pr.left:Pr->Tx
 |.ok _ l=>l
 |.bad l=>l
inductive Kd where
 |pa|at|lv (k:Nat)|lo (k:Nat) (e:Ex)
inductive Rd:Kd->Tx->Pr->Prop
 |Bu {l t t2 t3:Tx} {e:Ex}:aU l=40::t->Rd (.lv 1) t (.ok e t2)->aU t2=41::t3->Rd .pa l (.ok e t3)
 |FE {l:Tx}:(aU l).head?≠some 40->Rd .pa l (.bad (aU l))
 |JW {l t b:Tx}:aU l=40::t->Rd (.lv 1) t (.bad b)->Rd .pa l (.bad b)
 |FD {l t t2:Tx} {e:Ex}:aU l=40::t->Rd (.lv 1) t (.ok e t2)->(aU t2).head?≠some 41->Rd .pa l (.bad (aU t2))
 |num {l t:Tx} {c:UInt8}:aU l=c::t->bG c=true->mB ((c::t).takeWhile bG)=true->Rd .at l (.ok (.mk 0 (mS ((c::t).takeWhile bG)) []) ((c::t).dropWhile bG))
 |JY {l t:Tx} {c:UInt8}:aU l=c::t->bG c=true->mB ((c::t).takeWhile bG)=false->Rd .at l (.bad (c::t))
 |var {l t:Tx} {c:UInt8}:aU l=c::t->eH c=true->Rd .at l (.ok (.mk 1 ((c.toNat:Int)-97) []) t)
 |root {l t:Tx} {r:Pr}:aU l=82::t->Rd .pa t r->Rd .at l (r.map λe=>.mk 8 0 [e])
 |par {l:Tx} {r:Pr}:(∀c,(aU l).head?=some c->bG c=false/\eH c=false/\c≠82)->Rd .pa l r->Rd .at l r
 |neg {l t:Tx} {r:Pr}:aU l=45::t->Rd (.lv 3) t r->Rd (.lv 3) l (r.map λe=>.mk 2 0 [e])
 |Jo {l b:Tx}:(aU l).head?≠some 45->Rd .at l (.bad b)->Rd (.lv 3) l (.bad b)
 |mX {l t:Tx} {e:Ex}:(aU l).head?≠some 45->Rd .at l (.ok e t)->(aU t).head?≠some 94->Rd (.lv 3) l (.ok e (aU t))
 |pow {l t t':Tx} {e:Ex} {r:Pr}:(aU l).head?≠some 45->Rd .at l (.ok e t)->aU t=94::t'->Rd (.lv 3) t' r->Rd (.lv 3) l (r.map λf=>.mk 7 0 [e,f])
 |FM {k:Nat} {l b:Tx}:k<3->Rd (.lv (k+1)) l (.bad b)->Rd (.lv k) l (.bad b)
 |vC {k:Nat} {l t:Tx} {e:Ex} {r:Pr}:k<3->Rd (.lv (k+1)) l (.ok e t)->Rd (.lo k e) t r->Rd (.lv k) l r
 |sL {k:Nat} {e:Ex} {t:Tx}:k<3->(∀c,(aU t).head?=some c->iR k c=none)->Rd (.lo k e) t (.ok e (aU t))
 |FO {k:Nat} {e:Ex} {t t' b:Tx} {c:UInt8} {o:Int}:k<3->aU t=c::t'->iR k c=some o->Rd (.lv (k+1)) t' (.bad b)->Rd (.lo k e) t (.bad b)
 |yO {k:Nat} {e f:Ex} {t t' t2:Tx} {c:UInt8} {o:Int} {r:Pr}:k<3->aU t=c::t'->iR k c=some o->k≠0->Rd (.lv (k+1)) t' (.ok f t2)->Rd (.lo k (.mk o 0 [e,f])) t2 r->Rd (.lo k e) t r
 |Bz {e f:Ex} {t t' t2:Tx} {c:UInt8} {o:Int}:aU t=c::t'->iR 0 c=some o->Rd (.lv 1) t' (.ok f t2)->Rd (.lo 0 e) t (.ok (.mk o 0 [e,f]) t2)
theorem eK:∀l:Tx,aU l <:+ l
 |[]=>aAo
 |c::l=>by
   unfold aU;split
   .exact(eK l).trans (bAK c l)
   .exact aAo
theorem fL:∀l:Tx,aU (aU l)=aU l
 |[]=>rfl
 |c::l=>by
   by_cases h:c=32
   .rw[aU,aJ h];exact fL l
   .rw[aU,aD h,aU,aD h]
theorem dU{l t:Tx}{c:UInt8}(h:aU l=c::t):t <:+ l/\t.length<l.length:=by
 have h1:=eK l;rw[h]at h1;exact⟨(bAK c t).trans h1,by have:=h1.length_le;simp at this;omega⟩
theorem aMD(p:UInt8->Bool)(l:Tx):l.dropWhile p <:+ l:=List.dropWhile_suffix p
def Kd.str:Kd->Nat
 |.lo _ _=>0
 |_=>1
theorem kK{k:Kd}{l:Tx}{r:Pr}(h:Rd k l r):r.left <:+ l/\(∀e t,r = .ok e t->t.length+k.str<=l.length):=by
 have mp:∀{r:Pr}{f:Ex->Ex},(r.map f).left=r.left:=λ{r f}=>by cases r <;> rfl
 have mo:∀{r:Pr}{f:Ex->Ex}{e t},r.map f = .ok e t->∃e',r = .ok e' t:=λ{r f e t} h=>by
  cases r with
  |ok a b=>simp only[Pr.map,Pr.ok.injEq]at h;exact⟨a,by rw[h.2]⟩
  |bad b=>simp[Pr.map]at h
 induction h with
 |Bu h1 _ h2 ih=>
   have a:=dU h1;have b:=dU h2;have c:=ih.2 _ _ rfl;have d:_ <:+ _:=ih.1;simp only[Kd.str]at c ⊢;refine⟨b.1.trans (d.trans a.1),λe t he=>?_⟩;cases he;omega
 |FE _=>exact⟨eK _,λe t he=>by cases he⟩
 |JW h1 _ ih=>exact⟨ih.1.trans (dU h1).1,λe t he=>by cases he⟩
 |FD h1 _ _ ih=>exact⟨(eK _).trans (ih.1.trans (dU h1).1),λe t he=>by cases he⟩
 |num h1 h2 _=>
   have a:=dU h1;rename_i l t c _;rw[Jw,aJ h2];have b:=aMD bG t;refine⟨b.trans a.1,λe t he=>?_⟩;cases he;have:=b.length_le;simp only[Kd.str];omega
 |JY h1 _ _=>
   have:=h1 ▸ eK _;exact⟨this,λe t he=>by cases he⟩
 |var h1 _=>
   have a:=dU h1;refine⟨a.1,λe t he=>?_⟩;cases he;simp only[Kd.str];omega
 |root h1 _ ih=>
   have a:=dU h1;rw[mp];refine⟨ih.1.trans a.1,λe t he=>?_⟩;obtain⟨e',he⟩:=mo he;have:=ih.2 _ _ he;simp only[Kd.str]at this ⊢;omega
 |par _ _ ih=>exact ih
 |neg h1 _ ih=>
   have a:=dU h1;rw[mp];refine⟨ih.1.trans a.1,λe t he=>?_⟩;obtain⟨e',he⟩:=mo he;have:=ih.2 _ _ he;simp only[Kd.str]at this ⊢;omega
 |Jo _ _ ih=>exact⟨ih.1,λe t he=>by cases he⟩
 |mX _ _ _ ih=>
   rename_i l t e _ _ _;have a:=eK t;have b:=ih.2 _ _ rfl;refine⟨a.trans ih.1,λe t he=>?_⟩;cases he;have:=a.length_le;simp only[Kd.str]at b ⊢;omega
 |pow _ _ h2 _ ih1 ih2=>
   have a:=dU h2;have b:=ih1.2 _ _ rfl;have c:_ <:+ _:=ih1.1;rw[mp];refine⟨ih2.1.trans (a.1.trans c),λe t he=>?_⟩;obtain⟨e',he⟩:=mo he;have:=ih2.2 _ _ he;simp only[Kd.str]at b this ⊢;omega
 |FM _ _ ih=>exact⟨ih.1,λe t he=>by cases he⟩
 |vC _ _ _ ih1 ih2=>
   have b:=ih1.2 _ _ rfl;have c:_ <:+ _:=ih1.1;refine⟨ih2.1.trans c,λe t he=>?_⟩;have:=ih2.2 _ _ he;simp only[Kd.str]at b this ⊢;omega
 |sL _ _=>
   rename_i k e t _ _;have a:=eK t;refine⟨a,λe t he=>?_⟩;cases he;have:=a.length_le;simp only[Kd.str];omega
 |FO _ h1 _ _ ih=>exact⟨ih.1.trans (dU h1).1,λe t he=>by cases he⟩
 |yO _ h1 _ _ _ _ ih1 ih2=>
   have a:=dU h1;have b:=ih1.2 _ _ rfl;have c:_ <:+ _:=ih1.1;refine⟨ih2.1.trans (c.trans a.1),λe t he=>?_⟩;have:=ih2.2 _ _ he;simp only[Kd.str]at b this ⊢;omega
 |Bz h1 _ _ ih1=>
   have a:=dU h1;have b:=ih1.2 _ _ rfl;have c:_ <:+ _:=ih1.1;refine⟨c.trans a.1,λe t he=>?_⟩;cases he;simp only[Kd.str]at b ⊢;omega
theorem aKZ:∀n (l:Tx),l.length<=n->∀k:Kd,(∀m,k = .lv m->m<=3)->(∀m e,k = .lo m e->m<3)->∃r,Rd k l r:=by
 intro n
 induction n using zJ with
 |ind n IH=>
 intro l hl;have sub:∀t:Tx,t.length<l.length->∀k:Kd,(∀m,k = .lv m->m<=3)->(∀m e,k = .lo m e->m<3)->∃r,Rd k t r:=λt ht=>IH t.length (by omega) t (bZ _)
 have lv:∀t:Tx,t.length<l.length->∀m,m<=3->∃r,Rd (.lv m) t r:=λt ht m hm=>sub t ht (.lv m) (λm' h=>by cases h;exact hm) (λ_ _ h=>by cases h)
 have pa:∀t:Tx,t.length<=l.length->∃r,Rd .pa t r:=λt ht=>by
  cases hs:aU t with
  |nil=>exact⟨_,.FE (by rw[hs];simp)⟩
  |cons c t1=>
    have a:=dU hs;by_cases hc:c=40
    .subst hc
     obtain⟨r,hr⟩:=lv t1 (by omega) 1 (by omega);cases r with
     |bad b=>exact⟨_,.JW hs hr⟩
     |ok e t2=>
       cases hs2:aU t2 with
       |nil=>exact⟨_,.FD hs hr (by rw[hs2];simp)⟩
       |cons d t3=>
         by_cases hd:d=41
         .subst hd;exact⟨_,.Bu hs hr hs2⟩
         .exact⟨_,.FD hs hr (by rw[hs2];simpa using hd)⟩
    .exact⟨_,.FE (by rw[hs];simpa using hc)⟩
 have at':∃r,Rd .at l r:=by
  cases hs:aU l with
  |nil=>
    obtain⟨r,hr⟩:=pa l (bZ _);exact⟨r,.par (by rw[hs];simp) hr⟩
  |cons c t1=>
    have a:=dU hs;cases h1:bG c with
    |true=>
      cases h2:mB ((c::t1).takeWhile bG)with
      |true=>exact⟨_,.num hs h1 h2⟩
      |false=>exact⟨_,.JY hs h1 h2⟩
    |false=>
      cases h2:eH c with
      |true=>exact⟨_,.var hs h2⟩
      |false=>
        by_cases hc:c=82
        .subst hc
         obtain⟨r,hr⟩:=pa t1 (by omega);exact⟨_,.root hs hr⟩
        .obtain⟨r,hr⟩:=pa l (bZ _)
         refine⟨r,.par (λd hd=>?_) hr⟩;rw[hs]at hd;cases hd;exact⟨h1,h2,hc⟩
 have l3:∃r,Rd (.lv 3) l r:=by
  have go:(aU l).head?≠some 45->∃r,Rd (.lv 3) l r:=λhh=>by
   obtain⟨r,hr⟩:=at';cases r with
   |bad b=>exact⟨_,.Jo hh hr⟩
   |ok e t=>
     have b:=(kK hr).2 _ _ rfl;simp only[Kd.str]at b;cases hs:aU t with
     |nil=>exact⟨_,.mX hh hr (by rw[hs];simp)⟩
     |cons c t1=>
       have a:=dU hs;by_cases hc:c=94
       .subst hc
        obtain⟨r,hr'⟩:=lv t1 (by omega) 3 (by omega);exact⟨_,.pow hh hr hs hr'⟩
       .exact⟨_,.mX hh hr (by rw[hs];simpa using hc)⟩
  cases hs:aU l with
  |nil=>exact go (by rw[hs];simp)
  |cons c t1=>
    have a:=dU hs;by_cases hc:c=45
    .subst hc
     obtain⟨r,hr⟩:=lv t1 (by omega) 3 (by omega);exact⟨_,.neg hs hr⟩
    .exact go (by rw[hs];simpa using hc)
 have lo:∀(t:Tx),t.length<=l.length->∀m e,m<3->∃r,Rd (.lo m e) t r:=λt ht m e hm=>by
  cases hs:aU t with
  |nil=>exact⟨_,.sL hm (by rw[hs];simp)⟩
  |cons c t1=>
    have a:=dU hs;cases ho:iR m c with
    |none=>exact⟨_,.sL hm (by rw[hs];intro d hd;cases hd;exact ho)⟩
    |some o=>
      obtain⟨r,hr⟩:=lv t1 (by omega) (m+1) (by omega);cases r with
      |bad b=>exact⟨_,.FO hm hs ho hr⟩
      |ok f t2=>
        have b:=(kK hr).2 _ _ rfl;simp only[Kd.str]at b;by_cases h0:m=0
        .subst h0;exact⟨_,.Bz hs ho hr⟩
        .obtain⟨r',hr'⟩:=sub t2 (by omega) (.lo m (.mk o 0 [e,f])) (λ_ h=>by cases h) (λ_ _ h=>by cases h;exact hm)
         exact⟨_,.yO hm hs ho h0 hr hr'⟩
 have step:∀m,m<3->(∃r,Rd (.lv (m+1)) l r)->∃r,Rd (.lv m) l r:=λm hm ⟨r,hr⟩=>by
  cases r with
  |bad b=>exact⟨_,.FM hm hr⟩
  |ok e t=>
    have b:=(kK hr).2 _ _ rfl;obtain⟨r',hr'⟩:=lo t (by omega) m e hm;exact⟨_,.vC hm hr hr'⟩
 have l2:=step 2 (by omega) l3;have l1:=step 1 (by omega) l2;have l0:=step 0 (by omega) l1;intro k hk hk';cases k with
 |pa=>exact pa l (bZ _)
 | «at»=>exact at'
 |lv m=>
   have:=hk m rfl
   match m with
   |0=>exact l0
   |1=>exact l1
   |2=>exact l2
   |3=>exact l3
   |m+4=>omega
 |lo m e=>exact lo l (bZ _) m e (hk' m e rfl)
end Go.Proofs
/- Digits, and the text of a tree. -/
namespace Go.Proofs
open Go Go.Ax
theorem QM{n:Nat}(h:n<256):(fF n).toNat=n:=by simp;omega
theorem aME{d:Nat}(h:d<10):bG (fF (48+d))=true:=by
 have:d=0\/d=1\/d=2\/d=3\/d=4\/d=5\/d=6\/d=7\/d=8\/d=9:=by omega
 rcases this with rfl|rfl|rfl|rfl|rfl|rfl|rfl|rfl|rfl|rfl <;> decide
theorem aAE(u:Nat):∀c∈Lib.decDigits u,bG c=true:=by
 induction u using zJ with
 |_ u ih=>
   by_cases h:u<10
   .rw[Lib.decDigits_one h];intro c hc;rw[zK]at hc;subst hc;exact aME h
   .rw[Lib.decDigits,dif_neg h]
    intro c hc;rw[List.mem_append,zK]at hc;rcases hc with hc|rfl
    .exact ih (u / 10) (by omega) c hc
    .exact aME (by omega)
theorem a61(l:Tx)(c:UInt8):mS (l++[c])=10*mS l+((c.toNat:Int)-48):=by simp[mS]
theorem a60(u:Nat):mS (Lib.decDigits u)=u:=by
 induction u using zJ with
 |_ u ih=>
   by_cases h:u<10
   .rw[Lib.decDigits_one h]
    simp only[mS,List.foldl];rw[QM (by omega)];omega
   .rw[Lib.decDigits,dif_neg h,a61,ih (u / 10) (by omega),QM (by omega)];omega
theorem aMG(u:Nat):Lib.decDigits u≠[]:=λh=>by
 have:=Lib.decDigits_length u;rw[h]at this;have h1:=Lib.nDigits_pos u;simp at this;omega
theorem a8o:∀u:Nat,1<=u->(Lib.decDigits u).head?≠some 48:=by
 intro u
 induction u using zJ with
 |_ u ih=>
   intro h1;by_cases h:u<10
   .rw[Lib.decDigits_one h]
    have:u=1\/u=2\/u=3\/u=4\/u=5\/u=6\/u=7\/u=8\/u=9:=by omega
    rcases this with rfl|rfl|rfl|rfl|rfl|rfl|rfl|rfl|rfl <;> decide
   .rw[Lib.decDigits,dif_neg h]
    have:=ih (u / 10) (by omega) (by omega);have hn:=aMG (u / 10);cases hd:Lib.decDigits (u / 10)with
    |nil=>exact absurd hd hn
    |cons a b=>rw[hd]at this;simpa using this
theorem aLE{u k:Nat}(hk:1<=k)(h:u<10^k):Lib.nDigits u<=k:=by
 induction k generalizing u with
 |zero=>omega
 |succ k ih=>
   by_cases h0:u<10
   .rw[Lib.nDigits_small h0];omega
   .rw[Lib.nDigits_big h0]
    cases k with
    |zero=>simp at h;omega
    |succ k=>
      have:=ih (u:=u / 10) (by omega) (by rw[Nat.pow_succ]at h;omega);omega
theorem aMH{u:Nat}(h:u<=999999):(Lib.decDigits u).length<=6:=by
 rw[Lib.decDigits_length];exact aLE (by omega) (by omega)
theorem a8m{u:Nat}(h:u<=999999):mB (Lib.decDigits u)=true:=by
 unfold mB;rw[aQ (aMH h),Bool.true_and];by_cases h0:u<10
 .rw[Lib.decDigits_one h0];rfl
 .rw[aR (a8o u (by omega)),Bool.and_false];rfl
theorem aJm{p:UInt8->Bool}:∀{l r:Tx},(∀c∈l,p c=true)->(∀c,r.head?=some c->p c=false)->(l++r).takeWhile p=l/\(l++r).dropWhile p=r
 |[],[],_,_=>⟨rfl,rfl⟩
 |[],c::r,_,h=>by simp[h c rfl]
 |a::l,r,h1,h2=>by
   have:=aJm (l:=l) (r:=r) (λc hc=>h1 c (List.mem_cons_of_mem _ hc)) h2;have ha:=h1 a (gN ..);rw[zO,List.takeWhile_cons,Jw,aJ ha,aJ ha,this.1,this.2];exact⟨rfl,rfl⟩
def bW(o:Int):Nat:=if o=9\/o=10 then 0 else if o=3\/o=4 then 1 else if o=5\/o=6 then 2 else if o=2\/o=7 then 3 else 4
def l7(o:Int):UInt8:=if o=3 then 43 else if o=4 then 45 else if o=5 then 42 else if o=6 then 47 else if o=7 then 94 else if o=9 then 61 else 60
def vP(k:Nat)(p:Int×Tx):Tx:=if bW p.1<k then 40::(p.2++[41])else p.2
def opT(o n:Int)(l:List (Int×Tx)):Tx:=
 if o=0 then Lib.decDigits n.toNat
 else if o=1 then[fF (97+n.toNat)]
 else if o=2 then 45::vP 3 (l.getD 0 (0,[]))
 else if o=8 then 82::40::(vP 1 (l.getD 0 (0,[]))++[41])
 else if o=7 then vP 4 (l.getD 0 (0,[]))++94::vP 3 (l.getD 1 (0,[]))
 else vP (max 1 (bW o)) (l.getD 0 (0,[]))++l7 o::vP (bW o+1) (l.getD 1 (0,[]))
mutual
def gH:Ex->Tx
 |.mk o n ks=>opT o n (txL ks)
def txL:List Ex->List (Int×Tx)
 |[]=>[]
 |k::l=>(k.op,gH k)::txL l
end
def cQ(k:Nat)(e:Ex):Tx:=vP k (e.op,gH e)
theorem iT{k:Nat}{e:Ex}(h:k<=bW e.op):cQ k e=gH e:=by
 unfold cQ vP;rw[aD];show ¬ bW e.op<k;omega
theorem pU{k:Nat}{e:Ex}(h:bW e.op<k):cQ k e=40::(gH e++[41]):=by
 unfold cQ vP;rw[aJ];show bW e.op<k;omega
theorem En{n:Int}:gH (.mk 0 n [])=Lib.decDigits n.toNat:=rfl
theorem El{n:Int}:gH (.mk 1 n [])=[fF (97+n.toNat)]:=rfl
theorem Is{n:Int}{a:Ex}:gH (.mk 2 n [a])=45::cQ 3 a:=rfl
theorem Iq{n:Int}{a:Ex}:gH (.mk 8 n [a])=82::40::(cQ 1 a++[41]):=rfl
theorem Ir{n:Int}{a b:Ex}:gH (.mk 7 n [a,b])=cQ 4 a++94::cQ 3 b:=rfl
theorem Em{o n:Int}{a b:Ex}(h:o=3\/o=4\/o=5\/o=6\/o=9\/o=10):gH (.mk o n [a,b])=cQ (max 1 (bW o)) a++l7 o::cQ (bW o+1) b:=by
 rcases h with rfl|rfl|rfl|rfl|rfl|rfl <;> rfl
end Go.Proofs
/- What is printed is read as the tree. -/
namespace Go.Proofs
open Go Go.Ax
inductive Wf:Ex->Prop
 |num {n:Int}:0<=n->n<=999999->Wf (.mk 0 n [])
 |var {n:Int}:0<=n->n<=25->Wf (.mk 1 n [])
 |neg {a:Ex}:Wf a->Wf (.mk 2 0 [a])
 |root {a:Ex}:Wf a->Wf (.mk 8 0 [a])
 |pow {a b:Ex}:Wf a->Wf b->Wf (.mk 7 0 [a,b])
 |two {o:Int} {a b:Ex}:o=3\/o=4\/o=5\/o=6->Wf a->Wf b->Wf (.mk o 0 [a,b])
def Ends(k:Nat)(r:Tx):Prop:=(∀c,r.head?=some c->bG c=false)/\∀c,(aU r).head?=some c->(k<=3->c≠94)/\(k<=2->iR 2 c=none)/\(k<=1->iR 1 c=none)/\(k<=0->iR 0 c=none)
theorem Ends.up{k j:Nat}{r:Tx}(h:Ends k r)(hk:k<=j):Ends j r:=
 ⟨h.1,λc hc=>⟨λx=>(h.2 c hc).1 (by omega),λx=>(h.2 c hc).2.1 (by omega),λx=>(h.2 c hc).2.2.1 (by omega),λx=>(h.2 c hc).2.2.2 (by omega)⟩⟩
theorem Ends.nil{k:Nat}:Ends k []:=⟨λc h=>(by cases h),λc h=>(by cases h)⟩
theorem j4{c:UInt8}{t:Tx}(h:c≠32):aU (c::t)=c::t:=by rw[aU,aD h]
theorem Ends.par{k:Nat}{r:Tx}:Ends k (41::r):=⟨λc h=>by cases h;rfl,λc h=>by
 rw[j4 (by decide)]at h;cases h;exact⟨λ_=>by decide,λ_=>rfl,λ_=>rfl,λ_=>rfl⟩⟩
structure Reads(e:Ex):Prop where
 a1:∀r,Ends 1 r->Rd (.lv 1) (cQ 1 e++r) (.ok e (aU r))
 a2:∀r,Ends 2 r->Rd (.lv 2) (cQ 2 e++r) (.ok e (aU r))
 a3:∀r,Ends 3 r->Rd (.lv 3) (cQ 3 e++r) (.ok e (aU r))
 a4:∀r,Ends 4 r->Rd .at (cQ 4 e++r) (.ok e r)
 b1:∀r R,Ends 2 r->Rd (.lo 1 e) (aU r) R->Rd (.lv 1) (cQ 1 e++r) R
 b2:∀r R,Ends 3 r->Rd (.lo 2 e) (aU r) R->Rd (.lv 2) (cQ 2 e++r) R
theorem CK{c:UInt8}(h:bG c=true):48<=c.toNat/\c.toNat<=57:=by
 unfold bG at h;rw[Bool.and_eq_true]at h;have h1:=cU h.1;have h2:=cU h.2;exact⟨zF.1 h1,zF.1 h2⟩
theorem a8h{c:UInt8}(h:c.toNat<48\/57<c.toNat):bG c=false:=by
 cases hd:bG c with
 |false=>rfl
 |true=>have:=CK hd;omega
theorem aMI(u:Nat):∃c t,Lib.decDigits u=c::t/\bG c=true:=by
 cases h:Lib.decDigits u with
 |nil=>exact absurd h (aMG u)
 |cons c t=>exact⟨c,t,rfl,aAE u c (by rw[h];exact gN ..)⟩
theorem a6e{e:Ex}(h:Wf e):1<=bW e.op/\bW e.op<=4:=by
 cases h with
 |num _ _=>exact(by decide:1<=bW 0/\bW 0<=4)
 |var _ _=>exact(by decide:1<=bW 1/\bW 1<=4)
 |neg _=>exact(by decide:1<=bW 2/\bW 2<=4)
 |root _=>exact(by decide:1<=bW 8/\bW 8<=4)
 |pow _ _=>exact(by decide:1<=bW 7/\bW 7<=4)
 |two h _ _=>
   show 1<=bW _/\bW _<=4;rcases h with rfl|rfl|rfl|rfl
   .exact(by decide:1<=bW 3/\bW 3<=4)
   .exact(by decide:1<=bW 4/\bW 4<=4)
   .exact(by decide:1<=bW 5/\bW 5<=4)
   .exact(by decide:1<=bW 6/\bW 6<=4)
theorem yI{c d:UInt8}(h:c.toNat≠d.toNat):c≠d:=λe=>h (by rw[e])
theorem aM5{e:Ex}(h:Wf e):∃c t,cQ 4 e=c::t/\c≠32/\c≠45:=by
 by_cases hl:bW e.op<4
 .exact⟨40,_,pU hl,by decide,by decide⟩
 .rw[iT (by omega)]
  cases h with
  |num _ _=>
    rw[En];obtain⟨c,t,h1,h2⟩:=aMI _;have:=CK h2;exact⟨c,t,h1,yI (by show c.toNat≠32;omega),yI (by show c.toNat≠45;omega)⟩
  |var h0 h1=>
    rename_i n;rw[El];have:=QM (n:=97+n.toNat) (by omega);exact⟨_,_,rfl,yI (by rw[this];show _≠32;omega),yI (by rw[this];show _≠45;omega)⟩
  |root _=>exact⟨82,_,rfl,by decide,by decide⟩
  |neg _=>exact absurd (show bW 2<4 by decide) hl
  |pow _ _=>exact absurd (show bW 7<4 by decide) hl
  |two h _ _=>
    rcases h with rfl|rfl|rfl|rfl
    .exact absurd (show bW 3<4 by decide) hl
    .exact absurd (show bW 4<4 by decide) hl
    .exact absurd (show bW 5<4 by decide) hl
    .exact absurd (show bW 6<4 by decide) hl
theorem aAd{e:Ex}(h:Wf e)(he:cQ 3 e=cQ 4 e)(a4:∀r,Ends 4 r->Rd .at (cQ 4 e++r) (.ok e r))(r:Tx)(hr:Ends 3 r):Rd (.lv 3) (cQ 3 e++r) (.ok e (aU r)):=by
 obtain⟨c,t,h1,h2,h3⟩:=aM5 h;have:=a4 r (hr.up (by omega));rw[he];refine .mX ?_ this λhh=>(hr.2 _ hh).1 (by omega) rfl
 rw[h1,zO,j4 h2];simpa using h3
theorem F8{e:Ex}{k:Nat}(hk:k<3)(he:cQ k e=cQ (k+1) e)(a:∀r,Ends (k+1) r->Rd (.lv (k+1)) (cQ (k+1) e++r) (.ok e (aU r)))(r:Tx)(R:Pr)(hr:Ends (k+1) r)(h:Rd (.lo k e) (aU r) R):Rd (.lv k) (cQ k e++r) R:=by
 rw[he];exact .vC hk (a r hr) h
theorem Rl{e:Ex}(b:∀r R,Ends 2 r->Rd (.lo 1 e) (aU r) R->Rd (.lv 1) (cQ 1 e++r) R)(r:Tx)(hr:Ends 1 r):Rd (.lv 1) (cQ 1 e++r) (.ok e (aU r)):=by
 refine b r _ (hr.up (by omega)) ?_;have:=Rd.sL (k:=1) (e:=e) (t:=aU r) (by omega) (λc hc=>by rw[fL]at hc;exact(hr.2 c hc).2.2.1 (by omega))
 rwa [fL]at this
theorem Rk{e:Ex}(b:∀r R,Ends 3 r->Rd (.lo 2 e) (aU r) R->Rd (.lv 2) (cQ 2 e++r) R)(r:Tx)(hr:Ends 2 r):Rd (.lv 2) (cQ 2 e++r) (.ok e (aU r)):=by
 refine b r _ (hr.up (by omega)) ?_;have:=Rd.sL (k:=2) (e:=e) (t:=aU r) (by omega) (λc hc=>by rw[fL]at hc;exact(hr.2 c hc).2.1 (by omega))
 rwa [fL]at this
theorem aAc{e:Ex}(h:bW e.op<4)(h1:1<=bW e.op)(a1:∀r,Ends 1 r->Rd (.lv 1) (cQ 1 e++r) (.ok e (aU r)))(r:Tx):Rd .at (cQ 4 e++r) (.ok e r):=by
 rw[pU h];have a:=a1 (41::r) .par;rw[iT h1,j4 (by decide)]at a;have e1:40::(gH e++[41])++r=40::(gH e++41::r):=by simp
 rw[e1];refine .par (λc hc=>?_) (.Bu (t:=gH e++41::r) (j4 (by decide)) a (j4 (by decide)));rw[j4 (by decide)]at hc;cases hc;exact⟨rfl,rfl,by decide⟩
theorem Yj{e:Ex}(h:Wf e)(hl:bW e.op=4)(a4:∀r,Ends 4 r->Rd .at (cQ 4 e++r) (.ok e r)):Reads e:=by
 have eq:∀j k,j<=4->k<=4->cQ j e=cQ k e:=λj k hj hk=>by rw[iT (by omega),iT (by omega)]
 have a3:=aAd h (eq 3 4 (by omega) (by omega)) a4;have b2:=F8 (k:=2) (by omega) (eq 2 3 (by omega) (by omega)) a3;have a2:=Rk b2;have b1:=F8 (k:=1) (by omega) (eq 1 2 (by omega) (by omega)) a2;exact⟨Rl b1,a2,a3,a4,b1,b2⟩
theorem aKY{e:Ex}(hl:bW e.op=3)(a3:∀r,Ends 3 r->Rd (.lv 3) (cQ 3 e++r) (.ok e (aU r))):Reads e:=by
 have eq:∀j k,j<=3->k<=3->cQ j e=cQ k e:=λj k hj hk=>by rw[iT (by omega),iT (by omega)]
 have b2:=F8 (k:=2) (by omega) (eq 2 3 (by omega) (by omega)) a3;have a2:=Rk b2;have b1:=F8 (k:=1) (by omega) (eq 1 2 (by omega) (by omega)) a2;have a1:=Rl b1;exact⟨a1,a2,a3,λr _=>aAc (by omega) (by omega) a1 r,b1,b2⟩
theorem a4t{e:Ex}(h:Wf e)(hl:bW e.op=2)(b2:∀r R,Ends 3 r->Rd (.lo 2 e) (aU r) R->Rd (.lv 2) (cQ 2 e++r) R):Reads e:=by
 have a2:=Rk b2;have b1:=F8 (k:=1) (by omega) (by rw[iT (by omega),iT (by omega)]) a2;have a1:=Rl b1;have a4:=aAc (by omega) (by omega) a1;have a3:=aAd h (by rw[pU (by omega),pU (by omega)]) (λr _=>a4 r);exact⟨a1,a2,a3,λr _=>a4 r,b1,b2⟩
theorem a4u{e:Ex}(h:Wf e)(hl:bW e.op=1)(b1:∀r R,Ends 2 r->Rd (.lo 1 e) (aU r) R->Rd (.lv 1) (cQ 1 e++r) R):Reads e:=by
 have a1:=Rl b1;have a4:=aAc (by omega) (by omega) a1;have a3:=aAd h (by rw[pU (by omega),pU (by omega)]) (λr _=>a4 r);have b2:=F8 (k:=2) (by omega) (by rw[pU (by omega),pU (by omega)]) a3;exact⟨a1,Rk b2,a3,λr _=>a4 r,b1,b2⟩
theorem aLx{o:Int}{k:Nat}{r:Tx}(h:(k=1/\(o=3\/o=4))\/(k=2/\(o=5\/o=6))):Ends (k+1) (l7 o::r)/\aU (l7 o::r)=l7 o::r/\iR k (l7 o)=some o/\bW o=k:=by
 rcases h with⟨rfl,rfl|rfl⟩|⟨rfl,rfl|rfl⟩ <;>
 refine⟨⟨λc h=>by cases h;rfl,λc h=>?_⟩,j4 (by decide),rfl,rfl⟩ <;>
 rw[j4 (by decide)]at h <;> cases h <;>
 exact⟨λ_=>by decide,λ_=>by first|rfl|omega,λ_=>by first|rfl|omega,λ_=>rfl⟩
theorem a8c{r:Tx}:Ends 4 (94::r):=⟨λc h=>by cases h;rfl,λc h=>⟨λx=>by omega,λx=>by omega,λx=>by omega,λx=>by omega⟩⟩
theorem reads{e:Ex}(h:Wf e):Reads e:=by
 induction h with
 |num h0 h1=>
   rename_i n;refine Yj (.num h0 h1) rfl λr hr=>?_
   rw[iT (show 4<=bW 0 by decide),En];obtain⟨c,t,e1,e2⟩:=aMI n.toNat;have hc:=CK e2;have tw:=aJm (p:=bG) (l:=Lib.decDigits n.toNat) (r:=r) (aAE _) hr.1;have:=Rd.num (l:=Lib.decDigits n.toNat++r) (c:=c) (t:=t++r) (by rw[e1,zO,j4 (yI (by show c.toNat≠32;omega))]) e2 (by
    rw[<-zO,<-e1,tw.1];exact a8m (by omega))
   rw[<-zO,<-e1,tw.1,tw.2,a60,Int.toNat_of_nonneg h0]at this;exact this
 |var h0 h1=>
   rename_i n;refine Yj (.var h0 h1) rfl λr hr=>?_
   rw[iT (show 4<=bW 1 by decide),El];have hc:=QM (n:=97+n.toNat) (by omega);generalize fF (97+n.toNat)=c at hc;have:=Rd.var (l:=c::r) (c:=c) (t:=r) (j4 (yI (by show c.toNat≠32;omega))) (by
    unfold eH;rw[aQ (zF.2 (by show 97<=c.toNat;omega)),aQ (zF.2 (by show c.toNat<=122;omega))];rfl)
   rw[hc,show((97+n.toNat:Nat):Int)-97=n by omega]at this;exact this
 |neg ha ih=>
   rename_i a;refine aKY rfl λr hr=>?_
   rw[iT (show 3<=bW 2 by decide),Is];exact .neg (t:=cQ 3 a++r) (j4 (by decide)) (ih.a3 r hr)
 |root ha ih=>
   rename_i a;refine Yj (.root ha) rfl λr hr=>?_
   rw[iT (show 4<=bW 8 by decide),Iq];have a:=ih.a1 (41::r) .par;rw[j4 (by decide)]at a;have e1:∀x:Tx,82::40::(x++[41])++r=82::40::(x++41::r):=by simp
   rw[e1];exact .root (j4 (by decide)) (.Bu (j4 (by decide)) a (j4 (by decide)))
 |pow ha hb iha ihb=>
   rename_i a b;refine aKY rfl λr hr=>?_
   rw[iT (show 3<=bW 7 by decide),Ir,iC,zO];obtain⟨c,t,h1,h2,h3⟩:=aM5 ha;refine .pow ?_ (iha.a4 _ a8c) (j4 (by decide)) (ihb.a3 r hr);rw[h1,zO,j4 h2];simpa using h3
 |two ho ha hb iha ihb=>
   rename_i o a b;have hw:=Wf.two ho ha hb;have tx:gH (.mk o 0 [a,b])=_:=Em (by omega);by_cases h1:o=3\/o=4
   .have hl:bW o=1:=by rcases h1 with rfl|rfl <;> rfl
    refine a4u hw hl λr R hr hR=>?_
    have eo:=aLx (o:=o) (k:=1) (r:=cQ 2 b++r) (.inl ⟨rfl,h1⟩);rw[iT (show 1<=bW o by omega),tx,hl,iC,zO];refine iha.b1 _ R eo.1 ?_;rw[eo.2.1];exact .yO (by omega) eo.2.1 eo.2.2.1 (by omega) (ihb.a2 r hr) hR
   .have hl:bW o=2:=by rcases ho with rfl|rfl|rfl|rfl <;> first|rfl|(exact absurd (by simp) h1)
    refine a4t hw hl λr R hr hR=>?_
    have eo:=aLx (o:=o) (k:=2) (r:=cQ 3 b++r) (.inr ⟨rfl,by omega⟩);rw[iT (show 2<=bW o by omega),tx,hl,iC,zO];refine iha.b2 _ R eo.1 ?_;rw[eo.2.1];exact .yO (by omega) eo.2.1 eo.2.2.1 (by omega) (ihb.a3 r hr) hR
inductive Rm:Ex->Prop
 |tree {e:Ex}:Wf e->Rm e
 |rel {o:Int} {a b:Ex}:o=9\/o=10->Wf a->Wf b->Rm (.mk o 0 [a,b])
theorem a4s{o:Int}{a b:Ex}(ho:o=9\/o=10){x y r:Tx}(hx:∀r,Ends 1 r->Rd (.lv 1) (x++r) (.ok a (aU r)))(hy:∀r,Ends 1 r->Rd (.lv 1) (y++r) (.ok b (aU r)))(hr:Ends 1 r):Rd (.lv 0) (x++l7 o::(y++r)) (.ok (.mk o 0 [a,b]) (aU r)):=by
 have e:Ends 1 (l7 o::(y++r))/\aU (l7 o::(y++r))=l7 o::(y++r)/\iR 0 (l7 o)=some o:=by
  rcases ho with rfl|rfl <;>
  refine⟨⟨λc h=>by cases h;rfl,λc h=>?_⟩,j4 (by decide),rfl⟩ <;>
  rw[j4 (by decide)]at h <;> cases h <;>
  exact⟨λ_=>by decide,λ_=>rfl,λ_=>rfl,λ_=>by omega⟩
 refine .vC (by omega) (hx _ e.1) ?_;exact .Bz (by rw[fL];exact e.2.1) e.2.2 (hy r hr)
theorem a4r{e:Ex}{x r:Tx}(hx:∀r,Ends 1 r->Rd (.lv 1) (x++r) (.ok e (aU r)))(hr:Ends 0 r):Rd (.lv 0) (x++r) (.ok e (aU r)):=by
 refine .vC (by omega) (hx r (hr.up (by omega))) ?_;have:=Rd.sL (k:=0) (e:=e) (t:=aU r) (by omega) (λc hc=>by rw[fL]at hc;exact(hr.2 c hc).2.2.2 (by omega))
 rwa [fL]at this
theorem a4v{e:Ex}(h:Rm e):Rd (.lv 0) (gH e) (.ok e []):=by
 cases h with
 |tree h=>
   have:=a4r (reads h).a1 (Ends.nil (k:=0))
   rwa [rI,iT (a6e h).1]at this
 |rel ho ha hb=>
   have:=a4s ho (reads ha).a1 (reads hb).a1 (Ends.nil (k:=1));rw[rI]at this;rw[Em (.inr (.inr (.inr (.inr ho))))];rcases ho with rfl|rfl <;> exact this
end Go.Proofs
/- A text that is read as a tree has at least the parentheses that the tree asks for. -/
namespace Go.Proofs
open Go Go.Ax
abbrev cn(l:Tx):Nat:=l.count 40
theorem FQ{c a b:UInt8}{x y o:Int}(h:(if c=a then some x else if c=b then some y else none)=some o):(c=a/\o=x)\/(c=b/\o=y):=by
 by_cases h1:c=a
 .rw[aJ h1]at h;exact .inl ⟨h1,(fV h).symm⟩
 .rw[aD h1]at h
  by_cases h2:c=b
  .rw[aJ h2]at h;exact .inr ⟨h2,(fV h).symm⟩
  .rw[aD h2]at h;cases h
theorem aKc{k:Nat}{c:UInt8}{o:Int}(h:iR k c=some o):bW o=k/\l7 o=c/\(o=3\/o=4\/o=5\/o=6\/o=9\/o=10):=by
 match k,h with
 |0,h=>rcases FQ h with⟨rfl,rfl⟩|⟨rfl,rfl⟩ <;> exact⟨rfl,rfl,by omega⟩
 |1,h=>rcases FQ h with⟨rfl,rfl⟩|⟨rfl,rfl⟩ <;> exact⟨rfl,rfl,by omega⟩
 |2,h=>rcases FQ h with⟨rfl,rfl⟩|⟨rfl,rfl⟩ <;> exact⟨rfl,rfl,by omega⟩
 |k+3,h=>simp[iR]at h
theorem ZU{r:Pr}{f:Ex->Ex}{e:Ex}{t:Tx}(h:r.map f = .ok e t):∃e',r = .ok e' t/\e=f e':=by
 cases r with
 |ok a b=>simp only[Pr.map,Pr.ok.injEq]at h;exact⟨a,by rw[h.2],h.1.symm⟩
 |bad b=>simp[Pr.map]at h
end Go.Proofs
/- Blanks, and parentheses around the whole, do not change what is read. -/
namespace Go.Proofs
open Go Go.Ax
inductive Sp:Bool->Tx->Tx->Prop
 |nil {p:Bool}:Sp p [] []
 |cons {p:Bool} {c:UInt8} {l m:Tx}:Sp (bG c) l m->Sp p (c::l) (c::m)
 |blank {p:Bool} {l m:Tx}:(p=true->∀c,l.head?=some c->bG c=false)->Sp p l m->Sp p l (32::m)
theorem Sp.rfl:∀{l:Tx}{p:Bool},Sp p l l
 |[],_=>.nil
 |_::_,_=>.cons Sp.rfl
theorem Sp.any{l m:Tx}{p:Bool}(h:Sp p l m):Sp false l m:=by
 induction h with
 |nil=>exact .nil
 |cons h _=>exact .cons h
 |blank _ _ ih=>exact .blank (λh=>by cases h) ih
theorem Sp.tail{l m:Tx}{p:Bool}(h:Sp p l m):Sp p l (m++[32]):=by
 induction h with
 |nil=>exact .blank (λ_ c h=>by cases h) .nil
 |cons _ ih=>exact .cons ih
 |blank h _ ih=>exact .blank h ih
end Go.Proofs
