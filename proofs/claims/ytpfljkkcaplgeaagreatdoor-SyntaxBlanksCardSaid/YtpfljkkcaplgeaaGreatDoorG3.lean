/- What functions do, and plain laws. Conditions are in the theorems. -/
import Derived.Test.YtpfljkkcaplgeaaGreatDoorG2
import Derived.Test.YtpfljkkcaplgeaaGreatDoorG1
import Derived.Lib.ItoaNum
import Derived.Lib.AtoiTie
open Bool renaming and_assoc->rU,and_eq_true->aT,and_false->aAB,and_self->J5,false_and->pR,false_or->rT,not_eq_true'->wW,not_false->qS,not_true->Bj,or_eq_true->lS,or_false->Bi,or_true->aK8,true_and->iU,true_or->J4
open Go.IntKind renaming i64->aH
open Int renaming natCast_add->a95,tmod_nonneg->E6,toNat_natCast->kB,toNat_of_nonneg->J0
open List renaming all_eq_true->fG,any_cons->a94,append_assoc->bP,append_nil->e9,cons_append->pP,dropLast_concat_getLast->a9X,drop_left->Zm,findIdx?_eq_some_iff_getElem->a9R,flatMap_cons->fV,getElem?_append_right->dN,getElem?_eq_getElem->dC,getElem?_eq_none->oC,length_append->aL,length_cons->eD,length_drop->lI,length_map->cP,length_nil->jV,length_take->iT,length_zip->a9O,map_append->gH,map_eq_append_iff->qO,mem_append->wR,mem_cons->eZ,mem_cons_of_mem->fR,mem_cons_self->iB,mem_of_getElem?->iM,mem_range->vE,mem_singleton->nH,nil_append->k7,not_mem_nil->Zl,of_mem_zip->a9J,singleton_append->Zk,suffix_refl->Bf,takeWhile_cons->aK1,take_append->Zj,take_append_drop->Zi,take_left->OS,take_of_length_le->vD
open List.cons renaming inj->a92
open Nat renaming add_sub_cancel_left->a8z,le_refl->cE,lt_or_ge->Bd,mul_le_mul->a8v,strongRecOn->vB,sub_self->kZ,zero_le->o7
open Prod renaming ext->JV,fst->fF,snd->dB
open UInt8 renaming le_iff_toNat_le->EY,lt_iff_toNat_lt->JS,ofNat->s7,toNat_inj->B9
/- Formulas and blocks held against each other. -/
namespace Go.Proofs
open Go Go.Ax Go.Ax.aA
theorem a68{a b:Int}{l:List Ex}{c d:Int}{m:List Ex}:bT (Ex.mk a b l) (Ex.mk c d m)=(decide (a=c)&&decide (b=d)&&bT l m):=by
 refine(Nk ?_).symm;rw[aT,aT,eR,eR,BV];constructor
 .rintro⟨⟨rfl,rfl⟩,rfl⟩;rfl
 .intro h;cases h;exact⟨⟨rfl,rfl⟩,rfl⟩
theorem aXr(N:Nat)(hN:N<=1000000):∀(n:Nat)(a b:Ex),dD a<n->dD a<N->HW (DO N n) (Ex.op a,Ex.num a,Ex.kids a,Ex.op b,Ex.num b,Ex.kids b)=some (bT a b):=by
 intro n
 induction n with
 |zero=>intro a b h;omega
 |succ n ih=>
   intro a b h hs;cases a with
   |mk a0 a1 a2=>
   cases b with
   |mk b0 b1 b2=>
   have hN1:(DO N n).1=N:=by cases n <;> rfl
   have hks:a2.length<N:=by have:=NU a2;simp only[dD]at hs;omega
   show aFL (DO N n) a0 a1 a2 b0 b1 b2=_;unfold aFL Lu;generalize DO N n=R at hN1 ih;have hz:LA R a2 b2=some (bT a2 b2):=aTP a2 b2 (by omega) (by omega) (λy hy y' hy'=>ih y y' (by have:=vZ hy;simp only[dD]at h;omega) (by have:=vZ hy;simp only[dD]at hs;omega));rw[fM hz,a68];show some _=some _;cases decide (a0=b0)&&decide (a1=b1) <;> rfl
theorem aXq{N:Nat}(a b:Ex)(hs:dD a<N)(hN:N<=1000000):VF N (Ex.op a) (Ex.num a) (Ex.kids a) (Ex.op b) (Ex.num b) (Ex.kids b)=some (bT a b):=aXr N hN N a b hs hs
theorem aYT{N:Nat}(x y:Int×List (Int×Int))(hl:x.2.length<N)(hN:N<=1000000):Ha N x.1 x.2 y.1 y.2=some (bT x y):=by
 unfold Ha VP;rw[fM (aYN x.2 y.2 hl hN)];show some (decide (x.1=y.1)&&(decide (x.1=y.1)&&bT x.2 y.2))=_;rw[<-rU,J5];refine aR some (Nk ?_);rw[aT,eR,BV,Prod.ext_iff]
def Zr(N:Nat)(l:List (Int×List (Int×Int))):Prop:=l.length<N/\∀s∈l,s.2.length<N
def aK5(N:Nat)(g:List aN):Prop:=g.length<N/\∀r∈g,s9 N r
theorem aYK{N:Nat}(x y:List (List (Int×Int×Int)))(hl:J1 N x)(hN:N<=1000000):H7 N x y=some (bT x y):=by
 unfold H7 VL;rw[aYE x y hl.1 hN (λb hb b' _=>aXz b b' (hl.2 b hb) hN),aK];rfl
structure J7(N:Nat)(runs:List (Int×List UInt8))(e:Ex)(sum:List Int)(g:List aN)(f:List (Int×List (Int×Int)))(m:List (List (List (Int×Int×Int))))(ls:List (List UInt8)):Prop where
 r:JU N runs
 e:dD e<N
 s:sum.length<N
 g:aK5 N g
 f:Zr N f
 m:Zh N m
 l:s9 N ls
theorem vN{N:Nat}{a0 a2 a3 a5 a8 a9:Int}{a1:List (Int×List UInt8)}{a4:List Ex}{a6:List Int}{a7:List aN}{a10:List (Int×List (Int×Int))}{a11:List (List (List (Int×Int×Int)))}{a12:List (List UInt8)}
    {b0 b2 b3 b5 b8 b9:Int} {b1:List (Int×List UInt8)} {b4:List Ex} {b6:List Int} {b7:List aN} {b10:List (Int×List (Int×Int))} {b11:List (List (List (Int×Int×Int)))} {b12:List (List UInt8)}
    (h:J7 N a1 (Ex.mk a2 a3 a4) a6 a7 a10 a11 a12) (hN:N<=1000000):
    AV N a0 a1 a2 a3 a4 a5 a6 a7 a8 a9 a10 a11 a12 b0 b1 b2 b3 b4 b5 b6 b7 b8 b9 b10 b11 b12=some (decide (a0=b0)&&bT a1 b1&&bT (Ex.mk a2 a3 a4) (Ex.mk b2 b3 b4)&&decide (a5=b5)&&bT a6 b6&&bT a7 b7&&decide (a8=b8)&&decide (a9=b9)&&bT a10 b10&&bT a11 b11&&bT a12 b12):=by
 have c1:=aFQ (N:=N) a1 b1 h.r.1 hN;have c2:=aXq (N:=N) (Ex.mk a2 a3 a4) (Ex.mk b2 b3 b4) h.e hN;have c3:=aFJ (N:=N) a6 b6 h.s hN;have c4:=aXh (N:=N) a7 b7 h.g.1 hN (λy hy y' _=>Lr y y' (h.g.2 y hy).1 hN);have c5:=aX7 (N:=N) a10 b10 h.f.1 hN (λy hy y' _=>aYT y y' (h.f.2 y hy) hN);have c6:=aX1 (N:=N) a11 b11 h.m.1 hN (λy hy y' _=>aYK y y' (h.m.2 y hy) hN);have c7:=Lr (N:=N) a12 b12 h.l.1 hN;unfold AV Px;rw[fM c1,fM (show VF N a2 a3 a4 b2 b3 b4=_ from c2),fM c3,fM c4,fM c5,fM c6,fM c7];generalize decide (a0=b0)=x0,bT a1 b1=x1,bT (Ex.mk a2 a3 a4) (Ex.mk b2 b3 b4)=x2,decide (a5=b5)=x3,bT a6 b6=x4,bT a7 b7=x5,decide (a8=b8)=x6,decide (a9=b9)=x7,bT a10 b10=x8,bT a11 b11=x9;cases x0 with
 |false=>rfl
 |true=>cases x1 with
   |false=>rfl
   |true=>cases x2 with
     |false=>rfl
     |true=>cases x3 with
       |false=>rfl
       |true=>cases x4 with
         |false=>rfl
         |true=>cases x5 with
           |false=>rfl
           |true=>cases x6 with
             |false=>rfl
             |true=>cases x7 with
               |false=>rfl
               |true=>cases x8 with
                 |false=>rfl
                 |true=>cases x9 with
                   |false=>rfl
                   |true=>rfl
end Go.Proofs
/- What is right in an examination: blocks. -/
namespace Go.Proofs
open Go Go.Ax Go.Ax.aA
theorem yV{α:Type}(a:α):bT a a=true:=BU rfl
def zE:Ex:=Ex.mk 0 0 []
noncomputable def vY(b:fI):Bool:=(decide (b.1=0)||bT b.2.1 [])&&(decide (b.1=1)||bT b.2.2.1 zE)&&(decide (b.1=2)||decide (b.2.2.2.1.1=0)&&bT b.2.2.2.1.2 [])&&(decide (b.1=3)||bT b.2.2.2.2.1 [])&&(decide (b.1=4)||decide (b.2.2.2.2.2.1.1=0)&&decide (b.2.2.2.2.2.1.2.1=0)&&bT b.2.2.2.2.2.1.2.2 [])&&(decide (b.1=5)||bT b.2.2.2.2.2.2.1 [])&&(decide (b.1=6)||bT b.2.2.2.2.2.2.2 [])
def BR(f:Int×Int×List (Int×List (Int×Int))):Bool:=cN f.1 1 1000&&cN f.2.1 1 1000&&dK f.2.2 1 8 As
def D5(s:Int×List Int):Bool:=I0 s.1&&dK s.2 1 8 (λn=>cN n 0 999999)
def aI3(g:List aN):Bool:=dK g 1 12 (xR g)
def aIJ(l:List (List UInt8)):Bool:=dK l 1 64 (λs=>lX s 0 80)
def oT(b:fI):Bool:=
 if b.1=0 then pB b.2.1 else if b.1=1 then Nh b.2.2.1 else if b.1=2 then D5 b.2.2.2.1 else if b.1=3 then aI3 b.2.2.2.2.1
 else if b.1=4 then BR b.2.2.2.2.2.1 else if b.1=5 then Dv b.2.2.2.2.2.2.1 else if b.1=6 then aIJ b.2.2.2.2.2.2.2 else false
noncomputable def jJ(b:fI):Bool:=vY b&&oT b
theorem yP{c:Bool}{T:O}{b:Bool}{mk:Bool->aF}{un:aF->Option Bool}(hu:∀d,un (mk d)=some d)(hT:T.bind un=some b):(br (!c) (some (mk false)) T).bind un=some (c&&b):=by
 cases c with
 |true=>exact hT
 |false=>exact hu _
section
variable{N:Nat}{a2 a3 a5 a8 a9:Int}{a1:List (Int×List UInt8)}{a4:List Ex}{a6:List Int}{a7:List aN}{a10:List (Int×List (Int×Int))}{a11:List (List (List (Int×Int×Int)))}{a12:List (List UInt8)}
theorem aYd(a0:Int)(h:J7 N a1 (Ex.mk a2 a3 a4) a6 a7 a10 a11 a12)(h20:20<=N)(hN:N<=1000000):
    Hb N a0 a1 a2 a3 a4 a5 a6 a7 a8 a9 a10 a11 a12=some (jJ (a0,a1,Ex.mk a2 a3 a4,(a5,a6),a7,(a8,a9,a10),a11,a12)):=by
 unfold Hb VY;by_cases k0:a0=0
 .subst k0
  rw[show tW N 0 a1 a2 a3 a4 a5 a6 a7 a8 a9 a10 a11 a12=some (0,a1,0,0,[],0,[],[],0,0,[],[],[])from rfl,aK,iQ (vN h hN)];refine(yP (mk:=aB fY) (un:=aG fY) (λ_=>rfl) (b:=pB a1) ?_).trans ?_
  .show(cb (Ga N a1) λr2=>some (aB fY r2)).bind _=_
   rw[aD4 a1 h.r hN,aK];rfl
  .unfold jJ vY oT
   simp[yV,zE,rU]
 by_cases k1:a0=1
 .subst k1
  rw[show tW N 1 a1 a2 a3 a4 a5 a6 a7 a8 a9 a10 a11 a12=some (1,[],a2,a3,a4,0,[],[],0,0,[],[],[])from rfl,aK,iQ (vN h hN)];refine(yP (mk:=aB fY) (un:=aG fY) (λ_=>rfl) (b:=Nh (Ex.mk a2 a3 a4)) ?_).trans ?_
  .show(cb (LO N a2 a3 a4 1) λr2=>some (aB fY r2.2)).bind _=_
   rw[show LO N a2 a3 a4 1=some (jR (Ex.mk a2 a3 a4) 1)from aUP (Ex.mk a2 a3 a4) h.e h20 hN,aK];rfl
  .unfold jJ vY oT
   simp[yV,zE,rU]
 by_cases k2:a0=2
 .subst k2
  rw[show tW N 2 a1 a2 a3 a4 a5 a6 a7 a8 a9 a10 a11 a12=some (2,[],0,0,[],a5,a6,[],0,0,[],[],[])from rfl,aK,iQ (vN h hN)];refine(yP (mk:=aB fY) (un:=aG fY) (λ_=>rfl) (b:=D5 (a5,a6)) ?_).trans ?_
  .show(cb (LN N [3,4,5,6] a5) λr4=>cg r4 (LM N a6 1 8) false λr5=>some (aB fY (r4&&r5))).bind _=_
   rw[aUL a5 (by omega) hN,aK,fM (aUH a6 1 8 (λn=>cN n 0 999999) h.s hN (λy _=>aUD N y))];rw[<-rU,J5];rfl
  .unfold jJ vY oT
   simp[yV,zE,rU]
 by_cases k3:a0=3
 .subst k3
  rw[show tW N 3 a1 a2 a3 a4 a5 a6 a7 a8 a9 a10 a11 a12=some (3,[],0,0,[],0,[],a7,0,0,[],[],[])from rfl,aK,iQ (vN h hN)];refine(yP (mk:=aB fY) (un:=aG fY) (λ_=>rfl) (b:=aI3 a7) ?_).trans ?_
  .show(cb (LL N a7 1 12 (3,a1,Ex.mk a2 a3 a4,(a5,a6),a7,(a8,a9,a10),a11,a12)) λr2=>some (aB fY r2)).bind _=_
   rw[aTz a7 1 12 _ (xR a7) h.g.1 hN (λy hy=>aTv y _ (List.ne_nil_of_mem hy) (h.g.2 y hy) hN),aK];rfl
  .unfold jJ vY oT
   simp[yV,zE,rU]
 by_cases k4:a0=4
 .subst k4
  rw[show tW N 4 a1 a2 a3 a4 a5 a6 a7 a8 a9 a10 a11 a12=some (4,[],0,0,[],0,[],[],a8,a9,a10,[],[])from rfl,aK,iQ (vN h hN)];refine(yP (mk:=aB fY) (un:=aG fY) (λ_=>rfl) (b:=BR (a8,a9,a10)) ?_).trans ?_
  .show(cb (eU N a8 1 1000) λr7=>cg r7 (eU N a9 1 1000) false λr8=>cg (r7&&r8) (LH N a10 1 8) false λr9=>some (aB fY (r7&&r8&&r9))).bind _=_
   rw[mU,aK,fM (mU N a9 1 1000),fM (aTk a10 1 8 As h.f.1 hN (λy hy=>aTd y.1 y.2 (h.f.2 y hy) hN))];unfold BR;generalize cN a8 1 1000=x,cN a9 1 1000=y;cases x <;> cases y <;> rfl
  .unfold jJ vY oT
   simp[yV,zE,rU]
 by_cases k5:a0=5
 .subst k5
  rw[show tW N 5 a1 a2 a3 a4 a5 a6 a7 a8 a9 a10 a11 a12=some (5,[],0,0,[],0,[],[],0,0,[],a11,[])from rfl,aK,iQ (vN h hN)];refine(yP (mk:=aB fY) (un:=aG fY) (λ_=>rfl) (b:=Dv a11) ?_).trans ?_
  .show(cb (LD N a11) λr2=>some (aB fY r2)).bind _=_
   rw[aT9 a11 h.m hN,aK];rfl
  .unfold jJ vY oT
   simp[yV,zE,rU]
 by_cases k6:a0=6
 .subst k6
  rw[show tW N 6 a1 a2 a3 a4 a5 a6 a7 a8 a9 a10 a11 a12=some (6,[],0,0,[],0,[],[],0,0,[],[],a12)from rfl,aK,iQ (vN h hN)];refine(yP (mk:=aB fY) (un:=aG fY) (λ_=>rfl) (b:=aIJ a12) ?_).trans ?_
  .show(cb (Ck N 0 80) λr11=>cb (xB N a12 1 64 r11.1 r11.2) λr12=>some (aB fY r12)).bind _=_
   rw[LI,aK,LJ a12 1 64 0 80 h.l hN,aK];rfl
  .unfold jJ vY oT
   simp[yV,zE,rU]
 .have d0:=bD k0
  have d1:=bD k1;have d2:=bD k2;have d3:=bD k3;have d4:=bD k4;have d5:=bD k5;have d6:=bD k6;have e:tW N a0 a1 a2 a3 a4 a5 a6 a7 a8 a9 a10 a11 a12=some (a0,[],0,0,[],0,[],[],0,0,[],[],[]):=by
   unfold tW Tc;rw[d0,d1,d2,d3,d4,d5,d6];rfl
  rw[e,aK,iQ (vN h hN),d0,d1,d2,d3,d4,d5,d6];refine(yP (mk:=aB fY) (un:=aG fY) (λ_=>rfl) (b:=false) rfl).trans ?_;unfold jJ oT;simp[k0,k1,k2,k3,k4,k5,k6]
end
end Go.Proofs
/- What is right in an examination: questions, items. -/
namespace Go.Proofs
open Go Go.Ax Go.Ax.aA
abbrev jK:=Int×List (Int×List UInt8)×List (List UInt8)×List Int×List UInt8×Int×List (List UInt8)
abbrev kD:=Int×Int×Int×Int
abbrev mN:=List UInt8×List fI×List kD×List jK
abbrev lO:=List UInt8×List mN
def J6(N:Nat)(b:fI):Prop:=J7 N b.2.1 b.2.2.1 b.2.2.2.1.2 b.2.2.2.2.1 b.2.2.2.2.2.1.2.2 b.2.2.2.2.2.2.1 b.2.2.2.2.2.2.2
def EZ(N:Nat)(q:jK):Prop:=JU N q.2.1/\s9 N q.2.2.1/\q.2.2.2.1.length<N/\q.2.2.2.2.1.length<N/\s9 N q.2.2.2.2.2.2
def OX(N:Nat)(i:mN):Prop:=i.1.length<N/\(i.2.1.length<N/\∀b∈i.2.1,J6 N b)/\i.2.2.1.length<N/\(i.2.2.2.length<N/\∀q∈i.2.2.2,EZ N q)
def EW(N:Nat)(x:lO):Prop:=x.1.length<N/\x.2.length<N/\∀i∈x.2,OX N i
def p8(q:jK):Bool:=cN q.1 0 2&&pB q.2.1&&decide (q.2.2.1.length=q.2.2.2.2.2.2.length)&&dK q.2.2.1 0 6 (λs=>lX s 1 40)&&dK q.2.2.2.2.2.2 0 6 (λs=>lX s 0 60)&&dK q.2.2.2.1 0 8 (λn=>cN n 0 7)&&lX q.2.2.2.2.1 0 40&&cN q.2.2.2.2.2.1 0 100
theorem aYW{N:Nat}(q:jK)(h:EZ N q)(hN:N<=1000000):Lw N q.1 q.2.1 q.2.2.1 q.2.2.2.1 q.2.2.2.2.1 q.2.2.2.2.2.1 q.2.2.2.2.2.2=some (p8 q):=by
 obtain⟨q0,q1,q2,q3,q4,q5,q6⟩:=q;obtain⟨h1,h2,h3,h4,h6⟩:=h;simp only at h1 h2 h3 h4 h6;unfold Lw VR p8;have hd:decide ((q2.length:Int)=(q6.length:Int))=decide (q2.length=q6.length):=qD.2 (by omega);have e6:=a0D (N:=N) q3 0 8 (λn=>cN n 0 7) h3 hN (λy _=>aTV N y);simp only;rw[mU,aK,fM (aD4 q1 h1 hN),hd];cases cN q0 0 2 with
 |false=>rfl
 |true=>
 cases pB q1 with
 |false=>rfl
 |true=>
 cases decide (q2.length=q6.length)with
 |false=>rfl
 |true=>
 simp only[iU];rw[n5,LI,aK,n5,LJ q2 0 6 1 40 h2 hN,aK];cases dK q2 0 6 (λs=>lX s 1 40)with
 |false=>rfl
 |true=>
 simp only[iU];rw[n5,LI,aK,n5,LJ q6 0 6 0 60 h6 hN,aK];cases dK q6 0 6 (λs=>lX s 0 60)with
 |false=>rfl
 |true=>
 simp only[iU];rw[n5,e6,aK];cases dK q3 0 8 (λn=>cN n 0 7)with
 |false=>rfl
 |true=>
 simp only[iU];rw[n5,KT q4 0 40 h4 hN,aK];cases lX q4 0 40 with
 |false=>rfl
 |true=>
 simp only[iU];rw[n5,mU,aK];rfl
noncomputable def oV(i:mN):Bool:=wB i.1&&dK i.2.1 0 8 jJ&&dK i.2.2.1 0 8 uV&&dK i.2.2.2 0 4 p8
theorem aYe{N:Nat}(y:fI)(h:J6 N y)(h20:20<=N)(hN:N<=1000000):Hb N y.1 y.2.1 (Ex.op y.2.2.1) (Ex.num y.2.2.1) (Ex.kids y.2.2.1) y.2.2.2.1.1 y.2.2.2.1.2 y.2.2.2.2.1 y.2.2.2.2.2.1.1 y.2.2.2.2.2.1.2.1 y.2.2.2.2.2.1.2.2 y.2.2.2.2.2.2.1 y.2.2.2.2.2.2.2=some (jJ y):=by
 obtain⟨a0,a1,⟨a2,a3,a4⟩,⟨a5,a6⟩,a7,⟨a8,a9,a10⟩,a11,a12⟩:=y;exact aYd a0 h h20 hN
theorem aNf{N:Nat}(i:mN)(h:OX N i)(h20:20<=N)(hN:N<=1000000):KS N i.1 i.2.1 i.2.2.1 i.2.2.2=some (oV i):=by
 obtain⟨i0,i1,i2,i3⟩:=i;obtain⟨h0,h1,h2,h3⟩:=h;simp only at h0 h1 h2 h3;unfold KS QF oV;simp only;rw[aF7 i0 h0 hN,aK,fM (aYi i1 0 8 jJ h1.1 hN (λy hy=>aYe y (h1.2 y hy) h20 hN)),fM (aY8 i2 0 8 uV h2 hN (λy _=>aY4 N y.1 y.2.1 y.2.2.1 y.2.2.2)),fM (aY0 i3 0 4 p8 h3.1 hN (λy hy=>aYW y (h3.2 y hy) hN))];generalize wB i0=x,dK i1 0 8 jJ=y,dK i2 0 8 uV=z;cases x <;> cases y <;> cases z <;> rfl
noncomputable def nX(x:lO):Bool:=lX x.1 0 100&&dK x.2 0 12 oV
end Go.Proofs
/- Runs, hands, blocks, facts and questions as pieces. -/
namespace Go.Proofs
open Go Go.Ax Go.Ax.aA
theorem a60(e:Ex):∀d s,jR e d=(s,true)->s=(dD e:Int)/\dD e<=256:=by
 have key:∀n (e:Ex),dD e<n->∀d s,jR e d=(s,true)->s=(dD e:Int)/\dD e<=256:=by
  intro n
  induction n with
  |zero=>intro e h;omega
  |succ n ih=>
    intro e h d s hd;obtain⟨op,num,ks⟩:=e;unfold jR at hd;cases hq:Dm op num ks.length d with
    |false=>rw[hq]at hd;cases hd
    |true=>
      rw[hq]at hd;have hk:∀(l:List Ex)(a r:Int),(∀k∈l,dD k<n)->mE l (d+1) a=some r->r=a+(jF l:Int):=by
       intro l
       induction l with
       |nil=>intro a r _ hr;unfold mE at hr;cases hr;simp[jF]
       |cons x l ihl=>
         intro a r hn hr;unfold mE at hr;rcases hx:jR x (d+1)with⟨m,c⟩;rw[hx]at hr;cases c with
         |false=>cases hr
         |true=>
           have h1:=(ih x (hn x iB) _ _ hx).1;have h2:=ihl _ _ (λk hk=>hn k (fR _ hk)) hr;simp only[jF];omega
      cases hs:mE ks (d+1) 1 with
      |none=>rw[hs]at hd;cases hd
      |some r=>
        rw[hs]at hd;have h1:=hk ks 1 r (λk hm=>by have:=vZ hm;simp only[dD]at h;omega) hs;have h2:r=s:=aR fF hd;have h3:decide (r<=256)=true:=aR dB hd;have h4:=bK h3;simp only[dD];omega
 exact key (dD e+1) e (by omega)
theorem Ng{e:Ex}(h:Nh e=true):rN e/\dD e<=256:=by
 unfold Nh at h;refine⟨a6Z e 1 h,(a60 e 1 (jR e 1).1 ?_).2⟩;rw[<-h]
theorem cM{α:Type}{l:List α}{a b:Int}{q:α->Bool}(h:dK l a b q=true):(l.length:Int)<=b/\∀y∈l,q y=true:=by
 unfold dK at h;simp only[aT,eR,fG]at h;exact⟨h.1.2,h.2⟩
theorem pT{n a b:Int}(h:cN n a b=true):a<=n/\n<=b:=by
 unfold cN at h;simpa using h
theorem dA{b c:List UInt8}(h:b≠[]):b++c≠[]:=λe=>h (List.append_eq_nil_iff.1 e).1
theorem oQ{α:Type}{l:List α}{i:Nat}{y:α}(hy:l[i]?=some y)(k:α->O)(z:O):br (decide ((i:Int)<(l.length:Int))) (gx l (i:Int) k) z=k y:=by
 have:i<l.length:=by
  rcases Bd i l.length with h|h
  .exact h
  .rw[oC h]at hy;cases hy
 rw[aX (by omega),bJ,iP (by omega) (by rw[kB];exact hy)]
theorem oP(n:Nat)(x z:O):br (decide ((n:Int)<(n:Int))) x z=z:=by rw[bD (by omega),bM]
theorem o3{α:Type}(l:List α)(F:α->List Pc){N:Nat}(hN:N<=1000000)(hl:l.length<N)(L:Nat->Int->List UInt8->O)(E:List UInt8->O)
    (hstep:∀n (i:Nat) b y,l[i]?=some y->y∈l->b≠[]->(b++fl (F y)).length<=cV->L (n+1) (i:Int) b=L n (aH.wrap ((i:Int)+1)) (b++fl (F y)))
    (hstop:∀n b,L (n+1) ((l.length:Nat):Int) b=E b):
    ∀b,b≠[]->(b++fl (l.flatMap F)).length<=cV->L N 0 b=E (b++fl (l.flatMap F)):=by
 have key:∀(r p:List α),p++r=l->∀n,r.length<n->∀b,b≠[]->(b++fl (r.flatMap F)).length<=cV->L n ((p.length:Nat):Int) b=E (b++fl (r.flatMap F)):=by
  intro r
  induction r with
  |nil=>
    intro p hp n hn b hb hb';obtain⟨n,rfl⟩:∃m,n=m+1:=⟨n-1,by simp at hn;omega⟩
    rw[e9]at hp;subst hp;rw[hstop];show E b=E (b++[]);rw[e9]
  |cons y r ih=>
    intro p hp n hn b hb hb';obtain⟨n,rfl⟩:∃m,n=m+1:=⟨n-1,by simp at hn;omega⟩
    have hlen:l.length=p.length+(r.length+1):=by rw[<-hp];simp
    have hy:l[p.length]?=some y:=by rw[<-hp,dN (cE _),kZ];rfl
    rw[fV,cS,<-bP]at hb' ⊢;have h1:(b++fl (F y)).length<=cV:=by rw[aL]at hb';omega
    rw[hstep n p.length b y hy (iM hy) hb h1,cA (by omega) (by omega)];have:=ih (p++[y]) (by rw[bP];exact hp) n (by simp at hn;omega) _ (dA hb) hb';rw[aL,show((p.length+[y].length:Nat):Int)=(p.length:Int)+1 by simp]at this;exact this
 exact key l [] rfl N hl
theorem Wr.cb{z:List UInt8->Option (List UInt8)}{P:List Pc}(h:Wr z P){b:List UInt8}(hb:b≠[])(hl:(b++fl P).length<=cV)(k:List UInt8->O):cb (z b) k=k (b++fl P):=iQ (h b hb hl) k
def cC(w:List UInt8):List Pc:=[([10],w)]
def gW(s:List UInt8):List Pc:=[([32],s)]
def eO(s:List UInt8):List Pc:=[([32],quo s)]
def Au(r:Int×List UInt8):List Pc:=cC [114,117,110]++(fB [r.1]++eO r.2)
def p7(l:List (Int×List UInt8)):List Pc:=l.flatMap Au
theorem Dp(n:Int)(h:lK n):∀x∈[n],lK x:=by
 intro x hx;rw[nH.1 hx];exact h
theorem iK{n a b:Int}(h:cN n a b=true)(ha:-1000000<=a)(hb:b<=1000000):lK n:=by
 have:=pT h;constructor <;> omega
section
variable{N:Nat}(hN:N<=1000000)(hM:1000<=N)
include hN hM
theorem aDs(l:List (Int×List UInt8))(hv:pB l=true):Wr (L4 N l) (p7 l):=by
 have hv:dK l 1 8 oL=true:=by unfold pB at hv;exact(aT _ _ ▸ hv).2
 have hl:=cM hv;intro b hb hb';unfold L4 Tw aDp;refine(aR (λz:O=>z.bind (aG L5)) (o3 l Au hN (by omega) (λn i b=>L6 N n (l,((l.length:Nat):Int),i,b) _ nn nn) _ ?_ (λn b=>oP _ _ _) b hb hb')).trans rfl;intro n i b y hy hm hb hb';have hr:=hl.2 y hm;unfold oL at hr;rw[aT]at hr;have hs:y.2.length<N:=by have:=(cM hr.2).1;omega
 unfold Au at hb' ⊢;simp only[cS,aL]at hb';refine(oQ hy _ _).trans ?_;refine((lV N [114,117,110]).cb hb (by show(b++fl (cC [114,117,110])).length<=cV;simp only[aL];omega) _).trans ?_;refine((xG [y.1] (Dp _ (iK hr.1 (by decide) (by decide))) (by show 1<N;omega) hN).cb (dA hb) (by show(b++fl (cC [114,117,110])++fl (fB [y.1])).length<=cV;simp only[aL];omega) _).trans ?_;refine((Ag y.2 hs hN (by omega)).cb (dA (dA hb)) (by show(b++fl (cC [114,117,110])++fl (fB [y.1])++fl (eO y.2)).length<=cV;simp only[aL];omega) _).trans ?_;simp only[cS,<-bP];rfl
end
end Go.Proofs
/- Melodies, tables, drawings and lists as pieces. -/
namespace Go.Proofs
open Go Go.Ax Go.Ax.aA
abbrev o6:=Int×Int×Int
def yB(n:o6):List Pc:=fB [n.1,n.2.1,n.2.2]
def B4(b:List o6):List Pc:=cC [98,97,114]++b.flatMap yB
def N1(h:List (List o6)):List Pc:=cC [104,97,110,100]++h.flatMap B4
def Du(m:List (List (List o6))):List Pc:=m.flatMap N1
def Ma(r:List (List UInt8)):List Pc:=cC [114,111,119]++r.flatMap eO
def N4(g:List aN):List Pc:=g.flatMap Ma
def At:List (List UInt8):=[[100,111,116],[108,105,110,101],[97,114,101,97]]
def uE(n:Int):List UInt8:=(At[n.toNat]?).getD []
def xV(p:Int×Int):List Pc:=fB [p.1,p.2]
def Ar(s:Int×List (Int×Int)):List Pc:=cC [115,104,97,112,101]++(gW (uE s.1)++s.2.flatMap xV)
def NQ(l:List (List UInt8)):List Pc:=l.flatMap λs=>cC [108,105,110,101]++eO s
theorem Da{n:Int}(h:cN n 0 2=true):At[n.toNat]?=some (uE n)/\0<=n:=by
 have:=pT h;refine⟨?_,this.1⟩;unfold uE;rw[dC (by show n.toNat<3;omega)];rfl
theorem Mw{a b c:Int}(h:lK a)(h':lK b)(h'':lK c):∀x∈[a,b,c],lK x:=by
 intro x hx;simp only[eZ,Zl,or_false]at hx;rcases hx with rfl|rfl|rfl
 .exact h
 .exact h'
 .exact h''
theorem Mx{a b:Int}(h:lK a)(h':lK b):∀x∈[a,b],lK x:=by
 intro x hx;simp only[eZ,Zl,or_false]at hx;rcases hx with rfl|rfl
 .exact h
 .exact h'
section
variable{N:Nat}(hN:N<=1000000)(hM:1000<=N)
include hN hM
theorem a3h{n:o6}(h:uN n=true):Wr (qW N [n.1,n.2.1,n.2.2]) (yB n):=by
 unfold uN at h;simp only[aT]at h;exact xG [n.1,n.2.1,n.2.2] (Mw (iK h.1.1 (by decide) (by decide)) (iK h.1.2 (by decide) (by decide)) (iK h.2 (by decide) (by decide))) (by show 3<N;omega) hN
theorem aUx(m:List (List (List o6)))(hv:Dv m=true):Wr (Tu N m) (Du m):=by
 unfold Dv at hv;have hl:=cM hv;intro b hb hb';unfold Tu Tv aDh;refine(aR (λz:O=>z.bind (aG LW)) (o3 m N1 hN (by omega) (λn i b=>LX N n (m,((m.length:Nat):Int),i,b) _ nn nn) _ ?_ (λn b=>oP _ _ _) b hb hb')).trans rfl;intro n i b y hy hm hb hb';have hr:=hl.2 y hm;unfold EB at hr;rw[aT]at hr;have hl2:=cM hr.2;unfold N1 at hb' ⊢;simp only[cS,aL]at hb';refine(oQ hy _ _).trans ?_;refine((lV N [104,97,110,100]).cb hb (by show(b++fl (cC [104,97,110,100])).length<=cV;simp only[aL];omega) _).trans ?_;refine(o3 y B4 hN (by omega) (λn' i' b'=>LY N n' (m,((m.length:Nat):Int),(i:Int),y,((y.length:Nat):Int),i',b') _ nn nn) _ ?_ (λn b=>oP _ _ _) (b++fl (cC [104,97,110,100])) (dA hb) (by simp only[aL];omega)).trans ?_
 .intro n' i' b' x hx hxm hb0 hb1
  have hr3:=hl2.2 x hxm;unfold B4 at hb1 ⊢;simp only[cS,aL]at hb1;refine(oQ hx _ _).trans ?_;refine((lV N [98,97,114]).cb hb0 (by show(b'++fl (cC [98,97,114])).length<=cV;simp only[aL];omega) _).trans ?_;have hl3:=cM hr3;refine(o3 x yB hN (by omega) (λn'' i'' b''=>LZ N n'' (m,((m.length:Nat):Int),(i:Int),y,((y.length:Nat):Int),(i':Int),x,((x.length:Nat):Int),i'',b'') _ nn nn) _ (λn'' i'' b'' z hz hzm hb2 hb3=>(oQ hz _ _).trans ((a3h hN hM (hl3.2 z hzm)).cb hb2 hb3 _)) (λn b=>oP _ _ _) (b'++fl (cC [98,97,114])) (dA hb0) (by simp only[aL];omega)).trans ?_;simp only[cS,<-bP];rfl
 .simp only[cS,<-bP]
  rfl
end
end Go.Proofs
/- Blocks as pieces. -/
namespace Go.Proofs
open Go Go.Ax Go.Ax.aA
def lF(b:fI):List Pc:=
 if b.1=0 then cC [116,101,120,116]++p7 b.2.1
 else if b.1=1 then cC [102,111,114,109,117,108,97]++iL [32] b.2.2.1
 else if b.1=2 then cC [99,111,108,117,109,110]++(gW (kS b.2.2.2.1.1)++fB b.2.2.2.1.2)
 else if b.1=3 then cC [101,110,116,114,105,101,115]++N4 b.2.2.2.2.1
 else if b.1=4 then cC [100,114,97,119,105,110,103]++(fB [b.2.2.2.2.2.1.1,b.2.2.2.2.2.1.2.1]++b.2.2.2.2.2.1.2.2.flatMap Ar)
 else if b.1=5 then cC [109,117,115,105,99]++Du b.2.2.2.2.2.2.1
 else if b.1=6 then cC [108,105,115,116,105,110,103]++NQ b.2.2.2.2.2.2.2
 else[]
theorem Yf(e:Ex):fl (iL [32] e)=[32]++fl (iL [] e):=by
 obtain⟨a,c,l⟩:=e;unfold iL;split
 .rw[jA,jA];rfl
 .split
  .rw[jA,jA];rfl
  .rw[lD,lD (([],[40]):Pc)];rfl
section
variable{N:Nat}(hN:N<=1000000)(hM:1000<=N)
include hN hM
theorem a2A{p:Int×Int}(h:xW p=true):Wr (qW N [p.1,p.2]) (xV p):=by
 unfold xW at h;rw[aT]at h;exact xG [p.1,p.2] (Mx (iK h.1 (by decide) (by decide)) (iK h.2 (by decide) (by decide))) (by show 2<N;omega) hN
theorem aZ1{a0 a2 a3 a5 a8 a9:Int}{a1:List (Int×List UInt8)}{a4:List Ex}{a6:List Int}{a7:List aN}{a10:List (Int×List (Int×Int))}{a11:List (List (List (Int×Int×Int)))}{a12:List (List UInt8)}
    (hv:oT (a0,a1,Ex.mk a2 a3 a4,(a5,a6),a7,(a8,a9,a10),a11,a12)=true):
    Wr (ME N a0 a1 a2 a3 a4 a5 a6 a7 a8 a9 a10 a11 a12) (lF (a0,a1,Ex.mk a2 a3 a4,(a5,a6),a7,(a8,a9,a10),a11,a12)):=by
 intro b hb hb';unfold oT at hv;unfold lF at hb' ⊢;simp only at hv hb' ⊢;unfold ME Vi;by_cases h0:a0=0
 .rw[aI h0]at hv hb' ⊢
  rw[aX h0,bJ];simp only[cS,aL]at hb';refine(aR (λz:O=>z.bind (aG mV)) (((lV N [116,101,120,116]).cb hb (by show(b++fl (cC [116,101,120,116])).length<=cV;simp only[aL];omega) _).trans ((aDs hN hM a1 hv).cb (dA hb) (by show(b++fl (cC [116,101,120,116])++fl (p7 a1)).length<=cV;simp only[aL];omega) _))).trans ?_;simp only[cS,<-bP];rfl
 .rw[aE h0]at hv hb' ⊢
  rw[bD h0,bM];by_cases h1:a0=1
  .rw[aI h1]at hv hb' ⊢
   rw[aX h1,bJ];have he:=Ng hv;have hz:L2 N a2 a3 a4=some (fl (iL [] (Ex.mk a2 a3 a4))):=aVM (Ex.mk a2 a3 a4) he.1 (by omega) hN;have hw:fl (gW (fl (iL [] (Ex.mk a2 a3 a4))))=fl (iL [32] (Ex.mk a2 a3 a4)):=by
    rw[Yf];exact jA _
   rw[cS,<-hw]at hb' ⊢;simp only[aL]at hb';refine(aR (λz:O=>z.bind (aG mV)) (((lV N [102,111,114,109,117,108,97]).cb hb (by show(b++fl (cC [102,111,114,109,117,108,97])).length<=cV;simp only[aL];omega) _).trans ((iQ hz _).trans ((xH N _).cb (dA hb) (by show(b++fl (cC [102,111,114,109,117,108,97])++fl (gW (fl (iL [] (Ex.mk a2 a3 a4))))).length<=cV;simp only[aL];omega) _)))).trans ?_;rw[<-bP];rfl
  .rw[aE h1]at hv hb' ⊢
   rw[bD h1,bM];by_cases h2:a0=2
   .rw[aI h2]at hv hb' ⊢
    rw[aX h2,bJ];unfold D5 at hv;rw[aT]at hv;have hl:((a6.length:Nat):Int)<=8/\∀y∈a6,cN y 0 999999=true:=cM hv.2
    have ho:cN a5 0 10=true:=by
     have:=hv.1;unfold I0 at this;simp only[a94,List.any_nil,Bi,lS,eR]at this;unfold cN;rw[aT,eR,eR];omega
    have hop:=Mo ho;simp only[cS,aL]at hb';refine(aR (λz:O=>z.bind (aG mV)) (((lV N [99,111,108,117,109,110]).cb hb (by show(b++fl (cC [99,111,108,117,109,110])).length<=cV;simp only[aL];omega) _).trans ((iP (l:=gO) hop.2 hop.1 _).trans (((xH N (kS a5)).cb (dA hb) (by show(b++fl (cC [99,111,108,117,109,110])++fl (gW (kS a5))).length<=cV;simp only[aL];omega) _).trans ((xG a6 (λn hn=>iK (hl.2 n hn) (by decide) (by decide)) (by omega) hN).cb (dA (dA hb)) (by show(b++fl (cC [99,111,108,117,109,110])++fl (gW (kS a5))++fl (fB a6)).length<=cV;simp only[aL];omega) _))))).trans ?_;simp only[cS,<-bP];rfl
   .rw[aE h2]at hv hb' ⊢
    rw[bD h2,bM];by_cases h3:a0=3
    .rw[aI h3]at hv hb' ⊢
     rw[aX h3,bJ];have hl:=cM hv;simp only[cS,aL]at hb';refine(aR (λz:O=>z.bind (aG mV)) (((lV N [101,110,116,114,105,101,115]).cb hb (by show(b++fl (cC [101,110,116,114,105,101,115])).length<=cV;simp only[aL];omega) _).trans
      (o3 a7 Ma hN (by omega) (λn i b=>MI N n (a7,((a7.length:Nat):Int),i,b) _ nn nn) _ ?_ (λn b=>oP _ _ _) (b++fl (cC [101,110,116,114,105,101,115])) (dA hb) (by show(b++fl (cC [101,110,116,114,105,101,115])++fl (N4 a7)).length<=cV;simp only[aL];omega)))).trans ?_
     .intro n i b y hy hm hb hb'
      have hr:=hl.2 y hm;unfold xR at hr;rw[aT]at hr;have hl2:=cM hr.2;unfold Ma at hb' ⊢;simp only[cS,aL]at hb';refine(oQ hy _ _).trans (((lV N [114,111,119]).cb hb (by show(b++fl (cC [114,111,119])).length<=cV;simp only[aL];omega) _).trans ?_);refine(o3 y eO hN (by omega) (λn' i' b'=>MJ N n' (a7,((a7.length:Nat):Int),(i:Int),y,((y.length:Nat):Int),i',b') _ nn nn) _ (λn'' i'' b'' z hz hzm hb2 hb3=>(oQ hz _ _).trans ((Ag z (by have:=(cM (hl2.2 z hzm)).1;omega) hN (by omega)).cb hb2 hb3 _)) (λn b=>oP _ _ _) (b++fl (cC [114,111,119])) (dA hb) (by simp only[aL];omega)).trans ?_;simp only[cS,<-bP];rfl
     .simp only[cS,<-bP]
      rfl
    .rw[aE h3]at hv hb' ⊢
     rw[bD h3,bM];by_cases h4:a0=4
     .rw[aI h4]at hv hb' ⊢
      rw[aX h4,bJ];unfold BR at hv;simp only[aT]at hv;have hl:=cM hv.2;simp only[cS,aL]at hb';refine(aR (λz:O=>z.bind (aG mV)) (((lV N [100,114,97,119,105,110,103]).cb hb (by show(b++fl (cC [100,114,97,119,105,110,103])).length<=cV;simp only[aL];omega) _).trans
       (((xG [a8,a9] (Mx (iK hv.1.1 (by decide) (by decide)) (iK hv.1.2 (by decide) (by decide))) (by show 2<N;omega) hN).cb (dA hb) (by show(b++fl (cC [100,114,97,119,105,110,103])++fl (fB [a8,a9])).length<=cV;simp only[aL];omega) _).trans
       (o3 a10 Ar hN (by omega) (λn i b=>MG N n (a10,((a10.length:Nat):Int),i,b) _ nn nn) _ ?_ (λn b=>oP _ _ _) (b++fl (cC [100,114,97,119,105,110,103])++fl (fB [a8,a9])) (dA (dA hb)) (by show(b++fl (cC [100,114,97,119,105,110,103])++fl (fB [a8,a9])++fl (a10.flatMap Ar)).length<=cV;simp only[aL];omega))))).trans ?_
      .intro n i b y hy hm hb hb'
       have hr:=hl.2 y hm;unfold As at hr;rw[aT]at hr;have hl2:=cM hr.2;have hsh:=Da hr.1;unfold Ar at hb' ⊢;simp only[cS,aL]at hb';refine(oQ hy _ _).trans (((lV N [115,104,97,112,101]).cb hb (by show(b++fl (cC [115,104,97,112,101])).length<=cV;simp only[aL];omega) _).trans ((iP (l:=At) hsh.2 hsh.1 _).trans (((xH N (uE y.1)).cb (dA hb) (by show(b++fl (cC [115,104,97,112,101])++fl (gW (uE y.1))).length<=cV;simp only[aL];omega) _).trans ?_)));refine(o3 y.2 xV hN (by omega) (λn' i' b'=>MH N n' (a10,((a10.length:Nat):Int),(i:Int),y.2,((y.2.length:Nat):Int),i',b') _ nn nn) _ (λn'' i'' b'' z hz hzm hb2 hb3=>(oQ hz _ _).trans ((a2A hN hM (hl2.2 z hzm)).cb hb2 hb3 _)) (λn b=>oP _ _ _) (b++fl (cC [115,104,97,112,101])++fl (gW (uE y.1))) (dA (dA hb)) (by simp only[aL];omega)).trans ?_;simp only[cS,<-bP];rfl
      .simp only[cS,<-bP]
       rfl
     .rw[aE h4]at hv hb' ⊢
      rw[bD h4,bM];by_cases h5:a0=5
      .rw[aI h5]at hv hb' ⊢
       rw[aX h5,bJ];simp only[cS,aL]at hb';refine(aR (λz:O=>z.bind (aG mV)) (((lV N [109,117,115,105,99]).cb hb (by show(b++fl (cC [109,117,115,105,99])).length<=cV;simp only[aL];omega) _).trans ((aUx hN hM a11 hv).cb (dA hb) (by show(b++fl (cC [109,117,115,105,99])++fl (Du a11)).length<=cV;simp only[aL];omega) _))).trans ?_;simp only[cS,<-bP];rfl
      .rw[aE h5]at hv hb' ⊢
       rw[bD h5,bM];by_cases h6:a0=6
       .rw[aI h6]at hv hb' ⊢
        rw[aX h6,bJ];have hl:=cM hv;simp only[cS,aL]at hb';refine(aR (λz:O=>z.bind (aG mV)) (((lV N [108,105,115,116,105,110,103]).cb hb (by show(b++fl (cC [108,105,115,116,105,110,103])).length<=cV;simp only[aL];omega) _).trans
         (o3 a12 (λs=>cC [108,105,110,101]++eO s) hN (by omega) (λn i b=>MF N n (a12,((a12.length:Nat):Int),i,b) _ nn nn) _ ?_ (λn b=>oP _ _ _) (b++fl (cC [108,105,115,116,105,110,103])) (dA hb) (by show(b++fl (cC [108,105,115,116,105,110,103])++fl (NQ a12)).length<=cV;simp only[aL];omega)))).trans ?_
        .intro n i b y hy hm hb hb'
         have hs:=(cM (hl.2 y hm)).1;simp only[cS,aL]at hb';refine(oQ hy _ _).trans (((lV N [108,105,110,101]).cb hb (by show(b++fl (cC [108,105,110,101])).length<=cV;simp only[aL];omega) _).trans (((Ag y (by omega) hN (by omega)).cb (dA hb) (by show(b++fl (cC [108,105,110,101])++fl (eO y)).length<=cV;simp only[aL];omega) _).trans ?_));simp only[cS,<-bP];rfl
        .simp only[cS,<-bP]
         rfl
       .rw[aE h6]at hv
        cases hv
end
end Go.Proofs
/- Questions, items and examinations as pieces. -/
namespace Go.Proofs
open Go Go.Ax Go.Ax.aA
def sG:List (List UInt8):=[[99,104,111,105,99,101],[99,111,117,110,116],[111,112,101,110]]
def pE(n:Int):List UInt8:=(sG[n.toNat]?).getD []
def oY:List (List UInt8):=[[119,104,111,108,101],[101,110,116,114,121],[105,110,115,105,100,101],[108,101,102,116],[108,111,110,103,101,114],[98,97,114],[114,111,119]]
def sR(n:Int):List UInt8:=(oY[n.toNat]?).getD []
theorem Dh{n:Int}(h:cN n 0 2=true):sG[n.toNat]?=some (pE n)/\0<=n:=by
 have:=pT h;refine⟨?_,this.1⟩;unfold pE;rw[dC (by show n.toNat<3;omega)];rfl
theorem EF{n:Int}(h:cN n 0 6=true):oY[n.toNat]?=some (sR n)/\0<=n:=by
 have:=pT h;refine⟨?_,this.1⟩;unfold sR;rw[dC (by show n.toNat<7;omega)];rfl
def rE(n:Int):List Pc:=cC [110,101,101,100]++fB [n]
def sH(o:List UInt8×List UInt8):List Pc:=cC [111,112,116,105,111,110]++(eO o.1++eO o.2)
def rA(q:jK):List Pc:=cC [97,115,107]++(gW (pE q.1)++(fB [q.2.2.2.2.2.1]++(eO q.2.2.2.2.1++(q.2.2.2.1.flatMap rE++(p7 q.2.1++(q.2.2.1.zip q.2.2.2.2.2.2).flatMap sH)))))
def rG(f:kD):List Pc:=cC [102,97,99,116]++(gW (sR f.1)++fB [f.2.1,f.2.2.1,f.2.2.2])
def uQ(i:mN):List Pc:=cC [105,116,101,109]++(gW i.1++(i.2.1.flatMap lF++(i.2.2.1.flatMap rG++i.2.2.2.flatMap rA)))
def Iu(x:lO):List Pc:=eO x.1++x.2.flatMap uQ
def D7(x:lO):List Pc:=([],[101,120,97,109])::Iu x
def oJ(x:lO):List UInt8:=fl (D7 x)++[10]
theorem aKb{α β:Type}{l:List α}{m:List β}{i:Nat}{o:α×β}(h:(l.zip m)[i]?=some o):l[i]?=some o.1/\m[i]?=some o.2:=by
 rw[List.getElem?_zip_eq_some]at h;exact h
section
variable{N:Nat}(hN:N<=1000000)(hM:1000<=N)
include hN hM
theorem aZH(q:jK)(hv:p8 q=true):Wr (Vf N q.1 q.2.1 q.2.2.1 q.2.2.2.1 q.2.2.2.2.1 q.2.2.2.2.2.1 q.2.2.2.2.2.2) (rA q):=by
 obtain⟨q0,q1,q2,q3,q4,q5,q6⟩:=q;intro b hb hb';unfold p8 at hv;simp only[aT,eR]at hv;obtain⟨⟨⟨⟨⟨⟨⟨v0,v1⟩,v2⟩,v3⟩,v4⟩,v5⟩,v6⟩,v7⟩:=hv;have hq:=Dh v0;have l3:=cM v3;have l4:=cM v4;have l5:=cM v5;have l6:=cM v6;unfold rA at hb' ⊢;simp only at hb' ⊢;have hzl:(q2.zip q6).length=q2.length:=by rw[a9O];omega
 simp only[cS,aL]at hb';unfold Vf Vh aFj aFi;refine(aR (λz:O=>z.bind (aG MB)) (((lV N [97,115,107]).cb hb (by show(b++fl (cC [97,115,107])).length<=cV;simp only[aL];omega) _).trans
  ((iP (l:=sG) hq.2 hq.1 _).trans
  (((xH N (pE q0)).cb (dA hb) (by show(b++fl (cC [97,115,107])++fl (gW (pE q0))).length<=cV;simp only[aL];omega) _).trans
  (((xG [q5] (Dp _ (iK v7 (by decide) (by decide))) (by show 1<N;omega) hN).cb (dA (dA hb)) (by show(b++fl (cC [97,115,107])++fl (gW (pE q0))++fl (fB [q5])).length<=cV;simp only[aL];omega) _).trans
  (((Ag q4 (by omega) hN (by omega)).cb (dA (dA (dA hb))) (by show(b++fl (cC [97,115,107])++fl (gW (pE q0))++fl (fB [q5])++fl (eO q4)).length<=cV;simp only[aL];omega) _).trans
  ((o3 q3 rE hN (by omega) (λn i b=>MD N n (q3,((q3.length:Nat):Int),i,q0,q1,q2,q3,q4,q5,q6,b) _ nn nn) _ ?_ (λn b=>oP _ _ _) (b++fl (cC [97,115,107])++fl (gW (pE q0))++fl (fB [q5])++fl (eO q4)) (dA (dA (dA (dA hb)))) (by simp only[aL];omega)).trans
  (((aDs hN hM q1 v1).cb (dA (dA (dA (dA (dA hb))))) (by show(b++fl (cC [97,115,107])++fl (gW (pE q0))++fl (fB [q5])++fl (eO q4)++fl (q3.flatMap rE)++fl (p7 q1)).length<=cV;simp only[aL];omega) _).trans
  (o3 (q2.zip q6) sH hN (by omega) (λn i b=>MC N n (q2,((q2.length:Nat):Int),i,q0,q1,q2,q3,q4,q5,q6,b) _ nn nn) _ ?_ (λn b=>by rw[hzl];exact oP _ _ _) (b++fl (cC [97,115,107])++fl (gW (pE q0))++fl (fB [q5])++fl (eO q4)++fl (q3.flatMap rE)++fl (p7 q1)) (dA (dA (dA (dA (dA (dA hb)))))) (by simp only[aL];omega)))))))))).trans ?_
 .intro n i b y hy hm hb hb'
  have hr:=l5.2 y hm;unfold rE at hb' ⊢;simp only[cS,aL]at hb';refine(oQ hy _ _).trans (((lV N [110,101,101,100]).cb hb (by show(b++fl (cC [110,101,101,100])).length<=cV;simp only[aL];omega) _).trans (((xG [y] (Dp _ (iK hr (by decide) (by decide))) (by show 1<N;omega) hN).cb (dA hb) (by show(b++fl (cC [110,101,101,100])++fl (fB [y])).length<=cV;simp only[aL];omega) _).trans ?_));simp only[cS,<-bP];rfl
 .intro n i b y hy hm hb hb'
  have hz:=aKb hy;have s1:=(cM (l3.2 y.1 (iM hz.1))).1;have s2:=(cM (l4.2 y.2 (iM hz.2))).1;have hi:i<q2.length:=by
   rcases Bd i q2.length with h|h
   .exact h
   .rw[oC h]at hz;cases hz.1
  unfold sH at hb' ⊢;simp only[cS,aL]at hb';refine(oQ hz.1 _ _).trans (((lV N [111,112,116,105,111,110]).cb hb (by show(b++fl (cC [111,112,116,105,111,110])).length<=cV;simp only[aL];omega) _).trans (((Ag y.1 (by omega) hN (by omega)).cb (dA hb) (by show(b++fl (cC [111,112,116,105,111,110])++fl (eO y.1)).length<=cV;simp only[aL];omega) _).trans ((iP (n:=(i:Int)) (by omega) (by rw[kB];exact hz.2) _).trans (((Ag y.2 (by omega) hN (by omega)).cb (dA (dA hb)) (by show(b++fl (cC [111,112,116,105,111,110])++fl (eO y.1)++fl (eO y.2)).length<=cV;simp only[aL];omega) _).trans ?_))));simp only[cS,<-bP];rfl
 .simp only[cS,<-bP]
  rfl
theorem a6S{f:kD}(hv:uV f=true){b:List UInt8}(hb:b≠[])(hb':(b++fl (rG f)).length<=cV)(k:List UInt8->O):
    (cb (kM N [102,97,99,116] b) λr139=>gx oY f.1 λy140=>cb (pY N y140 r139) λr141=>cb (qW N [f.2.1,f.2.2.1,f.2.2.2] r141) k)=k (b++fl (rG f)):=by
 unfold uV at hv;simp only[aT]at hv;have hq:=EF hv.1.1.1;unfold rG at hb' ⊢;simp only[cS,aL]at hb';refine((lV N [102,97,99,116]).cb hb (by show(b++fl (cC [102,97,99,116])).length<=cV;simp only[aL];omega) _).trans ((iP (l:=oY) hq.2 hq.1 _).trans (((xH N (sR f.1)).cb (dA hb) (by show(b++fl (cC [102,97,99,116])++fl (gW (sR f.1))).length<=cV;simp only[aL];omega) _).trans
  (((xG [f.2.1,f.2.2.1,f.2.2.2] (Mw (iK hv.1.1.2 (by decide) (by decide)) (iK hv.1.2 (by decide) (by decide)) (iK hv.2 (by decide) (by decide))) (by show 3<N;omega) hN).cb (dA (dA hb)) (by show(b++fl (cC [102,97,99,116])++fl (gW (sR f.1))++fl (fB [f.2.1,f.2.2.1,f.2.2.2])).length<=cV;simp only[aL];omega) _).trans ?_)))
 simp only[cS,<-bP];rfl
theorem aZ2(y:fI)(hv:jJ y=true):Wr (ME N y.1 y.2.1 (Ex.op y.2.2.1) (Ex.num y.2.2.1) (Ex.kids y.2.2.1) y.2.2.2.1.1 y.2.2.2.1.2 y.2.2.2.2.1 y.2.2.2.2.2.1.1 y.2.2.2.2.2.1.2.1 y.2.2.2.2.2.1.2.2 y.2.2.2.2.2.2.1 y.2.2.2.2.2.2.2) (lF y):=by
 obtain⟨a0,a1,⟨a2,a3,a4⟩,⟨a5,a6⟩,a7,⟨a8,a9,a10⟩,a11,a12⟩:=y;unfold jJ at hv;rw[aT]at hv;exact aZ1 hN hM hv.2
theorem aNt(x:lO)(hv:nX x=true)(hlen:(oJ x).length<=cV):CG N x.1 x.2=some (oJ x):=by
 obtain⟨t,l⟩:=x;unfold nX at hv;rw[aT]at hv;have l0:=cM hv.1;have l1:=cM hv.2;simp only at l0 l1;unfold CG QK aBP;have h0:aGH N [101,120,97,109]=some [101,120,97,109]:=rfl;have hs:oJ (t,l)=([101,120,97,109]++fl (eO t)++fl (l.flatMap uQ))++[10]:=by
  unfold oJ D7 Iu;rw[lD,cS];simp only[<-bP];rfl
 rw[hs]at hlen ⊢;have hlen':=hlen;simp only[aL]at hlen';have ne:([101,120,97,109]:List UInt8)≠[]:=by simp
 refine(aR (λz:O=>z.bind (aG KV)) ((iQ h0 _).trans (((Ag t (by omega) hN (by omega)).cb ne (by show([101,120,97,109]++fl (eO t)).length<=cV;simp only[aL];omega) _).trans
  ((o3 l uQ hN (by omega) (λn i b=>KW N n (l,((l.length:Nat):Int),i,b) _ nn nn) _ ?_ (λn b=>oP _ _ _) ([101,120,97,109]++fl (eO t)) (dA ne) (by simp only[aL];omega)).trans
  ((iQ (aA5 N 10 hlen) _).trans (iQ (show PF N _=some _ from ?_) _)))))).trans rfl
 .intro n i b y hy hm hb hb'
  have hv:=l1.2 y hm;obtain⟨i0,i1,i2,i3⟩:=y;unfold oV at hv;simp only[aT]at hv;have e1:=cM hv.1.1.2;have e2:=cM hv.1.2;have e3:=cM hv.2;unfold uQ at hb' ⊢;simp only at e1 e2 e3 hb' ⊢;simp only[cS,aL]at hb';refine(oQ hy _ _).trans (((lV N [105,116,101,109]).cb hb (by show(b++fl (cC [105,116,101,109])).length<=cV;simp only[aL];omega) _).trans (((xH N i0).cb (dA hb) (by show(b++fl (cC [105,116,101,109])++fl (gW i0)).length<=cV;simp only[aL];omega) _).trans
   ((o3 i1 lF hN (by omega) (λn' i' b'=>KZ N n' (l,((l.length:Nat):Int),(i:Int),i1,((i1.length:Nat):Int),i',i0,i1,i2,i3,b') _ nn nn) _ (λn'' i'' b'' z hz hzm hb2 hb3=>(oQ hz _ _).trans ((aZ2 hN hM z (e1.2 z hzm)).cb hb2 hb3 _)) (λn b=>oP _ _ _) (b++fl (cC [105,116,101,109])++fl (gW i0)) (dA (dA hb)) (by simp only[aL];omega)).trans
   ((o3 i2 rG hN (by omega) (λn' i' b'=>KY N n' (l,((l.length:Nat):Int),(i:Int),i2,((i2.length:Nat):Int),i',i0,i1,i2,i3,b') _ nn nn) _ (λn'' i'' b'' z hz hzm hb2 hb3=>(oQ hz _ _).trans (a6S hN hM (e2.2 z hzm) hb2 hb3 _)) (λn b=>oP _ _ _) (b++fl (cC [105,116,101,109])++fl (gW i0)++fl (i1.flatMap lF)) (dA (dA (dA hb))) (by simp only[aL];omega)).trans
   ((o3 i3 rA hN (by omega) (λn' i' b'=>KX N n' (l,((l.length:Nat):Int),(i:Int),i3,((i3.length:Nat):Int),i',b') _ nn nn) _ (λn'' i'' b'' z hz hzm hb2 hb3=>(oQ hz _ _).trans ((aZH hN hM z (e3.2 z hzm)).cb hb2 hb3 _)) (λn b=>oP _ _ _) (b++fl (cC [105,116,101,109])++fl (gW i0)++fl (i1.flatMap lF)++fl (i2.flatMap rG)) (dA (dA (dA (dA hb)))) (by simp only[aL];omega)).trans ?_)))))
  simp only[cS,<-bP];rfl
 .unfold PF PH
  rw[eY (aX rfl)];rfl
end
end Go.Proofs
/- How long a source is; whether an examination is valid; what is printed. -/
namespace Go.Proofs
open Go Go.Ax Go.Ax.aA
theorem mD{α:Type}{F:α->List Pc}{m:Nat}:∀{l:List α}{k:Nat},l.length<=k->(∀y∈l,(fl (F y)).length<=m)->(fl (l.flatMap F)).length<=k*m:=by
 intro l
 induction l with
 |nil=>intro k _ _;exact o7 _
 |cons y l ih=>
   intro k hk h;obtain⟨k,rfl⟩:∃j,k=j+1:=⟨k-1,by simp at hk;omega⟩
   rw[fV,cS,aL,Nat.succ_mul];have h1:=h y iB;have h2:=ih (k:=k) (by simp at hk;omega) (λz hz=>h z (fR _ hz));omega
theorem aG0(s:List UInt8):(fl (eO s)).length<=3+2*s.length:=by
 have:=(Iv s).2;unfold eO quo;rw[jA];simp only[aL,eD,jV];omega
theorem yA{l:List Int}(h:∀n∈l,lK n):(fl (fB l)).length<=l.length*22:=by
 refine mD (cE _) λn hn=>?_
 have:=Lib.itoa_length_le n (h n hn).1 (h n hn).2;rw[jA,aL];simp only[eD,jV];omega
theorem mB(w:List UInt8):(fl (cC w)).length=1+w.length:=by
 unfold cC;rw[jA,aL];rfl
theorem Ef(w:List UInt8):(fl (gW w)).length=1+w.length:=by
 unfold gW;rw[jA,aL];rfl
theorem a14{y:Int×List UInt8}(h:oL y=true):(fl (Au y)).length<=430:=by
 unfold oL at h;rw[aT]at h;have h1:=yA (Dp _ (iK h.1 (by decide) (by decide)));have h2:=aG0 y.2;have h3:=(cM h.2).1;unfold Au;simp only[cS,aL,mB];simp only[eD,jV]at h1 ⊢;omega
theorem aGl{l:List (Int×List UInt8)}(h:pB l=true):(fl (p7 l)).length<=8*430:=by
 have hv:dK l 1 8 oL=true:=by unfold pB at h;exact(aT _ _ ▸ h).2
 have hl:=cM hv;exact mD (by omega) λy hy=>a14 (hl.2 y hy)
theorem a3j{n:o6}(h:uN n=true):(fl (yB n)).length<=66:=by
 unfold uN at h;simp only[aT]at h;exact yA (Mw (iK h.1.1 (by decide) (by decide)) (iK h.1.2 (by decide) (by decide)) (iK h.2 (by decide) (by decide)))
theorem a4E{m:List (List (List o6))}(h:Dv m=true):(fl (Du m)).length<=2*40000:=by
 have hl:=cM h;refine mD (by omega) λy hy=>?_
 have hr:=hl.2 y hy;unfold EB at hr;rw[aT]at hr;have hl2:=cM hr.2;have:(fl (y.flatMap B4)).length<=32*1100:=mD (by omega) λx hx=>by
  have hl3:=cM (hl2.2 x hx);have:(fl (x.flatMap yB)).length<=16*66:=mD (by omega) λz hz=>a3j (hl3.2 z hz)
  unfold B4;rw[cS,aL,mB];simp only[eD,jV];omega
 unfold N1;rw[cS,aL,mB];simp only[eD,jV];omega
theorem Dk{s:List UInt8}{a b:Int}(h:lX s a b=true)(hb:b<=200):(fl (eO s)).length<=403:=by
 have h1:=aG0 s;have h2:=(cM h).1;omega
theorem a7b{b:fI}(hv:jJ b=true):(fl (lF b)).length<=100000:=by
 unfold jJ at hv;rw[aT]at hv;have hv:=hv.2;unfold oT at hv;unfold lF;by_cases h0:b.1=0
 .rw[aI h0]at hv ⊢
  have:=aGl hv;rw[cS,aL,mB];simp only[eD,jV];omega
 rw[aE h0]at hv ⊢;by_cases h1:b.1=1
 .rw[aI h1]at hv ⊢
  have he:=Ng hv;have:=Yh [32] _ he.1;rw[cS,aL,mB];simp only[eD,jV]at this ⊢;omega
 rw[aE h1]at hv ⊢;by_cases h2:b.1=2
 .rw[aI h2]at hv ⊢
  unfold D5 at hv;rw[aT]at hv;have hl:=cM hv.2;have h3:=yA (λn hn=>iK (hl.2 n hn) (by decide) (by decide));have h4:=XM b.2.2.2.1.1;simp only[cS,aL,mB,Ef];simp only[eD,jV];omega
 rw[aE h2]at hv ⊢;by_cases h3:b.1=3
 .rw[aI h3]at hv ⊢
  have hl:=cM hv;have:(fl (N4 b.2.2.2.2.1)).length<=12*5000:=mD (by omega) λy hy=>by
   have hr:=hl.2 y hy;unfold xR at hr;rw[aT]at hr;have hl2:=cM hr.2;have:(fl (y.flatMap eO)).length<=12*403:=mD (by omega) λs hs=>Dk (hl2.2 s hs) (by decide)
   unfold Ma;rw[cS,aL,mB];simp only[eD,jV];omega
  rw[cS,aL,mB];simp only[eD,jV];omega
 rw[aE h3]at hv ⊢;by_cases h4:b.1=4
 .rw[aI h4]at hv ⊢
  unfold BR at hv;simp only[aT]at hv;have hl:=cM hv.2;have hn:=yA (Mx (iK hv.1.1 (by decide) (by decide)) (iK hv.1.2 (by decide) (by decide)));have:(fl (b.2.2.2.2.2.1.2.2.flatMap Ar)).length<=8*1000:=mD (by omega) λy hy=>by
   have hr:=hl.2 y hy;unfold As at hr;rw[aT]at hr;have hl2:=cM hr.2;have h5:(fl (y.2.flatMap xV)).length<=12*44:=mD (by omega) λp hp=>by
    have:=hl2.2 p hp;unfold xW at this;rw[aT]at this;exact yA (Mx (iK this.1 (by decide) (by decide)) (iK this.2 (by decide) (by decide)))
   have h6:(uE y.1).length<=4:=by
    have key:∀s∈At,s.length<=4:=by decide
    exact key _ (iM (Da hr.1).1)
   unfold Ar;simp only[cS,aL,mB,Ef];simp only[eD,jV];omega
  simp only[cS,aL,mB];simp only[eD,jV]at hn ⊢;omega
 rw[aE h4]at hv ⊢;by_cases h5:b.1=5
 .rw[aI h5]at hv ⊢
  have:=a4E hv;rw[cS,aL,mB];simp only[eD,jV];omega
 rw[aE h5]at hv ⊢;by_cases h6:b.1=6
 .rw[aI h6]at hv ⊢
  have hl:=cM hv;have:(fl (NQ b.2.2.2.2.2.2.2)).length<=64*500:=mD (by omega) λs hs=>by
   have:=Dk (hl.2 s hs) (by decide);rw[cS,aL,mB];simp only[eD,jV];omega
  rw[cS,aL,mB];simp only[eD,jV];omega
 .rw[aE h6]at hv
  cases hv
theorem a1r{q:jK}(hv:p8 q=true):(fl (rA q)).length<=20000:=by
 unfold p8 at hv;simp only[aT,eR]at hv;obtain⟨⟨⟨⟨⟨⟨⟨v0,v1⟩,v2⟩,v3⟩,v4⟩,v5⟩,v6⟩,v7⟩:=hv;have l3:=cM v3;have l4:=cM v4;have l5:=cM v5;have h1:=aGl v1;have h6:=Dk v6 (by decide);have h7:=yA (Dp _ (iK v7 (by decide) (by decide)));have h8:(pE q.1).length<=6:=by
  have key:∀s∈sG,s.length<=6:=by decide
  exact key _ (iM (Dh v0).1)
 have h5:(fl (q.2.2.2.1.flatMap rE)).length<=8*30:=mD (by omega) λn hn=>by
  have:=yA (Dp _ (iK (l5.2 n hn) (by decide) (by decide)));unfold rE;rw[cS,aL,mB];simp only[eD,jV]at this ⊢;omega
 have h9:(fl ((q.2.2.1.zip q.2.2.2.2.2.2).flatMap sH)).length<=6*1000:=mD (by rw[a9O];omega) λo ho=>by
  have hm:=a9J ho;have a1:=Dk (l3.2 _ hm.1) (by decide);have a2:=Dk (l4.2 _ hm.2) (by decide);unfold sH;simp only[cS,aL,mB];simp only[eD,jV];omega
 unfold rA;simp only[cS,aL,mB,Ef];simp only[eD,jV]at h7 ⊢;omega
theorem a3u{s:List UInt8}(h:wB s=true):s.length<=16:=by
 unfold wB at h;rw[aT]at h;have:=(cM h.2).1;omega
theorem a4p{i:mN}(hv:oV i=true):(fl (uQ i)).length<=1000000:=by
 unfold oV at hv;simp only[aT]at hv;have e1:=cM hv.1.1.2;have e2:=cM hv.1.2;have e3:=cM hv.2;have h0:=a3u hv.1.1.1;have h1:(fl (i.2.1.flatMap lF)).length<=8*100000:=mD (by omega) λb hb=>a7b (e1.2 b hb)
 have h2:(fl (i.2.2.1.flatMap rG)).length<=8*100:=mD (by omega) λf hf=>by
  have hv:=e2.2 f hf;unfold uV at hv;simp only[aT]at hv;have hn:=yA (Mw (iK hv.1.1.2 (by decide) (by decide)) (iK hv.1.2 (by decide) (by decide)) (iK hv.2 (by decide) (by decide)));have h8:(sR f.1).length<=6:=by
   have key:∀s∈oY,s.length<=6:=by decide
   exact key _ (iM (EF hv.1.1.1).1)
  unfold rG;simp only[cS,aL,mB,Ef];simp only[eD,jV]at hn ⊢;omega
 have h3:(fl (i.2.2.2.flatMap rA)).length<=4*20000:=mD (by omega) λq hq=>a1r (e3.2 q hq)
 unfold uQ;simp only[cS,aL,mB,Ef];simp only[eD,jV];omega
theorem a0z{x:lO}(hv:nX x=true):(oJ x).length<=20000000:=by
 unfold nX at hv;rw[aT]at hv;have e:=cM hv.2;have h1:=Dk hv.1 (by decide);have h2:(fl (x.2.flatMap uQ)).length<=12*1000000:=mD (by omega) λi hi=>a4p (e.2 i hi)
 unfold oJ D7 Iu;rw[lD,cS];simp only[aL,eD,jV];omega
section
variable{N:Nat}(hN:N<=1000000)(hM:1000<=N)
include hN hM
theorem aBU(x:lO)(hv:nX x=true):CG N x.1 x.2=some (oJ x):=aNt hN hM x hv (Nat.le_trans (a0z hv) (by decide))
noncomputable def uA(x:lO):Int:=if nX x=true then(if 8192<(oJ x).length then 4 else 0)else 1
theorem Sr(x:lO)(hx:EW N x):G4 N x.1 x.2=some (uA x):=by
 obtain⟨t,l⟩:=x;obtain⟨h1,h2,h3⟩:=hx;unfold G4 Ss uA;simp only at h1 h2 h3 ⊢;rw[KT t 0 100 h1 hN,aK,fM (aNj l 0 12 oV h2 hN (λy hy=>aNf y (h3 y hy) (by omega) hN))];have hf:nX (t,l)=(lX t 0 100&&dK l 0 12 oV):=rfl;have hw:=aBU hN hM (t,l);rw[hf]at hw ⊢;cases h4:lX t 0 100 with
 |false=>rfl
 |true=>
   cases h5:dK l 0 12 oV with
   |false=>rfl
   |true=>
     rw[h4,h5]at hw;have hw:=hw rfl;show((cb (CG N t l) _:O)).bind _=_;rw[hw,aK];by_cases h6:8192<(oJ (t,l)).length
     .rw[aX (by omega),bJ]
      exact aR some (show(4:Int)=if 8192<(oJ (t,l)).length then 4 else 0 by rw[aI h6])
     .rw[bD (by omega),bM]
      exact aR some (show(0:Int)=if 8192<(oJ (t,l)).length then 4 else 0 by rw[aE h6])
theorem aTg(x:lO)(hx:EW N x):TN N x.1 x.2=some (if uA x=0 then oJ x else[]):=by
 unfold TN TO;rw[Sr hN hM x hx,aK];by_cases h:uA x=0
 .have hv:nX x=true:=by
   unfold uA at h;by_cases h':nX x=true
   .exact h'
   .rw[aE h']at h;cases h
  rw[aI h,bD (by simpa using h),bM,aBU hN hM x hv,aK];rfl
 .rw[aE h,aX (by simpa using h),bJ]
  rfl
end
end Go.Proofs
/- How long the next token is. -/
namespace Go.Proofs
open Go Go.Ax Go.Ax.aA
def iI(c:UInt8):Bool:=decide (32<c)&&decide (c<127)&&!decide (c=34)&&!decide (c=40)&&!decide (c=41)
def fZ:List UInt8->Option Nat
 |[]=>none
 |c::l=>match l8 c with
   |false=>none
   |true=>match decide (c=34)with
     |true=>some 1
     |false=>match decide (c=92)with
       |true=>match l with
         |[]=>none
         |d::l=>match decide (d=34)||decide (d=92)with
           |true=>(fZ l).map (· + 2)
           |false=>none
       |false=>(fZ l).map (· + 1)
def lJ(s:List UInt8):Nat:=(s.takeWhile iI).length
def nQ:List UInt8->Nat
 |[]=>0
 |c::l=>match decide (c=34)with
   |true=>match fZ l with
     |some n=>n+1
     |none=>0
   |false=>match decide (c=40)||decide (c=41)with
     |true=>1
     |false=>lJ (c::l)
theorem aEh(N:Nat)(c:UInt8):Ug N c=some (l8 c):=rfl
theorem iF{s p r:List UInt8}{c:UInt8}(h:p++c::r=s)(k:UInt8->O):gx s ((p.length:Nat):Int) k=k c:=iP (by omega) (by rw[kB,<-h,dN (cE _),kZ];rfl) k
theorem a0q{N:Nat}(s:List UInt8)(hs:s.length<=1000000)(k0:Int->O)(k1:Unit->O)(h01:k0 0=k1 ()):∀n (r p:List UInt8),p++r=s->r.length<n->
    DM N n (s,((p.length:Nat):Int)) k0 k1 nn=match fZ r with|some k=>k0 ((p.length+k:Nat):Int)|none=>k1 ():=by
 intro n
 induction n using vB with
 |_ n ih=>
 intro r p hp hn;obtain⟨n,rfl⟩:∃m,n=m+1:=⟨n-1,by omega⟩
 have hlen:s.length=p.length+r.length:=by rw[<-hp];simp
 show Uk N (λv0:Int=>DM N n (s,v0) k0 k1 nn) k0 k1 s ((p.length:Nat):Int)=_;unfold Uk;cases r with
 |nil=>
   rw[bD (by simp at hlen;omega),kU,Nu,pR,bM];rfl
 |cons c r=>
   rw[aX (by rw[hlen];simp;omega),jP,iF hp,n5,aEh,aK,iU];unfold fZ;cases hc:l8 c with
   |false=>rw[bM]
   |true=>
     rw[bJ,iF hp];have step:∀(q:List UInt8)(r':List UInt8),q++r'=s->r'.length<n->DM N n (s,((q.length:Nat):Int)) k0 k1 nn=match fZ r' with|some k=>k0 ((q.length+k:Nat):Int)|none=>k1 ():=λq r' h1 h2=>ih n (by omega) r' q h1 h2
     cases h34:decide (c=34)with
     |true=>
       rw[bJ,cA (by omega) (by simp at hlen;omega)];rfl
     |false=>
       rw[bM];cases h92:decide (c=92)with
       |false=>
         rw[bM,cA (by omega) (by simp at hlen;omega)];have:=step (p++[c]) r (by rw[bP];exact hp) (by simp at hn;omega);rw[aL,show((p.length+[c].length:Nat):Int)=(p.length:Int)+1 by simp]at this;refine this.trans ?_;cases fZ r with
         |none=>rfl
         |some k=>exact aR k0 (by simp;omega)
       |true=>
         rw[bJ,cA (n:=((p.length:Nat):Int)+1) (by omega) (by simp at hlen;omega)];cases r with
         |nil=>
           rw[aX (p:=((s.length:Nat):Int)<=((p.length:Nat):Int)+1) (by simp at hlen;omega),Bj,kU,pR,kU,J4,bJ];exact h01
         |cons d r=>
           have hd:(p++[c])++d::r=s:=by rw[bP];exact hp
           have hpl:((p.length:Nat):Int)+1=(((p++[c]).length:Nat):Int):=by simp
           rw[bD (p:=((s.length:Nat):Int)<=((p.length:Nat):Int)+1) (by simp at hlen;omega),qS,jP,hpl,iF hd,iU];have hstep:=step (p++[c]++[d]) r (by rw[bP];exact hd) (by simp at hn;omega);have hpl2:(((p++[c]).length:Nat):Int)+1=(((p++[c]++[d]).length:Nat):Int):=by simp;omega
           show _=match(match decide (d=34)||decide (d=92)with |true=>(fZ r).map (· + 2) |false=>none)with |some k=>k0 ((p.length+k:Nat):Int) |none=>k1 ()
           by_cases h:d=34
           .subst h
            rw[bD (p:=(34:UInt8)≠34) (by simp),kU,pR,rT,bM,hpl2,cA (by omega) (by simp at hlen ⊢;omega)];refine hstep.trans ?_;rw[aX (p:=(34:UInt8)=34) rfl,J4];simp only;cases fZ r with
            |none=>rfl
            |some k=>exact aR k0 (by simp;omega)
           .rw[aX (p:=d≠34) h,jP,iF hd,iU,rT,bD h,rT]
            by_cases h':d=92
            .subst h'
             rw[bD (p:=(92:UInt8)≠92) (by simp),bM,hpl2,cA (by omega) (by simp at hlen ⊢;omega)];refine hstep.trans ?_;rw[aX (p:=(92:UInt8)=92) rfl];simp only;cases fZ r with
             |none=>rfl
             |some k=>exact aR k0 (by simp;omega)
            .rw[aX (p:=d≠92) h',bJ,bD h']
             exact h01
theorem aXI{N:Nat}(c:UInt8)(l:List UInt8)(hs:(c::l).length<N)(hN:N<=1000000):Ui N (c::l)=some (match fZ l with|some k=>((k+1:Nat):Int)|none=>0):=by
 unfold Ui Uj aEk;refine(aR (λz:O=>z.bind (aG A4)) (a0q (N:=N) (c::l) (by omega) (λz16=>some (aB A4 z16)) (λ_=>some (aB A4 (0:Int))) rfl N l [c] rfl (by simp at hs;omega))).trans ?_;cases fZ l with
 |none=>rfl
 |some k=>exact aR some (show((([c]:List UInt8).length+k:Nat):Int)=((k+1:Nat):Int)by simp;omega)
theorem aLD(c:UInt8):(l8 c&&!decide (0<=Lib.indexByte [32,34,40,41] c))=iI c:=by
 by_cases h1:c=32
 .subst h1;rfl
 by_cases h2:c=34
 .subst h2;rfl
 by_cases h3:c=40
 .subst h3;rfl
 by_cases h4:c=41
 .subst h4;rfl
 have e1:((32:UInt8) == c)=false:=by simpa using λh=>h1 h.symm
 have e2:((34:UInt8) == c)=false:=by simpa using λh=>h2 h.symm
 have e3:((40:UInt8) == c)=false:=by simpa using λh=>h3 h.symm
 have e4:((41:UInt8) == c)=false:=by simpa using λh=>h4 h.symm
 have hi:Lib.indexByte [32,34,40,41] c = -1:=by
  unfold Lib.indexByte Lib.indexByte Lib.indexByte Lib.indexByte Lib.indexByte;rw[e1,e2,e3,e4];rfl
 rw[hi];unfold iI l8;rw[bD h2,bD h3,bD h4];have hc:c.toNat≠32:=λh=>h1 (B9.1 h)
 have a1:decide ((32:UInt8)<=c)=decide ((32:UInt8)<c):=qD.2 (by rw[EY,JS];show 32<=c.toNat ↔ 32<c.toNat;omega);have a2:decide (c<=(126:UInt8))=decide (c<(127:UInt8)):=qD.2 (by rw[EY,JS];show c.toNat<=126 ↔ c.toNat<127;omega);rw[a1,a2];simp
theorem aXC(N:Nat){c:UInt8}(h:l8 c=true):DL N [32,34,40,41] (IntKind.i32.wrap (c.toNat:Int))=some (decide (0<=Lib.indexByte [32,34,40,41] c)):=by
 unfold l8 at h;rw[aT,eR,eR,EY,EY]at h;have h1:32<=c.toNat:=h.1;have h2:c.toNat<=126:=h.2;have e:IntKind.i32.wrap (c.toNat:Int)=(c.toNat:Int):=by
  unfold IntKind.wrap;simp[IntKind.bits,IntKind.signed];omega
 have e2:((c.toNat:Int).toNat).toUInt8=c:=by
  rw[kB];exact B9.1 (by simp)
 unfold DL;rw[e,aX (by omega),e2]
theorem aLB{N:Nat}(s:List UInt8)(hs:s.length<=1000000)(x:List UInt8)(f:Bool)(k0:Int->O):∀(r p:List UInt8),p++r=s->∀n,r.length<n->
    CC N n (s,x,f,((p.length:Nat):Int)) k0 nn nn=k0 ((p.length+lJ r:Nat):Int):=by
 intro r
 induction r with
 |nil=>
   intro p hp n hn;obtain⟨n,rfl⟩:∃m,n=m+1:=⟨n-1,by omega⟩
   have hlen:s.length=p.length:=by rw[<-hp];simp
   show Ew N (λv0:Int=>CC N n (s,x,f,v0) k0 nn nn) k0 s x f ((p.length:Nat):Int)=_;unfold Ew;rw[bD (by omega),kU,Nu,pR,kU,Nu,pR,bM];rfl
 |cons c r ih=>
   intro p hp n hn;obtain⟨n,rfl⟩:∃m,n=m+1:=⟨n-1,by omega⟩
   have hlen:s.length=p.length+(r.length+1):=by rw[<-hp];simp
   show Ew N (λv0:Int=>CC N n (s,x,f,v0) k0 nn nn) k0 s x f ((p.length:Nat):Int)=_;unfold Ew;rw[aX (by omega),jP,iF hp,n5,aEh,aK,iU];have hw:=aLD c;unfold lJ;rw[aK1,<-hw];cases hc:l8 c with
   |false=>
     rw[kU,Nu,pR,bM];rfl
   |true=>
     rw[jP,iF hp,n5,aXC N hc,aK,iU];cases decide (0<=Lib.indexByte [32,34,40,41] c)with
     |true=>rw[Bj,bM];rfl
     |false=>
       rw[qS,bJ,cA (by omega) (by omega)];have:=ih (p++[c]) (by rw[bP];exact hp) n (by simp at hn;omega);rw[aL,show((p.length+[c].length:Nat):Int)=(p.length:Int)+1 by simp]at this;refine this.trans (aR k0 ?_);show((p.length+1+(r.takeWhile iI).length:Nat):Int)=((p.length+((r.takeWhile iI).length+1):Nat):Int);omega
theorem Hx(c:UInt8)(l:List UInt8):nQ (c::l)=match decide (c=34)with |true=>(match fZ l with |some n=>n+1 |none=>0) |false=>match decide (c=40)||decide (c=41)with |true=>1 |false=>lJ (c::l):=rfl
theorem aMI{N:Nat}(c:UInt8)(l:List UInt8)(hs:(c::l).length<N)(hN:N<=1000000):PO N (c::l)=some ((nQ (c::l):Nat):Int):=by
 obtain⟨n,rfl⟩:∃n,N=n+1:=⟨N-1,by omega⟩
 have hw:PO (n+1) (c::l)=((PT (n+1) (λz7:Int=>some (aB vM z7)) (λ(z8 z9:List UInt8)(z10:Bool)=>aA9 (n+1) z8 z9 z10 0 (λz24:Int=>some (aB vM z24))) (c::l):O)).bind (aG vM):=rfl;rw[hw,Hx];unfold PT;rw[yM,aXI c l hs hN,aK];cases h34:decide (c=34)with
 |true=>
   rw[bJ];cases fZ l with
   |none=>rfl
   |some k=>rfl
 |false=>
   rw[bM];cases h40:decide (c=40)with
   |true=>rw[bJ,bJ];rfl
   |false=>
     rw[bM];cases h41:decide (c=41)with
     |true=>rw[bJ];rfl
     |false=>
       rw[bM];have:=aLB (N:=n+1) (c::l) (by omega) (c::l) false (λz24=>some (aB vM z24)) (c::l) [] rfl (n+1) hs;refine(aR (λz:O=>z.bind (aG vM)) this).trans ?_;exact aR some (show((0+lJ (c::l):Nat):Int)=_ by rw[Nat.zero_add];rfl)
end Go.Proofs
/- The parser's tokens. -/
namespace Go.Proofs
open Go Go.Ax Go.Ax.aA
abbrev Tok:=List UInt8×Int
def bH(l:List Tok)(f:Bool):List UInt8:=match f with
 |true=>[]
 |false=>match l with|[]=>[]|t::_=>t.1
theorem tQ(N:Nat)(l:List Tok)(f:Bool):iJ N l f=some (bH l f,l,f):=by
 unfold iJ PM;cases f with
 |true=>rfl
 |false=>cases l with
   |nil=>rfl
   |cons t l=>
     have:decide (((t::l).length:Int)=0)=false:=bD (by simp;omega);rw[this];rfl
def gQ(is:Bool)(l:List Tok)(f:Bool):List UInt8×List Tok×Bool:=match !is||decide (bH l f=[])with
 |true=>([],l,true)
 |false=>(bH l f,l.drop 1,f)
theorem IY{l:List Tok}{f:Bool}(h:bH l f≠[]):f=false/\1<=l.length:=by
 unfold bH at h;cases f with
 |true=>exact absurd rfl h
 |false=>cases l with
   |nil=>exact absurd rfl h
   |cons t l=>exact⟨rfl,by simp⟩
theorem AO(N:Nat)(is:Bool)(l:List Tok)(f:Bool):vL N is l f=some (gQ is l f):=by
 unfold vL PN;rw[tQ,aK];unfold gQ;cases h:(!is||decide (bH l f=[]))with
 |true=>simp only[h,bJ];rfl
 |false=>
   have hp:bH l f≠[]:=by simp at h;exact h.2
   have h1:=(IY hp).2;simp only[h,bM];have:iX (List.length l) (some 1) none=true:=aX ⟨by omega,by exact_mod_cast h1⟩;rw[this,BY];rfl
def bQ(s:List UInt8)(l:List Tok)(f:Bool):List Tok×Bool:=(gQ (decide (bH l f=s)) l f).2
theorem Ff(N:Nat)(s:List UInt8)(l:List Tok)(f:Bool):eH N s l f=some (bQ s l f):=by
 unfold eH QV;rw[tQ,aK,AO,aK];rfl
end Go.Proofs
/- The scanner. -/
namespace Go.Proofs
open Go Go.Ax Go.Ax.aA
theorem a0s:∀(n:Nat)(l:List UInt8)(k:Nat),l.length<=n->fZ l=some k->k<=l.length:=by
 intro n
 induction n with
 |zero=>
   intro l k hl h;cases l with
   |nil=>cases h
   |cons c l=>simp at hl
 |succ n ih=>
   intro l k hl h;cases l with
   |nil=>cases h
   |cons c l=>
     unfold fZ at h;cases hc:l8 c with
     |false=>rw[hc]at h;cases h
     |true=>
       rw[hc]at h;cases h34:decide (c=34)with
       |true=>
         rw[h34]at h;cases h;simp
       |false=>
         rw[h34]at h;cases h92:decide (c=92)with
         |false=>
           rw[h92]at h;cases hs:fZ l with
           |none=>rw[hs]at h;cases h
           |some j=>
             rw[hs]at h;cases h;have:=ih l j (by simp at hl;omega) hs;simp;omega
         |true=>
           rw[h92]at h;cases l with
           |nil=>cases h
           |cons d l=>
             simp only at h;cases hd:(decide (d=34)||decide (d=92))with
             |false=>rw[hd]at h;cases h
             |true=>
               rw[hd]at h;cases hs:fZ l with
               |none=>rw[hs]at h;cases h
               |some j=>
                 rw[hs]at h;cases h;have:=ih l j (by simp at hl;omega) hs;simp;omega
theorem aLC(s:List UInt8):lJ s<=s.length:=(List.takeWhile_sublist iI).length_le
theorem aGW(s:List UInt8):nQ s<=s.length:=by
 cases s with
 |nil=>exact cE _
 |cons c l=>
   rw[Hx];cases decide (c=34)with
   |true=>
     cases hs:fZ l with
     |none=>exact o7 _
     |some k=>
       have:=a0s _ l k (cE _) hs;simp;omega
   |false=>
     cases decide (c=40)||decide (c=41)with
     |true=>simp
     |false=>exact aLC _
def jS(c:UInt8):Bool:=decide (c=32)||decide (c=10)
def gJ:Nat->Nat->List UInt8->List Tok×Nat
 |0,p,_=>([],p)
 |n+1,p,s=>match s with
   |[]=>([],p)
   |c::l=>match jS c with
     |true=>gJ n (p+1) l
     |false=>match nQ (c::l)with
       |0=>([],p)
       |k+1=>(((c::l).take (k+1),(p:Int))::(gJ n (p+(k+1)) ((c::l).drop (k+1))).1,(gJ n (p+(k+1)) ((c::l).drop (k+1))).2)
theorem M3(n p:Nat)(c:UInt8)(l:List UInt8):gJ (n+1) p (c::l)=match jS c with|true=>gJ n (p+1) l|false=>match nQ (c::l)with|0=>([],p)|k+1=>(((c::l).take (k+1),(p:Int))::(gJ n (p+(k+1)) ((c::l).drop (k+1))).1,(gJ n (p+(k+1)) ((c::l).drop (k+1))).2):=rfl
theorem a1S{N:Nat}(hN:N<=1000000)(s:List UInt8)(hs:s.length<N)(K:List Tok->Int->O):∀(n:Nat)(r p:List UInt8)(acc:List Tok),p++r=s->r.length<n->acc.length<=p.length->
    Fh N n (s,((p.length:Nat):Int),acc) (λy=>K y.2 y.1) (λy=>K y.2 ((y.1.length:Nat):Int)) nn=K (acc++(gJ n p.length r).1) (((gJ n p.length r).2:Nat):Int):=by
 intro n
 induction n with
 |zero=>intro r p acc _ h;omega
 |succ n ih=>
   intro r p acc hp hn ha;have hlen:s.length=p.length+r.length:=by rw[<-hp];simp
   show QY N (λ(v0:Int)(v1:List Tok)=>Fh N n (s,v0,v1) (λy=>K y.2 y.1) (λy=>K y.2 ((y.1.length:Nat):Int)) nn) (λy0 y1=>K y1 y0) (λy0 y1=>K y1 ((y0.length:Nat):Int)) s ((p.length:Nat):Int) acc=_;unfold QY;cases r with
   |nil=>
     rw[bD (by simp at hlen;omega),bM];show K acc ((s.length:Nat):Int)=K (acc++[]) ((p.length:Nat):Int);rw[e9];simp at hlen;rw[hlen]
   |cons c r=>
     have hcl:(c::r).length=r.length+1:=rfl;rw[aX (by omega),bJ,iF hp];have hbl:∀x y:O,(gc (!decide (c=32)) (0:UInt8) s ((p.length:Nat):Int) λy11=>br (decide (c=32)||decide (y11=10)) x y)=br (jS c) x y:=by
      intro x y;unfold jS;cases h:decide (c=32)with
      |true=>rfl
      |false=>rw[qS,jP,iF hp]
     rw[hbl,M3];cases hb:jS c with
     |true=>
       rw[bJ,cA (by omega) (by omega)];have:=ih r (p++[c]) acc (by rw[bP];exact hp) (by omega) (by simp;omega);rw[aL,show((p.length+[c].length:Nat):Int)=(p.length:Int)+1 by simp]at this;exact this
     |false=>
       have hdrop:iE s (some ((p.length:Nat):Int)) none=c::r:=by
        show s.drop ((p.length:Nat):Int).toNat=_;rw[kB,<-hp,Zm]
       have hle:=aGW (c::r);rw[bM,eY (show iX s.length (some ((p.length:Nat):Int)) none=true from aX ⟨by omega,by omega⟩),hdrop,aMI c r (by omega) hN,aK];cases ht:nQ (c::r)with
       |zero=>
         rw[aX (by rfl),bJ];show K acc _=K (acc++[]) _;rw[e9]
       |succ k=>
         rw[ht]at hle;have hsl:iE s (some ((p.length:Nat):Int)) (some (((p.length:Nat):Int)+((k+1:Nat):Int)))=(c::r).take (k+1):=by
          show(s.take (((p.length:Nat):Int)+((k+1:Nat):Int)).toNat).drop ((p.length:Nat):Int).toNat=_;rw[kB,<-a95,kB,<-hp,Zj,vD (by omega),Zm,a8z]
         rw[bD (by omega),bM,cA (by omega) (by omega),hsl];rw[eY (show iX s.length (some ((p.length:Nat):Int)) (some (((p.length:Nat):Int)+((k+1:Nat):Int)))=true from aX ⟨by omega,by omega,by omega⟩),eY (rF (by rw[aL];show(acc.length+1)*24<=_;omega) (by rw[aL];show acc.length+1<=_;omega))];have:=ih ((c::r).drop (k+1)) (p++(c::r).take (k+1)) (acc++[((c::r).take (k+1),((p.length:Nat):Int))]) (by rw[bP,Zi];exact hp) (by rw[lI];omega) (by
          rw[aL,aL,iT];have:[((c::r).take (k+1),((p.length:Nat):Int))].length=1:=rfl;omega)
         have hpl:(p++(c::r).take (k+1)).length=p.length+(k+1):=by rw[aL,iT];omega
         rw[hpl,bP]at this;refine Eq.trans ?_ this;rw[<-a95]
theorem aBf{N:Nat}(hN:N<=1000000)(s:List UInt8)(hs:s.length<N):QW N s=some ((gJ N 0 s).1,(((gJ N 0 s).2:Nat):Int)):=by
 unfold QW QX aBc;refine(aR (λz:O=>z.bind (aG CL)) (a1S hN s hs (λt e=>some (aB CL (t,e))) N s [] [] rfl hs (cE _))).trans ?_;rfl
end Go.Proofs
/- The tokens of a text that is told as pieces. -/
namespace Go.Proofs
open Go Go.Ax Go.Ax.aA
def xY(t:List UInt8):Prop:=t=[40]\/t=[41]
def lT(t:List UInt8):Prop:=t≠[]/\∀c∈t,iI c=true
def D6(t:List UInt8):Prop:=∃s:List UInt8,(∀c∈s,l8 c=true)/\t=quo s
def NW(r:List UInt8):Prop:=∀c l,r=c::l->iI c=false
theorem a0g{t:List UInt8}(h:xY t)(r:List UInt8):nQ (t++r)=t.length:=by
 rcases h with rfl|rfl <;> rfl
theorem a0r(r:List UInt8):∀s:List UInt8,(∀c∈s,l8 c=true)->fZ (cT s++34::r)=some ((cT s).length+1):=by
 intro s
 induction s with
 |nil=>intro _;rfl
 |cons c s ih=>
   intro h;have h1:=h c iB;have h2:=ih λd hd=>h d (fR _ hd)
   rw[BT];by_cases h34:c=34
   .subst h34
    show(fZ (cT s++34::r)).map (· + 2)=_;rw[h2];exact aR some (by simp)
   .rw[aE h34]
    by_cases h92:c=92
    .subst h92
     show(fZ (cT s++34::r)).map (· + 2)=_;rw[h2];exact aR some (by simp)
    .rw[aE h92]
     show fZ (c::(cT s++34::r))=_;unfold fZ;rw[h1,bD h34,bD h92];simp only;rw[h2];exact aR some (by simp)
theorem a0f{t:List UInt8}(h:D6 t)(r:List UInt8):nQ (t++r)=t.length:=by
 obtain⟨s,hs,rfl⟩:=h;have:quo s++r=34::(cT s++34::r):=by unfold quo;simp
 rw[this,Hx,a0r r s hs];show(cT s).length+1+1=(quo s).length;unfold quo;simp
theorem Od{c:UInt8}(h:iI c=true):c≠34/\c≠40/\c≠41/\jS c=false:=by
 unfold iI at h;simp only[aT,wW,eR,Np]at h;obtain⟨⟨⟨⟨a,b⟩,c1⟩,d⟩,e⟩:=h;refine⟨c1,d,e,?_⟩;unfold jS;rw[bD (λh=>by subst h;exact absurd a (by decide)),bD (λh=>by subst h;exact absurd a (by decide))];rfl
theorem a0e{t:List UInt8}(h:lT t){r:List UInt8}(hr:NW r):nQ (t++r)=t.length:=by
 obtain⟨h0,h1⟩:=h;cases t with
 |nil=>exact absurd rfl h0
 |cons c t=>
   have hc:=Od (h1 c iB);show nQ (c::(t++r))=_;rw[Hx,bD hc.1,bD hc.2.1,bD hc.2.2.1];show lJ (c::t++r)=_;unfold lJ;rw[List.takeWhile_append_of_pos h1];have:r.takeWhile iI=[]:=by
    cases r with
    |nil=>rfl
    |cons d r=>rw[aK1,hr d r rfl];rfl
   rw[this,e9]
def o8(e:List UInt8):List Pc->Prop
 |[]=>∀c∈e,jS c=true
 |p::P=>(∀c∈p.1,jS c=true)/\(xY p.2\/D6 p.2\/lT p.2/\NW (fl P++e))/\o8 e P
theorem M4(r:List UInt8)(n:Nat):∀(sep:List UInt8)(p:Nat),(∀c∈sep,jS c=true)->gJ (n+sep.length) p (sep++r)=gJ n (p+sep.length) r:=by
 intro sep
 induction sep with
 |nil=>intro p _;rfl
 |cons c sep ih=>
   intro p h;show gJ ((n+sep.length)+1) p (c::(sep++r))=_;rw[M3,h c iB];show gJ (n+sep.length) (p+1) (sep++r)=_;rw[ih (p+1) λd hd=>h d (fR _ hd)]
   congr 1
   simp;omega
theorem aGi{t r:List UInt8}(n p:Nat)(ht:t≠[])(hb:∀c l,t=c::l->jS c=false)(hl:nQ (t++r)=t.length):gJ (n+1) p (t++r)=((t,(p:Int))::(gJ n (p+t.length) r).1,(gJ n (p+t.length) r).2):=by
 cases t with
 |nil=>exact absurd rfl ht
 |cons c t=>
   have hl':nQ (c::(t++r))=t.length+1:=hl;show gJ (n+1) p (c::(t++r))=_;rw[M3,hb c t rfl,hl'];have h1:(c::(t++r)).take (t.length+1)=c::t:=by rw[List.take_succ_cons,OS]
   have h2:(c::(t++r)).drop (t.length+1)=r:=by rw[List.drop_succ_cons,Zm]
   simp only[h1,h2];rfl
theorem MS{t r:List UInt8}(h:xY t\/D6 t\/lT t/\NW r):t≠[]/\(∀c l,t=c::l->jS c=false)/\nQ (t++r)=t.length:=by
 rcases h with h|h|⟨h,h'⟩
 .refine⟨?_,?_,a0g h r⟩
  .rcases h with rfl|rfl <;> simp
  .intro c l e
   rcases h with rfl|rfl <;> (cases e;rfl)
 .refine⟨?_,?_,a0f h r⟩
  .obtain⟨s,_,rfl⟩:=h;unfold quo;simp
  .intro c l e
   obtain⟨s,_,rfl⟩:=h;unfold quo at e;cases e;rfl
 .refine⟨h.1,?_,a0e h h'⟩
  intro c l e;exact(Od (h.2 c (by rw[e];exact iB))).2.2.2
theorem a1U(e:List UInt8):∀(P:List Pc),o8 e P->∀(n p:Nat),(fl P++e).length<n->(gJ n p (fl P++e)).1.map fF=P.map dB/\(gJ n p (fl P++e)).2=p+(fl P++e).length:=by
 intro P
 induction P with
 |nil=>
   intro h n p hn;obtain⟨m,rfl⟩:∃m,n=(m+1)+e.length:=⟨n-1-e.length,by have:fl []++e=e:=rfl;rw[this]at hn;omega⟩
   have:=M4 [] (m+1) e p h;rw[e9]at this;show(gJ _ p e).1.map _=[]/\(gJ _ p e).2=p+e.length;rw[this];exact⟨rfl,rfl⟩
 |cons q P ih=>
   intro h n p hn;obtain⟨h1,h2,h3⟩:=h;have ht:=MS h2;have hf:fl (q::P)++e=q.1++(q.2++(fl P++e)):=by rw[lD];simp only[bP]
   rw[hf]at hn ⊢;have hpos:0<q.2.length:=by cases hq:q.2 with|nil=>exact absurd hq ht.1|cons a l=>simp
   rw[aL,aL]at hn;obtain⟨m,rfl⟩:∃m,n=(m+1)+q.1.length:=⟨n-1-q.1.length,by omega⟩
   rw[M4 _ _ _ _ h1,aGi m (p+q.1.length) ht.1 ht.2.1 ht.2.2];have:=ih h3 m (p+q.1.length+q.2.length) (by omega);refine⟨?_,?_⟩
   .show q.2::_=q.2::_
    rw[this.1]
   .show(gJ m _ _).2=_
    rw[this.2];simp only[aL];omega
end Go.Proofs
/- The pieces of a source are good tokens. -/
namespace Go.Proofs
open Go Go.Ax Go.Ax.aA
theorem aJK{d:Nat}(h:d<10):iI (s7 (48+d))=true:=by
 have:d=0\/d=1\/d=2\/d=3\/d=4\/d=5\/d=6\/d=7\/d=8\/d=9:=by omega
 rcases this with rfl|rfl|rfl|rfl|rfl|rfl|rfl|rfl|rfl|rfl <;> decide
theorem aJL(u:Nat):∀c∈Lib.decDigits u,iI c=true:=by
 induction u using vB with
 |_ u ih=>
   by_cases h:u<10
   .rw[Lib.decDigits_one h];intro c hc;rw[nH]at hc;subst hc;exact aJK h
   .rw[Lib.decDigits,dif_neg h]
    intro c hc;rw[wR,nH]at hc;rcases hc with hc|rfl
    .exact ih (u / 10) (by omega) c hc
    .exact aJK (by omega)
theorem aJM(u:Nat):Lib.decDigits u≠[]:=λh=>by
 have:=Lib.decDigits_length u;rw[h]at this;have h1:=Lib.nDigits_pos u;simp at this;omega
theorem Oc(n:Int):lT (Lib.itoa n):=by
 unfold Lib.itoa;split
 .refine⟨by simp,λc hc=>?_⟩
  rcases eZ.1 hc with rfl|hc
  .decide
  .exact aJL _ c hc
 .exact⟨aJM _,aJL _⟩
def GP(r:List UInt8):List Pc->Prop
 |[]=>True
 |p::P=>(∀c∈p.1,jS c=true)/\(xY p.2\/D6 p.2\/lT p.2/\NW (fl P++r))/\GP r P
theorem O1{r:List UInt8}{Q:List Pc}(hQ:GP r Q):∀{P:List Pc},GP (fl Q++r) P->GP r (P++Q)
 |[],_=>hQ
 |p::P,h=>by
   refine⟨h.1,?_,O1 hQ h.2.2⟩;have:=h.2.1;show xY p.2\/D6 p.2\/lT p.2/\NW (fl (P++Q)++r);rw[cS,bP];exact this
theorem aI4{e:List UInt8}(he:∀c∈e,jS c=true):∀{P:List Pc},GP e P->o8 e P
 |[],_=>he
 |_::_,h=>⟨h.1,h.2.1,aI4 he h.2.2⟩
def WP(P:List Pc):Prop:=∀r,NW r->GP r P/\NW (fl P++r)
theorem WP.nil:WP []:=λ_ h=>⟨trivial,h⟩
theorem WP.app{P Q:List Pc}(h:WP P)(h':WP Q):WP (P++Q):=λr hr=>by
 have h1:=h' r hr;have h2:=h _ h1.2;refine⟨O1 h1.1 h2.1,?_⟩;rw[cS,bP];exact h2.2
theorem WP.flat{α:Type}{l:List α}{F:α->List Pc}(h:∀y∈l,WP (F y)):WP (l.flatMap F):=by
 induction l with
 |nil=>exact WP.nil
 |cons y l ih=>
   rw[fV];exact(h y iB).app (ih λz hz=>h z (fR _ hz))
theorem Jf{sep:UInt8}(hs:jS sep=true)(hw:iI sep=false){t:List UInt8}(ht:xY t\/D6 t\/lT t):WP [([sep],t)]:=λr hr=>by
 refine⟨⟨?_,?_,trivial⟩,?_⟩
 .intro c hc
  rw[nH.1 hc];exact hs
 .rcases ht with h|h|h
  .exact .inl h
  .exact .inr (.inl h)
  .exact .inr (.inr ⟨h,hr⟩)
 .intro c l e
  rw[jA]at e;cases e;exact hw
theorem lU{w:List UInt8}(h:lT w):WP (cC w):=Jf rfl rfl (.inr (.inr h))
theorem Ee{w:List UInt8}(h:lT w):WP (gW w):=Jf rfl rfl (.inr (.inr h))
theorem AN{s:List UInt8}{a b:Int}(h:lX s a b=true):WP (eO s):=Jf rfl rfl (.inr (.inl ⟨s,(cM h).2,rfl⟩))
theorem w5(l:List Int):WP (fB l):=WP.flat λn _=>Jf rfl rfl (.inr (.inr (Oc n)))
theorem jZ{w:List UInt8}(h:(!w.isEmpty&&w.all iI)=true):lT w:=by
 rw[aT]at h;refine⟨?_,fG.1 h.2⟩;rintro rfl;cases h.1
theorem aKv{y:Int×List UInt8}(h:oL y=true):WP (Au y):=by
 unfold oL at h;rw[aT]at h;exact(lU (jZ rfl)).app ((w5 _).app (AN h.2))
theorem aAN{l:List (Int×List UInt8)}(h:pB l=true):WP (p7 l):=by
 have hv:dK l 1 8 oL=true:=by unfold pB at h;exact(aT _ _ ▸ h).2
 exact WP.flat λy hy=>aKv ((cM hv).2 y hy)
theorem aKx{m:List (List (List o6))}:WP (Du m):=WP.flat λ_ _=>(lU (jZ rfl)).app (WP.flat λ_ _=>(lU (jZ rfl)).app (WP.flat λ_ _=>w5 _))
theorem XL{op:Int}(h:cN op 2 10=true):lT (kS op):=by
 have h1:=pT h;have h2:gO[op.toNat]?=some (kS op):=(Mo (by unfold cN;rw[aT,eR,eR];omega)).1;have key:∀n:Nat,2<=n->n<=10->∀w,gO[n]?=some w->(!w.isEmpty&&w.all iI)=true:=by
  intro n a b w hw;have:n=2\/n=3\/n=4\/n=5\/n=6\/n=7\/n=8\/n=9\/n=10:=by omega
  rcases this with rfl|rfl|rfl|rfl|rfl|rfl|rfl|rfl|rfl <;> (cases hw;rfl)
 exact jZ (key op.toNat (by omega) (by omega) _ h2)
theorem a5J:∀(n:Nat)(e:Ex),dD e<n->rN e->∀sep:List UInt8,(∀c∈sep,jS c=true)->∀r,NW r->GP r (iL sep e):=by
 intro n
 induction n with
 |zero=>intro e h;omega
 |succ n ih=>
   intro e h hw sep hsep r hr;obtain⟨op,num,ks⟩:=e;cases hw with
   |mk h1 h2 h3 h4=>
   unfold iL;by_cases h0:op=0
   .rw[aI h0]
    exact⟨hsep,.inr (.inr ⟨Oc _,hr⟩),trivial⟩
   rw[aE h0];by_cases h1':op=1
   .rw[aI h1']
    subst h1';have h2:=pT (show cN num 0 25=true from h2);refine⟨hsep,.inr (.inr ⟨⟨by simp,?_⟩,hr⟩),trivial⟩;intro c hc;rw[nH.1 hc];have key:∀m:Nat,m<=25->iI (kP (97+(m:Int)))=true:=by decide
    have:=key num.toNat (by omega)
    rwa [J0 h2.1]at this
   rw[aE h1'];have hlist:∀l:List Ex,(∀k∈l,k∈ks)->GP ([41]++r) (nZ l)/\NW (fl (nZ l)++([41]++r)):=by
    intro l
    induction l with
    |nil=>
      intro _;refine⟨trivial,?_⟩;intro c l e;cases e;rfl
    |cons k l ihl=>
      intro hm;have h5:=ihl λx hx=>hm x (fR _ hx)
      have hk:=hm k iB;have hsz:=vZ hk;have h6:=ih k (by simp only[dD]at h;omega) (h4 k hk) [32] (by decide) _ h5.2;unfold nZ;refine⟨O1 h5.1 h6,?_⟩;rw[cS,bP,Yf];intro c l e;cases e;rfl
   have h7:=hlist ks λ_ h=>h
   have hop:lT (kS op):=XL (by
    have:=pT h1;unfold cN;rw[aT,eR,eR];omega)
   refine⟨hsep,.inl (.inl rfl),by simp,.inr (.inr ⟨hop,?_⟩),O1 (Q:=[([],[41])]) (show GP r [([],[41])]from⟨by simp,.inl (.inr rfl),trivial⟩) (by rw[jA];exact h7.1)⟩;rw[cS,jA,bP];exact h7.2
theorem aLA{e:Ex}(h:rN e):WP (iL [32] e):=λr hr=>by
 refine⟨a5J _ e (Nat.lt_succ_self _) h [32] (by decide) r hr,?_⟩;rw[Yf];intro c l e;cases e;rfl
theorem wp_block{b:fI}(hv:jJ b=true):WP (lF b):=by
 unfold jJ at hv;rw[aT]at hv;have hv:=hv.2;unfold oT at hv;unfold lF;by_cases h0:b.1=0
 .rw[aI h0]at hv ⊢
  exact(lU (jZ rfl)).app (aAN hv)
 rw[aE h0]at hv ⊢;by_cases h1:b.1=1
 .rw[aI h1]at hv ⊢
  exact(lU (jZ rfl)).app (aLA (Ng hv).1)
 rw[aE h1]at hv ⊢;by_cases h2:b.1=2
 .rw[aI h2]at hv ⊢
  unfold D5 at hv;rw[aT]at hv;have ho:cN b.2.2.2.1.1 2 10=true:=by
   have:=hv.1;unfold I0 at this;simp only[a94,List.any_nil,Bi,lS,eR]at this;unfold cN;rw[aT,eR,eR];omega
  exact(lU (jZ rfl)).app ((Ee (XL ho)).app (w5 _))
 rw[aE h2]at hv ⊢;by_cases h3:b.1=3
 .rw[aI h3]at hv ⊢
  refine(lU (jZ rfl)).app (WP.flat λy hy=>(lU (jZ rfl)).app (WP.flat λs hs=>?_));have hr:=(cM hv).2 y hy;unfold xR at hr;rw[aT]at hr;exact AN ((cM hr.2).2 s hs)
 rw[aE h3]at hv ⊢;by_cases h4:b.1=4
 .rw[aI h4]at hv ⊢
  unfold BR at hv;simp only[aT]at hv;refine(lU (jZ rfl)).app ((w5 _).app (WP.flat λy hy=>(lU (jZ rfl)).app ((Ee ?_).app (WP.flat λ_ _=>w5 _))));have hr:=(cM hv.2).2 y hy;unfold As at hr;rw[aT]at hr;have key:∀w∈At,(!w.isEmpty&&w.all iI)=true:=by decide
  exact jZ (key _ (iM (Da hr.1).1))
 rw[aE h4]at hv ⊢;by_cases h5:b.1=5
 .rw[aI h5]
  exact(lU (jZ rfl)).app aKx
 rw[aE h5]at hv ⊢;by_cases h6:b.1=6
 .rw[aI h6]at hv ⊢
  exact(lU (jZ rfl)).app (WP.flat λs hs=>(lU (jZ rfl)).app (AN ((cM hv).2 s hs)))
 .rw[aE h6]at hv
  cases hv
theorem aKw{q:jK}(hv:p8 q=true):WP (rA q):=by
 unfold p8 at hv;simp only[aT,eR]at hv;obtain⟨⟨⟨⟨⟨⟨⟨v0,v1⟩,v2⟩,v3⟩,v4⟩,v5⟩,v6⟩,v7⟩:=hv;have key:∀w∈sG,(!w.isEmpty&&w.all iI)=true:=by decide
 refine(lU (jZ rfl)).app ((Ee (jZ (key _ (iM (Dh v0).1)))).app ((w5 _).app ((AN v6).app ((WP.flat λ_ _=>(lU (jZ rfl)).app (w5 _)).app ((aAN v1).app (WP.flat λo ho=>?_))))));have hm:=a9J ho;exact(lU (jZ rfl)).app ((AN ((cM v3).2 _ hm.1)).app (AN ((cM v4).2 _ hm.2)))
theorem aKy{i:mN}(hv:oV i=true):WP (uQ i):=by
 unfold oV at hv;simp only[aT]at hv;have hn:lT i.1:=by
  have:=hv.1.1.1;unfold wB at this;rw[aT]at this;refine⟨?_,λc hc=>?_⟩
  .intro e
   rw[e]at this;exact absurd this.1 (by decide)
  .have h:=(cM this.2).2 c hc
   unfold NB uP at h;simp only[lS,aT,eR,EY]at h;have h:(97<=c.toNat/\c.toNat<=122)\/(48<=c.toNat/\c.toNat<=57):=h;unfold iI;have ne:∀k:Nat,k<48->k<256->¬ c=s7 k:=λk hk hk2 e=>by
    have:c.toNat=k:=by rw[e];simp;omega
    omega
   rw[aX (JS.2 (by show 32<c.toNat;omega)),aX (JS.2 (by show c.toNat<127;omega)),bD (p:=c=34) (ne 34 (by decide) (by decide)),bD (p:=c=40) (ne 40 (by decide) (by decide)),bD (p:=c=41) (ne 41 (by decide) (by decide))];rfl
 have key:∀w∈oY,(!w.isEmpty&&w.all iI)=true:=by decide
 refine(lU (jZ rfl)).app ((Ee hn).app ((WP.flat λb hb=>wp_block ((cM hv.1.1.2).2 b hb)).app ((WP.flat λf hf=>?_).app (WP.flat λq hq=>aKw ((cM hv.2).2 q hq)))));have hv:=(cM hv.1.2).2 f hf;unfold uV at hv;simp only[aT]at hv;exact(lU (jZ rfl)).app ((Ee (jZ (key _ (iM (EF hv.1.1.1).1)))).app (w5 _))
theorem aKz{x:lO}(hv:nX x=true):WP (Iu x):=by
 unfold nX at hv;rw[aT]at hv;exact(AN hv.1).app (WP.flat λi hi=>aKy ((cM hv.2).2 i hi))
theorem a5K{x:lO}(hv:nX x=true):o8 [10] (D7 x):=by
 have h:=aKz hv [10] (by intro c l e;cases e;rfl);exact aI4 (by decide) ⟨by simp,.inr (.inr ⟨jZ rfl,h.2⟩),h.1⟩
end Go.Proofs
/- The reference's scanner. -/
namespace Go.Proofs
open Go Go.Ax Go.Ax.aA
theorem a2C(c:UInt8)(x y:O)(k:(UInt8->O)->O)(hk:∀f,k f=f c):(k λy14=>br (decide (c<32)||decide ((126:UInt8)<y14)) x y)=br (!l8 c) x y:=by
 rw[hk]
 congr 1
 unfold l8;rw[show decide (c<32)=!decide (32<=c)from by rw[<-decide_not];exact qD.2 (by rw[JS,EY];omega),show decide ((126:UInt8)<c)=!decide (c<=126)from by rw[<-decide_not];exact qD.2 (by rw[JS,EY];omega)];cases decide (32<=c) <;> cases decide (c<=126) <;> rfl
theorem a1c{N:Nat}(s:List UInt8)(hs:s.length<=1000000)(x:Int)(k0:Int->O)(k1:Unit->O)(h01:k0 (-1)=k1 ()):∀n (r p:List UInt8),p++r=s->r.length<n->
    DN N n (s,x,((p.length:Nat):Int)) k0 k1 nn=match fZ r with|some k=>k0 ((p.length+k:Nat):Int)|none=>k1 ():=by
 intro n
 induction n using vB with
 |_ n ih=>
 intro r p hp hn;obtain⟨n,rfl⟩:∃m,n=m+1:=⟨n-1,by omega⟩
 have hlen:s.length=p.length+r.length:=by rw[<-hp];simp
 show Un N (λv0:Int=>DN N n (s,x,v0) k0 k1 nn) k0 k1 s x ((p.length:Nat):Int)=_;unfold Un;cases r with
 |nil=>
   rw[bD (by simp at hlen;omega),bM];rfl
 |cons c r=>
   rw[aX (by rw[hlen];simp;omega),bJ,iF hp];have hk:∀f:UInt8->O,gc (!decide (c<32)) (0:UInt8) s ((p.length:Nat):Int) f=if decide (c<32)=true then f 0 else f c:=by
    intro f;cases h:decide (c<32)with
    |true=>rfl
    |false=>rw[qS,jP,iF hp];rfl
   have hpr:∀x y:O,(gc (!decide (c<32)) (0:UInt8) s ((p.length:Nat):Int) λy14=>br (decide (c<32)||decide ((126:UInt8)<y14)) x y)=br (!l8 c) x y:=by
    intro x y;have:=a2C c x y (λf=>f c) (λ_=>rfl);rw[hk,<-this];cases h:decide (c<32)with
    |true=>rfl
    |false=>rfl
   rw[hpr];unfold fZ;cases hc:l8 c with
   |false=>rw[qS,bJ];exact h01
   |true=>
     rw[Bj,bM,iF hp];have step:∀(q:List UInt8)(r':List UInt8),q++r'=s->r'.length<n->DN N n (s,x,((q.length:Nat):Int)) k0 k1 nn=match fZ r' with|some k=>k0 ((q.length+k:Nat):Int)|none=>k1 ():=λq r' h1 h2=>ih n (by omega) r' q h1 h2
     cases h34:decide (c=34)with
     |true=>
       rw[bJ,cA (by omega) (by simp at hlen;omega)];rfl
     |false=>
       rw[bM,iF hp];cases h92:decide (c=92)with
       |false=>
         rw[bM,cA (by omega) (by simp at hlen;omega)];have:=step (p++[c]) r (by rw[bP];exact hp) (by simp at hn;omega);rw[aL,show((p.length+[c].length:Nat):Int)=(p.length:Int)+1 by simp]at this;refine this.trans ?_;cases fZ r with
         |none=>rfl
         |some k=>exact aR k0 (by simp;omega)
       |true=>
         rw[bJ,cA (n:=((p.length:Nat):Int)+1) (by omega) (by simp at hlen;omega)];cases r with
         |nil=>
           rw[aX (p:=((s.length:Nat):Int)<=((p.length:Nat):Int)+1) (by simp at hlen;omega),Bj,kU,pR,kU,J4,bJ];exact h01
         |cons d r=>
           have hd:(p++[c])++d::r=s:=by rw[bP];exact hp
           have hpl:((p.length:Nat):Int)+1=(((p++[c]).length:Nat):Int):=by simp
           rw[bD (p:=((s.length:Nat):Int)<=((p.length:Nat):Int)+1) (by simp at hlen;omega),qS,jP,hpl,iF hd,iU];have hstep:=step (p++[c]++[d]) r (by rw[bP];exact hd) (by simp at hn;omega);have hpl2:(((p++[c]).length:Nat):Int)+1=(((p++[c]++[d]).length:Nat):Int):=by simp;omega
           show _=match(match decide (d=34)||decide (d=92)with |true=>(fZ r).map (· + 2) |false=>none)with |some k=>k0 ((p.length+k:Nat):Int) |none=>k1 ()
           by_cases h:d=34
           .subst h
            rw[bD (p:=(34:UInt8)≠34) (by simp),kU,pR,rT,bM,hpl2,cA (by omega) (by simp at hlen ⊢;omega)];refine hstep.trans ?_;rw[aX (p:=(34:UInt8)=34) rfl,J4];simp only;cases fZ r with
            |none=>rfl
            |some k=>exact aR k0 (by simp;omega)
           .rw[aX (p:=d≠34) h,jP,iF hd,iU,rT,bD h,rT]
            by_cases h':d=92
            .subst h'
             rw[bD (p:=(92:UInt8)≠92) (by simp),bM,hpl2,cA (by omega) (by simp at hlen ⊢;omega)];refine hstep.trans ?_;rw[aX (p:=(92:UInt8)=92) rfl];simp only;cases fZ r with
             |none=>rfl
             |some k=>exact aR k0 (by simp;omega)
            .rw[aX (p:=d≠92) h',bJ,bD h']
             exact h01
theorem a1V{N:Nat}(s:List UInt8)(hs:s.length<=1000000)(x y:Int)(f g:Bool)(k0:Int×Int->O):∀(r p:List UInt8),p++r=s->∀n,r.length<n->
    AQ N n (s,x,y,f,g,((p.length:Nat):Int)) k0 nn nn=k0 (x,((p.length+lJ r:Nat):Int)):=by
 intro r
 induction r with
 |nil=>
   intro p hp n hn;obtain⟨n,rfl⟩:∃m,n=m+1:=⟨n-1,by omega⟩
   have hlen:s.length=p.length:=by rw[<-hp];simp
   show Ez N (λv0:Int=>AQ N n (s,x,y,f,g,v0) k0 nn nn) (λa b=>k0 (a,b)) s x y f g ((p.length:Nat):Int)=_;unfold Ez;rw[bD (by omega)];simp only[kU,pR,bM];rfl
 |cons c r ih=>
   intro p hp n hn;obtain⟨n,rfl⟩:∃m,n=m+1:=⟨n-1,by omega⟩
   have hlen:s.length=p.length+(r.length+1):=by rw[<-hp];simp
   show Ez N (λv0:Int=>AQ N n (s,x,y,f,g,v0) k0 nn nn) (λa b=>k0 (a,b)) s x y f g ((p.length:Nat):Int)=_;unfold Ez;have hw:iI c=(decide (32<c)&&decide (c<127)&&decide (c≠34)&&decide (c≠40)&&decide (c≠41)):=by
    unfold iI;simp only[ne_eq,decide_not]
   have hlast:∀b:Bool,b=iI c->br b (AQ N n (s,x,y,f,g,aH.wrap (((p.length:Nat):Int)+1)) k0 nn nn) (k0 (x,((p.length:Nat):Int)))=k0 (x,((p.length+lJ (c::r):Nat):Int)):=by
    intro b hb;subst hb;unfold lJ;rw[aK1];cases iI c with
    |false=>rw[bM];rfl
    |true=>
      rw[bJ,cA (by omega) (by omega)];have:=ih (p++[c]) (by rw[bP];exact hp) n (by simp at hn;omega);rw[aL,show((p.length+[c].length:Nat):Int)=(p.length:Int)+1 by simp]at this;refine this.trans (aR (λz:Int=>k0 (x,z)) ?_);show((p.length+1+(r.takeWhile iI).length:Nat):Int)=((p.length+((r.takeWhile iI).length+1):Nat):Int);omega
   rw[aX (by omega),jP,iF hp,iU];cases h1:decide (32<c)with
   |false=>rw[h1]at hw;simp only[kU,pR,bM]at hw ⊢;exact hlast false hw.symm
   |true=>
   rw[jP,iF hp,iU];cases h2:decide (c<127)with
   |false=>rw[h1,h2]at hw;simp only[kU,pR,aAB,bM]at hw ⊢;exact hlast false hw.symm
   |true=>
   rw[jP,iF hp,iU];cases h3:decide (c≠34)with
   |false=>rw[h1,h2,h3]at hw;simp only[kU,pR,aAB,bM]at hw ⊢;exact hlast false hw.symm
   |true=>
   rw[jP,iF hp,iU];cases h4:decide (c≠40)with
   |false=>rw[h1,h2,h3,h4]at hw;simp only[kU,pR,aAB,bM]at hw ⊢;exact hlast false hw.symm
   |true=>
   rw[jP,iF hp,iU];rw[h1,h2,h3,h4]at hw;exact hlast _ (by rw[hw];rfl)
end Go.Proofs
/- The reference's scanner finds the same tokens. -/
namespace Go.Proofs
open Go Go.Ax Go.Ax.aA
theorem aMO{N:Nat}(hN:N<=1000000){s p r:List UInt8}{c:UInt8}(hp:p++c::r=s)(hs:s.length<N):PU N s ((p.length:Nat):Int)=some (if nQ (c::r)=0 then -1 else((p.length+nQ (c::r):Nat):Int)):=by
 have hlen:s.length=p.length+(r.length+1):=by rw[<-hp];simp
 unfold PU PV;rw[iF hp,Hx];cases h34:decide (c=34)with
 |true=>
   rw[bJ];have hz:Ul N s ((p.length:Nat):Int)=some (match fZ r with|some k=>(((p++[c]).length+k:Nat):Int)|none=>-1):=by
    unfold Ul Um aEn;rw[cA (by omega) (by omega),show((p.length:Nat):Int)+1=(((p++[c]).length:Nat):Int)by simp];refine(aR (λz:O=>z.bind (aG A5)) (a1c (N:=N) s (by omega) 0 (λz19=>some (aB A5 z19)) (λ_=>some (aB A5 (-1:Int))) rfl N r (p++[c]) (by rw[bP];exact hp) (by omega))).trans ?_;cases fZ r with
    |none=>rfl
    |some k=>rfl
   rw[hz,aK];cases fZ r with
   |none=>rfl
   |some k=>
     exact aR some (show(((p++[c]).length+k:Nat):Int)=if k+1=0 then -1 else((p.length+(k+1):Nat):Int)by rw[aE (by omega)];simp;omega)
 |false=>
   rw[bM,iF hp];have h4:∀x y:O,(gc (!decide (c=40)) (0:UInt8) s ((p.length:Nat):Int) λy3=>br (decide (c=40)||decide (y3=41)) x y)=br (decide (c=40)||decide (c=41)) x y:=by
    intro x y;cases h:decide (c=40)with
    |true=>rfl
    |false=>rw[qS,jP,iF hp]
   cases h40:decide (c=40)with
   |true=>
     rw[Bj,kU,J4,bJ,cA (by omega) (by omega)];rfl
   |false=>
     rw[qS,jP,iF hp];cases h41:decide (c=41)with
     |true=>
       rw[aK8,bJ,cA (by omega) (by omega)];rfl
     |false=>
       rw[Bi,bM];unfold aAd;refine(aR (λz:O=>z.bind (aG AP)) (a1V (N:=N) s (by omega) _ _ _ _ _ (c::r) p hp N (by simp;omega))).trans ?_;show((br (decide (((p.length+lJ (c::r):Nat):Int)=((p.length:Nat):Int))) _ _:O)).bind _=some (if lJ (c::r)=0 then _ else _);by_cases h:lJ (c::r)=0
       .rw[aX (by omega),bJ];exact aR some (show(-1:Int)=if lJ (c::r)=0 then -1 else((p.length+lJ (c::r):Nat):Int)from(aI h).symm)
       .rw[bD (by omega),bM];exact aR some (show((p.length+lJ (c::r):Nat):Int)=if lJ (c::r)=0 then -1 else((p.length+lJ (c::r):Nat):Int)from(aE h).symm)
def l9(t:Tok):Int×Int:=(t.2,t.2+(t.1.length:Int))
theorem a1d{N:Nat}(hN:N<=1000000)(s:List UInt8)(hs:s.length<N)(K:List (Int×Int)->Int->O):∀(n:Nat)(r p:List UInt8)(acc:List (Int×Int)),p++r=s->r.length<n->acc.length<=p.length->
    Fk N n (s,((p.length:Nat):Int),acc) (λy=>K y.2 y.1) (λy=>K y.2 ((y.1.length:Nat):Int)) nn=K (acc++(gJ n p.length r).1.map l9) (((gJ n p.length r).2:Nat):Int):=by
 intro n
 induction n with
 |zero=>intro r p acc _ h;omega
 |succ n ih=>
   intro r p acc hp hn ha;have hlen:s.length=p.length+r.length:=by rw[<-hp];simp
   show Q0 N (λ(v0:Int)(v1:List (Int×Int))=>Fk N n (s,v0,v1) (λy=>K y.2 y.1) (λy=>K y.2 ((y.1.length:Nat):Int)) nn) (λy0 y1=>K y1 y0) (λy0 y1=>K y1 ((y0.length:Nat):Int)) s ((p.length:Nat):Int) acc=_;unfold Q0;cases r with
   |nil=>
     rw[bD (by simp at hlen;omega),bM];show K acc ((s.length:Nat):Int)=K (acc++[]) ((p.length:Nat):Int);rw[e9];simp at hlen;rw[hlen]
   |cons c r=>
     have hcl:(c::r).length=r.length+1:=rfl;rw[aX (by omega),bJ,iF hp];have hbl:∀x y:O,(gc (!decide (c=32)) (0:UInt8) s ((p.length:Nat):Int) λy11=>br (decide (c=32)||decide (y11=10)) x y)=br (jS c) x y:=by
      intro x y;unfold jS;cases h:decide (c=32)with
      |true=>rfl
      |false=>rw[qS,jP,iF hp]
     rw[hbl,M3];cases hb:jS c with
     |true=>
       rw[bJ,cA (by omega) (by omega)];have:=ih r (p++[c]) acc (by rw[bP];exact hp) (by omega) (by simp;omega);rw[aL,show((p.length+[c].length:Nat):Int)=(p.length:Int)+1 by simp]at this;exact this
     |false=>
       have hle:=aGW (c::r);rw[bM,aMO hN hp hs,aK];cases ht:nQ (c::r)with
       |zero=>
         rw[aI rfl,aX (by decide),bJ];show K acc _=K (acc++[]) _;rw[e9]
       |succ k=>
         rw[ht]at hle;rw[aE (by omega),bD (by omega),bM];rw[eY (rF (by rw[aL];show(acc.length+1)*16<=_;omega) (by rw[aL];show acc.length+1<=_;omega))];have:=ih ((c::r).drop (k+1)) (p++(c::r).take (k+1)) (acc++[(((p.length:Nat):Int),((p.length+(k+1):Nat):Int))]) (by rw[bP,Zi];exact hp) (by rw[lI];omega) (by
          rw[aL,aL,iT];have:[(((p.length:Nat):Int),((p.length+(k+1):Nat):Int))].length=1:=rfl;omega)
         have hpl:(p++(c::r).take (k+1)).length=p.length+(k+1):=by rw[aL,iT];omega
         rw[hpl,bP]at this;refine this.trans ?_;have hT:l9 ((c::r).take (k+1),(p.length:Int))=(((p.length:Nat):Int),((p.length+(k+1):Nat):Int)):=by
          unfold l9;simp only[iT];rw[Nat.min_eq_left (by omega)];exact JV rfl (by show((p.length:Nat):Int)+((k+1:Nat):Int)=_;omega)
         show K (acc++([_]++_)) _=K (acc++(l9 _::_)) _;rw[hT];rfl
theorem aOp{N:Nat}(hN:N<=1000000)(s:List UInt8)(hs:s.length<N):K3 N s=some ((gJ N 0 s).1.map l9,(((gJ N 0 s).2:Nat):Int)):=by
 unfold K3 QZ aBh;refine(aR (λz:O=>z.bind (aG CN)) (a1d hN s hs (λt e=>some (aB CN (t,e))) N s [] [] rfl hs (cE _))).trans ?_;rfl
end Go.Proofs
/- Other blanks between the tokens. -/
namespace Go.Proofs
open Go Go.Ax Go.Ax.aA
def oI:Nat->List Pc->List Tok
 |_,[]=>[]
 |p,q::P=>(q.2,((p+q.1.length:Nat):Int))::oI (p+q.1.length+q.2.length) P
theorem a1T(e:List UInt8):∀(P:List Pc),o8 e P->∀(n p:Nat),(fl P++e).length<n->gJ n p (fl P++e)=(oI p P,p+(fl P++e).length):=by
 intro P
 induction P with
 |nil=>
   intro h n p hn;obtain⟨m,rfl⟩:∃m,n=(m+1)+e.length:=⟨n-1-e.length,by have:fl []++e=e:=rfl;rw[this]at hn;omega⟩
   have:=M4 [] (m+1) e p h;rw[e9]at this;show gJ _ p e=([],p+e.length);rw[this];rfl
 |cons q P ih=>
   intro h n p hn;obtain⟨h1,h2,h3⟩:=h;have ht:=MS h2;have hf:fl (q::P)++e=q.1++(q.2++(fl P++e)):=by rw[lD];simp only[bP]
   rw[hf]at hn ⊢;have hpos:0<q.2.length:=by cases hq:q.2 with|nil=>exact absurd hq ht.1|cons a l=>simp
   rw[aL,aL]at hn;obtain⟨m,rfl⟩:∃m,n=(m+1)+q.1.length:=⟨n-1-q.1.length,by omega⟩
   rw[M4 _ _ _ _ h1,aGi m (p+q.1.length) ht.1 ht.2.1 ht.2.2,ih h3 m (p+q.1.length+q.2.length) (by omega)];refine JV rfl ?_;simp only[aL];omega
theorem a0d(q:Pc)(B:List Pc):∀(A:List Pc)(p:Nat),(oI p (A++q::B))[A.length]?=some (q.2,((p+(fl A).length+q.1.length:Nat):Int)):=by
 intro A
 induction A with
 |nil=>intro p;rfl
 |cons a A ih=>
   intro p;show(oI (p+a.1.length+a.2.length) (A++q::B))[A.length]?=_;rw[ih,lD];simp only[aL]
   congr 2
   omega
theorem MR:∀(P:List Pc)(p:Nat),(oI p P).length=P.length
 |[],_=>rfl
 |_::P,p=>by show _+1=_+1;rw[MR P]
theorem aI5{e:List UInt8}{q:Pc}{B:List Pc}:∀{A:List Pc},o8 e (A++q::B)->o8 e (q::B)
 |[],h=>h
 |_::A,h=>aI5 (A:=A) h.2.2
theorem N5{e:List UInt8}:∀{P:List Pc},o8 e P->∀q∈P,(∀c∈q.1,jS c=true)/\q.2≠[]
 |p::P,h,q,hq=>by
   rcases eZ.1 hq with rfl|hq
   .exact⟨h.1,(MS h.2.1).1⟩
   .exact N5 h.2.2 q hq
def aGd:List (List UInt8):=[[32],[10],[32,10,32,32]]
theorem a1P{r:Int}(h:0<=r):∃σ,aGd[(r.tmod 3).toNat]?=some σ/\0<=r.tmod 3/\(∀c∈σ,jS c=true)/\σ≠[]/\σ.length<=4:=by
 have h1:r.tmod 3=r%3:=Int.tmod_eq_emod_of_nonneg h;rw[h1];have:r%3=0\/r%3=1\/r%3=2:=by omega
 rcases this with h|h|h <;> rw[h]
 .exact⟨[32],rfl,by decide,by decide,by decide,by decide⟩
 .exact⟨[10],rfl,by decide,by decide,by decide,by decide⟩
 .exact⟨[32,10,32,32],rfl,by decide,by decide,by decide,by decide⟩
theorem aVH(N:Nat){n:Int}(h:lK n):∃r,Gj N n 6=some r/\0<=r:=by
 unfold Gj L1;by_cases h0:n<0
 .rw[aX h0,bJ]
  refine⟨(aH.wrap (-aH.wrap (n+1))).tmod 6,rfl,?_⟩;rw[cA (n:=n+1) (by omega) (by omega),cA (by omega) (by omega)];exact E6 _ (by omega)
 .rw[bD h0,bM]
  exact⟨n.tmod 6,rfl,E6 _ (by omega)⟩
theorem aOl(N:Nat){m:List Int}(hm:∀n∈m,lK n)(i:Nat):∃r,CM N m (i:Int) 6=some r/\0<=r:=by
 unfold CM K2;rcases h:m[i]? with _|y
 .have:m.length<=i:=by rw[List.getElem?_eq_none_iff]at h;exact h
  rw[bD (by omega),aX (by omega),rT,bJ];exact⟨0,rfl,by decide⟩
 .have hlt:i<m.length:=by
   rcases Bd i m.length with h'|h'
   .exact h'
   .rw[oC h']at h;cases h
  rw[bD (by omega),bD (by omega),rT,bM,iP (by omega) (by rw[kB];exact h)];obtain⟨r,hr,h0⟩:=aVH N (hm y (iM h));rw[hr,aK];exact⟨r,rfl,h0⟩
end Go.Proofs
/- A source with other blanks has the same tokens. -/
namespace Go.Proofs
open Go Go.Ax Go.Ax.aA
theorem a9B{σ r:List UInt8}(h:∀c∈σ,jS c=true)(h0:σ≠[]):NW (σ++r):=by
 cases σ with
 |nil=>exact absurd rfl h0
 |cons c σ=>
   intro d l e;cases e;have:=h c iB;cases hw:iI c with
   |false=>rfl
   |true=>rw[(Od hw).2.2.2]at this;cases this
theorem a9A{t r:List UInt8}(h:xY t):NW (t++r):=by
 intro d l e;rcases h with rfl|rfl <;> (cases e;rfl)
theorem a45{A0:List Pc}{q0:Pc}{sep pre:List UInt8}{c:UInt8}(h:fl (A0++[q0])++sep=pre++[c])(hs:∀d∈sep,jS d=true)(hw:lT q0.2):c≠40:=by
 have hc:∀(x y:List UInt8),x++y=pre++[c]->y≠[]->c∈y:=by
  intro x y hxy hy;obtain⟨y',d,rfl⟩:∃y' d,y=y'++[d]:=⟨y.dropLast,y.getLast hy,(a9X hy).symm⟩
  rw[<-bP]at hxy;have:=(List.append_inj' hxy rfl).2;cases this;simp
 by_cases h0:sep=[]
 .subst h0
  rw[e9,cS,jA,<-bP]at h;have hm:=hc _ _ h hw.1;intro e;subst e;exact absurd (hw.2 40 hm) (by decide)
 .have hm:=hc _ _ h h0
  intro e;subst e;exact absurd (hs 40 hm) (by decide)
theorem a1D{N:Nat}(hN:N<=1000000){P:List Pc}{e s:List UInt8}(hs:fl P++e=s)(hg:o8 e P)(hl:s.length<N){m:List Int}(hm:∀n∈m,lK n)(x:Int)(k0:List UInt8->O):
    ∀(B A:List Pc)(b:List UInt8)(n:Nat),A++B=P->B.length<n->b.length<=5*(fl A).length->
    ∃P':List Pc,P'.map dB=B.map dB/\o8 [] P'/\(∀A0 q,A=A0++[q]->lT q.2->NW (fl P'++[]))/\(b++fl P').length<=5*s.length /\
     DT N n (s,m,(oI 0 P).map l9,x,b,((A.length:Nat):Int)) k0 nn nn=k0 (b++fl P'):=by
 intro B
 induction B with
 |nil=>
   intro A b n hA hn hb;obtain⟨n,rfl⟩:∃j,n=j+1:=⟨n-1,by simp at hn;omega⟩
   rw[e9]at hA;subst hA;refine⟨[],rfl,(by intro c hc;cases hc),(λ_ _ _ _=>by intro c l e;cases e),?_,?_⟩
   .show(b++[]).length<=_
    rw[e9,<-hs,aL];omega
   .show br (decide (((A.length:Nat):Int)<((((oI 0 A).map l9).length:Nat):Int))) _ _=_
    rw[cP,MR,bD (by omega),bM];show k0 b=k0 (b++[]);rw[e9]
 |cons q B ih=>
   intro A b n hA hn hb;obtain⟨n,rfl⟩:∃j,n=j+1:=⟨n-1,by simp at hn;omega⟩
   have hgq:=aI5 (hA ▸ hg:o8 e (A++q::B));have hq1:=hgq.1;have htok:=MS hgq.2.1;have hA':(A++[q])++B=P:=by rw[bP];exact hA
   have hsq:s=(fl A++q.1)++(q.2++(fl B++e)):=by
    rw[<-hs,<-hA,cS,lD];simp only[bP]
   have hslen:s.length=(fl A).length+q.1.length+(q.2.length+(fl B++e).length):=by rw[hsq];simp only[aL]
   have hfA:(fl (A++[q])).length=(fl A).length+q.1.length+q.2.length:=by rw[cS,jA];simp only[aL];omega
   have hAl:A.length<=(fl A).length:=by
    have:∀A:List Pc,(∀p∈A,p.2≠[])->A.length<=(fl A).length:=by
     intro A
     induction A with
     |nil=>intro _;exact cE _
     |cons p A ihA=>
       intro h;have h1:=ihA λz hz=>h z (fR _ hz)
       have h2:=h p iB;rw[lD];have:0<p.2.length:=by cases hq:p.2 with|nil=>exact absurd hq h2|cons a l=>simp
       simp only[aL,eD];omega
    exact this A λp hp=>(N5 hg p (by rw[<-hA];exact List.mem_append_left _ hp)).2
   have hZ:((oI 0 P).map l9)[A.length]?=some (l9 (q.2,((0+(fl A).length+q.1.length:Nat):Int))):=by
    rw[List.getElem?_map,<-hA,a0d];rfl
   have hpos:l9 (q.2,((0+(fl A).length+q.1.length:Nat):Int))=((((fl A++q.1).length:Nat):Int),(((fl A++q.1).length+q.2.length:Nat):Int)):=by
    unfold l9;exact JV (by show((0+(fl A).length+q.1.length:Nat):Int)=_;rw[aL];omega) (by show((0+(fl A).length+q.1.length:Nat):Int)+((q.2.length:Nat):Int)=_;rw[aL];omega)
   rw[hpos]at hZ;have hslc:iE s (some (((fl A++q.1).length:Nat):Int)) (some (((fl A++q.1).length+q.2.length:Nat):Int))=q.2:=by
    show(s.take (((fl A++q.1).length+q.2.length:Nat):Int).toNat).drop (((fl A++q.1).length:Nat):Int).toNat=_;rw[kB,kB,hsq,Zj,vD (by omega),a8z,OS,Zm]
   obtain⟨r,hr,hr0⟩:=aOl N hm A.length;have hL:∀σ:List UInt8,σ.length<=4->(∀c∈σ,jS c=true)->(σ=[]->∀A0 q0,A=A0++[q0]->lT q0.2->xY q.2)->
       ∃P':List Pc,P'.map dB=(q::B).map dB/\o8 [] P'/\(∀A0 q,A=A0++[q]->lT q.2->NW (fl P'++[]))/\(b++fl P').length<=5*s.length /\
       DT N n (s,m,(oI 0 P).map l9,x,b++σ++q.2,(((A++[q]).length:Nat):Int)) k0 nn nn=k0 (b++fl P'):=by
    intro σ h4 hbl hno;obtain⟨P'',i1,i2,i3,i4,i5⟩:=ih (A++[q]) (b++σ++q.2) n hA' (by simp at hn;omega) (by
     rw[hfA];have:0<q.2.length:=by cases hq:q.2 with|nil=>exact absurd hq htok.1|cons a l=>simp
     simp only[aL];omega)
    have hfl:b++fl ((σ,q.2)::P'')=b++σ++q.2++fl P'':=by rw[lD];simp only[bP]
    refine⟨(σ,q.2)::P'',?_,⟨hbl,?_,i2⟩,?_,?_,?_⟩
    .show q.2::_=q.2::_
     rw[i1]
    .rcases hgq.2.1 with h|h|h
     .exact .inl h
     .exact .inr (.inl h)
     .exact .inr (.inr ⟨h.1,i3 A q rfl h.1⟩)
    .intro A0 q0 hA0 hw
     rw[lD,bP,bP];by_cases h0:σ=[]
     .subst h0
      exact(show NW (q.2++(fl P''++[]))from a9A (hno rfl A0 q0 hA0 hw))
     .exact a9B hbl h0
    .rw[hfl];exact i4
    .rw[hfl];exact i5
   show ∃P':List Pc,_/\_/\_/\_/\V6 N (λ(v0:List UInt8)(v1:Int)=>DT N n (s,m,(oI 0 P).map l9,x,v0,v1) k0 nn nn) k0 s m ((oI 0 P).map l9) x b ((A.length:Nat):Int)=_
   unfold V6;have hwr:aH.wrap (((A.length:Nat):Int)+1)=(((A++[q]).length:Nat):Int):=by
    rw[cA (by omega) (by omega)];simp
   have hZx:∀k:Int×Int->O,gx ((oI 0 P).map l9) ((A.length:Nat):Int) k=k ((((fl A++q.1).length:Nat):Int),(((fl A++q.1).length+q.2.length:Nat):Int)):=λk=>iP (by omega) (by rw[kB];exact hZ) k
   have hlt:decide (((A.length:Nat):Int)<((((oI 0 P).map l9).length:Nat):Int))=true:=aX (by rw[cP,MR,<-hA];simp;omega);have hfq:(fl A++q.1).length=(fl A).length+q.1.length:=aL;rw[hlt,bJ,hZx,hZx];simp only;rw[hslc,eY (show iX s.length (some (((fl A++q.1).length:Nat):Int)) (some (((fl A++q.1).length+q.2.length:Nat):Int))=true from aX ⟨by omega,by omega,by rw[hslen,hfq];omega⟩),hr,aK];have hpc:∃pc:UInt8,(∀body:UInt8->O,(gc (!(decide (q.2=[40])||decide (q.2=[41]))&&decide ((0:Int)<((A.length:Nat):Int))) (((0:Int),(0:Int))) ((oI 0 P).map l9) ((A.length:Nat):Int) λy17=>
       gc (!(decide (q.2=[40])||decide (q.2=[41]))&&decide ((0:Int)<((A.length:Nat):Int))) (0:UInt8) s (aH.wrap (y17.1-1)) body)=body pc) /\
       ((decide (q.2=[40])||decide (q.2=[41]))=false->decide ((0:Int)<((A.length:Nat):Int))=true->∀A0 q0,A=A0++[q0]->lT q0.2->pc≠40):=by
    cases hpar:(decide (q.2=[40])||decide (q.2=[41]))with
    |true=>exact⟨0,λ_=>rfl,λh=>by cases h⟩
    |false=>
      cases hps:decide ((0:Int)<((A.length:Nat):Int))with
      |false=>exact⟨0,λ_=>rfl,λ_ h=>by cases h⟩
      |true=>
        have hps:=bK hps;have hne:fl A++q.1≠[]:=by
         intro e;have h0:(fl A++q.1).length=0:=by rw[e];rfl
         omega
        obtain⟨pre,c,hpre⟩:∃pre c,fl A++q.1=pre++[c]:=⟨(fl A++q.1).dropLast,(fl A++q.1).getLast hne,(a9X hne).symm⟩
        have hpl:(fl A++q.1).length=pre.length+1:=by rw[hpre];simp
        refine⟨c,λbody=>?_,λ_ _ A0 q0 hA0 hw=>?_⟩
        .rw[qS,iU,jP,hZx]
         show gc true _ s (aH.wrap ((((fl A++q.1).length:Nat):Int)-1)) body=_;rw[jP,cA (by omega) (by omega),show(((fl A++q.1).length:Nat):Int)-1=((pre.length:Nat):Int)by omega];exact iF (p:=pre) (r:=q.2++(fl B++e)) (by rw[hsq,hpre,bP];rfl) body
        .subst hA0
         exact a45 hpre hq1 hw
   obtain⟨pc,hbody,hnp⟩:=hpc;have hq2:q.2.length<=s.length:=by omega
   have hbl:b.length<=5*s.length:=by omega
   cases hc:(decide (r<3)||(decide ((0:Int)<((A.length:Nat):Int))&&!(decide (q.2=[40])||decide (q.2=[41])||decide ((0:Int)<((A.length:Nat):Int))&&decide (pc=40))))with
   |true=>
     obtain⟨σ,s1,s2,s3,s4,s5⟩:=a1P hr0;obtain⟨P',j1,j2,j3,j4,j5⟩:=hL σ s5 s3 λh=>absurd h s4
     refine⟨P',j1,j2,j3,j4,?_⟩;refine(hbody _).trans ?_;rw[hc,bJ,BY];refine(iP (l:=aGd) s2 s1 _).trans ((eY (aX (by omega)) _).trans ((eY (aX (by rw[aL];omega)) _).trans ?_));rw[hwr];exact j5
   |false=>
     obtain⟨P',j1,j2,j3,j4,j5⟩:=hL [] (by simp) (λc h=>by cases h) (λ_ A0 q0 hA0 hw=>by
      have hps:decide ((0:Int)<((A.length:Nat):Int))=true:=aX (by rw[hA0];simp);rw[hps]at hc;cases hpar:(decide (q.2=[40])||decide (q.2=[41]))with
      |true=>
        rw[lS,eR,eR]at hpar;exact hpar
      |false=>
        have:=hnp hpar hps A0 q0 hA0 hw;rw[hpar,bD this]at hc;simp at hc)
     refine⟨P',j1,j2,j3,j4,?_⟩;refine(hbody _).trans ?_;rw[hc,bM,hwr];rw[e9]at j5;exact(eY (aX (by omega)) _).trans j5
theorem aFd{N:Nat}(hN:N<=1000000){P:List Pc}{e s:List UInt8}(hs:fl P++e=s)(hg:o8 e P)(hl:s.length<N){m:List Int}(hm:∀n∈m,lK n):
    ∃P':List Pc,P'.map dB=P.map dB/\o8 [] P'/\(fl P').length<=5*s.length/\V4 N s m=some (fl P'):=by
 have hP:P.length<N:=by
  have:=MR P 0;have h2:∀A:List Pc,(∀p∈A,p.2≠[])->A.length<=(fl A).length:=by
   intro A
   induction A with
   |nil=>intro _;exact cE _
   |cons p A ihA=>
     intro h;have h1:=ihA λz hz=>h z (fR _ hz)
     have h2:=h p iB;rw[lD];have:0<p.2.length:=by cases hq:p.2 with|nil=>exact absurd hq h2|cons a l=>simp
     simp only[aL,eD];omega
  have h3:=h2 P λp hp=>(N5 hg p hp).2
  have h4:s.length=(fl P).length+e.length:=by rw[<-hs,aL]
  omega
 have hz:K3 N s=some ((oI 0 P).map l9,((s.length:Nat):Int)):=by
  rw[aOp hN s hl,<-hs,a1T e P hg N 0 (by rw[hs];exact hl),Nat.zero_add]
 obtain⟨P',h1,h2,_,h4,h5⟩:=a1D hN hs hg hl hm ((s.length:Nat):Int) (λz=>some (aB Hd z)) P [] [] N rfl hP (o7 _);refine⟨P',h1,h2,h4,?_⟩;unfold V4 V5 aFa;rw[hz,aK];refine(aR (λz:O=>z.bind (aG Hd)) h5).trans ?_;rfl
end Go.Proofs
/- The parser's loops: at least so many elements, each behind a word. -/
namespace Go.Proofs
open Go Go.Ax Go.Ax.aA
def dW(N:Nat)(l:List Tok):Prop:=l.length+1<N/\∀t∈l,t.1.length<N
theorem dW.gN{N:Nat}{l m:List Tok}(h:dW N l)(hs:m <:+ l):dW N m:=⟨by have:=hs.length_le;have:=h.1;omega,λt ht=>h.2 t (hs.subset ht)⟩
theorem BE(is:Bool)(l:List Tok)(f:Bool):(gQ is l f).2.1 <:+ l:=by
 unfold gQ;cases !is||decide (bH l f=[])with
 |true=>exact Bf _
 |false=>exact List.drop_suffix 1 l
theorem Dr(w:List UInt8)(l:List Tok)(f:Bool):(bQ w l f).1 <:+ l:=BE _ l f
theorem X7(w:List UInt8)(l:List Tok)(f:Bool):(bQ w l f).2=true\/(bQ w l f).1.length+1<=l.length:=by
 unfold bQ gQ;cases h:(!decide (bH l f=w)||decide (bH l f=[]))with
 |true=>exact .inl rfl
 |false=>
   have hp:bH l f≠[]:=by simp at h;exact h.2
   have:=(IY hp).2;right;show(l.drop 1).length+1<=l.length;rw[lI];omega
section
variable{ρ β:Type}(g:ρ->β)(t:ρ->List Tok)(b:ρ->Bool)(P:List Tok->Bool->ρ)
def fA(least:Int)(w:List UInt8):Nat->List Tok->Bool->List β->List β×List Tok×Bool
 |0,l,f,acc=>(acc,l,f)
 |n+1,l,f,acc=>match !f&&(decide ((acc.length:Int)<least)||decide (bH l f=w))with
   |true=>fA least w n (t (P (bQ w l f).1 (bQ w l f).2)) (b (P (bQ w l f).1 (bQ w l f).2)) (acc++[g (P (bQ w l f).1 (bQ w l f).2)])
   |false=>(acc,l,f)
theorem uD(hs:∀l f,t (P l f) <:+ l)(least:Int)(w:List UInt8):∀n l f acc,(fA g t b P least w n l f acc).2.1 <:+ l:=by
 intro n
 induction n with
 |zero=>intro l f acc;exact Bf _
 |succ n ih=>
   intro l f acc;unfold fA;cases !f&&(decide ((acc.length:Int)<least)||decide (bH l f=w))with
   |true=>exact(ih _ _ _).trans ((hs _ _).trans (Dr w l f))
   |false=>exact Bf _
theorem sA{N:Nat}(hN:N<=1000000)(z:List Tok->Bool->Option ρ)(hz:∀l f,dW N l->z l f=some (P l f))(hs:∀l f,t (P l f) <:+ l)(hb:∀l,b (P l true)=true)(least:Int)(w:List UInt8)(sz:Nat)(hsz:sz<=1000)
    (L:Nat->List Tok->Bool->List β->O) (k0:List Tok->Bool->List β->O)
    (hL:∀n l f acc,L (n+1) l f acc=br (!f) (br (decide ((acc.length:Int)<least)) (br true (cb (eH N w l f) λr22=>cb (z r22.1 r22.2) λr23=>ck (bE (acc++[g r23]).length sz) (L n (t r23) (b r23) (acc++[g r23]))) (k0 l f acc)) (cb (iJ N l f) λr24=>br (decide (r24.1=w)) (cb (eH N w r24.2.1 r24.2.2) λr25=>cb (z r25.1 r25.2) λr26=>ck (bE (acc++[g r26]).length sz) (L n (t r26) (b r26) (acc++[g r26]))) (k0 r24.2.1 r24.2.2 acc))) (br false (cb (eH N w l f) λr27=>cb (z r27.1 r27.2) λr28=>ck (bE (acc++[g r28]).length sz) (L n (t r28) (b r28) (acc++[g r28]))) (k0 l f acc))):
    ∀n l f acc,dW N l->l.length+1<n->acc.length+l.length<=2000000->L n l f acc=k0 (fA g t b P least w n l f acc).2.1 (fA g t b P least w n l f acc).2.2 (fA g t b P least w n l f acc).1:=by
 have stop:∀n l acc,L (n+1) l true acc=k0 l true acc:=λn l acc=>by rw[hL];rfl
 intro n
 induction n with
 |zero=>intro l f acc _ h;omega
 |succ n ih=>
   intro l f acc hl hn ha;rw[hL];unfold fA;cases f with
   |true=>rfl
   |false=>
     have hgo:cb (eH N w l false) (λr22=>cb (z r22.1 r22.2) λr23=>ck (bE (acc++[g r23]).length sz) (L n (t r23) (b r23) (acc++[g r23])))=L n (t (P (bQ w l false).1 (bQ w l false).2)) (b (P (bQ w l false).1 (bQ w l false).2)) (acc++[g (P (bQ w l false).1 (bQ w l false).2)]):=by
      have h1:(acc++[g (P (bQ w l false).1 (bQ w l false).2)]).length=acc.length+1:=by rw[aL];rfl
      have h2:(acc.length+1)*sz<=3000000*1000:=a8v (by have:=hl.1;omega) hsz;rw[Ff,aK,hz _ _ (hl.gN (Dr w l false)),aK,eY (rF (by rw[h1];omega) (by rw[h1];have:=hl.1;omega))]
     have hrec:L n (t (P (bQ w l false).1 (bQ w l false).2)) (b (P (bQ w l false).1 (bQ w l false).2)) (acc++[g (P (bQ w l false).1 (bQ w l false).2)])=k0 (fA g t b P least w n (t (P (bQ w l false).1 (bQ w l false).2)) (b (P (bQ w l false).1 (bQ w l false).2)) (acc++[g (P (bQ w l false).1 (bQ w l false).2)])).2.1 (fA g t b P least w n (t (P (bQ w l false).1 (bQ w l false).2)) (b (P (bQ w l false).1 (bQ w l false).2)) (acc++[g (P (bQ w l false).1 (bQ w l false).2)])).2.2 (fA g t b P least w n (t (P (bQ w l false).1 (bQ w l false).2)) (b (P (bQ w l false).1 (bQ w l false).2)) (acc++[g (P (bQ w l false).1 (bQ w l false).2)])).1:=by
      rcases X7 w l false with h|h
      .rw[h,hb]
       obtain⟨m,rfl⟩:∃m,n=m+1:=⟨n-1,by omega⟩
       rw[stop];rfl
      .have h3:=(hs (bQ w l false).1 (bQ w l false).2).length_le
       exact ih _ _ _ (hl.gN ((hs _ _).trans (Dr w l false))) (by omega) (by rw[aL];show acc.length+1+_<=_;omega)
     rw[qS,bJ,iU];cases decide ((acc.length:Int)<least)with
     |true=>
       rw[bJ,bJ,hgo,hrec,J4]
     |false=>
       rw[bM,tQ,aK,rT];simp only;cases decide (bH l false=w)with
       |true=>rw[bJ,hgo,hrec]
       |false=>rw[bM]
end
end Go.Proofs
/- Readers: a text, a number, a word out of a list. -/
namespace Go.Proofs
open Go Go.Ax Go.Ax.aA
def oH:List UInt8->List UInt8
 |[]=>[]
 |[_]=>[]
 |c::d::r=>match decide (c=92)with
   |true=>d::oH r
   |false=>c::oH (d::r)
theorem aGR:∀s:List UInt8,oH (cT s++[34])=s
 |[]=>rfl
 |c::s=>by
   have ih:=aGR s;rw[BT];by_cases h34:c=34
   .subst h34
    show 34::oH (cT s++[34])=_;rw[ih]
   .rw[aE h34]
    by_cases h92:c=92
    .subst h92
     show 92::oH (cT s++[34])=_;rw[ih]
    .rw[aE h92]
     have:∀r:List UInt8,r≠[]->oH (c::r)=c::oH r:=by
      intro r hr;cases r with
      |nil=>exact absurd rfl hr
      |cons d r=>show(match decide (c=92)with|true=>_|false=>_)=_;rw[bD h92]
     show oH (c::(cT s++[34]))=_;rw[this _ (by simp),ih]
theorem a05{N:Nat}(s:List UInt8)(hs:s.length<=1000000)(a:List Tok)(f:Bool)(k0:List Tok×Bool×List UInt8->O):∀n (r p acc:List UInt8),p++r=s->r.length<n->acc.length<=p.length->
    Fe N n (s,((p.length:Nat):Int),a,f,acc) k0 nn nn=k0 (a,f,acc++oH r):=by
 intro n
 induction n using vB with
 |_ n ih=>
 intro r p acc hp hn ha;obtain⟨n,rfl⟩:∃m,n=m+1:=⟨n-1,by omega⟩
 have hlen:s.length=p.length+r.length:=by rw[<-hp];simp
 show QT N (λ(v0:Int)(v1:List UInt8)=>Fe N n (s,v0,a,f,v1) k0 nn nn) (λy0 y1 y2=>k0 (y0,y1,y2)) s a f ((p.length:Nat):Int) acc=_;unfold QT;rw[cA (n:=((s.length:Nat):Int)-1) (by omega) (by omega)];have hb:∀c:UInt8,OC N c acc=some (acc++[c]):=λc=>by
  unfold OC ZL;rw[iQ (show ZM N acc=some acc from rfl),eY (rF (by rw[aL];show(acc.length+1)*1<=_;omega) (by rw[aL];show acc.length+1<=_;omega))];rfl
 match r,hp,hn,hlen with
 |[],_,_,hlen=>
   rw[bD (by simp at hlen;omega),bM];show k0 (a,f,acc)=k0 (a,f,acc++[]);rw[e9]
 |[_],_,_,hlen=>
   rw[bD (by simp at hlen;omega),bM];show k0 (a,f,acc)=k0 (a,f,acc++[]);rw[e9]
 |c::d::r,hp,hn,hlen=>
   have hd:(p++[c])++d::r=s:=by rw[bP];exact hp
   have hpl:((p.length:Nat):Int)+1=(((p++[c]).length:Nat):Int):=by simp
   simp only[eD]at hlen hn;rw[aX (by omega),bJ,iF hp,cA (n:=((p.length:Nat):Int)+1) (by omega) (by omega),hpl];unfold oH;cases decide (c=92)with
   |true=>
     have hpl2:(((p++[c]).length:Nat):Int)+1=(((p++[c]++[d]).length:Nat):Int):=by simp;omega
     rw[bJ,iF hd,hb,aK,hpl2,cA (by omega) (by simp;omega)];have:=ih n (by omega) r (p++[c]++[d]) (acc++[d]) (by rw[bP];exact hd) (by omega) (by simp;omega);refine this.trans (aR (λz:List UInt8=>k0 (a,f,z)) ?_);rw[bP];rfl
   |false=>
     rw[bM,iF hp,hb,aK];have:=ih n (by omega) (d::r) (p++[c]) (acc++[c]) hd (by simp;omega) (by simp;omega);refine this.trans (aR (λz:List UInt8=>k0 (a,f,z)) ?_);rw[bP];rfl
def preB(s q:List UInt8):Bool:=decide (q.length<=s.length)&&decide (s.take q.length=q)
theorem aEf(N:Nat)(s q:List UInt8):Lk N s q=some (preB s q):=by
 unfold Lk Ue preB;have h1:decide (((q.length:Nat):Int)<=((s.length:Nat):Int))=decide (q.length<=s.length):=qD.2 (by omega);have h2:(!decide (((q.length:Nat):Int)<=((s.length:Nat):Int))||iX s.length none (some ((q.length:Nat):Int)))=true:=by
  by_cases h:q.length<=s.length
  .rw[show iX s.length none (some ((q.length:Nat):Int))=true from aX ⟨by omega,by omega⟩,aK8]
  .rw[bD (by omega)];rfl
 rw[eY h2,h1];rfl
theorem aA7(N:Nat)(s q:List UInt8):Jp N s q=some (preB s q):=by
 unfold Jp PL;rw[aEf,aK];rfl
def fN(l:List Tok)(f:Bool):List UInt8×List Tok×Bool:=
 match decide ((gQ (preB (bH l f) [34]) l f).1=[])with
 |true=>([],(gQ (preB (bH l f) [34]) l f).2)
 |false=>(oH ((gQ (preB (bH l f) [34]) l f).1.drop 1),(gQ (preB (bH l f) [34]) l f).2)
theorem aHj{N:Nat}{l:List Tok}(h:dW N l)(is f:Bool)(h0:0<N):(gQ is l f).1.length<N:=by
 unfold gQ;cases !is||decide (bH l f=[])with
 |true=>exact h0
 |false=>
   show(bH l f).length<N;unfold bH;cases f with
   |true=>exact h0
   |false=>cases l with
     |nil=>exact h0
     |cons t l=>exact h.2 t iB
theorem vP{N:Nat}(hN:N<=1000000)(l:List Tok)(f:Bool)(h:dW N l):oG N l f=some (fN l f):=by
 have h0:0<N:=by have:=h.1;omega
 have hlen:=aHj h (preB (bH l f) [34]) f h0;unfold oG QS fN;rw[tQ,aK,aA7,aK,AO,aK];simp only;generalize gQ (preB (bH l f) [34]) l f=r at hlen;obtain⟨r1,r2,r3⟩:=r;simp only at hlen ⊢;cases hd:decide (r1=[])with
 |true=>rfl
 |false=>
   rw[bM];cases r1 with
   |nil=>cases hd
   |cons c r=>
     unfold aB9;have:=a05 (N:=N) (c::r) (by omega) r2 r3 (λy=>cb (JN N y.2.2) λr27=>some (aB CK (r27,y.1,y.2.1))) N r [c] [] rfl (by simp at hlen;omega) (o7 _);refine(aR (λz:O=>z.bind (aG CK)) this).trans ?_;have hb:JN N ([]++oH r)=some (oH r):=by
      unfold JN ZJ;rw[eY (aX rfl)];rfl
     show((cb (JN N ([]++oH r)) _:O)).bind _=_;rw[hb,aK];rfl
theorem qY(l:List Tok)(f:Bool):(fN l f).2.1 <:+ l:=by
 have:=BE (preB (bH l f) [34]) l f;unfold fN;cases decide ((gQ (preB (bH l f) [34]) l f).1=[])with
 |true=>exact this
 |false=>exact this
theorem Mu(is:Bool)(l:List Tok):gQ is l true=([],l,true):=by
 unfold gQ bH;simp
theorem Al(l:List Tok):fN l true=([],l,true):=by
 unfold fN;rw[Mu];rfl
end Go.Proofs
/- Readers: numbers, words out of a list, names. -/
namespace Go.Proofs
open Go Go.Ax Go.Ax.aA
def yY:List UInt8:=[48,49,50,51,52,53,54,55,56,57]
def lW(s:List UInt8):List UInt8:=match preB s [45]with|true=>s.drop 1|false=>s
theorem aQj(N:Nat)(s:List UInt8):R4 N s [45]=some (lW s):=by
 unfold R4 R6;have hz:Qm N s [45]=some (lW s):=by
  unfold Qm Qn lW;rw[aEf,aK];cases h:preB s [45]with
  |false=>rfl
  |true=>
    have:1<=s.length:=by
     unfold preB at h;rw[aT,eR]at h;exact h.1
    rw[bJ,eY (show iX s.length (some ((([45]:List UInt8).length:Nat):Int)) none=true from aX ⟨by decide,by show(1:Int)<=_;omega⟩)];rfl
 rw[hz,aK];rfl
def dZ(s:List UInt8):Bool:=decide (1<=(lW s).length)&&decide ((lW s).length<=9)&&decide (Lib.trimS (lW s) yY=[])
theorem a04(s:List UInt8):(lW s).length<=s.length:=by
 unfold lW;cases preB s [45]with
 |true=>rw[lI];omega
 |false=>exact cE _
theorem G3{N:Nat}(hN:N<=1000000)(s:List UInt8)(h:s.length<N):tV N s=some (dZ s):=by
 have hl:=a04 s;unfold tV Sq dZ;rw[aQj,aK];have h1:decide ((1:Int)<=(((lW s).length:Nat):Int))=decide (1<=(lW s).length):=qD.2 (by omega);have h2:decide ((((lW s).length:Nat):Int)<=(9:Int))=decide ((lW s).length<=9):=qD.2 (by omega);simp only[h1,h2];cases decide (1<=(lW s).length)&&decide ((lW s).length<=9)with
 |false=>rfl
 |true=>
   have hz:C0 N (lW s) [48,49,50,51,52,53,54,55,56,57]=some (Lib.trimS (lW s) yY):=by
    unfold C0;rw[aX ⟨by omega,by decide⟩];rfl
   rw[n5,hz,aK];rfl
def dO(l:List Tok)(f:Bool):Int×List Tok×Bool:=(pV (gQ (dZ (bH l f)) l f).1,(gQ (dZ (bH l f)) l f).2)
theorem Ml{N:Nat}{l:List Tok}(h:dW N l)(f:Bool):(bH l f).length<N:=by
 have h0:0<N:=by have:=h.1;omega
 unfold bH;cases f with
 |true=>exact h0
 |false=>cases l with
   |nil=>exact h0
   |cons t l=>exact h.2 t iB
theorem nM{N:Nat}(hN:N<=1000000)(l:List Tok)(f:Bool)(h:dW N l):jX N l f=some (dO l f):=by
 have h0:0<N:=by have:=h.1;omega
 have hlen:=aHj h (dZ (bH l f)) f h0;unfold jX UY dO;rw[tQ,aK,G3 hN _ (Ml h f),aK,AO,aK];have hz:Cf N (gQ (dZ (bH l f)) l f).1=some (pV (gQ (dZ (bH l f)) l f).1,(vR (gQ (dZ (bH l f)) l f).1:Int)):=by
  unfold Cf;rw[aX (by omega)]
 rw[hz,aK];rfl
theorem jH(l:List Tok)(f:Bool):(dO l f).2.1 <:+ l:=BE _ l f
theorem Dz(l:List Tok):(dO l true).2.2=true:=by
 unfold dO;rw[Mu]
def atR(L:List (List UInt8))(l:List Tok)(f:Bool):Int×List Tok×Bool:=(gK L (λy=>decide (bH l f=y)),(gQ (decide (0<=gK L (λy=>decide (bH l f=y)))&&decide (bH l f≠[])) l f).2)
theorem aEc{N:Nat}(hN:N<=1000000)(L:List (List UInt8))(s:List UInt8)(hl:L.length<N):Lj N L s=some (gK L λy=>decide (s=y)):=by
 unfold Lj Uc aE9;exact oW (T:=λk0 k1=>HD N N (L,s,((L.length:Nat):Int),(0:Int)) k0 k1 nn) (mk:=aB DK) (un:=aG DK) (λk0 k1=>nV L (λy=>some (decide (s=y))) (λy=>decide (s=y)) (λ_ _=>rfl) hN (λn i=>HD N n (L,s,((L.length:Nat):Int),i) k0 k1 nn) k0 k1 (λ_ _=>rfl) hl) (λ_=>rfl)
theorem DI{N:Nat}(hN:N<=1000000)(L:List (List UInt8))(hl:L.length<N)(l:List Tok)(f:Bool):vU N L l f=some (atR L l f):=by
 unfold vU Ub atR;rw[tQ,aK,aEc hN L _ hl,aK];simp only;cases decide (0<=gK L λy=>decide (bH l f=y))with
 |true=>
   rw[bJ,tQ,aK,AO,aK,iU];rfl
 |false=>
   rw[bM,AO,aK,pR];rfl
theorem qG(L:List (List UInt8))(l:List Tok)(f:Bool):(atR L l f).2.1 <:+ l:=BE _ l f
theorem OD(L:List (List UInt8))(l:List Tok):(atR L l true).2=(l,true):=by
 unfold atR;rw[Mu]
def BH(l:List Tok)(f:Bool):List UInt8×List Tok×Bool:=gQ (wB (bH l f)) l f
theorem aLr{N:Nat}(hN:N<=1000000)(l:List Tok)(f:Bool)(h:dW N l):PC N l f=some (BH l f):=by
 unfold PC PE BH;rw[tQ,aK,aF7 _ (Ml h f) hN,aK,AO,aK];rfl
def sC(l:List Tok)(f:Bool):Int×List UInt8×List Tok×Bool:=((dO l f).1,fN (dO l f).2.1 (dO l f).2.2)
theorem aWd{N:Nat}(hN:N<=1000000)(l:List Tok)(f:Bool)(h:dW N l):DG N l f=some (sC l f):=by
 unfold DG U9 sC;rw[nM hN l f h,aK,vP hN _ _ (h.gN (jH l f)),aK];rfl
theorem aGn(l:List Tok)(f:Bool):(sC l f).2.2.1 <:+ l:=(qY _ _).trans (jH l f)
theorem a15(l:List Tok):(sC l true).2.2.2=true:=by
 unfold sC;rw[Dz];simp only;rw[Al]
end Go.Proofs
/- Readers of lists. -/
namespace Go.Proofs
open Go Go.Ax Go.Ax.aA
section
variable{ρ β:Type}(g:ρ->β)(t:ρ->List Tok)(b:ρ->Bool)(P:List Tok->Bool->ρ)(q:List UInt8->Bool)
def iZ:Nat->List Tok->Bool->List β->List β×List Tok×Bool
 |0,l,f,acc=>(acc,l,f)
 |n+1,l,f,acc=>match !f&&q (bH l f)with
   |true=>iZ n (t (P l f)) (b (P l f)) (acc++[g (P l f)])
   |false=>(acc,l,f)
theorem Ic(hs:∀l f,t (P l f) <:+ l):∀n l f acc,(iZ g t b P q n l f acc).2.1 <:+ l:=by
 intro n
 induction n with
 |zero=>intro l f acc;exact Bf _
 |succ n ih=>
   intro l f acc;unfold iZ;cases !f&&q (bH l f)with
   |true=>exact(ih _ _ _).trans (hs _ _)
   |false=>exact Bf _
theorem NL(n:Nat)(l:List Tok)(acc:List β):iZ g t b P q n l true acc=(acc,l,true):=by
 cases n <;> rfl
theorem xO(least:Int)(w:List UInt8)(n:Nat)(l:List Tok)(acc:List β):fA g t b P least w n l true acc=(acc,l,true):=by
 cases n <;> rfl
theorem Ie{N:Nat}(hN:N<=1000000)(z:List Tok->Bool->Option ρ)(zq:List UInt8->Option Bool)(hz:∀l f,dW N l->z l f=some (P l f))(hq:∀s:List UInt8,s.length<N->zq s=some (q s))(hs:∀l f,t (P l f) <:+ l)(hd:∀l,q (bH l false)=true->(t (P l false)).length+1<=l.length)(sz:Nat)(hsz:sz<=1000)
    (L:Nat->List Tok->Bool->List β->O) (k0:List Tok->Bool->List β->O)
    (hL:∀n l f acc,L (n+1) l f acc=br (!f) (cb (iJ N l f) λr10=>cb (zq r10.1) λr11=>br r11 (cb (z r10.2.1 r10.2.2) λr12=>ck (bE (acc++[g r12]).length sz) (L n (t r12) (b r12) (acc++[g r12]))) (k0 r10.2.1 r10.2.2 acc)) (br false (cb (z l f) λr13=>ck (bE (acc++[g r13]).length sz) (L n (t r13) (b r13) (acc++[g r13]))) (k0 l f acc))):
    ∀n l f acc,dW N l->l.length<n->acc.length+l.length<=2000000->L n l f acc=k0 (iZ g t b P q n l f acc).2.1 (iZ g t b P q n l f acc).2.2 (iZ g t b P q n l f acc).1:=by
 intro n
 induction n with
 |zero=>intro l f acc _ h;omega
 |succ n ih=>
   intro l f acc hl hn ha;rw[hL];unfold iZ;cases f with
   |true=>rfl
   |false=>
     rw[qS,bJ,iU,tQ,aK];simp only;rw[hq _ (Ml hl false),aK];cases h:q (bH l false)with
     |false=>rw[bM]
     |true=>
       have h1:(acc++[g (P l false)]).length=acc.length+1:=by rw[aL];rfl
       have h2:(acc.length+1)*sz<=3000000*1000:=a8v (by have:=hl.1;omega) hsz;have h3:=hd l h;rw[bJ,hz _ _ hl,aK,eY (rF (by rw[h1];omega) (by rw[h1];have:=hl.1;omega))];exact ih _ _ _ (hl.gN (hs _ _)) (by omega) (by rw[h1];omega)
end
theorem YB{l:List Tok}(h:dZ (bH l false)=true):(dO l false).2.1.length+1<=l.length:=by
 have hp:bH l false≠[]:=by
  intro e;rw[e]at h;exact absurd h (by decide)
 have:=(IY hp).2;unfold dO gQ;rw[h,bD hp];show(l.drop 1).length+1<=_;rw[lI];omega
theorem a0l{l:List Tok}(h:preB (bH l false) [34]=true):(fN l false).2.1.length+1<=l.length:=by
 have hp:bH l false≠[]:=by
  intro e;rw[e]at h;exact absurd h (by decide)
 have h1:=(IY hp).2;have h2:gQ true l false=(bH l false,l.drop 1,false):=by
  unfold gQ;rw[bD hp];rfl
 unfold fN;rw[h,h2,bD hp];show(l.drop 1).length+1<=_;rw[lI];omega
theorem aSk(N:Nat)(s:List UInt8):Kv N s=some (preB s [34]):=by
 unfold Kv Sf;rw[aA7,aK];rfl
def gT(l:List Tok)(f:Bool):Int×Int×List Tok×Bool:=((dO l f).1,dO (dO l f).2.1 (dO l f).2.2)
def jN(l:List Tok)(f:Bool):Int×Int×Int×List Tok×Bool:=((dO l f).1,gT (dO l f).2.1 (dO l f).2.2)
theorem BK(l:List Tok)(f:Bool):(gT l f).2.2.1 <:+ l:=(jH _ _).trans (jH l f)
theorem Il(l:List Tok)(f:Bool):(jN l f).2.2.2.1 <:+ l:=(BK _ _).trans (jH l f)
theorem aIV(l:List Tok):(gT l true).2.2.2=true:=by
 unfold gT;rw[Dz];exact Dz _
theorem aIU(l:List Tok):(jN l true).2.2.2.2=true:=by
 unfold jN;rw[Dz];exact aIV _
theorem a4w{l:List Tok}(h:dZ (bH l false)=true):(gT l false).2.2.1.length+1<=l.length:=by
 have h1:=YB h;have h2:=(jH (dO l false).2.1 (dO l false).2.2).length_le;show(dO (dO l false).2.1 (dO l false).2.2).2.1.length+1<=_;omega
theorem a4v{l:List Tok}(h:dZ (bH l false)=true):(jN l false).2.2.2.1.length+1<=l.length:=by
 have h1:=YB h;have h2:=(BK (dO l false).2.1 (dO l false).2.2).length_le;show(gT (dO l false).2.1 (dO l false).2.2).2.2.1.length+1<=_;omega
theorem aCu{N:Nat}(hN:N<=1000000)(l:List Tok)(f:Bool)(h:dW N l):Cd N l f=some (gT l f):=by
 unfold Cd Sb gT;rw[nM hN l f h,aK,nM hN _ _ (h.gN (jH l f)),aK];rfl
theorem aCV{N:Nat}(hN:N<=1000000)(l:List Tok)(f:Bool)(h:dW N l):CY N l f=some (jN l f):=by
 unfold CY R0 jN gT;rw[nM hN l f h,aK,nM hN _ _ (h.gN (jH l f)),aK,nM hN _ _ (h.gN ((jH _ _).trans (jH l f))),aK];rfl
def Dy(N:Nat)(l:List Tok)(f:Bool):=iZ (λr:Int×List Tok×Bool=>r.1) (λr:Int×List Tok×Bool=>r.2.1) (λr:Int×List Tok×Bool=>r.2.2) dO dZ N ((λr:Int×List Tok×Bool=>r.2.1) (dO l f)) ((λr:Int×List Tok×Bool=>r.2.2) (dO l f)) [(λr:Int×List Tok×Bool=>r.1) (dO l f)]
theorem aSv{N:Nat}(hN:N<=1000000)(l:List Tok)(f:Bool)(h:dW N l):Sj N l f=some (Dy N l f):=by
 unfold Sj Sk aDE Dy;rw[nM hN l f h,aK];have hs:=jH l f;have hl:((λr:Int×List Tok×Bool=>r.2.1) (dO l f)).length<=l.length:=hs.length_le;have hn:=h.1;have key:=Ie (N:=N) (λr:Int×List Tok×Bool=>r.1) (λr:Int×List Tok×Bool=>r.2.1) (λr:Int×List Tok×Bool=>r.2.2) dO dZ hN (jX N) (tV N) (nM hN) (λs h=>G3 hN s h) jH (λ_ h=>YB h) 8 (by decide) (λn l f acc=>Kx N n (l,f,acc) (λy=>some (aB Ch (y.2.2,y.1,y.2.1))) nn nn) (λl f acc=>some (aB Ch (acc,l,f))) (λ_ _ _ _=>rfl) N ((λr:Int×List Tok×Bool=>r.2.1) (dO l f)) ((λr:Int×List Tok×Bool=>r.2.2) (dO l f)) [(λr:Int×List Tok×Bool=>r.1) (dO l f)] (h.gN hs) (by omega) (by show 1+_<=_;omega);generalize iZ (λr:Int×List Tok×Bool=>r.1) (λr:Int×List Tok×Bool=>r.2.1) (λr:Int×List Tok×Bool=>r.2.2) dO dZ N ((λr:Int×List Tok×Bool=>r.2.1) (dO l f)) ((λr:Int×List Tok×Bool=>r.2.2) (dO l f)) [(λr:Int×List Tok×Bool=>r.1) (dO l f)]=m at key ⊢;exact aR (λz:O=>z.bind (aG Ch)) key
theorem a4t(N:Nat)(l:List Tok)(f:Bool):(Dy N l f).2.1 <:+ l:=(Ic (λr:Int×List Tok×Bool=>r.1) (λr:Int×List Tok×Bool=>r.2.1) (λr:Int×List Tok×Bool=>r.2.2) dO dZ jH N _ _ _).trans (jH l f)
def qX(N:Nat)(l:List Tok)(f:Bool):=iZ (λr:List UInt8×List Tok×Bool=>r.1) (λr:List UInt8×List Tok×Bool=>r.2.1) (λr:List UInt8×List Tok×Bool=>r.2.2) fN (λs=>preB s [34]) N ((λr:List UInt8×List Tok×Bool=>r.2.1) (fN l f)) ((λr:List UInt8×List Tok×Bool=>r.2.2) (fN l f)) [(λr:List UInt8×List Tok×Bool=>r.1) (fN l f)]
theorem aSo{N:Nat}(hN:N<=1000000)(l:List Tok)(f:Bool)(h:dW N l):Sh N l f=some (qX N l f):=by
 unfold Sh Si aDB qX;rw[vP hN l f h,aK];have hs:=qY l f;have hl:((λr:List UInt8×List Tok×Bool=>r.2.1) (fN l f)).length<=l.length:=hs.length_le;have hn:=h.1;have key:=Ie (N:=N) (λr:List UInt8×List Tok×Bool=>r.1) (λr:List UInt8×List Tok×Bool=>r.2.1) (λr:List UInt8×List Tok×Bool=>r.2.2) fN (λs=>preB s [34]) hN (oG N) (Kv N) (vP hN) (λs _=>aSk N s) qY (λ_ h=>a0l h) 16 (by decide) (λn l f acc=>Kw N n (l,f,acc) (λy=>some (aB Cg (y.2.2,y.1,y.2.1))) nn nn) (λl f acc=>some (aB Cg (acc,l,f))) (λ_ _ _ _=>rfl) N ((λr:List UInt8×List Tok×Bool=>r.2.1) (fN l f)) ((λr:List UInt8×List Tok×Bool=>r.2.2) (fN l f)) [(λr:List UInt8×List Tok×Bool=>r.1) (fN l f)] (h.gN hs) (by omega) (by show 1+_<=_;omega);generalize iZ (λr:List UInt8×List Tok×Bool=>r.1) (λr:List UInt8×List Tok×Bool=>r.2.1) (λr:List UInt8×List Tok×Bool=>r.2.2) fN (λs=>preB s [34]) N ((λr:List UInt8×List Tok×Bool=>r.2.1) (fN l f)) ((λr:List UInt8×List Tok×Bool=>r.2.2) (fN l f)) [(λr:List UInt8×List Tok×Bool=>r.1) (fN l f)]=m at key ⊢;exact aR (λz:O=>z.bind (aG Cg)) key
theorem aGZ(N:Nat)(l:List Tok)(f:Bool):(qX N l f).2.1 <:+ l:=(Ic (λr:List UInt8×List Tok×Bool=>r.1) (λr:List UInt8×List Tok×Bool=>r.2.1) (λr:List UInt8×List Tok×Bool=>r.2.2) fN (λs=>preB s [34]) qY N _ _ _).trans (qY l f)
def xS(N:Nat)(l:List Tok)(f:Bool):=iZ (λr:Int×Int×List Tok×Bool=>(r.1,r.2.1)) (λr:Int×Int×List Tok×Bool=>r.2.2.1) (λr:Int×Int×List Tok×Bool=>r.2.2.2) gT dZ N ((λr:Int×Int×List Tok×Bool=>r.2.2.1) (gT l f)) ((λr:Int×Int×List Tok×Bool=>r.2.2.2) (gT l f)) [(λr:Int×Int×List Tok×Bool=>(r.1,r.2.1)) (gT l f)]
theorem aSa{N:Nat}(hN:N<=1000000)(l:List Tok)(f:Bool)(h:dW N l):Sc N l f=some (xS N l f):=by
 unfold Sc Sd aCw xS;rw[aCu hN l f h,aK];have hs:=BK l f;have hl:((λr:Int×Int×List Tok×Bool=>r.2.2.1) (gT l f)).length<=l.length:=hs.length_le;have hn:=h.1;have key:=Ie (N:=N) (λr:Int×Int×List Tok×Bool=>(r.1,r.2.1)) (λr:Int×Int×List Tok×Bool=>r.2.2.1) (λr:Int×Int×List Tok×Bool=>r.2.2.2) gT dZ hN (Cd N) (tV N) (aCu hN) (λs h=>G3 hN s h) BK (λ_ h=>a4w h) 16 (by decide) (λn l f acc=>Ku N n (l,f,acc) (λy=>some (aB Ce (y.2.2,y.1,y.2.1))) nn nn) (λl f acc=>some (aB Ce (acc,l,f))) (λ_ _ _ _=>rfl) N ((λr:Int×Int×List Tok×Bool=>r.2.2.1) (gT l f)) ((λr:Int×Int×List Tok×Bool=>r.2.2.2) (gT l f)) [(λr:Int×Int×List Tok×Bool=>(r.1,r.2.1)) (gT l f)] (h.gN hs) (by omega) (by show 1+_<=_;omega);generalize iZ (λr:Int×Int×List Tok×Bool=>(r.1,r.2.1)) (λr:Int×Int×List Tok×Bool=>r.2.2.1) (λr:Int×Int×List Tok×Bool=>r.2.2.2) gT dZ N ((λr:Int×Int×List Tok×Bool=>r.2.2.1) (gT l f)) ((λr:Int×Int×List Tok×Bool=>r.2.2.2) (gT l f)) [(λr:Int×Int×List Tok×Bool=>(r.1,r.2.1)) (gT l f)]=m at key ⊢;exact aR (λz:O=>z.bind (aG Ce)) key
theorem a1y(N:Nat)(l:List Tok)(f:Bool):(xS N l f).2.1 <:+ l:=(Ic (λr:Int×Int×List Tok×Bool=>(r.1,r.2.1)) (λr:Int×Int×List Tok×Bool=>r.2.2.1) (λr:Int×Int×List Tok×Bool=>r.2.2.2) gT dZ BK N _ _ _).trans (BK l f)
def rD(N:Nat)(l:List Tok)(f:Bool):=iZ (λr:Int×Int×Int×List Tok×Bool=>(r.1,r.2.1,r.2.2.1)) (λr:Int×Int×Int×List Tok×Bool=>r.2.2.2.1) (λr:Int×Int×Int×List Tok×Bool=>r.2.2.2.2) jN dZ N ((λr:Int×Int×Int×List Tok×Bool=>r.2.2.2.1) (jN l f)) ((λr:Int×Int×Int×List Tok×Bool=>r.2.2.2.2) (jN l f)) [(λr:Int×Int×Int×List Tok×Bool=>(r.1,r.2.1,r.2.2.1)) (jN l f)]
theorem aQa{N:Nat}(hN:N<=1000000)(l:List Tok)(f:Bool)(h:dW N l):R1 N l f=some (rD N l f):=by
 unfold R1 R2 aCX rD;rw[aCV hN l f h,aK];have hs:=Il l f;have hl:((λr:Int×Int×Int×List Tok×Bool=>r.2.2.2.1) (jN l f)).length<=l.length:=hs.length_le;have hn:=h.1;have key:=Ie (N:=N) (λr:Int×Int×Int×List Tok×Bool=>(r.1,r.2.1,r.2.2.1)) (λr:Int×Int×Int×List Tok×Bool=>r.2.2.2.1) (λr:Int×Int×Int×List Tok×Bool=>r.2.2.2.2) jN dZ hN (CY N) (tV N) (aCV hN) (λs h=>G3 hN s h) Il (λ_ h=>a4v h) 24 (by decide) (λn l f acc=>Kh N n (l,f,acc) (λy=>some (aB CZ (y.2.2,y.1,y.2.1))) nn nn) (λl f acc=>some (aB CZ (acc,l,f))) (λ_ _ _ _=>rfl) N ((λr:Int×Int×Int×List Tok×Bool=>r.2.2.2.1) (jN l f)) ((λr:Int×Int×Int×List Tok×Bool=>r.2.2.2.2) (jN l f)) [(λr:Int×Int×Int×List Tok×Bool=>(r.1,r.2.1,r.2.2.1)) (jN l f)] (h.gN hs) (by omega) (by show 1+_<=_;omega);generalize iZ (λr:Int×Int×Int×List Tok×Bool=>(r.1,r.2.1,r.2.2.1)) (λr:Int×Int×Int×List Tok×Bool=>r.2.2.2.1) (λr:Int×Int×Int×List Tok×Bool=>r.2.2.2.2) jN dZ N ((λr:Int×Int×Int×List Tok×Bool=>r.2.2.2.1) (jN l f)) ((λr:Int×Int×Int×List Tok×Bool=>r.2.2.2.2) (jN l f)) [(λr:Int×Int×Int×List Tok×Bool=>(r.1,r.2.1,r.2.2.1)) (jN l f)]=m at key ⊢;exact aR (λz:O=>z.bind (aG CZ)) key
theorem aHl(N:Nat)(l:List Tok)(f:Bool):(rD N l f).2.1 <:+ l:=(Ic (λr:Int×Int×Int×List Tok×Bool=>(r.1,r.2.1,r.2.2.1)) (λr:Int×Int×Int×List Tok×Bool=>r.2.2.2.1) (λr:Int×Int×Int×List Tok×Bool=>r.2.2.2.2) jN dZ Il N _ _ _).trans (Il l f)
end Go.Proofs
/- Readers of lists of elements with a word each. -/
namespace Go.Proofs
open Go Go.Ax Go.Ax.aA
theorem a0k(N:Nat)(l:List Tok):(qX N l true).2.2=true:=by
 unfold qX;simp only;rw[Al,NL]
theorem a1z(N:Nat)(l:List Tok):(xS N l true).2.2=true:=by
 unfold xS;simp only;rw[aIV,NL]
theorem a3g(N:Nat)(l:List Tok):(rD N l true).2.2=true:=by
 unfold rD;simp only;rw[aIU,NL]
theorem aWT{N:Nat}(hN:N<=1000000)(h9:100<=N)(l:List Tok)(f:Bool)(h:dW N l):DD N l f=some (qX N l f):=by
 unfold DD U0;rw[aSo hN l f h,aK];rfl
theorem aST{N:Nat}(hN:N<=1000000)(h9:100<=N)(l:List Tok)(f:Bool)(h:dW N l):Cb N l f=some (rD N l f):=by
 unfold Cb S4;rw[aQa hN l f h,aK];rfl
def D9:List (List UInt8):=At
def sB(N:Nat)(l:List Tok)(f:Bool):Int×List (Int×Int)×List Tok×Bool:=((atR D9 l f).1,xS N (atR D9 l f).2.1 (atR D9 l f).2.2)
theorem aWH{N:Nat}(hN:N<=1000000)(h9:100<=N)(l:List Tok)(f:Bool)(h:dW N l):DB N l f=some (sB N l f):=by
 unfold DB UT sB;rw[show vU N [[100,111,116],[108,105,110,101],[97,114,101,97]] l f=some (atR D9 l f)from DI hN D9 (by show 3<N;omega) l f,aK,aSa hN _ _ (h.gN (qG _ _ _)),aK];rfl
theorem aGc(N:Nat)(l:List Tok)(f:Bool):(sB N l f).2.2.1 <:+ l:=(a1y _ _ _).trans (qG _ l f)
theorem a1L(N:Nat)(l:List Tok):(sB N l true).2.2.2=true:=by
 unfold sB;rw[OD];exact a1z N l
def qZ(l:List Tok)(f:Bool):List UInt8×List UInt8×List Tok×Bool:=((fN l f).1,fN (fN l f).2.1 (fN l f).2.2)
theorem aV9{N:Nat}(hN:N<=1000000)(h9:100<=N)(l:List Tok)(f:Bool)(h:dW N l):Cu N l f=some (qZ l f):=by
 unfold Cu UH qZ;rw[vP hN l f h,aK,vP hN _ _ (h.gN (qY l f)),aK];rfl
theorem WX(l:List Tok)(f:Bool):(qZ l f).2.2.1 <:+ l:=(qY _ _).trans (qY l f)
theorem aG1(l:List Tok):(qZ l true).2.2.2=true:=by
 unfold qZ;rw[Al];simp only;rw[Al]
def uG(N:Nat)(least:Int)(w:List UInt8)(l:List Tok)(f:Bool):=fA (λr:Int×List UInt8×List Tok×Bool=>(r.1,r.2.1)) (λr:Int×List UInt8×List Tok×Bool=>r.2.2.1) (λr:Int×List UInt8×List Tok×Bool=>r.2.2.2) (sC) least w N l f []
theorem aE6{N:Nat}(hN:N<=1000000)(h9:100<=N)(least:Int)(w:List UInt8)(l:List Tok)(f:Bool)(h:dW N l):Lg N least w l f=some (uG N least w l f):=by
 unfold Lg Ua aE3 uG;have hn:=h.1;have key:=sA (N:=N) (λr:Int×List UInt8×List Tok×Bool=>(r.1,r.2.1)) (λr:Int×List UInt8×List Tok×Bool=>r.2.2.1) (λr:Int×List UInt8×List Tok×Bool=>r.2.2.2) (sC) hN (DG N) (aWd hN) (aGn) (a15) least w 24 (by decide) (λn l f acc=>Lh N n (least,w,l,f,acc) (λy=>some (aB DH (y.2.2,y.1,y.2.1))) nn nn) (λl f acc=>some (aB DH (acc,l,f))) (λ_ _ _ _=>rfl) N l f [] h (by omega) (by show 0+_<=_;omega);generalize fA (λr:Int×List UInt8×List Tok×Bool=>(r.1,r.2.1)) (λr:Int×List UInt8×List Tok×Bool=>r.2.2.1) (λr:Int×List UInt8×List Tok×Bool=>r.2.2.2) (sC) least w N l f []=m at key ⊢;exact aR (λz:O=>z.bind (aG DH)) key
theorem Ws(N:Nat)(least:Int)(w:List UInt8)(l:List Tok)(f:Bool):(uG N least w l f).2.1 <:+ l:=uD (λr:Int×List UInt8×List Tok×Bool=>(r.1,r.2.1)) (λr:Int×List UInt8×List Tok×Bool=>r.2.2.1) (λr:Int×List UInt8×List Tok×Bool=>r.2.2.2) (sC) (aGn) least w N l f []
theorem a1W(N:Nat)(least:Int)(w:List UInt8)(l:List Tok):uG N least w l true=([],l,true):=xO _ _ _ _ _ _ _ _ _
def yC(N:Nat)(least:Int)(w:List UInt8)(l:List Tok)(f:Bool):=fA (λr:Int×List Tok×Bool=>r.1) (λr:Int×List Tok×Bool=>r.2.1) (λr:Int×List Tok×Bool=>r.2.2) (dO) least w N l f []
theorem aVk{N:Nat}(hN:N<=1000000)(h9:100<=N)(least:Int)(w:List UInt8)(l:List Tok)(f:Bool)(h:dW N l):UK N least w l f=some (yC N least w l f):=by
 unfold UK UL aEG yC;have hn:=h.1;have key:=sA (N:=N) (λr:Int×List Tok×Bool=>r.1) (λr:Int×List Tok×Bool=>r.2.1) (λr:Int×List Tok×Bool=>r.2.2) (dO) hN (jX N) (nM hN) (jH) (Dz) least w 8 (by decide) (λn l f acc=>L8 N n (least,w,l,f,acc) (λy=>some (aB Cw (y.2.2,y.1,y.2.1))) nn nn) (λl f acc=>some (aB Cw (acc,l,f))) (λ_ _ _ _=>rfl) N l f [] h (by omega) (by show 0+_<=_;omega);generalize fA (λr:Int×List Tok×Bool=>r.1) (λr:Int×List Tok×Bool=>r.2.1) (λr:Int×List Tok×Bool=>r.2.2) (dO) least w N l f []=m at key ⊢;exact aR (λz:O=>z.bind (aG Cw)) key
theorem aHw(N:Nat)(least:Int)(w:List UInt8)(l:List Tok)(f:Bool):(yC N least w l f).2.1 <:+ l:=uD (λr:Int×List Tok×Bool=>r.1) (λr:Int×List Tok×Bool=>r.2.1) (λr:Int×List Tok×Bool=>r.2.2) (dO) (jH) least w N l f []
theorem a3q(N:Nat)(least:Int)(w:List UInt8)(l:List Tok):yC N least w l true=([],l,true):=xO _ _ _ _ _ _ _ _ _
def BJ(N:Nat)(least:Int)(w:List UInt8)(l:List Tok)(f:Bool):=fA (λr:List UInt8×List Tok×Bool=>r.1) (λr:List UInt8×List Tok×Bool=>r.2.1) (λr:List UInt8×List Tok×Bool=>r.2.2) (fN) least w N l f []
theorem aVr{N:Nat}(hN:N<=1000000)(h9:100<=N)(least:Int)(w:List UInt8)(l:List Tok)(f:Bool)(h:dW N l):UM N least w l f=some (BJ N least w l f):=by
 unfold UM UN aEJ BJ;have hn:=h.1;have key:=sA (N:=N) (λr:List UInt8×List Tok×Bool=>r.1) (λr:List UInt8×List Tok×Bool=>r.2.1) (λr:List UInt8×List Tok×Bool=>r.2.2) (fN) hN (oG N) (vP hN) (qY) (λl=>by rw[Al]) least w 16 (by decide) (λn l f acc=>L9 N n (least,w,l,f,acc) (λy=>some (aB Cy (y.2.2,y.1,y.2.1))) nn nn) (λl f acc=>some (aB Cy (acc,l,f))) (λ_ _ _ _=>rfl) N l f [] h (by omega) (by show 0+_<=_;omega);generalize fA (λr:List UInt8×List Tok×Bool=>r.1) (λr:List UInt8×List Tok×Bool=>r.2.1) (λr:List UInt8×List Tok×Bool=>r.2.2) (fN) least w N l f []=m at key ⊢;exact aR (λz:O=>z.bind (aG Cy)) key
theorem a4R(N:Nat)(least:Int)(w:List UInt8)(l:List Tok)(f:Bool):(BJ N least w l f).2.1 <:+ l:=uD (λr:List UInt8×List Tok×Bool=>r.1) (λr:List UInt8×List Tok×Bool=>r.2.1) (λr:List UInt8×List Tok×Bool=>r.2.2) (fN) (qY) least w N l f []
def uL(N:Nat)(least:Int)(w:List UInt8)(l:List Tok)(f:Bool):=fA (λr:List UInt8×List UInt8×List Tok×Bool=>(r.1,r.2.1)) (λr:List UInt8×List UInt8×List Tok×Bool=>r.2.2.1) (λr:List UInt8×List UInt8×List Tok×Bool=>r.2.2.2) (qZ) least w N l f []
theorem aVd{N:Nat}(hN:N<=1000000)(h9:100<=N)(least:Int)(w:List UInt8)(l:List Tok)(f:Bool)(h:dW N l):UI N least w l f=some (uL N least w l f):=by
 unfold UI UJ aED uL;have hn:=h.1;have key:=sA (N:=N) (λr:List UInt8×List UInt8×List Tok×Bool=>(r.1,r.2.1)) (λr:List UInt8×List UInt8×List Tok×Bool=>r.2.2.1) (λr:List UInt8×List UInt8×List Tok×Bool=>r.2.2.2) (qZ) hN (Cu N) (aV9 hN h9) (WX) (aG1) least w 32 (by decide) (λn l f acc=>L7 N n (least,w,l,f,acc) (λy=>some (aB Cv (y.2.2,y.1,y.2.1))) nn nn) (λl f acc=>some (aB Cv (acc,l,f))) (λ_ _ _ _=>rfl) N l f [] h (by omega) (by show 0+_<=_;omega);generalize fA (λr:List UInt8×List UInt8×List Tok×Bool=>(r.1,r.2.1)) (λr:List UInt8×List UInt8×List Tok×Bool=>r.2.2.1) (λr:List UInt8×List UInt8×List Tok×Bool=>r.2.2.2) (qZ) least w N l f []=m at key ⊢;exact aR (λz:O=>z.bind (aG Cv)) key
theorem a2L(N:Nat)(least:Int)(w:List UInt8)(l:List Tok)(f:Bool):(uL N least w l f).2.1 <:+ l:=uD (λr:List UInt8×List UInt8×List Tok×Bool=>(r.1,r.2.1)) (λr:List UInt8×List UInt8×List Tok×Bool=>r.2.2.1) (λr:List UInt8×List UInt8×List Tok×Bool=>r.2.2.2) (qZ) (WX) least w N l f []
theorem a2M(N:Nat)(least:Int)(w:List UInt8)(l:List Tok):uL N least w l true=([],l,true):=xO _ _ _ _ _ _ _ _ _
def Av(N:Nat)(least:Int)(w:List UInt8)(l:List Tok)(f:Bool):=fA (λr:List (List UInt8)×List Tok×Bool=>r.1) (λr:List (List UInt8)×List Tok×Bool=>r.2.1) (λr:List (List UInt8)×List Tok×Bool=>r.2.2) (qX N) least w N l f []
theorem aWX{N:Nat}(hN:N<=1000000)(h9:100<=N)(least:Int)(w:List UInt8)(l:List Tok)(f:Bool)(h:dW N l):U1 N least w l f=some (Av N least w l f):=by
 unfold U1 U2 aEV Av;have hn:=h.1;have key:=sA (N:=N) (λr:List (List UInt8)×List Tok×Bool=>r.1) (λr:List (List UInt8)×List Tok×Bool=>r.2.1) (λr:List (List UInt8)×List Tok×Bool=>r.2.2) (qX N) hN (DD N) (aWT hN h9) (aGZ N) (a0k N) least w 24 (by decide) (λn l f acc=>Lc N n (least,w,l,f,acc) (λy=>some (aB DE (y.2.2,y.1,y.2.1))) nn nn) (λl f acc=>some (aB DE (acc,l,f))) (λ_ _ _ _=>rfl) N l f [] h (by omega) (by show 0+_<=_;omega);generalize fA (λr:List (List UInt8)×List Tok×Bool=>r.1) (λr:List (List UInt8)×List Tok×Bool=>r.2.1) (λr:List (List UInt8)×List Tok×Bool=>r.2.2) (qX N) least w N l f []=m at key ⊢;exact aR (λz:O=>z.bind (aG DE)) key
theorem a1g(N:Nat)(least:Int)(w:List UInt8)(l:List Tok)(f:Bool):(Av N least w l f).2.1 <:+ l:=uD (λr:List (List UInt8)×List Tok×Bool=>r.1) (λr:List (List UInt8)×List Tok×Bool=>r.2.1) (λr:List (List UInt8)×List Tok×Bool=>r.2.2) (qX N) (aGZ N) least w N l f []
def Aq(N:Nat)(least:Int)(w:List UInt8)(l:List Tok)(f:Bool):=fA (λr:Int×List (Int×Int)×List Tok×Bool=>(r.1,r.2.1)) (λr:Int×List (Int×Int)×List Tok×Bool=>r.2.2.1) (λr:Int×List (Int×Int)×List Tok×Bool=>r.2.2.2) (sB N) least w N l f []
theorem aWL{N:Nat}(hN:N<=1000000)(h9:100<=N)(least:Int)(w:List UInt8)(l:List Tok)(f:Bool)(h:dW N l):UU N least w l f=some (Aq N least w l f):=by
 unfold UU UW aER Aq;have hn:=h.1;have key:=sA (N:=N) (λr:Int×List (Int×Int)×List Tok×Bool=>(r.1,r.2.1)) (λr:Int×List (Int×Int)×List Tok×Bool=>r.2.2.1) (λr:Int×List (Int×Int)×List Tok×Bool=>r.2.2.2) (sB N) hN (DB N) (aWH hN h9) (aGc N) (a1L N) least w 32 (by decide) (λn l f acc=>Lb N n (least,w,l,f,acc) (λy=>some (aB DC (y.2.2,y.1,y.2.1))) nn nn) (λl f acc=>some (aB DC (acc,l,f))) (λ_ _ _ _=>rfl) N l f [] h (by omega) (by show 0+_<=_;omega);generalize fA (λr:Int×List (Int×Int)×List Tok×Bool=>(r.1,r.2.1)) (λr:Int×List (Int×Int)×List Tok×Bool=>r.2.2.1) (λr:Int×List (Int×Int)×List Tok×Bool=>r.2.2.2) (sB N) least w N l f []=m at key ⊢;exact aR (λz:O=>z.bind (aG DC)) key
theorem a1K(N:Nat)(least:Int)(w:List UInt8)(l:List Tok)(f:Bool):(Aq N least w l f).2.1 <:+ l:=uD (λr:Int×List (Int×Int)×List Tok×Bool=>(r.1,r.2.1)) (λr:Int×List (Int×Int)×List Tok×Bool=>r.2.2.1) (λr:Int×List (Int×Int)×List Tok×Bool=>r.2.2.2) (sB N) (aGc N) least w N l f []
def B3(N:Nat)(least:Int)(w:List UInt8)(l:List Tok)(f:Bool):=fA (λr:List (Int×Int×Int)×List Tok×Bool=>r.1) (λr:List (Int×Int×Int)×List Tok×Bool=>r.2.1) (λr:List (Int×Int×Int)×List Tok×Bool=>r.2.2) (rD N) least w N l f []
theorem aSX{N:Nat}(hN:N<=1000000)(h9:100<=N)(least:Int)(w:List UInt8)(l:List Tok)(f:Bool)(h:dW N l):S5 N least w l f=some (B3 N least w l f):=by
 unfold S5 S6 aCr B3;have hn:=h.1;have key:=sA (N:=N) (λr:List (Int×Int×Int)×List Tok×Bool=>r.1) (λr:List (Int×Int×Int)×List Tok×Bool=>r.2.1) (λr:List (Int×Int×Int)×List Tok×Bool=>r.2.2) (rD N) hN (Cb N) (aST hN h9) (aHl N) (a3g N) least w 24 (by decide) (λn l f acc=>Ks N n (least,w,l,f,acc) (λy=>some (aB Cc (y.2.2,y.1,y.2.1))) nn nn) (λl f acc=>some (aB Cc (acc,l,f))) (λ_ _ _ _=>rfl) N l f [] h (by omega) (by show 0+_<=_;omega);generalize fA (λr:List (Int×Int×Int)×List Tok×Bool=>r.1) (λr:List (Int×Int×Int)×List Tok×Bool=>r.2.1) (λr:List (Int×Int×Int)×List Tok×Bool=>r.2.2) (rD N) least w N l f []=m at key ⊢;exact aR (λz:O=>z.bind (aG Cc)) key
theorem aJb(N:Nat)(least:Int)(w:List UInt8)(l:List Tok)(f:Bool):(B3 N least w l f).2.1 <:+ l:=uD (λr:List (Int×Int×Int)×List Tok×Bool=>r.1) (λr:List (Int×Int×Int)×List Tok×Bool=>r.2.1) (λr:List (Int×Int×Int)×List Tok×Bool=>r.2.2) (rD N) (aHl N) least w N l f []
theorem a7n(N:Nat)(least:Int)(w:List UInt8)(l:List Tok):B3 N least w l true=([],l,true):=xO _ _ _ _ _ _ _ _ _
def yK(N:Nat)(l:List Tok)(f:Bool):=B3 N 1 [98,97,114] l f
theorem aVx{N:Nat}(hN:N<=1000000)(h9:100<=N)(l:List Tok)(f:Bool)(h:dW N l):Cz N l f=some (yK N l f):=by
 unfold Cz UP yK;rw[aSX hN h9 1 _ l f h,aK];rfl
def BL(N:Nat)(least:Int)(w:List UInt8)(l:List Tok)(f:Bool):=fA (λr:List (List (Int×Int×Int))×List Tok×Bool=>r.1) (λr:List (List (Int×Int×Int))×List Tok×Bool=>r.2.1) (λr:List (List (Int×Int×Int))×List Tok×Bool=>r.2.2) (yK N) least w N l f []
theorem aWB{N:Nat}(hN:N<=1000000)(h9:100<=N)(least:Int)(w:List UInt8)(l:List Tok)(f:Bool)(h:dW N l):UQ N least w l f=some (BL N least w l f):=by
 unfold UQ UR aEN BL;have hn:=h.1;have key:=sA (N:=N) (λr:List (List (Int×Int×Int))×List Tok×Bool=>r.1) (λr:List (List (Int×Int×Int))×List Tok×Bool=>r.2.1) (λr:List (List (Int×Int×Int))×List Tok×Bool=>r.2.2) (yK N) hN (Cz N) (aVx hN h9) (aJb N 1 _) (λl=>by unfold yK;rw[a7n]) least w 24 (by decide) (λn l f acc=>La N n (least,w,l,f,acc) (λy=>some (aB DA (y.2.2,y.1,y.2.1))) nn nn) (λl f acc=>some (aB DA (acc,l,f))) (λ_ _ _ _=>rfl) N l f [] h (by omega) (by show 0+_<=_;omega);generalize fA (λr:List (List (Int×Int×Int))×List Tok×Bool=>r.1) (λr:List (List (Int×Int×Int))×List Tok×Bool=>r.2.1) (λr:List (List (Int×Int×Int))×List Tok×Bool=>r.2.2) (yK N) least w N l f []=m at key ⊢;exact aR (λz:O=>z.bind (aG DA)) key
theorem a5F(N:Nat)(least:Int)(w:List UInt8)(l:List Tok)(f:Bool):(BL N least w l f).2.1 <:+ l:=uD (λr:List (List (Int×Int×Int))×List Tok×Bool=>r.1) (λr:List (List (Int×Int×Int))×List Tok×Bool=>r.2.1) (λr:List (List (Int×Int×Int))×List Tok×Bool=>r.2.2) (yK N) (aJb N 1 _) least w N l f []
def sQ(l:List Tok)(f:Bool):Int×Int×Int×Int×List Tok×Bool:=((atR oY l f).1,jN (atR oY l f).2.1 (atR oY l f).2.2)
theorem aL5{N:Nat}(hN:N<=1000000)(h9:100<=N)(l:List Tok)(f:Bool)(h:dW N l):By N l f=some (sQ l f):=by
 have hs:=qG oY l f;have hz:=DI hN oY (by show 7<N;omega) l f;unfold oY at hz;unfold By Ow sQ jN gT;rw[hz,aK];unfold oY at hs ⊢;generalize atR _ l f=r at hs ⊢;rw[nM hN _ _ (h.gN hs),aK,nM hN _ _ (h.gN ((jH _ _).trans hs)),aK,nM hN _ _ (h.gN ((jH _ _).trans ((jH _ _).trans hs))),aK];rfl
theorem aIw(l:List Tok)(f:Bool):(sQ l f).2.2.2.2.1 <:+ l:=(Il _ _).trans (qG _ l f)
theorem a6T(l:List Tok):(sQ l true).2.2.2.2.2=true:=by
 unfold sQ;rw[OD];exact aIU l
def yQ(N:Nat)(least:Int)(w:List UInt8)(l:List Tok)(f:Bool):=fA (λr:Int×Int×Int×Int×List Tok×Bool=>(r.1,r.2.1,r.2.2.1,r.2.2.2.1)) (λr:Int×Int×Int×Int×List Tok×Bool=>r.2.2.2.2.1) (λr:Int×Int×Int×Int×List Tok×Bool=>r.2.2.2.2.2) (sQ) least w N l f []
theorem aL9{N:Nat}(hN:N<=1000000)(h9:100<=N)(least:Int)(w:List UInt8)(l:List Tok)(f:Bool)(h:dW N l):Er N least w l f=some (yQ N least w l f):=by
 unfold Er Ox aA2 yQ;have hn:=h.1;have key:=sA (N:=N) (λr:Int×Int×Int×Int×List Tok×Bool=>(r.1,r.2.1,r.2.2.1,r.2.2.2.1)) (λr:Int×Int×Int×Int×List Tok×Bool=>r.2.2.2.2.1) (λr:Int×Int×Int×Int×List Tok×Bool=>r.2.2.2.2.2) (sQ) hN (By N) (aL5 hN h9) (aIw) (a6T) least w 32 (by decide) (λn l f acc=>Jl N n (least,w,l,f,acc) (λy=>some (aB Bz (y.2.2,y.1,y.2.1))) nn nn) (λl f acc=>some (aB Bz (acc,l,f))) (λ_ _ _ _=>rfl) N l f [] h (by omega) (by show 0+_<=_;omega);generalize fA (λr:Int×Int×Int×Int×List Tok×Bool=>(r.1,r.2.1,r.2.2.1,r.2.2.2.1)) (λr:Int×Int×Int×Int×List Tok×Bool=>r.2.2.2.2.1) (λr:Int×Int×Int×Int×List Tok×Bool=>r.2.2.2.2.2) (sQ) least w N l f []=m at key ⊢;exact aR (λz:O=>z.bind (aG Bz)) key
theorem aIv(N:Nat)(least:Int)(w:List UInt8)(l:List Tok)(f:Bool):(yQ N least w l f).2.1 <:+ l:=uD (λr:Int×Int×Int×Int×List Tok×Bool=>(r.1,r.2.1,r.2.2.1,r.2.2.2.1)) (λr:Int×Int×Int×Int×List Tok×Bool=>r.2.2.2.2.1) (λr:Int×Int×Int×Int×List Tok×Bool=>r.2.2.2.2.2) (sQ) (aIw) least w N l f []
theorem a6R(N:Nat)(least:Int)(w:List UInt8)(l:List Tok):yQ N least w l true=([],l,true):=xO _ _ _ _ _ _ _ _ _
end Go.Proofs
/- The reader of formulas. -/
namespace Go.Proofs
open Go Go.Ax Go.Ax.aA
abbrev E7:=Int×Int×List Ex×List Tok×Bool
def yF(s:List UInt8):Bool:=match s with
 |[c]=>uP c
 |_=>false
theorem aTD(N:Nat)(s:List UInt8):Sm N s=some (yF s):=by
 unfold Sm So
 match s with
 |[]=>rfl
 |[c]=>
   rw[show decide (((([c]:List UInt8).length:Nat):Int)=1)=true from rfl,jP,yM,iU];cases h:decide ((97:UInt8)<=c)with
   |false=>rw[kU];show some _=some (uP c);unfold uP;rw[h];rfl
   |true=>rw[jP,yM];show some _=some (uP c);unfold uP;rw[h];rfl
 |c::d::r=>
   rw[show decide ((((c::d::r).length:Nat):Int)=1)=false from bD (by simp;omega),kU,pR,kU];rfl
def oU(E:List Tok->Bool->E7):Nat->List Tok->Bool->List Ex->List Ex×List Tok×Bool
 |0,l,f,acc=>(acc,l,f)
 |j+1,l,f,acc=>match f with
   |true=>oU E j l true acc
   |false=>oU E j (E l false).2.2.2.1 (E l false).2.2.2.2 (acc++[Ex.mk (E l false).1 (E l false).2.1 (E l false).2.2.1])
def kV:Nat->List Tok->Bool->E7
 |0,l,f=>(0,0,[],l,f)
 |n+1,l,f=>match dZ (bH l f)with
   |true=>(0,(dO l f).1,[],(dO l f).2)
   |false=>match yF (bH l f)with
     |true=>(1,aH.wrap (((bH l f).headD 0-97).toNat:Int),[],(gQ true l f).2)
     |false=>((atR gO (bQ [40] l f).1 (bQ [40] l f).2).1,0,(oU (kV n) (n7 (atR gO (bQ [40] l f).1 (bQ [40] l f).2).1).toNat (atR gO (bQ [40] l f).1 (bQ [40] l f).2).2.1 (atR gO (bQ [40] l f).1 (bQ [40] l f).2).2.2 []).1,bQ [41] (oU (kV n) (n7 (atR gO (bQ [40] l f).1 (bQ [40] l f).2).1).toNat (atR gO (bQ [40] l f).1 (bQ [40] l f).2).2.1 (atR gO (bQ [40] l f).1 (bQ [40] l f).2).2.2 []).2.1 (oU (kV n) (n7 (atR gO (bQ [40] l f).1 (bQ [40] l f).2).1).toNat (atR gO (bQ [40] l f).1 (bQ [40] l f).2).2.1 (atR gO (bQ [40] l f).1 (bQ [40] l f).2).2.2 []).2.2)
theorem a4b(E:List Tok->Bool->E7)(j:Nat)(l:List Tok)(acc:List Ex):oU E (j+1) l true acc=oU E j l true acc:=rfl
theorem aIS(E:List Tok->Bool->E7)(j:Nat)(l:List Tok)(acc:List Ex):oU E (j+1) l false acc=oU E j (E l false).2.2.2.1 (E l false).2.2.2.2 (acc++[Ex.mk (E l false).1 (E l false).2.1 (E l false).2.2.1]):=rfl
theorem a4c{E:List Tok->Bool->E7}(hE:∀l f,(E l f).2.2.2.1 <:+ l):∀j l f acc,(oU E j l f acc).2.1 <:+ l:=by
 intro j
 induction j with
 |zero=>intro l f acc;exact Bf _
 |succ j ih=>
   intro l f acc;cases f with
   |true=>exact ih _ _ _
   |false=>exact(ih _ _ _).trans (hE l false)
theorem aIx:∀n l f,(kV n l f).2.2.2.1 <:+ l:=by
 intro n
 induction n with
 |zero=>intro l f;exact Bf _
 |succ n ih=>
   intro l f;unfold kV;cases dZ (bH l f)with
   |true=>exact jH l f
   |false=>
     cases yF (bH l f)with
     |true=>exact BE true l f
     |false=>exact(Dr _ _ _).trans ((a4c ih _ _ _ _).trans ((qG _ _ _).trans (Dr _ l f)))
theorem a4d{R:pX}{N n:Nat}(E:List Tok->Bool->E7)(hR:∀l,dW N l->l.length<n->Ld R (l,false)=some (E l false))(hE:∀l f,(E l f).2.2.2.1 <:+ l)(a:Nat)(ha:a<=100)(c4 c5 c6 c7:Int)(K:List Tok×Bool×Int×Int×Int×Int×List Ex->O):
    ∀(j i:Nat),i+j=a->∀(l:List Tok)(f:Bool)(acc:List Ex),dW N l->(f=true\/l.length<n)->acc.length<=i->∀m,j<m->
    Gy R m ((a:Int),(i:Int),l,f,c4,c5,c6,c7,acc) K nn nn=K ((oU E j l f acc).2.1,(oU E j l f acc).2.2,c4,c5,c6,c7,(oU E j l f acc).1):=by
 intro j
 induction j with
 |zero=>
   intro i hi l f acc hl hn hacc m hm;obtain⟨m,rfl⟩:∃q,m=q+1:=⟨m-1,by omega⟩
   show br (decide ((i:Int)<(a:Int))) _ _=_;rw[bD (by omega),bM];rfl
 |succ j ih=>
   intro i hi l f acc hl hn hacc m hm;obtain⟨m,rfl⟩:∃q,m=q+1:=⟨m-1,by omega⟩
   show U6 R (λv0 v1 v2 v3=>Gy R m ((a:Int),v0,v1,v2,c4,c5,c6,c7,v3) K nn nn) (λy0 y1 y2 y3 y4 y5 y6=>K (y0,y1,y2,y3,y4,y5,y6)) (a:Int) c4 c5 c6 c7 (i:Int) l f acc=_;unfold U6;rw[aX (by omega),bJ,cA (by omega) (by omega),show(i:Int)+1=((i+1:Nat):Int)by omega];cases f with
   |true=>
     rw[a4b,Bj,bM];exact ih (i+1) (by omega) l true acc hl hn (by omega) m (by omega)
   |false=>
     have hlt:l.length<n:=by exact hn.elim (by simp) id
     have h1:(acc++[Ex.mk (E l false).1 (E l false).2.1 (E l false).2.2.1]).length=acc.length+1:=by rw[aL];rfl
     rw[aIS,qS,bJ,hR l hl hlt,aK,eY (rF (by rw[h1];omega) (by rw[h1];omega))];have hle:=(hE l false).length_le;exact ih (i+1) (by omega) _ _ _ (hl.gN (hE l false)) (.inr (by omega)) (by rw[h1];omega) m (by omega)
theorem a8O(op:Int):0<=n7 op/\n7 op<=2:=by
 unfold n7;split
 .omega
 .split <;> omega
theorem aW8{N:Nat}(hN:N<=1000000)(h9:100<=N):∀(n:Nat)(l:List Tok)(f:Bool),dW N l->l.length<n->Ld (DF N n) (l,f)=some (kV n l f):=by
 intro n
 induction n with
 |zero=>intro l f _ h;omega
 |succ n ih=>
   intro l f hl hn;have hN1:(DF N n).1=N:=by cases n <;> rfl
   show aEY (DF N n) l f=_;unfold aEY Le;generalize DF N n=R at hN1 ih;rw[hN1,tQ,aK];simp only;rw[G3 hN _ (Ml hl f),aK];unfold kV;cases hnum:dZ (bH l f)with
   |true=>
     rw[bJ,nM hN l f hl,aK];rfl
   |false=>
     rw[bM,aTD,aK];cases hlt:yF (bH l f)with
     |true=>
       have hp:∃c,bH l f=[c]:=by
        unfold yF at hlt;split at hlt
        .rename_i c hc;exact⟨c,hc⟩
        .cases hlt
       obtain⟨c,hc⟩:=hp;have hnx:gQ true l f=([c],l.drop 1,f):=by
        unfold gQ;rw[hc];rfl
       rw[bJ,AO,aK,hnx,hc];rfl
     |false=>
       rw[bM,Ff,aK];have hz:=DI hN gO (by show 11<N;omega) (bQ [40] l f).1 (bQ [40] l f).2;have hsuf:=(qG gO (bQ [40] l f).1 (bQ [40] l f).2).trans (Dr [40] l f);have hdec:(atR gO (bQ [40] l f).1 (bQ [40] l f).2).2.2=true\/(atR gO (bQ [40] l f).1 (bQ [40] l f).2).2.1.length+1<=l.length:=by
        rcases X7 [40] l f with h|h
        .left
         rw[h,OD]
        .right
         have:=(qG gO (bQ [40] l f).1 (bQ [40] l f).2).length_le;omega
       generalize atR gO (bQ [40] l f).1 (bQ [40] l f).2=r at hz hsuf hdec ⊢;unfold gO at hz;rw[hz,aK,aDH,aK];have har:=a8O r.1;obtain⟨a,hA⟩:∃a:Nat,n7 r.1=(a:Int):=⟨(n7 r.1).toNat,by omega⟩
       rw[hA,kB];unfold aEZ;rw[hN1];have hk:=a4d (R:=R) (N:=N) (n:=n) (kV n) (λl' h1 h2=>ih l' false h1 h2) (aIx n) a (by omega) 0 0 r.1 0 (λy=>cb (eH N [41] y.1 y.2.1) λr21=>some (aB xC (y.2.2.2.2.1,y.2.2.2.2.2.1,y.2.2.2.2.2.2,r21.1,r21.2))) a 0 (by omega) r.2.1 r.2.2 [] (hl.gN hsuf) (hdec.imp id λh=>by omega) (cE _) N (by omega);refine(aR (λz:O=>z.bind (aG xC)) hk).trans ?_;show((cb (eH N [41] _ _) _:O)).bind _=_;rw[Ff,aK];rfl
theorem aW7{N:Nat}(hN:N<=1000000)(h9:100<=N)(l:List Tok)(f:Bool)(hl:dW N l):U5 N l f=some (kV N l f):=by
 unfold U5;exact aW8 hN h9 N l f hl (by have:=hl.1;omega)
end Go.Proofs
/- The reader of blocks. -/
namespace Go.Proofs
open Go Go.Ax Go.Ax.aA
def uF:List (List UInt8):=[[43],[45],[42],[47]]
def Mp:List Int:=[3,4,5,6]
def XN(n:Int):Int:=match decide (0<=n)with|true=>(Mp[n.toNat]?).getD 0|false=>0
def xM(N:Nat)(l:List Tok)(f:Bool):Int×List Int×List Tok×Bool:=(XN (atR uF l f).1,Dy N (atR uF l f).2.1 (atR uF l f).2.2)
theorem a5C{α:Type}(L:List α)(q:α->Bool):gK L q<L.length:=by
 unfold gK;cases h:L.findIdx? q with
 |none=>show(-1:Int)<_;omega
 |some j=>
   obtain⟨hj,_⟩:=a9R.1 h;show(j:Int)<_;omega
theorem aW3{N:Nat}(hN:N<=1000000)(h9:100<=N)(l:List Tok)(f:Bool)(h:dW N l):U3 N l f=some (xM N l f):=by
 have hz:=DI hN uF (by show 4<N;omega) l f;have hs:=qG uF l f;have hlt:(atR uF l f).1<4:=a5C uF _;unfold U3 U4 xM;unfold uF at hz hs hlt ⊢;rw[hz,aK];generalize atR _ l f=r at hs hlt ⊢;rw[aSv hN _ _ (h.gN hs),aK];unfold XN;cases h0:decide (0<=r.1)with
 |false=>rw[bM];rfl
 |true=>
   have h0:=bK h0;have:Mp[r.1.toNat]?=some ((Mp[r.1.toNat]?).getD 0):=by
    rw[dC (by show r.1.toNat<4;omega)];rfl
   rw[bJ];refine(aR (λz:O=>z.bind (aG Gw)) (iP (l:=Mp) h0 this _)).trans ?_;rfl
theorem a0o(N:Nat)(l:List Tok)(f:Bool):(xM N l f).2.2.1 <:+ l:=(a4t _ _ _).trans (qG _ l f)
abbrev Ea:=Int×List (Int×List UInt8)×Int×Int×List Ex×Int×List Int×List aN×Int×Int×List (Int×List (Int×Int))×List (List (List (Int×Int×Int)))×List (List UInt8)×List Tok×Bool
def j7:List (List UInt8):=[[116,101,120,116],[102,111,114,109,117,108,97],[99,111,108,117,109,110],[101,110,116,114,105,101,115],[100,114,97,119,105,110,103],[109,117,115,105,99],[108,105,115,116,105,110,103]]
def rJ(N:Nat)(k:Int)(l:List Tok)(f:Bool):Ea:=
 if k=0 then(k,(uG N 1 [114,117,110] l f).1,0,0,[],0,[],[],0,0,[],[],[],(uG N 1 [114,117,110] l f).2)
 else if k=1 then(k,[],(kV N l f).1,(kV N l f).2.1,(kV N l f).2.2.1,0,[],[],0,0,[],[],[],(kV N l f).2.2.2)
 else if k=2 then(k,[],0,0,[],(xM N l f).1,(xM N l f).2.1,[],0,0,[],[],[],(xM N l f).2.2)
 else if k=3 then(k,[],0,0,[],0,[],(Av N 1 [114,111,119] l f).1,0,0,[],[],[],(Av N 1 [114,111,119] l f).2)
 else if k=4 then(k,[],0,0,[],0,[],[],(gT l f).1,(gT l f).2.1,(Aq N 1 [115,104,97,112,101] (gT l f).2.2.1 (gT l f).2.2.2).1,[],[],(Aq N 1 [115,104,97,112,101] (gT l f).2.2.1 (gT l f).2.2.2).2)
 else if k=5 then(k,[],0,0,[],0,[],[],0,0,[],(BL N 1 [104,97,110,100] l f).1,[],(BL N 1 [104,97,110,100] l f).2)
 else if k=6 then(k,[],0,0,[],0,[],[],0,0,[],[],(BJ N 1 [108,105,110,101] l f).1,(BJ N 1 [108,105,110,101] l f).2)
 else(k,[],0,0,[],0,[],[],0,0,[],[],[],l,f)
def lN(N:Nat)(l:List Tok)(f:Bool):Ea:=rJ N (atR j7 l f).1 (atR j7 l f).2.1 (atR j7 l f).2.2
theorem aLf{N:Nat}(hN:N<=1000000)(h9:100<=N)(l:List Tok)(f:Bool)(h:dW N l):Et N l f=some (lN N l f):=by
 have hz:=DI hN j7 (by show 7<N;omega) l f;have hs:=qG j7 l f;unfold Et Oy lN;unfold j7 at hz hs ⊢;rw[hz,aK];generalize atR _ l f=r at hs ⊢;obtain⟨k,m,e⟩:=r;have hm:=h.gN hs;simp only at hm ⊢;unfold rJ;by_cases h0:k=0
 .rw[aX h0,bJ,aE6 hN h9 _ _ _ _ hm,aK,aI h0];rfl
 rw[bD h0,bM,aE h0];by_cases h1:k=1
 .rw[aX h1,bJ,aW7 hN h9 _ _ hm,aK,aI h1];rfl
 rw[bD h1,bM,aE h1];by_cases h2:k=2
 .rw[aX h2,bJ,aW3 hN h9 _ _ hm,aK,aI h2];rfl
 rw[bD h2,bM,aE h2];by_cases h3:k=3
 .rw[aX h3,bJ,aWX hN h9 _ _ _ _ hm,aK,aI h3];rfl
 rw[bD h3,bM,aE h3];by_cases h4:k=4
 .rw[aX h4,bJ,nM hN _ _ hm,aK,nM hN _ _ (hm.gN (jH _ _)),aK,aWL hN h9 _ _ _ _ (hm.gN ((jH _ _).trans (jH _ _))),aK,aI h4];rfl
 rw[bD h4,bM,aE h4];by_cases h5:k=5
 .rw[aX h5,bJ,aWB hN h9 _ _ _ _ hm,aK,aI h5];rfl
 rw[bD h5,bM,aE h5];by_cases h6:k=6
 .rw[aX h6,bJ,aVr hN h9 _ _ _ _ hm,aK,aI h6];rfl
 rw[bD h6,bM,aE h6];rfl
end Go.Proofs
/- The reader of questions. -/
namespace Go.Proofs
open Go Go.Ax Go.Ax.aA
theorem aJ3(N:Nat)(k:Int)(l:List Tok)(f:Bool):(rJ N k l f).2.2.2.2.2.2.2.2.2.2.2.2.2.1 <:+ l:=by
 unfold rJ;split
 .exact Ws N 1 _ l f
 split
 .exact aIx N l f
 split
 .exact a0o N l f
 split
 .exact a1g N 1 _ l f
 split
 .exact(a1K N 1 _ _ _).trans (BK l f)
 split
 .exact a5F N 1 _ l f
 split
 .exact a4R N 1 _ l f
 .exact Bf _
theorem a7e(N:Nat)(l:List Tok)(f:Bool):(lN N l f).2.2.2.2.2.2.2.2.2.2.2.2.2.1 <:+ l:=(aJ3 N _ _ _).trans (qG _ l f)
abbrev qJ:=Int×List (Int×List UInt8)×List (List UInt8)×List Int×List UInt8×Int×List (List UInt8)×List Tok×Bool
def rB(N:Nat)(l:List Tok)(f:Bool):qJ:=
 let a:=atR sG l f
 let p:=dO a.2.1 a.2.2
 let x:=fN p.2.1 p.2.2
 let n:=yC N 0 [110,101,101,100] x.2.1 x.2.2
 let r:=uG N 1 [114,117,110] n.2.1 n.2.2
 let o:=uL N 0 [111,112,116,105,111,110] r.2.1 r.2.2
 (a.1,r.1,o.1.map fF,n.1,x.1,p.1,o.1.map dB,o.2)
theorem a1u{N:Nat}(o:List (List UInt8×List UInt8))(ho:o.length<=1000000)(l:List Tok)(f:Bool)(c5:Int)(c6:List UInt8)(c7 c8:Int)(c9:List (Int×List UInt8))(c10:List Int)(c11:List UInt8)(c12:Int)
    (K:List Tok×Bool×Int×List UInt8×Int×Int×List (Int×List UInt8)×List Int×List UInt8×Int×List (List UInt8)×List (List UInt8)->O):
    ∀(r p:List (List UInt8×List UInt8))(A B:List (List UInt8)),p++r=o->A=p.map fF->B=p.map dB->∀m,r.length<m->
    En N m (o,((o.length:Nat):Int),((p.length:Nat):Int),l,f,c5,c6,c7,c8,c9,c10,c11,c12,A,B) K nn nn=K (l,f,c5,c6,c7,c8,c9,c10,c11,c12,o.map fF,o.map dB):=by
 intro r
 induction r with
 |nil=>
   intro p A B hp hA hB m hm;obtain⟨m,rfl⟩:∃q,m=q+1:=⟨m-1,by simp at hm;omega⟩
   rw[e9]at hp;subst hp hA hB;show br (decide (((p.length:Nat):Int)<((p.length:Nat):Int))) _ _=_;rw[bD (by omega),bM];rfl
 |cons y r ih=>
   intro p A B hp hA hB m hm;obtain⟨m,rfl⟩:∃q,m=q+1:=⟨m-1,by simp at hm;omega⟩
   have hlen:o.length=p.length+(r.length+1):=by rw[<-hp];simp
   have hy:o[p.length]?=some y:=by rw[<-hp,dN (cE _),kZ];rfl
   show Ot N (λ(v0:Int)(v1 v2:List (List UInt8))=>En N m (o,((o.length:Nat):Int),v0,l,f,c5,c6,c7,c8,c9,c10,c11,c12,v1,v2) K nn nn) (λy0 y1 y2 y3 y4 y5 y6 y7 y8 y9 y10 y11=>K (y0,y1,y2,y3,y4,y5,y6,y7,y8,y9,y10,y11)) o ((o.length:Nat):Int) l f c5 c6 c7 c8 c9 c10 c11 c12 ((p.length:Nat):Int) A B=_;unfold Ot;have h1:(A++[y.1]).length=p.length+1:=by rw[hA];simp
   have h2:(B++[y.2]).length=p.length+1:=by rw[hB];simp
   rw[aX (by omega),bJ,iP (y:=y) (by omega) (by rw[kB];exact hy),eY (rF (by rw[h1];omega) (by rw[h1];omega)),eY (rF (by rw[h2];omega) (by rw[h2];omega)),cA (by omega) (by omega)];have:=ih (p++[y]) (A++[y.1]) (B++[y.2]) (by rw[bP];exact hp) (by rw[hA];simp) (by rw[hB];simp) m (by simp at hm;omega);rw[aL,show((p.length+[y].length:Nat):Int)=(p.length:Int)+1 by simp]at this;exact this
theorem a1E{ρ β:Type}(g:ρ->β)(t:ρ->List Tok)(b:ρ->Bool)(P:List Tok->Bool->ρ)(hs:∀l f,t (P l f) <:+ l)(hb:∀l,b (P l true)=true)(least:Int)(w:List UInt8):∀n l f acc,(fA g t b P least w n l f acc).1.length<=acc.length+l.length+1:=by
 intro n
 induction n with
 |zero=>intro l f acc;show acc.length<=_;omega
 |succ n ih=>
   intro l f acc;unfold fA;cases hc:(!f&&(decide ((acc.length:Int)<least)||decide (bH l f=w)))with
   |false=>show acc.length<=_;omega
   |true=>
     simp only;rcases X7 w l f with h|h
     .rw[h,hb,xO g t b P least w n]
      show(acc++[_]).length<=_;rw[aL];show acc.length+1<=_;omega
     .have h1:=ih (t (P (bQ w l f).1 (bQ w l f).2)) (b (P (bQ w l f).1 (bQ w l f).2)) (acc++[g (P (bQ w l f).1 (bQ w l f).2)])
      have h2:=(hs (bQ w l f).1 (bQ w l f).2).length_le;rw[aL]at h1;have h3:[g (P (bQ w l f).1 (bQ w l f).2)].length=1:=rfl;omega
end Go.Proofs
/- The reader of questions. -/
namespace Go.Proofs
open Go Go.Ax Go.Ax.aA
theorem a2K(N:Nat)(least:Int)(w:List UInt8)(l:List Tok)(f:Bool):(uL N least w l f).1.length<=l.length+1:=by
 have:=a1E (λr:List UInt8×List UInt8×List Tok×Bool=>(r.1,r.2.1)) (λr:List UInt8×List UInt8×List Tok×Bool=>r.2.2.1) (λr:List UInt8×List UInt8×List Tok×Bool=>r.2.2.2) qZ WX aG1 least w N l f [];unfold uL;simpa using this
theorem aLU{N:Nat}(hN:N<=1000000)(h9:100<=N)(l:List Tok)(f:Bool)(h:dW N l):Bw N l f=some (rB N l f):=by
 have hz:=DI hN sG (by show 3<N;omega) l f;have hs:=qG sG l f;unfold Bw Oq rB;unfold sG at hz hs ⊢;rw[hz,aK];generalize atR _ l f=a at hs ⊢;have s1:=h.gN hs;rw[nM hN _ _ s1,aK];have s2:=s1.gN (jH a.2.1 a.2.2);simp only;generalize dO a.2.1 a.2.2=p at s2 ⊢;rw[vP hN _ _ s2,aK];have s3:=s2.gN (qY p.2.1 p.2.2);generalize fN p.2.1 p.2.2=x at s3 ⊢;rw[aVk hN h9 _ _ _ _ s3,aK];have s4:=s3.gN (aHw N 0 [110,101,101,100] x.2.1 x.2.2);generalize yC N 0 [110,101,101,100] x.2.1 x.2.2=n at s4 ⊢;rw[aE6 hN h9 _ _ _ _ s4,aK];have s5:=s4.gN (Ws N 1 [114,117,110] n.2.1 n.2.2);generalize uG N 1 [114,117,110] n.2.1 n.2.2=r at s5 ⊢;rw[aVd hN h9 _ _ _ _ s5,aK];have ho:=a2K N 0 [111,112,116,105,111,110] r.2.1 r.2.2;generalize uL N 0 [111,112,116,105,111,110] r.2.1 r.2.2=o at ho ⊢;have hl5:=s5.1;unfold aAU;have key:=a1u (N:=N) o.1 (by omega) o.2.1 o.2.2 0 [] 0 a.1 r.1 n.1 x.1 p.1 (λy=>some (aB Em (y.2.2.2.2.2.1,y.2.2.2.2.2.2.1,y.2.2.2.2.2.2.2.2.2.2.1,y.2.2.2.2.2.2.2.1,y.2.2.2.2.2.2.2.2.1,y.2.2.2.2.2.2.2.2.2.1,y.2.2.2.2.2.2.2.2.2.2.2,y.1,y.2.1))) o.1 [] [] [] rfl rfl rfl N (by omega);refine(aR (λz:O=>z.bind (aG Em)) key).trans ?_;rfl
theorem aHE(N:Nat)(l:List Tok)(f:Bool):(rB N l f).2.2.2.2.2.2.2.1 <:+ l:=by
 unfold rB;exact(a2L N 0 _ _ _).trans ((Ws N 1 _ _ _).trans ((aHw N 0 _ _ _).trans ((qY _ _).trans ((jH _ _).trans (qG _ l f)))))
theorem a1v(N:Nat)(l:List Tok):(rB N l true).2.2.2.2.2.2.2.2=true:=by
 unfold rB;simp only[OD,Dz,Al,a3q,a1W,a2M]
end Go.Proofs
/- The reader of items. -/
namespace Go.Proofs
open Go Go.Ax Go.Ax.aA
def B6(N:Nat)(least:Int)(w:List UInt8)(l:List Tok)(f:Bool):=fA (λr:qJ=>(r.1,r.2.1,r.2.2.1,r.2.2.2.1,r.2.2.2.2.1,r.2.2.2.2.2.1,r.2.2.2.2.2.2.1)) (λr:qJ=>r.2.2.2.2.2.2.2.1) (λr:qJ=>r.2.2.2.2.2.2.2.2) (rB N) least w N l f []
theorem aLZ{N:Nat}(hN:N<=1000000)(h9:100<=N)(least:Int)(w:List UInt8)(l:List Tok)(f:Bool)(h:dW N l):Eo N least w l f=some (B6 N least w l f):=by
 unfold Eo Ou aAY B6;have hn:=h.1;have key:=sA (N:=N) (λr:qJ=>(r.1,r.2.1,r.2.2.1,r.2.2.2.1,r.2.2.2.2.1,r.2.2.2.2.2.1,r.2.2.2.2.2.2.1)) (λr:qJ=>r.2.2.2.2.2.2.2.1) (λr:qJ=>r.2.2.2.2.2.2.2.2) (rB N) hN (Bw N) (aLU hN h9) (aHE N) (a1v N) least w 128 (by decide) (λn l f acc=>Jk N n (least,w,l,f,acc) (λy=>some (aB Bx (y.2.2,y.1,y.2.1))) nn nn) (λl f acc=>some (aB Bx (acc,l,f))) (λ_ _ _ _=>rfl) N l f [] h (by omega) (by show 0+_<=_;omega);generalize fA (λr:qJ=>(r.1,r.2.1,r.2.2.1,r.2.2.2.1,r.2.2.2.2.1,r.2.2.2.2.2.1,r.2.2.2.2.2.2.1)) (λr:qJ=>r.2.2.2.2.2.2.2.1) (λr:qJ=>r.2.2.2.2.2.2.2.2) (rB N) least w N l f []=m at key ⊢;exact aR (λz:O=>z.bind (aG Bx)) key
theorem a8J(N:Nat)(least:Int)(w:List UInt8)(l:List Tok)(f:Bool):(B6 N least w l f).2.1 <:+ l:=uD (λr:qJ=>(r.1,r.2.1,r.2.2.1,r.2.2.2.1,r.2.2.2.2.1,r.2.2.2.2.2.1,r.2.2.2.2.2.2.1)) (λr:qJ=>r.2.2.2.2.2.2.2.1) (λr:qJ=>r.2.2.2.2.2.2.2.2) (rB N) (aHE N) least w N l f []
theorem a8K(N:Nat)(least:Int)(w:List UInt8)(l:List Tok):B6 N least w l true=([],l,true):=xO _ _ _ _ _ _ _ _ _
theorem aLn{N:Nat}(hN:N<=1000000)(L:List (List UInt8))(s:List UInt8)(hl:L.length<N):Jn N L s=some (decide (0<=gK L λy=>decide (s=y))):=by
 unfold Jn PB;rw[aEc hN L s hl,aK];rfl
def zD(r:Ea):fI:=(r.1,r.2.1,Ex.mk r.2.2.1 r.2.2.2.1 r.2.2.2.2.1,(r.2.2.2.2.2.1,r.2.2.2.2.2.2.1),r.2.2.2.2.2.2.2.1,(r.2.2.2.2.2.2.2.2.1,r.2.2.2.2.2.2.2.2.2.1,r.2.2.2.2.2.2.2.2.2.2.1),r.2.2.2.2.2.2.2.2.2.2.2.1,r.2.2.2.2.2.2.2.2.2.2.2.2.1)
def rK(r:Ea):List Tok:=r.2.2.2.2.2.2.2.2.2.2.2.2.2.1
def zF(r:Ea):Bool:=r.2.2.2.2.2.2.2.2.2.2.2.2.2.2
def nU(s:List UInt8):Bool:=decide (0<=gK j7 λy=>decide (s=y))
theorem a7h(N:Nat){l:List Tok}(h:nU (bH l false)=true):(rK (lN N l false)).length+1<=l.length:=by
 have hp:bH l false≠[]:=by
  intro e;rw[e]at h;exact absurd h (by decide)
 have h1:=(IY hp).2;have h2:=(aJ3 N (atR j7 l false).1 (atR j7 l false).2.1 (atR j7 l false).2.2).length_le;have h3:(atR j7 l false).2.1=l.drop 1:=by
  unfold atR gQ;unfold nU at h;rw[h,aX hp,bD hp];rfl
 rw[h3]at h2;have:(rK (lN N l false)).length<=(l.drop 1).length:=by
  unfold lN rK;rw[h3];exact h2
 rw[lI]at this;omega
theorem aJ5(N:Nat)(l:List Tok)(f:Bool):rK (lN N l f) <:+ l:=a7e N l f
def ET(N:Nat)(l:List Tok)(f:Bool):=iZ zD rK zF (lN N) nU N l f []
theorem aJ4(N:Nat)(l:List Tok)(f:Bool):(ET N l f).2.1 <:+ l:=Ic zD rK zF (lN N) nU (aJ5 N) N l f []
theorem a7d(N:Nat)(l:List Tok):ET N l true=([],l,true):=NL _ _ _ _ _ _ _ _
def sO(N:Nat)(l:List Tok)(f:Bool):List UInt8×List fI×List kD×List jK×List Tok×Bool:=
 let n:=BH l f
 let b:=ET N n.2.1 n.2.2
 let a:=yQ N 0 [102,97,99,116] b.2.1 b.2.2
 let q:=B6 N 0 [97,115,107] a.2.1 a.2.2
 (n.1,b.1,a.1,q.1,q.2)
theorem aOF{N:Nat}(hN:N<=1000000)(h9:100<=N)(l:List Tok)(f:Bool)(h:dW N l):CH N l f=some (sO N l f):=by
 unfold CH QL aBW sO;rw[aLr hN l f h,aK];have s1:dW N (BH l f).2.1:=h.gN (BE _ l f);generalize BH l f=n at s1 ⊢;have hn:=s1.1;have key:=Ie (N:=N) zD rK zF (lN N) nU hN (Et N) (Jn N j7) (aLf hN h9) (λs _=>aLn hN j7 s (by show 7<N;omega)) (aJ5 N) (λ_ h=>a7h N h) 216 (by decide)
  (λm l f acc=>K0 N m (n.1,l,f,[],n.1,acc) (λy=>cb (Er N (0:Int) [102,97,99,116] y.1 y.2.1) λr23=>cb (Eo N (0:Int) [97,115,107] r23.2.1 r23.2.2) λr24=>some (aB CI (y.2.2.2.1,y.2.2.2.2,r23.1,r24.1,r24.2.1,r24.2.2))) nn nn)
  (λl f acc=>cb (Er N (0:Int) [102,97,99,116] l f) λr23=>cb (Eo N (0:Int) [97,115,107] r23.2.1 r23.2.2) λr24=>some (aB CI (n.1,acc,r23.1,r24.1,r24.2.1,r24.2.2))) (λ_ _ _ _=>rfl) N n.2.1 n.2.2 [] s1 (by omega) (by show 0+_<=_;omega)
 have s2:=s1.gN (aJ4 N n.2.1 n.2.2);have hb:iZ zD rK zF (lN N) nU N n.2.1 n.2.2 []=ET N n.2.1 n.2.2:=rfl;rw[hb]at key;simp only;generalize ET N n.2.1 n.2.2=b at s2 key ⊢;rw[aL9 hN h9 _ _ _ _ s2,aK]at key;have s3:=s2.gN (aIv N 0 [102,97,99,116] b.2.1 b.2.2);generalize yQ N 0 [102,97,99,116] b.2.1 b.2.2=a at s3 key ⊢;rw[aLZ hN h9 _ _ _ _ s3,aK]at key;exact aR (λz:O=>z.bind (aG CI)) key
theorem a4n(N:Nat)(l:List Tok)(f:Bool):(sO N l f).2.2.2.2.1 <:+ l:=(a8J N 0 _ _ _).trans ((aIv N 0 _ _ _).trans ((aJ4 N _ _).trans (BE _ l f)))
theorem a4q(N:Nat)(l:List Tok):(sO N l true).2.2.2.2.2=true:=by
 unfold sO BH;simp only[Mu,a7d,a6R,a8K]
def Ik(N:Nat)(least:Int)(w:List UInt8)(l:List Tok)(f:Bool):=fA (λr:List UInt8×List fI×List kD×List jK×List Tok×Bool=>(r.1,r.2.1,r.2.2.1,r.2.2.2.1)) (λr:List UInt8×List fI×List kD×List jK×List Tok×Bool=>r.2.2.2.2.1) (λr:List UInt8×List fI×List kD×List jK×List Tok×Bool=>r.2.2.2.2.2) (sO N) least w N l f []
theorem aB8{N:Nat}(hN:N<=1000000)(h9:100<=N)(least:Int)(w:List UInt8)(l:List Tok)(f:Bool)(h:dW N l):QQ N least w l f=some (Ik N least w l f):=by
 unfold QQ QR aB5 Ik;have hn:=h.1;have key:=sA (N:=N) (λr:List UInt8×List fI×List kD×List jK×List Tok×Bool=>(r.1,r.2.1,r.2.2.1,r.2.2.2.1)) (λr:List UInt8×List fI×List kD×List jK×List Tok×Bool=>r.2.2.2.2.1) (λr:List UInt8×List fI×List kD×List jK×List Tok×Bool=>r.2.2.2.2.2) (sO N) hN (CH N) (aOF hN h9) (a4n N) (a4q N) least w 88 (by decide) (λn l f acc=>K1 N n (least,w,l,f,acc) (λy=>some (aB CJ (y.2.2,y.1,y.2.1))) nn nn) (λl f acc=>some (aB CJ (acc,l,f))) (λ_ _ _ _=>rfl) N l f [] h (by omega) (by show 0+_<=_;omega);generalize fA (λr:List UInt8×List fI×List kD×List jK×List Tok×Bool=>(r.1,r.2.1,r.2.2.1,r.2.2.2.1)) (λr:List UInt8×List fI×List kD×List jK×List Tok×Bool=>r.2.2.2.2.1) (λr:List UInt8×List fI×List kD×List jK×List Tok×Bool=>r.2.2.2.2.2) (sO N) least w N l f []=m at key ⊢;exact aR (λz:O=>z.bind (aG CJ)) key
theorem a4m(N:Nat)(least:Int)(w:List UInt8)(l:List Tok):Ik N least w l true=([],l,true):=xO _ _ _ _ _ _ _ _ _
end Go.Proofs
/- Readers at what was written: texts, words. -/
namespace Go.Proofs
open Go Go.Ax Go.Ax.aA
theorem jY(t:Tok)(l:List Tok):bH (t::l) false=t.1:=rfl
theorem Dn{t:Tok}(l:List Tok)(h:t.1≠[]):gQ true (t::l) false=(t.1,l,false):=by
 unfold gQ;rw[jY,bD h];rfl
theorem NI{t:Tok}{w:List UInt8}(l:List Tok)(hw:w≠[])(h:t.1=w):bQ w (t::l) false=(l,false):=by
 unfold bQ;rw[jY,aX h,Dn l (by rw[h];exact hw)]
theorem aHD(s:List UInt8):quo s≠[]:=by unfold quo;simp
theorem Am{t:Tok}{s:List UInt8}(l:List Tok)(h:t.1=quo s):fN (t::l) false=(s,l,false):=by
 have hp:preB (quo s) [34]=true:=by
  unfold preB quo;simp
 unfold fN;rw[jY,h,hp,Dn l (by rw[h];exact aHD s),h,bD (aHD s)];show(oH (cT s++[34]),l,false)=_;rw[aGR]
theorem aJh{t:Tok}{L:List (List UInt8)}{n:Nat}{w:List UInt8}(l:List Tok)(h:t.1=w)(hw:w≠[])(hn:L[n]?=some w)(hf:∀j,j<n->∀v,L[j]?=some v->v≠w):atR L (t::l) false=((n:Int),l,false):=by
 have hi:gK L (λy=>decide (bH (t::l) false=y))=(n:Int):=by
  unfold gK;have hlt:n<L.length:=by
   rcases Bd n L.length with h'|h'
   .exact h'
   .rw[oC h']at hn;cases hn
  have:L.findIdx? (λy=>decide (bH (t::l) false=y))=some n:=by
   rw[a9R];refine⟨hlt,?_,?_⟩
   .rw[jY,h]
    rw[dC hlt]at hn;cases hn;exact aX rfl
   .intro j hj
    rw[jY,h];have:=hf j hj _ (dC (by omega));simpa using λe=>this e.symm
  rw[this]
 unfold atR;rw[hi,jY,h,aX (by omega),aX hw,Bool.and_true,Dn l (by rw[h];exact hw)]
end Go.Proofs
/- Readers at what was written: numbers. -/
namespace Go.Proofs
open Go Go.Ax Go.Ax.aA
theorem aIi:∀(l:List UInt8)(a m d:Nat)(c:UInt8),Lib.decFrom a l=some m->Lib.digitVal c=some d->Lib.decFrom a (l++[c])=some (m*10+d):=by
 intro l
 induction l with
 |nil=>
   intro a m d c h hd;cases h;show(match Lib.digitVal c with|some d=>Lib.decFrom (a*10+d) []|none=>none)=_;rw[hd];rfl
 |cons b l ih=>
   intro a m d c h hd;show(match Lib.digitVal b with|some d=>Lib.decFrom (a*10+d) (l++[c])|none=>none)=_;unfold Lib.decFrom at h;cases hb:Lib.digitVal b with
   |none=>rw[hb]at h;cases h
   |some e=>rw[hb]at h;exact ih _ _ _ _ h hd
theorem aJH{d:Nat}(h:d<10):Lib.digitVal (s7 (48+d))=some d:=by
 have:d=0\/d=1\/d=2\/d=3\/d=4\/d=5\/d=6\/d=7\/d=8\/d=9:=by omega
 rcases this with rfl|rfl|rfl|rfl|rfl|rfl|rfl|rfl|rfl|rfl <;> decide
theorem a6G(u:Nat):Lib.decFrom 0 (Lib.decDigits u)=some u:=by
 induction u using vB with
 |_ u ih=>
   by_cases h:u<10
   .rw[Lib.decDigits_one h]
    have:=aIi [] 0 0 u _ rfl (aJH h);simpa using this
   .rw[Lib.decDigits,dif_neg h]
    have:=aIi _ 0 _ (u%10) _ (ih (u / 10) (by omega)) (aJH (by omega));rw[this];exact aR some (by omega)
theorem a3v{u k:Nat}(hk:1<=k)(h:u<10^k):Lib.nDigits u<=k:=by
 induction k generalizing u with
 |zero=>omega
 |succ k ih=>
   by_cases h0:u<10
   .rw[Lib.nDigits_small h0];omega
   .rw[Lib.nDigits_big h0]
    cases k with
    |zero=>simp at h;omega
    |succ k=>
      have:=ih (u:=u / 10) (by omega) (by rw[Nat.pow_succ]at h;omega);omega
theorem aJN(u:Nat):∀c∈Lib.decDigits u,yY.contains c=true:=by
 induction u using vB with
 |_ u ih=>
   have one:∀d:Nat,d<10->yY.contains (s7 (48+d))=true:=by
    intro d hd;have:d=0\/d=1\/d=2\/d=3\/d=4\/d=5\/d=6\/d=7\/d=8\/d=9:=by omega
    rcases this with rfl|rfl|rfl|rfl|rfl|rfl|rfl|rfl|rfl|rfl <;> decide
   by_cases h:u<10
   .rw[Lib.decDigits_one h];intro c hc;rw[nH]at hc;subst hc;exact one u h
   .rw[Lib.decDigits,dif_neg h]
    intro c hc;rw[wR,nH]at hc;rcases hc with hc|rfl
    .exact ih (u / 10) (by omega) c hc
    .exact one _ (by omega)
theorem a0b(u:Nat):Lib.trimS (Lib.decDigits u) yY=[]:=by
 unfold Lib.trimS Lib.trimRightS Lib.trimLeftS;have:(Lib.decDigits u).reverse.dropWhile (yY.contains ·)=[]:=by
  have key:∀l:List UInt8,(∀c∈l,yY.contains c=true)->l.dropWhile (yY.contains ·)=[]:=by
   intro l
   induction l with
   |nil=>intro _;rfl
   |cons c l ih=>
     intro h;rw[List.dropWhile_cons,h c iB];exact ih λd hd=>h d (fR _ hd)
  exact key _ λc hc=>aJN u c (List.mem_reverse.1 hc)
 rw[this];rfl
theorem a3d{u:Nat}(h:u<=999999):dZ (Lib.decDigits u)=true/\pV (Lib.decDigits u)=(u:Int):=by
 have hne:=aJM u;have hlen:(Lib.decDigits u).length<=6:=by rw[Lib.decDigits_length];exact a3v (by omega) (by omega)
 have hd:=aJN u;have hf:=a6G u;have ht:=a0b u;cases hc:Lib.decDigits u with
 |nil=>exact absurd hc hne
 |cons c r=>
   rw[hc]at hlen hd hf ht;have hcd:=hd c iB;have h45:c≠45:=by rintro rfl;exact absurd hcd (by decide)
   have h43:c≠43:=by rintro rfl;exact absurd hcd (by decide)
   have hu:lW (c::r)=c::r:=by
    unfold lW preB;have:decide ((c::r).take ([45]:List UInt8).length=[45])=false:=bD (by simp[h45]);rw[this,aAB]
   refine⟨?_,?_⟩
   .unfold dZ
    rw[hu,ht,aX (by simp),aX (by omega)];rfl
   .unfold pV
    rw[Lib.atoiAll_short _ (by omega)];have:Lib.atoi (c::r)=some (u:Int):=by
     have e1:(c == 45)=false:=by simpa using h45
     have e2:(c == 43)=false:=by simpa using h43
     show(if(c == 45)=true then _ else if(c == 43)=true then _ else(Lib.decNat (c::r)).map λm:Nat=>(m:Int))=_;rw[e1,e2];show(Lib.decFrom 0 (c::r)).map (λm:Nat=>(m:Int))=_;rw[hf];rfl
    rw[this];rfl
end Go.Proofs
/- Readers at what was written: a number, lists. -/
namespace Go.Proofs
open Go Go.Ax Go.Ax.aA
theorem I7{n:Int}(h0:-1<=n)(h1:n<=999999):dZ (Lib.itoa n)=true/\pV (Lib.itoa n)=n:=by
 by_cases h:n = -1
 .subst h
  refine⟨?_,?_⟩
  .decide +kernel
  .decide +kernel
 .have hi:Lib.itoa n=Lib.decDigits n.toNat:=by unfold Lib.itoa;rw[aE (by omega)]
  have:=a3d (u:=n.toNat) (by omega);rw[hi];exact⟨this.1,by rw[this.2];omega⟩
theorem yJ{t:Tok}{n:Int}(l:List Tok)(h:t.1=Lib.itoa n)(h0:-1<=n)(h1:n<=999999):dO (t::l) false=(n,l,false):=by
 have hn:=I7 h0 h1;unfold dO;rw[jY,h,hn.1,Dn l (by rw[h];exact(Oc n).1),h,hn.2]
end Go.Proofs
/- Lists of elements read back. -/
namespace Go.Proofs
open Go Go.Ax Go.Ax.aA
section
variable{ρ β:Type}(g:ρ->β)(t:ρ->List Tok)(b:ρ->Bool)(P:List Tok->Bool->ρ)
def Rd(y:β)(Q:List Pc)(ok:List Tok->Prop):Prop:=∀l rest:List Tok,l.map fF=Q.map dB->ok rest->g (P (l++rest) false)=y/\t (P (l++rest) false)=rest/\b (P (l++rest) false)=false
theorem rZ(w:List UInt8)(hw:w≠[])(F:β->List Pc)(ok:List Tok->Prop)(least:Int):∀(ys:List β),(∀y∈ys,Rd g t b P y (F y) ok)->(∀(u:Tok)(r:List Tok),u.1=w->ok (u::r))->
    ∀(n:Nat)(l rest:List Tok)(acc:List β),l.map fF=(ys.flatMap λy=>cC w++F y).map dB->ok rest->bH rest false≠w->ys.length<n->least<=((acc.length+ys.length:Nat):Int)->
    fA g t b P least w n (l++rest) false acc=(acc++ys,rest,false):=by
 intro ys
 induction ys with
 |nil=>
   intro _ _ n l rest acc hl ho hp hn hle;obtain⟨n,rfl⟩:∃m,n=m+1:=⟨n-1,by simp at hn;omega⟩
   have:l=[]:=by simpa using hl
   subst this;unfold fA;have hle:least<=((acc.length:Nat):Int):=by simpa using hle
   rw[k7,bD (by omega),bD hp];show(acc,rest,false)=(acc++[],rest,false);rw[e9]
 |cons y ys ih=>
   intro hr hok n l rest acc hl ho hp hn hle;obtain⟨n,rfl⟩:∃m,n=m+1:=⟨n-1,by simp at hn;omega⟩
   rw[fV,gH,gH]at hl;obtain⟨l1,l2,rfl,h1,h2⟩:=qO.1 hl;obtain⟨l0,l3,rfl,h0,h3⟩:=qO.1 h1;have hl0:∃u:Tok,l0=[u]/\u.1=w:=by
    match l0,h0 with
    |[u],h0=>exact⟨u,rfl,by simpa[cC]using h0⟩
    |[],h0=>cases h0
    |_::_::_,h0=>simp[cC]at h0
   obtain⟨u,rfl,hu⟩:=hl0;have hok2:ok (l2++rest):=by
    cases ys with
    |nil=>
      have:l2=[]:=by simpa using h2
      subst this;exact ho
    |cons z zs=>
      cases l2 with
      |nil=>simp[cC]at h2
      |cons v l2=>
        refine hok v _ ?_;simp[cC]at h2;exact h2.1
   obtain⟨e1,e2,e3⟩:=hr y iB l3 (l2++rest) h3 hok2;have hsh:[u]++l3++l2++rest=u::(l3++(l2++rest)):=by simp
   rw[hsh];unfold fA;rw[jY,hu,aX (p:=w=w) rfl,aK8,qS,iU];simp only;rw[NI _ hw hu,e1,e2,e3,ih (λz hz=>hr z (fR _ hz)) hok n l2 rest (acc++[y]) h2 ho hp (by simp at hn;omega) (by simp at hle ⊢;omega)];rw[bP];rfl
end
end Go.Proofs
/- Lists of numbers and texts read back. -/
namespace Go.Proofs
open Go Go.Ax Go.Ax.aA
section
variable{ρ β:Type}(g:ρ->β)(t:ρ->List Tok)(b:ρ->Bool)(P:List Tok->Bool->ρ)
theorem NK(q:List UInt8->Bool)(F:β->List Pc):∀(ys:List β),(∀y∈ys,Rd g t b P y (F y) (λ_=>True)/\∃p Q,F y=p::Q/\q p.2=true)->
    ∀(n:Nat)(l rest:List Tok)(acc:List β),l.map fF=(ys.flatMap F).map dB->q (bH rest false)=false->ys.length<n->
    iZ g t b P q n (l++rest) false acc=(acc++ys,rest,false):=by
 intro ys
 induction ys with
 |nil=>
   intro _ n l rest acc hl hp hn;obtain⟨n,rfl⟩:∃m,n=m+1:=⟨n-1,by simp at hn;omega⟩
   have:l=[]:=by simpa using hl
   subst this;unfold iZ;rw[k7,hp];show(acc,rest,false)=(acc++[],rest,false);rw[e9]
 |cons y ys ih=>
   intro hr n l rest acc hl hp hn;obtain⟨n,rfl⟩:∃m,n=m+1:=⟨n-1,by simp at hn;omega⟩
   rw[fV,gH]at hl;obtain⟨l1,l2,rfl,h1,h2⟩:=qO.1 hl;obtain⟨hy,p,Q,hF,hq⟩:=hr y iB;have hpk:bH (l1++(l2++rest)) false=p.2:=by
    rw[hF]at h1;cases l1 with
    |nil=>cases h1
    |cons u l1=>
      have:=aR List.head? h1;simp at this;exact this
   obtain⟨e1,e2,e3⟩:=hy l1 (l2++rest) h1 trivial;rw[bP];unfold iZ;rw[hpk,hq];show iZ g t b P q n (t (P (l1++(l2++rest)) false)) (b (P (l1++(l2++rest)) false)) (acc++[g (P (l1++(l2++rest)) false)])=_;rw[e1,e2,e3,ih (λz hz=>hr z (fR _ hz)) n l2 rest (acc++[y]) h2 hp (by simp at hn;omega)];rw[bP];rfl
end
end Go.Proofs
/- Numbers and texts read back. -/
namespace Go.Proofs
open Go Go.Ax Go.Ax.aA
theorem gY{l:List Tok}{a:List UInt8}{m:List (List UInt8)}(h:l.map fF=a::m):∃u l',l=u::l'/\u.1=a/\l'.map fF=m:=by
 cases l with
 |nil=>cases h
 |cons u l => 
   rw[List.map_cons]at h;exact⟨u,l,rfl,(a92 h).1,(a92 h).2⟩
theorem pG{l:List Tok}(h:l.map fF=[]):l=[]:=by simpa using h
abbrev gI(n:Int):Prop:=-1<=n/\n<=999999
theorem aHB{n:Int}(h:gI n):Rd (λr:Int×List Tok×Bool=>r.1) (λr:Int×List Tok×Bool=>r.2.1) (λr:Int×List Tok×Bool=>r.2.2) dO n [([32],Lib.itoa n)] (λ_=>True):=by
 intro l rest hl _;obtain⟨u,l',rfl,hu,hl'⟩:=gY hl;rw[pG hl',Zk,yJ rest hu h.1 h.2];exact⟨rfl,rfl,rfl⟩
theorem aHA(s:List UInt8):Rd (λr:List UInt8×List Tok×Bool=>r.1) (λr:List UInt8×List Tok×Bool=>r.2.1) (λr:List UInt8×List Tok×Bool=>r.2.2) fN s (eO s) (λ_=>True):=by
 intro l rest hl _;obtain⟨u,l',rfl,hu,hl'⟩:=gY hl;rw[pG hl',Zk,Am rest hu];exact⟨rfl,rfl,rfl⟩
theorem a4s{N:Nat}{ns:List Int}(h0:ns≠[])(hs:∀n∈ns,gI n)(hN:ns.length<N){l rest:List Tok}(hl:l.map fF=(fB ns).map dB)(hp:dZ (bH rest false)=false):Dy N (l++rest) false=(ns,rest,false):=by
 cases ns with
 |nil=>exact absurd rfl h0
 |cons n ns=>
   obtain⟨u,l',rfl,hu,hl'⟩:=gY (a:=Lib.itoa n) (m:=(fB ns).map dB) hl;have hn:=hs n iB;have hi:=yJ (l'++rest) hu hn.1 hn.2;unfold Dy;rw[pP,hi];exact NK _ _ _ _ dZ (λn=>[([32],Lib.itoa n)]) ns (λm hm=>⟨aHB (hs m (fR _ hm)),_,_,rfl,(I7 (hs m (fR _ hm)).1 (hs m (fR _ hm)).2).1⟩) N l' rest [n] hl' hp (by simp at hN;omega)
theorem a0j{N:Nat}{ns:List (List UInt8)}(h0:ns≠[])(hN:ns.length<N){l rest:List Tok}(hl:l.map fF=(ns.flatMap eO).map dB)(hp:preB (bH rest false) [34]=false):qX N (l++rest) false=(ns,rest,false):=by
 cases ns with
 |nil=>exact absurd rfl h0
 |cons n ns=>
   obtain⟨u,l',rfl,hu,hl'⟩:=gY (a:=quo n) (m:=(ns.flatMap eO).map dB) hl;have hi:=Am (l'++rest) hu;unfold qX;rw[pP,hi];exact NK _ _ _ _ (λs=>preB s [34]) eO ns (λm _=>⟨aHA m,_,_,rfl,by show preB (quo m) [34]=true;unfold preB quo;simp⟩) N l' rest [n] hl' hp (by simp at hN;omega)
end Go.Proofs
/- Points, notes, runs, bars and hands read back. -/
namespace Go.Proofs
open Go Go.Ax Go.Ax.aA
theorem N0{a b:Int}(ha:gI a)(hb:gI b){l rest:List Tok}(hl:l.map fF=(fB [a,b]).map dB):gT (l++rest) false=(a,b,rest,false):=by
 obtain⟨u,l',rfl,hu,hl'⟩:=gY (a:=Lib.itoa a) (m:=[Lib.itoa b]) hl;obtain⟨v,l'',rfl,hv,hl''⟩:=gY hl';rw[pG hl''];unfold gT;rw[show(u::[v])++rest=u::v::rest from rfl,yJ _ hu ha.1 ha.2];simp only;rw[yJ _ hv hb.1 hb.2]
theorem YD{a b c:Int}(ha:gI a)(hb:gI b)(hc:gI c){l rest:List Tok}(hl:l.map fF=(fB [a,b,c]).map dB):jN (l++rest) false=(a,b,c,rest,false):=by
 obtain⟨u,l',rfl,hu,hl'⟩:=gY (a:=Lib.itoa a) (m:=[Lib.itoa b,Lib.itoa c]) hl;unfold jN;rw[pP,yJ _ hu ha.1 ha.2];simp only;rw[N0 hb hc (l:=l') hl']
theorem a1x{N:Nat}{ps:List (Int×Int)}(h0:ps≠[])(hs:∀p∈ps,gI p.1/\gI p.2)(hN:ps.length<N){l rest:List Tok}(hl:l.map fF=(ps.flatMap xV).map dB)(hp:dZ (bH rest false)=false):xS N (l++rest) false=(ps,rest,false):=by
 cases ps with
 |nil=>exact absurd rfl h0
 |cons p ps=>
   rw[fV,gH]at hl;obtain⟨l1,l2,rfl,h1,h2⟩:=qO.1 hl;have hq:=hs p iB;have hi:=N0 hq.1 hq.2 (rest:=l2++rest) h1;unfold xS;rw[bP,hi];exact NK _ _ _ _ dZ xV ps (λm hm=>⟨λl rest hl _=>by
    have hq:=hs m (fR _ hm);rw[N0 hq.1 hq.2 hl];exact⟨rfl,rfl,rfl⟩,_,_,rfl,(I7 (hs m (fR _ hm)).1.1 (hs m (fR _ hm)).1.2).1⟩) N l2 rest [p] h2 hp (by simp at hN;omega)
theorem a3f{N:Nat}{ps:List o6}(h0:ps≠[])(hs:∀p∈ps,gI p.1/\gI p.2.1/\gI p.2.2)(hN:ps.length<N){l rest:List Tok}(hl:l.map fF=(ps.flatMap yB).map dB)(hp:dZ (bH rest false)=false):rD N (l++rest) false=(ps,rest,false):=by
 cases ps with
 |nil=>exact absurd rfl h0
 |cons p ps=>
   rw[fV,gH]at hl;obtain⟨l1,l2,rfl,h1,h2⟩:=qO.1 hl;have hq:=hs p iB;have hi:=YD hq.1 hq.2.1 hq.2.2 (rest:=l2++rest) h1;unfold rD;rw[bP,hi];exact NK _ _ _ _ dZ yB ps (λm hm=>⟨λl rest hl _=>by
    have hq:=hs m (fR _ hm);rw[YD hq.1 hq.2.1 hq.2.2 hl];exact⟨rfl,rfl,rfl⟩,_,_,rfl,(I7 (hs m (fR _ hm)).1.1 (hs m (fR _ hm)).1.2).1⟩) N l2 rest [p] h2 hp (by simp at hN;omega)
theorem a16{y:Int×List UInt8}(h:gI y.1){l rest:List Tok}(hl:l.map fF=(fB [y.1]++eO y.2).map dB):sC (l++rest) false=(y.1,y.2,rest,false):=by
 obtain⟨u,l',rfl,hu,hl'⟩:=gY (a:=Lib.itoa y.1) (m:=[quo y.2]) hl;obtain⟨v,l'',rfl,hv,hl''⟩:=gY hl';rw[pG hl''];unfold sC;rw[show(u::[v])++rest=u::v::rest from rfl,yJ _ hu h.1 h.2];simp only;rw[Am _ hv]
end Go.Proofs
/- Runs, lines, needs, options, rows, bars and hands read back. -/
namespace Go.Proofs
open Go Go.Ax Go.Ax.aA
theorem aGk{N:Nat}{ys:List (Int×List UInt8)}(h0:1<=ys.length)(hs:∀y∈ys,gI y.1)(hN:ys.length<N){l rest:List Tok}(hl:l.map fF=(p7 ys).map dB)(hp:bH rest false≠[114,117,110]):uG N 1 [114,117,110] (l++rest) false=(ys,rest,false):=by
 unfold uG;exact rZ _ _ _ _ [114,117,110] (by simp) (λy:Int×List UInt8=>fB [y.1]++eO y.2) (λ_=>True) 1 ys (λy hy l rest hl _=>by
  rw[a16 (hs y hy) hl];exact⟨rfl,rfl,rfl⟩) (λ_ _ _=>trivial) N l rest [] hl trivial hp hN (by show(1:Int)<=((0+ys.length:Nat):Int);omega)
theorem a4Q{N:Nat}{ys:List (List UInt8)}(h0:1<=ys.length)(hN:ys.length<N){l rest:List Tok}(hl:l.map fF=(NQ ys).map dB)(hp:bH rest false≠[108,105,110,101]):BJ N 1 [108,105,110,101] (l++rest) false=(ys,rest,false):=by
 unfold BJ;exact rZ _ _ _ _ [108,105,110,101] (by simp) eO (λ_=>True) 1 ys (λy _=>aHA y) (λ_ _ _=>trivial) N l rest [] hl trivial hp hN (by show(1:Int)<=((0+ys.length:Nat):Int);omega)
theorem a3p{N:Nat}{ys:List Int}(hs:∀y∈ys,gI y)(hN:ys.length<N){l rest:List Tok}(hl:l.map fF=(ys.flatMap rE).map dB)(hp:bH rest false≠[110,101,101,100]):yC N 0 [110,101,101,100] (l++rest) false=(ys,rest,false):=by
 unfold yC;exact rZ _ _ _ _ [110,101,101,100] (by simp) (λn=>fB [n]) (λ_=>True) 0 ys (λy hy=>aHB (hs y hy)) (λ_ _ _=>trivial) N l rest [] hl trivial hp hN (by omega)
theorem a1f{N:Nat}{ys:List aN}(h0:1<=ys.length)(hs:∀y∈ys,y≠[]/\y.length<N)(hN:ys.length<N){l rest:List Tok}(hl:l.map fF=(N4 ys).map dB)(hp:bH rest false≠[114,111,119])(hq:preB (bH rest false) [34]=false):Av N 1 [114,111,119] (l++rest) false=(ys,rest,false):=by
 unfold Av;exact rZ _ _ _ _ [114,111,119] (by simp) (λr:List (List UInt8)=>r.flatMap eO) (λr=>preB (bH r false) [34]=false) 1 ys (λy hy l rest hl ho=>by
  rw[a0j (hs y hy).1 (hs y hy).2 hl ho];exact⟨rfl,rfl,rfl⟩) (λu r hu=>by rw[jY,hu];decide) N l rest [] hl hq hp hN (by show(1:Int)<=((0+ys.length:Nat):Int);omega)
theorem a7m{N:Nat}{ys:List (List o6)}(h0:1<=ys.length)(hs:∀y∈ys,y≠[]/\y.length<N/\∀p∈y,gI p.1/\gI p.2.1/\gI p.2.2)(hN:ys.length<N){l rest:List Tok}(hl:l.map fF=(ys.flatMap B4).map dB)(hp:bH rest false≠[98,97,114])(hq:dZ (bH rest false)=false):B3 N 1 [98,97,114] (l++rest) false=(ys,rest,false):=by
 unfold B3;exact rZ _ _ _ _ [98,97,114] (by simp) (λr:List o6=>r.flatMap yB) (λr=>dZ (bH r false)=false) 1 ys (λy hy l rest hl ho=>by
  rw[a3f (hs y hy).1 (hs y hy).2.2 (hs y hy).2.1 hl ho];exact⟨rfl,rfl,rfl⟩) (λu r hu=>by rw[jY,hu];decide +kernel) N l rest [] hl hq hp hN (by show(1:Int)<=((0+ys.length:Nat):Int);omega)
end Go.Proofs
/- Options and hands read back. -/
namespace Go.Proofs
open Go Go.Ax Go.Ax.aA
theorem a2J{N:Nat}{ys:List (List UInt8×List UInt8)}(hN:ys.length<N){l rest:List Tok}(hl:l.map fF=(ys.flatMap sH).map dB)(hp:bH rest false≠[111,112,116,105,111,110]):uL N 0 [111,112,116,105,111,110] (l++rest) false=(ys,rest,false):=by
 unfold uL;exact rZ _ _ _ _ [111,112,116,105,111,110] (by simp) (λo:List UInt8×List UInt8=>eO o.1++eO o.2) (λ_=>True) 0 ys (λy _ l rest hl _=>by
  obtain⟨u,l',rfl,hu,hl'⟩:=gY (a:=quo y.1) (m:=[quo y.2]) hl;obtain⟨v,l'',rfl,hv,hl''⟩:=gY hl';rw[pG hl''];have:qZ ((u::[v])++rest) false=(y.1,y.2,rest,false):=by
   unfold qZ;rw[show(u::[v])++rest=u::v::rest from rfl,Am _ hu];simp only;rw[Am _ hv]
  rw[this];exact⟨rfl,rfl,rfl⟩) (λ_ _ _=>trivial) N l rest [] hl trivial hp hN (by omega)
theorem a5E{N:Nat}{ys:List (List (List o6))}(h0:1<=ys.length)(hs:∀h∈ys,1<=h.length/\h.length<N/\∀y∈h,y≠[]/\y.length<N/\∀p∈y,gI p.1/\gI p.2.1/\gI p.2.2)(hN:ys.length<N){l rest:List Tok}(hl:l.map fF=(Du ys).map dB)(hp:bH rest false≠[104,97,110,100])(hb:bH rest false≠[98,97,114])(hq:dZ (bH rest false)=false):BL N 1 [104,97,110,100] (l++rest) false=(ys,rest,false):=by
 unfold BL;exact rZ _ _ _ _ [104,97,110,100] (by simp) (λh:List (List o6)=>h.flatMap B4) (λr=>bH r false≠[98,97,114]/\dZ (bH r false)=false) 1 ys (λh hh l rest hl ho=>by
  have e:=a7m (hs h hh).1 (hs h hh).2.2 (hs h hh).2.1 hl ho.1 ho.2;unfold yK;rw[e];exact⟨rfl,rfl,rfl⟩) (λu r hu=>by rw[jY,hu];exact⟨by decide,by decide +kernel⟩) N l rest [] hl ⟨hb,hq⟩ hp hN (by show(1:Int)<=((0+ys.length:Nat):Int);omega)
end Go.Proofs
/- Words of a list read back. -/
namespace Go.Proofs
open Go Go.Ax Go.Ax.aA
def aJJ(L:List (List UInt8)):Bool:=(List.range L.length).all λn=>(List.range n).all λj=>!decide (L[j]?=L[n]?)
theorem JO{t:Tok}{L:List (List UInt8)}{n:Int}{w:List UInt8}(l:List Tok)(h:t.1=w)(hw:w≠[])(h0:0<=n)(hn:L[n.toNat]?=some w)(hd:aJJ L=true):atR L (t::l) false=(n,l,false):=by
 have:=aJh (L:=L) (n:=n.toNat) l h hw hn (λj hj v hv e=>by
  subst e;unfold aJJ at hd;have hlt:n.toNat<L.length:=by
   rcases Bd n.toNat L.length with h'|h'
   .exact h'
   .rw[oC h']at hn;cases hn
  have h1:=fG.1 hd n.toNat (vE.2 hlt);have h2:=fG.1 h1 j (vE.2 hj);rw[hv,hn]at h2;simp at h2)
 rw[this,J0 h0]
end Go.Proofs
/- Shapes and facts read back. -/
namespace Go.Proofs
open Go Go.Ax Go.Ax.aA
theorem a1M{n:Int}(h:cN n 0 2=true):uE n≠[]:=by
 have key:∀w∈At,w≠[]:=by decide
 exact key _ (iM (Da h).1)
theorem a6U{n:Int}(h:cN n 0 6=true):sR n≠[]:=by
 have key:∀w∈oY,w≠[]:=by decide
 exact key _ (iM (EF h).1)
theorem a1J{N:Nat}{ys:List (Int×List (Int×Int))}(h0:1<=ys.length)(hs:∀y∈ys,cN y.1 0 2=true/\y.2≠[]/\y.2.length<N/\∀p∈y.2,gI p.1/\gI p.2)(hN:ys.length<N){l rest:List Tok}(hl:l.map fF=(ys.flatMap Ar).map dB)(hp:bH rest false≠[115,104,97,112,101])(hq:dZ (bH rest false)=false):Aq N 1 [115,104,97,112,101] (l++rest) false=(ys,rest,false):=by
 unfold Aq;exact rZ _ _ _ _ [115,104,97,112,101] (by simp) (λs:Int×List (Int×Int)=>gW (uE s.1)++s.2.flatMap xV) (λr=>dZ (bH r false)=false) 1 ys (λy hy l rest hl ho=>by
  have hh:=hs y hy;obtain⟨u,l',rfl,hu,hl'⟩:=gY (a:=uE y.1) (m:=(y.2.flatMap xV).map dB) hl;have e:sB N (u::l'++rest) false=(y.1,y.2,rest,false):=by
   unfold sB;rw[pP,JO (L:=D9) (l'++rest) hu (a1M hh.1) (Da hh.1).2 (Da hh.1).1 (by decide)];simp only;rw[a1x hh.2.1 hh.2.2.2 hh.2.2.1 hl' ho]
  rw[e];exact⟨rfl,rfl,rfl⟩) (λu r hu=>by rw[jY,hu];decide +kernel) N l rest [] hl hq hp hN (by show(1:Int)<=((0+ys.length:Nat):Int);omega)
theorem a6Q{N:Nat}{ys:List kD}(hs:∀y∈ys,cN y.1 0 6=true/\gI y.2.1/\gI y.2.2.1/\gI y.2.2.2)(hN:ys.length<N){l rest:List Tok}(hl:l.map fF=(ys.flatMap rG).map dB)(hp:bH rest false≠[102,97,99,116]):yQ N 0 [102,97,99,116] (l++rest) false=(ys,rest,false):=by
 unfold yQ;exact rZ _ _ _ _ [102,97,99,116] (by simp) (λf:kD=>gW (sR f.1)++fB [f.2.1,f.2.2.1,f.2.2.2]) (λ_=>True) 0 ys (λy hy l rest hl _=>by
  have hh:=hs y hy;obtain⟨u,l',rfl,hu,hl'⟩:=gY (a:=sR y.1) (m:=(fB [y.2.1,y.2.2.1,y.2.2.2]).map dB) hl;have e:sQ (u::l'++rest) false=(y.1,y.2.1,y.2.2.1,y.2.2.2,rest,false):=by
   unfold sQ;rw[pP,JO (L:=oY) (l'++rest) hu (a6U hh.1) (EF hh.1).2 (EF hh.1).1 (by decide)];simp only;rw[YD hh.2.1 hh.2.2.1 hh.2.2.2 hl']
  rw[e];exact⟨rfl,rfl,rfl⟩) (λ_ _ _=>trivial) N l rest [] hl trivial hp hN (by omega)
end Go.Proofs
/- Formulas read back. -/
namespace Go.Proofs
open Go Go.Ax Go.Ax.aA
theorem a2N{t:Tok}{op:Int}(l:List Tok)(h:cN op 2 10=true)(ht:t.1=kS op):atR gO (t::l) false=(op,l,false):=by
 have h1:=pT h;have h2:=Mo (op:=op) (by unfold cN;rw[aT,eR,eR];omega);have hne:=(XL h).1;have key0:∀n:Nat,n<11->∀j:Nat,j<n->2<=n->gO[j]?≠gO[n]?:=by decide
 have key:∀n:Nat,2<=n->n<=10->∀j,j<n->gO[j]?≠gO[n]?:=λn a b j c=>key0 n (by omega) j c a
 have:=aJh (L:=gO) (n:=op.toNat) l ht hne h2.1 (λj hj v hv e=>by
  subst e;exact key op.toNat (by omega) (by omega) j hj (by rw[hv,h2.1]))
 rw[this,J0 h2.2]
theorem a4S{num:Int}(h:cN num 0 25=true):dZ [kP (97+num)]=false/\yF [kP (97+num)]=true/\aH.wrap ((kP (97+num)-97).toNat:Int)=num:=by
 have h1:=pT h;have key:∀m:Nat,m<=25->dZ [kP (97+(m:Int))]=false/\yF [kP (97+(m:Int))]=true/\(kP (97+(m:Int))-97).toNat=m:=by decide +kernel
 have:=key num.toNat (by omega);rw[J0 h1.1]at this;refine⟨this.1,this.2.1,?_⟩;rw[this.2.2,cA (by omega) (by omega)];omega
end Go.Proofs
/- Formulas read back. -/
namespace Go.Proofs
open Go Go.Ax Go.Ax.aA
theorem a4a{n:Nat}:∀(ks:List Ex),(∀k∈ks,∀(sep:List UInt8)(l rest:List Tok),l.map fF=(iL sep k).map dB->kV n (l++rest) false=(Ex.op k,Ex.num k,Ex.kids k,rest,false))->
    ∀(l rest:List Tok)(acc:List Ex),l.map fF=(nZ ks).map dB->oU (kV n) ks.length (l++rest) false acc=(acc++ks,rest,false):=by
 intro ks
 induction ks with
 |nil=>
   intro _ l rest acc hl;have:l=[]:=pG hl;subst this;show(acc,rest,false)=(acc++[],rest,false);rw[e9]
 |cons k ks ih=>
   intro h l rest acc hl;unfold nZ at hl;rw[gH]at hl;obtain⟨l1,l2,rfl,h1,h2⟩:=qO.1 hl;have e:=h k iB [32] l1 (l2++rest) h1;show oU (kV n) (ks.length+1) (l1++l2++rest) false acc=_;rw[aIS,bP,e];simp only;rw[ih (λx hx=>h x (fR _ hx)) l2 rest _ h2,bP];cases k;rfl
theorem a6W:∀(n:Nat)(e:Ex),dD e<n->rN e->∀(sep:List UInt8)(l rest:List Tok),l.map fF=(iL sep e).map dB->kV n (l++rest) false=(Ex.op e,Ex.num e,Ex.kids e,rest,false):=by
 intro n
 induction n with
 |zero=>intro e h;omega
 |succ n ih=>
   intro e h hw sep l rest hl;obtain⟨op,num,ks⟩:=e;cases hw with
   |mk h1 h2 h3 h4=>
   have hb:=pT h1;unfold iL at hl;by_cases h0:op=0
   .rw[aI h0]at hl
    subst h0;have hn:=pT (show cN num 0 999999=true from h2);obtain⟨u,l',rfl,hu,hl'⟩:=gY hl;rw[pG hl',Zk];have hk:ks=[]:=by
     have:(ks.length:Int)=0:=h3;cases ks with
     |nil=>rfl
     |cons k ks=>simp at this;omega
    unfold kV;rw[jY,hu,(I7 (by omega) hn.2).1];show(0,(dO (u::rest) false).1,[],(dO (u::rest) false).2)=_;rw[yJ rest hu (by omega) hn.2,hk];rfl
   rw[aE h0]at hl;by_cases h1':op=1
   .rw[aI h1']at hl
    subst h1';have hn:cN num 0 25=true:=h2;have hc:=a4S hn;obtain⟨u,l',rfl,hu,hl'⟩:=gY hl;rw[pG hl',Zk];have hk:ks=[]:=by
     have:(ks.length:Int)=0:=h3;cases ks with
     |nil=>rfl
     |cons k ks=>simp at this;omega
    unfold kV;rw[jY,hu,hc.1,hc.2.1,Dn rest (by rw[hu];simp)];show(1,aH.wrap ((kP (97+num)-97).toNat:Int),[],rest,false)=_;rw[hc.2.2,hk];rfl
   rw[aE h1']at hl;have hnum:num=0:=by
    have:=pT h2;unfold yD at this;rw[aE h0,aE h1']at this;omega
   obtain⟨u,l',rfl,hu,hl'⟩:=gY (a:=[40]) (m:=kS op::(nZ ks++[([],[41])]).map dB) hl;obtain⟨v,l'',rfl,hv,hl''⟩:=gY hl';rw[gH]at hl'';obtain⟨l1,l2,rfl,g1,g2⟩:=qO.1 hl'';obtain⟨x,l3,rfl,hx,hl3⟩:=gY (a:=[41]) (m:=[]) g2;rw[pG hl3];have hop:cN op 2 10=true:=by unfold cN;rw[aT,eR,eR];omega
   have hsh:u::v::(l1++[x])++rest=u::v::(l1++(x::rest)):=by simp
   have har:(n7 op).toNat=ks.length:=by rw[<-h3];rfl
   rw[hsh];unfold kV;rw[jY,hu,show dZ [40]=false from by decide +kernel,show yF [40]=false from by decide,NI _ (by simp) hu];simp only;rw[a2N _ hop hv];simp only;rw[har,a4a ks (λk hk=>ih k (by have:=vZ hk;simp only[dD]at h;omega) (h4 k hk)) l1 (x::rest) [] g1];simp only;rw[NI _ (by simp) hx,hnum];rfl
end Go.Proofs
/- Blocks read back. -/
namespace Go.Proofs
open Go Go.Ax Go.Ax.aA
def aI6:List (List UInt8):=[[114,117,110],[114,111,119],[115,104,97,112,101],[98,97,114],[104,97,110,100],[108,105,110,101],[110,101,101,100],[111,112,116,105,111,110]]
def sT(s:List UInt8):Bool:=!aI6.contains s&&!dZ s&&!preB s [34]
theorem aJF{s:List UInt8}(h:sT s=true):(∀w∈aI6,s≠w)/\dZ s=false/\preB s [34]=false:=by
 unfold sT at h;simp only[aT,wW]at h;refine⟨λw hw e=>?_,h.1.2,h.2⟩;subst e;have:=List.contains_iff_mem.2 hw;rw[h.1.1]at this;cases this
theorem sZ{α:Type}{l:List α}{a b:Int}{q:α->Bool}(h:dK l a b q=true):a<=(l.length:Int):=by
 unfold dK at h;simp only[aT,eR]at h;exact h.1.1
theorem o9{n a b:Int}(h:cN n a b=true)(ha:-1<=a)(hb:b<=999999):gI n:=by
 have:=pT h;constructor <;> omega
theorem NH{α:Type}{l:List α}(h:1<=l.length):l≠[]:=by
 intro e;rw[e]at h;simp at h
theorem a3i{p:o6}(h:uN p=true):gI p.1/\gI p.2.1/\gI p.2.2:=by
 unfold uN at h;simp only[aT]at h;exact⟨o9 h.1.1 (by decide) (by decide),o9 h.1.2 (by decide) (by decide),o9 h.2 (by decide) (by decide)⟩
theorem a2B{p:Int×Int}(h:xW p=true):gI p.1/\gI p.2:=by
 unfold xW at h;simp only[aT]at h;exact⟨o9 h.1 (by decide) (by decide),o9 h.2 (by decide) (by decide)⟩
theorem aGo{p:Int×List UInt8}(h:oL p=true):gI p.1:=by
 unfold oL at h;simp only[aT]at h;exact o9 h.1 (by decide) (by decide)
end Go.Proofs
/- Blocks read back. -/
namespace Go.Proofs
open Go Go.Ax Go.Ax.aA
def ED(b:fI)(rest:List Tok):Ea:=(b.1,b.2.1,Ex.op b.2.2.1,Ex.num b.2.2.1,Ex.kids b.2.2.1,b.2.2.2.1.1,b.2.2.2.1.2,b.2.2.2.2.1,b.2.2.2.2.2.1.1,b.2.2.2.2.2.1.2.1,b.2.2.2.2.2.1.2.2,b.2.2.2.2.2.2.1,b.2.2.2.2.2.2.2,rest,false)
theorem B0{k:Int}{w:List UInt8}{Q:List Pc}{N:Nat}{b:fI}{l rest:List Tok}(hk:j7[k.toNat]?=some w)(h0:0<=k)(hl:l.map fF=(cC w++Q).map dB)
    (hb:∀l':List Tok,l'.map fF=Q.map dB->rJ N k (l'++rest) false=ED b rest):lN N (l++rest) false=ED b rest:=by
 obtain⟨u,l',rfl,hu,hl'⟩:=gY (a:=w) (m:=Q.map dB) hl;have hw:w≠[]:=by
  have key:∀w∈j7,w≠[]:=by decide
  exact key _ (iM hk)
 unfold lN;rw[pP,JO (L:=j7) (l'++rest) hu hw h0 hk (by decide)];exact hb l' hl'
end Go.Proofs
