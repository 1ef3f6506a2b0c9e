/- The reference in plain words. Conditions are in the theorems. -/
import Derived.Test.YtipllfcmdnellaaDoorF4
import Derived.Test.YtipllfcmdnellaaDoorG6
/- Small laws (printed). -/
namespace Go.Proofs
open Go Go.Ax Go.Ax.Alg
theorem w10_p {N:Nat} {l0:(List ((List Int)×(Int×Int)))} {at1:Int} {how2:Int} {by3:Int} {d:(List ((List Int)×(Int×Int)))} (h:w10z N l0 at1 how2 by3=some d):w10p N l0 at1 how2 by3=true:=by unfold w10p;rw [h];rfl
theorem w10_y0 {N:Nat} {l0:(List ((List Int)×(Int×Int)))} {at1:Int} {how2:Int} {by3:Int} {d:(List ((List Int)×(Int×Int)))} (h:w10z N l0 at1 how2 by3=some d):w10y0 N l0 at1 how2 by3=d:=by unfold w10y0;rw [h];rfl
theorem w43_p {N:Nat} {t0:Int} {d:Int} (h:w43z N t0=some d):w43p N t0=true:=by unfold w43p;rw [h];rfl
theorem w43_y0 {N:Nat} {t0:Int} {d:Int} (h:w43z N t0=some d):w43y0 N t0=d:=by unfold w43y0;rw [h];rfl
end Go.Proofs
/- The reference: which rules apply, and two rules that contradict each other. -/
namespace Go.Proofs
open Go Go.Ax Go.Ax.Alg
theorem w43_eq {t:Int} (h:-100<=t) (h2:t<=100):w43z 2000 t=some (num t):=by
 unfold w43z w43 w43G num;rw [wr (by omega) (by omega)];rfl
end Go.Proofs
/- The reference: which rules are valid. -/
namespace Go.Proofs
open Go Go.Ax Go.Ax.Alg
def lastN (l:List Int) (i:Nat):Int:=match i with | 0=>0 | j+1=>num (l.getD j 0)
theorem num_nn (t:Int):0<=num t:=by unfold num;omega
theorem w25_step {l:List Int} (hl:l.length < 150) (i:Nat) (hp:∀ j t,j < i->l[j]?=some t->-16<=t/\t<=16) (R:O->Prop) (self:Int->O) (k0:Int->O) (k1:(List ((List Int)×(Int×Int)))->Int->Int->Int->(List ((List Int)×(Int×Int)))->Int->Bool->(List ((List Int)×(Int×Int)))->Int->((List Int)×(Int×Int))->(List Int)->Int->Int->(List Int)->Int->Bool->Bool->Bool->Bool->Bool->Bool->Bool->Bool->Bool->Int->Int->(List Int)->Int->Bool->(List Int)->Int->Int->O) (v0:(List ((List Int)×(Int×Int)))) (v1:Int) (v2:Int) (v3:Int) (v4:(List ((List Int)×(Int×Int)))) (v5:Int) (v6:Bool) (v7:(List ((List Int)×(Int×Int)))) (v8:Int) (v9:((List Int)×(Int×Int))) (v10:(List Int)) (v11:Int) (v12:Int) (v13:(List Int)) (v14:Int) (v15:Bool) (v16:Bool) (v17:Bool) (v18:Bool) (v19:Bool) (v20:Bool) (v21:Bool) (v22:Bool) (v23:Bool) (v24:Int) (v25:(List Int)) (v26:Int) (v27:Int)
    (h24:v24=(i:Int)) (h25:v25=l)
    (hs:∀ t,l[i]?=some t->-16<=t->t<=16->¬ num t<=lastN l i->R (self ((i+1:Nat):Int))) (hk:∀ t,l[i]?=some t->¬ (-16<=t/\t<=16/\¬ num t<=lastN l i)->R (k0 1)) (hn:l.length<=i->R (k1 v0 v1 v2 v3 v4 v5 v6 v7 v8 v9 v10 v11 v12 v13 v14 v15 v16 v17 v18 v19 v20 v21 v22 v23 v24 v24 v25 ((↑v25.length:Int)) (decide (v24 < (↑v25.length:Int))) v25 v26 v27)):R (w25F0 2000 self k0 k1 v0 v1 v2 v3 v4 v5 v6 v7 v8 v9 v10 v11 v12 v13 v14 v15 v16 v17 v18 v19 v20 v21 v22 v23 v25 v26 v27 v24):=by
 unfold w25F0;by_cases hlt:i < l.length
 ·have hg:l[i]?=some l[i]:=List.getElem?_eq_getElem hlt
  rw [h24,h25,decide_eq_true (show (i:Int) < (l.length:Int) by omega),br_t,gx_at hg,nxt (by omega)];generalize l[i]=t at hg;cases hb:(decide (t=0)||decide (t < -16)||decide (16 < t)) with
  | true=>
    rw [br_t];refine hk t hg fun h=>?_
    simp only [Bool.or_eq_true,decide_eq_true_eq] at hb;have:t=0:=by omega
    subst this;refine h.2.2 ?_;show num 0<=lastN l i;have:(0:Int)<=lastN l i:=by
     unfold lastN;split
     ·omega
     ·exact num_nn _
    exact this
  | false=>
    rw [br_f];simp only [Bool.or_eq_false_iff,decide_eq_false_iff_not] at hb;have ht:-16<=t/\t<=16:=by omega
    have h43:=w43_eq (t:=t) (by omega) (by omega);have hnt:1<=num t:=by unfold num;omega
    cases i with
    | zero=>
      have e:decide ((0:Int) < ((0:Nat):Int))=false:=rfl;rw [e];have:R (self ((0+1:Nat):Int)):=hs t hg ht.1 ht.2 (by show ¬ num t<=0;omega);exact this
    | succ j=>
      have hj:l[j]?=some l[j]:=List.getElem?_eq_getElem (by omega);have hpj:=hp j _ (by omega) hj;have hlast:lastN l (j+1)=num l[j]:=by
       show num (l.getD j 0)=_;rw [List.getD_eq_getElem?_getD,hj];rfl
      have e:decide ((0:Int) < ((j+1:Nat):Int))=true:=decide_eq_true (by omega);have ew:max (IntKind.i64.wrap (((j+1:Nat):Int) - 1)) 0=(j:Int):=by
       rw [wr (by omega) (by omega)];omega
      rw [hlast] at hs hk;generalize l[j]=p at hpj hj hs hk;have h43':=w43_eq (t:=p) (by omega) (by omega);rw [e,ck_of (by rw [w43_p h43];rfl),ew,gc_t,gx_at hj,ck_of (by rw [w43_p h43'];rfl),w43_y0 h43,w43_y0 h43',Bool.true_and];by_cases hc:num t<=num p
      ·rw [decide_eq_true hc,br_t]
       exact hk t hg (fun h=>h.2.2 hc)
      ·rw [decide_eq_false hc,br_f]
       exact hs t hg ht.1 ht.2 hc
 ·have hh:=hn (by omega)
  rw [h25,h24] at hh ⊢;rw [decide_eq_false (show ¬ (i:Int) < (l.length:Int) by omega),br_f];rw [decide_eq_false (show ¬ (i:Int) < (l.length:Int) by omega)] at hh;exact hh
abbrev S25:=((List ((List Int)×(Int×Int)))×Int×Int×Int×(List ((List Int)×(Int×Int)))×Int×Bool×(List ((List Int)×(Int×Int)))×Int×((List Int)×(Int×Int))×(List Int)×Int×Int×(List Int)×Int×Bool×Bool×Bool×Bool×Bool×Bool×Bool×Bool×Bool×Int×(List Int)×Int×Int)
abbrev Y25:=((List ((List Int)×(Int×Int)))×Int×Int×Int×(List ((List Int)×(Int×Int)))×Int×Bool×(List ((List Int)×(Int×Int)))×Int×((List Int)×(Int×Int))×(List Int)×Int×Int×(List Int)×Int×Bool×Bool×Bool×Bool×Bool×Bool×Bool×Bool×Bool×Int×Int×(List Int)×Int×Bool×(List Int)×Int×Int)
theorem terms_at (l:List Int) (i:Nat) {t:Int} (h:l[i]?=some t):termsB (lastN l i) (l.drop i)=(!(decide (t < -16)||decide (16 < t)||decide (num t<=lastN l i))&&termsB (lastN l (i+1)) (l.drop (i+1))):=by
 rw [drop_at h];have:lastN l (i+1)=num t:=by show num (l.getD i 0)=_;rw [List.getD_eq_getElem?_getD,h];rfl
 rw [this];rfl
theorem w25_in {l:List Int} (hl:l.length < 150) (k0:Int->O) (k1:Y25->O) (k2:Unit->O) (R:O->Prop):∀ (n i:Nat) (x:S25),l.length - i < n->i<=l.length->x.2.2.2.2.2.2.2.2.2.2.2.2.2.2.2.2.2.2.2.2.2.2.2.2.1=(i:Int)->x.2.2.2.2.2.2.2.2.2.2.2.2.2.2.2.2.2.2.2.2.2.2.2.2.2.1=l->(∀ j t,j < i->l[j]?=some t->-16<=t/\t<=16)->
    (termsB (lastN l i) (l.drop i)=false->R (k0 1))->(termsB (lastN l i) (l.drop i)=true->∀ y:Y25,y.1=x.1->y.2.1=x.2.1->y.2.2.1=x.2.2.1->R (k1 y))->R (w25l0 2000 n x k0 k1 k2)
 | 0,i,x,h,_,_,_,_,_,_=>by omega
 | n+1,i,x,h,hi,e24,e25,hp,hk,hn=>by
   refine w25_step hl i hp R (fun v0=>w25l0 2000 n (x.1,x.2.1,x.2.2.1,x.2.2.2.1,x.2.2.2.2.1,x.2.2.2.2.2.1,x.2.2.2.2.2.2.1,x.2.2.2.2.2.2.2.1,x.2.2.2.2.2.2.2.2.1,x.2.2.2.2.2.2.2.2.2.1,x.2.2.2.2.2.2.2.2.2.2.1,x.2.2.2.2.2.2.2.2.2.2.2.1,x.2.2.2.2.2.2.2.2.2.2.2.2.1,x.2.2.2.2.2.2.2.2.2.2.2.2.2.1,x.2.2.2.2.2.2.2.2.2.2.2.2.2.2.1,x.2.2.2.2.2.2.2.2.2.2.2.2.2.2.2.1,x.2.2.2.2.2.2.2.2.2.2.2.2.2.2.2.2.1,x.2.2.2.2.2.2.2.2.2.2.2.2.2.2.2.2.2.1,x.2.2.2.2.2.2.2.2.2.2.2.2.2.2.2.2.2.2.1,x.2.2.2.2.2.2.2.2.2.2.2.2.2.2.2.2.2.2.2.1,x.2.2.2.2.2.2.2.2.2.2.2.2.2.2.2.2.2.2.2.2.1,x.2.2.2.2.2.2.2.2.2.2.2.2.2.2.2.2.2.2.2.2.2.1,x.2.2.2.2.2.2.2.2.2.2.2.2.2.2.2.2.2.2.2.2.2.2.1,x.2.2.2.2.2.2.2.2.2.2.2.2.2.2.2.2.2.2.2.2.2.2.2.1,v0,x.2.2.2.2.2.2.2.2.2.2.2.2.2.2.2.2.2.2.2.2.2.2.2.2.2.1,x.2.2.2.2.2.2.2.2.2.2.2.2.2.2.2.2.2.2.2.2.2.2.2.2.2.2.1,x.2.2.2.2.2.2.2.2.2.2.2.2.2.2.2.2.2.2.2.2.2.2.2.2.2.2.2) k0 k1 k2) (fun y0=>k0 y0) (fun y0 y1 y2 y3 y4 y5 y6 y7 y8 y9 y10 y11 y12 y13 y14 y15 y16 y17 y18 y19 y20 y21 y22 y23 y24 y25 y26 y27 y28 y29 y30 y31=>k1 (y0,y1,y2,y3,y4,y5,y6,y7,y8,y9,y10,y11,y12,y13,y14,y15,y16,y17,y18,y19,y20,y21,y22,y23,y24,y25,y26,y27,y28,y29,y30,y31)) x.1 x.2.1 x.2.2.1 x.2.2.2.1 x.2.2.2.2.1 x.2.2.2.2.2.1 x.2.2.2.2.2.2.1 x.2.2.2.2.2.2.2.1 x.2.2.2.2.2.2.2.2.1 x.2.2.2.2.2.2.2.2.2.1 x.2.2.2.2.2.2.2.2.2.2.1 x.2.2.2.2.2.2.2.2.2.2.2.1 x.2.2.2.2.2.2.2.2.2.2.2.2.1 x.2.2.2.2.2.2.2.2.2.2.2.2.2.1 x.2.2.2.2.2.2.2.2.2.2.2.2.2.2.1 x.2.2.2.2.2.2.2.2.2.2.2.2.2.2.2.1 x.2.2.2.2.2.2.2.2.2.2.2.2.2.2.2.2.1 x.2.2.2.2.2.2.2.2.2.2.2.2.2.2.2.2.2.1 x.2.2.2.2.2.2.2.2.2.2.2.2.2.2.2.2.2.2.1 x.2.2.2.2.2.2.2.2.2.2.2.2.2.2.2.2.2.2.2.1 x.2.2.2.2.2.2.2.2.2.2.2.2.2.2.2.2.2.2.2.2.1 x.2.2.2.2.2.2.2.2.2.2.2.2.2.2.2.2.2.2.2.2.2.1 x.2.2.2.2.2.2.2.2.2.2.2.2.2.2.2.2.2.2.2.2.2.2.1 x.2.2.2.2.2.2.2.2.2.2.2.2.2.2.2.2.2.2.2.2.2.2.2.1 x.2.2.2.2.2.2.2.2.2.2.2.2.2.2.2.2.2.2.2.2.2.2.2.2.1 x.2.2.2.2.2.2.2.2.2.2.2.2.2.2.2.2.2.2.2.2.2.2.2.2.2.1 x.2.2.2.2.2.2.2.2.2.2.2.2.2.2.2.2.2.2.2.2.2.2.2.2.2.2.1 x.2.2.2.2.2.2.2.2.2.2.2.2.2.2.2.2.2.2.2.2.2.2.2.2.2.2.2 e24 e25 (fun t ht h1 h2 h3=>?_) (fun t ht h1=>?_) (fun hle=>?_)
   ·have hlt:=(List.getElem?_eq_some_iff.1 ht).1
    have e:=terms_at l i ht;have hb:(!(decide (t < -16)||decide (16 < t)||decide (num t<=lastN l i)))=true:=by
     rw [decide_eq_false (show ¬ t < -16 by omega),decide_eq_false (show ¬ 16 < t by omega),decide_eq_false h3];rfl
    rw [hb,Bool.true_and] at e;rw [e] at hk hn;refine w25_in hl k0 k1 k2 R n (i+1) _ (by omega) (by omega) rfl e25 (fun j t' hj ht'=>?_) hk hn;by_cases hji:j=i
    ·subst hji
     rw [ht] at ht';cases ht';exact ⟨h1,h2⟩
    ·exact hp j t' (by omega) ht'
   ·refine hk ?_
    rw [terms_at l i ht];have hb:(!(decide (t < -16)||decide (16 < t)||decide (num t<=lastN l i)))=false:=by
     rw [Bool.not_eq_false'];simp only [Bool.or_eq_true,decide_eq_true_eq];omega
    rw [hb,Bool.false_and]
   ·refine hn ?_ _ rfl rfl rfl
    rw [List.drop_eq_nil_of_le hle];rfl
theorem w25_loop (l:List Rl) (hl:l.length < 150) (hr:∀ r ∈ l,r.1.length < 150) (k0 k1:Int->O) (k2:Unit->O):∀ (n i:Nat),l.length - i < n->i<=l.length->
    w25l1 2000 n (l,0,i) k0 k1 k2=if (l.drop i).all validB then k1 0 else k0 1
 | 0,i,h,_=>by omega
 | n+1,i,h,hi=>by
   show w25F1 2000 (w25n0 2000) (fun v0 v1 v2=>w25l1 2000 n (v0,v1,v2) k0 k1 k2) (fun y0=>k0 y0) (fun y0=>k1 y0) l 0 i=_;unfold w25F1;by_cases hlt:i < l.length
   ·have hg:l[i]?=some l[i]:=List.getElem?_eq_getElem hlt
    have hm:=hr _ (List.mem_of_getElem? hg);rw [decide_eq_true (show (i:Int) < (l.length:Int) by omega),br_t,gx_at hg,drop_at hg,List.all_cons];generalize l[i]=r at hm;have hx:=w25_loop l hl hr k0 k1 k2 n (i+1) (by omega) (by omega);have hv:validB r=(termsB 0 r.1&&!(decide (8 < (r.1.length:Int))||decide (r.2.1 < 0)||decide (2 < r.2.1)||decide (r.2.2 < -10000)||decide (9999 < r.2.2))):=by
     unfold validB
     congr 1
     rw [Bool.eq_iff_iff];simp only [Bool.and_eq_true,decide_eq_true_eq,Bool.not_eq_true',Bool.or_eq_false_iff,decide_eq_false_iff_not];omega
    rw [hv];cases hb:(decide (8 < (r.1.length:Int))||decide (r.2.1 < 0)||decide (2 < r.2.1)||decide (r.2.2 < -10000)||decide (9999 < r.2.2)) with
    | true=>
      rw [br_t,Bool.not_true,Bool.and_false,Bool.false_and];rfl
    | false=>
      rw [br_f,Bool.not_false,Bool.and_true];refine w25_in hm _ _ _ (fun z=>z=_) 2000 0 _ (by omega) (by omega) rfl rfl (fun j t h=>by omega) (fun ht=>?_) (fun ht y e0 e1 e2=>?_)
      ·rw [List.drop_zero] at ht
       have ht:termsB 0 r.1=false:=ht;rw [ht,Bool.false_and];rfl
      ·rw [List.drop_zero] at ht
       have ht:termsB 0 r.1=true:=ht;rw [ht,Bool.true_and];simp only [];rw [e0,e1,e2];simp only [];rw [nxt (by omega)];exact hx
   ·rw [decide_eq_false (show ¬ (i:Int) < (l.length:Int) by omega),br_f,List.drop_eq_nil_of_le (by omega)]
    rfl
theorem w25_ur (a:Int):(some (w25r0 a):O).bind w25un=some a:=rfl
theorem w25_eq (l:List Rl) (hl:l.length < 150) (hr:∀ r ∈ l,r.1.length < 150):w25z 2000 l=some (checkZ l):=by
 unfold w25z w25 w25G checkZ;by_cases h32:32 < l.length
 ·rw [decide_eq_true (show (32:Int) < (l.length:Int) by omega),br_t,if_pos h32];exact w25_ur 4
 ·rw [decide_eq_false (show ¬ (32:Int) < (l.length:Int) by omega),br_f,if_neg h32]
  refine (congrArg (fun z:O=>z.bind w25un) (w25_loop l hl hr (fun z=>some (w25r0 z)) (fun _=>some (w25r0 0)) (fun _=>none) 2000 0 (by omega) (by omega))).trans ?_;rw [List.drop_zero];cases l.all validB <;> rfl
end Go.Proofs
/- The reference: the first two rules that contradict each other. -/
namespace Go.Proofs
open Go Go.Ax Go.Ax.Alg
abbrev S13:=((List ((List Int)×(Int×Int)))×Bool×Int×Int×Int×(List ((List Int)×(Int×Int)))×Int×Bool×Int×Int×Int×Int×Int)
abbrev Y13:=((List ((List Int)×(Int×Int)))×Bool×Int×Int×Int×(List ((List Int)×(Int×Int)))×Int×Bool×Int×Int×Int×Int×(List ((List Int)×(Int×Int)))×Int×Bool×Int×Int)
end Go.Proofs
/- What Bent makes of rules: some rules, not many more and not much longer. -/
namespace Go.Proofs
open Go Go.Ax Go.Ax.Alg
def Rough (m:Nat) (l:List Rl):Prop:=l.length<=40/\∀ r ∈ l,r.1.length<=m
theorem Rough.up {m m':Nat} {l:List Rl} (h:Rough m l) (hm:m<=m'):Rough m' l:=⟨h.1,fun r hr=>Nat.le_trans (h.2 r hr) hm⟩
theorem Rough.set {m:Nat} {l:List Rl} (h:Rough m l) (i:Nat) {x:Rl} (hx:x.1.length<=m):Rough m (l.set i x):=
 ⟨by rw [List.length_set];exact h.1,fun r hr=>by
  rcases List.mem_or_eq_of_mem_set hr with hr | rfl
  ·exact h.2 r hr
  ·exact hx⟩
theorem w10_loop0 {m:Nat} {l:List Rl} (hl:Rough m l) (hm:m<=100) (a b c:Int) (k0:Int×Int×Int×List Rl->O) (k1 k2:Unit->O):∀ (n i:Nat),l.length - i < n->i<=l.length->w10l0 2000 n (l,a,b,c,i,l.take i) k0 k1 k2=k0 (a,b,c,l)
 | 0,i,h,_=>by omega
 | n+1,i,h,hi=>by
   show w10F0 2000 _ _ l a b c i (l.take i)=_;unfold w10F0;have h40:=hl.1;by_cases hlt:i < l.length
   ·have hg:l[i]?=some l[i]:=List.getElem?_eq_getElem hlt
    have hr:=hl.2 _ (List.mem_of_getElem? hg);rw [decide_eq_true (show (i:Int) < (l.length:Int) by omega),br_t,gx_at hg];have e:l.take i++[([]++l[i].1,l[i].2.1,l[i].2.2)]=l.take (i+1):=by
     rw [List.take_add_one,hg];rfl
    rw [e,ck_of (lim_of (by rw [List.nil_append];omega) (by rw [List.nil_append];omega)),ck_of (lim_of (by simp only [List.length_take,List.length_cons,List.length_nil];omega) (by simp only [List.length_take,List.length_cons,List.length_nil];omega)),nxt (by omega)];exact w10_loop0 hl hm a b c k0 k1 k2 n (i+1) (by omega) (by omega)
   ·rw [decide_eq_false (show ¬ (i:Int) < (l.length:Int) by omega),br_f,List.take_of_length_le (by omega)]
theorem w10_loop1 {c:Int} (hc:I64 c) {k:Int} {z:List Rl} (h0:0<=k) (hk:k < z.length) (m:Nat) (hm:10<=m) (hm2:m<=100) (k0:List Rl×Int×List Int->O) (k1 k2:Unit->O):∀ (n:Nat) (t:List Int),12 - t.length < n->t.length<=m->∃ t',t'.length<=m/\w10l1 2000 n (c,k,z,k,t) k0 k1 k2=k0 (z,k,t')
 | 0,t,h,_=>by omega
 | n+1,t,h,ht=>by
   have hg:z[k.toNat]?=some z[k.toNat]:=List.getElem?_eq_getElem (by omega);obtain ⟨v,v0,v1,ev⟩:=w18_ex hc (show (1:Int)<=4 by omega) (by omega);have e:w10l1 2000 (n+1) (c,k,z,k,t) k0 k1 k2=w10F1 2000 (fun v0=>w10l1 2000 n (c,k,z,k,v0) k0 k1 k2) (fun y0 y1 y2=>k0 (y0,y1,y2)) c k z k t:=rfl;rw [e];unfold w10F1;have ck1:∀ x:O,ck (decide (0<=k/\k < (z.length:Int))) x=x:=fun x=>ck_of (decide_eq_true ⟨h0,hk⟩) x
   simp only [ck1,gn_of hg,ck_of (w18_p ev),w18_y0 ev,wr (x:=7+v) (by omega) (by omega),wr (x:=(t.length:Int)+1) (by omega) (by omega)];by_cases hlt:(t.length:Int) < 7+v
   ·rw [decide_eq_true hlt,br_t]
    rw [ck_of (lim_of (by simp;omega) (by simp;omega))];exact w10_loop1 hc h0 hk m hm hm2 k0 k1 k2 n _ (by simp;omega) (by simp;omega)
   ·rw [decide_eq_false hlt,br_f]
    exact ⟨t,ht,rfl⟩
theorem w10_loop2 {c:Int} (hc:I64 c) {k:Int} (h0:0<=k) (m:Nat) (k0:List Rl->O) (k1 k2:Unit->O):∀ (n:Nat) (z:List Rl),40 - z.length < n->k < z.length->Rough m z->∃ r,Rough m r/\w10l2 2000 n (c,k,z) k0 k1 k2=k0 r
 | 0,z,h,_,_=>by omega
 | n+1,z,h,hk,hz=>by
   have hg:z[k.toNat]?=some z[k.toNat]:=List.getElem?_eq_getElem (by omega);obtain ⟨v,v0,v1,ev⟩:=w18_ex hc (show (1:Int)<=4 by omega) (by omega);have e:w10l2 2000 (n+1) (c,k,z) k0 k1 k2=w10F2 2000 (fun v0=>w10l2 2000 n (c,k,v0) k0 k1 k2) (fun y0=>k0 y0) c k z:=rfl;rw [e];unfold w10F2;rw [ck_of (w18_p ev),w18_y0 ev,wr (x:=31+v) (by omega) (by omega)];by_cases hlt:(z.length:Int) < 31+v
   ·have hy:=hz.2 _ (List.mem_of_getElem? hg)
    rw [decide_eq_true hlt,br_t,gx_of h0 hg,ck_of (lim_of (by simp;omega) (by simp;omega))];refine w10_loop2 hc h0 m k0 k1 k2 n _ (by simp;omega) (by simp;omega) ⟨by simp;omega,fun r hr=>?_⟩;rcases List.mem_append.1 hr with hr | hr
    ·exact hz.2 r hr
    ·rw [List.mem_singleton.1 hr];exact hy
   ·rw [decide_eq_false hlt,br_f]
    exact ⟨z,hz,rfl⟩
theorem w10n0_eq {m:Nat} {l:List Rl} (hl:Rough m l) (hm:m<=100) (a b c:Int) (K:Int->Int->Int->List Rl->O):w10n0 2000 l a b c 0 [] K=K a b c l:=by
 unfold w10n0;exact w10_loop0 hl hm a b c (fun y=>K y.1 y.2.1 y.2.2.1 y.2.2.2) (fun _=>none) (fun _=>none) 2000 0 (by have:=hl.1;omega) (by omega)
theorem w10_ur (r:List Rl):(some (w10r0 r):O).bind w10un=some r:=rfl
theorem w10_ex {m:Nat} {l:List Rl} (hl:Rough m l) (hm:10<=m) (hm2:m<=99) {a b c:Int} (ha:I64 a) (hb:I64 b) (hc:I64 c):∃ r,Rough (m+1) r/\w10z 2000 l a b c=some r:=by
 unfold w10z w10 w10G;rw [w10n0_eq hl (by omega)];have h40:=hl.1;have hup:=hl.up (Nat.le_succ m);obtain ⟨v5,p5,q5,e5⟩:=w18_ex hc (show (1:Int)<=5 by omega) (by omega);obtain ⟨v6,p6,q6,e6⟩:=w18_ex hc (show (1:Int)<=6 by omega) (by omega);obtain ⟨v7,p7,q7,e7⟩:=w18_ex hc (show (1:Int)<=7 by omega) (by omega);obtain ⟨h,ph,qh,eh⟩:=w18_ex hb (show (1:Int)<=6 by omega) (by omega);by_cases hn:(l.length:Int)=0
 ·rw [decide_eq_true hn,br_t,ck_of (w18_p e5)]
  exact ⟨_,⟨by simp,fun r hr=>by rw [List.mem_singleton.1 hr];exact Nat.zero_le _⟩,w10_ur _⟩
 rw [decide_eq_false hn,br_f];obtain ⟨k,k0,k1,ek⟩:=w18_ex ha (show (1:Int)<=(l.length:Int) by omega) (by omega);obtain ⟨y,hg⟩:∃ y,l[k.toNat]?=some y:=⟨_,List.getElem?_eq_getElem (by omega)⟩
 have hy:=hl.2 _ (List.mem_of_getElem? hg);have hk:k.toNat < l.length:=by omega
 have ck1:∀ (z:List Rl),z.length=l.length->∀ x:O,ck (decide (0<=k/\k < (z.length:Int))) x=x:=fun z hz x=>ck_of (decide_eq_true ⟨k0,by omega⟩) x
 have ck2:∀ x:O,ck (decide (k.toNat=k.toNat)) x=x:=fun x=>ck_of (decide_eq_true rfl) x
 have hg1:∀ x:Rl,(l.set k.toNat x)[k.toNat]?=some x:=fun x=>List.getElem?_set_self hk
 rw [w18_p ek,w18_y0 ek,w18_p eh,w18_y0 eh,w18_p e5,w18_y0 e5,w18_p e6,w18_y0 e6,w18_p e7,w18_y0 e7];rw [ck_t,ck_t];by_cases c0:h=0
 ·rw [decide_eq_true c0,br_t,ck_t,ck1 l rfl,gn_of hg]
  exact ⟨_,hup.set _ (by show y.1.length<=m+1;omega),w10_ur _⟩
 rw [decide_eq_false c0,br_f];by_cases c1:h=1
 ·obtain ⟨u,hu⟩:∃ u,([-10001,-10000,9999,10000,0,-1]:List Int)[v6.toNat]?=some u:=⟨_,List.getElem?_eq_getElem (by show v6.toNat < 6;omega)⟩
  rw [decide_eq_true c1,br_t,ck_t,ck_of (decide_eq_true ⟨p6,q6⟩),gn_of hu,ck1 l rfl,gn_of hg];exact ⟨_,hup.set _ (by show y.1.length<=m+1;omega),w10_ur _⟩
 rw [decide_eq_false c1,br_f];by_cases c2:h=2
 ·obtain ⟨u,hu⟩:∃ u,([0,16,-16,17,-17,1,-9223372036854775808]:List Int)[v7.toNat]?=some u:=⟨_,List.getElem?_eq_getElem (by show v7.toNat < 7;omega)⟩
  rw [decide_eq_true c2,br_t,gx_of k0 hg,ck1 l rfl,ck2,gn_of hg,ck_t,ck_of (decide_eq_true ⟨p7,q7⟩),gn_of hu,ck_of (lim_of (by simp;omega) (by simp;omega)),ck1 l rfl,ck2,gn_of hg,gx_of k0 hg];exact ⟨_,hup.set _ (by simp;omega),w10_ur _⟩
 rw [decide_eq_false c2,br_f,gx_of k0 hg];by_cases c3:h=3
 ·rw [decide_eq_true c3,br_t]
  obtain ⟨t',ht',e⟩:=w10_loop1 hc k0 k1 (m+1) (by omega) (by omega) (fun y=>gx y.1 y.2.1 fun y34=>some (w10r0 (y.1.set y.2.1.toNat (y.2.2,y34.2)))) (fun _=>none) (fun _=>none) 2000 y.1 (by omega) (by omega);refine ⟨l.set k.toNat (t',y.2),hup.set _ ht',(congrArg (fun z:O=>z.bind w10un) e).trans ?_⟩;simp only [];rw [gx_of k0 hg];exact w10_ur _
 rw [decide_eq_false c3,br_f,gx_of k0 hg];have hset:l.set k.toNat (y.1,y.2)=l:=by
  apply List.ext_getElem?;intro i;rw [List.getElem?_set];split
  ·rename_i hi
   subst hi;exact hg.symm
  ·rfl
 rw [hset];by_cases c4:h=4
 ·rw [decide_eq_true c4,br_t]
  obtain ⟨r,hr,e⟩:=w10_loop2 hc k0 (m+1) (fun y=>some (w10r0 y)) (fun _=>none) (fun _=>none) 2000 l (by omega) k1 hup;exact ⟨r,hr,(congrArg (fun z:O=>z.bind w10un) e).trans (w10_ur _)⟩
 rw [decide_eq_false c4,br_f,gx_of k0 hg,ck1 l rfl,ck2,gn_of hg];by_cases c5:(0:Int) < (y.1.length:Int)
 ·obtain ⟨u,hu⟩:∃ u,y.1[0]?=some u:=⟨_,List.getElem?_eq_getElem (by omega)⟩
  rw [decide_eq_true c5,br_t,ck1 l rfl,ck2,gn_of hg,ck1 l rfl,ck2,gn_of hg,ck_of (decide_eq_true ⟨by omega,c5⟩),gn_of hu,ck_of (decide_eq_true ⟨by omega,c5⟩),gn_of hu,gx_of k0 hg];exact ⟨_,hup.set _ (by simp;omega),w10_ur _⟩
 ·rw [decide_eq_false c5,br_f,gx_of k0 hg]
  exact ⟨_,hup.set _ (by show y.1.length<=m+1;omega),w10_ur _⟩
end Go.Proofs
