/- Rules made of numbers. Conditions are in the theorems. -/
import Derived.Test.YtipllfcmdnellaaDoorG1
/- Rules made of numbers are valid. -/
namespace Go.Proofs
open Go Go.Ax Go.Ax.Alg
theorem tmod_b {a b:Int} (ha:0<=a) (hb:0 < b):0<=a.tmod b/\a.tmod b < b:=⟨Int.tmod_nonneg _ ha,Int.tmod_lt_of_pos _ hb⟩
theorem w18_ex {n most:Int} (hn:I64 n) (h1:1<=most) (h2:most<=1048576):∃ r:Int,0<=r/\r < most/\w18z 2000 n most=some r:=by
 unfold w18z w18 w18G;obtain ⟨n1,n2⟩:=hn;rw [decide_eq_false (show ¬ most < 1 by omega)];simp only [br_f];rw [ck_of (decide_eq_true (show most≠0 by omega)),ck_of (decide_eq_true (show most≠0 by omega))];by_cases h:n < 0
 ·have e:IntKind.i64.wrap (-IntKind.i64.wrap (n+1)) = -(n+1):=by rw [wr (x:=n+1) (by omega) (by omega),wr (by omega) (by omega)]
  rw [decide_eq_true h,br_t,e];have:=tmod_b (a:=-(n+1)) (b:=most) (by omega) (by omega);exact ⟨_,this.1,this.2,rfl⟩
 ·rw [decide_eq_false h,br_f]
  have:=tmod_b (a:=n) (b:=most) (by omega) (by omega);exact ⟨_,this.1,this.2,rfl⟩
theorem w28_ex {l:List Int} (hl:∀ x ∈ l,I64 x) (i:Int) {most:Int} (h1:1<=most) (h2:most<=1048576):∃ r:Int,0<=r/\r < most/\w28z 2000 l i most=some r:=by
 unfold w28z w28 w28G;by_cases h:i < 0\/(l.length:Int)<=i
 ·rw [show (decide (i < 0)||decide ((l.length:Int)<=i))=true by rcases h with h | h <;> simp [h],br_t]
  exact ⟨0,by omega,by omega,rfl⟩
 ·have hi:i.toNat < l.length:=by omega
  have hg:l[i.toNat]?=some l[i.toNat]:=List.getElem?_eq_getElem hi;obtain ⟨r,r0,r1,e⟩:=w18_ex (hl _ (List.mem_of_getElem? hg)) h1 h2;rw [decide_eq_false (show ¬ i < 0 by omega),decide_eq_false (show ¬ (l.length:Int)<=i by omega),Bool.or_self,br_f,gx_of (by omega) hg,ck_of (w18_p e),w18_y0 e];exact ⟨r,r0,r1,rfl⟩
theorem terms_app:∀ (l:List Int) (last t:Int),termsB last l=true->(∀ x ∈ l,num x < num t)->last < num t->-16<=t->t<=16->termsB last (l++[t])=true
 | [],last,t,_,_,h1,h2,h3=>by
   show (!(decide (t < -16)||decide (16 < t)||decide (num t<=last))&&true)=true;rw [decide_eq_false (show ¬ t < -16 by omega),decide_eq_false (show ¬ 16 < t by omega),decide_eq_false (show ¬ num t<=last by omega)];rfl
 | s::r,last,t,h,hx,h1,h2,h3=>by
   have h':(!(decide (s < -16)||decide (16 < s)||decide (num s<=last))&&termsB (num s) r)=true:=h;rw [Bool.and_eq_true] at h';show (!(decide (s < -16)||decide (16 < s)||decide (num s<=last))&&termsB (num s) (r++[t]))=true;rw [h'.1,terms_app r (num s) t h'.2 (fun x hx'=>hx x (List.mem_cons_of_mem _ hx')) (hx s List.mem_cons_self) h2 h3];rfl
abbrev S9:=((List Int)×Int×Int×Int×Int×(List Int)×Int×Bool×Bool×Bool×(List Int)×Int×Int×Int×(List Int)×Int×Int×Int×Int×Int×Int×Int×Int×(List Int)×Int×Int×Int×Int×Int×Int×(List ((List Int)×(Int×Int)))×(List Int)×Int×Int×(List Int))
abbrev Y9:=((List Int)×Int×Int×Int×Int×(List Int)×Int×Bool×Bool×Bool×(List Int)×Int×Int×Int×(List Int)×Int×Int×Int×Int×Int×Int×Int×Int×(List Int)×Int×Int×Int×Int×Int×Int×Int×Bool×Bool×Bool×(List ((List Int)×(Int×Int)))×(List Int)×Int×Int×(List Int))
theorem w9_step (l:List Int) (hl:∀ x ∈ l,I64 x) (f:Nat) (hf1:1<=f) (P:O->Prop) (self:Int->Int->List Int->O) (v0:(List Int)) (v1:Int) (v2:Int) (v3:Int) (v4:Int) (v5:(List Int)) (v6:Int) (v7:Bool) (v8:Bool) (v9:Bool) (v10:(List Int)) (v11:Int) (v12:Int) (v13:Int) (v14:(List Int)) (v15:Int) (v16:Int) (v17:Int) (v18:Int) (v19:Int) (v20:Int) (v21:Int) (v22:Int) (v23:(List Int)) (v24:Int) (v25:Int) (v26:Int) (v27:Int) (v28:Int) (v29:Int) (v30:(List ((List Int)×(Int×Int)))) (v31:(List Int)) (v32:Int) (v33:Int) (v34:(List Int)) (k0:(List Int)->Int->Int->Int->Int->(List Int)->Int->Bool->Bool->Bool->(List Int)->Int->Int->Int->(List Int)->Int->Int->Int->Int->Int->Int->Int->Int->(List Int)->Int->Int->Int->Int->Int->Int->Int->Bool->Bool->Bool->(List ((List Int)×(Int×Int)))->(List Int)->Int->Int->(List Int)->O) (h29:v29=(f:Int)) (h0:v0=l) (ht:termsB 0 v34=true) (hn:∀ t ∈ v34,num t < f) (h8:v34.length<=8)
    (hs:∀ K T,f<=16->termsB 0 T=true->(∀ t ∈ T,num t < ((f+1:Nat):Int))->T.length<=8->P (self K ((f+1:Nat):Int) T)) (hk:∀ b1 b2 b3,P (k0 v0 v1 v2 v3 v4 v5 v6 v7 v8 v9 v10 v11 v12 v13 v14 v15 v16 v17 v18 v19 v20 v21 v22 v23 v24 v25 v26 v27 v28 v29 v29 b1 b2 b3 v30 v31 v32 v33 v34)):P (w9F0 2000 self k0 v0 v1 v2 v3 v4 v5 v6 v7 v8 v9 v10 v11 v12 v13 v14 v15 v16 v17 v18 v19 v20 v21 v22 v23 v24 v25 v26 v27 v30 v31 v32 v33 v28 v29 v34):=by
 unfold w9F0;obtain ⟨a,a0,a1,ea⟩:=w28_ex hl (IntKind.i64.wrap (IntKind.i64.wrap (4 * v1)+3)) (most:=4) (by omega) (by omega);obtain ⟨b,b0,b1,eb⟩:=w28_ex hl (IntKind.i64.wrap (IntKind.i64.wrap (4 * v1)+3)) (most:=1048576) (by omega) (by omega);cases hc:decide (v29<=16)&&decide ((v34.length:Int) < 8) with
 | false=>
   rw [br_f];exact hk _ _ _
 | true=>
   rw [Bool.and_eq_true,decide_eq_true_eq,decide_eq_true_eq] at hc;have hc1:=hc.1;rw [h29] at hc1;have ef:IntKind.i64.wrap (v29+(1:Int))=((f+1:Nat):Int):=by rw [h29];exact nxt (by omega)
   rw [h0,br_t,ef,w28_p ea,w28_p eb,w28_y0 ea,w28_y0 eb,ck_of (Bool.or_true _),ck_of (Bool.or_true _),ck_t,ck_t,ck_t,ck_of (decide_eq_true (show ((f+1:Nat):Int)≠0 by omega))];cases hq:(decide (v29<=3)||decide (a=0))&&decide (0 < v28.tmod 3) with
   | false=>
     rw [br_f];exact hs _ _ (by omega) ht (fun t h=>by have:=hn t h;omega) h8
   | true=>
     rw [Bool.and_eq_true,decide_eq_true_eq] at hq;have hm:=Int.tmod_lt_of_pos v28 (show (0:Int) < 3 by omega);have e1:IntKind.i64.wrap (2 * v28.tmod 3)=2 * v28.tmod 3:=wr (by omega) (by omega);have e2:IntKind.i64.wrap (2 * v28.tmod 3 - 3)=2 * v28.tmod 3 - 3:=wr (by omega) (by omega);have e3:IntKind.i64.wrap (v29 * (2 * v28.tmod 3 - 3))=(f:Int)\/IntKind.i64.wrap (v29 * (2 * v28.tmod 3 - 3)) = -(f:Int):=by
      rw [h29];rcases (show v28.tmod 3=1\/v28.tmod 3=2 by omega) with h | h
      ·right;rw [h,show (2 * 1 - 3:Int) = -1 from rfl,wr (by omega) (by omega)];omega
      ·left;rw [h,show (2 * 2 - 3:Int)=1 from rfl,wr (by omega) (by omega)];omega
     rw [br_t,e1,e2,ck_of (lim_of (by simp;omega) (by simp;omega))];generalize IntKind.i64.wrap (v29 * (2 * v28.tmod 3 - 3))=t at e3;have ent:num t=(f:Int):=by unfold num;omega
     exact hs _ _ (by omega) (terms_app _ 0 t ht (fun x hx=>by rw [ent];exact hn x hx) (by omega) (by omega) (by omega)) (fun s hs=>by
      rcases List.mem_append.1 hs with hs | hs
      ·have:=hn s hs;omega
      ·rw [List.mem_singleton.1 hs,ent];omega) (by
      rw [List.length_append];show _+1<=8;omega)
theorem w9_in (l:List Int) (hl:∀ x ∈ l,I64 x) (k0:Y9->O) (k1 k2:Unit->O) (R:O->Prop) (i d a:Int) (o:List Rl):∀ (n f:Nat) (x:S9),17 - f < n->1<=f->f<=17->x.1=l->x.2.1=i->x.2.2.2.2.2.2.2.2.2.2.2.2.2.2.2.2.2.2.2.2.2.2.2.2.2.2.2.2.2.2.1=o->x.2.2.2.2.2.2.2.2.2.2.2.2.2.2.2.2.2.2.2.2.2.2.2.2.2.2.2.2.2.2.2.2.1=d->x.2.2.2.2.2.2.2.2.2.2.2.2.2.2.2.2.2.2.2.2.2.2.2.2.2.2.2.2.2.2.2.2.2.1=a->x.2.2.2.2.2.2.2.2.2.2.2.2.2.2.2.2.2.2.2.2.2.2.2.2.2.2.2.2.2.1=(f:Int)->termsB 0 x.2.2.2.2.2.2.2.2.2.2.2.2.2.2.2.2.2.2.2.2.2.2.2.2.2.2.2.2.2.2.2.2.2.2=true->(∀ t ∈ x.2.2.2.2.2.2.2.2.2.2.2.2.2.2.2.2.2.2.2.2.2.2.2.2.2.2.2.2.2.2.2.2.2.2,num t < f)->(x.2.2.2.2.2.2.2.2.2.2.2.2.2.2.2.2.2.2.2.2.2.2.2.2.2.2.2.2.2.2.2.2.2.2).length<=8->
    (∀ y:Y9,y.1=l->y.2.1=i->y.2.2.2.2.2.2.2.2.2.2.2.2.2.2.2.2.2.2.2.2.2.2.2.2.2.2.2.2.2.2.2.2.2.2.1=o->y.2.2.2.2.2.2.2.2.2.2.2.2.2.2.2.2.2.2.2.2.2.2.2.2.2.2.2.2.2.2.2.2.2.2.2.2.1=d->y.2.2.2.2.2.2.2.2.2.2.2.2.2.2.2.2.2.2.2.2.2.2.2.2.2.2.2.2.2.2.2.2.2.2.2.2.2.1=a->termsB 0 y.2.2.2.2.2.2.2.2.2.2.2.2.2.2.2.2.2.2.2.2.2.2.2.2.2.2.2.2.2.2.2.2.2.2.2.2.2.2=true->(y.2.2.2.2.2.2.2.2.2.2.2.2.2.2.2.2.2.2.2.2.2.2.2.2.2.2.2.2.2.2.2.2.2.2.2.2.2.2).length<=8->R (k0 y))->R (w9l0 2000 n x k0 k1 k2)
 | 0,f,_,h,_,_,_,_,_,_,_,_,_,_,_,_=>by omega
 | n+1,f,x,h,hf1,hf2,h0,hi,ho,hd,ha,h29,ht,hn,h8,hR=>by
   refine w9_step l hl f hf1 R (fun v0 v1 v2=>w9l0 2000 n (x.1,x.2.1,x.2.2.1,x.2.2.2.1,x.2.2.2.2.1,x.2.2.2.2.2.1,x.2.2.2.2.2.2.1,x.2.2.2.2.2.2.2.1,x.2.2.2.2.2.2.2.2.1,x.2.2.2.2.2.2.2.2.2.1,x.2.2.2.2.2.2.2.2.2.2.1,x.2.2.2.2.2.2.2.2.2.2.2.1,x.2.2.2.2.2.2.2.2.2.2.2.2.1,x.2.2.2.2.2.2.2.2.2.2.2.2.2.1,x.2.2.2.2.2.2.2.2.2.2.2.2.2.2.1,x.2.2.2.2.2.2.2.2.2.2.2.2.2.2.2.1,x.2.2.2.2.2.2.2.2.2.2.2.2.2.2.2.2.1,x.2.2.2.2.2.2.2.2.2.2.2.2.2.2.2.2.2.1,x.2.2.2.2.2.2.2.2.2.2.2.2.2.2.2.2.2.2.1,x.2.2.2.2.2.2.2.2.2.2.2.2.2.2.2.2.2.2.2.1,x.2.2.2.2.2.2.2.2.2.2.2.2.2.2.2.2.2.2.2.2.1,x.2.2.2.2.2.2.2.2.2.2.2.2.2.2.2.2.2.2.2.2.2.1,x.2.2.2.2.2.2.2.2.2.2.2.2.2.2.2.2.2.2.2.2.2.2.1,x.2.2.2.2.2.2.2.2.2.2.2.2.2.2.2.2.2.2.2.2.2.2.2.1,x.2.2.2.2.2.2.2.2.2.2.2.2.2.2.2.2.2.2.2.2.2.2.2.2.1,x.2.2.2.2.2.2.2.2.2.2.2.2.2.2.2.2.2.2.2.2.2.2.2.2.2.1,x.2.2.2.2.2.2.2.2.2.2.2.2.2.2.2.2.2.2.2.2.2.2.2.2.2.2.1,x.2.2.2.2.2.2.2.2.2.2.2.2.2.2.2.2.2.2.2.2.2.2.2.2.2.2.2.1,v0,v1,x.2.2.2.2.2.2.2.2.2.2.2.2.2.2.2.2.2.2.2.2.2.2.2.2.2.2.2.2.2.2.1,x.2.2.2.2.2.2.2.2.2.2.2.2.2.2.2.2.2.2.2.2.2.2.2.2.2.2.2.2.2.2.2.1,x.2.2.2.2.2.2.2.2.2.2.2.2.2.2.2.2.2.2.2.2.2.2.2.2.2.2.2.2.2.2.2.2.1,x.2.2.2.2.2.2.2.2.2.2.2.2.2.2.2.2.2.2.2.2.2.2.2.2.2.2.2.2.2.2.2.2.2.1,v2) k0 k1 k2) x.1 x.2.1 x.2.2.1 x.2.2.2.1 x.2.2.2.2.1 x.2.2.2.2.2.1 x.2.2.2.2.2.2.1 x.2.2.2.2.2.2.2.1 x.2.2.2.2.2.2.2.2.1 x.2.2.2.2.2.2.2.2.2.1 x.2.2.2.2.2.2.2.2.2.2.1 x.2.2.2.2.2.2.2.2.2.2.2.1 x.2.2.2.2.2.2.2.2.2.2.2.2.1 x.2.2.2.2.2.2.2.2.2.2.2.2.2.1 x.2.2.2.2.2.2.2.2.2.2.2.2.2.2.1 x.2.2.2.2.2.2.2.2.2.2.2.2.2.2.2.1 x.2.2.2.2.2.2.2.2.2.2.2.2.2.2.2.2.1 x.2.2.2.2.2.2.2.2.2.2.2.2.2.2.2.2.2.1 x.2.2.2.2.2.2.2.2.2.2.2.2.2.2.2.2.2.2.1 x.2.2.2.2.2.2.2.2.2.2.2.2.2.2.2.2.2.2.2.1 x.2.2.2.2.2.2.2.2.2.2.2.2.2.2.2.2.2.2.2.2.1 x.2.2.2.2.2.2.2.2.2.2.2.2.2.2.2.2.2.2.2.2.2.1 x.2.2.2.2.2.2.2.2.2.2.2.2.2.2.2.2.2.2.2.2.2.2.1 x.2.2.2.2.2.2.2.2.2.2.2.2.2.2.2.2.2.2.2.2.2.2.2.1 x.2.2.2.2.2.2.2.2.2.2.2.2.2.2.2.2.2.2.2.2.2.2.2.2.1 x.2.2.2.2.2.2.2.2.2.2.2.2.2.2.2.2.2.2.2.2.2.2.2.2.2.1 x.2.2.2.2.2.2.2.2.2.2.2.2.2.2.2.2.2.2.2.2.2.2.2.2.2.2.1 x.2.2.2.2.2.2.2.2.2.2.2.2.2.2.2.2.2.2.2.2.2.2.2.2.2.2.2.1 x.2.2.2.2.2.2.2.2.2.2.2.2.2.2.2.2.2.2.2.2.2.2.2.2.2.2.2.2.1 x.2.2.2.2.2.2.2.2.2.2.2.2.2.2.2.2.2.2.2.2.2.2.2.2.2.2.2.2.2.1 x.2.2.2.2.2.2.2.2.2.2.2.2.2.2.2.2.2.2.2.2.2.2.2.2.2.2.2.2.2.2.1 x.2.2.2.2.2.2.2.2.2.2.2.2.2.2.2.2.2.2.2.2.2.2.2.2.2.2.2.2.2.2.2.1 x.2.2.2.2.2.2.2.2.2.2.2.2.2.2.2.2.2.2.2.2.2.2.2.2.2.2.2.2.2.2.2.2.1 x.2.2.2.2.2.2.2.2.2.2.2.2.2.2.2.2.2.2.2.2.2.2.2.2.2.2.2.2.2.2.2.2.2.1 x.2.2.2.2.2.2.2.2.2.2.2.2.2.2.2.2.2.2.2.2.2.2.2.2.2.2.2.2.2.2.2.2.2.2 (fun y0 y1 y2 y3 y4 y5 y6 y7 y8 y9 y10 y11 y12 y13 y14 y15 y16 y17 y18 y19 y20 y21 y22 y23 y24 y25 y26 y27 y28 y29 y30 y31 y32 y33 y34 y35 y36 y37 y38=>k0 (y0,y1,y2,y3,y4,y5,y6,y7,y8,y9,y10,y11,y12,y13,y14,y15,y16,y17,y18,y19,y20,y21,y22,y23,y24,y25,y26,y27,y28,y29,y30,y31,y32,y33,y34,y35,y36,y37,y38)) h29 h0 ht hn h8 (fun K T hf ht' hn' h8'=>?_) (fun b1 b2 b3=>?_)
   ·exact w9_in l hl k0 k1 k2 R i d a o n (f+1) _ (by omega) (by omega) (by omega) h0 hi ho hd ha rfl ht' hn' h8' hR
   ·exact hR _ h0 hi ho hd ha ht h8
end Go.Proofs
/- Rules made of numbers, and rules of the package. -/
namespace Go.Proofs
open Go Go.Ax Go.Ax.Alg
theorem pick10 {v:Int} (h0:0<=v) (h:v < 10):∃ y:Int,-10000<=y/\y<=9999/\([0,1,2,60,9999,-1,-2,-3,-61,-10000]:List Int)[v.toNat]?=some y:=by
 have hb:∀ y ∈ ([0,1,2,60,9999,-1,-2,-3,-61,-10000]:List Int),-10000<=y/\y<=9999:=by decide
 have hi:v.toNat < ([0,1,2,60,9999,-1,-2,-3,-61,-10000]:List Int).length:=by show v.toNat < 10;omega
 have hg:=List.getElem?_eq_getElem hi;have:=hb _ (List.mem_of_getElem? hg);exact ⟨_,this.1,this.2,hg⟩
theorem valid_of {r:Rl} (ht:termsB 0 r.1=true) (h8:r.1.length<=8) (h1:0<=r.2.1) (h2:r.2.1 < 3) (h3:-10000<=r.2.2) (h4:r.2.2<=9999):validB r=true:=by
 unfold validB;rw [ht,decide_eq_true (show (r.1.length:Int)<=8 by omega),decide_eq_true h1,decide_eq_true h2,decide_eq_true h3,decide_eq_true h4];rfl
def Good (n:Nat) (l:List Rl):Prop:=l.length<=n/\∀ r ∈ l,validB r=true
theorem w9_loop (l:List Int) (hl:∀ x ∈ l,I64 x) (k0:List Rl->O) (k1 k2:Unit->O):∀ (n i:Nat) (o:List Rl),7 - i < n->i<=6->Good i o->∃ r,Good 6 r/\w9l1 2000 n (l,(i:Int),o) k0 k1 k2=k0 r
 | 0,i,_,h,_,_=>by omega
 | n+1,i,o,h,hi,ho=>by
   show ∃ r,Good 6 r/\w9F1 2000 (w9n0 2000) (fun v0 v1 v2=>w9l1 2000 n (v0,v1,v2) k0 k1 k2) (fun y0=>k0 y0) l (i:Int) o=k0 r
   unfold w9F1;cases hc:decide (IntKind.i64.wrap (IntKind.i64.wrap (4 * (i:Int))+3) < (l.length:Int))&&decide ((i:Int) < 6) with
   | false=>
     rw [br_f];exact ⟨o,⟨by have:=ho.1;omega,ho.2⟩,rfl⟩
   | true=>
     rw [Bool.and_eq_true,decide_eq_true_eq,decide_eq_true_eq] at hc;obtain ⟨d,d0,d1,ed⟩:=w28_ex hl (IntKind.i64.wrap (4 * (i:Int))) (most:=3) (by omega) (by omega);obtain ⟨v,v0,v1,ev⟩:=w28_ex hl (IntKind.i64.wrap (IntKind.i64.wrap (4 * (i:Int))+1)) (most:=10) (by omega) (by omega);obtain ⟨k,_,_,ek⟩:=w28_ex hl (IntKind.i64.wrap (IntKind.i64.wrap (4 * (i:Int))+2)) (most:=1048576) (by omega) (by omega);obtain ⟨a,a0,a1,ea⟩:=pick10 v0 v1;rw [br_t,ck_of (w28_p ed),ck_of (w28_p ev),w28_y0 ev,gx_of v0 ea,ck_of (w28_p ek),w28_y0 ed];refine w9_in l hl _ _ _ (fun z=>∃ r,Good 6 r/\z=k0 r) (i:Int) d a o 2000 1 _ (by omega) (by omega) (by omega) rfl rfl rfl rfl rfl rfl rfl (fun t h=>by cases h) (Nat.zero_le 8) (fun y e0 e1 e34 e36 e37 ht h8=>?_);simp only [];rw [e0,e1,e34,e36,e37];have hlen:=ho.1;rw [ck_of (lim_of (by rw [List.length_append];show (_+1) * _<=_;omega) (by rw [List.length_append];show _+1<=_;omega)),nxt (by omega)];refine w9_loop l hl k0 k1 k2 n (i+1) _ (by omega) (by omega) ⟨?_,?_⟩
     ·rw [List.length_append];show _+1<=_;omega
     ·intro r hr
      rcases List.mem_append.1 hr with hr | hr
      ·exact ho.2 r hr
      ·rw [List.mem_singleton.1 hr]
       exact valid_of ht h8 d0 d1 a0 a1
theorem w9_ex {l:List Int} (hl:∀ x ∈ l,I64 x):∃ r,Good 6 r/\w9z 2000 l=some r:=by
 unfold w9z w9 w9G;obtain ⟨r,hr,e⟩:=w9_loop l hl (fun z=>some (w9r0 z)) (fun _=>none) (fun _=>none) 2000 0 [] (by omega) (by omega) ⟨by decide,fun r h=>by cases h⟩;exact ⟨r,hr,(congrArg (fun z:O=>z.bind w9un) e).trans rfl⟩
theorem w12_loop (l:List Rl) (hl:l.length < 150) (k0:List Rl->O) (k1 k2:Unit->O):∀ (n i:Nat),l.length - i < n->i<=l.length->w12l0 2000 n (l,(i:Int),l.take i) k0 k1 k2=k0 l
 | 0,i,h,_=>by omega
 | n+1,i,h,hi=>by
   show w12F0 2000 _ _ l i (l.take i)=_;unfold w12F0;by_cases hlt:i < l.length
   ·have hg:l[i]?=some l[i]:=List.getElem?_eq_getElem hlt
    have e:l.take i++[l[i]]=l.take (i+1):=by rw [List.take_add_one,hg];rfl
    rw [decide_eq_true (show (i:Int) < (l.length:Int) by omega),br_t,gx_at hg,gx_at hg,gx_at hg,nxt (by omega),e,ck_of (lim_of (by simp;omega) (by simp;omega))];exact w12_loop l hl k0 k1 k2 n (i+1) (by omega) (by omega)
   ·rw [decide_eq_false (show ¬ (i:Int) < (l.length:Int) by omega),br_f,List.take_of_length_le (by omega)]
theorem w12_eq {l:List Rl} (hl:l.length < 150):w12z 2000 l=some l:=by
 unfold w12z w12 w12G;exact congrArg (fun z:O=>z.bind w12un) (w12_loop l hl (fun z=>some (w12r0 z)) (fun _=>none) (fun _=>none) 2000 0 (by omega) (by omega))
end Go.Proofs
