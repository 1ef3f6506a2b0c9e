/- RulesPrints in plain words. Conditions are in the theorems. -/
import Derived.Test.YtipllfcmdnellaaDoorGa
import Derived.Test.YtipllfcmdnellaaDoorF9
/- The law of texts: Print as the reference, and what it gives is read as the rules. -/
namespace Go.Proofs
open Go Go.Ax Go.Ax.Alg
theorem w8_loop (x:List Rl) (L:List (List Rl)) (hL:L.length < 50) (hr:∀ l ∈ L,Rough 99 l) (k0:Bool->O) (k1:Unit->O) (k2:Unit->O):∀ (n i:Nat),L.length - i < n->i<=L.length->w8l0 2000 n (x,(i:Int),L) k0 k1 k2=k1 ()
 | 0,i,h,_=>by omega
 | n+1,i,h,hi=>by
   show w8F0 2000 _ _ _ x L i=_;unfold w8F0;by_cases hlt:i < L.length
   ·have hg:L[i]?=some L[i]:=List.getElem?_eq_getElem hlt
    have hm:=hr _ (List.mem_of_getElem? hg);rw [decide_eq_true (show (i:Int) < (L.length:Int) by omega),br_t,gx_at hg,gx_at hg,nxt (by omega)];generalize L[i]=l at hm hg;have hl:=hm.1;have hrl:∀ r ∈ l,r.1.length < 150:=fun r hr=>by have:=hm.2 r hr;omega
    have e12:=w12_eq (l:=l) (by omega);have e22:=w22_eq l (by omega) hrl;have e23:=w23_eq l (by omega) hrl;have e25:=w25_eq l (by omega) hrl;have e24:=w24_print l;rw [ck_of (w12_p e12),w12_y0 e12,ck_of (w22_p e22),w22_y0 e22,ck_of (show w23p 2000 l=true by unfold w23p;rw [e23];rfl),show w23y0 2000 l=printZ l by unfold w23y0;rw [e23];rfl,decide_eq_false (fun h=>h rfl),br_f,ck_of (w24_p e24),gx_at hg,ck_of (show w25p 2000 l=true by unfold w25p;rw [e25];rfl),show w25y0 2000 l=checkZ l by unfold w25y0;rw [e25];rfl,w24_y2 e24,w24_y0 e24];simp only [];rw [decide_eq_false (show ¬ ((0:Int)≠0) from fun h=>h rfl)];by_cases h0:checkZ l=0
    ·have e27:=w27_eq (l:=l) (by omega)
     have e26:=w26_refl (l:=l) (by omega) hrl;rw [decide_eq_true h0,show readZ l=l from if_pos h0,ck_of (show (!(true&&!false)||w27p 2000 l)=true from w27_p e27),w27_y0 e27];show gx L (i:Int) _=_;rw [gx_at hg,ck_of (show (!(true&&!false)||w26p 2000 l l)=true from w26_p e26),w26_y0 e26];exact w8_loop x L hL hr k0 k1 k2 n (i+1) (by omega) (by omega)
    ·rw [decide_eq_false h0]
     exact w8_loop x L hL hr k0 k1 k2 n (i+1) (by omega) (by omega)
   ·rw [decide_eq_false (show ¬ (i:Int) < (L.length:Int) by omega),br_f]
theorem rough_good8 {l:List Rl} (h:Good 6 l):Rough 10 l:=⟨by have:=h.1;omega,fun r hr=>by have:=(VR.of (h.2 r hr)).l;omega⟩
theorem w8_ur (x:Bool):(some (w8r0 x):O).bind w8un=some x:=rfl
theorem law8 {l:List Int} (hl:∀ x ∈ l,I64 x) {a b c:Int} (ha:I64 a) (hb:I64 b) (hc:I64 c):w8z 2000 l a b c=some true:=by
 unfold w8z w8 w8G;obtain ⟨L,hL,e9⟩:=w9_ex hl;have h0:=rough_good8 hL;obtain ⟨M,h1,e1⟩:=w10_ex h0 (by omega) (by omega) ha hb hc;have hd:I64 (b.tdiv 6):=by
  obtain ⟨b1,b2⟩:=hb;rcases Int.le_total 0 b with h | h
  ·have q1:=Int.tdiv_nonneg h (show (0:Int)<=6 by omega)
   have q2:=Int.tdiv_le_self (b:=6) h;exact ⟨by omega,by omega⟩
  ·have h':0 <= -b:=by omega
   have q1:=Int.tdiv_nonneg h' (show (0:Int)<=6 by omega);have q2:=Int.tdiv_le_self (b:=6) h';rw [Int.neg_tdiv] at q1 q2;exact ⟨by omega,by omega⟩
 have ew:IntKind.i64.wrap (b.tdiv 6)=b.tdiv 6:=wr hd.1 hd.2;obtain ⟨K,h2,e2⟩:=w10_ex h1 (by omega) (by omega) hc hd ha;rw [ck_of (w9_p e9),w9_y0 e9,ck_of (w10_p e1),w10_y0 e1,ck_t,ew,ck_of (w10_p e2),w10_y0 e2];refine (congrArg (fun z:O=>z.bind w8un) (w8_loop L [L,M,K,[]] (by simp) (fun l hl=>?_) (fun z=>some (w8r0 z)) (fun _=>ck true <| some (w8r0 true)) (fun _=>none) 2000 0 (by simp) (by simp))).trans ?_
 ·simp only [List.mem_cons,List.not_mem_nil,or_false] at hl
  rcases hl with rfl | rfl | rfl | rfl
  ·exact h0.up (by omega)
  ·exact h1.up (by omega)
  ·exact h2.up (by omega)
  ·exact ⟨by simp,fun r hr=>by cases hr⟩
 ·rw [ck_t]
  exact w8_ur true
end Go.Proofs
