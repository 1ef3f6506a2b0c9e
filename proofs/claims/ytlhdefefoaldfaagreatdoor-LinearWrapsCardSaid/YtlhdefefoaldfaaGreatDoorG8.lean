/- Wrapping; the law in plain words. Conditions are in the theorems. -/
import Derived.Test.YtlhdefefoaldfaaGreatDoorG7
import Derived.Test.YtlhdefefoaldfaaGreatDoorG2
import Derived.Test.YtlhdefefoaldfaaGreatDoorF6
import Derived.Test.YtlhdefefoaldfaaGreatDoorG1
import Derived.Test.YtlhdefefoaldfaaGreatDoorE7
/- Wrapping: what both do. -/
namespace Go.Proofs
open Go Go.Ax Go.Ax.Alg
def toP (w ll f:Int):List Int→Int→Int
 | [],t=>t
 | p::ps,t=>toP w ll f ps (if f < p∧ll+p - f≤w then p else t)
def indE (f:Nat):Tx:=if 0 < f then [0,0] else []
def lineP (l:Tx) (f t:Nat):Tx:=indE f++(l.take t).drop f
def nextP (ps:List Int) (w:Int) (f:Nat):Nat:=(toP w ((indE f).length:Int) f ps f).toNat
def wrapP (l:Tx) (ps:List Int) (w:Int):Nat→Nat→List Tx→Option (List Tx)
 | 0,_,out=>some out
 | n+1,f,out=>if f < l.length then (if nextP ps w f≤f then none else wrapP l ps w n (nextP ps w f) (out++[lineP l f (nextP ps w f)])) else some out
theorem ind_len (f:Nat):(indE f).length≤2:=by unfold indE;split <;> simp
theorem to_or {w ll f:Int}:∀ (ps:List Int) (t:Int),toP w ll f ps t=t∨(toP w ll f ps t ∈ ps∧f < toP w ll f ps t∧ll+toP w ll f ps t - f≤w)
 | [],t=>.inl rfl
 | p::ps,t=>by
   unfold toP
   by_cases h:f < p∧ll+p - f≤w
   ·rw [if_pos h]
    rcases to_or (w:=w) (ll:=ll) (f:=f) ps p with e | ⟨e1,e2⟩
    ·rw [e];exact .inr ⟨List.mem_cons_self ..,h⟩
    ·exact .inr ⟨List.mem_cons_of_mem _ e1,e2⟩
   ·rw [if_neg h]
    rcases to_or (w:=w) (ll:=ll) (f:=f) ps t with e | ⟨e1,e2⟩
    ·exact .inl e
    ·exact .inr ⟨List.mem_cons_of_mem _ e1,e2⟩
theorem next_i {ps:List Int} {w:Int} {f:Nat}:((nextP ps w f:Nat):Int)=toP w ((indE f).length:Int) f ps f:=by
 unfold nextP
 rcases to_or (w:=w) (ll:=((indE f).length:Int)) (f:=(f:Int)) ps f with e | ⟨e1,e2,_⟩ <;> omega
theorem next_ge {ps:List Int} {w:Int} {f:Nat}:f≤nextP ps w f:=by
 have h:=next_i (ps:=ps) (w:=w) (f:=f)
 rcases to_or (w:=w) (ll:=((indE f).length:Int)) (f:=(f:Int)) ps f with e | ⟨e1,e2,_⟩ <;> omega
theorem next_le {ps:List Int} {w:Int} {f n:Nat} (hf:f≤n) (h:∀ p ∈ ps,p≤(n:Int)):nextP ps w f≤n:=by
 have h1:=next_i (ps:=ps) (w:=w) (f:=f)
 rcases to_or (w:=w) (ll:=((indE f).length:Int)) (f:=(f:Int)) ps f with e | ⟨e1,e2,_⟩
 ·omega
 ·have:=h _ e1;omega
theorem wrap_rows {l:Tx} {ps:List Int} {w:Int} {B:Nat} (hB:l.length+2≤B):∀ (n f:Nat) (out p:List Tx),(∀ r ∈ out,r.length≤B)→wrapP l ps w n f out=some p→(∀ r ∈ p,r.length≤B)∧p.length≤out.length+n
 | 0,f,out,p,h,e=>by unfold wrapP at e;cases e;exact ⟨h,by omega⟩
 | n+1,f,out,p,h,e=>by
   unfold wrapP at e
   split at e
   ·split at e
    ·cases e
    ·have:=wrap_rows hB n _ _ p (fun r hr=>by
      rcases List.mem_append.1 hr with hr | hr
      ·exact h r hr
      ·rw [List.mem_singleton] at hr
       subst hr
       have:=ind_len f
       unfold lineP
       simp
       omega) e
     refine ⟨this.1,?_⟩
     have h2:=this.2
     simp at h2
     omega
   ·cases e;exact ⟨h,by omega⟩
section
variable {N:Nat} {l:Tx} {ps:List Int} {w:Int} (hl:l.length≤2 ^ 20) (hp:∀ p ∈ ps,0≤p∧p≤(l.length:Int)) (hps:ps.length≤2 ^ 20)
include hl hp hps
theorem w47_loop {f:Nat} (hf:f≤l.length) {line:Tx} (hli:line.length≤2) {out:List Tx} {K:Int×Int×(List Int)×Int×(List UInt8)×(List (List UInt8))×(List UInt8)→O} {k1 k2:Unit→O}:∀ (r pre:List Int) (t:Int) (m:Nat),ps=pre++r→r.length < m→
    w47l1 N m (t,ps,(ps.length:Int),(pre.length:Int),(f:Int),ps,w,l,out,line) K k1 k2=K (toP w (line.length:Int) f r t,(f:Int),ps,w,l,out,line)
 | _,_,_,0,_,h=>by omega
 | [],pre,t,m+1,hs,_=>by
   show w47F1 _ _ _ _ _ _ _ _ _ _ _ _ _=_
   unfold w47F1
   simp only []
   have h0:ps.length=pre.length:=by rw [hs];simp
   rw [decide_eq_false (by omega),br_f]
   rfl
 | p::r,pre,t,m+1,hs,hm=>by
   have hlt:pre.length < ps.length:=by rw [hs];simp
   have hg:ps[pre.length]?=some p:=by rw [hs,List.getElem?_append_right (Nat.le_refl _)];simp
   have hpp:=hp p (by rw [hs];simp)
   have ih:=fun (t':Int)=>w47_loop (f:=f) hf (line:=line) hli (out:=out) (K:=K) (k1:=k1) (k2:=k2) r (pre++[p]) t' m (by rw [hs];simp) (by simp at hm;omega)
   have hpl:((pre++[p]).length:Int)=(pre.length:Int)+1:=by simp
   rw [hpl] at ih
   show w47F1 _ _ _ _ _ _ _ _ _ _ _ _ _=_
   unfold w47F1
   simp only []
   rw [decide_eq_true (by omega),br_t,gx_at hg,wr (x:=(line.length:Int)+p) (by omega) (by omega),wr (x:=(line.length:Int)+p - f) (by omega) (by omega),wr (x:=(pre.length:Int)+1) (by omega) (by omega)]
   unfold toP
   by_cases h:(f:Int) < p∧(line.length:Int)+p - f≤w
   ·rw [if_pos h,decide_eq_true h.1,decide_eq_true h.2]
    exact ih p
   ·rw [if_neg h,show (decide ((f:Int) < p)&&decide ((line.length:Int)+p - f≤w))=false by rw [← Bool.decide_and];exact decide_eq_false h]
    exact ih t
theorem w47_z (hN:ps.length < N) {f:Nat} (hf:f≤l.length) {out:List Tx} (ho:out.length≤2 ^ 30):w47z N f ps w l out=some (decide (f < nextP ps w f),((nextP ps w f:Nat):Int),ps,w,l,out++[lineP l f (nextP ps w f)]):=by
 have hn:=next_ge (ps:=ps) (w:=w) (f:=f)
 have hn':=next_le (ps:=ps) (w:=w) hf (fun p h=>(hp p h).2)
 have hi:=ind_len f
 have hsl:slc l (some (f:Int)) (some ((nextP ps w f:Nat):Int))=(l.take (nextP ps w f)).drop f:=by
  show (l.take _).drop _=_
  rw [Int.toNat_natCast,Int.toNat_natCast]
 unfold w47z w47 w47G
 have h0:∀ (K:Int→(List Int)→Int→(List UInt8)→(List (List UInt8))→(List UInt8)→O),w47n0 N (f:Int) ps w l out K=K f ps w l out (indE f):=fun K=>by
  unfold w47n0 w47l0 w47F0 indE
  simp only [ck_t]
  by_cases h:0 < f
  ·rw [decide_eq_true (by omega),br_t,if_pos h]
  ·rw [decide_eq_false (by omega),br_f,if_neg h]
 rw [h0]
 unfold w47n1
 refine (congrArg (fun z:O=>z.bind w47un) (w47_loop hl hp hps hf hi (out:=out) ps [] f N rfl hN)).trans ?_
 rw [← next_i]
 simp only [hsl]
 rw [ck_of (by unfold slcOk;exact decide_eq_true (by omega)),ck_of (limb (by simp;omega) (by omega))]
 rw [ck_of (show lim (out++[indE f++(l.take (nextP ps w f)).drop f]).length 24=true by unfold lim;simp;omega)]
 simp only [Int.ofNat_lt]
 rfl
theorem w24_loop (hN:ps.length < N) {K:Int→O} {k1:List Tx→O} {k2:Unit→O}:∀ (n f:Nat) (out:List Tx) (m:Nat),f≤l.length→l.length - f≤n→out.length+n≤2 ^ 29→n < m→
    w24l0 N m (l,(f:Int),ps,w,out) K k1 k2=(match wrapP l ps w n f out with | some p=>k1 p | none=>K 14)
 | _,_,_,0,_,_,_,h=>by omega
 | 0,f,out,m+1,hf,h,_,_=>by
   show w24F0 _ _ _ _ _ _ _ _ _=_
   unfold w24F0
   simp only []
   rw [decide_eq_false (by omega),br_f]
   rfl
 | n+1,f,out,m+1,hf,h,ho,hm=>by
   show w24F0 _ _ _ _ _ _ _ _ _=_
   unfold w24F0
   simp only []
   unfold wrapP
   by_cases hlt:f < l.length
   ·have hz:=w47_z (N:=N) (w:=w) hl hp hps hN hf (out:=out) (by omega)
    have p0:w47p N f ps w l out=true:=by unfold w47p;rw [hz];rfl
    have y0:w47y0 N f ps w l out=decide (f < nextP ps w f):=by unfold w47y0;rw [hz];rfl
    have y1:w47y1 N f ps w l out=((nextP ps w f:Nat):Int):=by unfold w47y1;rw [hz];rfl
    have y2:w47y2 N f ps w l out=ps:=by unfold w47y2;rw [hz];rfl
    have y3:w47y3 N f ps w l out=w:=by unfold w47y3;rw [hz];rfl
    have y4:w47y4 N f ps w l out=l:=by unfold w47y4;rw [hz];rfl
    have y5:w47y5 N f ps w l out=out++[lineP l f (nextP ps w f)]:=by unfold w47y5;rw [hz];rfl
    rw [decide_eq_true (by omega),br_t,if_pos hlt,p0,ck_t,y0,y1,y2,y3,y4,y5]
    by_cases h2:nextP ps w f≤f
    ·rw [decide_eq_false (by omega),Bool.not_false,br_t,if_pos h2]
    ·rw [decide_eq_true (by omega),Bool.not_true,br_f,if_neg h2]
     exact w24_loop hN n (nextP ps w f) _ m (next_le hf (fun p h=>(hp p h).2)) (by omega) (by simp;omega) (by omega)
   ·rw [decide_eq_false (by omega),br_f,if_neg hlt]
theorem w25_loop1 {f:Nat} (hf:f≤l.length) {line:Tx} (hli:line.length≤2) {out:List Tx} {K:Int×(List UInt8)×Int×Int×(List Int)×(List (List UInt8))×(List UInt8)→O} {k1 k2:Unit→O}:∀ (r pre:List Int) (t:Int) (m:Nat),ps=pre++r→r.length < m→
    w25l1 N m (w,l,(f:Int),t,(pre.length:Int),ps,out,line) K k1 k2=K (w,l,(f:Int),toP w (line.length:Int) f r t,ps,out,line)
 | _,_,_,0,_,h=>by omega
 | [],pre,t,m+1,hs,_=>by
   show w25F1 _ _ _ _ _ _ _ _ _ _ _=_
   unfold w25F1
   simp only []
   have h0:ps.length=pre.length:=by rw [hs];simp
   rw [decide_eq_false (by omega),br_f]
   rfl
 | p::r,pre,t,m+1,hs,hm=>by
   have hlt:pre.length < ps.length:=by rw [hs];simp
   have hg:ps[pre.length]?=some p:=by rw [hs,List.getElem?_append_right (Nat.le_refl _)];simp
   have hpp:=hp p (by rw [hs];simp)
   have ih:=fun (t':Int)=>w25_loop1 (f:=f) hf (line:=line) hli (out:=out) (K:=K) (k1:=k1) (k2:=k2) r (pre++[p]) t' m (by rw [hs];simp) (by simp at hm;omega)
   have hpl:((pre++[p]).length:Int)=(pre.length:Int)+1:=by simp
   rw [hpl] at ih
   show w25F1 _ _ _ _ _ _ _ _ _ _ _=_
   unfold w25F1
   simp only []
   rw [decide_eq_true (by omega),br_t,gx_at hg,wr (x:=(pre.length:Int)+1) (by omega) (by omega)]
   simp only [gc_at hg,gx_at hg]
   unfold toP
   by_cases h1:(f:Int) < p
   ·simp only [decide_eq_true h1,if_true,Bool.true_and]
    rw [wr (x:=(line.length:Int)+p) (by omega) (by omega),wr (x:=(line.length:Int)+p - f) (by omega) (by omega)]
    by_cases h2:(line.length:Int)+p - f≤w
    ·rw [if_pos ⟨h1,h2⟩,decide_eq_true h2]
     exact ih p
    ·rw [if_neg (fun h=>h2 h.2),decide_eq_false h2]
     exact ih t
   ·simp only [decide_eq_false h1,Bool.false_and]
    rw [if_neg (fun h=>h1 h.1)]
    exact ih t
theorem w25_loop (hN:ps.length < N) {K:Int→O} {k1:List Tx→O} {k2:Unit→O}:∀ (n f:Nat) (out:List Tx) (m:Nat),f≤l.length→l.length - f≤n→out.length+n≤2 ^ 29→n < m→
    w25l2 N m (w,l,(f:Int),ps,out) K k1 k2=(match wrapP l ps w n f out with | some p=>k1 p | none=>K 14)
 | _,_,_,0,_,_,_,h=>by omega
 | 0,f,out,m+1,hf,h,_,_=>by
   show w25F2 _ _ _ _ _ _ _ _ _ _ _=_
   unfold w25F2
   simp only []
   rw [decide_eq_false (by omega),br_f]
   rfl
 | n+1,f,out,m+1,hf,h,ho,hm=>by
   show w25F2 _ _ _ _ _ _ _ _ _ _ _=_
   unfold w25F2
   simp only []
   unfold wrapP
   by_cases hlt:f < l.length
   ·have hn:=next_ge (ps:=ps) (w:=w) (f:=f)
    have hn':=next_le (ps:=ps) (w:=w) hf (fun p h=>(hp p h).2)
    have hi:=ind_len f
    have hsl:slc l (some (f:Int)) (some ((nextP ps w f:Nat):Int))=(l.take (nextP ps w f)).drop f:=by
     show (l.take _).drop _=_
     rw [Int.toNat_natCast,Int.toNat_natCast]
    have h0:∀ (K:Int→(List UInt8)→Int→(List Int)→(List (List UInt8))→(List UInt8)→O),w25n0 N w l (f:Int) ps out K=K w l f ps out (indE f):=fun K=>by
     unfold w25n0 w25l0 w25F0 indE
     simp only []
     by_cases h:0 < f
     ·rw [decide_eq_true (by omega),br_t,if_pos h]
     ·rw [decide_eq_false (by omega),br_f,if_neg h]
    rw [decide_eq_true (by omega),br_t,if_pos hlt,h0]
    unfold w25n1
    refine (w25_loop1 hl hp hps hf hi (out:=out) ps [] f N rfl hN).trans ?_
    simp only []
    rw [← next_i]
    by_cases h2:nextP ps w f≤f
    ·rw [decide_eq_true (by omega),br_t,if_pos h2]
    ·rw [decide_eq_false (by omega),br_f,if_neg h2,hsl,ck_of (by unfold slcOk;exact decide_eq_true (by omega)),ck_of (limb (by simp;omega) (by omega))]
     rw [ck_of (show lim (out++[indE f++(l.take (nextP ps w f)).drop f]).length 24=true by unfold lim;simp;omega)]
     exact w25_loop hN n (nextP ps w f) _ m hn' (by omega) (by simp;omega) (by omega)
   ·rw [decide_eq_false (by omega),br_f,if_neg hlt]
end
theorem brk_in:∀ (s:Tx) (a:UInt8) (n:Nat),∀ p ∈ brkP a n s,(n:Int) < p∧p≤((n+(codeP a s).length:Nat):Int)
 | [],_,_,_,h=>by cases h
 | c::s,a,n,p,h=>by
   have hce:=(code_len [c] a).1
   simp only [codeP,List.append_nil,List.length_cons,List.length_nil] at hce
   unfold brkP at h
   unfold codeP
   rw [List.length_append]
   rcases List.mem_append.1 h with h | h
   ·split at h
    ·rw [List.mem_singleton] at h;omega
    ·cases h
   ·have:=brk_in s c (n+(cellP a c).length) p h
    omega
def placE (e:Ex):List Int:=brkE e++[((encE e).length:Int)]
theorem plac_in {e:Ex}:∀ p ∈ placE e,0≤p∧p≤((encE e).length:Int):=fun p hp=>by
 unfold placE at hp
 rcases List.mem_append.1 hp with hp | hp
 ·unfold brkE at hp
  split at hp
  ·rename_i hv
   have:=brk_in _ _ _ p hp
   rw [encE_v hv]
   simp
   omega
  ·cases hp
 ·rw [List.mem_singleton] at hp;omega
def wrapE (e:Ex) (w:Int):List Tx×Int:=
 if validE e=0 then (if w < 4∨40 < w then ([],5) else match wrapP (encE e) (placE e) w (encE e).length 0 [] with | some p=>(p,0) | none=>([],14)) else ([],validE e)
theorem wrapE_rows {e:Ex} {w:Int}:(∀ r ∈ (wrapE e w).1,r.length≤4099)∧(wrapE e w).1.length≤4097:=by
 have hel:=enc_len (e:=e)
 unfold wrapE
 split
 ·split
  ·simp
  ·split
   ·rename_i p h
    have:=wrap_rows (B:=4099) (by omega) _ _ _ _ (by simp) h
    refine ⟨this.1,?_⟩
    have:=this.2
    simp at this
    show p.length≤4097
    omega
   ·simp
 ·simp
section
variable {N:Nat} {e:Ex} {w:Int} (hN:70000≤N) (hs:sizeE e≤8500)
include hN hs
theorem w24_z:w24z N e.op e.num e.kids w=some (wrapE e w):=by
 have hel:=enc_len (e:=e)
 have hbl:=brkE_len (e:=e)
 unfold w24z w24 w24G wrapE
 simp only [Ex.eta,w10_p hN hs,w10_y0 hN hs,w10_y1 hN hs,ck_t]
 by_cases hv:validE e=0
 ·have h1:=w29_p (N:=N) (e:=e) (by omega) (by omega)
  have h2:=w29_y0 (N:=N) (e:=e) (by omega) (by omega)
  have h3:=w35_p (N:=N) (e:=e) (by omega) (by omega)
  have h4:=w35_y0 (N:=N) (e:=e) (by omega) (by omega)
  have h5:=w34_text (e:=e) hN
  have h6:w34p N (textE e)=true:=by unfold w34p;rw [h5];rfl
  have h7:w34y1 N (textE e)=brkE e:=by unfold w34y1 brkE;rw [h5,if_pos hv];rfl
  have hz:w12z N e.op e.num e.kids=some (0,brkE e):=by
   unfold w12z w12 w12G
   simp only [Ex.eta]
   rw [ck_of h1,h2,decide_eq_false (by simpa using hv),br_f,ck_of h3,h4,ck_of h6,h7];rfl
  have p12:w12p N e.op e.num e.kids=true:=by unfold w12p;rw [hz];rfl
  have y12:w12y1 N e.op e.num e.kids=brkE e:=by unfold w12y1;rw [hz];rfl
  rw [if_pos hv,decide_eq_false (by simpa using hv),br_f,← Bool.decide_or]
  by_cases hw:w < 4∨40 < w
  ·rw [if_pos hw,decide_eq_true hw,br_t];rfl
  ·rw [if_neg hw,decide_eq_false hw,br_f,p12,ck_t,y12]
   have hl:lim (brkE e++[((encE e).length:Int)]).length 8=true:=limb (by simp;omega) (by omega)
   rw [hl,ck_t]
   have hpl:(placE e).length≤17001:=by unfold placE;simp;omega
   unfold w24n0
   refine (congrArg (fun z:O=>z.bind w24un) (w24_loop (N:=N) (ps:=placE e) (w:=w) (by omega) plac_in (by omega) (by omega) (encE e).length 0 [] N (by omega) (by omega) (by simp;omega) (by omega))).trans ?_
   cases wrapP (encE e) (placE e) w (encE e).length 0 [] <;> rfl
 ·rw [if_neg hv,decide_eq_true hv,br_t];rfl
theorem w25_z:w25z N e.op e.num e.kids w=some (wrapE e w):=by
 have hel:=enc_len (e:=e)
 have hbl:=brkE_len (e:=e)
 unfold w25z w25 w25G wrapE
 simp only [Ex.eta,w11_p hN hs,w11_y0 hN hs,w11_y1 hN hs,ck_t]
 by_cases hv:validE e=0
 ·have h1:=w36_p (N:=N) (e:=e) (by omega) (by omega)
  have h2:=w36_y0 (N:=N) (e:=e) (by omega) (by omega)
  have h3:=w38_p (N:=N) (e:=e) (by omega) (by omega) (by omega)
  have h4:=w38_y0 (N:=N) (e:=e) (by omega) (by omega) (by omega)
  have h5:=w37_text (e:=e) hN
  have h6:w37p N (textE e)=true:=by unfold w37p;rw [h5];rfl
  have h7:w37y1 N (textE e)=brkE e:=by unfold w37y1 brkE;rw [h5,if_pos hv];rfl
  have hz:w13z N e.op e.num e.kids=some (0,brkE e):=by
   unfold w13z w13 w13G
   simp only [Ex.eta]
   rw [ck_of h1,h2,decide_eq_false (by simpa using hv),br_f,ck_of h3,h4,ck_of h6,h7];rfl
  have p13:w13p N e.op e.num e.kids=true:=by unfold w13p;rw [hz];rfl
  have y13:w13y1 N e.op e.num e.kids=brkE e:=by unfold w13y1;rw [hz];rfl
  rw [if_pos hv,decide_eq_false (by simpa using hv),br_f,← Bool.decide_or]
  by_cases hw:w < 4∨40 < w
  ·rw [if_pos hw,decide_eq_true hw,br_t];rfl
  ·rw [if_neg hw,decide_eq_false hw,br_f,p13,ck_t,y13]
   have hl:lim (brkE e++[((encE e).length:Int)]).length 8=true:=limb (by simp;omega) (by omega)
   rw [hl,ck_t]
   have hpl:(placE e).length≤17001:=by unfold placE;simp;omega
   unfold w25n2
   refine (congrArg (fun z:O=>z.bind w25un) (w25_loop (N:=N) (ps:=placE e) (w:=w) (by omega) plac_in (by omega) (by omega) (encE e).length 0 [] N (by omega) (by omega) (by simp;omega) (by omega))).trans ?_
   cases wrapP (encE e) (placE e) w (encE e).length 0 [] <;> rfl
 ·rw [if_neg hv,decide_eq_true hv,br_t];rfl
theorem w24_p:w24p N e.op e.num e.kids w=true:=by unfold w24p;rw [w24_z hN hs];rfl
theorem w24_y0:w24y0 N e.op e.num e.kids w=(wrapE e w).1:=by unfold w24y0;rw [w24_z hN hs];rfl
theorem w24_y1:w24y1 N e.op e.num e.kids w=(wrapE e w).2:=by unfold w24y1;rw [w24_z hN hs];rfl
theorem w25_p:w25p N e.op e.num e.kids w=true:=by unfold w25p;rw [w25_z hN hs];rfl
theorem w25_y0:w25y0 N e.op e.num e.kids w=(wrapE e w).1:=by unfold w25y0;rw [w25_z hN hs];rfl
theorem w25_y1:w25y1 N e.op e.num e.kids w=(wrapE e w).2:=by unfold w25y1;rw [w25_z hN hs];rfl
end
theorem w26_loop {N:Nat} {a b:List Tx} (hl:a.length≤2 ^ 40) (hr:∀ r ∈ a,r.length≤2 ^ 40∧r.length < N) {K:Bool→O} {k1 k2:Unit→O}:∀ (r r' pre pre':List Tx) (m:Nat),a=pre++r→b=pre'++r'→pre.length=pre'.length→r.length=r'.length→r.length < m→
    w26l0 N m (a,b,(pre.length:Int)) K k1 k2=if r=r' then k1 () else K false
 | _,_,_,_,0,_,_,_,_,h=>by omega
 | [],r',pre,pre',m+1,ha,_,_,hq,_=>by
   show w26F0 _ _ _ _ _ _ _=_
   unfold w26F0
   simp only []
   have h0:a.length=pre.length:=by rw [ha];simp
   have h1:r'=[]:=List.eq_nil_of_length_eq_zero hq.symm
   rw [decide_eq_false (by omega),br_f,h1,if_pos rfl]
 | x::r,[],_,_,_,_,_,_,h,_=>by simp at h
 | x::r,y::r',pre,pre',m+1,ha,hb,hp,hq,hm=>by
   have hlt:pre.length < a.length:=by rw [ha];simp
   have hg:a[pre.length]?=some x:=by rw [ha,List.getElem?_append_right (Nat.le_refl _)];simp
   have hg':b[pre.length]?=some y:=by rw [hb,hp,List.getElem?_append_right (Nat.le_refl _)];simp
   have hx:=hr x (by rw [ha];simp)
   show w26F0 _ _ _ _ _ _ _=_
   unfold w26F0
   simp only []
   rw [decide_eq_true (by omega),br_t,gx_at hg,gx_at hg',ck_of (w14_p hx.1 hx.2),w14_y0 hx.1 hx.2]
   by_cases h:x=y
   ·subst h
    rw [decide_eq_true rfl,Bool.not_true,br_f,wr (by omega) (by omega)]
    have ih:=w26_loop (N:=N) (a:=a) (b:=b) hl hr (K:=K) (k1:=k1) (k2:=k2) r r' (pre++[x]) (pre'++[x]) m (by rw [ha];simp) (by rw [hb];simp) (by simp [hp]) (by simpa using hq) (by simp at hm;omega)
    have hpl:((pre++[x]).length:Int)=(pre.length:Int)+1:=by simp
    rw [hpl] at ih
    refine ih.trans ?_
    simp
   ·rw [decide_eq_false h,Bool.not_false,br_t,if_neg (by simp [h])]
theorem w26_z {N:Nat} {a b:List Tx} (hl:a.length≤2 ^ 40) (hN:a.length < N) (hr:∀ r ∈ a,r.length≤2 ^ 40∧r.length < N):w26z N a b=some (decide (a=b)):=by
 unfold w26z w26 w26G w26n0
 by_cases h:a.length=b.length
 ·rw [decide_eq_false (by simp [h]),br_f]
  refine (congrArg (fun z:O=>z.bind w26un) (w26_loop (N:=N) hl hr a b [] [] N rfl rfl rfl h hN)).trans ?_
  by_cases hab:a=b
  ·rw [if_pos hab,decide_eq_true hab];rfl
  ·rw [if_neg hab,decide_eq_false hab];rfl
 ·rw [decide_eq_true (by omega),br_t,decide_eq_false (fun e=>h (by rw [e]))];rfl
theorem w26_p {N:Nat} {a b:List Tx} (hl:a.length≤2 ^ 40) (hN:a.length < N) (hr:∀ r ∈ a,r.length≤2 ^ 40∧r.length < N):w26p N a b=true:=by unfold w26p;rw [w26_z hl hN hr];rfl
theorem w26_y0 {N:Nat} {a b:List Tx} (hl:a.length≤2 ^ 40) (hN:a.length < N) (hr:∀ r ∈ a,r.length≤2 ^ 40∧r.length < N):w26y0 N a b=decide (a=b):=by unfold w26y0;rw [w26_z hl hN hr];rfl
end Go.Proofs
/- The law on wrapping. -/
namespace Go.Proofs
open Go Go.Ax Go.Ax.Alg
theorem w5_one {N:Nat} (hN:70000≤N) {e:Ex} (hs:sizeE e≤8500) {l:List Ex} {ws:List Int} {i k:Nat} {w:Int} (hk:k < 3) (hg:l[i]?=some e) (hw:ws[k]?=some w) {self:Int→O} {k0:Bool→O} {k1:Int→Int→List Ex→List Int→O} {a:Int}:
    w5F0 N self k0 k1 a (i:Int) l ws (k:Int)=self ((k:Int)+1):=by
 have hr:=wrapE_rows (e:=e) (w:=w)
 have p26:=w26_p (N:=N) (a:=(wrapE e w).1) (b:=(wrapE e w).1) (by omega) (by omega) (fun r h=>by have:=hr.1 r h;omega)
 have y26:=w26_y0 (N:=N) (a:=(wrapE e w).1) (b:=(wrapE e w).1) (by omega) (by omega) (fun r h=>by have:=hr.1 r h;omega)
 unfold w5F0
 simp only [gx_at hg,gx_at hw,Ex.eta,w24_p hN hs,w24_y0 hN hs,w24_y1 hN hs,w25_p hN hs,w25_y0 hN hs,w25_y1 hN hs,ck_t,p26,y26,ne_eq,not_true_eq_false,decide_false,decide_true,Bool.or_self,Bool.not_true,Bool.not_false,Bool.or_true,br_f]
 rw [decide_eq_true (by omega),br_t,wr (by omega) (by omega)]
theorem w5_row {m:Nat} (hN:70000≤m+4) {e:Ex} (hs:sizeE e≤8500) {l:List Ex} {w0 w1 w2:Int} {i:Nat} (hg:l[i]?=some e) {k0:Bool→O} {k1:Int→Int→List Ex→List Int→O} {a:Int}:
    w5n0 (m+4) a (i:Int) 0 l [w0,w1,w2] k0 k1=k1 a (i:Int) l [w0,w1,w2]:=by
 unfold w5n0
 unfold w5l0
 simp only []
 refine (w5_one hN hs (ws:=[w0,w1,w2]) (k:=0) (w:=w0) (by omega) hg rfl).trans ?_
 unfold w5l0
 simp only []
 refine (w5_one hN hs (ws:=[w0,w1,w2]) (k:=1) (w:=w1) (by omega) hg rfl).trans ?_
 unfold w5l0
 simp only []
 refine (w5_one hN hs (ws:=[w0,w1,w2]) (k:=2) (w:=w2) (by omega) hg rfl).trans ?_
 unfold w5l0
 simp only []
 unfold w5F0
 rfl
theorem law5 {N:Nat} (hN:70000≤N) {l:List Int} {at1 how by3 w:Int} (hl:∀ x ∈ l,J64 x) (hlen:l.length < 2 ^ 60) (ha:J64 at1) (hh:J64 how) (hb:J64 by3) (hw:J64 w):w5z N l at1 how by3 w=some true:=by
 obtain ⟨e,g1,hs⟩:=w8_z (N:=N) (by omega) hl hlen
 have a0:w8p N l=true:=by unfold w8p;rw [g1];rfl
 have a1:w8y0 N l=e.op:=by unfold w8y0;rw [g1];rfl
 have a2:w8y1 N l=e.num:=by unfold w8y1;rw [g1];rfl
 have a3:w8y2 N l=e.kids:=by unfold w8y2;rw [g1];rfl
 obtain ⟨f,p1,q1,q2,q3,hs'⟩:=w9_py (N:=N) (e:=e) ha hh hb (by omega) (by omega)
 unfold w5z w5 w5G
 simp only [a0,a1,a2,a3,Ex.eta,p1,q1,q2,q3,ck_t,w23_p (N:=N) hw (show (1:Int)≤12 by omega),w23_p (N:=N) hw (show (1:Int)≤46 by omega)]
 obtain ⟨m,rfl⟩:∃ m,N=m+4:=⟨N - 4,by omega⟩
 unfold w5n1 w5l1
 simp only []
 unfold w5F1
 rw [decide_eq_true (by omega),br_t]
 refine (congrArg (fun z:O=>z.bind w5un) (w5_row (m:=m) hN (e:=e) (by omega) (l:=[e,f]) (i:=0) rfl)).trans ?_
 unfold w5l1
 simp only []
 unfold w5F1
 rw [show IntKind.i64.wrap ((0:Nat)+(1:Int))=((1:Nat):Int) from wr (by omega) (by omega)]
 rw [decide_eq_true (by omega),br_t]
 refine (congrArg (fun z:O=>z.bind w5un) (w5_row (m:=m) hN (e:=f) (by omega) (l:=[e,f]) (i:=1) rfl)).trans ?_
 unfold w5l1
 simp only []
 unfold w5F1
 rfl
end Go.Proofs
/- Numbers that came in. -/
namespace Go.Proofs
open Go Go.Ax
theorem j64_w {z:Int} (h:OkV (.i .i64) z):J64 z:=by
 have h:(Lit.int .i64 z).wf=true:=h
 simp [Lit.wf] at h
 have h1:IntKind.i64.min = -9223372036854775808:=by decide
 rw [h1] at h
 unfold J64
 omega
theorem jl_w {l:List Int} (h:OkV (.sl (.i .i64)) l):∀ x ∈ l,J64 x:=fun x hx=>j64_w (h x hx)
theorem len_s {l:List Int} (h:SzV (.sl (.i .i64)) l):l.length < 2 ^ 60:=by
 have h1:=h.1
 have h2:l.length * 8≤reachBytes:=h1
 have h3:reachBytes=0x7ffffffff000:=rfl
 omega
end Go.Proofs
