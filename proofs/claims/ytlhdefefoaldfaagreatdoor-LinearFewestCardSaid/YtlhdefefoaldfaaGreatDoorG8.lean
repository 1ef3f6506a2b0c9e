/- Wrapping. Conditions are in the theorems. -/
import Derived.Test.YtlhdefefoaldfaaGreatDoorG7
/- Wrapping: what both do. -/
namespace Go.Proofs
open Go Go.Ax Go.Ax.Alg
def toP (w ll f:Int):List Int->Int->Int
 | [],t=>t
 | p::ps,t=>toP w ll f ps (if f < p/\ll+p - f<=w then p else t)
def indE (f:Nat):Tx:=if 0 < f then [0,0] else []
def lineP (l:Tx) (f t:Nat):Tx:=indE f++(l.take t).drop f
def nextP (ps:List Int) (w:Int) (f:Nat):Nat:=(toP w ((indE f).length:Int) f ps f).toNat
def wrapP (l:Tx) (ps:List Int) (w:Int):Nat->Nat->List Tx->Option (List Tx)
 | 0,_,out=>some out
 | n+1,f,out=>if f < l.length then (if nextP ps w f<=f then none else wrapP l ps w n (nextP ps w f) (out++[lineP l f (nextP ps w f)])) else some out
theorem ind_len (f:Nat):(indE f).length<=2:=by unfold indE;split <;> simp
theorem to_or {w ll f:Int}:∀ (ps:List Int) (t:Int),toP w ll f ps t=t\/(toP w ll f ps t ∈ ps/\f < toP w ll f ps t/\ll+toP w ll f ps t - f<=w)
 | [],t=>.inl rfl
 | p::ps,t=>by
   unfold toP
   by_cases h:f < p/\ll+p - f<=w
   ·rw [if_pos h]
    rcases to_or (w:=w) (ll:=ll) (f:=f) ps p with e | ⟨e1,e2⟩
    ·rw [e];exact .inr ⟨List.mem_cons_self ..,h⟩
    ·exact .inr ⟨List.mem_cons_of_mem _ e1,e2⟩
   ·rw [if_neg h]
    rcases to_or (w:=w) (ll:=ll) (f:=f) ps t with e | ⟨e1,e2⟩
    ·exact .inl e
    ·exact .inr ⟨List.mem_cons_of_mem _ e1,e2⟩
theorem next_i {ps:List Int} {w:Int} {f:Nat}:((nextP ps w f:Nat):Int)=toP w ((indE f).length:Int) f ps f:=by
 unfold nextP
 rcases to_or (w:=w) (ll:=((indE f).length:Int)) (f:=(f:Int)) ps f with e | ⟨e1,e2,_⟩ <;> omega
theorem next_ge {ps:List Int} {w:Int} {f:Nat}:f<=nextP ps w f:=by
 have h:=next_i (ps:=ps) (w:=w) (f:=f)
 rcases to_or (w:=w) (ll:=((indE f).length:Int)) (f:=(f:Int)) ps f with e | ⟨e1,e2,_⟩ <;> omega
theorem next_le {ps:List Int} {w:Int} {f n:Nat} (hf:f<=n) (h:∀ p ∈ ps,p<=(n:Int)):nextP ps w f<=n:=by
 have h1:=next_i (ps:=ps) (w:=w) (f:=f)
 rcases to_or (w:=w) (ll:=((indE f).length:Int)) (f:=(f:Int)) ps f with e | ⟨e1,e2,_⟩
 ·omega
 ·have:=h _ e1;omega
theorem wrap_rows {l:Tx} {ps:List Int} {w:Int} {B:Nat} (hB:l.length+2<=B):∀ (n f:Nat) (out p:List Tx),(∀ r ∈ out,r.length<=B)->wrapP l ps w n f out=some p->(∀ r ∈ p,r.length<=B)/\p.length<=out.length+n
 | 0,f,out,p,h,e=>by unfold wrapP at e;cases e;exact ⟨h,by omega⟩
 | n+1,f,out,p,h,e=>by
   unfold wrapP at e
   split at e
   ·split at e
    ·cases e
    ·have:=wrap_rows hB n _ _ p (fun r hr=>by
      rcases List.mem_append.1 hr with hr | hr
      ·exact h r hr
      ·rw [List.mem_singleton] at hr
       subst hr
       have:=ind_len f
       unfold lineP
       simp
       omega) e
     refine ⟨this.1,?_⟩
     have h2:=this.2
     simp at h2
     omega
   ·cases e;exact ⟨h,by omega⟩
section
variable {N:Nat} {l:Tx} {ps:List Int} {w:Int} (hl:l.length<=2 ^ 20) (hp:∀ p ∈ ps,0<=p/\p<=(l.length:Int)) (hps:ps.length<=2 ^ 20)
include hl hp hps
theorem w47_loop {f:Nat} (hf:f<=l.length) {line:Tx} (hli:line.length<=2) {out:List Tx} {K:Int×Int×(List Int)×Int×(List UInt8)×(List (List UInt8))×(List UInt8)->O} {k1 k2:Unit->O}:∀ (r pre:List Int) (t:Int) (m:Nat),ps=pre++r->r.length < m->
    w47l1 N m (t,ps,(ps.length:Int),(pre.length:Int),(f:Int),ps,w,l,out,line) K k1 k2=K (toP w (line.length:Int) f r t,(f:Int),ps,w,l,out,line)
 | _,_,_,0,_,h=>by omega
 | [],pre,t,m+1,hs,_=>by
   show w47F1 _ _ _ _ _ _ _ _ _ _ _ _ _=_
   unfold w47F1
   simp only []
   have h0:ps.length=pre.length:=by rw [hs];simp
   rw [decide_eq_false (by omega),br_f]
   rfl
 | p::r,pre,t,m+1,hs,hm=>by
   have hlt:pre.length < ps.length:=by rw [hs];simp
   have hg:ps[pre.length]?=some p:=by rw [hs,List.getElem?_append_right (Nat.le_refl _)];simp
   have hpp:=hp p (by rw [hs];simp)
   have ih:=fun (t':Int)=>w47_loop (f:=f) hf (line:=line) hli (out:=out) (K:=K) (k1:=k1) (k2:=k2) r (pre++[p]) t' m (by rw [hs];simp) (by simp at hm;omega)
   have hpl:((pre++[p]).length:Int)=(pre.length:Int)+1:=by simp
   rw [hpl] at ih
   show w47F1 _ _ _ _ _ _ _ _ _ _ _ _ _=_
   unfold w47F1
   simp only []
   rw [decide_eq_true (by omega),br_t,gx_at hg,wr (x:=(line.length:Int)+p) (by omega) (by omega),wr (x:=(line.length:Int)+p - f) (by omega) (by omega),wr (x:=(pre.length:Int)+1) (by omega) (by omega)]
   unfold toP
   by_cases h:(f:Int) < p/\(line.length:Int)+p - f<=w
   ·rw [if_pos h,decide_eq_true h.1,decide_eq_true h.2]
    exact ih p
   ·rw [if_neg h,show (decide ((f:Int) < p)&&decide ((line.length:Int)+p - f<=w))=false by rw [← Bool.decide_and];exact decide_eq_false h]
    exact ih t
theorem w47_z (hN:ps.length < N) {f:Nat} (hf:f<=l.length) {out:List Tx} (ho:out.length<=2 ^ 30):w47z N f ps w l out=some (decide (f < nextP ps w f),((nextP ps w f:Nat):Int),ps,w,l,out++[lineP l f (nextP ps w f)]):=by
 have hn:=next_ge (ps:=ps) (w:=w) (f:=f)
 have hn':=next_le (ps:=ps) (w:=w) hf (fun p h=>(hp p h).2)
 have hi:=ind_len f
 have hsl:slc l (some (f:Int)) (some ((nextP ps w f:Nat):Int))=(l.take (nextP ps w f)).drop f:=by
  show (l.take _).drop _=_
  rw [Int.toNat_natCast,Int.toNat_natCast]
 unfold w47z w47 w47G
 have h0:∀ (K:Int->(List Int)->Int->(List UInt8)->(List (List UInt8))->(List UInt8)->O),w47n0 N (f:Int) ps w l out K=K f ps w l out (indE f):=fun K=>by
  unfold w47n0 w47l0 w47F0 indE
  simp only [ck_t]
  by_cases h:0 < f
  ·rw [decide_eq_true (by omega),br_t,if_pos h]
  ·rw [decide_eq_false (by omega),br_f,if_neg h]
 rw [h0]
 unfold w47n1
 refine (congrArg (fun z:O=>z.bind w47un) (w47_loop hl hp hps hf hi (out:=out) ps [] f N rfl hN)).trans ?_
 rw [← next_i]
 simp only [hsl]
 rw [ck_of (by unfold slcOk;exact decide_eq_true (by omega)),ck_of (limb (by simp;omega) (by omega))]
 rw [ck_of (show lim (out++[indE f++(l.take (nextP ps w f)).drop f]).length 24=true by unfold lim;simp;omega)]
 simp only [Int.ofNat_lt]
 rfl
theorem w24_loop (hN:ps.length < N) {K:Int->O} {k1:List Tx->O} {k2:Unit->O}:∀ (n f:Nat) (out:List Tx) (m:Nat),f<=l.length->l.length - f<=n->out.length+n<=2 ^ 29->n < m->
    w24l0 N m (l,(f:Int),ps,w,out) K k1 k2=(match wrapP l ps w n f out with | some p=>k1 p | none=>K 14)
 | _,_,_,0,_,_,_,h=>by omega
 | 0,f,out,m+1,hf,h,_,_=>by
   show w24F0 _ _ _ _ _ _ _ _ _=_
   unfold w24F0
   simp only []
   rw [decide_eq_false (by omega),br_f]
   rfl
 | n+1,f,out,m+1,hf,h,ho,hm=>by
   show w24F0 _ _ _ _ _ _ _ _ _=_
   unfold w24F0
   simp only []
   unfold wrapP
   by_cases hlt:f < l.length
   ·have hz:=w47_z (N:=N) (w:=w) hl hp hps hN hf (out:=out) (by omega)
    have p0:w47p N f ps w l out=true:=by unfold w47p;rw [hz];rfl
    have y0:w47y0 N f ps w l out=decide (f < nextP ps w f):=by unfold w47y0;rw [hz];rfl
    have y1:w47y1 N f ps w l out=((nextP ps w f:Nat):Int):=by unfold w47y1;rw [hz];rfl
    have y2:w47y2 N f ps w l out=ps:=by unfold w47y2;rw [hz];rfl
    have y3:w47y3 N f ps w l out=w:=by unfold w47y3;rw [hz];rfl
    have y4:w47y4 N f ps w l out=l:=by unfold w47y4;rw [hz];rfl
    have y5:w47y5 N f ps w l out=out++[lineP l f (nextP ps w f)]:=by unfold w47y5;rw [hz];rfl
    rw [decide_eq_true (by omega),br_t,if_pos hlt,p0,ck_t,y0,y1,y2,y3,y4,y5]
    by_cases h2:nextP ps w f<=f
    ·rw [decide_eq_false (by omega),Bool.not_false,br_t,if_pos h2]
    ·rw [decide_eq_true (by omega),Bool.not_true,br_f,if_neg h2]
     exact w24_loop hN n (nextP ps w f) _ m (next_le hf (fun p h=>(hp p h).2)) (by omega) (by simp;omega) (by omega)
   ·rw [decide_eq_false (by omega),br_f,if_neg hlt]
end
theorem brk_in:∀ (s:Tx) (a:UInt8) (n:Nat),∀ p ∈ brkP a n s,(n:Int) < p/\p<=((n+(codeP a s).length:Nat):Int)
 | [],_,_,_,h=>by cases h
 | c::s,a,n,p,h=>by
   have hce:=(code_len [c] a).1
   simp only [codeP,List.append_nil,List.length_cons,List.length_nil] at hce
   unfold brkP at h
   unfold codeP
   rw [List.length_append]
   rcases List.mem_append.1 h with h | h
   ·split at h
    ·rw [List.mem_singleton] at h;omega
    ·cases h
   ·have:=brk_in s c (n+(cellP a c).length) p h
    omega
def placE (e:Ex):List Int:=brkE e++[((encE e).length:Int)]
theorem plac_in {e:Ex}:∀ p ∈ placE e,0<=p/\p<=((encE e).length:Int):=fun p hp=>by
 unfold placE at hp
 rcases List.mem_append.1 hp with hp | hp
 ·unfold brkE at hp
  split at hp
  ·rename_i hv
   have:=brk_in _ _ _ p hp
   rw [encE_v hv]
   simp
   omega
  ·cases hp
 ·rw [List.mem_singleton] at hp;omega
def wrapE (e:Ex) (w:Int):List Tx×Int:=
 if validE e=0 then (if w < 4\/40 < w then ([],5) else match wrapP (encE e) (placE e) w (encE e).length 0 [] with | some p=>(p,0) | none=>([],14)) else ([],validE e)
theorem wrapE_rows {e:Ex} {w:Int}:(∀ r ∈ (wrapE e w).1,r.length<=4099)/\(wrapE e w).1.length<=4097:=by
 have hel:=enc_len (e:=e)
 unfold wrapE
 split
 ·split
  ·simp
  ·split
   ·rename_i p h
    have:=wrap_rows (B:=4099) (by omega) _ _ _ _ (by simp) h
    refine ⟨this.1,?_⟩
    have:=this.2
    simp at this
    show p.length<=4097
    omega
   ·simp
 ·simp
section
variable {N:Nat} {e:Ex} {w:Int} (hN:70000<=N) (hs:sizeE e<=8500)
include hN hs
theorem w24_z:w24z N e.op e.num e.kids w=some (wrapE e w):=by
 have hel:=enc_len (e:=e)
 have hbl:=brkE_len (e:=e)
 unfold w24z w24 w24G wrapE
 simp only [Ex.eta,w10_p hN hs,w10_y0 hN hs,w10_y1 hN hs,ck_t]
 by_cases hv:validE e=0
 ·have h1:=w29_p (N:=N) (e:=e) (by omega) (by omega)
  have h2:=w29_y0 (N:=N) (e:=e) (by omega) (by omega)
  have h3:=w35_p (N:=N) (e:=e) (by omega) (by omega)
  have h4:=w35_y0 (N:=N) (e:=e) (by omega) (by omega)
  have h5:=w34_text (e:=e) hN
  have h6:w34p N (textE e)=true:=by unfold w34p;rw [h5];rfl
  have h7:w34y1 N (textE e)=brkE e:=by unfold w34y1 brkE;rw [h5,if_pos hv];rfl
  have hz:w12z N e.op e.num e.kids=some (0,brkE e):=by
   unfold w12z w12 w12G
   simp only [Ex.eta]
   rw [ck_of h1,h2,decide_eq_false (by simpa using hv),br_f,ck_of h3,h4,ck_of h6,h7];rfl
  have p12:w12p N e.op e.num e.kids=true:=by unfold w12p;rw [hz];rfl
  have y12:w12y1 N e.op e.num e.kids=brkE e:=by unfold w12y1;rw [hz];rfl
  rw [if_pos hv,decide_eq_false (by simpa using hv),br_f,← Bool.decide_or]
  by_cases hw:w < 4\/40 < w
  ·rw [if_pos hw,decide_eq_true hw,br_t];rfl
  ·rw [if_neg hw,decide_eq_false hw,br_f,p12,ck_t,y12]
   have hl:lim (brkE e++[((encE e).length:Int)]).length 8=true:=limb (by simp;omega) (by omega)
   rw [hl,ck_t]
   have hpl:(placE e).length<=17001:=by unfold placE;simp;omega
   unfold w24n0
   refine (congrArg (fun z:O=>z.bind w24un) (w24_loop (N:=N) (ps:=placE e) (w:=w) (by omega) plac_in (by omega) (by omega) (encE e).length 0 [] N (by omega) (by omega) (by simp;omega) (by omega))).trans ?_
   cases wrapP (encE e) (placE e) w (encE e).length 0 [] <;> rfl
 ·rw [if_neg hv,decide_eq_true hv,br_t];rfl
theorem w24_p:w24p N e.op e.num e.kids w=true:=by unfold w24p;rw [w24_z hN hs];rfl
theorem w24_y0:w24y0 N e.op e.num e.kids w=(wrapE e w).1:=by unfold w24y0;rw [w24_z hN hs];rfl
theorem w24_y1:w24y1 N e.op e.num e.kids w=(wrapE e w).2:=by unfold w24y1;rw [w24_z hN hs];rfl
end
end Go.Proofs
