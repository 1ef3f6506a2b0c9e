/- Trees: which are the same. Conditions are in the theorems. -/
import Derived.Test.YtlhdefefoaldfaaGreatDoorG1
/- A tree with one node changed. -/
namespace Go.Proofs
open Go Go.Ax Go.Ax.Alg
theorem sizeL_app:∀ l m:List Ex,sizeL (l++m)=sizeL l+sizeL m
 | [],m=>by simp [sizeL]
 | k::l,m=>by simp only [List.cons_append,sizeL,sizeL_app l m];omega
theorem sizeL_set:∀ (l:List Ex) (i:Nat) (y y':Ex),l[i]?=some y→sizeL (l.set i y')+sizeE y=sizeL l+sizeE y'
 | [],_,_,_,h=>by simp at h
 | k::l,0,y,y',h=>by simp at h;subst h;simp only [List.set_cons_zero,sizeL];omega
 | k::l,i+1,y,y',h=>by
   have:=sizeL_set l i y y' (by simpa using h)
   simp only [List.set_cons_succ,sizeL];omega
theorem sizeL_take:∀ (l:List Ex) (n:Nat),sizeL (l.take n)≤sizeL l
 | [],n=>by simp
 | k::l,0=>by simp [sizeL]
 | k::l,n+1=>by simp only [List.take_succ_cons,sizeL];have:=sizeL_take l n;omega
theorem tdiv_in {x m:Int} (hx:J64 x) (h1:1≤m):J64 (x.tdiv m):=by
 have h:=Int.natAbs_tdiv_le_natAbs x m
 unfold J64 at *
 rcases Int.le_total 0 x with h0 | h0
 ·have:=Int.tdiv_nonneg h0 (by omega:(0:Int)≤m)
  omega
 ·have h2:=Int.tdiv_nonneg (a:=-x) (b:=m) (by omega) (by omega)
  rw [Int.neg_tdiv] at h2
  omega
theorem w9_ex {N:Nat}:∀ (n:Nat) (e:Ex) (at1 how by3:Int),J64 at1→J64 how→J64 by3→sizeE e≤n→sizeE e < 2 ^ 40→∃ e',w9Y N n e.op e.num e.kids at1 how by3=some (e'.op,e'.num,e'.kids)∧sizeE e'≤sizeE e+1
 | 0,e,_,_,_,_,_,_,h,_=>by have:=size_pos e;omega
 | n+1,.mk o a ks,at1,how,by3,ha,hh,hb,h,hB=>by
   simp only [sizeE] at h hB ⊢
   have hlen:=len_le ks
   show ∃ e',w9z (N,w9Y N n) o a ks at1 how by3=_∧_
   unfold w9z w9 w9G
   rw [wr (x:=(ks.length:Int)+1) (by omega) (by omega)]
   obtain ⟨k0,k1⟩:=arI_in (x:=at1) (m:=(ks.length:Int)+1) (by omega)
   rw [ck_of (w23_p ha (by omega)),w23_y0 ha (by omega)]
   have hlim:∀ m,m≤2 ^ 40+1→lim m 40=true:=fun m hm=>by unfold lim;simp;omega
   simp only [List.nil_append]
   by_cases hk:arI at1 ((ks.length:Int)+1) < ks.length
   ·rw [decide_eq_true hk,br_t,ck_of (hlim _ (by omega)),ck_of (by simp;omega)]
    obtain ⟨i,hi⟩:∃ i:Nat,arI at1 ((ks.length:Int)+1)=i:=⟨_,(Int.toNat_of_nonneg k0).symm⟩
    rw [hi] at hk ⊢
    have hil:i < ks.length:=by omega
    have hg:ks[i]?=some ks[i]:=List.getElem?_eq_getElem hil
    simp only [Int.toNat_natCast]
    rw [gn_of hg,ck_of (by simp;omega)]
    have hm:=size_mem (List.getElem_mem hil)
    have htd:=tdiv_in (m:=(ks.length:Int)+1) ha (by omega)
    rw [wr (x:=at1.tdiv _) htd.1 (by have:=htd.2;omega)]
    obtain ⟨e',h1,h2⟩:=w9_ex (N:=N) n ks[i] _ how by3 htd hh hb (by omega) (by omega)
    simp only [Ex.eta,h1,Option.isSome_some,Option.getD_some,ck_t]
    rw [ck_of (by simp;omega),gn_of hg]
    have hs:=sizeL_set ks i ks[i] e' hg
    exact ⟨.mk o a (ks.set i e'),rfl,by simp only [sizeE];omega⟩
   ·rw [decide_eq_false hk,br_f]
    rw [ck_of (w23_p hh (by decide)),w23_y0 hh (by decide)]
    obtain ⟨q0,q1⟩:=arI_in (x:=how) (m:=4) (by decide)
    generalize arI how 4=q at q0 q1
    have hq:q=0∨q=1∨q=2∨q=3:=by omega
    rcases hq with rfl | rfl | rfl | rfl
    ·rw [show decide ((0:Int)=0)=true from rfl,br_t,ck_of (w23_p hb (by decide)),w23_y0 hb (by decide)]
     exact ⟨.mk _ a ks,rfl,by simp only [sizeE];omega⟩
    ·rw [show decide ((1:Int)=0)=false from rfl,br_f,show decide ((1:Int)=1)=true from rfl,br_t,ck_of (w23_p hb (by decide)),w23_y0 hb (by decide)]
     obtain ⟨b0,b1⟩:=arI_in (x:=by3) (m:=6) (by decide)
     have hbl:(arI by3 6).toNat < ([-1,0,25,26,999999,1000000]:List Int).length:=by simp;omega
     rw [ck_of (by simp;omega),gn_of (List.getElem?_eq_getElem hbl)]
     exact ⟨.mk o _ ks,rfl,by simp only [sizeE];omega⟩
    ·rw [show decide ((2:Int)=0)=false from rfl,br_f,show decide ((2:Int)=1)=false from rfl,br_f,show decide ((2:Int)=2)=true from rfl,br_t,ck_of (hlim _ (by omega)),ck_of (hlim _ (by simp;omega))]
     exact ⟨.mk o a (ks++[.mk 0 1 []]),rfl,by simp only [sizeE,sizeL_app,sizeL];omega⟩
    ·rw [show decide ((3:Int)=0)=false from rfl,br_f,show decide ((3:Int)=1)=false from rfl,br_f,show decide ((3:Int)=2)=false from rfl,br_f,ck_t]
     have t2:0≤(ks.length:Int).tdiv 2∧(ks.length:Int).tdiv 2≤ks.length:=by
      rw [Int.tdiv_eq_ediv_of_nonneg (by omega)];omega
     rw [wr (x:=(ks.length:Int).tdiv 2) (by omega) (by omega),ck_of (by unfold slcOk;simp;omega)]
     refine ⟨.mk o a (slc ks none (some ((ks.length:Int).tdiv 2))),rfl,?_⟩
     have:=sizeL_take ks ((ks.length:Int).tdiv 2).toNat
     simp only [sizeE,slc];omega
theorem w9_py {N:Nat} {e:Ex} {at1 how by3:Int} (ha:J64 at1) (hh:J64 how) (hb:J64 by3) (hN:sizeE e≤N) (hB:sizeE e < 2 ^ 40):∃ e',w9p N e.op e.num e.kids at1 how by3=true∧w9y0 N e.op e.num e.kids at1 how by3=e'.op∧w9y1 N e.op e.num e.kids at1 how by3=e'.num∧w9y2 N e.op e.num e.kids at1 how by3=e'.kids∧sizeE e'≤sizeE e+1:=by
 obtain ⟨e',h1,h2⟩:=w9_ex (N:=N) N e at1 how by3 ha hh hb hN hB
 refine ⟨e',?_,?_,?_,?_,h2⟩
 ·unfold w9p;rw [h1];rfl
 ·unfold w9y0;rw [h1];rfl
 ·unfold w9y1;rw [h1];rfl
 ·unfold w9y2;rw [h1];rfl
end Go.Proofs
/- Trees: which are the same. -/
namespace Go.Proofs
open Go Go.Ax Go.Ax.Alg
section
variable {N:Nat} {e f:Ex} (h:2 * sizeE e≤N) (hB:sizeE e < 2 ^ 58) (hB':sizeE f < 2 ^ 58)
include h hB hB'
end
end Go.Proofs
