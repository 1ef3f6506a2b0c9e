/- Trees: which are the same. Conditions are in the theorems. -/
import Derived.Test.YtlhdefefoaldfaaGreatDoorG1
/- A tree with one node changed. -/
namespace Go.Proofs
open Go Go.Ax Go.Ax.Alg
end Go.Proofs
/- Trees: which are the same. -/
namespace Go.Proofs
open Go Go.Ax Go.Ax.Alg
mutual
def sameE:Ex->Ex->Bool
 | .mk o a ks,.mk p b ls=>decide (o=p)&&decide (a=b)&&sameL ks ls
def sameL:List Ex->List Ex->Bool
 | [],[]=>true
 | k::l,k'::l'=>sameE k k'&&sameL l l'
 | _,_=>false
end
mutual
theorem sameE_refl:∀ e:Ex,sameE e e=true
 | .mk o a ks=>by simp only [sameE,sameL_refl ks];simp
theorem sameL_refl:∀ l:List Ex,sameL l l=true
 | []=>rfl
 | k::l=>by simp only [sameL,sameE_refl k,sameL_refl l];rfl
end
mutual
theorem sameE_eq:∀ {e f:Ex},sameE e f=true->e=f
 | .mk o a ks,.mk p b ls,h=>by
   simp only [sameE,Bool.and_eq_true,decide_eq_true_eq] at h
   rw [h.1.1,h.1.2,sameL_eq h.2]
theorem sameL_eq:∀ {l m:List Ex},sameL l m=true->l=m
 | [],[],_=>rfl
 | k::l,k'::l',h=>by
   simp only [sameL,Bool.and_eq_true] at h
   rw [sameE_eq h.1,sameL_eq h.2]
 | [],_::_,h=>by simp [sameL] at h
 | _::_,[],h=>by simp [sameL] at h
end
theorem sameL_len:∀ {l m:List Ex},l.length≠m.length->sameL l m=false:=fun {l m} h=>by
 cases hb:sameL l m with
 | false=>rfl
 | true=>exact absurd (congrArg List.length (sameL_eq hb)) h
theorem w54_loop {N:Nat} {rc:_} {K:Bool->O} {k1 k2:Unit->O}:∀ (l l' pre pre' ks ls:List Ex) (m:Nat),ks=pre++l->ls=pre'++l'->pre.length=pre'.length->l.length=l'.length->l.length < m->(∀ k ∈ l,∀ k' ∈ l',rc.2 k.op k.num k.kids k'.op k'.num k'.kids=some (sameE k k'))->ks.length < 2 ^ 62->
    w54l0 (N,rc) m (ls,ks,(ks.length:Int),(pre.length:Int)) K k1 k2=br (sameL l l') (k1 ()) (K false)
 | _,_,_,_,_,_,0,_,_,_,_,h,_,_=>by omega
 | [],l',pre,pre',ks,ls,m+1,hk,_,_,hl,_,_,_=>by
   have:l'=[]:=List.eq_nil_of_length_eq_zero hl.symm
   subst this
   show w54F0 _ _ _ _ _ _ _ _=_
   unfold w54F0
   simp only []
   subst hk
   rw [decide_eq_false (by simp),br_f]
   rfl
 | k::l,[],pre,pre',ks,ls,m+1,hk,hk',hp,hl,hm,hr,h2=>by simp at hl
 | k::l,k'::l',pre,pre',ks,ls,m+1,hk,hk',hp,hl,hm,hr,h2=>by
   have hlk:ks.length=pre.length+(l.length+1):=by rw [hk];simp
   have ih:=w54_loop (N:=N) (rc:=rc) (K:=K) (k1:=k1) (k2:=k2) l l' (pre++[k]) (pre'++[k']) ks ls m (by rw [hk];simp) (by rw [hk'];simp) (by simp [hp]) (by simpa using hl) (by simp at hm;omega) (fun x hx y hy=>hr x (List.mem_cons_of_mem _ hx) y (List.mem_cons_of_mem _ hy)) h2
   rw [show ((pre++[k]).length:Int)=(pre.length:Int)+1 by simp] at ih
   show w54F0 _ _ _ _ _ _ _ _=_
   unfold w54F0
   simp only []
   rw [decide_eq_true (by omega),br_t,gx_at (y:=k) (by rw [hk];exact drop_get),gx_at (y:=k') (by rw [hk',hp];exact drop_get)]
   simp only [hr k (List.mem_cons_self ..) k' (List.mem_cons_self ..)]
   simp only [Option.isSome_some,ck_t,Option.getD_some]
   rw [wr (x:=(pre.length:Int)+1) (by omega) (by omega)]
   cases hb:sameE k k' with
   | true=>
     simp only [sameL,hb,Bool.true_and,Bool.not_true,br_f]
     exact ih
   | false=>
     simp only [sameL,hb,Bool.false_and,Bool.not_false,br_t,br_f]
theorem w32_eq {N:Nat}:∀ (n:Nat) (e f:Ex),2 * sizeE e<=n->sizeE e < N->sizeE e < 2 ^ 60->sizeE f < 2 ^ 60->(w54gY N n).2 e.op e.num e.kids f.op f.num f.kids=some (sameE e f)
 | 0,e,_,h,_,_,_=>by have:=size_pos e;omega
 | 1,e,_,h,_,_,_=>by have:=size_pos e;omega
 | n+2,.mk o a ks,.mk p b ls,h,hN,hB,hB'=>by
   simp only [sizeE] at h hN hB hB'
   have hlen:=len_le ks
   have h69:(w54gY N (n+1)).1 ks ls=some (sameL ks ls):=by
    show w54z (N,w54gY N n) ks ls=_
    unfold w54z w54 w54G
    by_cases hl:ks.length=ls.length
    ·rw [decide_eq_false (by simp [hl]),br_f]
     unfold w54n0
     refine (congrArg (fun z:O=>z.bind w54un) (w54_loop ks ls [] [] ks ls N rfl rfl rfl hl (by omega) (fun k hk k' hk'=>?_) (by omega))).trans ?_
     ·have:=size_mem hk
      have:=size_mem hk'
      exact w32_eq n k k' (by omega) (by omega) (by omega) (by omega)
     ·cases sameL ks ls <;> rfl
    ·rw [decide_eq_true (by omega),br_t,sameL_len hl]
     rfl
   show w32z (N,w54gY N (n+1)) o a ks p b ls=_
   unfold w32z w32 w32G
   simp only [h69]
   simp only [Option.isSome_some,Bool.or_true,ck_t,Option.getD_some]
   rfl
section
variable {N:Nat} {e f:Ex} (h:2 * sizeE e<=N) (hB:sizeE e < 2 ^ 58) (hB':sizeE f < 2 ^ 58)
include h hB hB'
theorem w32_p:w32p N e.op e.num e.kids f.op f.num f.kids=true:=by have:=size_pos e;unfold w32p;rw [w32_eq N e f (by omega) (by omega) (by omega) (by omega)];rfl
theorem w32_y0:w32y0 N e.op e.num e.kids f.op f.num f.kids=sameE e f:=by have:=size_pos e;unfold w32y0;rw [w32_eq N e f (by omega) (by omega) (by omega) (by omega)];rfl
end
end Go.Proofs
