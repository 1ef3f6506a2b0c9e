/- Trees: sizes, which are right, made of numbers. Conditions are in the theorems. -/
import Derived.Test.YtlhdefefoaldfaaGreatDoorF2
import Derived.Test.YtlhdefefoaldfaaGreatDoorF3
import Derived.Test.YtlhdefefoaldfaaGreatDoorF5
/- Trees: how many nodes they have and how deep they are. -/
namespace Go.Proofs
open Go Go.Ax Go.Ax.Alg
mutual
def sizeE:Ex->Nat
 | .mk _ _ ks=>1+sizeL ks
def sizeL:List Ex->Nat
 | []=>0
 | k::l=>sizeE k+sizeL l
end
mutual
def depE:Ex->Nat
 | .mk _ _ ks=>depL ks+1
def depL:List Ex->Nat
 | []=>0
 | k::l=>max (depE k) (depL l)
end
theorem size_pos (e:Ex):1<=sizeE e:=by cases e;simp only [sizeE];omega
theorem len_le:∀ l:List Ex,l.length<=sizeL l
 | []=>Nat.le_refl _
 | k::l=>by have:=len_le l;have:=size_pos k;simp only [List.length_cons,sizeL];omega
theorem size_mem {k:Ex}:∀ {l:List Ex},k ∈ l->sizeE k<=sizeL l
 | [],h=>by cases h
 | x::l,h=>by
   simp only [sizeL]
   rcases List.mem_cons.1 h with rfl | h
   ·omega
   ·have:=size_mem h;omega
mutual
theorem dep_le:∀ e:Ex,depE e<=sizeE e
 | .mk _ _ ks=>by simp only [depE,sizeE];have:=depL_le ks;omega
theorem depL_le:∀ l:List Ex,depL l<=sizeL l
 | []=>Nat.le_refl _
 | k::l=>by simp only [depL,sizeL];have:=dep_le k;have:=depL_le l;omega
end
theorem drop_get {α:Type} {pre l:List α} {x:α}:(pre++x::l)[pre.length]?=some x:=by simp
theorem w49_loop {N:Nat} {rec:Int->Int->List Ex->Option Int} {K:Int->O} {k1 k2:Unit->O}:∀ (l pre ks:List Ex) (m:Nat) (acc:Int),ks=pre++l->l.length < m->(∀ k ∈ l,rec k.op k.num k.kids=some (sizeE k:Int))->0<=acc->acc+sizeL l < 2 ^ 62->ks.length < 2 ^ 62->
    w49l0 (N,rec) m (acc,ks,(ks.length:Int),(pre.length:Int)) K k1 k2=K (acc+sizeL l)
 | _,_,_,0,_,_,h,_,_,_,_=>by omega
 | [],pre,ks,m+1,acc,hk,_,_,h0,_,_=>by
   show w49F0 _ _ _ _ _ _ _=_
   unfold w49F0
   simp only []
   subst hk
   rw [decide_eq_false (by simp),br_f]
   simp [sizeL]
 | k::l,pre,ks,m+1,acc,hk,hm,hr,h0,h1,h2=>by
   show w49F0 _ _ _ _ _ _ _=_
   unfold w49F0
   simp only []
   have hl:ks.length=pre.length+(l.length+1):=by rw [hk];simp
   have hs:=size_pos k
   simp only [sizeL] at h1
   rw [decide_eq_true (by omega),br_t,gx_at (y:=k) (by rw [hk];exact drop_get)]
   simp only [hr k (List.mem_cons_self ..)]
   simp only [Option.isSome_some,ck_t,Option.getD_some]
   rw [wr (x:=acc+_) (by omega) (by omega),wr (x:=(pre.length:Int)+1) (by omega) (by omega)]
   have:=w49_loop (N:=N) (rec:=rec) (K:=K) (k1:=k1) (k2:=k2) l (pre++[k]) ks m (acc+sizeE k) (by rw [hk];simp) (by simp at hm;omega) (fun x hx=>hr x (List.mem_cons_of_mem _ hx)) (by omega) (by omega) h2
   rw [show ((pre++[k]).length:Int)=(pre.length:Int)+1 by simp] at this
   refine this.trans ?_
   simp only [sizeL]
   congr 1
   omega
theorem w49_eq {N:Nat}:∀ (n:Nat) (e:Ex),sizeE e<=n->sizeE e < N->sizeE e < 2 ^ 60->w49Y N n e.op e.num e.kids=some (sizeE e:Int)
 | 0,e,h,_,_=>by have:=size_pos e;omega
 | n+1,.mk o a ks,h,hN,hB=>by
   simp only [sizeE] at h hN hB
   simp only [sizeE]
   show w49z (N,w49Y N n) o a ks=_
   unfold w49z w49 w49G w49n0
   have hlen:=len_le ks
   have:=w49_loop (N:=N) (rec:=w49Y N n) (K:=fun y=>(fun z4=>some (w49r0 z4)) y) (k1:=fun _=>none) (k2:=fun _=>none) ks [] ks N 1 rfl (by omega) (fun k hk=>by have:=size_mem hk;exact w49_eq n k (by omega) (by omega) (by omega)) (by omega) (by omega) (by omega)
   refine (congrArg (fun z:O=>z.bind w49un) this).trans ?_
   show w49un (w49r0 _)=_
   rw [show (1:Int)+((sizeL ks:Nat):Int)=((1+sizeL ks:Nat):Int) by omega]
   rfl
theorem w49_p {N:Nat} {e:Ex} (h:sizeE e < N) (hB:sizeE e < 2 ^ 60):w49p N e.op e.num e.kids=true:=by unfold w49p;rw [w49_eq N e (by omega) h hB];rfl
theorem w49_y0 {N:Nat} {e:Ex} (h:sizeE e < N) (hB:sizeE e < 2 ^ 60):w49y0 N e.op e.num e.kids=(sizeE e:Int):=by unfold w49y0;rw [w49_eq N e (by omega) h hB];rfl
theorem w50_loop {N:Nat} {rec:Int->Int->List Ex->Option Int} {K:Int->O} {k1 k2:Unit->O}:∀ (l pre ks:List Ex) (m:Nat) (acc:Int),ks=pre++l->l.length < m->(∀ k ∈ l,rec k.op k.num k.kids=some (depE k:Int))->0<=acc->ks.length < 2 ^ 62->
    w50l0 (N,rec) m (acc,ks,(ks.length:Int),(pre.length:Int)) K k1 k2=K (max acc (depL l:Int))
 | _,_,_,0,_,_,h,_,_,_=>by omega
 | [],pre,ks,m+1,acc,hk,_,_,h0,_=>by
   show w50F0 _ _ _ _ _ _ _=_
   unfold w50F0
   simp only []
   subst hk
   rw [decide_eq_false (by simp),br_f]
   simp [depL,Int.max_eq_left h0]
 | k::l,pre,ks,m+1,acc,hk,hm,hr,h0,h2=>by
   show w50F0 _ _ _ _ _ _ _=_
   unfold w50F0
   simp only []
   have hl:ks.length=pre.length+(l.length+1):=by rw [hk];simp
   rw [decide_eq_true (by omega),br_t,gx_at (y:=k) (by rw [hk];exact drop_get)]
   simp only [hr k (List.mem_cons_self ..)]
   simp only [Option.isSome_some,ck_t,Option.getD_some]
   rw [wr (x:=(pre.length:Int)+1) (by omega) (by omega)]
   have:=w50_loop (N:=N) (rec:=rec) (K:=K) (k1:=k1) (k2:=k2) l (pre++[k]) ks m (max acc (depE k:Int)) (by rw [hk];simp) (by simp at hm;omega) (fun x hx=>hr x (List.mem_cons_of_mem _ hx)) (by omega) h2
   rw [show ((pre++[k]).length:Int)=(pre.length:Int)+1 by simp] at this
   refine this.trans ?_
   simp only [depL]
   congr 1
   rw [show ((max (depE k) (depL l):Nat):Int)=max (depE k:Int) (depL l:Int) by omega];omega
theorem w50_eq {N:Nat}:∀ (n:Nat) (e:Ex),sizeE e<=n->sizeE e < N->sizeE e < 2 ^ 60->w50Y N n e.op e.num e.kids=some (depE e:Int)
 | 0,e,h,_,_=>by have:=size_pos e;omega
 | n+1,.mk o a ks,h,hN,hB=>by
   simp only [sizeE] at h hN hB
   simp only [depE]
   show w50z (N,w50Y N n) o a ks=_
   unfold w50z w50 w50G w50n0
   have hlen:=len_le ks
   have hdl:=depL_le ks
   have:=w50_loop (N:=N) (rec:=w50Y N n) (K:=fun y=>(fun z4=>some (w50r0 (IntKind.i64.wrap (z4+1)))) y) (k1:=fun _=>none) (k2:=fun _=>none) ks [] ks N 0 rfl (by omega) (fun k hk=>by have:=size_mem hk;exact w50_eq n k (by omega) (by omega) (by omega)) (by omega) (by omega)
   refine (congrArg (fun z:O=>z.bind w50un) this).trans ?_
   show w50un (w50r0 _)=_
   rw [wr (by omega) (by omega),show max (0:Int) ((depL ks:Nat):Int)+1=((depL ks+1:Nat):Int) by omega]
   rfl
theorem w50_p {N:Nat} {e:Ex} (h:sizeE e < N) (hB:sizeE e < 2 ^ 60):w50p N e.op e.num e.kids=true:=by unfold w50p;rw [w50_eq N e (by omega) h hB];rfl
theorem w50_y0 {N:Nat} {e:Ex} (h:sizeE e < N) (hB:sizeE e < 2 ^ 60):w50y0 N e.op e.num e.kids=(depE e:Int):=by unfold w50y0;rw [w50_eq N e (by omega) h hB];rfl
end Go.Proofs
/- Trees: which are right. -/
namespace Go.Proofs
open Go Go.Ax Go.Ax.Alg
def kidsI (o:Int):Int:=if o=0\/o=1 then 0 else if o=2\/o=8 then 1 else if o=3\/o=4\/o=5\/o=6\/o=7\/o=9\/o=10 then 2 else -1
def mostI (o:Int):Int:=if o=0 then 999999 else if o=1 then 25 else 0
def here (o a:Int) (n:Nat) (root:Bool):Bool:=decide ((n:Int)=kidsI o)&&(root||decide (o < 9))&&decide (0<=a)&&decide (a<=mostI o)
mutual
def okE:Ex->Bool->Bool
 | .mk o a ks,root=>here o a ks.length root&&okL ks
def okL:List Ex->Bool
 | []=>true
 | k::l=>okE k false&&okL l
end
abbrev Rg:=(Int->Int->(List Ex)->Option (Bool))×((List Ex)->Option (Int))×((List Ex)->Option (Bool))×(Int->Int->(List Ex)->Bool->Option (Bool))
theorem w102_loop {N:Nat} {rc:Rg} {K:Int->O} {k1 k2:Unit->O}:∀ (l pre ks:List Ex) (m:Nat),ks=pre++l->l.length < m->(∀ k ∈ l,rc.1 k.op k.num k.kids=some (!okE k false))->ks.length < 2 ^ 62->
    (okL l=true->w102l0 (N,rc) m (ks,(ks.length:Int),(pre.length:Int)) K k1 k2=k1 ())/\(okL l=false->∃ j:Nat,w102l0 (N,rc) m (ks,(ks.length:Int),(pre.length:Int)) K k1 k2=K (j:Int))
 | _,_,_,0,_,h,_,_=>by omega
 | [],pre,ks,m+1,hk,_,_,_=>by
   refine ⟨fun _=>?_,fun h=>by cases h⟩
   show w102F0 _ _ _ _ _ _ _=_
   unfold w102F0
   simp only []
   subst hk
   rw [decide_eq_false (by simp),br_f]
 | k::l,pre,ks,m+1,hk,hm,hr,h2=>by
   have hl:ks.length=pre.length+(l.length+1):=by rw [hk];simp
   have ih:=w102_loop (N:=N) (rc:=rc) (K:=K) (k1:=k1) (k2:=k2) l (pre++[k]) ks m (by rw [hk];simp) (by simp at hm;omega) (fun x hx=>hr x (List.mem_cons_of_mem _ hx)) h2
   rw [show ((pre++[k]).length:Int)=(pre.length:Int)+1 by simp] at ih
   have step:w102l0 (N,rc) (m+1) (ks,(ks.length:Int),(pre.length:Int)) K k1 k2=br (!okE k false) (K (pre.length:Int)) (w102l0 (N,rc) m (ks,(ks.length:Int),(pre.length:Int)+1) K k1 k2):=by
    show w102F0 _ _ _ _ _ _ _=_
    unfold w102F0
    simp only []
    rw [decide_eq_true (by omega),br_t,gx_at (y:=k) (by rw [hk];exact drop_get)]
    simp only [hr k (List.mem_cons_self ..)]
    simp only [Option.isSome_some,ck_t,Option.getD_some]
    rw [wr (x:=(pre.length:Int)+1) (by omega) (by omega)]
   rw [step]
   cases hb:okE k false with
   | true=>
     simp only [okL,hb,Bool.true_and,Bool.not_true,br_f]
     exact ih
   | false=>
     simp only [okL,hb,Bool.false_and,Bool.not_false,br_t]
     exact ⟨fun h=>(by cases h),fun _=>⟨_,rfl⟩⟩
theorem w51_here {N:Nat} {rc:Rg} {o a:Int} {ks:List Ex} {root:Bool} (hr:rc.2.2.1 ks=some (!okL ks)):w51z (N,rc) o a ks root=some (here o a ks.length root&&okL ks):=by
 unfold w51z w51 w51G
 simp only [hr]
 simp only [Option.isSome_some,ck_t,Option.getD_some]
 by_cases h0:o < 0\/11<=o
 ·rw [show (decide (o < 0)||decide (11<=o))=true by simpa using h0,br_t]
  have:here o a ks.length root=false:=by
   unfold here kidsI
   rw [if_neg (by omega),if_neg (by omega),if_neg (by omega),decide_eq_false (by omega)]
   rfl
  rw [this]
  rfl
 ·rw [show (decide (o < 0)||decide (11<=o))=false by simpa using h0,br_f]
  obtain ⟨n,rfl⟩:∃ n:Nat,o=n:=⟨o.toNat,by omega⟩
  have hn:n < 11:=by omega
  have fin:∀ (k m lv:Int) (sg:UInt8),kidsI n=k->mostI n=m->decide (lv=0)=!decide ((n:Int) < 9)->
      (br (decide ((↑ks.length:Int)≠k)||decide (a < 0)||decide (m < a)||decide (lv=0)&&!root) (some (w51r0 false)) (some (w51r0 (!!okL ks))):O).bind w51un=some (here n a ks.length root&&okL ks):=by
   rintro k m lv sg rfl rfl hlv
   rw [hlv]
   unfold here
   by_cases q1:(ks.length:Int)=kidsI n
   ·by_cases q2:a < 0
    ·rw [decide_eq_true q2,decide_eq_false (show ¬ 0<=a by omega)]
     simp
     rfl
    ·by_cases q3:mostI n < a
     ·rw [decide_eq_true q3,decide_eq_false (show ¬ a<=mostI n by omega)]
      simp
      rfl
     ·rw [decide_eq_false q2,decide_eq_false q3,decide_eq_true q1,decide_eq_true (show 0<=a by omega),decide_eq_true (show a<=mostI n by omega),decide_eq_false (by simpa using q1)]
      cases root <;> cases decide ((n:Int) < 9) <;> simp <;> rfl
   ·rw [decide_eq_true q1,decide_eq_false q1]
    simp
    rfl
  have get:∀ {y:Int×Int×Int×UInt8} {k:Int×Int×Int×UInt8->O} {r},([(0,999999,4,0),(0,25,4,0),(1,0,3,45),(2,0,1,43),(2,0,1,45),(2,0,2,42),(2,0,2,47),(2,0,3,94),(1,0,4,82),(2,0,0,61),(2,0,0,60)]:List (Int×Int×Int×UInt8))[n]?=some y->(k y).bind w51un=r->(gx [(0,999999,4,0),(0,25,4,0),(1,0,3,45),(2,0,1,43),(2,0,1,45),(2,0,2,42),(2,0,2,47),(2,0,3,94),(1,0,4,82),(2,0,0,61),(2,0,0,60)] (n:Int) k).bind w51un=r:=fun h h2=>by rw [gx_at h];exact h2
  have hn':n=0\/n=1\/n=2\/n=3\/n=4\/n=5\/n=6\/n=7\/n=8\/n=9\/n=10:=by omega
  rcases hn' with rfl | rfl | rfl | rfl | rfl | rfl | rfl | rfl | rfl | rfl | rfl <;> exact get rfl (fin _ _ _ 0 rfl rfl rfl)
theorem w51_eq {N:Nat}:∀ (n:Nat) (e:Ex) (root:Bool),4 * sizeE e<=n->sizeE e < N->sizeE e < 2 ^ 60->(w83gY N n).2.2.2 e.op e.num e.kids root=some (okE e root)
 | 0,e,_,h,_,_=>by have:=size_pos e;omega
 | 1,e,_,h,_,_=>by have:=size_pos e;omega
 | 2,e,_,h,_,_=>by have:=size_pos e;omega
 | 3,e,_,h,_,_=>by have:=size_pos e;omega
 | n+4,.mk o a ks,root,h,hN,hB=>by
   simp only [sizeE] at h hN hB
   have hlen:=len_le ks
   have h89:∀ k ∈ ks,(w83gY N (n+1)).1 k.op k.num k.kids=some (!okE k false):=fun k hk=>by
    have hs:=size_mem hk
    have:=w51_eq (N:=N) n k false (by omega) (by omega) (by omega)
    show w83z (N,w83gY N n) k.op k.num k.kids=_
    unfold w83z w83 w83G
    have e:∀ (x y:Int) (z:List Ex),(w83gY N n).2.2.2 (Ex.mk x y z).op (Ex.mk x y z).num (Ex.mk x y z).kids false=(w83gY N n).2.2.2 x y z false:=fun _ _ _=>rfl
    simp only [this]
    rfl
   have h108:(okL ks=true->(w83gY N (n+2)).2.1 ks=some (-1))/\(okL ks=false->∃ j:Nat,(w83gY N (n+2)).2.1 ks=some (j:Int)):=by
    have:=w102_loop (N:=N) (rc:=w83gY N (n+1)) (K:=fun z4=>some (w102r0 z4)) (k1:=fun _=>some (w102r0 (-1))) (k2:=fun _=>none) ks [] ks N rfl (by omega) h89 (by omega)
    refine ⟨fun hb=>?_,fun hb=>?_⟩
    ·show w102z (N,w83gY N (n+1)) ks=_
     unfold w102z w102 w102G w102n0
     exact (congrArg (fun z:O=>z.bind w102un) (this.1 hb)).trans rfl
    ·obtain ⟨j,hj⟩:=this.2 hb
     refine ⟨j,?_⟩
     show w102z (N,w83gY N (n+1)) ks=_
     unfold w102z w102 w102G w102n0
     exact (congrArg (fun z:O=>z.bind w102un) hj).trans rfl
   have h88:(w83gY N (n+3)).2.2.1 ks=some (!okL ks):=by
    show w82z (N,w83gY N (n+2)) ks=_
    unfold w82z w82 w82G
    cases hb:okL ks with
    | true=>simp only [h108.1 hb];rfl
    | false=>
      obtain ⟨j,hj⟩:=h108.2 hb
      simp only [hj]
      simp only [Option.isSome_some,ck_t,Option.getD_some]
      rw [decide_eq_true (by omega)]
      rfl
   show w51z (N,w83gY N (n+3)) o a ks root=_
   rw [w51_here h88]
   rfl
end Go.Proofs
/- Trees: which are valid. -/
namespace Go.Proofs
open Go Go.Ax Go.Ax.Alg
def validE (e:Ex):Int:=if 256 < sizeE e\/16 < depE e then 4 else if okE e true then 0 else 1
theorem w29_z {N:Nat} {e:Ex} (h:4 * sizeE e < N) (hB:sizeE e < 2 ^ 60):w29z N e.op e.num e.kids=some (validE e):=by
 cases e with | mk o a ks=>
 have hN:sizeE (.mk o a ks) < N:=by omega
 have e1:=w49_p hN hB
 have e2:=w49_y0 hN hB
 have e3:=w50_p hN hB
 have e4:=w50_y0 hN hB
 have e5:=w51_eq (N:=N) N (.mk o a ks) true (by omega) hN hB
 have e6:w51p N o a ks true=true:=by unfold w51p;simp only [Ex.op,Ex.num,Ex.kids] at e5;rw [e5];rfl
 have e7:w51y0 N o a ks true=okE (.mk o a ks) true:=by unfold w51y0;simp only [Ex.op,Ex.num,Ex.kids] at e5;rw [e5];rfl
 simp only [Ex.op,Ex.num,Ex.kids] at e1 e2 e3 e4 ⊢
 unfold w29z w29 w29G validE
 simp only [e1,e2,e3,e4,e6,e7,ck_t,Bool.or_true]
 by_cases q:256 < sizeE (.mk o a ks)\/16 < depE (.mk o a ks)
 ·rw [if_pos q,show (decide (256 < ((sizeE (.mk o a ks):Nat):Int))||decide (16 < ((depE (.mk o a ks):Nat):Int)))=true by simpa using (by omega:(256:Int) < (sizeE (.mk o a ks):Nat)\/(16:Int) < (depE (.mk o a ks):Nat)),br_t]
  rfl
 ·rw [if_neg q,show (decide (256 < ((sizeE (.mk o a ks):Nat):Int))||decide (16 < ((depE (.mk o a ks):Nat):Int)))=false by simpa using (by omega:¬ ((256:Int) < (sizeE (.mk o a ks):Nat)\/(16:Int) < (depE (.mk o a ks):Nat))),br_f]
  cases okE (.mk o a ks) true <;> rfl
theorem w29_p {N:Nat} {e:Ex} (h:4 * sizeE e < N) (hB:sizeE e < 2 ^ 60):w29p N e.op e.num e.kids=true:=by unfold w29p;rw [w29_z h hB];rfl
theorem w29_y0 {N:Nat} {e:Ex} (h:4 * sizeE e < N) (hB:sizeE e < 2 ^ 60):w29y0 N e.op e.num e.kids=validE e:=by unfold w29y0;rw [w29_z h hB];rfl
end Go.Proofs
/- The formulas that are made of numbers. -/
namespace Go.Proofs
open Go Go.Ax Go.Ax.Alg
abbrev J64 (x:Int):Prop:=-9223372036854775808<=x/\x < 9223372036854775808
theorem tmod_in {x m:Int} (h0:0<=x) (h1:1<=m):0<=x.tmod m/\x.tmod m < m:=⟨Int.tmod_nonneg _ h0,Int.tmod_lt_of_pos _ (by omega)⟩
def arI (x m:Int):Int:=(if x < 0 then -(x+1) else x).tmod m
theorem arI_in {x m:Int} (h1:1<=m):0<=arI x m/\arI x m < m:=by unfold arI;split <;> exact tmod_in (by omega) h1
theorem w23_z {N:Nat} {x m:Int} (hx:J64 x) (h1:1<=m):w23z N x m=some (arI x m):=by
 unfold w23z w23 w23G arI
 by_cases h:x < 0
 ·rw [decide_eq_true h,br_t,decide_eq_false (by omega),br_f,ck_of (by simp;omega),if_pos h,wr (x:=x+1) (by omega) (by omega),wr (by omega) (by omega)]
  rfl
 ·rw [decide_eq_false h,br_f,decide_eq_false (by omega),br_f,ck_of (by simp;omega),if_neg h]
  rfl
theorem w23_p {N:Nat} {x m:Int} (hx:J64 x) (h1:1<=m):w23p N x m=true:=by unfold w23p;rw [w23_z hx h1];rfl
theorem w23_y0 {N:Nat} {x m:Int} (hx:J64 x) (h1:1<=m):w23y0 N x m=arI x m:=by unfold w23y0;rw [w23_z hx h1];rfl
def atI (l:List Int) (i m:Int):Int:=if i < 0\/(l.length:Int)<=i then 0 else arI (l[i.toNat]?.getD 0) m
theorem atI_in {l:List Int} {i m:Int} (h1:1<=m):0<=atI l i m/\atI l i m < m:=by unfold atI;split;omega;exact arI_in h1
theorem w85_z {N:Nat} {l:List Int} {i m:Int} (hl:∀ x ∈ l,J64 x) (h1:1<=m):w85z N l i m=some (atI l i m):=by
 unfold w85z w85 w85G atI
 by_cases h:i < 0\/(l.length:Int)<=i
 ·rw [show (decide (i < 0)||decide ((l.length:Int)<=i))=true by simpa using h,br_t,if_pos h];rfl
 ·rw [show (decide (i < 0)||decide ((l.length:Int)<=i))=false by simpa using h,br_f,if_neg h]
  have hi:i.toNat < l.length:=by omega
  have hg:l[i.toNat]?=some l[i.toNat]:=List.getElem?_eq_getElem hi
  have hm:J64 l[i.toNat]:=hl _ (List.getElem_mem hi)
  rw [gx_of (by omega) hg,ck_of (w23_p hm h1),w23_y0 hm h1,hg]
  rfl
theorem w85_p {N:Nat} {l:List Int} {i m:Int} (hl:∀ x ∈ l,J64 x) (h1:1<=m):w85p N l i m=true:=by unfold w85p;rw [w85_z hl h1];rfl
theorem w85_y0 {N:Nat} {l:List Int} {i m:Int} (hl:∀ x ∈ l,J64 x) (h1:1<=m):w85y0 N l i m=atI l i m:=by unfold w85y0;rw [w85_z hl h1];rfl
theorem w55_z {N:Nat} {l:List Int} {i m:Int} (hl:∀ x ∈ l,J64 x) (h1:1<=m) (h0:0<=i) (hi:i < 2 ^ 60):w55z N m l i=some (atI l i m,l,i+1):=by
 unfold w55z w55 w55G
 rw [wr (x:=i+1) (by omega) (by omega),wr (by omega) (by omega),show i+1 - 1=i by omega,ck_of (w85_p hl h1),w85_y0 hl h1]
 rfl
section
variable {N:Nat} {l:List Int} {i m:Int} (hl:∀ x ∈ l,J64 x) (h1:1<=m) (h0:0<=i) (hi:i < 2 ^ 60)
include hl h1 h0 hi
theorem w55_p:w55p N m l i=true:=by unfold w55p;rw [w55_z hl h1 h0 hi];rfl
theorem w55_y0:w55y0 N m l i=atI l i m:=by unfold w55y0;rw [w55_z hl h1 h0 hi];rfl
theorem w55_y1:w55y1 N m l i=l:=by unfold w55y1;rw [w55_z hl h1 h0 hi];rfl
theorem w55_y2:w55y2 N m l i=i+1:=by unfold w55y2;rw [w55_z hl h1 h0 hi];rfl
end
section
variable {N:Nat} {rc:Int->List Int->Int->Option (Int×Int×List Ex×List Int×Int)} {d:Int} {l:List Int} {j a b:Int} {K0:List Int->Int->Int->Int->List Ex->O} {K1:Int->Int->List Int->Int->Int->Int->O}
def leafO (N:Nat) (l:List Int) (j o m:Int) (t:List Int) (K0:List Int->Int->Int->Int->List Ex->O):O:=ck (w55p N m l j) (gx t (w55y0 N m l j) fun y=>K0 (w55y1 N m l j) (w55y2 N m l j) o y [])
def oneO (rc:Int->List Int->Int->Option (Int×Int×List Ex×List Int×Int)) (d:Int) (l:List Int) (j o:Int) (K0:List Int->Int->Int->Int->List Ex->O):O:=
 ck ((rc (IntKind.i64.wrap (d - 1)) l j).isSome) (K0 ((rc (IntKind.i64.wrap (d - 1)) l j).getD (0,0,[],[],0)).2.2.2.1 ((rc (IntKind.i64.wrap (d - 1)) l j).getD (0,0,[],[],0)).2.2.2.2 o 0 [Ex.mk ((rc (IntKind.i64.wrap (d - 1)) l j).getD (0,0,[],[],0)).1 ((rc (IntKind.i64.wrap (d - 1)) l j).getD (0,0,[],[],0)).2.1 ((rc (IntKind.i64.wrap (d - 1)) l j).getD (0,0,[],[],0)).2.2.1])
theorem t0:w56n3 (N,rc) d 0 l j a b K0 K1=leafO N l j 0 6 [0,1,2,10,47,999999] K0:=by kernel_rfl
theorem t1:w56n3 (N,rc) d 1 l j a b K0 K1=leafO N l j 0 6 [0,1,2,10,47,999999] K0:=by kernel_rfl
theorem t2:w56n3 (N,rc) d 2 l j a b K0 K1=leafO N l j 1 5 [0,1,2,23,25] K0:=by kernel_rfl
theorem t3:w56n3 (N,rc) d 3 l j a b K0 K1=leafO N l j 1 5 [0,1,2,23,25] K0:=by kernel_rfl
theorem t4:w56n3 (N,rc) d 4 l j a b K0 K1=oneO rc d l j 2 K0:=by kernel_rfl
theorem t5:w56n3 (N,rc) d 5 l j a b K0 K1=oneO rc d l j 8 K0:=by kernel_rfl
theorem t6:w56n3 (N,rc) d 6 l j a b K0 K1=K1 d 6 l j a b:=by kernel_rfl
theorem t7:w56n3 (N,rc) d 7 l j a b K0 K1=K1 d 7 l j a b:=by kernel_rfl
theorem t8:w56n3 (N,rc) d 8 l j a b K0 K1=K1 d 8 l j a b:=by kernel_rfl
theorem t9:w56n3 (N,rc) d 9 l j a b K0 K1=K1 d 9 l j a b:=by kernel_rfl
theorem t10:w56n3 (N,rc) d 10 l j a b K0 K1=K1 d 10 l j a b:=by kernel_rfl
theorem t11:w56n3 (N,rc) d 11 l j a b K0 K1=K1 d 11 l j a b:=by kernel_rfl
end
theorem Ex.eta:∀ e:Ex,Ex.mk e.op e.num e.kids=e
 | .mk _ _ _=>rfl
theorem leaf_ex {N:Nat} {l:List Int} {j o m:Int} {t:List Int} {K0:List Int->Int->Int->Int->List Ex->O} (hl:∀ x ∈ l,J64 x) (h0:0<=j) (hj:j < 2 ^ 60) (hm:m=t.length) (h1:1<=m):∃ y ∈ t,leafO N l j o m t K0=K0 l (j+1) o y []:=by
 obtain ⟨a1,a2⟩:=atI_in (l:=l) (i:=j) h1
 have hi:(atI l j m).toNat < t.length:=by omega
 refine ⟨t[(atI l j m).toNat],List.getElem_mem hi,?_⟩
 unfold leafO
 rw [ck_of (w55_p hl h1 h0 hj),w55_y0 hl h1 h0 hj,w55_y1 hl h1 h0 hj,w55_y2 hl h1 h0 hj,gx_of a1 (List.getElem?_eq_getElem hi)]
def Gen (d:Nat) (l:List Int) (i:Int) (r:Option (Int×Int×List Ex×List Int×Int)):Prop:=
 ∃ e i',r=some (e.op,e.num,e.kids,l,i')/\okE e false=true/\sizeE e+1<=2 ^ d/\depE e<=d/\i < i'/\i'+2<=i+2 * 2 ^ d
theorem w56_ex {N:Nat} {l:List Int} (hl:∀ x ∈ l,J64 x) (hlen:l.length < 2 ^ 60):∀ (n d:Nat) (i:Int),1<=d->d<=n->d<=5->0<=i->i+2 * 2 ^ d < 2 ^ 50->Gen d l i (w56gY N n (d:Int) l i)
 | 0,d,i,h,h',_,_,_=>by omega
 | n+1,d,i,hd,hn,h5,hi,hB=>by
   have h2d:(2:Int) ^ d<=32/\2<=(2:Int) ^ d:=by
    have:d=1\/d=2\/d=3\/d=4\/d=5:=by omega
    rcases this with rfl | rfl | rfl | rfl | rfl <;> omega
   have hi60:i < 2 ^ 60:=by omega
   have hi1:i+1 < 2 ^ 60:=by omega
   show Gen d l i (w56z (N,w56gY N n) d l i)
   unfold w56z w56 w56G
   have h12:(1:Int)<=12:=by decide
   rw [ck_of (w55_p hl h12 hi hi60),w55_y0 hl h12 hi hi60,w55_y1 hl h12 hi hi60,w55_y2 hl h12 hi hi60]
   obtain ⟨k0,k1⟩:=atI_in (l:=l) (i:=i) h12
   generalize atI l i 12=k at k0 k1
   -- behind the choice
   have tail:∀ k:Int,0<=k->k < 12->(d=1->k < 4)->Gen d l i ((w56n3 (N,w56gY N n) (d:Int) k l (i+1) 0 0 (fun z96 z97 z98 z99 z100=>some (w56r0 ((Ex.mk z98 z99 z100).op) ((Ex.mk z98 z99 z100).num) ((Ex.mk z98 z99 z100).kids) z96 z97))
       (fun z101 z102 z103 z104 _ _=>
        gx [3,4,5,6,7,4] (IntKind.i64.wrap (z102 - 6)) fun y107=>
        ck ((w56gY N n (IntKind.i64.wrap (z101 - 1)) z103 z104).isSome) <|
        ck ((w56gY N n (IntKind.i64.wrap (z101 - 1)) ((w56gY N n (IntKind.i64.wrap (z101 - 1)) z103 z104).getD (0,0,[],[],0)).2.2.2.1 ((w56gY N n (IntKind.i64.wrap (z101 - 1)) z103 z104).getD (0,0,[],[],0)).2.2.2.2).isSome) <|
        some (w56r0 y107 0 [Ex.mk ((w56gY N n (IntKind.i64.wrap (z101 - 1)) z103 z104).getD (0,0,[],[],0)).1 ((w56gY N n (IntKind.i64.wrap (z101 - 1)) z103 z104).getD (0,0,[],[],0)).2.1 ((w56gY N n (IntKind.i64.wrap (z101 - 1)) z103 z104).getD (0,0,[],[],0)).2.2.1,Ex.mk ((w56gY N n (IntKind.i64.wrap (z101 - 1)) ((w56gY N n (IntKind.i64.wrap (z101 - 1)) z103 z104).getD (0,0,[],[],0)).2.2.2.1 ((w56gY N n (IntKind.i64.wrap (z101 - 1)) z103 z104).getD (0,0,[],[],0)).2.2.2.2).getD (0,0,[],[],0)).1 ((w56gY N n (IntKind.i64.wrap (z101 - 1)) ((w56gY N n (IntKind.i64.wrap (z101 - 1)) z103 z104).getD (0,0,[],[],0)).2.2.2.1 ((w56gY N n (IntKind.i64.wrap (z101 - 1)) z103 z104).getD (0,0,[],[],0)).2.2.2.2).getD (0,0,[],[],0)).2.1 ((w56gY N n (IntKind.i64.wrap (z101 - 1)) ((w56gY N n (IntKind.i64.wrap (z101 - 1)) z103 z104).getD (0,0,[],[],0)).2.2.2.1 ((w56gY N n (IntKind.i64.wrap (z101 - 1)) z103 z104).getD (0,0,[],[],0)).2.2.2.2).getD (0,0,[],[],0)).2.2.1]
         ((w56gY N n (IntKind.i64.wrap (z101 - 1)) ((w56gY N n (IntKind.i64.wrap (z101 - 1)) z103 z104).getD (0,0,[],[],0)).2.2.2.1 ((w56gY N n (IntKind.i64.wrap (z101 - 1)) z103 z104).getD (0,0,[],[],0)).2.2.2.2).getD (0,0,[],[],0)).2.2.2.1
         ((w56gY N n (IntKind.i64.wrap (z101 - 1)) ((w56gY N n (IntKind.i64.wrap (z101 - 1)) z103 z104).getD (0,0,[],[],0)).2.2.2.1 ((w56gY N n (IntKind.i64.wrap (z101 - 1)) z103 z104).getD (0,0,[],[],0)).2.2.2.2).getD (0,0,[],[],0)).2.2.2.2)):O).bind w56un):=by
    intro k k0 k1 kd
    have leaf:∀ (o m:Int) (t:List Int),(o=0\/o=1)->(∀ y ∈ t,0<=y/\y<=mostI o)->m=t.length->1<=m->Gen d l i ((leafO N l (i+1) o m t (fun z96 z97 z98 z99 z100=>some (w56r0 ((Ex.mk z98 z99 z100).op) ((Ex.mk z98 z99 z100).num) ((Ex.mk z98 z99 z100).kids) z96 z97)):O).bind w56un):=by
     intro o m t ho ht hm h1
     obtain ⟨y,hy,e⟩:=leaf_ex (N:=N) (o:=o) (K0:=fun z96 z97 z98 z99 z100=>some (w56r0 ((Ex.mk z98 z99 z100).op) ((Ex.mk z98 z99 z100).num) ((Ex.mk z98 z99 z100).kids) z96 z97)) hl (by omega) hi1 hm h1
     obtain ⟨y0,y1⟩:=ht y hy
     refine ⟨.mk o y [],i+1+1,by rw [e];rfl,?_,?_,?_,by omega,by omega⟩
     ·rcases ho with rfl | rfl
      ·simp only [okE,here,okL,List.length_nil]
       simp [kidsI,y0,y1]
      ·simp only [okE,here,okL,List.length_nil]
       simp [kidsI,y0,y1]
     ·have:2 ^ 1<=2 ^ d:=Nat.pow_le_pow_right (by decide) hd
      simpa [sizeE,sizeL] using this
     ·simpa [depE,depL] using hd
    have sub:∀ j:Int,0<=j->j+2 * 2 ^ (d - 1) < 2 ^ 50->2<=d->Gen (d - 1) l j (w56gY N n (IntKind.i64.wrap ((d:Int) - 1)) l j):=fun j hj hjB h2=>by
     rw [wr (by omega) (by omega),show (d:Int) - 1=((d - 1:Nat):Int) by omega]
     exact w56_ex hl hlen n (d - 1) j (by omega) (by omega) (by omega) hj hjB
    have pw:2<=d->2 ^ d=2 * 2 ^ (d - 1)/\(2:Int) ^ d=2 * 2 ^ (d - 1):=fun h2=>by
     obtain ⟨d',rfl⟩:∃ d',d=d'+1:=⟨d - 1,by omega⟩
     simp only [Nat.add_sub_cancel]
     exact ⟨by rw [Nat.pow_succ];omega,by rw [Int.pow_succ];omega⟩
    have unary:∀ o:Int,(o=2\/o=8)->2<=d->Gen d l i ((oneO (w56gY N n) (d:Int) l (i+1) o (fun z96 z97 z98 z99 z100=>some (w56r0 ((Ex.mk z98 z99 z100).op) ((Ex.mk z98 z99 z100).num) ((Ex.mk z98 z99 z100).kids) z96 z97)):O).bind w56un):=by
     intro o ho h2
     obtain ⟨p1,p2⟩:=pw h2
     obtain ⟨e,i',e1,e2,e3,e4,e5,e6⟩:=sub (i+1) (by omega) (by omega) h2
     unfold oneO
     simp only [e1,Option.isSome_some,Option.getD_some,ck_t,Ex.eta]
     refine ⟨.mk o 0 [e],i',rfl,?_,?_,?_,by omega,by omega⟩
     ·rcases ho with rfl | rfl <;> simp only [okE,okL,e2] <;> rfl
     ·simp only [sizeE,sizeL];omega
     ·simp only [depE,depL];omega
    have binary:∀ o:Int,(o=3\/o=4\/o=5\/o=6\/o=7)->2<=d->∀ f:Int->O,(∀ y,f y=ck ((w56gY N n (IntKind.i64.wrap ((d:Int) - 1)) l (i+1)).isSome) (
        ck ((w56gY N n (IntKind.i64.wrap ((d:Int) - 1)) ((w56gY N n (IntKind.i64.wrap ((d:Int) - 1)) l (i+1)).getD (0,0,[],[],0)).2.2.2.1 ((w56gY N n (IntKind.i64.wrap ((d:Int) - 1)) l (i+1)).getD (0,0,[],[],0)).2.2.2.2).isSome) (
        some (w56r0 y 0 [Ex.mk ((w56gY N n (IntKind.i64.wrap ((d:Int) - 1)) l (i+1)).getD (0,0,[],[],0)).1 ((w56gY N n (IntKind.i64.wrap ((d:Int) - 1)) l (i+1)).getD (0,0,[],[],0)).2.1 ((w56gY N n (IntKind.i64.wrap ((d:Int) - 1)) l (i+1)).getD (0,0,[],[],0)).2.2.1,Ex.mk ((w56gY N n (IntKind.i64.wrap ((d:Int) - 1)) ((w56gY N n (IntKind.i64.wrap ((d:Int) - 1)) l (i+1)).getD (0,0,[],[],0)).2.2.2.1 ((w56gY N n (IntKind.i64.wrap ((d:Int) - 1)) l (i+1)).getD (0,0,[],[],0)).2.2.2.2).getD (0,0,[],[],0)).1 ((w56gY N n (IntKind.i64.wrap ((d:Int) - 1)) ((w56gY N n (IntKind.i64.wrap ((d:Int) - 1)) l (i+1)).getD (0,0,[],[],0)).2.2.2.1 ((w56gY N n (IntKind.i64.wrap ((d:Int) - 1)) l (i+1)).getD (0,0,[],[],0)).2.2.2.2).getD (0,0,[],[],0)).2.1 ((w56gY N n (IntKind.i64.wrap ((d:Int) - 1)) ((w56gY N n (IntKind.i64.wrap ((d:Int) - 1)) l (i+1)).getD (0,0,[],[],0)).2.2.2.1 ((w56gY N n (IntKind.i64.wrap ((d:Int) - 1)) l (i+1)).getD (0,0,[],[],0)).2.2.2.2).getD (0,0,[],[],0)).2.2.1]
         ((w56gY N n (IntKind.i64.wrap ((d:Int) - 1)) ((w56gY N n (IntKind.i64.wrap ((d:Int) - 1)) l (i+1)).getD (0,0,[],[],0)).2.2.2.1 ((w56gY N n (IntKind.i64.wrap ((d:Int) - 1)) l (i+1)).getD (0,0,[],[],0)).2.2.2.2).getD (0,0,[],[],0)).2.2.2.1
         ((w56gY N n (IntKind.i64.wrap ((d:Int) - 1)) ((w56gY N n (IntKind.i64.wrap ((d:Int) - 1)) l (i+1)).getD (0,0,[],[],0)).2.2.2.1 ((w56gY N n (IntKind.i64.wrap ((d:Int) - 1)) l (i+1)).getD (0,0,[],[],0)).2.2.2.2).getD (0,0,[],[],0)).2.2.2.2))))->Gen d l i ((f o).bind w56un):=by
     intro o ho h2 f hf
     obtain ⟨p1,p2⟩:=pw h2
     obtain ⟨e,i',e1,e2,e3,e4,e5,e6⟩:=sub (i+1) (by omega) (by omega) h2
     obtain ⟨g,i2,g1,g2,g3,g4,g5,g6⟩:=sub i' (by omega) (by omega) h2
     rw [hf]
     simp only [e1,g1,Option.isSome_some,Option.getD_some,ck_t,Ex.eta]
     refine ⟨.mk o 0 [e,g],i2,rfl,?_,?_,?_,by omega,by omega⟩
     ·rcases ho with rfl | rfl | rfl | rfl | rfl <;> simp only [okE,okL,e2,g2] <;> rfl
     ·simp only [sizeE,sizeL];omega
     ·simp only [depE,depL];omega
    have hk:k=0\/k=1\/k=2\/k=3\/k=4\/k=5\/k=6\/k=7\/k=8\/k=9\/k=10\/k=11:=by omega
    rcases hk with rfl | rfl | rfl | rfl | rfl | rfl | rfl | rfl | rfl | rfl | rfl | rfl
    ·rw [t0];exact leaf 0 6 _ (.inl rfl) (by decide) rfl (by decide)
    ·rw [t1];exact leaf 0 6 _ (.inl rfl) (by decide) rfl (by decide)
    ·rw [t2];exact leaf 1 5 _ (.inr rfl) (by decide) rfl (by decide)
    ·rw [t3];exact leaf 1 5 _ (.inr rfl) (by decide) rfl (by decide)
    ·rw [t4];exact unary 2 (.inl rfl) (by omega)
    ·rw [t5];exact unary 8 (.inr rfl) (by omega)
    ·rw [t6];exact binary 3 (by omega) (by omega) _ fun y=>rfl
    ·rw [t7];exact binary 4 (by omega) (by omega) _ fun y=>rfl
    ·rw [t8];exact binary 5 (by omega) (by omega) _ fun y=>rfl
    ·rw [t9];exact binary 6 (by omega) (by omega) _ fun y=>rfl
    ·rw [t10];exact binary 7 (by omega) (by omega) _ fun y=>rfl
    ·rw [t11];exact binary 4 (by omega) (by omega) _ fun y=>rfl
   unfold w56n0 w56l0 w56F0
   simp only []
   by_cases hb:(d:Int)<=1\/(l.length:Int) < i+1
   ·rw [show (decide ((d:Int)<=1)||decide ((l.length:Int) < i+1))=true by simpa using hb,br_t,ck_t]
    obtain ⟨m0,m1⟩:=tmod_in (m:=4) k0 (by decide)
    exact tail _ m0 (by omega) fun _=>m1
   ·rw [show (decide ((d:Int)<=1)||decide ((l.length:Int) < i+1))=false by simpa using hb,br_f]
    exact tail k k0 k1 fun h=>by omega
end Go.Proofs
/- The formulas that are made of numbers: what they are. -/
namespace Go.Proofs
open Go Go.Ax Go.Ax.Alg
theorem okE_root {e:Ex} (h:okE e false=true):okE e true=true:=by
 cases e with | mk o a ks=>
 simp only [okE,here,Bool.and_eq_true] at h ⊢
 obtain ⟨⟨⟨⟨h1,h2⟩,h3⟩,h4⟩,h5⟩:=h
 exact ⟨⟨⟨⟨h1,rfl⟩,h3⟩,h4⟩,h5⟩
theorem gen_py {N:Nat} {d:Nat} {l:List Int} {i:Int} (h:Gen d l i (w56gY N N (d:Int) l i)):∃ e i',w56p N d l i=true/\w56y0 N d l i=e.op/\w56y1 N d l i=e.num/\w56y2 N d l i=e.kids/\w56y3 N d l i=l/\w56y4 N d l i=i' /\
    okE e false=true/\sizeE e+1<=2 ^ d/\depE e<=d/\i < i'/\i'+2<=i+2 * 2 ^ d:=by
 obtain ⟨e,i',h1,h2⟩:=h
 refine ⟨e,i',?_,?_,?_,?_,?_,?_,h2⟩
 ·unfold w56p;rw [h1];rfl
 ·unfold w56y0;rw [h1];rfl
 ·unfold w56y1;rw [h1];rfl
 ·unfold w56y2;rw [h1];rfl
 ·unfold w56y3;rw [h1];rfl
 ·unfold w56y4;rw [h1];rfl
def mostD (depth:Int):Nat:=(max 1 (min 5 depth)).toNat
theorem mostD_in (depth:Int):1<=mostD depth/\mostD depth<=5/\max 1 (min 5 depth)=(mostD depth:Int):=by unfold mostD;omega
theorem w33_ex {N:Nat} (hN:5<=N) {l:List Int} (hl:∀ x ∈ l,J64 x) (hlen:l.length < 2 ^ 60) (depth:Int):∃ e,w33z N l depth=some (e.op,e.num,e.kids)/\okE e true=true/\sizeE e<=31/\depE e<=5 /\
    (1 < atI l 0 6->okE e false=true/\sizeE e+1<=2 ^ mostD depth/\depE e<=mostD depth):=by
 obtain ⟨m1,m5,hm⟩:=mostD_in depth
 generalize mostD depth=d at m1 m5 hm
 have h6:(1:Int)<=6:=by decide
 have pw:2 ^ d<=32/\(2:Int) ^ d<=32:=by
  have:d=1\/d=2\/d=3\/d=4\/d=5:=by omega
  rcases this with rfl | rfl | rfl | rfl | rfl <;> decide
 unfold w33z w33 w33G
 simp only [hm]
 rw [ck_of (w55_p hl h6 (by decide) (by decide)),w55_y0 hl h6 (by decide) (by decide),w55_y1 hl h6 (by decide) (by decide),w55_y2 hl h6 (by decide) (by decide)]
 obtain ⟨k0,k1⟩:=atI_in (l:=l) (i:=0) h6
 generalize atI l 0 6=k at k0 k1
 by_cases hb:1 < k\/(d:Int) < 2
 ·rw [show (decide (1 < k)||decide ((d:Int) < 2))=true by simpa using hb,br_t]
  obtain ⟨e,i',p,y0,y1,y2,y3,y4,o1,o2,o3,o4,o5⟩:=gen_py (N:=N) (w56_ex hl hlen N d (0+1) m1 (by omega) m5 (by decide) (by omega))
  simp only [p,y0,y1,y2,ck_t]
  exact ⟨e,rfl,okE_root o1,by omega,by omega,fun _=>⟨o1,o2,o3⟩⟩
 ·rw [show (decide (1 < k)||decide ((d:Int) < 2))=false by simpa using hb,br_f,wr (x:=(d:Int) - 1) (by omega) (by omega),show (d:Int) - 1=((d - 1:Nat):Int) by omega]
  have pd:(2:Int) ^ (d - 1)<=16/\2 ^ (d - 1)<=16:=by
   have:d - 1=1\/d - 1=2\/d - 1=3\/d - 1=4:=by omega
   rcases this with h | h | h | h <;> rw [h] <;> decide
  obtain ⟨e,i',p,y0,y1,y2,y3,y4,o1,o2,o3,o4,o5⟩:=gen_py (N:=N) (w56_ex hl hlen N (d - 1) (0+1) (by omega) (by omega) (by omega) (by decide) (by omega))
  obtain ⟨g,i2,q,z0,z1,z2,z3,z4,q1,q2,q3,q4,q5⟩:=gen_py (N:=N) (w56_ex hl hlen N (d - 1) i' (by omega) (by omega) (by omega) (by omega) (by omega))
  simp only [p,y0,y1,y2,y3,y4,q,z0,z1,z2,ck_t,Ex.eta]
  have hk:k=0\/k=1:=by omega
  refine ⟨.mk (9+k) 0 [e,g],?_,?_,?_,?_,fun h=>by omega⟩
  ·rcases hk with rfl | rfl <;> rfl
  ·rcases hk with rfl | rfl <;> simp only [okE,okL,o1,q1] <;> rfl
  ·simp only [sizeE,sizeL];omega
  ·simp only [depE,depL];omega
theorem w33_py {N:Nat} (hN:5<=N) {l:List Int} (hl:∀ x ∈ l,J64 x) (hlen:l.length < 2 ^ 60) (depth:Int):∃ e,w33p N l depth=true/\w33y0 N l depth=e.op/\w33y1 N l depth=e.num/\w33y2 N l depth=e.kids/\okE e true=true/\sizeE e<=31/\depE e<=5 /\
    (1 < atI l 0 6->okE e false=true/\sizeE e+1<=2 ^ mostD depth/\depE e<=mostD depth):=by
 obtain ⟨e,h1,h2⟩:=w33_ex (N:=N) hN hl hlen depth
 refine ⟨e,?_,?_,?_,?_,h2⟩
 ·unfold w33p;rw [h1];rfl
 ·unfold w33y0;rw [h1];rfl
 ·unfold w33y1;rw [h1];rfl
 ·unfold w33y2;rw [h1];rfl
end Go.Proofs
