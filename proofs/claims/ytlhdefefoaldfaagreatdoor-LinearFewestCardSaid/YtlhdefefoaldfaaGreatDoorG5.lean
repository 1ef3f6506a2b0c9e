/- The own reader. Conditions are in the theorems. -/
import Derived.Test.YtlhdefefoaldfaaGreatDoorG4
import Derived.Test.YtlhdefefoaldfaaGreatDoorF1
import Derived.Test.YtlhdefefoaldfaaGreatDoorF5
import Derived.Test.YtlhdefefoaldfaaGreatDoorG1
/- The own reader: what it sees, what it needs, numerals, operations. -/
namespace Go.Proofs
open Go Go.Ax Go.Ax.Alg
def at_ (s l:Tx):Int:=((s.length - l.length:Nat):Int)
theorem at_cons {s t:Tx} {c:UInt8} (h:(c::t) <:+ s):s[s.length - (c::t).length]?=some c/\at_ s t=at_ s (c::t)+1/\at_ s (c::t) < (s.length:Int):=by
 obtain ⟨p,rfl⟩:=h
 unfold at_
 refine ⟨?_,?_,?_⟩
 ·simp
 ·simp only [List.length_append,List.length_cons];omega
 ·simp only [List.length_append,List.length_cons];omega
theorem at_nil {s:Tx}:at_ s []=(s.length:Int):=rfl
theorem at_self {s:Tx}:at_ s s=0:=by unfold at_;simp
theorem at_ge {s l:Tx}:0<=at_ s l/\at_ s l<=(s.length:Int):=by unfold at_;omega
theorem suf_tl {s t:Tx} {c:UInt8} (h:(c::t) <:+ s):t <:+ s:=(List.suffix_cons c t).trans h
theorem gx_s {s t:Tx} {c:UInt8} (h:(c::t) <:+ s) (k:UInt8->O):gx s (at_ s (c::t)) k=k c:=gx_at (at_cons h).1 k
theorem wr_at {s t:Tx} {c:UInt8} (h:(c::t) <:+ s) (hs:s.length < 2 ^ 62):IntKind.i64.wrap (at_ s (c::t)+1)=at_ s t:=by
 have a:=at_cons h
 have b:=at_ge (s:=s) (l:=t)
 rw [← a.2.1]
 exact wr (by omega) (by omega)
theorem w77_loop {N:Nat} {s:Tx} {K:Tx×Int->O} {k1 k2:Unit->O} (hs:s.length < 2 ^ 62):∀ (l:Tx) (m:Nat),l <:+ s->l.length < m->w77l0 N m (s,at_ s l) K k1 k2=K (s,at_ s (skp l))
 | _,0,_,h=>by omega
 | [],m+1,_,_=>by
   show w77F0 _ _ _ _ _=_
   unfold w77F0
   simp only []
   rw [at_nil,decide_eq_false (by omega),gc_f,Bool.false_and,br_f]
   rfl
 | c::t,m+1,h,hm=>by
   have a:=at_cons h
   show w77F0 _ _ _ _ _=_
   unfold w77F0
   simp only []
   rw [decide_eq_true a.2.2,gc_t,gx_s h,Bool.true_and]
   by_cases hc:c=32
   ·rw [decide_eq_true hc,br_t,wr_at h hs,skp,if_pos hc]
    exact w77_loop hs t m (suf_tl h) (by simp at hm;omega)
   ·rw [decide_eq_false hc,br_f,skp,if_neg hc]
theorem w77_z {N:Nat} {s l:Tx} (hs:s.length < 2 ^ 62) (h:l <:+ s) (hN:s.length < N):w77z N s (at_ s l)=some ((skp l).headD 0,s,at_ s (skp l)):=by
 have hl:=h.length_le
 have:=w77_loop (N:=N) (K:=fun y=>(fun z4 z5=>br (decide (z5=(z4.length:Int))) (some (w77r0 0 z4 z5)) (gx z4 z5 fun y6=>some (w77r0 y6 z4 z5))) y.1 y.2) (k1:=fun _=>none) (k2:=fun _=>none) hs l N h (by omega)
 refine (congrArg (fun z:O=>z.bind w77un) this).trans ?_
 simp only []
 have h':=(skp_suf l).trans h
 cases hk:skp l with
 | nil=>rw [at_nil,decide_eq_true rfl,br_t];rfl
 | cons c t=>
   rw [hk] at h'
   have a:=at_cons h'
   rw [decide_eq_false (by omega),br_f,gx_s h'];rfl
section
variable {N:Nat} {s l:Tx} (hs:s.length < 2 ^ 62) (h:l <:+ s) (hN:s.length < N)
include hs h hN
theorem w77_p:w77p N s (at_ s l)=true:=by unfold w77p;rw [w77_z hs h hN];rfl
theorem w77_y0:w77y0 N s (at_ s l)=(skp l).headD 0:=by unfold w77y0;rw [w77_z hs h hN];rfl
theorem w77_y1:w77y1 N s (at_ s l)=s:=by unfold w77y1;rw [w77_z hs h hN];rfl
theorem w77_y2:w77y2 N s (at_ s l)=at_ s (skp l):=by unfold w77y2;rw [w77_z hs h hN];rfl
end
theorem w78_p {N:Nat} {s:Tx} {i:Int}:w78p N s i=true:=rfl
theorem w78_0 {N:Nat} {s:Tx} {i:Int}:w78pv0 N s i=i:=rfl
theorem w78_1 {N:Nat} {s:Tx} {i:Int}:w78pv1 N s i=s:=rfl
theorem w78_2 {N:Nat} {s:Tx} {i:Int}:w78pv2 N s i=i:=rfl
section
variable {N:Nat} {s l:Tx} (hs:s.length < 2 ^ 62) (h:l <:+ s) (hN:s.length < N) {c:UInt8}
include hs h hN
theorem w111_ok {t:Tx} (hk:skp l=c::t):w111z N c s (at_ s l)=some (.inl (s,at_ s t)):=by
 have h':(c::t) <:+ s:=hk ▸ (skp_suf l).trans h
 show (w111G _ _ _ _:O).bind w111un=_
 unfold w111G
 rw [ck_of (w77_p hs h hN),w77_y0 hs h hN,w77_y1 hs h hN,w77_y2 hs h hN,hk,decide_eq_false (by simp),br_f,wr_at h' hs]
 rfl
theorem w111_no (hk:(skp l).head?≠some c) (h0:c≠0):w111z N c s (at_ s l)=some (.inr (at_ s (skp l),s,at_ s (skp l))):=by
 show (w111G _ _ _ _:O).bind w111un=_
 unfold w111G
 rw [ck_of (w77_p hs h hN),w77_y0 hs h hN,w77_y1 hs h hN,w77_y2 hs h hN,decide_eq_true,br_t,ck_of w78_p,w78_0,w78_1,w78_2]
 ·rfl
 ·cases hk':skp l with
  | nil=>exact fun h=>h0 h.symm
  | cons d t=>rw [hk'] at hk;exact fun h=>hk (by rw [← h];rfl)
end
theorem w110_loop {N:Nat} {s:Tx} {i a b:Int} {K:Int×Tx×Int×Int×Int->O} {k1 k2:Unit->O} (hs:s.length < 2 ^ 62):∀ (l:Tx) (m:Nat),l <:+ s->l.length < m->w110l0 N m (at_ s l,s,i,a,b) K k1 k2=K (at_ s (l.dropWhile dig),s,i,a,b)
 | _,0,_,h=>by omega
 | [],m+1,_,_=>by
   show w110F0 _ _ _ _ _ _ _ _=_
   unfold w110F0
   simp only []
   rw [at_nil,decide_eq_false (by omega),gc_f,Bool.false_and,gc_f,Bool.false_and,br_f]
   rfl
 | c::t,m+1,h,hm=>by
   have ha:=at_cons h
   have ih:=w110_loop (N:=N) (i:=i) (a:=a) (b:=b) (K:=K) (k1:=k1) (k2:=k2) hs t m (suf_tl h) (by simp at hm;omega)
   show w110F0 _ _ _ _ _ _ _ _=_
   unfold w110F0
   simp only []
   rw [decide_eq_true ha.2.2,gc_t,gx_s h,Bool.true_and]
   rw [List.dropWhile_cons]
   cases h1:decide (48<=c) with
   | false=>
     have hn:¬ dig c=true:=by unfold dig;rw [h1];simp
     rw [gc_f,Bool.false_and,br_f,if_neg hn]
   | true=>
     rw [gc_t,gx_s h,Bool.true_and]
     cases h2:decide (c<=57) with
     | false=>
       have hn:¬ dig c=true:=by unfold dig;rw [h2];simp
       rw [br_f,if_neg hn]
     | true=>
       have hn:dig c=true:=by unfold dig;rw [h1,h2];rfl
       rw [br_t,if_pos hn,wr_at h hs]
       exact ih
theorem slc_run {s l:Tx} (h:l <:+ s):slcOk s.length (some (at_ s l)) (some (at_ s (l.dropWhile dig)))=true/\slc s (some (at_ s l)) (some (at_ s (l.dropWhile dig)))=l.takeWhile dig:=by
 obtain ⟨p,rfl⟩:=h
 have e:=List.takeWhile_append_dropWhile (p:=dig) (l:=l)
 generalize l.takeWhile dig=a at e
 generalize l.dropWhile dig=b at e
 subst e
 unfold at_ slc slcOk
 have e1:(p++(a++b)).length - (a++b).length=p.length:=by simp
 have e2:(p++(a++b)).length - b.length=p.length+a.length:=by simp only [List.length_append];omega
 rw [e1,e2]
 refine ⟨decide_eq_true ?_,?_⟩
 ·simp only [List.length_append];omega
 ·show ((p++(a++b)).take ((p.length+a.length:Nat):Int).toNat).drop ((p.length:Nat):Int).toNat=a
  rw [Int.toNat_natCast,Int.toNat_natCast,← List.append_assoc,← List.length_append,List.take_left,List.drop_left]
theorem decF {l:Tx}:∀ acc:Nat,(∀ c ∈ l,dig c=true)->Lib.decFrom acc l=some (l.foldl (fun n c=>10 * n+(c.toNat - 48)) acc):=by
 induction l with
 | nil=>intro acc _;rfl
 | cons c l ih=>
   intro acc h
   have hc:=dig_cases (h c (List.mem_cons_self ..))
   unfold Lib.decFrom Lib.digitVal
   rw [if_pos hc]
   simp only []
   rw [ih _ (fun d hd=>h d (List.mem_cons_of_mem _ hd)),List.foldl_cons,Nat.mul_comm]
theorem foldI {l:Tx}:∀ acc:Nat,(∀ c ∈ l,dig c=true)->((l.foldl (fun n c=>10 * n+(c.toNat - 48)) acc:Nat):Int)=l.foldl (fun n c=>10 * n+((c.toNat:Int) - 48)) (acc:Int):=by
 induction l with
 | nil=>intro acc _;rfl
 | cons c l ih=>
   intro acc h
   have hc:=dig_cases (h c (List.mem_cons_self ..))
   rw [List.foldl_cons,List.foldl_cons,ih _ (fun d hd=>h d (List.mem_cons_of_mem _ hd))]
   congr 1
   omega
theorem atoi_run {l:Tx} (hne:l≠[]) (h:∀ c ∈ l,dig c=true):Lib.atoi l=some (numD l):=by
 cases l with
 | nil=>exact absurd rfl hne
 | cons c t=>
   have hc:=dig_cases (h c (List.mem_cons_self ..))
   have n1:(c == 45)=false:=beq_eq_false_iff_ne.2 (ne_of_nat (by show c.toNat≠45;omega))
   have n2:(c == 43)=false:=beq_eq_false_iff_ne.2 (ne_of_nat (by show c.toNat≠43;omega))
   simp only [Lib.atoi,n1,n2,Lib.decNat,List.isEmpty_cons,Bool.false_eq_true,if_false,decF 0 h,Option.map_some]
   rw [foldI 0 h]
   rfl
theorem run_dig (l:Tx):∀ c ∈ l.takeWhile dig,dig c=true:=fun c hc=>List.all_eq_true.1 (List.all_takeWhile (p:=dig) (l:=l)) c hc
theorem run_ne {c:UInt8} {t:Tx} (h:dig c=true):(c::t).takeWhile dig=c::t.takeWhile dig:=by rw [List.takeWhile_cons,if_pos h]
section
variable {N:Nat} {s t:Tx} {c:UInt8} (hs:s.length < 2 ^ 62) (h:(c::t) <:+ s) (hN:s.length < N) (hd:dig c=true)
include hs h hN hd
theorem w110_ok (hr:runOk ((c::t).takeWhile dig)=true):w110z N s (at_ s (c::t))=some (.inl (0,numD ((c::t).takeWhile dig),[],s,at_ s ((c::t).dropWhile dig))):=by
 have hl:=h.length_le
 have lp:=w110_loop (N:=N) (i:=at_ s (c::t)) (a:=0) (b:=0) (K:=fun y=>(fun z7 z8 z9 z10 z11=>
     ck (slcOk z8.length (some z9) (some z7)) <|
     w110n1 N z7 (slc z8 (some z9) (some z7)) z8 z9 z10 z11
      (fun z16 z17 z18=>some (w110r1 z16 z17 z18))
      (fun z19 z20 z21 z22 _ _=>
       ck (w117p N z20) <|
       br false
        (ck (w78p N z21 z22) <| some (w110r1 (w78pv0 N z21 z22) (w78pv1 N z21 z22) (w78pv2 N z21 z22)))
        (some (w110r0 0 (w117y0 N z20) [] z21 z19)))) y.1 y.2.1 y.2.2.1 y.2.2.2.1 y.2.2.2.2) (k1:=fun _=>none) (k2:=fun _=>none) hs (c::t) N h (by omega)
 refine (congrArg (fun z:O=>z.bind w110un) lp).trans ?_
 simp only []
 have sl:=slc_run h
 have ai:=atoi_run (l:=(c::t).takeWhile dig) (by rw [run_ne hd];simp) (run_dig _)
 unfold runOk at hr
 rw [Bool.and_eq_true] at hr
 have h6:=of_decide_eq_true hr.1
 have h1:=hr.2
 have hp:w117p N ((c::t).takeWhile dig)=true:=by
  unfold w117p
  rw [decide_eq_true (by omega),ai];rfl
 have hy:w117y0 N ((c::t).takeWhile dig)=numD ((c::t).takeWhile dig):=by unfold w117y0;rw [ai];rfl
 rw [ck_of sl.1,sl.2]
 unfold w110n1 w110l1 w110F1
 simp only []
 rw [decide_eq_false (by omega),Bool.not_false,Bool.true_and]
 generalize (c::t).takeWhile dig=run at *
 have goal:∀ b:Bool,b=false->((br b (ck (w78p N s (at_ s (c::t))) <| some (w110r1 (w78pv0 N s (at_ s (c::t))) (w78pv1 N s (at_ s (c::t))) (w78pv2 N s (at_ s (c::t)))))
     (ck (w117p N run) <| br false (ck (w78p N s (at_ s (c::t))) <| some (w110r1 (w78pv0 N s (at_ s (c::t))) (w78pv1 N s (at_ s (c::t))) (w78pv2 N s (at_ s (c::t))))) (some (w110r0 0 (w117y0 N run) [] s (at_ s ((c::t).dropWhile dig))))):O)).bind w110un=some (.inl (0,numD run,[],s,at_ s ((c::t).dropWhile dig))):=fun b hb=>by
  rw [hb,br_f,ck_of hp,br_f,hy];rfl
 cases run with
 | nil=>rw [decide_eq_false (by simp),gc_f];exact goal _ rfl
 | cons d r=>
   cases hl1:decide ((1:Int) < ((d::r).length:Int)) with
   | false=>rw [gc_f];exact goal _ rfl
   | true=>
     rw [gc_t,gx_0]
     refine goal _ ?_
     have:decide (1 < (d::r).length)=true:=decide_eq_true (by have:=of_decide_eq_true hl1;omega)
     rw [this,Bool.true_and] at h1
     simpa using h1
theorem w110_no (hr:runOk ((c::t).takeWhile dig)=false):w110z N s (at_ s (c::t))=some (.inr (at_ s (c::t),s,at_ s (c::t))):=by
 have hl:=h.length_le
 have lp:=w110_loop (N:=N) (i:=at_ s (c::t)) (a:=0) (b:=0) (K:=fun y=>(fun z7 z8 z9 z10 z11=>
     ck (slcOk z8.length (some z9) (some z7)) <|
     w110n1 N z7 (slc z8 (some z9) (some z7)) z8 z9 z10 z11
      (fun z16 z17 z18=>some (w110r1 z16 z17 z18))
      (fun z19 z20 z21 z22 _ _=>
       ck (w117p N z20) <|
       br false
        (ck (w78p N z21 z22) <| some (w110r1 (w78pv0 N z21 z22) (w78pv1 N z21 z22) (w78pv2 N z21 z22)))
        (some (w110r0 0 (w117y0 N z20) [] z21 z19)))) y.1 y.2.1 y.2.2.1 y.2.2.2.1 y.2.2.2.2) (k1:=fun _=>none) (k2:=fun _=>none) hs (c::t) N h (by omega)
 refine (congrArg (fun z:O=>z.bind w110un) lp).trans ?_
 simp only []
 have sl:=slc_run h
 rw [ck_of sl.1,sl.2]
 unfold w110n1 w110l1 w110F1
 simp only []
 unfold runOk at hr
 have hne:(c::t).takeWhile dig=c::t.takeWhile dig:=run_ne hd
 rw [hne] at hr ⊢
 generalize c::t.takeWhile dig=run at *
 have goal:∀ (b:Bool) (X:O),b=true->((br b (ck (w78p N s (at_ s (c::t))) <| some (w110r1 (w78pv0 N s (at_ s (c::t))) (w78pv1 N s (at_ s (c::t))) (w78pv2 N s (at_ s (c::t))))) X:O)).bind w110un=some (.inr (at_ s (c::t),s,at_ s (c::t))):=fun b X hb=>by
  rw [hb,br_t,ck_of w78_p];rfl
 cases run with
 | nil=>simp at hr
 | cons d r=>
   cases h6:decide ((6:Int) < ((d::r).length:Int)) with
   | true=>rw [Bool.not_true,Bool.false_and,gc_f];exact goal _ _ rfl
   | false=>
     rw [decide_eq_true (by have:=of_decide_eq_false h6;omega),Bool.true_and] at hr
     cases h1:decide (1 < (d::r).length) with
     | false=>rw [h1] at hr;simp at hr
     | true=>
       rw [h1] at hr
       rw [decide_eq_true (by have:=of_decide_eq_true h1;omega),Bool.not_false,Bool.true_and,gc_t,gx_0]
       refine goal _ _ ?_
       simpa using hr
end
abbrev opsL:List (Int×(Int×(Int×UInt8))):=[(0,999999,4,0),(0,25,4,0),(1,0,3,45),(2,0,1,43),(2,0,1,45),(2,0,2,42),(2,0,2,47),(2,0,3,94),(1,0,4,82),(2,0,0,61),(2,0,0,60)]
def isOp (n:Int) (c:UInt8) (o:Int×(Int×(Int×UInt8))):Bool:=decide (o.2.2.1=n)&&decide (o.1=2)&&decide (o.2.2.2=c)
theorem w98_loop {N:Nat} {n:Int} {c:UInt8} {K:Int×Int×UInt8->O} {k1:Int×UInt8->O} {k2:Unit->O}:∀ (l pre os:List (Int×(Int×(Int×UInt8)))) (m:Nat),os=pre++l->l.length < m->os.length < 2 ^ 62->
    w98l0 N m (os,(os.length:Int),(pre.length:Int),n,c) K k1 k2=match l.findIdx? (isOp n c) with | some j=>K (((pre.length+j:Nat):Int),n,c) | none=>k1 (n,c)
 | _,_,_,0,_,h,_=>by omega
 | [],pre,os,m+1,hk,_,_=>by
   show w98F0 _ _ _ _ _ _ _ _ _=_
   unfold w98F0
   simp only []
   subst hk
   rw [decide_eq_false (by simp),br_f]
   rfl
 | o::l,pre,os,m+1,hk,hm,h2=>by
   have hl:os.length=pre.length+(l.length+1):=by rw [hk];simp
   have ih:=w98_loop (N:=N) (n:=n) (c:=c) (K:=K) (k1:=k1) (k2:=k2) l (pre++[o]) os m (by rw [hk];simp) (by simp at hm;omega) h2
   rw [show ((pre++[o]).length:Int)=(pre.length:Int)+1 by simp] at ih
   have hg:os[pre.length]?=some o:=by rw [hk];simp
   show w98F0 _ _ _ _ _ _ _ _ _=_
   unfold w98F0
   simp only []
   rw [decide_eq_true (by omega),br_t,gx_at hg,ck_of (show w99p N _ _ _ _ _ _=true from rfl),wr (by omega) (by omega)]
   show br (isOp n c o) (K ((pre.length:Int),n,c)) (w98l0 N m (os,(os.length:Int),(pre.length:Int)+1,n,c) K k1 k2)=_
   rw [ih,List.findIdx?_cons]
   cases isOp n c o with
   | true=>rw [br_t];rfl
   | false=>
     rw [br_f]
     simp only [Bool.false_eq_true,if_false]
     cases l.findIdx? (isOp n c) with
     | none=>rfl
     | some j=>
       simp only [Option.map_some,List.length_append,List.length_cons,List.length_nil]
       congr 2
       omega
theorem isOp_f {n:Int} {c:UInt8} {o:Int×(Int×(Int×UInt8))} (h:o.2.2.1=n->o.1=2->o.2.2.2≠c):isOp n c o=false:=by
 unfold isOp
 by_cases h1:o.2.2.1=n
 ·by_cases h2:o.1=2
  ·rw [decide_eq_false (h h1 h2),Bool.and_false]
  ·rw [decide_eq_false h2,Bool.and_false,Bool.false_and]
 ·rw [decide_eq_false h1,Bool.false_and,Bool.false_and]
theorem find_op {k:Nat} {c:UInt8} (hk:k < 3):opsL.findIdx? (isOp (k:Int) c)=(opAt k c).map Int.toNat:=by
 match k,hk with
 | 0,_=>
   by_cases h1:c=61
   ·subst h1;rfl
   by_cases h2:c=60
   ·subst h2;rfl
   have:opAt 0 c=none:=by show (if c=61 then some (9:Int) else if c=60 then some 10 else none)=none;rw [if_neg h1,if_neg h2]
   rw [this,Option.map_none,List.findIdx?_eq_none_iff]
   intro o ho
   simp only [opsL,List.mem_cons,List.not_mem_nil,or_false] at ho
   rcases ho with rfl | rfl | rfl | rfl | rfl | rfl | rfl | rfl | rfl | rfl | rfl <;>
   first | exact isOp_f (fun h _=>absurd h (by decide)) | exact isOp_f (fun _ h=>absurd h (by decide)) | exact isOp_f (fun _ _ h=>h1 h.symm) | exact isOp_f (fun _ _ h=>h2 h.symm)
 | 1,_=>
   by_cases h1:c=43
   ·subst h1;rfl
   by_cases h2:c=45
   ·subst h2;rfl
   have:opAt 1 c=none:=by show (if c=43 then some (3:Int) else if c=45 then some 4 else none)=none;rw [if_neg h1,if_neg h2]
   rw [this,Option.map_none,List.findIdx?_eq_none_iff]
   intro o ho
   simp only [opsL,List.mem_cons,List.not_mem_nil,or_false] at ho
   rcases ho with rfl | rfl | rfl | rfl | rfl | rfl | rfl | rfl | rfl | rfl | rfl <;>
   first | exact isOp_f (fun h _=>absurd h (by decide)) | exact isOp_f (fun _ h=>absurd h (by decide)) | exact isOp_f (fun _ _ h=>h1 h.symm) | exact isOp_f (fun _ _ h=>h2 h.symm)
 | 2,_=>
   by_cases h1:c=42
   ·subst h1;rfl
   by_cases h2:c=47
   ·subst h2;rfl
   have:opAt 2 c=none:=by show (if c=42 then some (5:Int) else if c=47 then some 6 else none)=none;rw [if_neg h1,if_neg h2]
   rw [this,Option.map_none,List.findIdx?_eq_none_iff]
   intro o ho
   simp only [opsL,List.mem_cons,List.not_mem_nil,or_false] at ho
   rcases ho with rfl | rfl | rfl | rfl | rfl | rfl | rfl | rfl | rfl | rfl | rfl <;>
   first | exact isOp_f (fun h _=>absurd h (by decide)) | exact isOp_f (fun _ h=>absurd h (by decide)) | exact isOp_f (fun _ _ h=>h1 h.symm) | exact isOp_f (fun _ _ h=>h2 h.symm)
def opI (k:Nat) (c:UInt8):Int:=(opAt k c).getD (-1)
theorem w98_z {N k:Nat} {c:UInt8} (hN:12<=N) (hk:k < 3):w98z N opsL (k:Int) c=some (opI k c,(k:Int),c):=by
 have:=w98_loop (N:=N) (n:=(k:Int)) (c:=c) (K:=fun y=>(fun z4 z5 z6=>some (w98r0 z4 z5 z6)) y.1 y.2.1 y.2.2) (k1:=fun y=>(fun z7 z8=>some (w98r0 (-1) z7 z8)) y.1 y.2) (k2:=fun _=>none) opsL [] opsL N rfl (by simp;omega) (by simp)
 refine (congrArg (fun z:O=>z.bind w98un) this).trans ?_
 rw [find_op hk]
 unfold opI
 cases ho:opAt k c with
 | none=>rfl
 | some o=>
   have h0:0<=o:=by have:=(op_lvl ho).2.2;omega
   simp only [Option.map_some]
   rw [show (((([]:List (Int×(Int×(Int×UInt8)))).length+o.toNat:Nat):Int))=o by simp;omega]
   rfl
end Go.Proofs
/- The own reader: atoms, factors, levels, round by round. -/
namespace Go.Proofs
open Go Go.Ax Go.Ax.Alg
abbrev Rs:=(Int×Int×List Ex×Tx×Int) ⊕ (Int×Tx×Int)
abbrev Rc:=(Tx->Int->Option Rs)×(Tx->Int->Option Rs)×(Int->Tx->Int->Option Rs)
def enc (s:Tx):Pr->Rs
 | .ok e t=>.inl (e.op,e.num,e.kids,s,at_ s t)
 | .bad b=>.inr (at_ s b,s,at_ s b)
section
variable {N:Nat} {c:UInt8} {s:Tx} {i j:Int}
theorem n_p {r} (h:w111z N c s i=some r):w111p N c s i=true:=by unfold w111p;rw [h];rfl
theorem n_b (h:w111z N c s i=some (.inl (s,j))):w111b_ N c s i=true:=by unfold w111b_;rw [h];rfl
theorem n_0 (h:w111z N c s i=some (.inl (s,j))):w111y0 N c s i=s:=by unfold w111y0;rw [h];rfl
theorem n_1 (h:w111z N c s i=some (.inl (s,j))):w111y1 N c s i=j:=by unfold w111y1;rw [h];rfl
theorem n_f (h:w111z N c s i=some (.inr (j,s,j))):w111b_ N c s i=false:=by unfold w111b_;rw [h];rfl
theorem n_v0 (h:w111z N c s i=some (.inr (j,s,j))):w111pv0 N c s i=j:=by unfold w111pv0;rw [h];rfl
theorem n_v1 (h:w111z N c s i=some (.inr (j,s,j))):w111pv1 N c s i=s:=by unfold w111pv1;rw [h];rfl
theorem n_v2 (h:w111z N c s i=some (.inr (j,s,j))):w111pv2 N c s i=j:=by unfold w111pv2;rw [h];rfl
theorem sg {α:Type} {x d:α}:(some x).getD d=x:=rfl
theorem sm {α:Type} {x:α}:(some x).isSome=true:=rfl
theorem l_t {e:Ex} {t:Tx}:isL (some (enc s (.ok e t)))=true:=rfl
theorem l_f {b:Tx}:isL (some (enc s (.bad b)))=false:=rfl
theorem l_s {e:Ex} {t:Tx} {d}:sumL d (some (enc s (.ok e t)))=(e.op,e.num,e.kids,s,at_ s t):=rfl
theorem r_s {b:Tx} {d}:sumR d (some (enc s (.bad b)))=(at_ s b,s,at_ s b):=rfl
theorem eta_ex (e:Ex):Ex.mk e.op e.num e.kids=e:=by cases e;rfl
def PaS (N:Nat) (V:Int->Tx->Int->Option Rs) (s:Tx) (i:Int):Pr->Prop
 | .ok e t3=>∃ t t2,w111z N 40 s i=some (.inl (s,at_ s t))/\V 1 s (at_ s t)=some (enc s (.ok e t2))/\w111z N 41 s (at_ s t2)=some (.inl (s,at_ s t3))
 | .bad b=>w111z N 40 s i=some (.inr (at_ s b,s,at_ s b))\/(∃ t,w111z N 40 s i=some (.inl (s,at_ s t))/\V 1 s (at_ s t)=some (enc s (.bad b))) \/
   ∃ e t t2,w111z N 40 s i=some (.inl (s,at_ s t))/\V 1 s (at_ s t)=some (enc s (.ok e t2))/\w111z N 41 s (at_ s t2)=some (.inr (at_ s b,s,at_ s b))
end
theorem let_not {c:UInt8} (hl:let1 c=true):dig c=false/\97<=c.toNat/\c.toNat<=122:=by
 unfold let1 at hl
 rw [Bool.and_eq_true] at hl
 have h1:=UInt8.le_iff_toNat_le.1 (of_decide_eq_true hl.1)
 have h2:=UInt8.le_iff_toNat_le.1 (of_decide_eq_true hl.2)
 have h3:(97:UInt8).toNat=97:=rfl
 have h4:(122:UInt8).toNat=122:=rfl
 exact ⟨dig_not (by omega),by omega,by omega⟩
theorem head_ne {l:Tx} {c:UInt8} (h0:c≠0) (hh:(skp l).head?≠some c):decide ((skp l).headD 0=c)=false:=by
 cases hk:skp l with
 | nil=>exact decide_eq_false fun e=>h0 e.symm
 | cons d t=>rw [hk] at hh;exact decide_eq_false fun e=>hh (by rw [← e];rfl)
section
variable {N:Nat} {rc:Rc} {s l:Tx} (hs:s.length < 2 ^ 62) (h:l <:+ s) (hN:s.length < N)
include hs h hN
theorem at_num {t:Tx} {c:UInt8} (hk:skp l=c::t) (hd:dig c=true) (hr:runOk ((c::t).takeWhile dig)=true):w106z (N,rc) s (at_ s l)=some (enc s (.ok (.mk 0 (numD ((c::t).takeWhile dig)) []) ((c::t).dropWhile dig))):=by
 have h':(c::t) <:+ s:=hk ▸ (skp_suf l).trans h
 have hz:=w110_ok hs h' hN hd hr
 show (w106G _ _ _:O).bind w106un=_
 unfold w106G
 simp only []
 rw [ck_of (w77_p hs h hN),w77_y0 hs h hN,w77_y1 hs h hN,w77_y2 hs h hN,hk]
 have hdd:(decide (48<=(c::t).headD 0)&&decide ((c::t).headD 0<=57))=true:=hd
 rw [hdd,br_t,ck_of (show w110p N s (at_ s (c::t))=true by unfold w110p;rw [hz];rfl),show w110b_ N s (at_ s (c::t))=true by unfold w110b_;rw [hz];rfl,br_t]
 unfold w110y0 w110y1 w110y2 w110y3 w110y4
 rw [hz]
 rfl
theorem at_numBad {t:Tx} {c:UInt8} (hk:skp l=c::t) (hd:dig c=true) (hr:runOk ((c::t).takeWhile dig)=false):w106z (N,rc) s (at_ s l)=some (enc s (.bad (c::t))):=by
 have h':(c::t) <:+ s:=hk ▸ (skp_suf l).trans h
 have hz:=w110_no hs h' hN hd hr
 show (w106G _ _ _:O).bind w106un=_
 unfold w106G
 simp only []
 rw [ck_of (w77_p hs h hN),w77_y0 hs h hN,w77_y1 hs h hN,w77_y2 hs h hN,hk]
 have hdd:(decide (48<=(c::t).headD 0)&&decide ((c::t).headD 0<=57))=true:=hd
 rw [hdd,br_t,ck_of (show w110p N s (at_ s (c::t))=true by unfold w110p;rw [hz];rfl),show w110b_ N s (at_ s (c::t))=false by unfold w110b_;rw [hz];rfl,br_f]
 unfold w110pv0 w110pv1 w110pv2
 rw [hz]
 rfl
theorem at_var {t:Tx} {c:UInt8} (hk:skp l=c::t) (hl:let1 c=true):w106z (N,rc) s (at_ s l)=some (enc s (.ok (.mk 1 ((c.toNat:Int) - 97) []) t)):=by
 have h':(c::t) <:+ s:=hk ▸ (skp_suf l).trans h
 obtain ⟨hd,h1,h2⟩:=let_not hl
 show (w106G _ _ _:O).bind w106un=_
 unfold w106G
 simp only []
 rw [ck_of (w77_p hs h hN),w77_y0 hs h hN,w77_y1 hs h hN,w77_y2 hs h hN,hk]
 have hdd:(decide (48<=(c::t).headD 0)&&decide ((c::t).headD 0<=57))=false:=hd
 have hll:(decide (97<=(c::t).headD 0)&&decide ((c::t).headD 0<=122))=true:=hl
 rw [hdd,br_f,hll,br_t,wr_at h' hs]
 have hw:IntKind.i64.wrap ((((c::t).headD 0 - 97).toNat:Nat):Int)=(c.toNat:Int) - 97:=by
  have e:((c::t).headD 0 - 97).toNat=c.toNat - 97:=by
   show (c - 97).toNat=_
   rw [UInt8.toNat_sub_of_le _ _ (UInt8.le_iff_toNat_le.2 (show (97:UInt8).toNat<=c.toNat from h1))];rfl
  rw [e,wr (by omega) (by omega)];omega
 rw [hw]
 rfl
theorem at_par {r:Pr} (hc:∀ c,(skp l).head?=some c->dig c=false/\let1 c=false/\c≠82) (hp:PaS N rc.2.2 s (at_ s (skp l)) r):w106z (N,rc) s (at_ s l)=some (enc s r):=by
 have cond:(decide (48<=(skp l).headD 0)&&decide ((skp l).headD 0<=57))=false/\(decide (97<=(skp l).headD 0)&&decide ((skp l).headD 0<=122))=false/\decide ((skp l).headD 0=82)=false:=by
  cases hk:skp l with
  | nil=>exact ⟨rfl,rfl,rfl⟩
  | cons c t=>
    have:=hc c (by rw [hk];rfl)
    exact ⟨this.1,this.2.1,decide_eq_false this.2.2⟩
 show (w106G _ _ _:O).bind w106un=_
 unfold w106G
 simp only []
 rw [ck_of (w77_p hs h hN),w77_y0 hs h hN,w77_y1 hs h hN,w77_y2 hs h hN,cond.1,br_f,cond.2.1,br_f,cond.2.2,br_f]
 cases r with
 | ok e t3=>
   obtain ⟨t,t2,h1,h2,h3⟩:=hp
   rw [ck_of (n_p h1),n_b h1,br_t,n_0 h1,n_1 h1,h2,ck_of sm,l_t,br_t,l_s]
   simp only []
   rw [ck_of (n_p h3),n_b h3,br_t,n_0 h3,n_1 h3]
   rfl
 | bad b=>
   rcases hp with h1 | ⟨t,h1,h2⟩ | ⟨e,t,t2,h1,h2,h3⟩
   ·rw [ck_of (n_p h1),n_f h1,br_f,n_v0 h1,n_v1 h1,n_v2 h1]
    rfl
   ·rw [ck_of (n_p h1),n_b h1,br_t,n_0 h1,n_1 h1,h2,ck_of sm,l_f,br_f,r_s]
    rfl
   ·rw [ck_of (n_p h1),n_b h1,br_t,n_0 h1,n_1 h1,h2,ck_of sm,l_t,br_t,l_s]
    simp only []
    rw [ck_of (n_p h3),n_f h3,br_f,n_v0 h3,n_v1 h3,n_v2 h3]
    rfl
theorem at_root {t:Tx} {r:Pr} (hk:skp l=82::t) (hp:PaS N rc.2.2 s (at_ s t) r):w106z (N,rc) s (at_ s l)=some (enc s (r.map fun e=>.mk 8 0 [e])):=by
 have h':(82::t) <:+ s:=hk ▸ (skp_suf l).trans h
 show (w106G _ _ _:O).bind w106un=_
 unfold w106G
 simp only []
 rw [ck_of (w77_p hs h hN),w77_y0 hs h hN,w77_y1 hs h hN,w77_y2 hs h hN,hk,
  show (decide (48<=((82::t:Tx)).headD 0)&&decide ((82::t:Tx).headD 0<=57))=false from rfl,br_f,show (decide (97<=((82::t:Tx)).headD 0)&&decide ((82::t:Tx).headD 0<=122))=false from rfl,br_f,show decide ((82::t:Tx).headD 0=82)=true from rfl,br_t,wr_at h' hs]
 cases r with
 | ok e t3=>
   obtain ⟨t,t2,h1,h2,h3⟩:=hp
   rw [ck_of (n_p h1),n_b h1,br_t,n_0 h1,n_1 h1,h2,ck_of sm,l_t,br_t,l_s]
   simp only []
   rw [ck_of (n_p h3),n_b h3,br_t,n_0 h3,n_1 h3,eta_ex]
   rfl
 | bad b=>
   rcases hp with h1 | ⟨t,h1,h2⟩ | ⟨e,t,t2,h1,h2,h3⟩
   ·rw [ck_of (n_p h1),n_f h1,br_f,n_v0 h1,n_v1 h1,n_v2 h1]
    rfl
   ·rw [ck_of (n_p h1),n_b h1,br_t,n_0 h1,n_1 h1,h2,ck_of sm,l_f,br_f,r_s]
    rfl
   ·rw [ck_of (n_p h1),n_b h1,br_t,n_0 h1,n_1 h1,h2,ck_of sm,l_t,br_t,l_s]
    simp only []
    rw [ck_of (n_p h3),n_f h3,br_f,n_v0 h3,n_v1 h3,n_v2 h3]
    rfl
theorem fa_neg {t:Tx} {r:Pr} (hk:skp l=45::t) (hr:rc.2.1 s (at_ s t)=some (enc s r)):w97z (N,rc) s (at_ s l)=some (enc s (r.map fun e=>.mk 2 0 [e])):=by
 have h':(45::t) <:+ s:=hk ▸ (skp_suf l).trans h
 show (w97G _ _ _:O).bind w97un=_
 unfold w97G
 simp only []
 rw [ck_of (w77_p hs h hN),w77_y0 hs h hN,w77_y1 hs h hN,w77_y2 hs h hN,hk,show decide ((45::t:Tx).headD 0=45)=true from rfl,br_t,wr_at h' hs,hr,ck_of sm]
 cases r with
 | ok e u=>rw [l_t,br_t,l_s,eta_ex];rfl
 | bad b=>rw [l_f,br_f,r_s];rfl
theorem fa_bad {b:Tx} (hh:(skp l).head?≠some 45) (hr:rc.1 s (at_ s (skp l))=some (enc s (.bad b))):w97z (N,rc) s (at_ s l)=some (enc s (.bad b)):=by
 show (w97G _ _ _:O).bind w97un=_
 unfold w97G
 simp only []
 rw [ck_of (w77_p hs h hN),w77_y0 hs h hN,w77_y1 hs h hN,w77_y2 hs h hN,head_ne (by decide) hh,br_f,hr,ck_of sm,l_f,br_f,r_s]
 rfl
theorem fa_ok {t:Tx} {e:Ex} (hh:(skp l).head?≠some 45) (ht:t <:+ s) (hr:rc.1 s (at_ s (skp l))=some (enc s (.ok e t))) (h2:(skp t).head?≠some 94):w97z (N,rc) s (at_ s l)=some (enc s (.ok e (skp t))):=by
 show (w97G _ _ _:O).bind w97un=_
 unfold w97G
 simp only []
 rw [ck_of (w77_p hs h hN),w77_y0 hs h hN,w77_y1 hs h hN,w77_y2 hs h hN,head_ne (by decide) hh,br_f,hr,ck_of sm,l_t,br_t,l_s]
 simp only []
 rw [ck_of (w77_p hs ht hN),w77_y0 hs ht hN,w77_y1 hs ht hN,w77_y2 hs ht hN,head_ne (by decide) h2,br_f]
 rfl
theorem fa_pow {t t':Tx} {e:Ex} {r:Pr} (hh:(skp l).head?≠some 45) (ht:t <:+ s) (hr:rc.1 s (at_ s (skp l))=some (enc s (.ok e t))) (h2:skp t=94::t') (hr':rc.2.1 s (at_ s t')=some (enc s r)):w97z (N,rc) s (at_ s l)=some (enc s (r.map fun f=>.mk 7 0 [e,f])):=by
 have h':(94::t') <:+ s:=h2 ▸ (skp_suf t).trans ht
 show (w97G _ _ _:O).bind w97un=_
 unfold w97G
 simp only []
 rw [ck_of (w77_p hs h hN),w77_y0 hs h hN,w77_y1 hs h hN,w77_y2 hs h hN,head_ne (by decide) hh,br_f,hr,ck_of sm,l_t,br_t,l_s]
 simp only []
 rw [ck_of (w77_p hs ht hN),w77_y0 hs ht hN,w77_y1 hs ht hN,w77_y2 hs ht hN,h2,show decide ((94::t':Tx).headD 0=94)=true from rfl,br_t,wr_at h' hs,hr',ck_of sm]
 cases r with
 | ok f u=>rw [l_t,br_t,l_s,eta_ex,eta_ex];rfl
 | bad b=>rw [l_f,br_f,r_s];rfl
end
end Go.Proofs
/- The own reader: what it does with any text. -/
namespace Go.Proofs
open Go Go.Ax Go.Ax.Alg
def endK (K0:Tx×Int×Int×Int×List Ex->O) (K1:Int×Tx×Int->O) (s:Tx):Pr->O
 | .ok f t2=>K0 (s,at_ s t2,f.op,f.num,f.kids)
 | .bad b=>K1 (at_ s b,s,at_ s b)
def goK (k:Nat) (K0:Tx×Int×Int×Int×List Ex->O) (K1:Int×Tx×Int->O) (G:Ex->Tx->O) (s:Tx) (o:Int) (e:Ex):Pr->O
 | .ok f t2=>if k=0 then K0 (s,at_ s t2,o,0,[e,f]) else G f t2
 | .bad b=>K1 (at_ s b,s,at_ s b)
section
variable {N:Nat} {rc:Rc} {s l:Tx} (hs:s.length < 2 ^ 62) (h:l <:+ s) (hN:s.length < N)
include hs h hN
theorem lo_stop {k m:Nat} {e:Ex} {a b:Int} {K0:Tx×Int×Int×Int×List Ex->O} {K1:Int×Tx×Int->O} {K2:Unit->O} (hk:k < 3) (h12:12<=N) (he:∀ c,(skp l).head?=some c->opAt k c=none):
    w76l0 (N,rc) (m+1) (s,at_ s l,(k:Int),a,b,e.op,e.num,e.kids) K0 K1 K2=K0 (s,at_ s (skp l),e.op,e.num,e.kids):=by
 show w76F0 _ _ _ _ _ _ _ _ _ _ _ _=_
 unfold w76F0
 simp only []
 have w:=w98_z (N:=N) (k:=k) (c:=(skp l).headD 0) h12 hk
 have ho:opI k ((skp l).headD 0) = -1:=by
  unfold opI
  cases hk':skp l with
  | nil=>
    match k,hk with
    | 0,_=>rfl
    | 1,_=>rfl
    | 2,_=>rfl
  | cons c t=>rw [show (c::t).headD 0=c from rfl,he c (by rw [hk'];rfl)];rfl
 rw [ho] at w
 rw [ck_of (w77_p hs h hN),w77_y0 hs h hN,w77_y1 hs h hN,w77_y2 hs h hN]
 rw [ck_of (show w98p N opsL (k:Int) ((skp l).headD 0)=true by unfold w98p;rw [w];rfl),show w98y0 N opsL (k:Int) ((skp l).headD 0) = -1 by unfold w98y0;rw [w];rfl]
 rfl
theorem lo_go {k m:Nat} {e:Ex} {a b o:Int} {c:UInt8} {t:Tx} {r:Pr} {K0:Tx×Int×Int×Int×List Ex->O} {K1:Int×Tx×Int->O} {K2:Unit->O} (hk:k < 3) (h12:12<=N) (hl:skp l=c::t) (ho:opAt k c=some o) (hr:rc.2.2 ((k+1:Nat):Int) s (at_ s t)=some (enc s r)):
    w76l0 (N,rc) (m+1) (s,at_ s l,(k:Int),a,b,e.op,e.num,e.kids) K0 K1 K2=goK k K0 K1 (fun f t2=>w76l0 (N,rc) m (s,at_ s t2,(k:Int),a,b,o,0,[e,f]) K0 K1 K2) s o e r:=by
 have h':(c::t) <:+ s:=hl ▸ (skp_suf l).trans h
 have w:=w98_z (N:=N) (k:=k) (c:=c) h12 hk
 have oi:opI k c=o:=by unfold opI;rw [ho];rfl
 rw [oi] at w
 have h0:0<=o:=by have:=(op_lvl ho).2.2;omega
 have hc:c≠0:=by
  rintro rfl
  match k,hk with
  | 0,_=>cases ho
  | 1,_=>cases ho
  | 2,_=>cases ho
 show w76F0 _ _ _ _ _ _ _ _ _ _ _ _=_
 unfold w76F0
 simp only []
 rw [ck_of (w77_p hs h hN),w77_y0 hs h hN,w77_y1 hs h hN,w77_y2 hs h hN,hl,show (c::t).headD 0=c from rfl]
 rw [ck_of (show w98p N opsL (k:Int) c=true by unfold w98p;rw [w];rfl),show w98y0 N opsL (k:Int) c=o by unfold w98y0;rw [w];rfl,show w98y1 N opsL (k:Int) c=(k:Int) by unfold w98y1;rw [w];rfl,show w98y2 N opsL (k:Int) c=c by unfold w98y2;rw [w];rfl]
 rw [decide_eq_false (by omega),Bool.false_or,decide_eq_false hc,br_f,wr_at h' hs,wr (x:=(k:Int)+1) (by omega) (by omega),show (k:Int)+1=((k+1:Nat):Int) by omega,hr,ck_of sm]
 cases r with
 | bad b=>rw [l_f,br_f,r_s];rfl
 | ok f t2=>
   rw [l_t,br_t,l_s]
   simp only []
   rw [eta_ex,eta_ex]
   by_cases hk0:k=0
   ·rw [decide_eq_true (by omega),br_t];exact (if_pos hk0).symm
   ·rw [decide_eq_false (by omega),br_f];exact (if_neg hk0).symm
end
theorem lv_three {N:Nat} {rc:Rc} {s l:Tx} {r:Pr} (hr:rc.2.1 s (at_ s l)=some (enc s r)):w76z (N,rc) 3 s (at_ s l)=some (enc s r):=by
 show (w76G _ _ _ _ _:O).bind w76un=_
 unfold w76G
 rw [show decide ((3:Int)=3)=true from rfl,br_t]
 simp only []
 rw [hr,ck_of sm]
 cases r with
 | ok e t=>rw [l_t,br_t,l_s];rfl
 | bad b=>rw [l_f,br_f,r_s];rfl
theorem lv_fail {N:Nat} {rc:Rc} {s l:Tx} {k:Nat} {b:Tx} (hk:k < 3) (hr:rc.2.2 ((k+1:Nat):Int) s (at_ s l)=some (enc s (.bad b))):w76z (N,rc) (k:Int) s (at_ s l)=some (enc s (.bad b)):=by
 show (w76G _ _ _ _ _:O).bind w76un=_
 unfold w76G
 simp only []
 rw [decide_eq_false (by omega),br_f,wr (x:=(k:Int)+1) (by omega) (by omega),show (k:Int)+1=((k+1:Nat):Int) by omega,hr,ck_of sm,l_f,br_f,r_s]
 rfl
theorem lv_more {N:Nat} {rc:Rc} {s l:Tx} {k:Nat} {t:Tx} {e:Ex} {r:Pr} (hk:k < 3) (hr:rc.2.2 ((k+1:Nat):Int) s (at_ s l)=some (enc s (.ok e t)))
    (hlo:∀ (K0:Tx×Int×Int×Int×List Ex->O) (K1:Int×Tx×Int->O) (K2:Unit->O),w76l0 (N,rc) N (s,at_ s t,(k:Int),0,0,e.op,e.num,e.kids) K0 K1 K2=endK K0 K1 s r):w76z (N,rc) (k:Int) s (at_ s l)=some (enc s r):=by
 show (w76G _ _ _ _ _:O).bind w76un=_
 unfold w76G
 simp only []
 rw [decide_eq_false (by omega),br_f,wr (x:=(k:Int)+1) (by omega) (by omega),show (k:Int)+1=((k+1:Nat):Int) by omega,hr,ck_of sm,l_t,br_t,l_s]
 simp only []
 unfold w76n0
 simp only []
 rw [hlo]
 cases r with
 | ok f t2=>rfl
 | bad b=>rfl
theorem at_skp {N:Nat} {rc:Rc} {s l:Tx} (hs:s.length < 2 ^ 62) (h:l <:+ s) (hN:s.length < N):w106z (N,rc) s (at_ s (skp l))=w106z (N,rc) s (at_ s l):=by
 have h':=(skp_suf l).trans h
 show (w106G _ _ _:O).bind w106un=(w106G _ _ _:O).bind w106un
 unfold w106G
 simp only []
 rw [ck_of (w77_p hs h hN),ck_of (w77_p hs h' hN),w77_y0 hs h hN,w77_y1 hs h hN,w77_y2 hs h hN,w77_y0 hs h' hN,w77_y1 hs h' hN,w77_y2 hs h' hN,skp_skp]
abbrev gT (N n:Nat):Rc:=w106gY N n
def Mot (N:Nat) (s:Tx):Kd->Tx->Pr->Prop
 | .pa,l,r=>∀ n,8 * l.length+1<=n->PaS N (gT N n).2.2 s (at_ s l) r/\PaS N (gT N n).2.2 s (at_ s (skp l)) r
 | .at,l,r=>∀ n,8 * l.length+2<=n->(gT N n).1 s (at_ s l)=some (enc s r)/\(gT N n).1 s (at_ s (skp l))=some (enc s r)
 | .lv k,l,r=>k<=3/\(∀ n,8 * l.length+7<=n+k->(gT N n).2.2 (k:Int) s (at_ s l)=some (enc s r))/\(k=3->∀ n,8 * l.length+3<=n->(gT N n).2.1 s (at_ s l)=some (enc s r))
 | .lo k e,l,r=>k < 3/\∀ n m a b K0 K1 K2,8 * l.length<=n->l.length < m->w76l0 (N,gT N n) m (s,at_ s l,(k:Int),a,b,e.op,e.num,e.kids) K0 K1 K2=endK K0 K1 s r
theorem own_rd {N:Nat} {s:Tx} (hs:s.length < 2 ^ 62) (hN:s.length < N) (h12:12<=N) {k:Kd} {l:Tx} {r:Pr} (h:Rd k l r):l <:+ s->Mot N s k l r:=by
 induction h with
 | pa_ok h1 h2 h3 ih=>
   intro hl
   rename_i l t t2 t3 e
   have hs1:=suf_lt h1
   have ht:=hs1.1.trans hl
   have ht2:t2 <:+ s:=((rd_suf h2).1:t2 <:+ t).trans ht
   have hl':=(skp_suf l).trans hl
   intro n hn
   have a:=(ih ht).2.1 n (by omega)
   have b:=w111_ok hs ht2 hN h3
   exact ⟨⟨t,t2,w111_ok hs hl hN h1,a,b⟩,⟨t,t2,w111_ok hs hl' hN (by rw [skp_skp];exact h1),a,b⟩⟩
 | pa_b1 h1=>
   intro hl
   rename_i l
   have hl':=(skp_suf l).trans hl
   intro n hn
   have b:=w111_no hs hl' hN (by rw [skp_skp];exact h1) (by decide)
   rw [skp_skp] at b
   exact ⟨.inl (w111_no hs hl hN h1 (by decide)),.inl b⟩
 | pa_b2 h1 h2 ih=>
   intro hl
   rename_i l t b
   have hs1:=suf_lt h1
   have ht:=hs1.1.trans hl
   have hl':=(skp_suf l).trans hl
   intro n hn
   have a:=(ih ht).2.1 n (by omega)
   exact ⟨.inr (.inl ⟨t,w111_ok hs hl hN h1,a⟩),.inr (.inl ⟨t,w111_ok hs hl' hN (by rw [skp_skp];exact h1),a⟩)⟩
 | pa_b3 h1 h2 h3 ih=>
   intro hl
   rename_i l t t2 e
   have hs1:=suf_lt h1
   have ht:=hs1.1.trans hl
   have ht2:t2 <:+ s:=((rd_suf h2).1:t2 <:+ t).trans ht
   have hl':=(skp_suf l).trans hl
   intro n hn
   have a:=(ih ht).2.1 n (by omega)
   have b:=w111_no hs ht2 hN h3 (by decide)
   exact ⟨.inr (.inr ⟨e,t,t2,w111_ok hs hl hN h1,a,b⟩),.inr (.inr ⟨e,t,t2,w111_ok hs hl' hN (by rw [skp_skp];exact h1),a,b⟩)⟩
 | num h1 h2 h3=>
   intro hl n hn
   match n,hn with
   | n+1,hn=>
     have a:=at_num (rc:=gT N n) hs hl hN h1 h2 h3
     exact ⟨a,(at_skp hs hl hN).trans a⟩
 | numBad h1 h2 h3=>
   intro hl n hn
   match n,hn with
   | n+1,hn=>
     have a:=at_numBad (rc:=gT N n) hs hl hN h1 h2 h3
     exact ⟨a,(at_skp hs hl hN).trans a⟩
 | var h1 h2=>
   intro hl n hn
   match n,hn with
   | n+1,hn=>
     have a:=at_var (rc:=gT N n) hs hl hN h1 h2
     exact ⟨a,(at_skp hs hl hN).trans a⟩
 | root h1 h2 ih=>
   intro hl n hn
   have hs1:=suf_lt h1
   match n,hn with
   | n+1,hn=>
     have a:=at_root (rc:=gT N n) hs hl hN h1 (ih (hs1.1.trans hl) n (by omega)).1
     exact ⟨a,(at_skp hs hl hN).trans a⟩
 | par h1 h2 ih=>
   intro hl n hn
   match n,hn with
   | n+1,hn=>
     have a:=at_par (rc:=gT N n) hs hl hN h1 (ih hl n (by omega)).2
     exact ⟨a,(at_skp hs hl hN).trans a⟩
 | neg h1 h2 ih=>
   intro hl
   have hs1:=suf_lt h1
   have i:=(ih (hs1.1.trans hl)).2.2 rfl
   refine ⟨by omega,fun n hn=>?_,fun _ n hn=>?_⟩
   ·match n,hn with
    | 0,hn=>omega
    | 1,hn=>omega
    | n+2,hn=>exact lv_three (rc:=gT N (n+1)) (fa_neg (rc:=gT N n) hs hl hN h1 (i n (by omega)))
   ·match n,hn with
    | n+1,hn=>exact fa_neg (rc:=gT N n) hs hl hN h1 (i n (by omega))
 | at_bad h1 h2 ih=>
   intro hl
   have i:=ih hl
   refine ⟨by omega,fun n hn=>?_,fun _ n hn=>?_⟩
   ·match n,hn with
    | 0,hn=>omega
    | 1,hn=>omega
    | n+2,hn=>exact lv_three (rc:=gT N (n+1)) (fa_bad (rc:=gT N n) hs hl hN h1 (i n (by omega)).2)
   ·match n,hn with
    | n+1,hn=>exact fa_bad (rc:=gT N n) hs hl hN h1 (i n (by omega)).2
 | at_ok h1 h2 h3 ih=>
   intro hl
   have i:=ih hl
   have ht:_ <:+ s:=((rd_suf h2).1:_ <:+ _).trans hl
   refine ⟨by omega,fun n hn=>?_,fun _ n hn=>?_⟩
   ·match n,hn with
    | 0,hn=>omega
    | 1,hn=>omega
    | n+2,hn=>exact lv_three (rc:=gT N (n+1)) (fa_ok (rc:=gT N n) hs hl hN h1 ht (i n (by omega)).2 h3)
   ·match n,hn with
    | n+1,hn=>exact fa_ok (rc:=gT N n) hs hl hN h1 ht (i n (by omega)).2 h3
 | pow h1 h2 h3 h4 ih1 ih2=>
   intro hl
   have i:=ih1 hl
   have sf:=rd_suf h2
   have ht:_ <:+ s:=(sf.1:_ <:+ _).trans hl
   have hlt:=sf.2 _ _ rfl
   have hs3:=suf_lt h3
   have j:=(ih2 (hs3.1.trans ht)).2.2 rfl
   simp only [Kd.str] at hlt
   refine ⟨by omega,fun n hn=>?_,fun _ n hn=>?_⟩
   ·match n,hn with
    | 0,hn=>omega
    | 1,hn=>omega
    | n+2,hn=>exact lv_three (rc:=gT N (n+1)) (fa_pow (rc:=gT N n) hs hl hN h1 ht (i n (by omega)).2 h3 (j n (by omega)))
   ·match n,hn with
    | n+1,hn=>exact fa_pow (rc:=gT N n) hs hl hN h1 ht (i n (by omega)).2 h3 (j n (by omega))
 | lv_bad h0 h1 ih=>
   intro hl
   have i:=(ih hl).2.1
   refine ⟨by omega,fun n hn=>?_,fun hk=>by omega⟩
   match n,hn with
   | 0,hn=>omega
   | n+1,hn=>exact lv_fail (rc:=gT N n) h0 (i n (by omega))
 | lv_ok h0 h1 h2 ih1 ih2=>
   intro hl
   rename_i k l t e r
   have i:=(ih1 hl).2.1
   have sf:=rd_suf h1
   have ht:t <:+ s:=(sf.1:t <:+ l).trans hl
   have hlt:=sf.2 _ _ rfl
   have hle:=ht.length_le
   have j:=(ih2 ht).2
   simp only [Kd.str] at hlt
   refine ⟨by omega,fun n hn=>?_,fun hk=>by omega⟩
   match n,hn with
   | 0,hn=>omega
   | n+1,hn=>exact lv_more (rc:=gT N n) h0 (i n (by omega)) (fun K0 K1 K2=>j n N 0 0 K0 K1 K2 (by omega) (by omega))
 | lo_end h0 h1=>
   intro hl
   refine ⟨h0,fun n m a b K0 K1 K2 hn hm=>?_⟩
   match m,hm with
   | m+1,hm=>exact lo_stop hs hl hN h0 h12 h1
 | lo_bad h0 h1 h2 h3 ih=>
   intro hl
   have hs1:=suf_lt h1
   have i:=(ih (hs1.1.trans hl)).2.1
   refine ⟨h0,fun n m a b K0 K1 K2 hn hm=>?_⟩
   match m,hm with
   | m+1,hm=>exact lo_go hs hl hN h0 h12 h1 h2 (i n (by omega))
 | lo_next h0 h1 h2 h3 h4 h5 ih1 ih2=>
   intro hl
   have hs1:=suf_lt h1
   have ht:=hs1.1.trans hl
   rename_i k e f t t' t2 c o r
   have i:=(ih1 ht).2.1
   have sf:=rd_suf h4
   have ht2:t2 <:+ s:=(sf.1:t2 <:+ t').trans ht
   have hlt:=sf.2 _ _ rfl
   have j:=(ih2 ht2).2
   simp only [Kd.str] at hlt
   refine ⟨h0,fun n m a b K0 K1 K2 hn hm=>?_⟩
   match m,hm with
   | m+1,hm=>
     refine (lo_go hs hl hN h0 h12 h1 h2 (i n (by omega))).trans ?_
     refine (if_neg h3).trans ?_
     exact j n m a b K0 K1 K2 (by omega) (by omega)
 | lo_zero h1 h2 h3 ih1=>
   intro hl
   have hs1:=suf_lt h1
   have i:=(ih1 (hs1.1.trans hl)).2.1
   refine ⟨by omega,fun n m a b K0 K1 K2 hn hm=>?_⟩
   match m,hm with
   | m+1,hm=>
     refine (lo_go (k:=0) hs hl hN (by omega) h12 h1 h2 (i n (by omega))).trans ?_
     rfl
theorem w76_top {N:Nat} {s:Tx} (hs:s.length < 2 ^ 62) (hN:8 * s.length+12<=N) {r:Pr} (h:Rd (.lv 0) s r):(gT N N).2.2 0 s 0=some (enc s r):=by
 have:=(own_rd (N:=N) hs (by omega) (by omega) h List.suffix_rfl).2.1 N (by omega)
 rw [at_self] at this
 exact this
end Go.Proofs
/- Parse: what it returns for any text. -/
namespace Go.Proofs
open Go Go.Ax Go.Ax.Alg
def szK:Kd->Nat
 | .lo _ e=>sizeE e
 | _=>0
theorem rd_size {k:Kd} {l:Tx} {r:Pr} (h:Rd k l r):∀ e t,r = .ok e t->sizeE e+t.length<=l.length+szK k:=by
 have one:∀ (o:Int) (e:Ex),sizeE (.mk o 0 [e])=1+sizeE e:=fun o e=>by simp [sizeE,sizeL]
 have two:∀ (o:Int) (e f:Ex),sizeE (.mk o 0 [e,f])=1+(sizeE e+sizeE f):=fun o e f=>by simp [sizeE,sizeL]
 have nul:∀ (o n:Int),sizeE (.mk o n [])=1:=fun o n=>by simp [sizeE,sizeL]
 induction h with
 | pa_ok h1 _ h2 ih=>
   intro e t he
   cases he
   have:=ih _ _ rfl
   have a:=suf_lt h1
   have b:=suf_lt h2
   simp only [szK] at this ⊢
   omega
 | pa_b1 _=>intro e t he;cases he
 | pa_b2 _ _ _=>intro e t he;cases he
 | pa_b3 _ _ _ _=>intro e t he;cases he
 | num h1 h2 _=>
   rename_i l t c _
   intro e t' he
   cases he
   have a:=suf_lt h1
   rw [List.dropWhile_cons,if_pos h2,nul]
   have b:=(drop_suf dig t).length_le
   simp only [szK]
   omega
 | numBad _ _ _=>intro e t he;cases he
 | var h1 h2=>
   intro e t he
   cases he
   have a:=suf_lt h1
   rw [nul]
   simp only [szK]
   omega
 | root h1 _ ih=>
   intro e t he
   obtain ⟨e',he',rfl⟩:=map_ok he
   have:=ih _ _ he'
   have a:=suf_lt h1
   rw [one]
   simp only [szK] at this ⊢
   omega
 | par _ _ ih=>exact ih
 | neg h1 _ ih=>
   intro e t he
   obtain ⟨e',he',rfl⟩:=map_ok he
   have:=ih _ _ he'
   have a:=suf_lt h1
   rw [one]
   simp only [szK] at this ⊢
   omega
 | at_bad _ _ _=>intro e t he;cases he
 | at_ok _ _ _ ih=>
   rename_i l t e _ _ _
   intro e' t' he
   cases he
   have:=ih _ _ rfl
   have a:=(skp_suf t).length_le
   simp only [szK] at this ⊢
   omega
 | pow _ _ h1 _ ih1 ih2=>
   intro e t he
   obtain ⟨e',he',rfl⟩:=map_ok he
   have a:=ih1 _ _ rfl
   have b:=ih2 _ _ he'
   have c:=suf_lt h1
   rw [two]
   simp only [szK] at a b ⊢
   omega
 | lv_bad _ _ _=>intro e t he;cases he
 | lv_ok _ _ _ ih1 ih2=>
   intro e t he
   have a:=ih1 _ _ rfl
   have b:=ih2 _ _ he
   simp only [szK] at a b ⊢
   omega
 | lo_end _ _=>
   rename_i k e t _ _
   intro e' t' he
   cases he
   have a:=(skp_suf t).length_le
   simp only [szK]
   omega
 | lo_bad _ _ _ _ _=>intro e t he;cases he
 | lo_next _ h1 _ _ _ _ ih1 ih2=>
   intro e t he
   have a:=ih1 _ _ rfl
   have b:=ih2 _ _ he
   have c:=suf_lt h1
   simp only [szK,two] at a b ⊢
   omega
 | lo_zero h1 _ _ ih1=>
   intro e t he
   cases he
   have a:=ih1 _ _ rfl
   have c:=suf_lt h1
   rw [two]
   simp only [szK] at a ⊢
   omega
noncomputable def resP (s:Tx):Pr->Int×Int×List Ex×Int×Int
 | .bad b=>(0,0,[],at_ s b,2)
 | .ok e t=>if skp t=[] then (if validE e=0 then (e.op,e.num,e.kids,0,0) else (0,0,[],0,4)) else (0,0,[],at_ s (skp t),2)
theorem w42_rd {N:Nat} (hN:70000<=N) {s:Tx} (hs:s.length<=8192) {r:Pr} (h:Rd (.lv 0) s r):w42v N s=some (resP s r):=by
 have hv:(w106gY N N).2.2 0 s 0=some (enc s r):=w76_top (by omega) (by omega) h
 unfold w42v
 rw [if_neg (by omega),if_pos (show w76p N 0 s 0=true by unfold w76p;rw [hv];rfl)]
 cases r with
 | bad b=>
   rw [if_neg (show ¬ w76b_ N 0 s 0=true by unfold w76b_;rw [hv];exact Bool.false_ne_true),show w76pv0 N 0 s 0=at_ s b by unfold w76pv0;rw [hv];rfl]
   rfl
 | ok e t=>
   have ht:t <:+ s:=(rd_suf h).1
   have hsz:=rd_size h e t rfl
   simp only [szK] at hsz
   rw [if_pos (show w76b_ N 0 s 0=true by unfold w76b_;rw [hv];rfl),show w76y3 N 0 s 0=s by unfold w76y3;rw [hv];rfl,show w76y4 N 0 s 0=at_ s t by unfold w76y4;rw [hv];rfl,
    show w76y0 N 0 s 0=e.op by unfold w76y0;rw [hv];rfl,show w76y1 N 0 s 0=e.num by unfold w76y1;rw [hv];rfl,show w76y2 N 0 s 0=e.kids by unfold w76y2;rw [hv];rfl]
   rw [if_pos (w77_p (by omega) ht (by omega)),w77_y0 (by omega) ht (by omega),w77_y1 (by omega) ht (by omega),w77_y2 (by omega) ht (by omega),if_pos (show w78p N s (at_ s (skp t))=true from rfl),show w78pv0 N s (at_ s (skp t))=at_ s (skp t) from rfl,
    if_pos (w29_p (by omega) (by omega)),w29_y0 (by omega) (by omega)]
   have re:resP s (.ok e t)=if skp t=[] then (if validE e=0 then (e.op,e.num,e.kids,0,0) else (0,0,[],0,4)) else (0,0,[],at_ s (skp t),2):=rfl
   rw [re]
   cases hk:skp t with
   | nil=>
     rw [if_neg (by rw [at_nil];simp),if_pos rfl]
     by_cases h0:validE e=0
     ·rw [if_neg (fun h=>h h0),if_pos h0]
     ·rw [if_pos h0,if_neg h0]
   | cons c u=>
     have h':(c::u) <:+ s:=hk ▸ (skp_suf t).trans ht
     rw [if_pos (.inr (at_cons h').2.2),if_neg (List.cons_ne_nil c u)]
theorem w42_long {N:Nat} {s:Tx} (hs:8192 < s.length):w42v N s=some (0,0,[],0,4):=by
 unfold w42v
 rw [if_pos (by omega)]
section
variable {N:Nat} {s:Tx} {d:Int×Int×List Ex×Int×Int} (h:w42v N s=some d)
include h
theorem w42_p:w42p N s=true:=by unfold w42p;rw [h];rfl
theorem w42_y0:w42y0 N s=d.1:=by unfold w42y0;rw [h];rfl
theorem w42_y1:w42y1 N s=d.2.1:=by unfold w42y1;rw [h];rfl
theorem w42_y2:w42y2 N s=d.2.2.1:=by unfold w42y2;rw [h];rfl
theorem w42_y4:w42y4 N s=d.2.2.2.2:=by unfold w42y4;rw [h];rfl
end
theorem own_any {N:Nat} (hN:70000<=N) (s:Tx):∃ d,w42v N s=some d/\(d.2.2.2.2=0->∃ e t,Rd (.lv 0) s (.ok e t)/\skp t=[]/\validE e=0/\d=(e.op,e.num,e.kids,0,0)/\s.length<=8192/\sizeE e<=s.length)/\(∃ e:Ex,d.1=e.op/\d.2.1=e.num/\d.2.2.1=e.kids/\sizeE e<=8193):=by
 by_cases hs:s.length<=8192
 ·obtain ⟨r,hr⟩:=rd_ex s.length s (Nat.le_refl _) (.lv 0) (fun m h=>by cases h;omega) (fun m e h=>by cases h)
  refine ⟨_,w42_rd hN hs hr,?_⟩
  cases r with
  | bad b=>exact ⟨fun h=>absurd h (show ¬ (2:Int)=0 by decide),.mk 0 0 [],rfl,rfl,rfl,by simp [sizeE,sizeL]⟩
  | ok e t=>
    have re:resP s (.ok e t)=if skp t=[] then (if validE e=0 then (e.op,e.num,e.kids,0,0) else (0,0,[],0,4)) else (0,0,[],at_ s (skp t),2):=rfl
    have hz:=rd_size hr e t rfl
    simp only [szK] at hz
    rw [re]
    by_cases h1:skp t=[]
    ·rw [if_pos h1]
     by_cases h2:validE e=0
     ·rw [if_pos h2];exact ⟨fun _=>⟨e,t,hr,h1,h2,rfl,hs,by omega⟩,e,rfl,rfl,rfl,by omega⟩
     ·rw [if_neg h2];exact ⟨fun h=>absurd h (show ¬ (4:Int)=0 by decide),.mk 0 0 [],rfl,rfl,rfl,by simp [sizeE,sizeL]⟩
    ·rw [if_neg h1];exact ⟨fun h=>absurd h (show ¬ (2:Int)=0 by decide),.mk 0 0 [],rfl,rfl,rfl,by simp [sizeE,sizeL]⟩
 ·exact ⟨_,w42_long (by omega),fun h=>absurd h (show ¬ (4:Int)=0 by decide),.mk 0 0 [],rfl,rfl,rfl,by simp [sizeE,sizeL]⟩
theorem parse_ok {N:Nat} (hN:70000<=N) {s t:Tx} {e:Ex} (hs:s.length<=8192) (h:Rd (.lv 0) s (.ok e t)) (ht:skp t=[]) (hv:validE e=0):w42v N s=some (e.op,e.num,e.kids,0,0):=by
 rw [w42_rd hN hs h]
 show some (if skp t=[] then (if validE e=0 then (e.op,e.num,e.kids,0,0) else (0,0,[],0,4)) else (0,0,[],at_ s (skp t),2))=_
 rw [if_pos ht,if_pos hv]
end Go.Proofs
