/- The reference reader; the law in plain words. Conditions are in the theorems. -/
import Derived.Test.YtlhdefefoaldfaaDoorG5
import Derived.Test.YtlhdefefoaldfaaDoorF4
import Derived.Test.YtlhdefefoaldfaaDoorG6
import Derived.Test.YtlhdefefoaldfaaDoorG2
import Derived.Test.YtlhdefefoaldfaaDoorF6
import Derived.Test.YtlhdefefoaldfaaDoorG1
import Derived.Test.YtlhdefefoaldfaaDoorE7
/- The reference's reader: what it sees, takes, needs, numerals. -/
namespace Go.Proofs
open Go Go.Ax Go.Ax.Alg
theorem w63_loop {N:Nat} {s:Tx} {b:Bool} {K:Tx×Int×Bool→O} {k1 k2:Unit→O} (hs:s.length < 2 ^ 62):∀ (l:Tx) (m:Nat),l <:+ s→l.length < m→w63l0 N m (s,at_ s l,b) K k1 k2=K (s,at_ s (skp l),b)
 | _,0,_,h=>by omega
 | [],m+1,_,_=>by
   show w63F0 _ _ _ _ _ _=_
   unfold w63F0
   simp only []
   rw [at_nil,decide_eq_false (by omega),gc_f,Bool.false_and,br_f]
   rfl
 | c::t,m+1,h,hm=>by
   have a:=at_cons h
   show w63F0 _ _ _ _ _ _=_
   unfold w63F0
   simp only []
   rw [decide_eq_true a.2.2,gc_t,gx_s h,Bool.true_and]
   by_cases hc:c=32
   ·rw [decide_eq_true hc,br_t,wr_at h hs,skp,if_pos hc]
    exact w63_loop hs t m (suf_tl h) (by simp at hm;omega)
   ·rw [decide_eq_false hc,br_f,skp,if_neg hc]
section
variable {N:Nat} {s l:Tx} {b:Bool} (hs:s.length < 2 ^ 62) (h:l <:+ s) (hN:s.length < N)
include hs h hN
theorem w63_z:w63z N s (at_ s l) b=some (s,at_ s (skp l),b):=by
 have hl:=h.length_le
 have:=w63_loop (N:=N) (b:=b) (K:=fun y=>(fun z4 z5 z6=>some (w63r0 z4 z5 z6)) y.1 y.2.1 y.2.2) (k1:=fun _=>none) (k2:=fun _=>none) hs l N h (by omega)
 exact (congrArg (fun z:O=>z.bind w63un) this).trans rfl
theorem w63_p:w63p N s (at_ s l) b=true:=by unfold w63p;rw [w63_z hs h hN];rfl
theorem w63_y0:w63y0 N s (at_ s l) b=s:=by unfold w63y0;rw [w63_z hs h hN];rfl
theorem w63_y1:w63y1 N s (at_ s l) b=at_ s (skp l):=by unfold w63y1;rw [w63_z hs h hN];rfl
theorem w63_y2:w63y2 N s (at_ s l) b=b:=by unfold w63y2;rw [w63_z hs h hN];rfl
theorem w91_z:w91z N s (at_ s l) b=some ((skp l).headD 0,s,at_ s (skp l),b):=by
 have h':=(skp_suf l).trans h
 show (w91G _ _ _ _:O).bind w91un=_
 unfold w91G
 rw [ck_of (w63_p hs h hN),w63_y0 hs h hN,w63_y1 hs h hN,w63_y2 hs h hN]
 cases hk:skp l with
 | nil=>rw [at_nil,decide_eq_true (by omega),br_t];rfl
 | cons c t=>
   rw [hk] at h'
   have a:=at_cons h'
   rw [decide_eq_false (by omega),br_f,gx_s h'];rfl
theorem w91_p:w91p N s (at_ s l) b=true:=by unfold w91p;rw [w91_z hs h hN];rfl
theorem w91_y0:w91y0 N s (at_ s l) b=(skp l).headD 0:=by unfold w91y0;rw [w91_z hs h hN];rfl
theorem w91_y1:w91y1 N s (at_ s l) b=s:=by unfold w91y1;rw [w91_z hs h hN];rfl
theorem w91_y2:w91y2 N s (at_ s l) b=at_ s (skp l):=by unfold w91y2;rw [w91_z hs h hN];rfl
theorem w91_y3:w91y3 N s (at_ s l) b=b:=by unfold w91y3;rw [w91_z hs h hN];rfl
theorem tk_yes {c:UInt8} {t:Tx} (hk:skp l=c::t):w62z N c s (at_ s l) false=some (true,s,at_ s t,false):=by
 have h':(c::t) <:+ s:=hk ▸ (skp_suf l).trans h
 have a:=at_cons h'
 show (w62G _ _ _ _ _:O).bind w62un=_
 unfold w62G
 rw [br_f,ck_of (w91_p hs h hN),w91_y0 hs h hN,w91_y1 hs h hN,w91_y2 hs h hN,w91_y3 hs h hN,hk,decide_eq_false (by simp),decide_eq_false (by omega),Bool.false_or,br_f,wr_at h' hs]
 rfl
theorem tk_no {c:UInt8} (hk:(skp l).head?≠some c) (h0:c≠0):w62z N c s (at_ s l) false=some (false,s,at_ s (skp l),false):=by
 show (w62G _ _ _ _ _:O).bind w62un=_
 unfold w62G
 rw [br_f,ck_of (w91_p hs h hN),w91_y0 hs h hN,w91_y1 hs h hN,w91_y2 hs h hN,w91_y3 hs h hN,decide_eq_true,Bool.true_or,br_t]
 ·rfl
 ·cases hk':skp l with
  | nil=>exact fun h=>h0 h.symm
  | cons d t=>rw [hk'] at hk;exact fun h=>hk (by rw [← h];rfl)
end
theorem tk_bad {N:Nat} {s:Tx} {c:UInt8} {i:Int}:w62z N c s i true=some (false,s,i,true):=rfl
section
variable {N:Nat} {s:Tx} {c:UInt8} {i j:Int} {a b d:Bool}
theorem t_p {r} (h:w62z N c s i b=some r):w62p N c s i b=true:=by unfold w62p;rw [h];rfl
theorem t_0 (h:w62z N c s i b=some (a,s,j,d)):w62y0 N c s i b=a:=by unfold w62y0;rw [h];rfl
theorem t_1 (h:w62z N c s i b=some (a,s,j,d)):w62y1 N c s i b=s:=by unfold w62y1;rw [h];rfl
theorem t_2 (h:w62z N c s i b=some (a,s,j,d)):w62y2 N c s i b=j:=by unfold w62y2;rw [h];rfl
theorem t_3 (h:w62z N c s i b=some (a,s,j,d)):w62y3 N c s i b=d:=by unfold w62y3;rw [h];rfl
theorem nd_z (h:w62z N c s i b=some (a,s,j,d)):w128z N c s i b=some (s,j,d||!a):=by
 show (w128G _ _ _ _ _:O).bind w128un=_
 unfold w128G
 rw [ck_of (t_p h),t_0 h,t_1 h,t_2 h,t_3 h]
 cases a <;> cases d <;> rfl
theorem d_p {r} (h:w128z N c s i b=some r):w128p N c s i b=true:=by unfold w128p;rw [h];rfl
theorem d_0 (h:w128z N c s i b=some (s,j,d)):w128y0 N c s i b=s:=by unfold w128y0;rw [h];rfl
theorem d_1 (h:w128z N c s i b=some (s,j,d)):w128y1 N c s i b=j:=by unfold w128y1;rw [h];rfl
theorem d_2 (h:w128z N c s i b=some (s,j,d)):w128y2 N c s i b=d:=by unfold w128y2;rw [h];rfl
end
theorem w127_loop {N:Nat} {s:Tx} {z i0 x y:Int} {b:Bool} {K:Int×Int×Int×Int×Tx×Int×Bool×Int×Int→O} {k1 k2:Unit→O} (hs:s.length < 2 ^ 62) (i:Nat) (hi:i0=(i:Int)):∀ (l:Tx) (m:Nat) (acc:Int) (j:Nat),l <:+ s→l.length < m→at_ s l=((i+j:Nat):Int)→0≤acc→acc < 10 ^ (min j 7)→
    ∃ n,w127l0 N m (z,i0,acc,at_ s l,s,i0,b,x,y) K k1 k2=K (z,i0,n,at_ s (l.dropWhile dig),s,i0,b,x,y)∧(j+(l.takeWhile dig).length≤7→n=(l.takeWhile dig).foldl (fun n c=>10 * n+((c.toNat:Int) - 48)) acc)
 | _,0,_,_,_,h,_,_,_=>by omega
 | [],m+1,acc,j,_,_,_,_,_=>by
   refine ⟨acc,?_,fun _=>rfl⟩
   show w127F0 _ _ _ _ _ _ _ _ _ _ _ _=_
   unfold w127F0
   simp only []
   rw [at_nil,decide_eq_false (by omega),gc_f,Bool.false_and,gc_f,Bool.false_and,br_f]
   rfl
 | c::t,m+1,acc,j,h,hm,hj,h0,h1=>by
   have ha:=at_cons h
   have step:∀ X:O,(decide (48≤c)&&decide (c≤57))=true→w127l0 N (m+1) (z,i0,acc,at_ s (c::t),s,i0,b,x,y) K k1 k2=br (decide (IntKind.i64.wrap (at_ s (c::t) - i0) < 7)) (w127l0 N m (z,i0,IntKind.i64.wrap (IntKind.i64.wrap (10 * acc)+IntKind.i64.wrap (((c - 48).toNat:Nat):Int)),at_ s t,s,i0,b,x,y) K k1 k2) (w127l0 N m (z,i0,acc,at_ s t,s,i0,b,x,y) K k1 k2):=fun _ hd=>by
    rw [Bool.and_eq_true] at hd
    show w127F0 _ _ _ _ _ _ _ _ _ _ _ _=_
    unfold w127F0
    simp only []
    rw [decide_eq_true ha.2.2,gc_t,gx_s h,Bool.true_and,hd.1,gc_t,gx_s h,Bool.true_and,hd.2,br_t,gx_s h,wr_at h hs]
   cases hd:dig c with
   | false=>
     have hn:¬ dig c=true:=by rw [hd];simp
     refine ⟨acc,?_,fun _=>by rw [List.takeWhile_cons,if_neg hn];rfl⟩
     show w127F0 _ _ _ _ _ _ _ _ _ _ _ _=_
     unfold w127F0
     simp only []
     rw [decide_eq_true ha.2.2,gc_t,gx_s h,Bool.true_and,List.dropWhile_cons,if_neg hn]
     unfold dig at hd
     cases h1:decide (48≤c) with
     | false=>rw [gc_f,Bool.false_and,br_f]
     | true=>
       rw [h1,Bool.true_and] at hd
       rw [gc_t,gx_s h,Bool.true_and,hd,br_f]
   | true=>
     have hc:=dig_cases hd
     have hsub:(c - 48).toNat=c.toNat - 48:=by rw [UInt8.toNat_sub_of_le _ _ (UInt8.le_iff_toNat_le.2 (show (48:UInt8).toNat≤c.toNat from hc.1))];rfl
     rw [step none hd,hsub,List.takeWhile_cons,if_pos hd,List.dropWhile_cons,if_pos hd,hj,hi]
     have hle:=at_ge (s:=s) (l:=c::t)
     rw [wr (x:=((i+j:Nat):Int) - (i:Int)) (by omega) (by omega)]
     have hp7:(10:Int) ^ min j 7≤10000000:=by
      have:(10:Int) ^ min j 7≤10 ^ 7:=by
       have:=Nat.pow_le_pow_right (n:=10) (by omega) (show min j 7≤7 by omega)
       exact_mod_cast this
      exact this
     by_cases h7:j < 7
     ·rw [decide_eq_true (by omega),br_t,wr (x:=10 * acc) (by omega) (by omega),wr (x:=((c.toNat - 48:Nat):Int)) (by omega) (by omega),wr (by omega) (by omega)]
      have hp:(10:Int) ^ (min (j+1) 7)=10 ^ (min j 7) * 10:=by rw [show min (j+1) 7=min j 7+1 by omega];exact Int.pow_succ ..
      obtain ⟨n,e1,e2⟩:=w127_loop (N:=N) (z:=z) (x:=x) (y:=y) (b:=b) (K:=K) (k1:=k1) (k2:=k2) hs i rfl t m (10 * acc+((c.toNat - 48:Nat):Int)) (j+1) (suf_tl h) (by simp at hm;omega) (by omega) (by omega) (by omega)
      refine ⟨n,e1,fun hl=>?_⟩
      rw [e2 (by simp at hl;omega),List.foldl_cons,show ((c.toNat - 48:Nat):Int)=(c.toNat:Int) - 48 by omega]
     ·rw [decide_eq_false (by omega),br_f]
      obtain ⟨n,e1,_⟩:=w127_loop (N:=N) (z:=z) (x:=x) (y:=y) (b:=b) (K:=K) (k1:=k1) (k2:=k2) hs i rfl t m acc (j+1) (suf_tl h) (by simp at hm;omega) (by omega) h0 (by rw [show min (j+1) 7=min j 7 by omega];exact h1)
      exact ⟨n,e1,fun hl=>by simp at hl;omega⟩
theorem w127_end {N:Nat} {s t:Tx} {c:UInt8} (hs:s.length < 2 ^ 62) (h:(c::t) <:+ s) (hN:s.length < N) (hd:dig c=true):
    w127z N s (at_ s (c::t)) false=some (if runOk ((c::t).takeWhile dig)=true then (0,numD ((c::t).takeWhile dig),[],s,at_ s ((c::t).dropWhile dig),false) else (0,0,[],s,at_ s (c::t),true)):=by
 have hl:=h.length_le
 obtain ⟨n,e1,e2⟩:=w127_loop (N:=N) (z:=at_ s (c::t)) (x:=0) (y:=0) (b:=false) (K:=fun y=>(fun _ z11 z12 z13 z14 z15 z16 _ _=>
     gc (!decide (6 < IntKind.i64.wrap (z13 - z11))&&decide (1 < IntKind.i64.wrap (z13 - z11))) 0 z14 z11 fun y19=>
     br (decide (6 < IntKind.i64.wrap (z13 - z11))||decide (1 < IntKind.i64.wrap (z13 - z11))&&decide (y19=48))
      (some (w127r0 0 0 [] z14 z15 true))
      (some (w127r0 0 z12 [] z14 z13 z16))) y.1 y.2.1 y.2.2.1 y.2.2.2.1 y.2.2.2.2.1 y.2.2.2.2.2.1 y.2.2.2.2.2.2.1 y.2.2.2.2.2.2.2.1 y.2.2.2.2.2.2.2.2) (k1:=fun _=>none) (k2:=fun _=>none) hs (s.length - (c::t).length) rfl (c::t) N 0 0 h (by omega) rfl (by omega) (by simp)
 refine (congrArg (fun z:O=>z.bind w127un) e1).trans ?_
 simp only []
 have hw:IntKind.i64.wrap (at_ s ((c::t).dropWhile dig) - at_ s (c::t))=(((c::t).takeWhile dig).length:Int):=by
  have e:=congrArg List.length (List.takeWhile_append_dropWhile (p:=dig) (l:=c::t))
  rw [List.length_append] at e
  unfold at_
  rw [wr (by omega) (by omega)]
  omega
 rw [show ((s.length - (c::t).length:Nat):Int)=at_ s (c::t) from rfl,hw]
 have e2:((c::t).takeWhile dig).length≤7→n=numD ((c::t).takeWhile dig):=fun hh=>e2 (by omega)
 have hg:∀ (b:Bool) (k:UInt8→O),gc b 0 s (at_ s (c::t)) k=k (if b then c else 0):=fun b k=>by
  cases b
  ·rfl
  ·rw [gc_t,gx_s h];rfl
 rw [hg]
 have hne:(c::t).takeWhile dig=c::t.takeWhile dig:=run_ne hd
 unfold runOk
 rw [hne] at e2 ⊢
 generalize t.takeWhile dig=run at *
 by_cases h6:(c::run).length≤6
 ·rw [decide_eq_false (by omega),decide_eq_true h6,e2 (by omega),Bool.not_false,Bool.true_and,Bool.true_and,Bool.false_or]
  by_cases h1:1 < (c::run).length
  ·rw [decide_eq_true (show (1:Int) < ((c::run).length:Int) by omega),decide_eq_true h1,Bool.true_and,Bool.true_and,if_pos rfl]
   by_cases h48:c=48
   ·subst h48;rfl
   ·rw [decide_eq_false h48,br_f,if_pos (by simpa using h48)];rfl
  ·rw [decide_eq_false (show ¬ (1:Int) < ((c::run).length:Int) by omega),decide_eq_false h1,Bool.false_and,Bool.false_and,br_f];rfl
 ·rw [decide_eq_true (by omega),decide_eq_false h6,Bool.true_or,br_t];rfl
end Go.Proofs
/- The reference's reader: atoms, factors, terms, sums, round by round. -/
namespace Go.Proofs
open Go Go.Ax Go.Ax.Alg
abbrev Vr:=Int×Int×List Ex×Tx×Int×Bool
abbrev Fr:=Tx→Int→Bool→Option Vr
abbrev Rr:=Fr×Fr×Fr×Fr
def RelR (s:Tx):Pr→Vr→Prop
 | .ok e t,v=>v=(e.op,e.num,e.kids,s,at_ s t,false)
 | .bad b,v=>∃ x y z,v=(x,y,z,s,at_ s b,true)
def PaR (N:Nat) (S:Fr) (s:Tx) (i:Int) (r:Pr):Prop:=∃ a b x y z j d j' d',w128z N 40 s i false=some (s,a,b)∧S s a b=some (x,y,z,s,j,d)∧w128z N 41 s j d=some (s,j',d')∧RelR s r (x,y,z,s,j',d')
section
variable {N:Nat} {rc:Rr} {s l:Tx} (hs:s.length < 2 ^ 62) (h:l <:+ s) (hN:s.length < N)
include hs h hN
theorem ra_num {t:Tx} {c:UInt8} (hk:skp l=c::t) (hd:dig c=true):w119z (N,rc) s (at_ s l) false=some (if runOk ((c::t).takeWhile dig)=true then (0,numD ((c::t).takeWhile dig),[],s,at_ s ((c::t).dropWhile dig),false) else (0,0,[],s,at_ s (c::t),true)):=by
 have h':(c::t) <:+ s:=hk ▸ (skp_suf l).trans h
 have hz:=w127_end hs h' hN hd
 show (w119G _ _ _ _:O).bind w119un=_
 unfold w119G
 simp only []
 rw [ck_of (w91_p hs h hN),w91_y0 hs h hN,w91_y1 hs h hN,w91_y2 hs h hN,w91_y3 hs h hN,br_f,hk]
 have hdd:(decide (48≤(c::t).headD 0)&&decide ((c::t).headD 0≤57))=true:=hd
 rw [hdd,br_t]
 unfold w127p w127y0 w127y1 w127y2 w127y3 w127y4 w127y5
 rw [hz,ck_of sm,sg]
 cases runOk ((c::t).takeWhile dig) with
 | true=>rfl
 | false=>rfl
theorem ra_var {t:Tx} {c:UInt8} (hk:skp l=c::t) (hl:let1 c=true):w119z (N,rc) s (at_ s l) false=some (1,(c.toNat:Int) - 97,[],s,at_ s t,false):=by
 have h':(c::t) <:+ s:=hk ▸ (skp_suf l).trans h
 obtain ⟨hd,h1,h2⟩:=let_not hl
 show (w119G _ _ _ _:O).bind w119un=_
 unfold w119G
 simp only []
 rw [ck_of (w91_p hs h hN),w91_y0 hs h hN,w91_y1 hs h hN,w91_y2 hs h hN,w91_y3 hs h hN,br_f,hk]
 have hdd:(decide (48≤(c::t).headD 0)&&decide ((c::t).headD 0≤57))=false:=hd
 have hll:(decide (97≤(c::t).headD 0)&&decide ((c::t).headD 0≤122))=true:=hl
 rw [hdd,br_f,hll,br_t,wr_at h' hs]
 have hw:IntKind.i64.wrap ((((c::t).headD 0 - 97).toNat:Nat):Int)=(c.toNat:Int) - 97:=by
  have e:((c::t).headD 0 - 97).toNat=c.toNat - 97:=by
   show (c - 97).toNat=_
   rw [UInt8.toNat_sub_of_le _ _ (UInt8.le_iff_toNat_le.2 (show (97:UInt8).toNat≤c.toNat from h1))];rfl
  rw [e,wr (by omega) (by omega)];omega
 rw [hw]
 rfl
theorem ra_par {r:Pr} (hc:∀ c,(skp l).head?=some c→dig c=false∧let1 c=false∧c≠82) (hp:PaR N rc.2.2.2 s (at_ s (skp l)) r):∃ v,w119z (N,rc) s (at_ s l) false=some v∧RelR s r v:=by
 have h':=(skp_suf l).trans h
 have cond:(decide (48≤(skp l).headD 0)&&decide ((skp l).headD 0≤57))=false∧(decide (97≤(skp l).headD 0)&&decide ((skp l).headD 0≤122))=false:=by
  cases hk:skp l with
  | nil=>exact ⟨rfl,rfl⟩
  | cons c t=>
    have:=hc c (by rw [hk];rfl)
    exact ⟨this.1,this.2.1⟩
 have tk:=tk_no (c:=82) hs h' hN (by rw [skp_skp];exact fun hh=>(hc _ hh).2.2 rfl) (by decide)
 rw [skp_skp] at tk
 obtain ⟨a,b,x,y,z,j,d,j',d',h1,h2,h3,h4⟩:=hp
 refine ⟨(x,y,z,s,j',d'),?_,h4⟩
 show (w119G _ _ _ _:O).bind w119un=_
 unfold w119G
 simp only []
 rw [ck_of (w91_p hs h hN),w91_y0 hs h hN,w91_y1 hs h hN,w91_y2 hs h hN,w91_y3 hs h hN,br_f,cond.1,br_f,cond.2,br_f]
 rw [ck_of (t_p tk),t_0 tk,t_1 tk,t_2 tk,t_3 tk,ck_of (d_p h1),d_0 h1,d_1 h1,d_2 h1,h2,ck_of sm,sg]
 simp only []
 rw [ck_of (d_p h3),br_f,d_0 h3,d_1 h3,d_2 h3]
 rfl
theorem ra_root {t:Tx} {r:Pr} (hk:skp l=82::t) (hp:PaR N rc.2.2.2 s (at_ s t) r):∃ v,w119z (N,rc) s (at_ s l) false=some v∧RelR s (r.map fun e=>.mk 8 0 [e]) v:=by
 have h':=(skp_suf l).trans h
 have tk:=tk_yes (c:=82) hs h' hN (by rw [skp_skp];exact hk)
 rw [hk] at tk
 obtain ⟨a,b,x,y,z,j,d,j',d',h1,h2,h3,h4⟩:=hp
 refine ⟨(8,0,[Ex.mk x y z],s,j',d'),?_,?_⟩
 ·show (w119G _ _ _ _:O).bind w119un=_
  unfold w119G
  simp only []
  rw [ck_of (w91_p hs h hN),w91_y0 hs h hN,w91_y1 hs h hN,w91_y2 hs h hN,w91_y3 hs h hN,br_f,hk,
   show (decide (48≤((82::t:Tx)).headD 0)&&decide ((82::t:Tx).headD 0≤57))=false from rfl,br_f,show (decide (97≤((82::t:Tx)).headD 0)&&decide ((82::t:Tx).headD 0≤122))=false from rfl,br_f]
  rw [ck_of (t_p tk),t_0 tk,t_1 tk,t_2 tk,t_3 tk,ck_of (d_p h1),d_0 h1,d_1 h1,d_2 h1,h2,ck_of sm,sg]
  simp only []
  rw [ck_of (d_p h3),br_t,d_0 h3,d_1 h3,d_2 h3]
  rfl
 ·cases r with
  | ok e u=>
    simp only [RelR,Prod.mk.injEq] at h4
    obtain ⟨rfl,rfl,rfl,_,rfl,rfl⟩:=h4
    rw [eta_ex]
    exact rfl
  | bad b=>
    obtain ⟨x',y',z',e⟩:=h4
    simp only [Prod.mk.injEq] at e
    obtain ⟨_,_,_,_,rfl,rfl⟩:=e
    exact ⟨_,_,_,rfl⟩
theorem rf_neg {t:Tx} {r:Pr} {v:Vr} (hk:skp l=45::t) (hr:rc.2.1 s (at_ s t) false=some v) (hv:RelR s r v):∃ v,w109z (N,rc) s (at_ s l) false=some v∧RelR s (r.map fun e=>.mk 2 0 [e]) v:=by
 have tk:=tk_yes (c:=45) hs h hN hk
 obtain ⟨x,y,z,s',j,d⟩:=v
 have hs':s'=s:=by
  cases r with
  | ok e u=>simp only [RelR,Prod.mk.injEq] at hv;exact hv.2.2.2.1
  | bad b=>obtain ⟨x',y',z',e⟩:=hv;simp only [Prod.mk.injEq] at e;exact e.2.2.2.1
 subst hs'
 refine ⟨(2,0,[Ex.mk x y z],s',j,d),?_,?_⟩
 ·show (w109G _ _ _ _:O).bind w109un=_
  unfold w109G
  simp only []
  rw [br_f,ck_of (t_p tk),t_0 tk,t_1 tk,t_2 tk,t_3 tk,br_t,hr,ck_of sm,sg]
  rfl
 ·cases r with
  | ok e u=>
    simp only [RelR,Prod.mk.injEq] at hv
    obtain ⟨rfl,rfl,rfl,_,rfl,rfl⟩:=hv
    rw [eta_ex]
    exact rfl
  | bad b=>
    obtain ⟨x',y',z',e⟩:=hv
    simp only [Prod.mk.injEq] at e
    obtain ⟨_,_,_,_,rfl,rfl⟩:=e
    exact ⟨_,_,_,rfl⟩
theorem rf_bad {b:Tx} {x y:Int} {z:List Ex} (hh:(skp l).head?≠some 45) (hr:rc.1 s (at_ s (skp l)) false=some (x,y,z,s,at_ s b,true)):w109z (N,rc) s (at_ s l) false=some (x,y,z,s,at_ s b,true):=by
 have tk:=tk_no (c:=45) hs h hN hh (by decide)
 have tb:=tk_bad (N:=N) (s:=s) (c:=94) (i:=at_ s b)
 show (w109G _ _ _ _:O).bind w109un=_
 unfold w109G
 simp only []
 rw [br_f,ck_of (t_p tk),t_0 tk,t_1 tk,t_2 tk,t_3 tk,br_f,hr,ck_of sm,sg]
 simp only []
 rw [ck_of (t_p tb),t_0 tb,t_1 tb,t_2 tb,t_3 tb,br_f]
 rfl
theorem rf_ok {t:Tx} {x y:Int} {z:List Ex} (hh:(skp l).head?≠some 45) (ht:t <:+ s) (hr:rc.1 s (at_ s (skp l)) false=some (x,y,z,s,at_ s t,false)) (h2:(skp t).head?≠some 94):w109z (N,rc) s (at_ s l) false=some (x,y,z,s,at_ s (skp t),false):=by
 have tk:=tk_no (c:=45) hs h hN hh (by decide)
 have tb:=tk_no (c:=94) hs ht hN h2 (by decide)
 show (w109G _ _ _ _:O).bind w109un=_
 unfold w109G
 simp only []
 rw [br_f,ck_of (t_p tk),t_0 tk,t_1 tk,t_2 tk,t_3 tk,br_f,hr,ck_of sm,sg]
 simp only []
 rw [ck_of (t_p tb),t_0 tb,t_1 tb,t_2 tb,t_3 tb,br_f]
 rfl
theorem rf_pow {t t':Tx} {x y x' y' j:Int} {z z':List Ex} {d:Bool} (hh:(skp l).head?≠some 45) (ht:t <:+ s) (hr:rc.1 s (at_ s (skp l)) false=some (x,y,z,s,at_ s t,false)) (h2:skp t=94::t') (hr':rc.2.1 s (at_ s t') false=some (x',y',z',s,j,d)):w109z (N,rc) s (at_ s l) false=some (7,0,[Ex.mk x y z,Ex.mk x' y' z'],s,j,d):=by
 have tk:=tk_no (c:=45) hs h hN hh (by decide)
 have tb:=tk_yes (c:=94) hs ht hN h2
 show (w109G _ _ _ _:O).bind w109un=_
 unfold w109G
 simp only []
 rw [br_f,ck_of (t_p tk),t_0 tk,t_1 tk,t_2 tk,t_3 tk,br_f,hr,ck_of sm,sg]
 simp only []
 rw [ck_of (t_p tb),t_0 tb,t_1 tb,t_2 tb,t_3 tb,br_t,hr',ck_of sm,sg]
 rfl
end
theorem rf_b {N:Nat} {rc:Rr} {s:Tx} {i:Int}:w109z (N,rc) s i true=some (0,0,[],s,i,true):=rfl
theorem ra_skp {N:Nat} {rc:Rr} {s l:Tx} (hs:s.length < 2 ^ 62) (h:l <:+ s) (hN:s.length < N):w119z (N,rc) s (at_ s (skp l)) false=w119z (N,rc) s (at_ s l) false:=by
 have h':=(skp_suf l).trans h
 show (w119G _ _ _ _:O).bind w119un=(w119G _ _ _ _:O).bind w119un
 unfold w119G
 simp only []
 rw [ck_of (w91_p hs h hN),ck_of (w91_p hs h' hN),w91_y0 hs h hN,w91_y1 hs h hN,w91_y2 hs h hN,w91_y3 hs h hN,w91_y0 hs h' hN,w91_y1 hs h' hN,w91_y2 hs h' hN,w91_y3 hs h' hN,skp_skp]
theorem w90_b {N m:Nat} {rc:Rr} {s:Tx} {i a b x y:Int} {z:List Ex} {K:Tx×Int×Bool×Int×Int×Int×Int×List Ex→O} {k1 k2:Unit→O}:w90l0 (N,rc) (m+1) (s,i,true,a,b,x,y,z) K k1 k2=K (s,i,true,a,b,x,y,z):=rfl
section
variable {N m:Nat} {rc:Rr} {s l:Tx} {a b x y:Int} {z:List Ex} {K:Tx×Int×Bool×Int×Int×Int×Int×List Ex→O} {k1 k2:Unit→O} (hs:s.length < 2 ^ 62) (h:l <:+ s) (hN:s.length < N)
include hs h hN
theorem w90_stop (h1:(skp l).head?≠some 42) (h2:(skp l).head?≠some 47):w90l0 (N,rc) (m+1) (s,at_ s l,false,a,b,x,y,z) K k1 k2=K (s,at_ s (skp l),false,a,b,x,y,z):=by
 have h':=(skp_suf l).trans h
 have ta:=tk_no (c:=42) hs h hN h1 (by decide)
 have tb:=tk_no (c:=47) hs h' hN (by rw [skp_skp];exact h2) (by decide)
 rw [skp_skp] at tb
 show w90F0 _ _ _ _ _ _ _ _ _ _ _=_
 unfold w90F0
 simp only []
 rw [Bool.not_false,br_t,ck_of (t_p ta),t_0 ta,br_f,t_1 ta,t_2 ta,t_3 ta,ck_of (t_p tb),t_0 tb,br_f,t_1 tb,t_2 tb,t_3 tb]
theorem w90_go {c:UInt8} {o x' y' j:Int} {z':List Ex} {d:Bool} {t:Tx} (hl:skp l=c::t) (ho:(c=42∧o=5)∨(c=47∧o=6)) (hr:rc.2.1 s (at_ s t) false=some (x',y',z',s,j,d)):
    w90l0 (N,rc) (m+1) (s,at_ s l,false,a,b,x,y,z) K k1 k2=w90l0 (N,rc) m (s,j,d,a,b,o,0,[Ex.mk x y z,Ex.mk x' y' z']) K k1 k2:=by
 have h':=(skp_suf l).trans h
 show w90F0 _ _ _ _ _ _ _ _ _ _ _=_
 unfold w90F0
 simp only []
 rcases ho with ⟨rfl,rfl⟩ | ⟨rfl,rfl⟩
 ·have ta:=tk_yes (c:=42) hs h hN hl
  rw [Bool.not_false,br_t,ck_of (t_p ta),t_0 ta,br_t,t_1 ta,t_2 ta,t_3 ta,hr,ck_of sm,sg]
 ·have ta:=tk_no (c:=42) hs h hN (by rw [hl];simp) (by decide)
  have tb:=tk_yes (c:=47) hs h' hN (by rw [skp_skp];exact hl)
  rw [Bool.not_false,br_t,ck_of (t_p ta),t_0 ta,br_f,t_1 ta,t_2 ta,t_3 ta,ck_of (t_p tb),t_0 tb,br_t,t_1 tb,t_2 tb,t_3 tb,hr,ck_of sm,sg]
end
theorem w90_full {N:Nat} {rc:Rr} {s:Tx} {i j j' x y x' y':Int} {z z':List Ex} {b0 d d':Bool} (hf:rc.2.1 s i b0=some (x,y,z,s,j,d))
    (hlo:∀ (K:Tx×Int×Bool×Int×Int×Int×Int×List Ex→O) (k1 k2:Unit→O),w90l0 (N,rc) N (s,j,d,0,0,x,y,z) K k1 k2=K (s,j',d',0,0,x',y',z')):w90z (N,rc) s i b0=some (x',y',z',s,j',d'):=by
 show (w90G _ _ _ _ _:O).bind w90un=_
 unfold w90G
 simp only []
 rw [hf,ck_of sm,sg]
 simp only []
 unfold w90n0
 simp only []
 rw [hlo]
 rfl
theorem w61_b {N m:Nat} {rc:Rr} {s:Tx} {i a b x y:Int} {z:List Ex} {K:Tx×Int×Bool×Int×Int×Int×Int×List Ex→O} {k1 k2:Unit→O}:w61l0 (N,rc) (m+1) (s,i,true,a,b,x,y,z) K k1 k2=K (s,i,true,a,b,x,y,z):=rfl
section
variable {N m:Nat} {rc:Rr} {s l:Tx} {a b x y:Int} {z:List Ex} {K:Tx×Int×Bool×Int×Int×Int×Int×List Ex→O} {k1 k2:Unit→O} (hs:s.length < 2 ^ 62) (h:l <:+ s) (hN:s.length < N)
include hs h hN
theorem w61_stop (h1:(skp l).head?≠some 43) (h2:(skp l).head?≠some 45):w61l0 (N,rc) (m+1) (s,at_ s l,false,a,b,x,y,z) K k1 k2=K (s,at_ s (skp l),false,a,b,x,y,z):=by
 have h':=(skp_suf l).trans h
 have ta:=tk_no (c:=43) hs h hN h1 (by decide)
 have tb:=tk_no (c:=45) hs h' hN (by rw [skp_skp];exact h2) (by decide)
 rw [skp_skp] at tb
 show w61F0 _ _ _ _ _ _ _ _ _ _ _=_
 unfold w61F0
 simp only []
 rw [Bool.not_false,br_t,ck_of (t_p ta),t_0 ta,br_f,t_1 ta,t_2 ta,t_3 ta,ck_of (t_p tb),t_0 tb,br_f,t_1 tb,t_2 tb,t_3 tb]
theorem w61_go {c:UInt8} {o x' y' j:Int} {z':List Ex} {d:Bool} {t:Tx} (hl:skp l=c::t) (ho:(c=43∧o=3)∨(c=45∧o=4)) (hr:rc.2.2.1 s (at_ s t) false=some (x',y',z',s,j,d)):
    w61l0 (N,rc) (m+1) (s,at_ s l,false,a,b,x,y,z) K k1 k2=w61l0 (N,rc) m (s,j,d,a,b,o,0,[Ex.mk x y z,Ex.mk x' y' z']) K k1 k2:=by
 have h':=(skp_suf l).trans h
 show w61F0 _ _ _ _ _ _ _ _ _ _ _=_
 unfold w61F0
 simp only []
 rcases ho with ⟨rfl,rfl⟩ | ⟨rfl,rfl⟩
 ·have ta:=tk_yes (c:=43) hs h hN hl
  rw [Bool.not_false,br_t,ck_of (t_p ta),t_0 ta,br_t,t_1 ta,t_2 ta,t_3 ta,hr,ck_of sm,sg]
 ·have ta:=tk_no (c:=43) hs h hN (by rw [hl];simp) (by decide)
  have tb:=tk_yes (c:=45) hs h' hN (by rw [skp_skp];exact hl)
  rw [Bool.not_false,br_t,ck_of (t_p ta),t_0 ta,br_f,t_1 ta,t_2 ta,t_3 ta,ck_of (t_p tb),t_0 tb,br_t,t_1 tb,t_2 tb,t_3 tb,hr,ck_of sm,sg]
end
theorem w61_full {N:Nat} {rc:Rr} {s:Tx} {i j j' x y x' y':Int} {z z':List Ex} {b0 d d':Bool} (hf:rc.2.2.1 s i b0=some (x,y,z,s,j,d))
    (hlo:∀ (K:Tx×Int×Bool×Int×Int×Int×Int×List Ex→O) (k1 k2:Unit→O),w61l0 (N,rc) N (s,j,d,0,0,x,y,z) K k1 k2=K (s,j',d',0,0,x',y',z')):w61z (N,rc) s i b0=some (x',y',z',s,j',d'):=by
 show (w61G _ _ _ _ _:O).bind w61un=_
 unfold w61G
 simp only []
 rw [hf,ck_of sm,sg]
 simp only []
 unfold w61n0
 simp only []
 rw [hlo]
 rfl
end Go.Proofs
/- The reference's Parse: what it returns for any text. -/
namespace Go.Proofs
open Go Go.Ax Go.Ax.Alg
abbrev gR (N n:Nat):Rr:=w119gY N n
theorem w90_done {N:Nat} (hN:1≤N) {rc:Rr} {s:Tx} {i x y:Int} {z:List Ex} (K:Tx×Int×Bool×Int×Int×Int×Int×List Ex→O) (k1 k2:Unit→O):w90l0 (N,rc) N (s,i,true,0,0,x,y,z) K k1 k2=K (s,i,true,0,0,x,y,z):=by
 cases N with
 | zero=>omega
 | succ N=>rfl
theorem w61_done {N:Nat} (hN:1≤N) {rc:Rr} {s:Tx} {i x y:Int} {z:List Ex} (K:Tx×Int×Bool×Int×Int×Int×Int×List Ex→O) (k1 k2:Unit→O):w61l0 (N,rc) N (s,i,true,0,0,x,y,z) K k1 k2=K (s,i,true,0,0,x,y,z):=by
 cases N with
 | zero=>omega
 | succ N=>rfl
theorem bF {N n:Nat} {s:Tx} {i:Int}:(gR N (n+1)).2.1 s i true=some (0,0,[],s,i,true):=rf_b (N:=N) (rc:=gR N n)
theorem bT {N n:Nat} {s:Tx} {i:Int} (hN:1≤N):(gR N (n+2)).2.2.1 s i true=some (0,0,[],s,i,true):=w90_full (rc:=gR N (n+1)) bF (w90_done hN)
theorem bS {N n:Nat} {s:Tx} {i:Int} (hN:1≤N):(gR N (n+3)).2.2.2 s i true=some (0,0,[],s,i,true):=w61_full (rc:=gR N (n+2)) (bT hN) (w61_done hN)
def MotR (N:Nat) (s:Tx):Kd→Tx→Pr→Prop
 | .pa,l,r=>∀ n,8 * l.length+4≤n→PaR N (gR N n).2.2.2 s (at_ s l) r∧PaR N (gR N n).2.2.2 s (at_ s (skp l)) r
 | .at,l,r=>∀ n,8 * l.length+5≤n→∃ v,(gR N n).1 s (at_ s l) false=some v∧RelR s r v
 | .lv k,l,r=>∀ n,8 * l.length+9≤n+k→(k=3→∃ v,(gR N n).2.1 s (at_ s l) false=some v∧RelR s r v)∧(k=2→∃ v,(gR N n).2.2.1 s (at_ s l) false=some v∧RelR s r v)∧(k=1→∃ v,(gR N n).2.2.2 s (at_ s l) false=some v∧RelR s r v)
 | .lo k e,l,r=>(k=2→∀ n m a b,8 * l.length≤n→l.length < m→∃ x y z j d,(∀ K k1 k2,w90l0 (N,gR N n) m (s,at_ s l,false,a,b,e.op,e.num,e.kids) K k1 k2=K (s,j,d,a,b,x,y,z))∧RelR s r (x,y,z,s,j,d)) ∧
   (k=1→∀ n m a b,8 * l.length≤n→l.length < m→∃ x y z j d,(∀ K k1 k2,w61l0 (N,gR N n) m (s,at_ s l,false,a,b,e.op,e.num,e.kids) K k1 k2=K (s,j,d,a,b,x,y,z))∧RelR s r (x,y,z,s,j,d))
theorem rel_ok {s:Tx} {e:Ex} {t:Tx} {v:Vr} (h:RelR s (.ok e t) v):v=(e.op,e.num,e.kids,s,at_ s t,false):=h
theorem rel_bad {s:Tx} {b:Tx} {v:Vr} (h:RelR s (.bad b) v):∃ x y z,v=(x,y,z,s,at_ s b,true):=h
theorem rel_s {s:Tx} {r:Pr} {v:Vr} (h:RelR s r v):∃ x y z j d,v=(x,y,z,s,j,d):=by
 cases r with
 | ok e t=>exact ⟨_,_,_,_,_,rel_ok h⟩
 | bad b=>obtain ⟨x,y,z,e⟩:=rel_bad h;exact ⟨_,_,_,_,_,e⟩
theorem rel_pow {s:Tx} {r:Pr} {e:Ex} {x y j:Int} {z:List Ex} {d:Bool} (o:Int) (h:RelR s r (x,y,z,s,j,d)):RelR s (r.map fun f=>.mk o 0 [e,f]) (o,0,[e,Ex.mk x y z],s,j,d):=by
 cases r with
 | ok f t=>
   have:=rel_ok h
   simp only [Prod.mk.injEq] at this
   obtain ⟨rfl,rfl,rfl,_,rfl,rfl⟩:=this
   rw [eta_ex]
   exact rfl
 | bad b=>
   obtain ⟨x',y',z',e'⟩:=rel_bad h
   simp only [Prod.mk.injEq] at e'
   obtain ⟨_,_,_,_,rfl,rfl⟩:=e'
   exact ⟨_,_,_,rfl⟩
theorem op2 {c:UInt8} {o:Int} (h:opAt 2 c=some o):(c=42∧o=5)∨(c=47∧o=6):=ite2 h
theorem op1 {c:UInt8} {o:Int} (h:opAt 1 c=some o):(c=43∧o=3)∨(c=45∧o=4):=ite2 h
theorem op0 {c:UInt8} {o:Int} (h:opAt 0 c=some o):(c=61∧o=9)∨(c=60∧o=10):=ite2 h
theorem ref_rd {N:Nat} {s:Tx} (hs:s.length < 2 ^ 62) (hN:s.length+2 < N) {k:Kd} {l:Tx} {r:Pr} (h:Rd k l r):l <:+ s→MotR N s k l r:=by
 have hN':s.length < N:=by omega
 induction h with
 | pa_ok h1 h2 h3 ih=>
   intro hl
   rename_i l t t2 t3 e
   have hs1:=suf_lt h1
   have ht:=hs1.1.trans hl
   have ht2:t2 <:+ s:=((rd_suf h2).1:t2 <:+ t).trans ht
   have hl':=(skp_suf l).trans hl
   intro n hn
   obtain ⟨v,hv,rv⟩:=(ih ht n (by omega)).2.2 rfl
   cases rel_ok rv
   have a:=nd_z (tk_yes hs hl hN' h1)
   have a':=nd_z (tk_yes (l:=skp l) hs hl' hN' (by rw [skp_skp];exact h1))
   have b:=nd_z (tk_yes hs ht2 hN' h3)
   exact ⟨⟨_,_,_,_,_,_,_,_,_,a,hv,b,rfl⟩,⟨_,_,_,_,_,_,_,_,_,a',hv,b,rfl⟩⟩
 | pa_b1 h1=>
   intro hl
   rename_i l
   have hl':=(skp_suf l).trans hl
   intro n hn
   have a:=nd_z (tk_no hs hl hN' h1 (by decide))
   have a':=nd_z (tk_no (l:=skp l) hs hl' hN' (by rw [skp_skp];exact h1) (by decide))
   rw [skp_skp] at a'
   match n,hn with
   | n+3,_=>
     have b:=bS (N:=N) (n:=n) (s:=s) (i:=at_ s (skp l)) (by omega)
     have d:=nd_z (tk_bad (N:=N) (s:=s) (c:=41) (i:=at_ s (skp l)))
     exact ⟨⟨_,_,_,_,_,_,_,_,_,a,b,d,_,_,_,rfl⟩,⟨_,_,_,_,_,_,_,_,_,a',b,d,_,_,_,rfl⟩⟩
 | pa_b2 h1 h2 ih=>
   intro hl
   rename_i l t b
   have hs1:=suf_lt h1
   have ht:=hs1.1.trans hl
   have hl':=(skp_suf l).trans hl
   intro n hn
   obtain ⟨v,hv,rv⟩:=(ih ht n (by omega)).2.2 rfl
   obtain ⟨x,y,z,rfl⟩:=rel_bad rv
   have a:=nd_z (tk_yes hs hl hN' h1)
   have a':=nd_z (tk_yes (l:=skp l) hs hl' hN' (by rw [skp_skp];exact h1))
   have d:=nd_z (tk_bad (N:=N) (s:=s) (c:=41) (i:=at_ s b))
   exact ⟨⟨_,_,_,_,_,_,_,_,_,a,hv,d,_,_,_,rfl⟩,⟨_,_,_,_,_,_,_,_,_,a',hv,d,_,_,_,rfl⟩⟩
 | pa_b3 h1 h2 h3 ih=>
   intro hl
   rename_i l t t2 e
   have hs1:=suf_lt h1
   have ht:=hs1.1.trans hl
   have ht2:t2 <:+ s:=((rd_suf h2).1:t2 <:+ t).trans ht
   have hl':=(skp_suf l).trans hl
   intro n hn
   obtain ⟨v,hv,rv⟩:=(ih ht n (by omega)).2.2 rfl
   cases rel_ok rv
   have a:=nd_z (tk_yes hs hl hN' h1)
   have a':=nd_z (tk_yes (l:=skp l) hs hl' hN' (by rw [skp_skp];exact h1))
   have b:=nd_z (tk_no hs ht2 hN' h3 (by decide))
   exact ⟨⟨_,_,_,_,_,_,_,_,_,a,hv,b,_,_,_,rfl⟩,⟨_,_,_,_,_,_,_,_,_,a',hv,b,_,_,_,rfl⟩⟩
 | num h1 h2 h3=>
   intro hl n hn
   match n,hn with
   | n+1,_=>
     have a:=ra_num (rc:=gR N n) hs hl hN' h1 h2
     rw [if_pos h3] at a
     exact ⟨_,a,rfl⟩
 | numBad h1 h2 h3=>
   intro hl n hn
   match n,hn with
   | n+1,_=>
     have a:=ra_num (rc:=gR N n) hs hl hN' h1 h2
     rw [if_neg (by rw [h3];exact Bool.false_ne_true)] at a
     exact ⟨_,a,_,_,_,rfl⟩
 | var h1 h2=>
   intro hl n hn
   match n,hn with
   | n+1,_=>exact ⟨_,ra_var (rc:=gR N n) hs hl hN' h1 h2,rfl⟩
 | root h1 h2 ih=>
   intro hl n hn
   have hs1:=suf_lt h1
   match n,hn with
   | n+1,hn=>exact ra_root (rc:=gR N n) hs hl hN' h1 (ih (hs1.1.trans hl) n (by omega)).1
 | par h1 h2 ih=>
   intro hl n hn
   match n,hn with
   | n+1,hn=>exact ra_par (rc:=gR N n) hs hl hN' h1 (ih hl n (by omega)).2
 | neg h1 h2 ih=>
   intro hl n hn
   have hs1:=suf_lt h1
   refine ⟨fun _=>?_,fun hk=>by omega,fun hk=>by omega⟩
   match n,hn with
   | 0,hn=>omega
   | n+1,hn=>
     obtain ⟨v,hv,rv⟩:=(ih (hs1.1.trans hl) n (by omega)).1 rfl
     exact rf_neg (rc:=gR N n) hs hl hN' h1 hv rv
 | at_bad h1 h2 ih=>
   intro hl n hn
   refine ⟨fun _=>?_,fun hk=>by omega,fun hk=>by omega⟩
   match n,hn with
   | n+2,hn=>
     obtain ⟨v,hv,rv⟩:=ih hl (n+1) (by omega)
     obtain ⟨x,y,z,rfl⟩:=rel_bad rv
     exact ⟨_,rf_bad (rc:=gR N (n+1)) hs hl hN' h1 ((ra_skp (rc:=gR N n) hs hl hN').trans hv),_,_,_,rfl⟩
   | 0,hn=>omega
   | 1,hn=>omega
 | at_ok h1 h2 h3 ih=>
   intro hl n hn
   rename_i l t e
   have ht:t <:+ s:=((rd_suf h2).1:t <:+ l).trans hl
   refine ⟨fun _=>?_,fun hk=>by omega,fun hk=>by omega⟩
   match n,hn with
   | n+2,hn=>
     obtain ⟨v,hv,rv⟩:=ih hl (n+1) (by omega)
     cases rel_ok rv
     exact ⟨_,rf_ok (rc:=gR N (n+1)) hs hl hN' h1 ht ((ra_skp (rc:=gR N n) hs hl hN').trans hv) h3,rfl⟩
   | 0,hn=>omega
   | 1,hn=>omega
 | pow h1 h2 h3 h4 ih1 ih2=>
   intro hl n hn
   rename_i l t t' e r
   have sf:=rd_suf h2
   have ht:t <:+ s:=(sf.1:t <:+ l).trans hl
   have hlt:=sf.2 _ _ rfl
   have hs3:=suf_lt h3
   simp only [Kd.str] at hlt
   refine ⟨fun _=>?_,fun hk=>by omega,fun hk=>by omega⟩
   match n,hn with
   | n+2,hn=>
     obtain ⟨v,hv,rv⟩:=ih1 hl (n+1) (by omega)
     cases rel_ok rv
     obtain ⟨w,hw,rw'⟩:=(ih2 (hs3.1.trans ht) (n+1) (by omega)).1 rfl
     obtain ⟨x,y,z,j,d,rfl⟩:=rel_s rw'
     refine ⟨_,rf_pow (rc:=gR N (n+1)) hs hl hN' h1 ht ((ra_skp (rc:=gR N n) hs hl hN').trans hv) h3 hw,?_⟩
     rw [eta_ex]
     exact rel_pow 7 rw'
   | 0,hn=>omega
   | 1,hn=>omega
 | lv_bad h0 h1 ih=>
   intro hl n hn
   rename_i k l b
   have hle:=hl.length_le
   refine ⟨fun hk=>by omega,fun hk=>?_,fun hk=>?_⟩
   ·subst hk
    match n,hn with
    | 0,hn=>omega
    | n+1,hn=>
      obtain ⟨v,hv,rv⟩:=(ih hl n (by omega)).1 rfl
      obtain ⟨x,y,z,rfl⟩:=rel_bad rv
      exact ⟨(x,y,z,s,at_ s b,true),w90_full (rc:=gR N n) hv (w90_done (by omega)),x,y,z,rfl⟩
   ·subst hk
    match n,hn with
    | 0,hn=>omega
    | n+1,hn=>
      obtain ⟨v,hv,rv⟩:=(ih hl n (by omega)).2.1 rfl
      obtain ⟨x,y,z,rfl⟩:=rel_bad rv
      exact ⟨(x,y,z,s,at_ s b,true),w61_full (rc:=gR N n) hv (w61_done (by omega)),x,y,z,rfl⟩
 | lv_ok h0 h1 h2 ih1 ih2=>
   intro hl n hn
   rename_i k l t e r
   have sf:=rd_suf h1
   have ht:t <:+ s:=(sf.1:t <:+ l).trans hl
   have hlt:=sf.2 _ _ rfl
   have hle:=ht.length_le
   simp only [Kd.str] at hlt
   refine ⟨fun hk=>by omega,fun hk=>?_,fun hk=>?_⟩
   ·subst hk
    match n,hn with
    | 0,hn=>omega
    | n+1,hn=>
      obtain ⟨v,hv,rv⟩:=(ih1 hl n (by omega)).1 rfl
      cases rel_ok rv
      obtain ⟨x,y,z,j,d,lo,rl⟩:=(ih2 ht).1 rfl n N 0 0 (by omega) (by omega)
      exact ⟨_,w90_full (rc:=gR N n) hv lo,rl⟩
   ·subst hk
    match n,hn with
    | 0,hn=>omega
    | n+1,hn=>
      obtain ⟨v,hv,rv⟩:=(ih1 hl n (by omega)).2.1 rfl
      cases rel_ok rv
      obtain ⟨x,y,z,j,d,lo,rl⟩:=(ih2 ht).2 rfl n N 0 0 (by omega) (by omega)
      exact ⟨_,w61_full (rc:=gR N n) hv lo,rl⟩
 | lo_end h0 h1=>
   intro hl
   rename_i k e t
   refine ⟨fun hk n m a b hn hm=>?_,fun hk n m a b hn hm=>?_⟩
   ·subst hk
    match m,hm with
    | m+1,_=>exact ⟨_,_,_,_,_,fun K k1 k2=>w90_stop hs hl hN' (fun hh=>by have:=h1 _ hh;cases this) (fun hh=>by have:=h1 _ hh;cases this),rfl⟩
   ·subst hk
    match m,hm with
    | m+1,_=>exact ⟨_,_,_,_,_,fun K k1 k2=>w61_stop hs hl hN' (fun hh=>by have:=h1 _ hh;cases this) (fun hh=>by have:=h1 _ hh;cases this),rfl⟩
 | lo_bad h0 h1 h2 h3 ih=>
   intro hl
   rename_i k e t t' b' c o
   have hs1:=suf_lt h1
   refine ⟨fun hk n m a b hn hm=>?_,fun hk n m a b hn hm=>?_⟩
   ·subst hk
    obtain ⟨v,hv,rv⟩:=(ih (hs1.1.trans hl) n (by omega)).1 rfl
    obtain ⟨x,y,z,rfl⟩:=rel_bad rv
    match m,hm with
    | m+2,_=>exact ⟨_,_,_,_,_,fun K k1 k2=>(w90_go hs hl hN' h1 (op2 h2) hv).trans w90_b,_,_,_,rfl⟩
    | 0,hm=>omega
    | 1,hm=>omega
   ·subst hk
    obtain ⟨v,hv,rv⟩:=(ih (hs1.1.trans hl) n (by omega)).2.1 rfl
    obtain ⟨x,y,z,rfl⟩:=rel_bad rv
    match m,hm with
    | m+2,_=>exact ⟨_,_,_,_,_,fun K k1 k2=>(w61_go hs hl hN' h1 (op1 h2) hv).trans w61_b,_,_,_,rfl⟩
    | 0,hm=>omega
    | 1,hm=>omega
 | lo_next h0 h1 h2 h3 h4 h5 ih1 ih2=>
   intro hl
   rename_i k e f t t' t2 c o r
   have hs1:=suf_lt h1
   have ht:=hs1.1.trans hl
   have sf:=rd_suf h4
   have ht2:t2 <:+ s:=(sf.1:t2 <:+ t').trans ht
   have hlt:=sf.2 _ _ rfl
   simp only [Kd.str] at hlt
   refine ⟨fun hk n m a b hn hm=>?_,fun hk n m a b hn hm=>?_⟩
   ·subst hk
    obtain ⟨v,hv,rv⟩:=(ih1 ht n (by omega)).1 rfl
    cases rel_ok rv
    match m,hm with
    | m+1,hm=>
      obtain ⟨x,y,z,j,d,lo,rl⟩:=(ih2 ht2).1 rfl n m a b (by omega) (by omega)
      refine ⟨x,y,z,j,d,fun K k1 k2=>(w90_go hs hl hN' h1 (op2 h2) hv).trans ?_,rl⟩
      rw [eta_ex,eta_ex]
      exact lo K k1 k2
   ·subst hk
    obtain ⟨v,hv,rv⟩:=(ih1 ht n (by omega)).2.1 rfl
    cases rel_ok rv
    match m,hm with
    | m+1,hm=>
      obtain ⟨x,y,z,j,d,lo,rl⟩:=(ih2 ht2).2 rfl n m a b (by omega) (by omega)
      refine ⟨x,y,z,j,d,fun K k1 k2=>(w61_go hs hl hN' h1 (op1 h2) hv).trans ?_,rl⟩
      rw [eta_ex,eta_ex]
      exact lo K k1 k2
 | lo_zero _ _ _ _=>exact fun _=>⟨fun hk=>by omega,fun hk=>by omega⟩
theorem w61_top {N:Nat} {s l:Tx} (hs:s.length < 2 ^ 62) (hN:8 * s.length+12≤N) {r:Pr} (h:Rd (.lv 1) l r) (hl:l <:+ s):∃ v,(gR N N).2.2.2 s (at_ s l) false=some v∧RelR s r v:=by
 have hle:=hl.length_le
 exact (ref_rd (N:=N) hs (by omega) h hl N (by omega)).2.2 rfl
end Go.Proofs
/- Both Parses return the same. -/
namespace Go.Proofs
open Go Go.Ax Go.Ax.Alg
section
variable {N:Nat} {s:Tx} {i j x y:Int} {z:List Ex} {b d:Bool}
theorem s_p {v} (h:(gR N N).2.2.2 s i b=some v):w61p N s i b=true:=by unfold w61p;rw [h];rfl
theorem s_0 (h:(gR N N).2.2.2 s i b=some (x,y,z,s,j,d)):w61y0 N s i b=x:=by unfold w61y0;rw [h];rfl
theorem s_1 (h:(gR N N).2.2.2 s i b=some (x,y,z,s,j,d)):w61y1 N s i b=y:=by unfold w61y1;rw [h];rfl
theorem s_2 (h:(gR N N).2.2.2 s i b=some (x,y,z,s,j,d)):w61y2 N s i b=z:=by unfold w61y2;rw [h];rfl
theorem s_3 (h:(gR N N).2.2.2 s i b=some (x,y,z,s,j,d)):w61y3 N s i b=s:=by unfold w61y3;rw [h];rfl
theorem s_4 (h:(gR N N).2.2.2 s i b=some (x,y,z,s,j,d)):w61y4 N s i b=j:=by unfold w61y4;rw [h];rfl
theorem s_5 (h:(gR N N).2.2.2 s i b=some (x,y,z,s,j,d)):w61y5 N s i b=d:=by unfold w61y5;rw [h];rfl
end
def endR (N:Nat) (s:Tx) (z1 z2 z3:Int) (S:Tx) (j:Int) (d:Bool) (x y:Int) (z:List Ex):O:=
 w23n1 N s z1 z2 z3 S j d x y z fun z12 _ _ _ _ z17 z18 z19 z20 z21=>
  br (z18||decide (z17 < (z12.length:Int))) (some (w23r0 0 0 [] z17 2))
   (ck (w31p N z19 z20 z21) <| br (decide (w31y0 N z19 z20 z21≠0)) (some (w23r0 0 0 [] 0 4)) (some (w23r0 z19 z20 z21 0 0)))
theorem endR_bad {N:Nat} {s b:Tx} {z1 z2 z3 x y:Int} {z:List Ex}:(endR N s z1 z2 z3 s (at_ s b) true x y z).bind w23un=some (resP s (.bad b)):=rfl
theorem endR_ok {N:Nat} {s t:Tx} {e:Ex} {z1 z2 z3:Int} (hs:s.length < 2 ^ 59) (hN:s.length < N) (ht:t <:+ s) (hz:sizeE e≤s.length):(endR N s z1 z2 z3 s (at_ s t) false e.op e.num e.kids).bind w23un=some (resP s (.ok e t)):=by
 unfold endR w23n1 w23l1 w23F1
 simp only []
 rw [Bool.not_false,br_t,ck_of (w63_p (by omega) ht hN),w63_y0 (by omega) ht hN,w63_y1 (by omega) ht hN,w63_y2 (by omega) ht hN]
 rw [Bool.false_or,ck_of (w31_p (by omega) (by omega)),w31_y0 (by omega) (by omega)]
 have re:resP s (.ok e t)=if skp t=[] then (if validE e=0 then (e.op,e.num,e.kids,0,0) else (0,0,[],0,4)) else (0,0,[],at_ s (skp t),2):=rfl
 rw [re]
 cases hk:skp t with
 | nil=>
   rw [decide_eq_false (by rw [at_nil];omega),br_f,if_pos rfl]
   by_cases h0:validE e=0
   ·rw [decide_eq_false (fun h=>h h0),br_f,if_pos h0];rfl
   ·rw [decide_eq_true h0,br_t,if_neg h0];rfl
 | cons c u=>
   have h':(c::u) <:+ s:=hk ▸ (skp_suf t).trans ht
   rw [decide_eq_true (at_cons h').2.2,br_t,if_neg (List.cons_ne_nil c u)];rfl
theorem w23_rd {N:Nat} (hN:70000≤N) {s:Tx} (hs:s.length≤8192) {r:Pr} (h:Rd (.lv 0) s r):w23z N s=some (resP s r):=by
 have hN':s.length < N:=by omega
 have hs':s.length < 2 ^ 62:=by omega
 have go:∀ {x y j:Int} {z:List Ex} {d:Bool} {R:Option _},(gR N N).2.2.2 s 0 false=some (x,y,z,s,j,d)→
     ((w23n0 N s 0 0 0 s j d x y z (fun z1 z2 z3 z4 z5 z6 z7 z8 z9 z10=>endR N z1 z2 z3 z4 z5 z6 z7 z8 z9 z10)).bind w23un=R)→w23z N s=R:=fun {x y j z d R} hv hR=>by
  show (w23G _ _ _ _:O).bind w23un=_
  unfold w23G
  rw [decide_eq_false (by omega),br_f,ck_of (s_p hv),s_0 hv,s_1 hv,s_2 hv,s_3 hv,s_4 hv,s_5 hv]
  exact hR
 cases h with
 | lv_bad h0 h1=>
   rename_i b
   obtain ⟨v,hv,rv⟩:=w61_top (N:=N) hs' (by omega) h1 List.suffix_rfl
   rw [at_self] at hv
   obtain ⟨x,y,z,rfl⟩:=rel_bad rv
   refine go hv ?_
   have ta:=tk_bad (N:=N) (s:=s) (c:=61) (i:=at_ s b)
   have tb:=tk_bad (N:=N) (s:=s) (c:=60) (i:=at_ s b)
   unfold w23n0 w23l0 w23F0
   simp only []
   rw [ck_of (t_p ta),t_0 ta,br_f,t_1 ta,t_2 ta,t_3 ta,ck_of (t_p tb),t_0 tb,br_f,t_1 tb,t_2 tb,t_3 tb]
   exact endR_bad
 | lv_ok h0 h1 h2=>
   rename_i t e
   have ht:t <:+ s:=(rd_suf h1).1
   have hz:=rd_size h1 e t rfl
   simp only [szK] at hz
   obtain ⟨v,hv,rv⟩:=w61_top (N:=N) hs' (by omega) h1 List.suffix_rfl
   rw [at_self] at hv
   cases rel_ok rv
   refine go hv ?_
   unfold w23n0 w23l0 w23F0
   simp only []
   have ht':=(skp_suf t).trans ht
   have hsz:∀ (o:Int) (e f:Ex),sizeE (.mk o 0 [e,f])=1+(sizeE e+sizeE f):=fun o e f=>by simp [sizeE,sizeL]
   cases h2 with
   | lo_end _ h3=>
     have ta:=tk_no (c:=61) hs' ht hN' (fun hh=>by have:=h3 _ hh;cases this) (by decide)
     have tb:=tk_no (c:=60) (l:=skp t) hs' ht' hN' (fun hh=>by rw [skp_skp] at hh;have:=h3 _ hh;cases this) (by decide)
     rw [skp_skp] at tb
     rw [ck_of (t_p ta),t_0 ta,br_f,t_1 ta,t_2 ta,t_3 ta,ck_of (t_p tb),t_0 tb,br_f,t_1 tb,t_2 tb,t_3 tb]
     refine (endR_ok (t:=skp t) (by omega) hN' ht' (by omega)).trans ?_
     show some (if skp (skp t)=[] then _ else _)=some (if skp (skp t)=[] then _ else _)
     rfl
   | lo_bad _ h3 h4 h5=>
     rename_i t' b c o
     have hs3:=suf_lt h3
     have ht2:=hs3.1.trans ht
     obtain ⟨w,hw,rw'⟩:=w61_top (N:=N) hs' (by omega) h5 ht2
     obtain ⟨x,y,z,rfl⟩:=rel_bad rw'
     rcases op0 h4 with ⟨rfl,rfl⟩ | ⟨rfl,rfl⟩
     ·have ta:=tk_yes (c:=61) hs' ht hN' h3
      rw [ck_of (t_p ta),t_0 ta,br_t,t_1 ta,t_2 ta,t_3 ta,ck_of (s_p hw),s_0 hw,s_1 hw,s_2 hw,s_3 hw,s_4 hw,s_5 hw]
      exact endR_bad
     ·have ta:=tk_no (c:=61) hs' ht hN' (by rw [h3];simp) (by decide)
      have tb:=tk_yes (c:=60) (l:=skp t) hs' ht' hN' (by rw [skp_skp];exact h3)
      rw [ck_of (t_p ta),t_0 ta,br_f,t_1 ta,t_2 ta,t_3 ta,ck_of (t_p tb),t_0 tb,br_t,t_1 tb,t_2 tb,t_3 tb,ck_of (s_p hw),s_0 hw,s_1 hw,s_2 hw,s_3 hw,s_4 hw,s_5 hw]
      exact endR_bad
   | lo_next _ _ _ h3 _ _=>exact absurd rfl h3
   | lo_zero h3 h4 h5=>
     rename_i f t' t2 c o
     have hs3:=suf_lt h3
     have ht2:=hs3.1.trans ht
     have ht3:t2 <:+ s:=((rd_suf h5).1:t2 <:+ t').trans ht2
     have hz2:=rd_size h5 f t2 rfl
     simp only [szK] at hz2
     obtain ⟨w,hw,rw'⟩:=w61_top (N:=N) hs' (by omega) h5 ht2
     cases rel_ok rw'
     rcases op0 h4 with ⟨rfl,rfl⟩ | ⟨rfl,rfl⟩
     ·have ta:=tk_yes (c:=61) hs' ht hN' h3
      rw [ck_of (t_p ta),t_0 ta,br_t,t_1 ta,t_2 ta,t_3 ta,ck_of (s_p hw),s_0 hw,s_1 hw,s_2 hw,s_3 hw,s_4 hw,s_5 hw,eta_ex,eta_ex]
      exact endR_ok (e:=.mk 9 0 [e,f]) (by omega) hN' ht3 (by rw [hsz];omega)
     ·have ta:=tk_no (c:=61) hs' ht hN' (by rw [h3];simp) (by decide)
      have tb:=tk_yes (c:=60) (l:=skp t) hs' ht' hN' (by rw [skp_skp];exact h3)
      rw [ck_of (t_p ta),t_0 ta,br_f,t_1 ta,t_2 ta,t_3 ta,ck_of (t_p tb),t_0 tb,br_t,t_1 tb,t_2 tb,t_3 tb,ck_of (s_p hw),s_0 hw,s_1 hw,s_2 hw,s_3 hw,s_4 hw,s_5 hw,eta_ex,eta_ex]
      exact endR_ok (e:=.mk 10 0 [e,f]) (by omega) hN' ht3 (by rw [hsz];omega)
theorem w23_long {N:Nat} {s:Tx} (hs:8192 < s.length):w23z N s=some (0,0,[],0,4):=by
 show (w23G _ _ _ _:O).bind w23un=_
 unfold w23G
 rw [decide_eq_true (by omega),br_t]
 rfl
theorem ref_any {N:Nat} (hN:70000≤N) (s:Tx):w23z N s=w16v N s:=by
 by_cases hs:s.length≤8192
 ·obtain ⟨r,hr⟩:=rd_ex s.length s (Nat.le_refl _) (.lv 0) (fun m h=>by cases h;omega) (fun m e h=>by cases h)
  rw [w16_rd hN hs hr,w23_rd hN hs hr]
 ·rw [w16_long (by omega),w23_long (by omega)]
end Go.Proofs
/- Texts with blanks. -/
namespace Go.Proofs
open Go Go.Ax Go.Ax.Alg
theorem w20_in {N:Nat} {s:Tx} {ml:List Int} {i:Int} {b:Bool}:∀ (k m:Nat) (out:Tx),k < m→out.length+k≤2 ^ 60→
    ∃ k':Int,∀ (K:Tx×List Int×Tx×Int×Int→O) (k1 k2:Unit→O),w20l0 N m (s,ml,out,i,b,(k:Int)) K k1 k2=K (s,ml,out++List.replicate (if b then 0 else k) 32,i,k')
 | _,0,_,h,_=>by omega
 | 0,m+1,out,_,_=>by
   refine ⟨0,fun K k1 k2=>?_⟩
   show w20F0 _ _ _ _ _ _ _ _ _=_
   unfold w20F0
   simp only []
   rw [decide_eq_false (by omega),Bool.false_and,br_f]
   cases b <;> simp
 | k+1,m+1,out,hm,hB=>by
   cases b with
   | true=>
     refine ⟨((k+1:Nat):Int),fun K k1 k2=>?_⟩
     show w20F0 _ _ _ _ _ _ _ _ _=_
     unfold w20F0
     simp only []
     rw [Bool.not_true,Bool.and_false,br_f]
     simp
   | false=>
     obtain ⟨k',ih⟩:=w20_in (N:=N) (s:=s) (ml:=ml) (i:=i) (b:=false) k m (out++[32]) (by omega) (by rw [List.length_append,List.length_singleton];omega)
     refine ⟨k',fun K k1 k2=>?_⟩
     show w20F0 _ _ _ _ _ _ _ _ _=_
     unfold w20F0
     simp only []
     rw [Bool.not_false,Bool.and_true,decide_eq_true (by omega),br_t,ck_of (le9 (by omega)),wr (by omega) (by omega),show ((k+1:Nat):Int) - 1=(k:Int) by omega,ih,List.append_assoc]
     simp only [Bool.false_eq_true,if_false]
     rw [show [(32:UInt8)]++List.replicate k 32=List.replicate (k+1) 32 from rfl]
def insD (s:Tx) (i:Nat):Bool:=match i,s[i]? with
 | j+1,some c=>(match s[j]? with | some p=>dig c&&dig p | none=>false)
 | _,_=>false
def prevD (s:Tx) (i:Nat):Bool:=match i with
 | 0=>false
 | j+1=>(match s[j]? with | some p=>dig p | none=>false)
theorem sp_rep {p:Bool} {l m:Tx} (h:Sp p l m) (hp:p=true→∀ c,l.head?=some c→dig c=false):∀ k:Nat,Sp p l (List.replicate k 32++m)
 | 0=>h
 | k+1=>.blank hp (sp_rep h hp k)
theorem w20_loop {N:Nat} (hN:10≤N) {s:Tx} {ml:List Int} (hml:∀ x ∈ ml,J64 x) (hs:s.length≤2 ^ 40):∀ (r i m:Nat) (out:Tx),i+r=s.length→r < m→out.length≤3 * i→
    ∃ s',(∀ (K:Tx→O) (k1 k2:Unit→O),w20l1 N m (s,ml,out,(i:Int)) K k1 k2=K (out++s'))∧Sp (prevD s i) (s.drop i) s'∧s'.length≤3 * r
 | _,_,0,_,_,h,_=>by omega
 | 0,i,m+1,out,h,_,_=>by
   refine ⟨[],fun K k1 k2=>?_,by rw [List.drop_eq_nil_of_le (by omega)];exact .nil,by simp⟩
   show w20F1 _ _ _ _ _ _ _ _=_
   unfold w20F1
   simp only []
   rw [decide_eq_false (by omega),br_f,List.append_nil]
 | r+1,i,m+1,out,h,hm,ho=>by
   have hi:i < s.length:=by omega
   have hg:s[i]?=some s[i]:=List.getElem?_eq_getElem hi
   have hsl:(s.take (i+1)).drop i=[s[i]]:=by
    rw [List.take_add_one,hg]
    rw [List.drop_append_of_le_length (by rw [List.length_take];omega),List.drop_eq_nil_of_le (by rw [List.length_take];omega)]
    rfl
   have hdr:=drop_at hg
   generalize s[i]=c at hg hsl hdr
   have hk:=atI_in (l:=ml) (i:=(i:Int)) (m:=3) (by omega)
   obtain ⟨k,hkk⟩:=Int.eq_ofNat_of_zero_le hk.1
   have hk3:k < 3:=by omega
   have wi:IntKind.i64.wrap ((i:Int)+1)=((i+1:Nat):Int):=by rw [wr (by omega) (by omega)];omega
   have hrep:(List.replicate (if insD s i then 0 else k) (32:UInt8)).length≤2:=by
    rw [List.length_replicate];split <;> omega
   obtain ⟨s',e1,e2,e3⟩:=w20_loop (N:=N) hN hml hs r (i+1) m (out++List.replicate (if insD s i then 0 else k) 32++[c]) (by omega) (by omega) (by simp only [List.length_append,List.length_singleton];omega)
   refine ⟨List.replicate (if insD s i then 0 else k) 32++c::s',fun K k1 k2=>?_,?_,?_⟩
   ·have ins:∀ k0:Bool→O,(gc (decide (0 < (i:Int))) (0:UInt8) s (i:Int) fun y21=>
        gc (decide (0 < (i:Int))&&decide (48≤y21)) (0:UInt8) s (i:Int) fun y22=>
        gc (decide (0 < (i:Int))&&decide (48≤y21)&&decide (y22≤57)) (0:UInt8) s (max (IntKind.i64.wrap ((i:Int) - 1)) 0) fun y23=>
        gc (decide (0 < (i:Int))&&decide (48≤y21)&&decide (y22≤57)&&decide (48≤y23)) (0:UInt8) s (max (IntKind.i64.wrap ((i:Int) - 1)) 0) fun y24=>
        k0 (decide (0 < (i:Int))&&decide (48≤y21)&&decide (y22≤57)&&decide (48≤y23)&&decide (y24≤57)):O)=k0 (insD s i):=fun k0=>by
     match i,hg,hi with
     | 0,_,_=>rfl
     | j+1,hg,hi=>
       have hj:s[j]?=some s[j]:=List.getElem?_eq_getElem (by omega)
       have e:insD s (j+1)=(dig c&&dig s[j]):=by unfold insD;rw [hg];simp only [];rw [hj]
       rw [e,show max (IntKind.i64.wrap (((j+1:Nat):Int) - 1)) 0=((j:Nat):Int) by rw [wr (by omega) (by omega)];omega]
       generalize s[j]=p at hj
       rw [decide_eq_true (show (0:Int) < ((j+1:Nat):Int) by omega)]
       simp only [Bool.true_and]
       rw [gc_at hg]
       simp only [if_true]
       rw [gc_at hg]
       unfold dig
       cases h1:decide (48≤c) with
       | false=>
         simp only [Bool.false_eq_true,if_false,Bool.false_and]
         rw [gc_f,gc_f]
       | true=>
         simp only [if_true,Bool.true_and]
         cases h2:decide (c≤57) with
         | false=>
           simp only [Bool.false_and]
           rw [gc_f,gc_f]
         | true=>
           simp only [Bool.true_and]
           rw [gc_at hj]
           simp only [if_true]
           rw [gc_at hj]
           cases h3:decide (48≤p) with
           | false=>simp only [Bool.false_and]
           | true=>simp only [if_true,Bool.true_and]
    obtain ⟨k',hin⟩:=w20_in (N:=N) (s:=s) (ml:=ml) (i:=(i:Int)) (b:=insD s i) k N out (by omega) (by omega)
    show w20F1 _ _ _ _ _ _ _ _=_
    unfold w20F1
    simp only []
    rw [decide_eq_true (by omega),br_t]
    refine (ins fun b=>ck (w60p N ml (i:Int) 3) <| w20n0 N s ml out (i:Int) b (w60y0 N ml (i:Int) 3) fun z26 z27 z28 z29 _=>
     ck (slcOk z26.length (some z29) (some (IntKind.i64.wrap (z29+1)))) <|
     ck (decide ((↑z28.length:Int)+(↑(slc z26 (some z29) (some (IntKind.i64.wrap (z29+1)))).length:Int)≤9223372036854775807)) <|
     w20l1 N m (z26,z27,z28++slc z26 (some z29) (some (IntKind.i64.wrap (z29+1))),IntKind.i64.wrap (z29+1)) K k1 k2).trans ?_
    rw [ck_of (w60_p hml (by omega)),w60_y0 hml (by omega),hkk]
    unfold w20n0
    rw [hin]
    simp only []
    have k3:slcOk s.length (some (i:Int)) (some ((i+1:Nat):Int))=true:=decide_eq_true (by omega)
    have s2:slc s (some (i:Int)) (some ((i+1:Nat):Int))=[c]:=by show (s.take (((i+1:Nat):Int)).toNat).drop ((i:Int)).toNat=_;rw [Int.toNat_natCast,Int.toNat_natCast];exact hsl
    rw [wi,ck_of k3,s2,ck_of (le9 (by simp only [List.length_append,List.length_singleton];omega)),e1]
    simp only [List.append_assoc,List.cons_append,List.nil_append]
   ·rw [hdr]
    have e2':Sp (dig c) (s.drop (i+1)) s':=by
     have:prevD s (i+1)=dig c:=by unfold prevD;simp only [];rw [hg]
     rw [this] at e2
     exact e2
    cases hin:insD s i with
    | true=>exact .cons e2'
    | false=>
      refine sp_rep (.cons e2') (fun hp d hd=>?_) _
      cases hd
      match i,hg,hin,hp with
      | 0,_,_,hp=>cases hp
      | j+1,hg,hin,hp=>
        unfold insD at hin
        unfold prevD at hp
        simp only [] at hp
        rw [hg] at hin
        simp only [] at hin
        cases hj:s[j]? with
        | none=>rw [hj] at hp;cases hp
        | some p=>
          rw [hj] at hin hp
          simp only [] at hin hp
          rw [hp,Bool.and_true] at hin
          exact hin
   ·simp only [List.length_append,List.length_cons];omega
end Go.Proofs
/- The law on blanks. -/
namespace Go.Proofs
open Go Go.Ax Go.Ax.Alg
theorem w20_z {N:Nat} {s:Tx} {ml:List Int} (hml:∀ x ∈ ml,J64 x) (hs:s.length≤2 ^ 40) (hN:s.length+10 < N):∃ s',w20z N s ml=some s'∧Sp false s s'∧s'.length≤3 * s.length:=by
 obtain ⟨s',e1,e2,e3⟩:=w20_loop (N:=N) (by omega) hml hs s.length 0 N [] (by omega) (by omega) (by simp)
 refine ⟨s',?_,e2,e3⟩
 show (w20n1 N s ml [] 0 (fun z31=>some (w20r0 z31)):O).bind w20un=_
 unfold w20n1
 rw [show (0:Int)=((0:Nat):Int) from rfl,e1]
 rfl
theorem w20_py {N:Nat} {s s':Tx} {ml:List Int} (h:w20z N s ml=some s'):w20p N s ml=true∧w20y0 N s ml=s':=by
 unfold w20p w20y0;rw [h];exact ⟨rfl,rfl⟩
end Go.Proofs
/- The law on parsing. -/
namespace Go.Proofs
open Go Go.Ax Go.Ax.Alg
theorem w21_z {N:Nat} {s:Tx} {x y z:Int} (hs:s.length≤2 ^ 40) (hx:J64 x) (hy:J64 y) (hz:J64 z):∃ t,w21z N s x y z=some t∧t.length≤s.length+1:=by
 have wl:IntKind.i64.wrap ((s.length:Int)+1)=(s.length:Int)+1:=wr (by omega) (by omega)
 obtain ⟨k,hk⟩:=Int.eq_ofNat_of_zero_le (arI_in (x:=x) (m:=(s.length:Int)+1) (by omega)).1
 have hk2:=(arI_in (x:=x) (m:=(s.length:Int)+1) (by omega)).2
 rw [hk] at hk2
 obtain ⟨j,hj⟩:=Int.eq_ofNat_of_zero_le (arI_in (x:=z) (m:=20) (by omega)).1
 have hj2:=(arI_in (x:=z) (m:=20) (by omega)).2
 rw [hj] at hj2
 have k1:slcOk s.length none (some (k:Int))=true:=decide_eq_true (by omega)
 have k2:slcOk s.length (some (k:Int)) none=true:=decide_eq_true (by omega)
 have wk:IntKind.i64.wrap ((k:Int)+1)=(k:Int)+1:=wr (by omega) (by omega)
 have mk:min ((k:Int)+1) (s.length:Int)=((min (k+1) s.length:Nat):Int):=by omega
 have k3:slcOk s.length (some ((min (k+1) s.length:Nat):Int)) none=true:=decide_eq_true (by omega)
 have s1:slc s none (some (k:Int))=s.take k:=by show s.take ((k:Int)).toNat=_;rw [Int.toNat_natCast]
 have s2:slc s (some (k:Int)) none=s.drop k:=by show s.drop ((k:Int)).toNat=_;rw [Int.toNat_natCast]
 have s3:slc s (some ((min (k+1) s.length:Nat):Int)) none=s.drop (min (k+1) s.length):=by show s.drop (((min (k+1) s.length:Nat):Int)).toNat=_;rw [Int.toNat_natCast]
 have l1:(s.take k).length=k:=by rw [List.length_take];omega
 have l2:(s.drop k).length=s.length - k:=List.length_drop
 have l3:(s.drop (min (k+1) s.length)).length=s.length - min (k+1) s.length:=List.length_drop
 have al:∃ c:UInt8,slcOk 20 (some (j:Int)) none=true∧slcOk (slc ([48,49,50,51,32,43,45,42,47,94,40,41,61,60,82,97,98,122,46,65]:Tx) (some (j:Int)) none).length none (some 1)=true∧slc (slc ([48,49,50,51,32,43,45,42,47,94,40,41,61,60,82,97,98,122,46,65]:Tx) (some (j:Int)) none) none (some 1)=[c]:=by
  have:j=0∨j=1∨j=2∨j=3∨j=4∨j=5∨j=6∨j=7∨j=8∨j=9∨j=10∨j=11∨j=12∨j=13∨j=14∨j=15∨j=16∨j=17∨j=18∨j=19:=by omega
  rcases this with rfl | rfl | rfl | rfl | rfl | rfl | rfl | rfl | rfl | rfl | rfl | rfl | rfl | rfl | rfl | rfl | rfl | rfl | rfl | rfl <;> exact ⟨_,rfl,rfl,rfl⟩
 obtain ⟨c,a1,a2,a3⟩:=al
 show ∃ t,(w21G _ _ _ _ _:O).bind w21un=some t∧_
 unfold w21G
 rw [wl,ck_of (w46_p hx (by omega)),ck_of (w46_p hz (by omega)),w46_y0 hx (by omega),w46_y0 hz (by omega),hk,hj,ck_of a1,ck_of a2,ck_of (w46_p hy (by omega)),w46_y0 hy (by omega),a3,ck_of k1,ck_of k1,ck_of k1,wk,mk,s1,s2,s3]
 by_cases h0:arI y 3=0
 ·rw [decide_eq_true h0,br_t,ck_of (le9 (by simp only [List.length_singleton];omega)),ck_of k2,ck_of (le9 (by simp only [List.length_append,List.length_singleton];omega))]
  exact ⟨s.take k++[c]++s.drop k,rfl,by simp only [List.length_append,List.length_singleton];omega⟩
 ·rw [decide_eq_false h0,br_f]
  by_cases h1:arI y 3=1
  ·rw [decide_eq_true h1,br_t,ck_of (le9 (by simp only [List.length_singleton];omega)),ck_of k3,ck_of (le9 (by simp only [List.length_append,List.length_singleton];omega))]
   exact ⟨s.take k++[c]++s.drop (min (k+1) s.length),rfl,by simp only [List.length_append,List.length_singleton];omega⟩
  ·rw [decide_eq_false h1,br_f,ck_of k3,ck_of (le9 (by omega))]
   exact ⟨s.take k++s.drop (min (k+1) s.length),rfl,by simp only [List.length_append];omega⟩
theorem w21_py {N:Nat} {s t:Tx} {x y z:Int} (h:w21z N s x y z=some t):w21p N s x y z=true∧w21y0 N s x y z=t:=by
 unfold w21p w21y0;rw [h];exact ⟨rfl,rfl⟩
theorem w22_p {N:Nat} {s:Tx}:w22p N s 40=true:=by
 have:∃ t,w22z N s 40=some t:=by
  show ∃ t,(w22G _ _ _:O).bind w22un=some t
  unfold w22G
  by_cases h:(40:Int) < (s.length:Int)
  ·rw [decide_eq_true h,br_t,ck_of (show slcOk s.length none (some 40)=true from decide_eq_true (by omega))]
   exact ⟨_,rfl⟩
  ·rw [decide_eq_false h,br_f]
   exact ⟨_,rfl⟩
 obtain ⟨t,ht⟩:=this
 unfold w22p;rw [ht];rfl
section
variable {N:Nat} {s:Tx} {d:Int×Int×List Ex×Int×Int} (h:w23z N s=some d)
include h
theorem w23_p:w23p N s=true:=by unfold w23p;rw [h];rfl
theorem w23_y0:w23y0 N s=d.1:=by unfold w23y0;rw [h];rfl
theorem w23_y1:w23y1 N s=d.2.1:=by unfold w23y1;rw [h];rfl
theorem w23_y2:w23y2 N s=d.2.2.1:=by unfold w23y2;rw [h];rfl
theorem w23_y3:w23y3 N s=d.2.2.2.1:=by unfold w23y3;rw [h];rfl
theorem w23_y4:w23y4 N s=d.2.2.2.2:=by unfold w23y4;rw [h];rfl
end
theorem w4_round {N:Nat} (hN:70000≤N) {ml:List Int} {a:Int} {L:List Tx} (hL:L.length=5) {K0:Bool→O} {K1 k2:Unit→O}:∀ (r i m:Nat),i+r=5→r < m→
    w4l0 N m (ml,a,(i:Int),L) K0 K1 k2=K1 ()
 | _,_,0,_,h=>by omega
 | 0,i,m+1,h,_=>by
   show w4F0 _ _ _ _ _ _ _ _=_
   unfold w4F0
   simp only []
   rw [decide_eq_false (by omega),br_f]
 | r+1,i,m+1,h,hm=>by
   have hi:i < L.length:=by omega
   have hg:L[i]?=some L[i]:=List.getElem?_eq_getElem hi
   have ih:=w4_round hN (ml:=ml) (a:=a) hL (K0:=K0) (K1:=K1) (k2:=k2) r (i+1) m (by omega) (by omega)
   generalize L[i]=x at hg
   obtain ⟨d,hd,d0,f,f1,f2,f3,f4⟩:=own_any hN x
   have hr:w23z N x=some d:=(ref_any hN x).trans hd
   have wi:IntKind.i64.wrap ((i:Int)+1)=((i+1:Nat):Int):=by rw [wr (by omega) (by omega)];omega
   show w4F0 _ _ _ _ _ _ _ _=_
   unfold w4F0
   simp only []
   rw [decide_eq_true (by omega),br_t,gx_at hg,ck_of (w16_p hd),gx_at hg,ck_of (w23_p hr),w16_y0 hd,w16_y1 hd,w16_y2 hd,w16_y3 hd,w16_y4 hd,w23_y0 hr,w23_y1 hr,w23_y2 hr,w23_y3 hr,w23_y4 hr,f1,f2,f3,
    ck_of (by rw [w18_p (by omega) (by omega) (by omega),Bool.or_true]),w18_y0 (by omega) (by omega) (by omega),sameE_refl,decide_eq_false (show ¬ d.2.2.2.2≠d.2.2.2.2 from fun h=>h rfl),decide_eq_false (show ¬ d.2.2.2.1≠d.2.2.2.1 from fun h=>h rfl),show (false||false||!true)=false from rfl,br_f,wi]
   by_cases h0:d.2.2.2.2=0
   ·obtain ⟨g,u,_,_,hv,hdd,_,_⟩:=d0 h0
    have fg:f=g:=by
     rw [hdd] at f1 f2 f3
     rw [← eta_ex f,← eta_ex g,← f1,← f2,← f3]
    subst fg
    have hz:sizeE f≤256:=by
     unfold validE at hv
     by_cases hh:256 < sizeE f∨16 < depE f
     ·rw [if_pos hh] at hv;cases hv
     ·omega
    have hd2:=text_read hN (by omega) hv
    rw [decide_eq_false (by omega),br_f,ck_of (w14_p (by omega) (by omega)),w14_y0 (by omega) (by omega),ck_of (w16_p hd2),w16_y0 hd2,w16_y1 hd2,w16_y2 hd2,w16_y4 hd2]
    simp only []
    rw [ck_of (by rw [w18_p (by omega) (by omega) (by omega),Bool.or_true]),w18_y0 (by omega) (by omega) (by omega),sameE_refl,show (decide ((0:Int)≠0)||!true)=false from rfl,br_f]
    exact ih
   ·rw [decide_eq_true h0,br_t]
    exact ih
theorem law4 {N:Nat} (hN:70000≤N) {l ml:List Int} {depth at1 how by5:Int} {raw:Tx} (hl:∀ x ∈ l,J64 x) (hlen:l.length < 2 ^ 60) (hml:∀ x ∈ ml,J64 x) (ha:J64 at1) (hh:J64 how) (hb:J64 by5):w4z N l depth ml at1 how by5 raw=some true:=by
 obtain ⟨e,p1,q1,q2,q3,ok,hs,hd,_⟩:=w12_py (N:=N) (by omega) hl hlen depth
 have hv:validE e=0:=by unfold validE;rw [if_neg (by omega),if_pos ok]
 have ht:textE e=txE e:=by unfold textE;rw [if_pos hv]
 have tl:=txE_len _ e true (Nat.le_refl _) ok
 obtain ⟨s1,z1,_,l1⟩:=w20_z (N:=N) (s:=txE e) hml (by omega) (by omega)
 have y1:=w20_py z1
 obtain ⟨s2,z2,l2⟩:=w21_z (N:=N) (s:=s1) (x:=at1) (y:=how) (z:=by5) (by omega) ha hh hb
 have y2:=w21_py z2
 have h3:J64 (how.tdiv 3):=tdiv_in (m:=3) hh (by decide)
 have w3:IntKind.i64.wrap (how.tdiv 3)=how.tdiv 3:=wr h3.1 (by have:=h3.2;omega)
 obtain ⟨s3,z3,l3⟩:=w21_z (N:=N) (s:=s2) (x:=by5) (y:=how.tdiv 3) (z:=at1) (by omega) hb h3 ha
 have y3:=w21_py z3
 unfold w4z w4 w4G
 rw [p1,q1,q2,q3,ck_t,ck_of (w15_p (by omega) (by omega) (by omega)),w15_y0 (by omega) (by omega) (by omega),ht,ck_of y1.1,y1.2,ck_of y2.1,y2.2,ck_t,w3,ck_of y3.1,y3.2,ck_of w22_p,ck_of (le9 (by omega))]
 unfold w4n0
 have:=w4_round hN (ml:=ml) (a:=at1) (L:=[s1,s2,s3,w22y0 N raw 40,s1++s1]) rfl (K0:=fun y=>(fun z7=>some (w4r0 z7)) y) (K1:=fun y=>(fun (_:Unit)=>ck true <| some (w4r0 true)) y) (k2:=fun _=>none) 5 0 N rfl (by omega)
 exact (congrArg (fun z:O=>z.bind w4un) this).trans rfl
end Go.Proofs
/- Numbers that came in. -/
namespace Go.Proofs
open Go Go.Ax
theorem j64_w {z:Int} (h:OkV (.i .i64) z):J64 z:=by
 have h:(Lit.int .i64 z).wf=true:=h
 simp [Lit.wf] at h
 have h1:IntKind.i64.min = -9223372036854775808:=by decide
 rw [h1] at h
 unfold J64
 omega
theorem jl_w {l:List Int} (h:OkV (.sl (.i .i64)) l):∀ x ∈ l,J64 x:=fun x hx=>j64_w (h x hx)
theorem len_s {l:List Int} (h:SzV (.sl (.i .i64)) l):l.length < 2 ^ 60:=by
 have h1:=h.1
 have h2:l.length * 8≤reachBytes:=h1
 have h3:reachBytes=0x7ffffffff000:=rfl
 omega
end Go.Proofs
