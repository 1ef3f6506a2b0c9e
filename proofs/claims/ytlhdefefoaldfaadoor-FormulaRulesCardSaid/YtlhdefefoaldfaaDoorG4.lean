/- The rules of values; the law in plain words. Conditions are in the theorems. -/
import Derived.Test.YtlhdefefoaldfaaDoorG2
import Derived.KernelRfl
import Derived.Test.YtlhdefefoaldfaaDoorF6
import Derived.Test.YtlhdefefoaldfaaDoorG1
import Derived.Test.YtlhdefefoaldfaaDoorE7
/- Fermat for the prime 9973, by the kernel. -/
namespace Go.Proofs
def kF:Nat:=9972
def ferm (k s:Nat):Nat→Bool
 | 0=>true
 | n+1=>match Nat.beq ((s+n) ^ k % 9973) 1 with | true=>ferm k s n | false=>false
theorem ferm_at {k s b:Nat}:∀ n,ferm k s n=true→s≤b→b < s+n→b ^ k % 9973=1
 | 0,_,h1,h2=>by omega
 | n+1,h,h1,h2=>by
   unfold ferm at h
   split at h
   ·rename_i he
    by_cases hb:b=s+n
    ·subst hb;exact Nat.eq_of_beq_eq_true he
    ·exact ferm_at n h h1 (by omega)
   ·cases h
theorem ferm0:ferm kF 1 250=true:=by kernel_rfl
theorem ferm1:ferm kF 251 250=true:=by kernel_rfl
theorem ferm2:ferm kF 501 250=true:=by kernel_rfl
theorem ferm3:ferm kF 751 250=true:=by kernel_rfl
theorem ferm4:ferm kF 1001 250=true:=by kernel_rfl
theorem ferm5:ferm kF 1251 250=true:=by kernel_rfl
theorem ferm6:ferm kF 1501 250=true:=by kernel_rfl
theorem ferm7:ferm kF 1751 250=true:=by kernel_rfl
theorem ferm8:ferm kF 2001 250=true:=by kernel_rfl
theorem ferm9:ferm kF 2251 250=true:=by kernel_rfl
theorem ferm10:ferm kF 2501 250=true:=by kernel_rfl
theorem ferm11:ferm kF 2751 250=true:=by kernel_rfl
theorem ferm12:ferm kF 3001 250=true:=by kernel_rfl
theorem ferm13:ferm kF 3251 250=true:=by kernel_rfl
theorem ferm14:ferm kF 3501 250=true:=by kernel_rfl
theorem ferm15:ferm kF 3751 250=true:=by kernel_rfl
theorem ferm16:ferm kF 4001 250=true:=by kernel_rfl
theorem ferm17:ferm kF 4251 250=true:=by kernel_rfl
theorem ferm18:ferm kF 4501 250=true:=by kernel_rfl
theorem ferm19:ferm kF 4751 250=true:=by kernel_rfl
theorem ferm20:ferm kF 5001 250=true:=by kernel_rfl
theorem ferm21:ferm kF 5251 250=true:=by kernel_rfl
theorem ferm22:ferm kF 5501 250=true:=by kernel_rfl
theorem ferm23:ferm kF 5751 250=true:=by kernel_rfl
theorem ferm24:ferm kF 6001 250=true:=by kernel_rfl
theorem ferm25:ferm kF 6251 250=true:=by kernel_rfl
theorem ferm26:ferm kF 6501 250=true:=by kernel_rfl
theorem ferm27:ferm kF 6751 250=true:=by kernel_rfl
theorem ferm28:ferm kF 7001 250=true:=by kernel_rfl
theorem ferm29:ferm kF 7251 250=true:=by kernel_rfl
theorem ferm30:ferm kF 7501 250=true:=by kernel_rfl
theorem ferm31:ferm kF 7751 250=true:=by kernel_rfl
theorem ferm32:ferm kF 8001 250=true:=by kernel_rfl
theorem ferm33:ferm kF 8251 250=true:=by kernel_rfl
theorem ferm34:ferm kF 8501 250=true:=by kernel_rfl
theorem ferm35:ferm kF 8751 250=true:=by kernel_rfl
theorem ferm36:ferm kF 9001 250=true:=by kernel_rfl
theorem ferm37:ferm kF 9251 250=true:=by kernel_rfl
theorem ferm38:ferm kF 9501 250=true:=by kernel_rfl
theorem ferm39:ferm kF 9751 222=true:=by kernel_rfl
theorem ferm_all {b:Nat} (h1:1≤b) (h2:b < 9973):b ^ kF % 9973=1:=by
 by_cases c0:b < 251
 ·exact ferm_at 250 ferm0 (by omega) (by omega)
 by_cases c1:b < 501
 ·exact ferm_at 250 ferm1 (by omega) (by omega)
 by_cases c2:b < 751
 ·exact ferm_at 250 ferm2 (by omega) (by omega)
 by_cases c3:b < 1001
 ·exact ferm_at 250 ferm3 (by omega) (by omega)
 by_cases c4:b < 1251
 ·exact ferm_at 250 ferm4 (by omega) (by omega)
 by_cases c5:b < 1501
 ·exact ferm_at 250 ferm5 (by omega) (by omega)
 by_cases c6:b < 1751
 ·exact ferm_at 250 ferm6 (by omega) (by omega)
 by_cases c7:b < 2001
 ·exact ferm_at 250 ferm7 (by omega) (by omega)
 by_cases c8:b < 2251
 ·exact ferm_at 250 ferm8 (by omega) (by omega)
 by_cases c9:b < 2501
 ·exact ferm_at 250 ferm9 (by omega) (by omega)
 by_cases c10:b < 2751
 ·exact ferm_at 250 ferm10 (by omega) (by omega)
 by_cases c11:b < 3001
 ·exact ferm_at 250 ferm11 (by omega) (by omega)
 by_cases c12:b < 3251
 ·exact ferm_at 250 ferm12 (by omega) (by omega)
 by_cases c13:b < 3501
 ·exact ferm_at 250 ferm13 (by omega) (by omega)
 by_cases c14:b < 3751
 ·exact ferm_at 250 ferm14 (by omega) (by omega)
 by_cases c15:b < 4001
 ·exact ferm_at 250 ferm15 (by omega) (by omega)
 by_cases c16:b < 4251
 ·exact ferm_at 250 ferm16 (by omega) (by omega)
 by_cases c17:b < 4501
 ·exact ferm_at 250 ferm17 (by omega) (by omega)
 by_cases c18:b < 4751
 ·exact ferm_at 250 ferm18 (by omega) (by omega)
 by_cases c19:b < 5001
 ·exact ferm_at 250 ferm19 (by omega) (by omega)
 by_cases c20:b < 5251
 ·exact ferm_at 250 ferm20 (by omega) (by omega)
 by_cases c21:b < 5501
 ·exact ferm_at 250 ferm21 (by omega) (by omega)
 by_cases c22:b < 5751
 ·exact ferm_at 250 ferm22 (by omega) (by omega)
 by_cases c23:b < 6001
 ·exact ferm_at 250 ferm23 (by omega) (by omega)
 by_cases c24:b < 6251
 ·exact ferm_at 250 ferm24 (by omega) (by omega)
 by_cases c25:b < 6501
 ·exact ferm_at 250 ferm25 (by omega) (by omega)
 by_cases c26:b < 6751
 ·exact ferm_at 250 ferm26 (by omega) (by omega)
 by_cases c27:b < 7001
 ·exact ferm_at 250 ferm27 (by omega) (by omega)
 by_cases c28:b < 7251
 ·exact ferm_at 250 ferm28 (by omega) (by omega)
 by_cases c29:b < 7501
 ·exact ferm_at 250 ferm29 (by omega) (by omega)
 by_cases c30:b < 7751
 ·exact ferm_at 250 ferm30 (by omega) (by omega)
 by_cases c31:b < 8001
 ·exact ferm_at 250 ferm31 (by omega) (by omega)
 by_cases c32:b < 8251
 ·exact ferm_at 250 ferm32 (by omega) (by omega)
 by_cases c33:b < 8501
 ·exact ferm_at 250 ferm33 (by omega) (by omega)
 by_cases c34:b < 8751
 ·exact ferm_at 250 ferm34 (by omega) (by omega)
 by_cases c35:b < 9001
 ·exact ferm_at 250 ferm35 (by omega) (by omega)
 by_cases c36:b < 9251
 ·exact ferm_at 250 ferm36 (by omega) (by omega)
 by_cases c37:b < 9501
 ·exact ferm_at 250 ferm37 (by omega) (by omega)
 by_cases c38:b < 9751
 ·exact ferm_at 250 ferm38 (by omega) (by omega)
 by_cases c39:b < 9973
 ·exact ferm_at 222 ferm39 (by omega) (by omega)
 exact (c39 h2).elim
end Go.Proofs
/- The rules of values. -/
namespace Go.Proofs
open Go Go.Ax Go.Ax.Alg
theorem valP_one {vs:List Int} {o n:Int} {x:Ex} (h:(valP vs (.mk o n [x])).2=true):(valP vs x).2=true∧valP vs (.mk o n [x])=opP vs o n (valP vs x).1 0:=by
 simp only [valP,valL] at h ⊢
 cases hx:valP vs x with
 | mk a b=>
   cases b with
   | false=>rw [hx] at h;simp at h
   | true=>simp
theorem valP_two {vs:List Int} {o n:Int} {x y:Ex} (h:(valP vs (.mk o n [x,y])).2=true):(valP vs x).2=true∧(valP vs y).2=true∧valP vs (.mk o n [x,y])=opP vs o n (valP vs x).1 (valP vs y).1:=by
 simp only [valP,valL] at h ⊢
 cases hx:valP vs x with
 | mk a b=>
   cases b with
   | false=>rw [hx] at h;simp at h
   | true=>
     cases hy:valP vs y with
     | mk c d=>
       cases d with
       | false=>rw [hx,hy] at h;simp at h
       | true=>simp
def eqV (vs:List Int) (x y:Ex):Prop:=(valP vs x).2=true→(valP vs y).2=true→(valP vs x).1=(valP vs y).1
def eqP (vs:List Int) (x y:Ex):Bool:=!(valueP vs x).2||!(valueP vs y).2||decide ((valueP vs x).1=(valueP vs y).1)
theorem valueP_t {vs:List Int} {x:Ex} (h:(valueP vs x).2=true):(valP vs x).2=true∧(valueP vs x).1=(valP vs x).1:=by
 unfold valueP at h ⊢
 split at h
 ·rename_i hv
  rw [if_pos hv]
  split at h
  ·rename_i h2;exact ⟨h2,by rw [if_pos h2]⟩
  ·cases h
 ·cases h
theorem eqP_of {vs:List Int} {x y:Ex} (h:eqV vs x y):eqP vs x y=true:=by
 unfold eqP
 cases hx:(valueP vs x).2 with
 | false=>rfl
 | true=>
   cases hy:(valueP vs y).2 with
   | false=>rfl
   | true=>
     have a:=valueP_t hx
     have b:=valueP_t hy
     rw [a.2,b.2,decide_eq_true (h a.1 b.1)];rfl
section
variable {vs:List Int} {a b c:Ex}
theorem op3 {x y:Int}:opP vs 3 0 x y=((x+y) % 9973,true):=rfl
theorem op4 {x y:Int}:opP vs 4 0 x y=((x+9973 - y) % 9973,true):=rfl
theorem op2' {x y:Int}:opP vs 2 0 x y=((9973 - x) % 9973,true):=rfl
theorem op5 {x y:Int}:opP vs 5 0 x y=((x * y) % 9973,true):=rfl
theorem op6 {x y:Int}:opP vs 6 0 x y=((x * (y ^ 9971 % 9973)) % 9973,decide (y≠0)):=rfl
theorem op7 {x y:Int}:opP vs 7 0 x y=(x ^ y.toNat % 9973,true):=rfl
theorem op8 {x y:Int}:opP vs 8 0 x y=rootP x:=rfl
theorem rule_add:eqV vs (.mk 3 0 [a,b]) (.mk 3 0 [b,a]):=fun h1 h2=>by
 rw [(valP_two h1).2.2,(valP_two h2).2.2,op3,op3]
 simp only []
 rw [Int.add_comm]
theorem rule_sub:eqV vs (.mk 4 0 [a,b]) (.mk 3 0 [a,.mk 2 0 [b]]):=fun h1 h2=>by
 have e2:=valP_two h2
 rw [(valP_two h1).2.2,e2.2.2,(valP_one e2.2.1).2,op3,op4,op2']
 simp only []
 omega
theorem rule_mul:eqV vs (.mk 5 0 [a,b]) (.mk 5 0 [b,a]):=fun h1 h2=>by
 rw [(valP_two h1).2.2,(valP_two h2).2.2,op5,op5]
 simp only []
 rw [Int.mul_comm]
theorem rule_dist:eqV vs (.mk 5 0 [a,.mk 3 0 [b,c]]) (.mk 3 0 [.mk 5 0 [a,b],.mk 5 0 [a,c]]):=fun h1 h2=>by
 have e1:=valP_two h1
 have e2:=valP_two h2
 rw [e1.2.2,(valP_two e1.2.1).2.2,e2.2.2,(valP_two e2.1).2.2,(valP_two e2.2.1).2.2]
 simp only [op3,op5]
 rw [mul_emod_r,Int.mul_add,← Int.add_emod]
theorem rule_root:eqV vs (.mk 5 0 [.mk 8 0 [a],.mk 8 0 [a]]) a:=fun h1 _=>by
 have e1:=valP_two h1
 have e2:=valP_one e1.1
 rw [e1.2.2,e2.2,op5,op8]
 have h:=e1.1
 rw [e2.2,op8] at h
 unfold rootP at h ⊢
 cases hf:findR (valP vs a).1 4987 0 with
 | none=>rw [hf] at h;cases h
 | some y=>exact (findR_some _ _ _ hf).2.2
theorem rule_pow:eqV vs (.mk 7 0 [.mk 5 0 [a,b],c]) (.mk 5 0 [.mk 7 0 [a,c],.mk 7 0 [b,c]]):=fun h1 h2=>by
 have e1:=valP_two h1
 have e2:=valP_two h2
 rw [e1.2.2,(valP_two e1.1).2.2,e2.2.2,(valP_two e2.1).2.2,(valP_two e2.2.1).2.2]
 simp only [op7,op5]
 rw [pow_emod,Int.mul_pow,← Int.mul_emod]
theorem ferm_int {y:Int} (h0:0≤y) (h1:y < 9973) (h:y≠0):(y ^ 9971 * y) % 9973=1:=by
 obtain ⟨n,rfl⟩:=Int.eq_ofNat_of_zero_le h0
 have f:=ferm_all (b:=n) (by omega) (by omega)
 have:∀ k,k+1=kF→((n:Int) ^ k * n) % 9973=1:=fun k hk=>by
  have e:(n:Int) ^ kF=(n:Int) ^ k * n:=by rw [← hk];exact Int.pow_succ ..
  rw [← e]
  have:((n ^ kF % 9973:Nat):Int)=1:=by rw [f];rfl
  rw [Int.natCast_emod,Int.natCast_pow] at this
  exact this
 exact this 9971 rfl
theorem rule_frac:eqV vs (.mk 5 0 [.mk 6 0 [a,b],b]) a:=fun h1 _=>by
 have e1:=valP_two h1
 have e2:=valP_two e1.1
 have h:=e1.1
 rw [e2.2.2,op6] at h
 have hb:(valP vs b).1≠0:=of_decide_eq_true h
 have va:=valP_v (vs:=vs) (e:=a)
 have vb:=valP_v (vs:=vs) (e:=b)
 rw [e1.2.2,e2.2.2,op5,op6]
 simp only []
 have f:=ferm_int vb.1 vb.2 hb
 generalize (valP vs a).1=x at *
 generalize (valP vs b).1=y at *
 generalize y ^ 9971=z at *
 rw [mul_emod_l,Int.mul_assoc,← mul_emod_r,mul_emod_l,f,Int.mul_one]
 exact Int.emod_eq_of_lt va.1 va.2
end
end Go.Proofs
/- The law on the rules of values. -/
namespace Go.Proofs
open Go Go.Ax Go.Ax.Alg
theorem mk_op {a b:Int} {c:List Ex}:(Ex.mk a b c).op=a:=rfl
theorem mk_num {a b:Int} {c:List Ex}:(Ex.mk a b c).num=b:=rfl
theorem mk_kids {a b:Int} {c:List Ex}:(Ex.mk a b c).kids=c:=rfl
section
variable {N:Nat} (hN:10000≤N) {vs:List Int} (hv:∀ v ∈ vs,J64 v)
include hN hv
theorem w26_z {x y:Ex} (hx:sizeE x≤1000) (hy:sizeE y≤1000):w26z N x.op x.num x.kids y.op y.num y.kids vs=some (eqP vs x y):=by
 unfold w26z w26 w26G
 rw [w28_p hN hv (by omega) (by omega),ck_t,w28_p hN hv (by omega) (by omega),ck_t,w28_y1 hN hv (by omega) (by omega),w28_y1 hN hv (by omega) (by omega),w28_y0 hN hv (by omega) (by omega),w28_y0 hN hv (by omega) (by omega)]
 rfl
theorem w26_py {x y:Ex} (hx:sizeE x≤1000) (hy:sizeE y≤1000) (h:eqV vs x y):w26p N x.op x.num x.kids y.op y.num y.kids vs=true∧w26y0 N x.op x.num x.kids y.op y.num y.kids vs=true:=by
 have:=w26_z hN hv hx hy
 rw [eqP_of h] at this
 exact ⟨by unfold w26p;rw [this];rfl,by unfold w26y0;rw [this];rfl⟩
end
theorem value_one {vs:List Int} {a:Ex} (h1:okE a true=true) (h2:okE a false=true) (hs:sizeE a≤31) (hd:depE a≤5):(valueP vs (.mk 9 0 [a,a])).2=(valueP vs a).2∧((valueP vs (.mk 9 0 [a,a])).2=true→(valueP vs (.mk 9 0 [a,a])).1=1):=by
 have va:validE a=0:=by unfold validE;rw [if_neg (by omega),if_pos h1]
 have ve:validE (.mk 9 0 [a,a])=0:=by
  unfold validE
  rw [if_neg (by simp only [sizeE,sizeL,depE,depL];omega),if_pos (by simp only [okE,okL,h2,Bool.and_true];rfl)]
 unfold valueP
 rw [if_pos va,if_pos ve]
 cases h:valP vs a with
 | mk x b=>
   cases b with
   | false=>simp [valP,valL,h]
   | true=>simp [valP,valL,h,opP]
theorem law7 {N:Nat} (hN:10000≤N) {l m k vars:List Int} (hl:∀ x ∈ l,J64 x) (hm:∀ x ∈ m,J64 x) (hk:∀ x ∈ k,J64 x) (hv:∀ x ∈ vars,J64 x)
    (ll:(l.length+1) * 8≤140737488355328) (lm:(m.length+1) * 8≤140737488355328) (lk:(k.length+1) * 8≤140737488355328) (hvl:vars.length < 2 ^ 47):w7z N l m k vars=some true:=by
 have five:∀ {l:List Int},(∀ x ∈ l,J64 x)→∀ x ∈ [(5:Int)]++l,J64 x:=fun h x hx=>by
  rcases List.mem_append.1 hx with hx | hx
  ·simp only [List.mem_cons,List.not_mem_nil,or_false] at hx;subst hx;exact ⟨by decide,by decide⟩
  ·exact h x hx
 have lm5:∀ {l:List Int},(l.length+1) * 8≤140737488355328→lim ([(5:Int)]++l).length 8=true:=fun h=>by
  unfold lim
  refine decide_eq_true ?_
  rw [List.length_append,List.length_singleton]
  omega
 obtain ⟨a,p1,q1,q2,q3,oka,sa,da,ha⟩:=w12_py (N:=N) (l:=[5]++l) (by omega) (five hl) (by simp;omega) 3
 obtain ⟨b,p2,r1,r2,r3,okb,sb,db,_⟩:=w12_py (N:=N) (l:=[5]++m) (by omega) (five hm) (by simp;omega) 3
 obtain ⟨c,p3,t1,t2,t3,okc,sc,dc,_⟩:=w12_py (N:=N) (l:=[5]++k) (by omega) (five hk) (by simp;omega) 3
 have ha:=(ha (by
  have:atI ([5]++l) 0 6=5:=by unfold atI;rw [if_neg (by simp)];rfl
  omega)).1
 obtain ⟨vs,hvs⟩:∃ vs,[]++w25y0 N vars 26++[(0:Int),(0:Int),(0:Int),(0:Int),(0:Int),(0:Int),(0:Int),(0:Int),(0:Int),(0:Int),(0:Int),(0:Int),(0:Int),(0:Int),(0:Int),(0:Int),(0:Int),(0:Int),(0:Int),(0:Int),(0:Int),(0:Int),(0:Int),(0:Int),(0:Int),(0:Int)]=vs:=⟨_,rfl⟩
 have hJ:∀ v ∈ vs,J64 v:=fun v h=>by
  rw [← hvs,w25_y0 hvl] at h
  rcases List.mem_append.1 h with h | h
  ·exact hv v (List.mem_of_mem_take (by simpa using h))
  ·have:v=0:=by simp only [List.mem_cons,List.not_mem_nil,or_false] at h;omega
   subst this;unfold J64;omega
 have l1:lim ([]++w25y0 N vars 26).length 8=true:=by
  rw [w25_y0 hvl];unfold lim;refine decide_eq_true ?_;simp only [List.nil_append,List.length_take];omega
 have l2:lim (([]++w25y0 N vars 26).length+26) 8=true:=by
  rw [w25_y0 hvl];unfold lim;refine decide_eq_true ?_;simp only [List.nil_append,List.length_take];omega
 have sz:∀ x:Ex,x=a∨x=b∨x=c→sizeE x≤31:=fun x h=>by rcases h with rfl | rfl | rfl <;> assumption
 have e1:=w26_py hN hJ (by simp only [sizeE,sizeL];omega) (by simp only [sizeE,sizeL];omega) (rule_add (vs:=vs) (a:=a) (b:=b))
 have e2:=w26_py hN hJ (by simp only [sizeE,sizeL];omega) (by simp only [sizeE,sizeL];omega) (rule_sub (vs:=vs) (a:=a) (b:=b))
 have e3:=w26_py hN hJ (by simp only [sizeE,sizeL];omega) (by simp only [sizeE,sizeL];omega) (rule_mul (vs:=vs) (a:=a) (b:=b))
 have e4:=w26_py hN hJ (by simp only [sizeE,sizeL];omega) (by simp only [sizeE,sizeL];omega) (rule_dist (vs:=vs) (a:=a) (b:=b) (c:=c))
 have e5:=w26_py hN hJ (by simp only [sizeE,sizeL];omega) (by omega) (rule_frac (vs:=vs) (a:=a) (b:=b))
 have e6:=w26_py hN hJ (by simp only [sizeE,sizeL];omega) (by omega) (rule_root (vs:=vs) (a:=a))
 have e7:=w26_py hN hJ (by simp only [sizeE,sizeL];omega) (by simp only [sizeE,sizeL];omega) (rule_pow (vs:=vs) (a:=a) (b:=b) (c:=c))
 have o1:=w28_p hN hJ (e:=.mk 9 0 [a,a]) (by simp only [sizeE,sizeL];omega) (by simp only [sizeE,sizeL];omega)
 have o2:=w28_y0 hN hJ (e:=.mk 9 0 [a,a]) (by simp only [sizeE,sizeL];omega) (by simp only [sizeE,sizeL];omega)
 have o3:=w28_y1 hN hJ (e:=.mk 9 0 [a,a]) (by simp only [sizeE,sizeL];omega) (by simp only [sizeE,sizeL];omega)
 have o4:=w28_p hN hJ (e:=a) (by omega) (by omega)
 have o5:=w28_y1 hN hJ (e:=a) (by omega) (by omega)
 have vo:=value_one (vs:=vs) oka ha sa da
 have vz:((valueP vs (.mk 9 0 [a,a])).2 == (valueP vs a).2)=true:=by rw [vo.1];exact beq_self_eq_true _
 have vw:(!(valueP vs (.mk 9 0 [a,a])).2||decide ((valueP vs (.mk 9 0 [a,a])).1=1))=true:=by
  cases h:(valueP vs (.mk 9 0 [a,a])).2 with
  | false=>rfl
  | true=>rw [vo.2 h];rfl
 simp only [mk_op,mk_num,mk_kids] at e1 e2 e3 e4 e5 e6 e7 o1 o2 o3
 unfold w7z w7 w7G
 simp only [q1,q2,q3,r1,r2,r3,t1,t2,t3,p1,p2,p3,w25_p hvl,lm5 ll,lm5 lm,lm5 lk,l1,l2,hvs,mk_op,mk_num,mk_kids,Ex.eta,ck_t,e1.1,e1.2,e2.1,e2.2,e3.1,e3.2,e4.1,e4.2,e5.1,e5.2,e6.1,e6.2,e7.1,e7.2,o1,o2,o3,o4,o5,vz,vw,br_t,Bool.or_true,Bool.and_true,Bool.not_true]
 rfl
end Go.Proofs
/- Numbers that came in. -/
namespace Go.Proofs
open Go Go.Ax
theorem j64_w {z:Int} (h:OkV (.i .i64) z):J64 z:=by
 have h:(Lit.int .i64 z).wf=true:=h
 simp [Lit.wf] at h
 have h1:IntKind.i64.min = -9223372036854775808:=by decide
 rw [h1] at h
 unfold J64
 omega
theorem jl_w {l:List Int} (h:OkV (.sl (.i .i64)) l):∀ x ∈ l,J64 x:=fun x hx=>j64_w (h x hx)
theorem len40 {l:List Int} (h:SzV (.sl (.i .i64)) l):l.length < 2 ^ 47:=by
 have h1:=h.1
 have h2:l.length * 8≤reachBytes:=h1
 have h3:reachBytes=0x7ffffffff000:=rfl
 omega
theorem len_1 {l:List Int} (h:SzV (.sl (.i .i64)) l):(l.length+1) * 8≤140737488355328:=by
 have h1:=h.1
 have h2:l.length * 8≤reachBytes:=h1
 have h3:reachBytes=0x7ffffffff000:=rfl
 omega
end Go.Proofs
