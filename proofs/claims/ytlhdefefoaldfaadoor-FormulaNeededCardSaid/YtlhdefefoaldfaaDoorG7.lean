/- The law in plain words. Conditions are in the theorems. -/
import Derived.Test.YtlhdefefoaldfaaDoorG6
import Derived.Test.YtlhdefefoaldfaaDoorG2
import Derived.Test.YtlhdefefoaldfaaDoorF6
import Derived.Test.YtlhdefefoaldfaaDoorG1
import Derived.Test.YtlhdefefoaldfaaDoorE7
/- The law on needed parentheses. -/
namespace Go.Proofs
open Go Go.Ax Go.Ax.Alg
/-- An opening parenthesis that stands ahead of a place. -/
def PO (s:Tx) (i:Nat) (k:Int):Prop:=∃ n:Nat,k=(n:Int)∧n < i∧s[n]?=some 40
/-- Two parentheses, the first ahead of the second. -/
def PP (s:Tx) (p:Int×Int):Prop:=∃ a b:Nat,p=((a:Int),(b:Int))∧a < b∧s[a]?=some 40∧s[b]?=some 41
theorem lim_of {n b:Nat} (h:n≤2 ^ 40) (hb:b≤16):lim n b=true:=by
 have:n * b≤2 ^ 40 * 16:=Nat.mul_le_mul h hb
 exact decide_eq_true ⟨by omega,by omega⟩
theorem w24_loop {N:Nat} {s:Tx} (hs:s.length≤2 ^ 39):∀ (r i m:Nat) (op:List Int) (out:List (Int×Int)),i+r=s.length→r < m→(∀ k ∈ op,PO s i k)→op.length≤i→(∀ p ∈ out,PP s p)→out.length≤i→
    ∃ out',(∀ (K:List (Int×Int)→O) (k1 k2:Unit→O),w24l2 N m (s,(i:Int),op,out) K k1 k2=K out')∧(∀ p ∈ out',PP s p)∧out'.length≤s.length
 | _,_,0,_,_,_,h,_,_,_,_=>by omega
 | 0,i,m+1,op,out,h,_,_,_,hp,hl=>by
   refine ⟨out,fun K k1 k2=>?_,hp,by omega⟩
   show w24F2 _ _ _ _ _ _ _ _ _=_
   unfold w24F2
   simp only []
   rw [decide_eq_false (by omega),br_f]
 | r+1,i,m+1,op,out,h,hm,ho,hol,hp,hl=>by
   have hi:i < s.length:=by omega
   have hg:s[i]?=some s[i]:=List.getElem?_eq_getElem hi
   generalize s[i]=c at hg
   have wi:IntKind.i64.wrap ((i:Int)+1)=((i+1:Nat):Int):=by rw [wr (by omega) (by omega)];omega
   have ho':∀ k ∈ op,PO s (i+1) k:=fun k hk=>by obtain ⟨n,a,b,d⟩:=ho k hk;exact ⟨n,a,by omega,d⟩
   have go:∀ (op':List Int) (out':List (Int×Int)),(∀ k ∈ op',PO s (i+1) k)→op'.length≤i+1→(∀ p ∈ out',PP s p)→out'.length≤i+1→
       (∀ (K:List (Int×Int)→O) (k1 k2:Unit→O),w24l2 N (m+1) (s,(i:Int),op,out) K k1 k2=w24l2 N m (s,((i+1:Nat):Int),op',out') K k1 k2)→
       ∃ out',(∀ (K:List (Int×Int)→O) (k1 k2:Unit→O),w24l2 N (m+1) (s,(i:Int),op,out) K k1 k2=K out')∧(∀ p ∈ out',PP s p)∧out'.length≤s.length:=fun op' out' a1 a2 a3 a4 e=>by
    obtain ⟨o,f1,f2,f3⟩:=w24_loop (N:=N) hs r (i+1) m op' out' (by omega) (by omega) a1 a2 a3 a4
    exact ⟨o,fun K k1 k2=>(e K k1 k2).trans (f1 K k1 k2),f2,f3⟩
   by_cases h40:c=40
   ·subst h40
    refine go (op++[(i:Int)]) out (fun k hk=>?_) (by rw [List.length_append,List.length_singleton];omega) hp (by omega) fun K k1 k2=>?_
    ·rw [List.mem_append,List.mem_singleton] at hk
     rcases hk with hk | rfl
     ·exact ho' k hk
     ·exact ⟨i,rfl,by omega,hg⟩
    ·show w24F2 _ _ _ _ _ _ _ _ _=_
     unfold w24F2 w24n1 w24l1 w24F1 w24n0 w24l0 w24F0
     simp only []
     rw [decide_eq_true (by omega),br_t,gx_at hg,decide_eq_true rfl,br_t,ck_of (lim_of (by rw [List.length_append,List.length_singleton];omega) (by omega)),gx_at hg,decide_eq_false (by decide),Bool.false_and,br_f,wi]
   ·have f0:∀ (op':List Int) (out':List (Int×Int)),(∀ (X:Tx→Int→List Int→List (Int×Int)→O),(gx s (i:Int) fun y157=>
        br (decide (y157=41)&&decide (0 < (op.length:Int)))
         (ck (decide (0≤IntKind.i64.wrap ((op.length:Int) - 1)∧IntKind.i64.wrap ((op.length:Int) - 1) < (op.length:Int))) <|
         gn op ((IntKind.i64.wrap ((op.length:Int) - 1)).toNat) fun y158=>
         ck (decide (0≤IntKind.i64.wrap ((op.length:Int) - 1)∧IntKind.i64.wrap ((op.length:Int) - 1)≤(op.length:Int))) <|
         gc (!decide (y158=0)) (0:UInt8) s (max (IntKind.i64.wrap (y158 - 1)) 0) fun y159=>
         br (decide (y158=0)||decide (y159≠82))
          (ck (lim (out++[(y158,(i:Int))]).length 16) <|
          X s (i:Int) (List.take (IntKind.i64.wrap ((op.length:Int) - 1)).toNat op) (out++[(y158,(i:Int))]))
          (X s (i:Int) (List.take (IntKind.i64.wrap ((op.length:Int) - 1)).toNat op) out))
         (X s (i:Int) op out):O)=X s (i:Int) op' out')→
        ∀ (K:List (Int×Int)→O) (k1 k2:Unit→O),w24l2 N (m+1) (s,(i:Int),op,out) K k1 k2=w24l2 N m (s,((i+1:Nat):Int),op',out') K k1 k2:=fun op' out' hX K k1 k2=>by
     show w24F2 _ _ _ _ _ _ _ _ _=_
     unfold w24F2 w24n1 w24l1 w24F1 w24n0 w24l0 w24F0
     simp only []
     rw [decide_eq_true (by omega),br_t,gx_at hg,decide_eq_false h40,br_f]
     rw [← wi]
     exact hX (fun z160 z161 z162 z163=>w24l2 N m (z160,IntKind.i64.wrap (z161+1),z162,z163) K k1 k2)
    by_cases h41:c=41
    ·rcases List.eq_nil_or_concat op with rfl | ⟨pre,k,rfl⟩
     ·refine go [] out (fun k hk=>by cases hk) (by simp) hp (by omega) (f0 [] out fun X=>?_)
      rw [gx_at hg,decide_eq_false (show ¬ (0:Int) < (([]:List Int).length:Int) by simp),Bool.and_false,br_f]
     ·rw [List.concat_eq_append] at *
      obtain ⟨n,rfl,hn,hng⟩:=ho k (by simp)
      have hpre:∀ k ∈ pre,PO s (i+1) k:=fun k hk=>ho' k (List.mem_append_left _ hk)
      have hlp:(pre++[(n:Int)]).length=pre.length+1:=by simp
      have wl:IntKind.i64.wrap (((pre++[(n:Int)]).length:Int) - 1)=(pre.length:Int):=by rw [hlp,wr (by omega) (by omega)];omega
      have hgn:(pre++[(n:Int)])[pre.length]?=some (n:Int):=by simp
      have htk:(pre++[(n:Int)]).take pre.length=pre:=by simp
      have hpp:PP s ((n:Int),(i:Int)):=⟨n,i,rfl,hn,hng,h41 ▸ hg⟩
      have key:∀ X:Tx→Int→List Int→List (Int×Int)→O,∃ b:Bool,(∀ X:Tx→Int→List Int→List (Int×Int)→O,(gc (!decide ((n:Int)=0)) (0:UInt8) s (max (IntKind.i64.wrap ((n:Int) - 1)) 0) fun y159=>
       br (decide ((n:Int)=0)||decide (y159≠82)) (X s (i:Int) pre (out++[((n:Int),(i:Int))])) (X s (i:Int) pre out):O)=br b (X s (i:Int) pre (out++[((n:Int),(i:Int))])) (X s (i:Int) pre out)):=fun _=>by
       by_cases h0:n=0
       ·refine ⟨true,fun X=>?_⟩
        rw [decide_eq_true (by omega),Bool.not_true,gc_f,Bool.true_or]
       ·have hx:s[n - 1]?=some s[n - 1]:=List.getElem?_eq_getElem (by omega)
        refine ⟨decide (s[n - 1]≠82),fun X=>?_⟩
        rw [decide_eq_false (show ¬ (n:Int)=0 by omega),Bool.not_false,gc_t,show max (IntKind.i64.wrap ((n:Int) - 1)) 0=((n - 1:Nat):Int) by rw [wr (by omega) (by omega)];omega,gx_at hx,Bool.false_or]
      obtain ⟨b,hb⟩:=key fun _ _ _ _=>none
      have hb':∀ X:Tx→Int→List Int→List (Int×Int)→O,(gc (!decide ((n:Int)=0)) (0:UInt8) s (max (IntKind.i64.wrap ((n:Int) - 1)) 0) fun y159=>
       br (decide ((n:Int)=0)||decide (y159≠82)) (ck (lim (out++[((n:Int),(i:Int))]).length 16) (X s (i:Int) pre (out++[((n:Int),(i:Int))]))) (X s (i:Int) pre out):O)=br b (X s (i:Int) pre (out++[((n:Int),(i:Int))])) (X s (i:Int) pre out):=fun X=>by
       rw [ck_of (lim_of (by rw [List.length_append,List.length_singleton];omega) (by omega))]
       exact hb X
      have hol':pre.length+1≤i:=by rw [hlp] at hol;exact hol
      cases b with
      | true=>
        refine go pre (out++[((n:Int),(i:Int))]) hpre (by omega) (fun p hp'=>?_) (by rw [List.length_append,List.length_singleton];omega) (f0 _ _ fun X=>?_)
        ·rw [List.mem_append,List.mem_singleton] at hp'
         rcases hp' with hp' | rfl
         ·exact hp p hp'
         ·exact hpp
        ·rw [gx_at hg,decide_eq_true h41,decide_eq_true (by omega),Bool.true_and,br_t,wl,ck_of (decide_eq_true (by omega)),Int.toNat_natCast,gn_of hgn,ck_of (decide_eq_true (by omega)),htk,hb' X,br_t]
      | false=>
        refine go pre out hpre (by omega) hp (by omega) (f0 _ _ fun X=>?_)
        rw [gx_at hg,decide_eq_true h41,decide_eq_true (by omega),Bool.true_and,br_t,wl,ck_of (decide_eq_true (by omega)),Int.toNat_natCast,gn_of hgn,ck_of (decide_eq_true (by omega)),htk,hb' X,br_f]
    ·refine go op out ho' (by omega) hp (by omega) (f0 op out fun X=>?_)
     rw [gx_at hg,decide_eq_false h41,Bool.false_and,br_f]
theorem w24_z {N:Nat} {s:Tx} (hs:s.length≤2 ^ 39) (hN:s.length < N):∃ ps,w24z N s=some ps∧(∀ p ∈ ps,PP s p)∧ps.length≤s.length:=by
 obtain ⟨ps,h1,h2,h3⟩:=w24_loop (N:=N) hs s.length 0 N [] [] (by omega) hN (fun k h=>by cases h) (by simp) (fun k h=>by cases h) (by simp)
 refine ⟨ps,?_,h2,h3⟩
 show (w24n2 N s 0 [] [] (fun z164=>some (w24r0 z164)):O).bind w24un=_
 unfold w24n2
 rw [show (0:Int)=((0:Nat):Int) from rfl,h1]
 rfl
/-- A text without two of its parentheses. -/
def cutP (s:Tx) (a b:Nat):Tx:=s.take a++(s.take b).drop (a+1)++s.drop (b+1)
theorem cut_cn {s:Tx} {a b:Nat} (hab:a < b) (ha:s[a]?=some 40) (hb:s[b]?=some 41):cn (cutP s a b)+1=cn s∧(cutP s a b).length≤s.length:=by
 have e1:=drop_at hb
 have ha':(s.take b)[a]?=some 40:=by rw [List.getElem?_take_of_lt hab];exact ha
 have e2:=drop_at ha'
 have e3:s.take b=s.take a++40::(s.take b).drop (a+1):=by
  rw [← e2]
  have:=List.take_append_drop a (s.take b)
  rw [List.take_take,Nat.min_eq_left (by omega)] at this
  exact this.symm
 have e4:s=s.take a++40::(s.take b).drop (a+1)++41::s.drop (b+1):=by
  rw [← e3,← e1,List.take_append_drop]
 unfold cutP
 constructor
 ·conv=>rhs;rw [e4]
  rw [cn_app,cn_app,cn_app,cn_app,cn_40,cn_c 41 _ (by decide)]
  omega
 ·conv=>rhs;rw [e4]
  simp only [List.length_append,List.length_cons]
  omega
theorem cut_other {s t u:Tx} {e:Ex} (hs:s=txE e) (hc:cn t+1=cn s):¬ Rd (.lv 0) t (.ok e u):=fun h=>by
 have:=rd_cn h e u rfl
 simp only [askK,hasK] at this
 rw [atE_hi (Nat.zero_le _),← hs] at this
 omega
theorem w6_round {N:Nat} (hN:70000≤N) {s:Tx} {e:Ex} (he:s=txE e) (hsz:sizeE e≤100) (hs:s.length≤8000) {ps:List (Int×Int)} (hp:∀ p ∈ ps,PP s p) (hpl:ps.length≤8000) {K0:Bool→O} {K1 k2:Unit→O}:∀ (r i m:Nat),i+r=ps.length→r < m→
    w6l0 N m (s,ps,(i:Int),e.op,e.num,e.kids) K0 K1 k2=K1 ()
 | _,_,0,_,h=>by omega
 | 0,i,m+1,h,_=>by
   show w6F0 _ _ _ _ _ _ _ _ _ _=_
   unfold w6F0
   simp only []
   rw [decide_eq_false (by omega),br_f]
 | r+1,i,m+1,h,hm=>by
   have hi:i < ps.length:=by omega
   have hg:ps[i]?=some ps[i]:=List.getElem?_eq_getElem hi
   obtain ⟨a,b,hab,h1,h2,h3⟩:=hp _ (List.getElem_mem hi)
   rw [hab] at hg
   have ih:=w6_round hN he hsz hs hp hpl (K0:=K0) (K1:=K1) (k2:=k2) r (i+1) m (by omega) (by omega)
   have hb:b < s.length:=(List.getElem?_eq_some_iff.1 h3).1
   have cc:=cut_cn h1 h2 h3
   obtain ⟨d,hd,d0,f,f1,f2,f3,f4⟩:=own_any hN (cutP s a b)
   have w1:IntKind.i64.wrap ((a:Int)+1)=((a+1:Nat):Int):=by rw [wr (by omega) (by omega)];omega
   have w2:IntKind.i64.wrap ((b:Int)+1)=((b+1:Nat):Int):=by rw [wr (by omega) (by omega)];omega
   have k1:slcOk s.length none (some (a:Int))=true:=decide_eq_true (by omega)
   have k3:slcOk s.length (some ((a+1:Nat):Int)) (some (b:Int))=true:=decide_eq_true (by omega)
   have k4:slcOk s.length (some ((b+1:Nat):Int)) none=true:=decide_eq_true (by omega)
   have s1:slc s none (some (a:Int))=s.take a:=by show s.take ((a:Int)).toNat=_;rw [Int.toNat_natCast]
   have s2:slc s (some ((a+1:Nat):Int)) (some (b:Int))=(s.take b).drop (a+1):=by show (s.take ((b:Int)).toNat).drop (((a+1:Nat):Int)).toNat=_;rw [Int.toNat_natCast,Int.toNat_natCast]
   have s3:slc s (some ((b+1:Nat):Int)) none=s.drop (b+1):=by show s.drop (((b+1:Nat):Int)).toNat=_;rw [Int.toNat_natCast]
   have l1:(s.take a).length≤s.length:=by rw [List.length_take];omega
   have l2:((s.take b).drop (a+1)).length≤s.length:=by rw [List.length_drop,List.length_take];omega
   have l3:(s.drop (b+1)).length≤s.length:=by rw [List.length_drop];omega
   have hcut:s.take a++(s.take b).drop (a+1)++s.drop (b+1)=cutP s a b:=rfl
   show w6F0 _ _ _ _ _ _ _ _ _ _=_
   unfold w6F0
   simp only []
   rw [decide_eq_true (by omega),br_t,gx_at hg]
   simp only []
   rw [gx_0,gx_at hg]
   simp only []
   rw [gx_1,w1,w2,ck_of k1,ck_of k3,s1,s2,ck_of (le9 (by omega)),ck_of k4,s3,ck_of (le9 (by simp only [List.length_append];omega)),hcut,ck_of (w16_p hd),w16_y0 hd,w16_y1 hd,w16_y2 hd,w16_y4 hd,f1,f2,f3,ck_of (by rw [w18_p (by omega) (by omega) (by omega),Bool.or_true]),w18_y0 (by omega) (by omega) (by omega)]
   have hno:(decide (d.2.2.2.2=0)&&sameE f e)=false:=by
    by_cases h0:d.2.2.2.2=0
    ·obtain ⟨g,u,hr,_,_,hdd,_,_⟩:=d0 h0
     rw [decide_eq_true h0,Bool.true_and]
     cases hsm:sameE f e with
     | false=>rfl
     | true=>
       have fe:=sameE_eq hsm
       have fg:f=g:=by
        rw [hdd] at f1 f2 f3
        rw [← eta_ex f,← eta_ex g,← f1,← f2,← f3]
       rw [← fg,fe] at hr
       exact absurd hr (cut_other he cc.1)
    ·rw [decide_eq_false h0,Bool.false_and]
   rw [hno,br_f,wr (x:=(i:Int)+1) (by omega) (by omega),show (i:Int)+1=((i+1:Nat):Int) by omega]
   exact ih
theorem law6 {N:Nat} (hN:70000≤N) {l:List Int} {depth:Int} (hl:∀ x ∈ l,J64 x) (hlen:l.length < 2 ^ 60):w6z N l depth=some true:=by
 obtain ⟨e,p1,q1,q2,q3,ok,hs,hd,_⟩:=w12_py (N:=N) (by omega) hl hlen depth
 have hv:validE e=0:=by unfold validE;rw [if_neg (by omega),if_pos ok]
 have ht:textE e=txE e:=by unfold textE;rw [if_pos hv]
 have tl:=txE_len _ e true (Nat.le_refl _) ok
 obtain ⟨ps,hz,hp,hpl⟩:=w24_z (N:=N) (s:=txE e) (by omega) (by omega)
 unfold w6z w6 w6G
 rw [p1,q1,q2,q3,ck_t,ck_of (w14_p (by omega) (by omega)),w14_y0 (by omega) (by omega),ht,ck_of (show w24p N (txE e)=true by unfold w24p;rw [hz];rfl),show w24y0 N (txE e)=ps by unfold w24y0;rw [hz];rfl]
 unfold w6n0
 have:=w6_round hN (s:=txE e) rfl (by omega) (by omega) hp (by omega) (K0:=fun y=>(fun z13=>some (w6r0 z13)) y) (K1:=fun _=>some (w6r0 true)) (k2:=fun _=>none) ps.length 0 N (by omega) (by omega)
 refine (congrArg (fun z:O=>z.bind w6un) this).trans ?_
 rfl
end Go.Proofs
/- Numbers that came in. -/
namespace Go.Proofs
open Go Go.Ax
theorem j64_w {z:Int} (h:OkV (.i .i64) z):J64 z:=by
 have h:(Lit.int .i64 z).wf=true:=h
 simp [Lit.wf] at h
 have h1:IntKind.i64.min = -9223372036854775808:=by decide
 rw [h1] at h
 unfold J64
 omega
theorem jl_w {l:List Int} (h:OkV (.sl (.i .i64)) l):∀ x ∈ l,J64 x:=fun x hx=>j64_w (h x hx)
theorem len_s {l:List Int} (h:SzV (.sl (.i .i64)) l):l.length < 2 ^ 60:=by
 have h1:=h.1
 have h2:l.length * 8≤reachBytes:=h1
 have h3:reachBytes=0x7ffffffff000:=rfl
 omega
end Go.Proofs
