/- Decoding. Conditions are in the theorems. -/
import Derived.Test.YtlhdefefoaldfaaGreatDoorG7
import Derived.Test.YtlhdefefoaldfaaGreatDoorGR
/- Decoding: what both do with any cells. -/
namespace Go.Proofs
open Go Go.Ax Go.Ax.Alg
section
variable {N:Nat} (hN:100 < N) {s:Tx} (hl:s.length<=2 ^ 40)
include hN hl
omit hN in
omit hl in
end
end Go.Proofs
/- Decoding; the law on reading. -/
namespace Go.Proofs
open Go Go.Ax Go.Ax.Alg
open Classical in
noncomputable def dcdF (l:Tx):Int×Int×List Ex×Int×Int:=
 if Lib.indexByte l 63 < 0 then (0,0,[],0,3)
 else if h:∃ e,validE e=0/\encE e=l.take (ixB l 63+1) then (h.choose.op,h.choose.num,h.choose.kids,((ixB l 63+1:Nat):Int),0)
 else (0,0,[],0,2)
theorem dcdF_more {l:Tx} (h:Lib.indexByte l 63 < 0):dcdF l=(0,0,[],0,3):=by unfold dcdF;rw [if_pos h]
theorem dcdF_no {l:Tx} (h:¬ Lib.indexByte l 63 < 0) (hn:¬ ∃ e,validE e=0/\encE e=l.take (ixB l 63+1)):dcdF l=(0,0,[],0,2):=by
 unfold dcdF;rw [if_neg h,dif_neg hn]
theorem dcdF_ok {l:Tx} (h:¬ Lib.indexByte l 63 < 0) {e:Ex} (hv:validE e=0) (he:encE e=l.take (ixB l 63+1)):dcdF l=(e.op,e.num,e.kids,((ixB l 63+1:Nat):Int),0):=by
 have hx:∃ e,validE e=0/\encE e=l.take (ixB l 63+1):=⟨e,hv,he⟩
 have h1:hx.choose=e:=enc_inj (N:=70000) (by omega) hx.choose_spec.1 hv (hx.choose_spec.2.trans he.symm)
 unfold dcdF
 rw [if_neg h,dif_pos hx,h1]
theorem dcdF_cases (l:Tx):(Lib.indexByte l 63 < 0/\dcdF l=(0,0,[],0,3))\/(∃ e,validE e=0/\encE e=l.take (ixB l 63+1)/\¬ Lib.indexByte l 63 < 0/\dcdF l=(e.op,e.num,e.kids,((ixB l 63+1:Nat):Int),0))\/(¬ Lib.indexByte l 63 < 0/\(¬ ∃ e,validE e=0/\encE e=l.take (ixB l 63+1))/\dcdF l=(0,0,[],0,2)):=by
 by_cases h:Lib.indexByte l 63 < 0
 ·exact .inl ⟨h,dcdF_more h⟩
 ·by_cases hn:∃ e,validE e=0/\encE e=l.take (ixB l 63+1)
  ·obtain ⟨e,hv,he⟩:=hn
   exact .inr (.inl ⟨e,hv,he,h,dcdF_ok h hv he⟩)
  ·exact .inr (.inr ⟨h,hn,dcdF_no h hn⟩)
theorem take_slc {l:Tx} {i:Nat}:slc l none (some (i:Int))=l.take i:=by
 show List.take _ _=_
 rw [Int.toNat_natCast]
theorem w20_a {N:Nat} (hN:70000<=N) {l:Tx} (hl:l.length<=60000):w20z N l=some (dcdF l):=by
 rcases dcdF_cases l with ⟨h,e⟩ | ⟨e,hv,he,h,ee⟩ | ⟨h,hn,ee⟩
 ·rw [e]
  have:=ix_lt (c:=63) (l:=l)
  unfold w20z w20 w20G
  simp only []
  rw [ck_of w40_p,decide_eq_true (show w40y0 N l 63 < 0 from h),br_t];rfl
 ·rw [ee]
  have h1:=w20_ok hN hv (l.drop (ixB l 63+1)) (by simp;omega)
  have h2:=ix_lt (c:=63) (l:=l)
  have h3:(encE e).length=ixB l 63+1:=by rw [he,List.length_take];unfold ixB;omega
  have h1':encE e++l.drop (ixB l 63+1)=l:=by rw [he,List.take_append_drop]
  rw [h1',h3] at h1
  exact h1
 ·rw [ee]
  have hx:=ix_lt (c:=63) (l:=l)
  have hi:=ix_i (Int.not_lt.1 h)
  have e1:IntKind.i64.wrap (Lib.indexByte l 63+1)=((ixB l 63+1:Nat):Int):=by rw [wr (by omega) (by omega)];omega
  have s1:slc l none (some (Lib.indexByte l 63))=l.take (ixB l 63):=by rw [hi];exact take_slc
  have hpl:(l.take (ixB l 63)).length<=60000:=by rw [List.length_take];omega
  have q0:=w41_p (N:=N) (l:=l.take (ixB l 63)) (by omega) (by omega)
  have q1:=w41_y0 (N:=N) (l:=l.take (ixB l 63)) (by omega) (by omega)
  have q2:=w41_y1 (N:=N) (l:=l.take (ixB l 63)) (by omega) (by omega)
  have so1:slcOk l.length none (some (Lib.indexByte l 63))=true:=by unfold slcOk;exact decide_eq_true (by omega)
  have so2:slcOk l.length none (some ((ixB l 63+1:Nat):Int))=true:=by unfold slcOk;exact decide_eq_true (by omega)
  unfold w20z w20 w20G
  simp only []
  rw [ck_of w40_p,decide_eq_false (show ¬ w40y0 N l 63 < 0 from h),br_f]
  simp only [w40_y0,e1,s1,q1,q2,take_slc]
  rw [so1,ck_t,q0,ck_t]
  cases ht:decP false (l.take (ixB l 63)) with
  | none=>rfl
  | some t=>
    simp only [Option.isSome_some,Option.getD_some,Bool.not_true,br_f]
    obtain ⟨d,hd,d0,f,f1,f2,f3,f4⟩:=own_any hN t
    have r1:=w42_p hd
    simp only [w42_y0 hd,w42_y1 hd,w42_y2 hd,w42_y4 hd,f1,f2,f3,Ex.eta,w10_p hN (show sizeE f<=8500 by omega),w10_y0 hN (show sizeE f<=8500 by omega),w10_y1 hN (show sizeE f<=8500 by omega),w43_p,w43_y0,r1,ck_t,so2,Bool.or_true]
    have hc:(decide (d.2.2.2.2≠0)||decide (validE f≠0)||!decide (encE f=l.take (ixB l 63+1)))=true:=by
     by_cases hz:d.2.2.2.2=0
     ·obtain ⟨e,_,_,_,hv,hde,_,_⟩:=d0 hz
      have hef:f=e:=by
       rw [← Ex.eta f,← Ex.eta e,← f1,← f2,← f3,hde]
      subst hef
      have:¬ encE f=l.take (ixB l 63+1):=fun hh=>hn ⟨f,hv,hh⟩
      rw [decide_eq_false this,Bool.not_false,Bool.or_true]
     ·rw [decide_eq_true hz,Bool.true_or,Bool.true_or]
    rw [hc,br_t]
    rfl
theorem dcdF_e (l:Tx):∃ e:Ex,(dcdF l).1=e.op/\(dcdF l).2.1=e.num/\(dcdF l).2.2.1=e.kids/\sizeE e<=256/\((dcdF l).2.2.2.2=0->validE e=0/\encE e=l.take (ixB l 63+1)/\((dcdF l).2.2.2.1=((encE e).length:Int))/\(encE e).length<=l.length):=by
 have hx:=ix_lt (c:=63) (l:=l)
 rcases dcdF_cases l with ⟨_,e⟩ | ⟨e,hv,he,h,ee⟩ | ⟨_,_,e⟩
 ·exact ⟨Ex.mk 0 0 [],by rw [e];exact ⟨rfl,rfl,rfl,by decide,fun h=>by cases h⟩⟩
 ·have hlen:((ixB l 63+1:Nat):Int)=((encE e).length:Int)/\(encE e).length<=l.length:=by
   have hi:=ix_i (Int.not_lt.1 h)
   rw [he,List.length_take]
   omega
  refine ⟨e,?_⟩
  rw [ee]
  exact ⟨rfl,rfl,rfl,size_v hv,fun _=>⟨hv,he,hlen.1,hlen.2⟩⟩
 ·exact ⟨Ex.mk 0 0 [],by rw [e];exact ⟨rfl,rfl,rfl,by decide,fun h=>by cases h⟩⟩
end Go.Proofs
/- Cells with one changed: what comes of it is not longer than one more. -/
namespace Go.Proofs
open Go Go.Ax Go.Ax.Alg
theorem slcOk_f {n:Nat} {a:Int} (h:0<=a) (h2:a<=n):slcOk n (some a) none=true:=by unfold slcOk;exact decide_eq_true ⟨h,h2⟩
end Go.Proofs
