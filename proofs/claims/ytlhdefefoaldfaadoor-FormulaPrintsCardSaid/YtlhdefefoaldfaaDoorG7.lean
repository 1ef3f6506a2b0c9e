/- The law in plain words. Conditions are in the theorems. -/
import Derived.Test.YtlhdefefoaldfaaDoorG6
import Derived.Test.YtlhdefefoaldfaaDoorG2
import Derived.Test.YtlhdefefoaldfaaDoorF6
import Derived.Test.YtlhdefefoaldfaaDoorG1
import Derived.Test.YtlhdefefoaldfaaDoorE7
/- The law on printing. -/
namespace Go.Proofs
open Go Go.Ax Go.Ax.Alg
theorem gc_no {α:Type} {z:α} {l:List α} {n:Int} {k:α→O}:gc false z l n k=k z:=rfl
theorem w3_round {N:Nat} (hN:70000≤N) {L:List Ex} (hL:L.length=2) (hs:∀ e ∈ L,sizeE e≤1000) {K0:Bool→O} {K1 k2:Unit→O}:∀ (r i m:Nat),i+r=2→r < m→
    w3l0 N m ((i:Int),L) K0 K1 k2=K1 ()
 | _,_,0,_,h=>by omega
 | 0,i,m+1,h,_=>by
   show w3F0 _ _ _ _ _ _=_
   unfold w3F0
   simp only []
   rw [decide_eq_false (by omega),br_f]
 | r+1,i,m+1,h,hm=>by
   have hi:i < L.length:=by omega
   have hg:L[i]?=some L[i]:=List.getElem?_eq_getElem hi
   have hsz:=hs _ (List.getElem_mem hi)
   have ih:=w3_round hN hL hs (K0:=K0) (K1:=K1) (k2:=k2) r (i+1) m (by omega) (by omega)
   generalize L[i]=e at hg hsz
   obtain ⟨d,hd,_,f,f1,f2,f3,f4⟩:=own_any hN (textE e)
   show w3F0 _ _ _ _ _ _=_
   unfold w3F0
   simp only []
   rw [decide_eq_true (by omega),br_t,gx_at hg,ck_of (w14_p (by omega) (by omega)),gx_at hg,ck_of (w15_p (by omega) (by omega) (by omega)),w14_y0 (by omega) (by omega),w15_y0 (by omega) (by omega) (by omega),decide_eq_false (by simp),br_f,ck_of (w16_p hd),gx_at hg,ck_of (w17_p (by omega) (by omega)),w17_y0 (by omega) (by omega)]
   by_cases hv:validE e=0
   ·have hd':=text_read hN hsz hv
    rw [w16_y0 hd',w16_y1 hd',w16_y2 hd',w16_y3 hd',w16_y4 hd',decide_eq_true hv]
    simp only []
    rw [show (true&&!(decide ((0:Int)≠0)||decide ((0:Int)≠0)))=true from rfl,gc_t,gx_at hg,ck_of (show (!true||w18p N e.op e.num e.kids e.op e.num e.kids)=true by rw [w18_p (by omega) (by omega) (by omega)];rfl),w18_y0 (by omega) (by omega) (by omega),sameE_refl,
     show (true&&(decide ((0:Int)≠0)||decide ((0:Int)≠0)||!true))=false from rfl,br_f,wr (x:=(i:Int)+1) (by omega) (by omega),show (i:Int)+1=((i+1:Nat):Int) by omega]
    exact ih
   ·rw [decide_eq_false hv,Bool.false_and,gc_no,Bool.not_false,Bool.true_or,ck_t,Bool.false_and,br_f,wr (x:=(i:Int)+1) (by omega) (by omega),show (i:Int)+1=((i+1:Nat):Int) by omega]
    exact ih
theorem law3 {N:Nat} (hN:70000≤N) {l:List Int} {depth at1 how by5:Int} (hl:∀ x ∈ l,J64 x) (hlen:l.length < 2 ^ 60) (ha:J64 at1) (hh:J64 how) (hb:J64 by5):w3z N l depth at1 how by5=some true:=by
 obtain ⟨e,p1,q1,q2,q3,ok,hs,hd,_⟩:=w12_py (N:=N) (by omega) hl hlen depth
 obtain ⟨f,p2,r1,r2,r3,hf⟩:=w13_py (N:=N) (e:=e) ha hh hb (by omega) (by omega)
 unfold w3z w3 w3G
 simp only [q1,q2,q3,r1,r2,r3,p1,p2,ck_t,Ex.eta]
 unfold w3n0
 have:=w3_round hN (L:=[e,f]) rfl (fun k hk=>by
     simp only [List.mem_cons,List.not_mem_nil,or_false] at hk
     rcases hk with rfl | rfl <;> omega) (K0:=fun y=>(fun z13=>some (w3r0 z13)) y) (K1:=fun _=>some (w3r0 true)) (k2:=fun _=>none) 2 0 N rfl (by omega)
 refine (congrArg (fun z:O=>z.bind w3un) this).trans ?_
 rfl
end Go.Proofs
/- Numbers that came in. -/
namespace Go.Proofs
open Go Go.Ax
theorem j64_w {z:Int} (h:OkV (.i .i64) z):J64 z:=by
 have h:(Lit.int .i64 z).wf=true:=h
 simp [Lit.wf] at h
 have h1:IntKind.i64.min = -9223372036854775808:=by decide
 rw [h1] at h
 unfold J64
 omega
theorem jl_w {l:List Int} (h:OkV (.sl (.i .i64)) l):∀ x ∈ l,J64 x:=fun x hx=>j64_w (h x hx)
theorem len_s {l:List Int} (h:SzV (.sl (.i .i64)) l):l.length < 2 ^ 60:=by
 have h1:=h.1
 have h2:l.length * 8≤reachBytes:=h1
 have h3:reachBytes=0x7ffffffff000:=rfl
 omega
end Go.Proofs
