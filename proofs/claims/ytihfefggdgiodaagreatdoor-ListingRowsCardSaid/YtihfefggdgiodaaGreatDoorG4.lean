/- ListingRows in plain words. Conditions are in the theorems. -/
import Derived.Test.YtihfefggdgiodaaGreatDoorF7
import Derived.Test.YtihfefggdgiodaaGreatDoorG1
/- ListingLines, in plain words. -/
namespace Go.Proofs
open Go Go.Ax Go.Ax.Alg
theorem w9_get (N:Nat) (hN:20<=N) {l:List Int} (hl:Okl l):∃ a,w9p N l=true/\w9y0 N l=a/\MadeOk a:=by
 obtain ⟨a,ha,hm⟩:=w9_ok N hN hl;exact ⟨a,by unfold w9p;rw [ha];rfl,by unfold w9y0;rw [ha];rfl,hm⟩
theorem rows_w {w:Nat} (hw:4<=w):∀ (n:Nat) {l:List (List UInt8)},Cds l->l.length<=n->∀ r ∈ rowsZ w l,r.length<=w
 | n,l,hl,hn,r,hr=>by
   rw [rows_step hw hl] at hr;split at hr
   ·rename_i hf
    rw [List.mem_singleton.1 hr];exact hf
   ·rename_i hf
    have hne:l≠[]:=fun e=>by subst e;simp at hf
    have h1:=fill_less hl hne (m:=w - 1) (by omega);obtain ⟨h2,_⟩:=fill_spec (w - 1) l [] (by simp);rcases List.mem_cons.1 hr with rfl | hr
    ·rw [List.length_append,List.length_singleton];omega
    ·match n,hn with
     | n+1,hn=>exact rows_w hw n (fill_cds (m:=w - 1) (row:=[]) hl (by simp)).1 (by omega) r hr
     | 0,hn=>omega
end Go.Proofs
/- ListingRows, in plain words. -/
namespace Go.Proofs
open Go Go.Ax Go.Ax.Alg
theorem enc_small (l:List (List UInt8)) (w:Int):(encZ l w).1.length<=6592/\∀ r ∈ (encZ l w).1,r.length<=40:=by
 unfold encZ;split
 ·rename_i h
  obtain ⟨h1,h2,_,h4,h5⟩:=fits_ok h;have:=out_le (w:=w.toNat) (by omega) l h2 l.length;rw [List.take_length] at this;refine ⟨by show (l.flatMap (divZ w.toNat)).length<=_;omega,fun r hr=>?_⟩;obtain ⟨s,_,h⟩:=List.mem_flatMap.1 hr;have:=rows_w (w:=w.toNat) (by omega) _ (line_cds s) (Nat.le_refl _) r h;omega
 ·exact ⟨by simp,fun r hr=>by cases hr⟩
theorem lns_small (l:List (List UInt8)) (w:Int):(lnsZ l w).1.length<=6592:=by
 unfold lnsZ;split
 ·rename_i h
  obtain ⟨h1,h2,_,h4,h5⟩:=fits_ok h;have:=out_le1 (w:=w.toNat) (by omega) l h2 l.length;rw [List.take_length] at this;show (l.flatMap _).length<=_;omega
 ·simp
def Lst (N:Nat) (l:List (List UInt8)):Prop:=l.length < N/\l.length<=1000000/\∀ s ∈ l,s.length<=1000000/\s.length < N
theorem w4_loop0 {N:Nat} (hN:60000<=N) (k0:Bool->O) (k1:Int->Bool->Int->List (List (List UInt8))->List Int->O) (k2:Unit->O) (m:Int) (b:Bool) (i:Nat) (ls:List (List (List UInt8))) (ws:List Int) (hw:ws.length=3) (l:List (List UInt8)) (hl:ls[i]?=some l) (hok:Lst N l):∀ (n k:Nat),3 - k < n->k<=3->
    w4l0 N n (m,b,(i:Int),(k:Int),ls,ws) k0 (fun y=>k1 y.1 y.2.1 y.2.2.1 y.2.2.2.1 y.2.2.2.2) k2=k1 m b i ls ws
 | 0,k,h,_=>by omega
 | n+1,k,h,hk=>by
   show w4F0 N _ _ _ m b (i:Int) ls ws (k:Int)=_;unfold w4F0;by_cases hlt:k < 3
   ·have g:=List.getElem?_eq_getElem (l:=ws) (i:=k) (by omega)
    generalize ws[k]=w at g;obtain ⟨o1,o2,o3⟩:=hok;obtain ⟨e1,e2⟩:=enc_small l w;have e3:=lns_small l w;have e2':∀ x ∈ (encZ l w).1,x.length < N/\x.length<=1000000:=fun x hx=>by have:=e2 x hx;omega
    rw [decide_eq_true (show (k:Int) < 3 by omega),br_t,gx_at hl,gx_at g,ck_of (w19_P (by omega) o1 o2 o3),gx_at hl,gx_at g,ck_of (w20_P (by omega) o1 o2 o3),gx_at hl,gx_at g,ck_of (w21_P (by omega) o1 o2 o3),gx_at hl,gx_at g,ck_of (w22_P (by omega) o1 o2 o3),
     w19_Y0 (by omega) o1 o2 o3,w19_Y1 (by omega) o1 o2 o3,w20_Y0 (by omega) o1 o2 o3,w20_Y1 (by omega) o1 o2 o3,w21_Y0 (by omega) o1 o2 o3,w21_Y1 (by omega) o1 o2 o3,w22_Y0 (by omega) o1 o2 o3,w22_Y1 (by omega) o1 o2 o3,
     w23_P (by omega) (by omega) e2',w23_Y (by omega) (by omega) e2',w24_P (by omega) (by omega),w24_Y (by omega) (by omega),decide_eq_false (fun h=>h rfl),decide_eq_false (fun h=>h rfl),decide_eq_true rfl,decide_eq_true rfl,ck_of (by rfl),ck_of (by rfl)]
    show br false _ _=_;rw [br_f,wr (by omega) (by omega)];exact w4_loop0 hN k0 k1 k2 m b i ls ws hw l hl ⟨o1,o2,o3⟩ n (k+1) (by omega) (by omega)
   ·rw [decide_eq_false (show ¬ (k:Int) < 3 by omega),br_f]
theorem w4_loop1 {N:Nat} (hN:60000<=N) (k0:Bool->O) (k1 k2:Unit->O) (m:Int) (b:Bool) (ls:List (List (List UInt8))) (hls:ls.length<=1000) (ws:List Int) (hw:ws.length=3) (hok:∀ l ∈ ls,Lst N l):∀ (n i:Nat),ls.length - i < n->i<=ls.length->
    w4l1 N n (m,b,(i:Int),ls,ws) k0 k1 k2=k1 ()
 | 0,i,h,_=>by omega
 | n+1,i,h,hi=>by
   show w4F1 N (w4n0 N) _ _ _ m b (i:Int) ls ws=_;unfold w4F1 w4n0;by_cases hlt:i < ls.length
   ·have g:=List.getElem?_eq_getElem hlt
    rw [decide_eq_true (show (i:Int) < (ls.length:Int) by omega),br_t];refine (w4_loop0 hN (fun z=>k0 z) (fun z89 z90 z91 z92 z93=>w4l1 N n (z89,z90,IntKind.i64.wrap (z91+1),z92,z93) k0 k1 k2) (fun _=>none) m b i ls ws hw _ g (hok _ (List.getElem_mem hlt)) N 0 (by omega) (by omega)).trans ?_;rw [wr (by omega) (by omega)];exact w4_loop1 hN k0 k1 k2 m b ls hls ws hw hok n (i+1) (by omega) (by omega)
   ·rw [decide_eq_false (show ¬ (i:Int) < (ls.length:Int) by omega),br_f]
theorem v18_get {N:Nat} (hN:60000<=N) {l:List Int} (hl:Okl l) (raw:List UInt8):∃ a,MadeOk a/\v18p N l raw=true/\v18y0 N l raw=[a,a++[raw.take 90]]/\w18p N l raw=true/\w18y0 N l raw=[a,a++[raw.take 90]]:=by
 obtain ⟨a,ap,ay,am⟩:=w9_get N (by omega) hl;have ha:=am.1;have p44:w44p N raw 90=true:=w44_P N (m:=90);have y44:w44y0 N raw 90=raw.take 90:=w44_Y N (m:=90);have e:v18z N l raw=some [a,a++[raw.take 90]]:=by
  unfold v18z v18 v18G;rw [ck_of ap,ay,List.nil_append,ck_of (lim_of (by omega) (by omega)),ck_of p44,y44,ck_of (lim_of (by simp;omega) (by simp;omega))];rfl
 have e':w18z N l raw=some [a,a++[raw.take 90]]:=by
  unfold w18z w18 w18G;rw [ck_of ap,ay,List.nil_append,ck_of (lim_of (by omega) (by omega)),ck_of p44,y44,ck_of (lim_of (by simp;omega) (by simp;omega))];rfl
 exact ⟨a,am,by unfold v18p;rw [e];rfl,by unfold v18y0;rw [e];rfl,by unfold w18p;rw [e'];rfl,by unfold w18y0;rw [e'];rfl⟩
theorem law4 {N:Nat} (hN:60000<=N) {l:List Int} {raw:List UInt8} {x y:Int} (hl:Okl l) (hx:I64 x) (hy:I64 y):w4z N l raw x y=some true:=by
 obtain ⟨a,am,vp,vy,_⟩:=v18_get hN hl raw;have ha:=am.1;have hr:=around_lt (n:=y) (m:=8) (by omega);obtain ⟨k,hk⟩:∃ k:Nat,60+aroundZ y 8=k:=⟨(60+aroundZ y 8).toNat,by omega⟩
 have har:=around_lt (n:=x) (m:=37) (by omega);unfold w4z w4 w4G w4n1;rw [ck_of vp,vy,ck_of (w14_P N hy),w14_Y N hy,wr (x:=60+aroundZ y 8) (by omega) (by omega),hk,ck_of (decide_eq_true (by omega)),Int.toNat_natCast,ck_of (lim_of (by omega) (by omega)),ck_of (lim_of (by simp) (by simp)),ck_of (w14_P N hx),ck_of (w14_P N hx),w14_Y N hx];have h0:=w4_loop1 hN (fun z94=>some (w4r0 z94)) (fun _=>ck true <| some (w4r0 true)) (fun _=>none) y false ([a,a++[raw.take 90]]++[List.replicate k []]) (by simp) [IntKind.i64.wrap (4+aroundZ x 37),w14y0 N x 46,x] rfl (fun l hl=>by
  have made:∀ s ∈ a,s.length<=1000000/\s.length < N:=fun s hs=>by have:=(am.2 s hs).1;omega
  simp only [List.cons_append,List.nil_append,List.mem_cons,List.not_mem_nil,or_false] at hl;rcases hl with rfl | rfl | rfl
  ·exact ⟨by omega,by omega,made⟩
  ·refine ⟨by simp;omega,by simp;omega,fun s hs=>?_⟩
   rcases List.mem_append.1 hs with h | h
   ·exact made s h
   ·rw [List.mem_singleton.1 h,List.length_take];omega
  ·refine ⟨by simp;omega,by simp;omega,fun s hs=>?_⟩
   rw [List.eq_of_mem_replicate hs];exact ⟨by simp,by simp;omega⟩) N 0 (by simp;omega) (Nat.zero_le _)
 exact congrArg (fun z:O=>z.bind w4un) h0
end Go.Proofs
