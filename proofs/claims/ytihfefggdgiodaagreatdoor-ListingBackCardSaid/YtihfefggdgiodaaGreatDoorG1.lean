/- What the functions reckon, in plain words. Conditions are in the theorems. -/
import Derived.Test.YtihfefggdgiodaaGreatDoorF3
import Derived.Test.YtihfefggdgiodaaGreatDoorG0
import Derived.Test.YtihfefggdgiodaaGreatDoorF1
import Derived.KernelRfl
import Derived.Test.YtihfefggdgiodaaGreatDoorF5
import Derived.Lib.ItoaMem
import Derived.Lib.ItoaLen
/- Small laws of chapter 17. -/
namespace Go.Proofs
open Go Go.Ax Go.Ax.Alg
theorem lim_of {n b:Nat} (h:n * b<=140737488355328) (h2:n<=140737488355327):lim n b=true:=decide_eq_true ⟨h,h2⟩
theorem w12_loop (N:Nat) (k0:Bool->O) (k1 k2:Unit->O) (a b:List (UInt8)) (hab:a.length=b.length) (ha:a.length<=1000000):∀ (n i:Nat),a.length - i < n->i<=a.length->w12l0 N n (a,b,(i:Int)) k0 k1 k2=if a.drop i=b.drop i then k1 () else k0 false
 | 0,i,h,_=>by omega
 | n+1,i,h,hi=>by
   show w12F0 N _ _ _ a b (i:Int)=_;unfold w12F0;by_cases hlt:i < a.length
   ·have ga:=List.getElem?_eq_getElem hlt
    have gb:=List.getElem?_eq_getElem (l:=b) (i:=i) (by omega);rw [decide_eq_true (show (i:Int) < (a.length:Int) by omega),br_t,gx_at ga,gx_at gb,drop_at ga,drop_at gb];by_cases he:a[i]=b[i]
    ·rw [decide_eq_false (show ¬ (a[i]≠b[i]) from fun h=>h he),br_f,wr (by omega) (by omega)]
     refine (w12_loop N k0 k1 k2 a b hab ha n (i+1) (by omega) (by omega)).trans ?_;by_cases hd:a.drop (i+1)=b.drop (i+1)
     ·rw [if_pos hd,if_pos (by rw [he,hd])]
     ·rw [if_neg hd,if_neg (fun h=>hd (List.cons.inj h).2)]
    ·rw [decide_eq_true he,br_t,if_neg (fun h=>he (List.cons.inj h).1)]
   ·rw [decide_eq_false (show ¬ (i:Int) < (a.length:Int) by omega),br_f,List.drop_eq_nil_of_le (by omega),List.drop_eq_nil_of_le (by omega),if_pos rfl]
theorem w12_eq {N:Nat} {a b:List (UInt8)} (hN:a.length < N) (ha:a.length<=1000000):w12z N a b=some (decide (a=b)):=by
 unfold w12z w12 w12G w12n0;by_cases hab:a.length=b.length
 ·rw [decide_eq_false (show ¬ ((a.length:Int)≠(b.length:Int)) by omega),br_f]
  have:=w12_loop N (fun z=>some (w12r0 z)) (fun _=>some (w12r0 true)) (fun _=>none) a b hab ha N 0 (by omega) (Nat.zero_le _);refine (congrArg (fun z:O=>z.bind w12un) this).trans ?_;rw [List.drop_zero,List.drop_zero];by_cases h:a=b
  ·rw [if_pos h,decide_eq_true h];rfl
  ·rw [if_neg h,decide_eq_false h];rfl
 ·rw [decide_eq_true (show (a.length:Int)≠(b.length:Int) by omega),br_t,decide_eq_false (fun h=>hab (by rw [h]))]
  rfl
theorem w12_P {N:Nat} {a b:List (UInt8)} (hN:a.length < N) (ha:a.length<=1000000):w12p N a b=true:=by unfold w12p;rw [w12_eq hN ha];rfl
theorem w12_Y {N:Nat} {a b:List (UInt8)} (hN:a.length < N) (ha:a.length<=1000000):w12y0 N a b=decide (a=b):=by unfold w12y0;rw [w12_eq hN ha];rfl
theorem w24_loop (N:Nat) (k0:Bool->O) (k1 k2:Unit->O) (a b:List (Int)) (hab:a.length=b.length) (ha:a.length<=1000000):∀ (n i:Nat),a.length - i < n->i<=a.length->w24l0 N n (a,b,(i:Int)) k0 k1 k2=if a.drop i=b.drop i then k1 () else k0 false
 | 0,i,h,_=>by omega
 | n+1,i,h,hi=>by
   show w24F0 N _ _ _ a b (i:Int)=_;unfold w24F0;by_cases hlt:i < a.length
   ·have ga:=List.getElem?_eq_getElem hlt
    have gb:=List.getElem?_eq_getElem (l:=b) (i:=i) (by omega);rw [decide_eq_true (show (i:Int) < (a.length:Int) by omega),br_t,gx_at ga,gx_at gb,drop_at ga,drop_at gb];by_cases he:a[i]=b[i]
    ·rw [decide_eq_false (show ¬ (a[i]≠b[i]) from fun h=>h he),br_f,wr (by omega) (by omega)]
     refine (w24_loop N k0 k1 k2 a b hab ha n (i+1) (by omega) (by omega)).trans ?_;by_cases hd:a.drop (i+1)=b.drop (i+1)
     ·rw [if_pos hd,if_pos (by rw [he,hd])]
     ·rw [if_neg hd,if_neg (fun h=>hd (List.cons.inj h).2)]
    ·rw [decide_eq_true he,br_t,if_neg (fun h=>he (List.cons.inj h).1)]
   ·rw [decide_eq_false (show ¬ (i:Int) < (a.length:Int) by omega),br_f,List.drop_eq_nil_of_le (by omega),List.drop_eq_nil_of_le (by omega),if_pos rfl]
theorem w24_eq {N:Nat} {a b:List (Int)} (hN:a.length < N) (ha:a.length<=1000000):w24z N a b=some (decide (a=b)):=by
 unfold w24z w24 w24G w24n0;by_cases hab:a.length=b.length
 ·rw [decide_eq_false (show ¬ ((a.length:Int)≠(b.length:Int)) by omega),br_f]
  have:=w24_loop N (fun z=>some (w24r0 z)) (fun _=>some (w24r0 true)) (fun _=>none) a b hab ha N 0 (by omega) (Nat.zero_le _);refine (congrArg (fun z:O=>z.bind w24un) this).trans ?_;rw [List.drop_zero,List.drop_zero];by_cases h:a=b
  ·rw [if_pos h,decide_eq_true h];rfl
  ·rw [if_neg h,decide_eq_false h];rfl
 ·rw [decide_eq_true (show (a.length:Int)≠(b.length:Int) by omega),br_t,decide_eq_false (fun h=>hab (by rw [h]))]
  rfl
theorem w24_P {N:Nat} {a b:List (Int)} (hN:a.length < N) (ha:a.length<=1000000):w24p N a b=true:=by unfold w24p;rw [w24_eq hN ha];rfl
theorem w24_Y {N:Nat} {a b:List (Int)} (hN:a.length < N) (ha:a.length<=1000000):w24y0 N a b=decide (a=b):=by unfold w24y0;rw [w24_eq hN ha];rfl
theorem w28_loop (N:Nat) (k0:Bool->O) (k1 k2:Unit->O) (a b:List (List UInt8)) (hab:a.length=b.length) (ha:a.length<=1000000):∀ (n i:Nat),a.length - i < n->i<=a.length->w28l0 N n (a,b,(i:Int)) k0 k1 k2=if a.drop i=b.drop i then k1 () else k0 false
 | 0,i,h,_=>by omega
 | n+1,i,h,hi=>by
   show w28F0 N _ _ _ a b (i:Int)=_;unfold w28F0;by_cases hlt:i < a.length
   ·have ga:=List.getElem?_eq_getElem hlt
    have gb:=List.getElem?_eq_getElem (l:=b) (i:=i) (by omega);rw [decide_eq_true (show (i:Int) < (a.length:Int) by omega),br_t,gx_at ga,gx_at gb,drop_at ga,drop_at gb];by_cases he:a[i]=b[i]
    ·rw [decide_eq_false (show ¬ (a[i]≠b[i]) from fun h=>h he),br_f,wr (by omega) (by omega)]
     refine (w28_loop N k0 k1 k2 a b hab ha n (i+1) (by omega) (by omega)).trans ?_;by_cases hd:a.drop (i+1)=b.drop (i+1)
     ·rw [if_pos hd,if_pos (by rw [he,hd])]
     ·rw [if_neg hd,if_neg (fun h=>hd (List.cons.inj h).2)]
    ·rw [decide_eq_true he,br_t,if_neg (fun h=>he (List.cons.inj h).1)]
   ·rw [decide_eq_false (show ¬ (i:Int) < (a.length:Int) by omega),br_f,List.drop_eq_nil_of_le (by omega),List.drop_eq_nil_of_le (by omega),if_pos rfl]
theorem w28_eq {N:Nat} {a b:List (List UInt8)} (hN:a.length < N) (ha:a.length<=1000000):w28z N a b=some (decide (a=b)):=by
 unfold w28z w28 w28G w28n0;by_cases hab:a.length=b.length
 ·rw [decide_eq_false (show ¬ ((a.length:Int)≠(b.length:Int)) by omega),br_f]
  have:=w28_loop N (fun z=>some (w28r0 z)) (fun _=>some (w28r0 true)) (fun _=>none) a b hab ha N 0 (by omega) (Nat.zero_le _);refine (congrArg (fun z:O=>z.bind w28un) this).trans ?_;rw [List.drop_zero,List.drop_zero];by_cases h:a=b
  ·rw [if_pos h,decide_eq_true h];rfl
  ·rw [if_neg h,decide_eq_false h];rfl
 ·rw [decide_eq_true (show (a.length:Int)≠(b.length:Int) by omega),br_t,decide_eq_false (fun h=>hab (by rw [h]))]
  rfl
theorem w28_P {N:Nat} {a b:List (List UInt8)} (hN:a.length < N) (ha:a.length<=1000000):w28p N a b=true:=by unfold w28p;rw [w28_eq hN ha];rfl
theorem w28_Y {N:Nat} {a b:List (List UInt8)} (hN:a.length < N) (ha:a.length<=1000000):w28y0 N a b=decide (a=b):=by unfold w28y0;rw [w28_eq hN ha];rfl
def aroundZ (n m:Int):Int:=if m < 1 then 0 else if n < 0 then (-(n+1)).tmod m else n.tmod m
theorem around_lt {n m:Int} (hm:1<=m):0<=aroundZ n m/\aroundZ n m < m:=by
 unfold aroundZ;rw [if_neg (by omega)];split
 ·exact ⟨Int.tmod_nonneg _ (by omega),Int.tmod_lt_of_pos _ (by omega)⟩
 ·exact ⟨Int.tmod_nonneg _ (by omega),Int.tmod_lt_of_pos _ (by omega)⟩
theorem w14_eq (N:Nat) {n m:Int} (hn:I64 n):w14z N n m=some (aroundZ n m):=by
 unfold w14z w14 w14G aroundZ;have ur:∀ x:Int,(some (w14r0 x):O).bind w14un=some x:=fun _=>rfl
 by_cases h0:n < 0
 ·rw [decide_eq_true h0,br_t]
  by_cases hm:m < 1
  ·rw [decide_eq_true hm,br_t,if_pos hm];rfl
  ·rw [decide_eq_false hm,br_f,ck_of (decide_eq_true (show m≠0 by omega)),if_neg hm,if_pos h0,ur,wr (x:=n+1) (by have:=hn.1;omega) (by omega),wr (by have:=hn.1;omega) (by have:=hn.1;omega)]
 ·rw [decide_eq_false h0,br_f]
  by_cases hm:m < 1
  ·rw [decide_eq_true hm,br_t,if_pos hm];rfl
  ·rw [decide_eq_false hm,br_f,ck_of (decide_eq_true (show m≠0 by omega)),if_neg hm,if_neg h0,ur]
theorem w14_P (N:Nat) {n m:Int} (hn:I64 n):w14p N n m=true:=by unfold w14p;rw [w14_eq N hn];rfl
theorem w14_Y (N:Nat) {n m:Int} (hn:I64 n):w14y0 N n m=aroundZ n m:=by unfold w14y0;rw [w14_eq N hn];rfl
def Okl (l:List Int):Prop:=∀ x ∈ l,I64 x
def atZ (l:List Int) (i m:Int):Int:=if i < 0 then 0 else match l[i.toNat]? with
 | some x=>aroundZ x m
 | none=>0
theorem at_lt {l:List Int} {i m:Int} (hm:1<=m):0<=atZ l i m/\atZ l i m < m:=by
 unfold atZ;split
 ·omega
 ·split
  ·exact around_lt hm
  ·omega
theorem w32_eq (N:Nat) {l:List Int} (hl:Okl l) (i m:Int):w32z N l i m=some (atZ l i m):=by
 unfold w32z w32 w32G atZ;have ur:∀ x:Int,(some (w32r0 x):O).bind w32un=some x:=fun _=>rfl
 by_cases h0:i < 0
 ·rw [decide_eq_true h0,Bool.true_or,br_t,if_pos h0];rfl
 ·rw [decide_eq_false h0,Bool.false_or,if_neg h0]
  by_cases h1:(l.length:Int)<=i
  ·rw [decide_eq_true h1,br_t,List.getElem?_eq_none (by omega)];rfl
  ·have g:l[i.toNat]?=some l[i.toNat]:=List.getElem?_eq_getElem (by omega)
   have hx:=hl _ (List.getElem_mem (l:=l) (n:=i.toNat) (by omega));rw [decide_eq_false h1,br_f,gx_of (by omega) g,ck_of (w14_P N hx),w14_Y N hx,g,ur]
theorem w32_P (N:Nat) {l:List Int} (hl:Okl l) (i m:Int):w32p N l i m=true:=by unfold w32p;rw [w32_eq N hl];rfl
theorem w32_Y (N:Nat) {l:List Int} (hl:Okl l) (i m:Int):w32y0 N l i m=atZ l i m:=by unfold w32y0;rw [w32_eq N hl];rfl
theorem w44_eq (N:Nat) {s:List UInt8} {m:Nat}:w44z N s (m:Int)=some (s.take m):=by
 unfold w44z w44 w44G;by_cases h:(m:Int) < (s.length:Int)
 ·rw [decide_eq_true h,br_t,ck_of (show slcOk s.length none (some (m:Int))=true from decide_eq_true ⟨by omega,by omega⟩)]
  rfl
 ·rw [decide_eq_false h,br_f,List.take_of_length_le (by omega)]
  rfl
theorem w44_P (N:Nat) {s:List UInt8} {m:Nat}:w44p N s (m:Int)=true:=by unfold w44p;rw [w44_eq N];rfl
theorem w44_Y (N:Nat) {s:List UInt8} {m:Nat}:w44y0 N s (m:Int)=s.take m:=by unfold w44y0;rw [w44_eq N];rfl
theorem u8_all {p:UInt8->Bool} (h:(List.range 256).all (fun n=>p (UInt8.ofNat n))=true) (c:UInt8):p c=true:=by
 have:=List.all_eq_true.1 h c.toNat (List.mem_range.2 c.toNat_lt);simpa using this
theorem codesZ_le (s:List UInt8):(codesZ s).length=s.length:=by unfold codesZ;simp
end Go.Proofs
/- Texts, flat codes, Code, and what fits. -/
namespace Go.Proofs
open Go Go.Ax Go.Ax.Alg
def badZ (c:UInt8):Bool:=decide (c < 32)||decide (126 < c)
def textZ (s:List UInt8):Bool:=!s.any badZ
theorem w72_loop (N:Nat) (k0:Int->O) (k1 k2:Unit->O) (s:List (UInt8)) (b:(UInt8)->Bool) (hb:∀ x ∈ s,w55p N x=true/\w55y0 N x=b x) (hs:s.length<=1000000):∀ (n i:Nat),s.length - i < n->i<=s.length->
    (∃ j:Nat,w72l0 N n (s,(s.length:Int),(i:Int)) k0 k1 k2=k0 j/\(s.drop i).any b=true)\/(w72l0 N n (s,(s.length:Int),(i:Int)) k0 k1 k2=k1 ()/\(s.drop i).any b=false)
 | 0,i,h,_=>by omega
 | n+1,i,h,hi=>by
   have e:w72l0 N (n+1) (s,(s.length:Int),(i:Int)) k0 k1 k2=w72F0 N (fun v0=>w72l0 N n (s,(s.length:Int),v0) k0 k1 k2) (fun y0=>k0 y0) (fun (_:Unit)=>k1 ()) s (s.length:Int) (i:Int):=rfl;rw [e];unfold w72F0;by_cases hlt:i < s.length
   ·have g:=List.getElem?_eq_getElem hlt
    obtain ⟨h1,h2⟩:=hb _ (List.getElem_mem hlt);rw [decide_eq_true (show (i:Int) < (s.length:Int) by omega),br_t,gx_at g,ck_of h1,h2,drop_at g,List.any_cons];cases hc:b s[i] with
    | true=>exact .inl ⟨i,br_t _ _,Bool.true_or _⟩
    | false=>
      rw [br_f,wr (by omega) (by omega),Bool.false_or];exact w72_loop N k0 k1 k2 s b hb hs n (i+1) (by omega) (by omega)
   ·rw [decide_eq_false (show ¬ (i:Int) < (s.length:Int) by omega),br_f,List.drop_eq_nil_of_le (by omega)]
    exact .inr ⟨rfl,rfl⟩
theorem w72_eq {N:Nat} {s:List (UInt8)} {b:(UInt8)->Bool} (hb:∀ x ∈ s,w55p N x=true/\w55y0 N x=b x) (hs:s.length<=1000000) (hN:s.length < N):∃ v:Int,w72z N s=some v/\decide (0<=v)=s.any b:=by
 unfold w72z w72 w72G w72n0;rcases w72_loop N (fun z=>some (w72r0 z)) (fun _=>some (w72r0 (-1))) (fun _=>none) s b hb hs N 0 (by omega) (Nat.zero_le _) with ⟨j,h,ha⟩ | ⟨h,ha⟩
 ·refine ⟨j,congrArg (fun z:O=>z.bind w72un) h,?_⟩
  rw [List.drop_zero] at ha;rw [ha,decide_eq_true (Int.natCast_nonneg j)]
 ·refine ⟨-1,congrArg (fun z:O=>z.bind w72un) h,?_⟩
  rw [List.drop_zero] at ha;rw [ha];rfl
theorem w53_eq {N:Nat} {s:List (UInt8)} {b:(UInt8)->Bool} (hb:∀ x ∈ s,w55p N x=true/\w55y0 N x=b x) (hs:s.length<=1000000) (hN:s.length < N):w53z N s=some (s.any b):=by
 obtain ⟨v,h1,h2⟩:=w72_eq hb hs hN;have hp:w72p N s=true:=by unfold w72p;rw [h1];rfl
 have hy:w72y0 N s=v:=by unfold w72y0;rw [h1];rfl
 unfold w53z w53 w53G;rw [ck_of hp,hy,h2];rfl
theorem w53_P {N:Nat} {s:List (UInt8)} {b:(UInt8)->Bool} (hb:∀ x ∈ s,w55p N x=true/\w55y0 N x=b x) (hs:s.length<=1000000) (hN:s.length < N):w53p N s=true:=by unfold w53p;rw [w53_eq hb hs hN];rfl
theorem w53_Y {N:Nat} {s:List (UInt8)} {b:(UInt8)->Bool} (hb:∀ x ∈ s,w55p N x=true/\w55y0 N x=b x) (hs:s.length<=1000000) (hN:s.length < N):w53y0 N s=s.any b:=by unfold w53y0;rw [w53_eq hb hs hN];rfl
theorem v72_loop (N:Nat) (k0:Int->O) (k1 k2:Unit->O) (s:List (UInt8)) (b:(UInt8)->Bool) (hb:∀ x ∈ s,w54p N x=true/\w54y0 N x=b x) (hs:s.length<=1000000):∀ (n i:Nat),s.length - i < n->i<=s.length->
    (∃ j:Nat,v72l0 N n (s,(s.length:Int),(i:Int)) k0 k1 k2=k0 j/\(s.drop i).any b=true)\/(v72l0 N n (s,(s.length:Int),(i:Int)) k0 k1 k2=k1 ()/\(s.drop i).any b=false)
 | 0,i,h,_=>by omega
 | n+1,i,h,hi=>by
   have e:v72l0 N (n+1) (s,(s.length:Int),(i:Int)) k0 k1 k2=v72F0 N (fun v0=>v72l0 N n (s,(s.length:Int),v0) k0 k1 k2) (fun y0=>k0 y0) (fun (_:Unit)=>k1 ()) s (s.length:Int) (i:Int):=rfl;rw [e];unfold v72F0;by_cases hlt:i < s.length
   ·have g:=List.getElem?_eq_getElem hlt
    obtain ⟨h1,h2⟩:=hb _ (List.getElem_mem hlt);rw [decide_eq_true (show (i:Int) < (s.length:Int) by omega),br_t,gx_at g,ck_of h1,h2,drop_at g,List.any_cons];cases hc:b s[i] with
    | true=>exact .inl ⟨i,br_t _ _,Bool.true_or _⟩
    | false=>
      rw [br_f,wr (by omega) (by omega),Bool.false_or];exact v72_loop N k0 k1 k2 s b hb hs n (i+1) (by omega) (by omega)
   ·rw [decide_eq_false (show ¬ (i:Int) < (s.length:Int) by omega),br_f,List.drop_eq_nil_of_le (by omega)]
    exact .inr ⟨rfl,rfl⟩
theorem v72_eq {N:Nat} {s:List (UInt8)} {b:(UInt8)->Bool} (hb:∀ x ∈ s,w54p N x=true/\w54y0 N x=b x) (hs:s.length<=1000000) (hN:s.length < N):∃ v:Int,v72z N s=some v/\decide (0<=v)=s.any b:=by
 unfold v72z v72 v72G v72n0;rcases v72_loop N (fun z=>some (v72r0 z)) (fun _=>some (v72r0 (-1))) (fun _=>none) s b hb hs N 0 (by omega) (Nat.zero_le _) with ⟨j,h,ha⟩ | ⟨h,ha⟩
 ·refine ⟨j,congrArg (fun z:O=>z.bind v72un) h,?_⟩
  rw [List.drop_zero] at ha;rw [ha,decide_eq_true (Int.natCast_nonneg j)]
 ·refine ⟨-1,congrArg (fun z:O=>z.bind v72un) h,?_⟩
  rw [List.drop_zero] at ha;rw [ha];rfl
theorem v53_eq {N:Nat} {s:List (UInt8)} {b:(UInt8)->Bool} (hb:∀ x ∈ s,w54p N x=true/\w54y0 N x=b x) (hs:s.length<=1000000) (hN:s.length < N):v53z N s=some (s.any b):=by
 obtain ⟨v,h1,h2⟩:=v72_eq hb hs hN;have hp:v72p N s=true:=by unfold v72p;rw [h1];rfl
 have hy:v72y0 N s=v:=by unfold v72y0;rw [h1];rfl
 unfold v53z v53 v53G;rw [ck_of hp,hy,h2];rfl
theorem v53_P {N:Nat} {s:List (UInt8)} {b:(UInt8)->Bool} (hb:∀ x ∈ s,w54p N x=true/\w54y0 N x=b x) (hs:s.length<=1000000) (hN:s.length < N):v53p N s=true:=by unfold v53p;rw [v53_eq hb hs hN];rfl
theorem v53_Y {N:Nat} {s:List (UInt8)} {b:(UInt8)->Bool} (hb:∀ x ∈ s,w54p N x=true/\w54y0 N x=b x) (hs:s.length<=1000000) (hN:s.length < N):v53y0 N s=s.any b:=by unfold v53y0;rw [v53_eq hb hs hN];rfl
theorem w77_loop (N:Nat) (k0:Int->O) (k1 k2:Unit->O) (s:List (List UInt8)) (b:(List UInt8)->Bool) (hb:∀ x ∈ s,w63p N x=true/\w63y0 N x=b x) (hs:s.length<=1000000):∀ (n i:Nat),s.length - i < n->i<=s.length->
    (∃ j:Nat,w77l0 N n (s,(s.length:Int),(i:Int)) k0 k1 k2=k0 j/\(s.drop i).any b=true)\/(w77l0 N n (s,(s.length:Int),(i:Int)) k0 k1 k2=k1 ()/\(s.drop i).any b=false)
 | 0,i,h,_=>by omega
 | n+1,i,h,hi=>by
   have e:w77l0 N (n+1) (s,(s.length:Int),(i:Int)) k0 k1 k2=w77F0 N (fun v0=>w77l0 N n (s,(s.length:Int),v0) k0 k1 k2) (fun y0=>k0 y0) (fun (_:Unit)=>k1 ()) s (s.length:Int) (i:Int):=rfl;rw [e];unfold w77F0;by_cases hlt:i < s.length
   ·have g:=List.getElem?_eq_getElem hlt
    obtain ⟨h1,h2⟩:=hb _ (List.getElem_mem hlt);rw [decide_eq_true (show (i:Int) < (s.length:Int) by omega),br_t,gx_at g,ck_of h1,h2,drop_at g,List.any_cons];cases hc:b s[i] with
    | true=>exact .inl ⟨i,br_t _ _,Bool.true_or _⟩
    | false=>
      rw [br_f,wr (by omega) (by omega),Bool.false_or];exact w77_loop N k0 k1 k2 s b hb hs n (i+1) (by omega) (by omega)
   ·rw [decide_eq_false (show ¬ (i:Int) < (s.length:Int) by omega),br_f,List.drop_eq_nil_of_le (by omega)]
    exact .inr ⟨rfl,rfl⟩
theorem w77_eq {N:Nat} {s:List (List UInt8)} {b:(List UInt8)->Bool} (hb:∀ x ∈ s,w63p N x=true/\w63y0 N x=b x) (hs:s.length<=1000000) (hN:s.length < N):∃ v:Int,w77z N s=some v/\decide (0<=v)=s.any b:=by
 unfold w77z w77 w77G w77n0;rcases w77_loop N (fun z=>some (w77r0 z)) (fun _=>some (w77r0 (-1))) (fun _=>none) s b hb hs N 0 (by omega) (Nat.zero_le _) with ⟨j,h,ha⟩ | ⟨h,ha⟩
 ·refine ⟨j,congrArg (fun z:O=>z.bind w77un) h,?_⟩
  rw [List.drop_zero] at ha;rw [ha,decide_eq_true (Int.natCast_nonneg j)]
 ·refine ⟨-1,congrArg (fun z:O=>z.bind w77un) h,?_⟩
  rw [List.drop_zero] at ha;rw [ha];rfl
theorem w62_eq {N:Nat} {s:List (List UInt8)} {b:(List UInt8)->Bool} (hb:∀ x ∈ s,w63p N x=true/\w63y0 N x=b x) (hs:s.length<=1000000) (hN:s.length < N):w62z N s=some (s.any b):=by
 obtain ⟨v,h1,h2⟩:=w77_eq hb hs hN;have hp:w77p N s=true:=by unfold w77p;rw [h1];rfl
 have hy:w77y0 N s=v:=by unfold w77y0;rw [h1];rfl
 unfold w62z w62 w62G;rw [ck_of hp,hy,h2];rfl
theorem w62_P {N:Nat} {s:List (List UInt8)} {b:(List UInt8)->Bool} (hb:∀ x ∈ s,w63p N x=true/\w63y0 N x=b x) (hs:s.length<=1000000) (hN:s.length < N):w62p N s=true:=by unfold w62p;rw [w62_eq hb hs hN];rfl
theorem w62_Y {N:Nat} {s:List (List UInt8)} {b:(List UInt8)->Bool} (hb:∀ x ∈ s,w63p N x=true/\w63y0 N x=b x) (hs:s.length<=1000000) (hN:s.length < N):w62y0 N s=s.any b:=by unfold w62y0;rw [w62_eq hb hs hN];rfl
theorem v77_loop (N:Nat) (k0:Int->O) (k1 k2:Unit->O) (s:List (List UInt8)) (b:(List UInt8)->Bool) (hb:∀ x ∈ s,w64p N x=true/\w64y0 N x=b x) (hs:s.length<=1000000):∀ (n i:Nat),s.length - i < n->i<=s.length->
    (∃ j:Nat,v77l0 N n (s,(s.length:Int),(i:Int)) k0 k1 k2=k0 j/\(s.drop i).any b=true)\/(v77l0 N n (s,(s.length:Int),(i:Int)) k0 k1 k2=k1 ()/\(s.drop i).any b=false)
 | 0,i,h,_=>by omega
 | n+1,i,h,hi=>by
   have e:v77l0 N (n+1) (s,(s.length:Int),(i:Int)) k0 k1 k2=v77F0 N (fun v0=>v77l0 N n (s,(s.length:Int),v0) k0 k1 k2) (fun y0=>k0 y0) (fun (_:Unit)=>k1 ()) s (s.length:Int) (i:Int):=rfl;rw [e];unfold v77F0;by_cases hlt:i < s.length
   ·have g:=List.getElem?_eq_getElem hlt
    obtain ⟨h1,h2⟩:=hb _ (List.getElem_mem hlt);rw [decide_eq_true (show (i:Int) < (s.length:Int) by omega),br_t,gx_at g,ck_of h1,h2,drop_at g,List.any_cons];cases hc:b s[i] with
    | true=>exact .inl ⟨i,br_t _ _,Bool.true_or _⟩
    | false=>
      rw [br_f,wr (by omega) (by omega),Bool.false_or];exact v77_loop N k0 k1 k2 s b hb hs n (i+1) (by omega) (by omega)
   ·rw [decide_eq_false (show ¬ (i:Int) < (s.length:Int) by omega),br_f,List.drop_eq_nil_of_le (by omega)]
    exact .inr ⟨rfl,rfl⟩
theorem v77_eq {N:Nat} {s:List (List UInt8)} {b:(List UInt8)->Bool} (hb:∀ x ∈ s,w64p N x=true/\w64y0 N x=b x) (hs:s.length<=1000000) (hN:s.length < N):∃ v:Int,v77z N s=some v/\decide (0<=v)=s.any b:=by
 unfold v77z v77 v77G v77n0;rcases v77_loop N (fun z=>some (v77r0 z)) (fun _=>some (v77r0 (-1))) (fun _=>none) s b hb hs N 0 (by omega) (Nat.zero_le _) with ⟨j,h,ha⟩ | ⟨h,ha⟩
 ·refine ⟨j,congrArg (fun z:O=>z.bind v77un) h,?_⟩
  rw [List.drop_zero] at ha;rw [ha,decide_eq_true (Int.natCast_nonneg j)]
 ·refine ⟨-1,congrArg (fun z:O=>z.bind v77un) h,?_⟩
  rw [List.drop_zero] at ha;rw [ha];rfl
theorem v62_eq {N:Nat} {s:List (List UInt8)} {b:(List UInt8)->Bool} (hb:∀ x ∈ s,w64p N x=true/\w64y0 N x=b x) (hs:s.length<=1000000) (hN:s.length < N):v62z N s=some (s.any b):=by
 obtain ⟨v,h1,h2⟩:=v77_eq hb hs hN;have hp:v77p N s=true:=by unfold v77p;rw [h1];rfl
 have hy:v77y0 N s=v:=by unfold v77y0;rw [h1];rfl
 unfold v62z v62 v62G;rw [ck_of hp,hy,h2];rfl
theorem v62_P {N:Nat} {s:List (List UInt8)} {b:(List UInt8)->Bool} (hb:∀ x ∈ s,w64p N x=true/\w64y0 N x=b x) (hs:s.length<=1000000) (hN:s.length < N):v62p N s=true:=by unfold v62p;rw [v62_eq hb hs hN];rfl
theorem v62_Y {N:Nat} {s:List (List UInt8)} {b:(List UInt8)->Bool} (hb:∀ x ∈ s,w64p N x=true/\w64y0 N x=b x) (hs:s.length<=1000000) (hN:s.length < N):v62y0 N s=s.any b:=by unfold v62y0;rw [v62_eq hb hs hN];rfl
theorem w55_ok (N:Nat) (c:UInt8):w55p N c=true/\w55y0 N c=badZ c:=by
 have h:w55z N c=some (badZ c):=rfl;constructor
 ·unfold w55p;rw [h];rfl
 ·unfold w55y0;rw [h];rfl
theorem w54_ok (N:Nat) (c:UInt8):w54p N c=true/\w54y0 N c=decide (64<=c):=by
 have h:w54z N c=some (decide (64<=c)):=rfl;constructor
 ·unfold w54p;rw [h];rfl
 ·unfold w54y0;rw [h];rfl
theorem w63_ok (N:Nat) (s:List UInt8):w63p N s=true/\w63y0 N s=decide (80 < (s.length:Int)):=by
 have h:w63z N s=some (decide (80 < (s.length:Int))):=rfl;constructor
 ·unfold w63p;rw [h];rfl
 ·unfold w63y0;rw [h];rfl
theorem w33_eq {N:Nat} {s:List UInt8} (hN:s.length < N) (hs:s.length<=1000000):w33z N s=some (textZ s):=by
 unfold w33z w33 w33G;rw [ck_of (w53_P (fun x _=>w55_ok N x) hs hN),w53_Y (fun x _=>w55_ok N x) hs hN];rfl
theorem w33_P {N:Nat} {s:List UInt8} (hN:s.length < N) (hs:s.length<=1000000):w33p N s=true:=by unfold w33p;rw [w33_eq hN hs];rfl
theorem w33_Y {N:Nat} {s:List UInt8} (hN:s.length < N) (hs:s.length<=1000000):w33y0 N s=textZ s:=by unfold w33y0;rw [w33_eq hN hs];rfl
theorem w64_ok {N:Nat} {s:List UInt8} (hN:s.length < N) (hs:s.length<=1000000):w64p N s=true/\w64y0 N s=!textZ s:=by
 have h:w64z N s=some (!textZ s):=by
  unfold w64z w64 w64G;rw [ck_of (w33_P hN hs),w33_Y hN hs];rfl
 constructor
 ·unfold w64p;rw [h];rfl
 ·unfold w64y0;rw [h];rfl
theorem w31_eq {N:Nat} {s:List UInt8} (hN:s.length < N) (hs:s.length<=1000000):w31z N s=some (!s.any fun c=>decide (64<=c)):=by
 unfold w31z w31 w31G;rw [ck_of (v53_P (fun x _=>w54_ok N x) hs hN),v53_Y (fun x _=>w54_ok N x) hs hN];rfl
theorem w31_P {N:Nat} {s:List UInt8} (hN:s.length < N) (hs:s.length<=1000000):w31p N s=true:=by unfold w31p;rw [w31_eq hN hs];rfl
theorem w31_Y {N:Nat} {s:List UInt8} (hN:s.length < N) (hs:s.length<=1000000):w31y0 N s=!s.any fun c=>decide (64<=c):=by unfold w31y0;rw [w31_eq hN hs];rfl
theorem flat_take {l:List (List UInt8)} {i:Nat} {y:List UInt8} (h:l[i]?=some y):(l.take i).flatten++y=(l.take (i+1)).flatten:=by
 obtain ⟨hi,rfl⟩:=List.getElem?_eq_some_iff.1 h;rw [List.take_succ_eq_append_getElem hi,List.flatten_append];simp
theorem flat_take_le (l:List (List UInt8)) (i:Nat):(l.take i).flatten.length<=l.flatten.length:=by
 have:l.flatten=(l.take i).flatten++(l.drop i).flatten:=by rw [← List.flatten_append,List.take_append_drop]
 rw [this,List.length_append];omega
theorem w34_loop0 (N:Nat) (k0:List (List UInt8)->Int->O) (k1 k2:Unit->O) (l:List (List UInt8)) (hl:l.length<=1000000) (hf:l.flatten.length<=1000000):∀ (n i:Nat),l.length - i < n->i<=l.length->w34l0 N n (l,((l.take i).flatten.length:Int),l,(l.length:Int),(i:Int)) (fun y=>k0 y.1 y.2) k1 k2=k0 l (l.flatten.length:Int)
 | 0,i,h,_=>by omega
 | n+1,i,h,hi=>by
   show w34F0 N _ _ l l (l.length:Int) ((l.take i).flatten.length:Int) (i:Int)=_;unfold w34F0;by_cases hlt:i < l.length
   ·have g:=List.getElem?_eq_getElem hlt
    have hk:=flat_take_le l (i+1);have hk2:=congrArg List.length (flat_take g);rw [List.length_append] at hk2;have e:IntKind.i64.wrap (((l.take i).flatten.length:Int)+(l[i].length:Int))=((l.take (i+1)).flatten.length:Int):=by rw [wr (by omega) (by omega)];omega
    rw [decide_eq_true (show (i:Int) < (l.length:Int) by omega),br_t,gx_at g,e,decide_eq_false (by omega),br_f,wr (x:=(i:Int)+1) (by omega) (by omega)];exact w34_loop0 N k0 k1 k2 l hl hf n (i+1) (by omega) (by omega)
   ·rw [decide_eq_false (show ¬ (i:Int) < (l.length:Int) by omega),br_f,List.take_of_length_le (by omega)]
theorem w34_loop1 (N:Nat) (k0:List UInt8->O) (k1 k2:Unit->O) (l:List (List UInt8)) (hl:l.length<=1000000) (hf:l.flatten.length<=1000000):∀ (n i:Nat),l.length - i < n->i<=l.length->w34l1 N n (l,(l.length:Int),(i:Int),(l.take i).flatten) k0 k1 k2=k0 l.flatten
 | 0,i,h,_=>by omega
 | n+1,i,h,hi=>by
   show w34F1 N _ _ l (l.length:Int) (i:Int) (l.take i).flatten=_;unfold w34F1;by_cases hlt:i < l.length
   ·have g:=List.getElem?_eq_getElem hlt
    have hk:=flat_take_le l (i+1);rw [decide_eq_true (show (i:Int) < (l.length:Int) by omega),br_t,gx_at g,flat_take g,ck_of (lim_of (by omega) (by omega)),wr (by omega) (by omega)];exact w34_loop1 N k0 k1 k2 l hl hf n (i+1) (by omega) (by omega)
   ·rw [decide_eq_false (show ¬ (i:Int) < (l.length:Int) by omega),br_f,List.take_of_length_le (by omega)]
theorem w34_eq {N:Nat} {l:List (List UInt8)} (hN:l.length < N) (hl:l.length<=1000000) (hf:l.flatten.length<=1000000):w34z N l=some l.flatten:=by
 unfold w34z w34 w34G w34n0 w34n1;have h0:=w34_loop0 N (fun z4 z5=>ck (w56p N z5) <| w34l1 N N (z4,(z4.length:Int),0,[]) (fun y=>some (w34r0 y)) (fun _=>none) (fun _=>none)) (fun _=>none) (fun _=>none) l hl hf N 0 (by omega) (Nat.zero_le _);have h1:=w34_loop1 N (fun z=>some (w34r0 z)) (fun _=>none) (fun _=>none) l hl hf N 0 (by omega) (Nat.zero_le _);refine (congrArg (fun z:O=>z.bind w34un) (h0.trans (c:=some (w34r0 l.flatten)) ?_)).trans rfl;rw [ck_of (show w56p N (l.flatten.length:Int)=true from decide_eq_true ⟨by omega,by omega⟩)];exact h1
theorem w34_P {N:Nat} {l:List (List UInt8)} (hN:l.length < N) (hl:l.length<=1000000) (hf:l.flatten.length<=1000000):w34p N l=true:=by unfold w34p;rw [w34_eq hN hl hf];rfl
theorem w34_Y {N:Nat} {l:List (List UInt8)} (hN:l.length < N) (hl:l.length<=1000000) (hf:l.flatten.length<=1000000):w34y0 N l=l.flatten:=by unfold w34y0;rw [w34_eq hN hl hf];rfl
theorem codeZ_len (c:UInt8) (b:Bool):1<=(codeZ c b).length/\(codeZ c b).length<=2:=by
 unfold codeZ
 repeat' split
 all_goals simp
theorem flat_le {l:List (List UInt8)} (h:∀ x ∈ l,x.length<=2):l.flatten.length<=2 * l.length:=by
 induction l with
 | nil=>simp
 | cons x l ih=>
   rw [List.flatten_cons,List.length_append,List.length_cons];have:=ih fun y hy=>h y (List.mem_cons_of_mem _ hy)
   have:=h x (List.mem_cons_self);omega
theorem codesZ_two {s x:List UInt8} (h:x ∈ codesZ s):1<=x.length/\x.length<=2:=by
 obtain ⟨i,_,rfl⟩:=List.mem_map.1 h;exact codeZ_len _ _
theorem codesZ_flat (s:List UInt8):(codesZ s).flatten.length<=2 * s.length:=by
 have:=flat_le fun x hx=>(codesZ_two (s:=s) hx).2
 rwa [codesZ_le] at this
def codZ (s:List UInt8):List UInt8×Int:=if textZ s=true then ((codesZ s).flatten,0) else ([],1)
theorem w36_y (N:Nat) (s:List UInt8):w36p N s=true/\w36y0 N s=s:=⟨rfl,rfl⟩
theorem w10_eq {N:Nat} {s:List UInt8} (hN:s.length < N) (hs:s.length<=20000):w10z N s=some (codZ s):=by
 have hf:=codesZ_flat s;unfold w10z w10 w10G codZ;rw [ck_of (w33_P hN (by omega)),w33_Y hN (by omega)];cases ht:textZ s with
 | false=>rfl
 | true=>
   have e:l35cy0 N s=codesZ s:=rfl;rw [(w36_y N s).2,ck_of (w36_y N s).1,ck_of (show l35cp N s=true from decide_eq_true hs),e,ck_of (w34_P (by rw [codesZ_le];omega) (by rw [codesZ_le];omega) (by omega)),w34_Y (by rw [codesZ_le];omega) (by rw [codesZ_le];omega) (by omega)];rfl
theorem w10_P {N:Nat} {s:List UInt8} (hN:s.length < N) (hs:s.length<=20000):w10p N s=true:=by unfold w10p;rw [w10_eq hN hs];rfl
theorem w10_Y0 {N:Nat} {s:List UInt8} (hN:s.length < N) (hs:s.length<=20000):w10y0 N s=(codZ s).1:=by unfold w10y0;rw [w10_eq hN hs];rfl
theorem w10_Y1 {N:Nat} {s:List UInt8} (hN:s.length < N) (hs:s.length<=20000):w10y1 N s=(codZ s).2:=by unfold w10y1;rw [w10_eq hN hs];rfl
end Go.Proofs
/- Chars, in plain words. -/
namespace Go.Proofs
open Go Go.Ax Go.Ax.Alg
def secondZ (c:UInt8):UInt8:=if (decide (32<=c)&&decide (c<=58))=true then c+32 else if (decide (59<=c)&&decide (c<=62))=true then c+64 else if c=3 then 96 else if c=1 then 95 else if c=2 then 32 else 0
def charZ (b:UInt8):Option UInt8:=if (decide (33<=b)&&decide (b<=58))=true then some (b+64) else if b<=62 then some (b+32) else none
def stepZ:List UInt8->Option (UInt8×List UInt8)
 | []=>none
 | b::t=>if b=32 then (match t with
     | []=>none
     | b2::t'=>if secondZ b2=0 then none else some (secondZ b2,t')) else (charZ b).map fun c=>(c,t)
def decZ:List UInt8->Option (List UInt8)
 | []=>some []
 | [b]=>if b=32 then none else (charZ b).map fun c=>[c]
 | b::b2::t=>if b=32 then (if secondZ b2=0 then none else (decZ t).map (secondZ b2 :: ·)) else (charZ b).bind fun c=>(decZ (b2::t)).map (c :: ·)
theorem step_32 (b2:UInt8) (t:List UInt8):stepZ (32::b2::t)=if secondZ b2=0 then none else some (secondZ b2,t):=rfl
theorem step_ne {b:UInt8} (h:b≠32) (t:List UInt8):stepZ (b::t)=(charZ b).map fun c=>(c,t):=if_neg h
theorem dec_32 (b2:UInt8) (t:List UInt8):decZ (32::b2::t)=if secondZ b2=0 then none else (decZ t).map (secondZ b2 :: ·):=by
 rw [decZ];exact if_pos rfl
theorem dec_ne {b:UInt8} (h:b≠32) (t:List UInt8):decZ (b::t)=(charZ b).bind fun c=>(decZ t).map (c :: ·):=by
 cases t with
 | nil=>
   show (if b=32 then none else (charZ b).map fun c=>[c])=_;rw [if_neg h];cases charZ b <;> rfl
 | cons b2 t=>
   rw [decZ];exact if_neg h
theorem dec_step {l:List UInt8} (h:l≠[]):decZ l=(stepZ l).bind fun p=>(decZ p.2).map (p.1 :: ·):=by
 match l,h with
 | b::t,_=>
   by_cases hb:b=32
   ·subst hb
    match t with
    | []=>rfl
    | b2::t=>
      rw [step_32,dec_32];by_cases h2:secondZ b2=0
      ·rw [if_pos h2,if_pos h2];rfl
      ·rw [if_neg h2,if_neg h2];rfl
   ·rw [step_ne hb,dec_ne hb]
    cases charZ b <;> rfl
theorem step_len {l r:List UInt8} {c:UInt8} (h:stepZ l=some (c,r)):r.length < l.length:=by
 match l,h with
 | b::t,h=>
   by_cases hb:b=32
   ·subst hb
    match t,h with
    | b2::t',h=>
      rw [step_32] at h;split at h
      ·cases h
      ·cases h
       simp;omega
   ·rw [step_ne hb] at h
    obtain ⟨c',_,h'⟩:=Option.map_eq_some_iff.1 h;cases h';simp
theorem code_view (c:UInt8) (h:32<=c.toNat/\c.toNat<=126):(∃ b,codeZ c false=[b]/\b≠32/\charZ b=some c)\/∃ b,codeZ c false=[32,b]/\secondZ b=c/\c≠0:=by
 have key:∀ c:UInt8,(!(decide (32<=c.toNat)&&decide (c.toNat<=126))||(match codeZ c false with
     | [b]=>decide (b≠32)&&decide (charZ b=some c)
     | [x,b]=>decide (x=32)&&decide (secondZ b=c)&&decide (c≠0)
     | _=>false))=true:=u8_all (by kernel_rfl)
 have:=key c;rw [decide_eq_true h.1,decide_eq_true h.2,Bool.and_self,Bool.not_true,Bool.false_or] at this;split at this
 ·rename_i b hb
  simp only [Bool.and_eq_true,decide_eq_true_eq] at this;exact .inl ⟨b,hb,this.1,this.2⟩
 ·rename_i x b hb
  simp only [Bool.and_eq_true,decide_eq_true_eq] at this;obtain ⟨⟨rfl,h2⟩,h3⟩:=this;exact .inr ⟨b,hb,h2,h3⟩
 ·cases this
theorem char_view {b c:UInt8} (hb:b≠32) (h:charZ b=some c):codeZ c false=[b]/\32<=c.toNat/\c.toNat<=126:=by
 have key:∀ b:UInt8,(decide (b=32)||(match charZ b with
     | some c=>decide (codeZ c false=[b])&&decide (32<=c.toNat)&&decide (c.toNat<=126)
     | none=>true))=true:=u8_all (by kernel_rfl)
 have:=key b;rw [decide_eq_false hb,Bool.false_or,h] at this;simp only [Bool.and_eq_true,decide_eq_true_eq] at this;exact ⟨this.1.1,this.1.2,this.2⟩
theorem second_view {b:UInt8} (h:secondZ b≠0):(b=2/\secondZ b=32\/codeZ (secondZ b) false=[32,b])/\32<=(secondZ b).toNat/\(secondZ b).toNat<=126:=by
 have key:∀ b:UInt8,(decide (secondZ b=0)||(((decide (b=2)&&decide (secondZ b=32))||decide (codeZ (secondZ b) false=[32,b]))&&decide (32<=(secondZ b).toNat)&&decide ((secondZ b).toNat<=126)))=true:=u8_all (by kernel_rfl)
 have:=key b;rw [decide_eq_false h,Bool.false_or] at this;simp only [Bool.and_eq_true,Bool.or_eq_true,decide_eq_true_eq] at this;exact ⟨this.1.1,this.1.2,this.2⟩
theorem step_code {c:UInt8} (h:32<=c.toNat/\c.toNat<=126) (t:List UInt8):stepZ (codeZ c false++t)=some (c,t):=by
 rcases code_view c h with ⟨b,hb,h1,h2⟩ | ⟨b,hb,h1,h2⟩
 ·rw [hb]
  show stepZ (b::t)=_;rw [step_ne h1,h2];rfl
 ·rw [hb]
  show stepZ (32::b::t)=_;rw [step_32,if_neg (by rw [h1];exact h2),h1]
theorem step_last (t:List UInt8):stepZ (codeZ 32 true++t)=some (32,t):=rfl
theorem step_inv {l r:List UInt8} {c:UInt8} (h:stepZ l=some (c,r)):(32<=c.toNat/\c.toNat<=126)/\(l=codeZ c false++r\/(c=32/\l=codeZ 32 true++r)):=by
 match l,h with
 | b::t,h=>
   by_cases hb:b=32
   ·subst hb
    match t,h with
    | b2::t',h=>
      rw [step_32] at h;split at h
      ·cases h
      ·rename_i h2
       cases h;obtain ⟨h3,h4⟩:=second_view h2;refine ⟨h4,?_⟩;rcases h3 with ⟨rfl,h3⟩ | h3
       ·exact .inr ⟨h3,rfl⟩
       ·exact .inl (by rw [h3];rfl)
   ·rw [step_ne hb] at h
    obtain ⟨c',hc,h'⟩:=Option.map_eq_some_iff.1 h;cases h';obtain ⟨h1,h2⟩:=char_view hb hc;exact ⟨h2,.inl (by rw [h1];rfl)⟩
theorem dec_text:∀ (n:Nat) {l s:List UInt8},l.length<=n->decZ l=some s->textZ s=true/\s.length<=l.length
 | _,[],s,_,h=>by cases h;exact ⟨rfl,Nat.le_refl _⟩
 | 0,b::t,s,hn,_=>by simp at hn
 | n+1,b::t,s,hn,h=>by
   rw [dec_step (by simp)] at h;obtain ⟨⟨c,r⟩,hs,h⟩:=Option.bind_eq_some_iff.1 h;obtain ⟨s',h',rfl⟩:=Option.map_eq_some_iff.1 h;have hl:r.length < (b::t).length:=step_len hs;have h':decZ r=some s':=h';obtain ⟨h1,h2⟩:=dec_text n (by omega) h';obtain ⟨⟨h3,h4⟩,_⟩:=step_inv hs;refine ⟨?_,by rw [show ((c,r).1::s').length=s'.length+1 from rfl];omega⟩;unfold textZ at h1 ⊢;rw [List.any_cons];have:badZ c=false:=by
    unfold badZ;rw [decide_eq_false (show ¬ c < 32 from fun h=>by have:=UInt8.lt_iff_toNat_lt.1 h;simp at this;omega),decide_eq_false (show ¬ 126 < c from fun h=>by have:=UInt8.lt_iff_toNat_lt.1 h;simp at this;omega)];rfl
   rw [this];exact h1
def charsZ (l:List UInt8):List UInt8×Int:=match decZ l with
 | none=>([],2)
 | some s=>if (codesZ s).flatten=l then (s,0) else ([],2)
end Go.Proofs
/- Chars, in plain words: the program's. -/
namespace Go.Proofs
open Go Go.Ax Go.Ax.Alg
theorem w42_ok (N:Nat) (a b:List UInt8):w42p N a b=true/\w42y0 N a b=decide (a=b):=by
 have h:w42z N a b=some (decide (a=b)):=rfl;constructor
 ·unfold w42p;rw [h];rfl
 ·unfold w42y0;rw [h];rfl
theorem w40_P (N:Nat) (c:UInt8) (b:Bool):w40p N c b=true:=by unfold w40p;rw [w40_eq];rfl
theorem w40_Y (N:Nat) (c:UInt8) (b:Bool):w40y0 N c b=codeZ c b:=by unfold w40y0;rw [w40_eq];rfl
theorem w41_eq (N:Nat) (s p:List UInt8) (_hs:s.length<=1000000):w41z N s p=some (p.isPrefixOf s):=by
 unfold w41z w41 w41G;by_cases h:p.length<=s.length
 ·have hsl:slc s none (some (p.length:Int))=s.take p.length:=by
   show s.take ((p.length:Int)).toNat=_;rw [Int.toNat_natCast]
  rw [decide_eq_true (show (p.length:Int)<=(s.length:Int) by omega),hsl,(w42_ok N _ _).1,(w42_ok N _ _).2];rw [ck_of (show (!true||slcOk s.length none (some (p.length:Int)))=true from by rw [Bool.not_true,Bool.false_or];exact decide_eq_true ⟨by omega,by omega⟩),ck_of (by rfl),Bool.true_and];have:decide (s.take p.length=p)=p.isPrefixOf s:=by
   rw [Bool.eq_iff_iff,decide_eq_true_iff,List.isPrefixOf_iff_prefix,List.prefix_iff_eq_take];exact eq_comm
  rw [this];rfl
 ·rw [decide_eq_false (show ¬ (p.length:Int)<=(s.length:Int) by omega)]
  have:p.isPrefixOf s=false:=by
   rw [Bool.eq_false_iff];intro hp;exact h (List.isPrefixOf_iff_prefix.1 hp).length_le
  rw [this];rfl
theorem w41_P (N:Nat) (s p:List UInt8) (hs:s.length<=1000000):w41p N s p=true:=by unfold w41p;rw [w41_eq N s p hs];rfl
theorem w41_Y (N:Nat) (s p:List UInt8) (hs:s.length<=1000000):w41y0 N s p=p.isPrefixOf s:=by unfold w41y0;rw [w41_eq N s p hs];rfl
abbrev K5:=List UInt8×List UInt8×List UInt8×UInt8×List UInt8->O
theorem w15_inner (N n:Nat) (k0 k1:K5) (k2:Unit->O) (l u rest out:List UInt8) (c:UInt8) (hc:32<=c.toNat/\c.toNat<=126) (hr:rest.length<=1000000) (ho:out.length<=1000000):
    w15l0 N (n+3) (l,u,rest,c,2,0,out,[false,true]) k0 k1 k2=match stepZ rest with
     | some (c',r)=>if c=c' then k0 (l,u,r,c,out++[c]) else k1 (l,u,rest,c,out)
     | none=>k1 (l,u,rest,c,out):=by
  have hlm:lim (out++[c]).length 1=true:=lim_of (by simp;omega) (by simp;omega);have drop:∀ (p t:List UInt8),rest=p++t->slcOk rest.length (some (p.length:Int)) none=true/\slc rest (some (p.length:Int)) none=t:=fun p t h=>by
   subst h;constructor
   ·exact decide_eq_true ⟨by omega,by rw [List.length_append];omega⟩
   ·show (p++t).drop ((p.length:Int)).toNat=t
    rw [Int.toNat_natCast,List.drop_left]
  show w15F0 N _ _ _ l u rest c 2 out [false,true] 0=_;unfold w15F0;rw [decide_eq_true (show (0:Int) < 2 by decide),br_t,gx_0,ck_of (w40_P N c false),w40_Y,w41_P N _ _ hr,w41_Y N _ _ hr,ck_of (by rw [Bool.or_true]),Bool.not_false,Bool.or_true,Bool.true_and];cases hp:(codeZ c false).isPrefixOf rest with
  | true=>
    obtain ⟨t,ht⟩:=List.isPrefixOf_iff_prefix.1 hp;obtain ⟨d1,d2⟩:=drop _ t ht.symm;rw [br_t,ck_of hlm,ck_of d1,d2,← ht,step_code hc];show _=if c=c then _ else _
    rw [if_pos rfl]
  | false=>
    have no1:∀ r,rest≠codeZ c false++r:=fun r h=>by
     have:(codeZ c false).isPrefixOf rest=true:=List.isPrefixOf_iff_prefix.2 ⟨r,h.symm⟩;rw [hp] at this;cases this
    rw [br_f,wr (x:=(0:Int)+1) (by decide) (by decide)];show w15F0 N _ _ _ l u rest c 2 out [false,true] 1=_;unfold w15F0;rw [decide_eq_true (show (1:Int) < 2 by decide),br_t,gx_1,ck_of (w40_P N c true),w40_Y,w41_P N _ _ hr,w41_Y N _ _ hr,ck_of (by rw [Bool.or_true]),Bool.not_true,Bool.or_false];have last:(∀ r,¬ (c=32/\rest=codeZ 32 true++r))->k1 (l,u,rest,c,out)=match stepZ rest with
     | some (c',r)=>if c=c' then k0 (l,u,r,c,out++[c]) else k1 (l,u,rest,c,out)
     | none=>k1 (l,u,rest,c,out):=fun no2=>by
     cases hs:stepZ rest with
     | none=>rfl
     | some p=>
       obtain ⟨c',r⟩:=p;show _=if c=c' then _ else _
       rw [if_neg];rintro rfl;rcases (step_inv hs).2 with h | h
       ·exact no1 r h
       ·exact no2 r h
    by_cases h32:c=32
    ·rw [decide_eq_true h32,Bool.true_and]
     cases hp2:(codeZ c true).isPrefixOf rest with
     | true=>
       obtain ⟨t,ht⟩:=List.isPrefixOf_iff_prefix.1 hp2;obtain ⟨d1,d2⟩:=drop _ t ht.symm;rw [br_t,ck_of hlm,ck_of d1,d2,← ht];subst h32;rw [step_last];show _=if (32:UInt8)=32 then _ else _
       rw [if_pos rfl]
     | false=>
       rw [br_f,wr (x:=(1:Int)+1) (by decide) (by decide)];show w15F0 N _ _ _ l u rest c 2 out [false,true] 2=_;unfold w15F0;rw [decide_eq_false (show ¬ (2:Int) < 2 by decide),br_f];refine last fun r h=>?_
       have:(codeZ c true).isPrefixOf rest=true:=List.isPrefixOf_iff_prefix.2 ⟨r,by rw [h.2,h.1]⟩;rw [hp2] at this;cases this
    ·rw [decide_eq_false h32,Bool.false_and,br_f,wr (x:=(1:Int)+1) (by decide) (by decide)]
     show w15F0 N _ _ _ l u rest c 2 out [false,true] 2=_;unfold w15F0;rw [decide_eq_false (show ¬ (2:Int) < 2 by decide),br_f];exact last fun r h=>h32 h.1
abbrev K4:=List UInt8×List UInt8×List UInt8×List UInt8->O
theorem w15_mid (N:Nat) (hN:3<=N) (k0 k1:K4) (k2:Unit->O) (l u rest out:List UInt8) (hr:rest.length<=1000000) (ho:out.length<=1000000):∀ (n m:Nat),127 - m < n->32<=m->m<=127->
    w15l1 N n (l,u,rest,UInt8.ofNat m,out) k0 k1 k2=match stepZ rest with
     | some (c',r)=>if m<=c'.toNat then k0 (l,u,r,out++[c']) else k1 (l,u,rest,out)
     | none=>k1 (l,u,rest,out)
  | 0,m,h,_,_=>by omega
  | n+1,m,h,h1,h2=>by
    obtain ⟨N',rfl⟩:∃ N',N=N'+3:=⟨N - 3,by omega⟩
    show w15F1 (N'+3) (w15n0 (N'+3)) _ _ _ l u rest (UInt8.ofNat m) out=_;unfold w15F1 w15n0;have hm:(UInt8.ofNat m).toNat=m:=by simp;omega
    by_cases hlt:m<=126
    ·have hle:UInt8.ofNat m<=126:=UInt8.le_iff_toNat_le.2 (by rw [hm];exact hlt)
     have hs:UInt8.ofNat m+1=UInt8.ofNat (m+1):=by
      apply UInt8.toNat_inj.1;rw [UInt8.toNat_add,hm];simp
     rw [decide_eq_true hle,br_t];refine (w15_inner (N'+3) N' _ _ (fun _=>none) l u rest out (UInt8.ofNat m) (by rw [hm];omega) hr ho).trans ?_;have hrec:=w15_mid (N'+3) hN k0 k1 k2 l u rest out hr ho n (m+1) (by omega) (by omega) (by omega);rw [← hs] at hrec;cases hst:stepZ rest with
     | none=>
       rw [hst] at hrec;exact hrec
     | some p=>
       obtain ⟨c',r⟩:=p;rw [hst] at hrec;show (if UInt8.ofNat m=c' then k0 (l,u,r,out++[UInt8.ofNat m]) else w15l1 (N'+3) n (l,u,rest,UInt8.ofNat m+1,out) k0 k1 k2)=if m<=c'.toNat then k0 (l,u,r,out++[c']) else k1 (l,u,rest,out)
       by_cases hc:UInt8.ofNat m=c'
       ·rw [if_pos hc,if_pos (by rw [← hc,hm];exact Nat.le_refl _),hc]
       ·have hne:m≠c'.toNat:=fun e=>hc (UInt8.toNat_inj.1 (by rw [hm];exact e))
        rw [if_neg hc,hrec];show (if m+1<=c'.toNat then _ else _)=_;by_cases hk:m<=c'.toNat
        ·rw [if_pos hk,if_pos (by omega)]
        ·rw [if_neg hk,if_neg (by omega)]
    ·have hle:¬ UInt8.ofNat m<=126:=fun h=>hlt (by have:=UInt8.le_iff_toNat_le.1 h;rw [hm] at this;exact this)
     rw [decide_eq_false hle,br_f];cases hst:stepZ rest with
     | none=>rfl
     | some p=>
       obtain ⟨c',r⟩:=p;have:=(step_inv hst).1.2;show _=if m<=c'.toNat then _ else _
       rw [if_neg (by omega)]
theorem w15_outer (N:Nat) (hN:200<=N) (k0:List UInt8->Int->O) (k1:List UInt8->List UInt8->O) (k2:Unit->O) (l u:List UInt8):∀ (n:Nat) (rest out:List UInt8),rest.length < n->rest.length+out.length<=1000000->
    w15l2 N n (l,u,rest,out) (fun y=>k0 y.1 y.2) (fun y=>k1 y.1 y.2) k2=match decZ rest with
     | none=>k0 [] 2
     | some s=>k1 l (out++s)
  | 0,_,_,h,_=>by omega
  | n+1,rest,out,h,ho=>by
    show w15F2 N (w15n0 N) (w15n1 N) _ _ _ l u rest out=_;unfold w15F2 w15n1
    match rest,h,ho with
    | [],h,ho=>
      rw [decide_eq_false (by decide),br_f];show _=k1 l (out++[]);rw [List.append_nil]
    | b::t,h,ho=>
      rw [decide_eq_true (show (0:Int) < ((b::t).length:Int) by rw [List.length_cons];omega),br_t,dec_step (by simp)];refine (w15_mid N (by omega) _ _ (fun _=>none) l u (b::t) out (by omega) (by omega) N 32 (by omega) (by omega) (by omega)).trans ?_;cases hst:stepZ (b::t) with
      | none=>rfl
      | some p=>
        obtain ⟨c',r⟩:=p;have hl:r.length < (b::t).length:=step_len hst;have hc:=(step_inv hst).1;show (if 32<=c'.toNat then w15l2 N n (l,u,r,out++[c']) _ _ k2 else _)=match (decZ r).map (c' :: ·) with
         | none=>k0 [] 2
         | some s=>k1 l (out++s)
        rw [if_pos hc.1,w15_outer N hN k0 k1 k2 l u n r (out++[c']) (by omega) (by rw [List.length_append];simp only [List.length_cons,List.length_nil];omega)];cases decZ r with
        | none=>rfl
        | some s=>exact congrArg (k1 l) (List.append_assoc out [c'] s)
theorem w15_eq {N:Nat} {l:List UInt8} (hN:200<=N) (hN2:2 * l.length < N) (hl:l.length<=20000):w15z N l=some (charsZ l):=by
 unfold w15z w15 w15G w15n2 charsZ;have:=w15_outer N hN (fun z201 z202=>some (w15r0 z201 z202)) (fun z203 z204=>ck (w10p N z204) <| ck (w42p N (w10y0 N z204) z203) <| br (!w42y0 N (w10y0 N z204) z203) (some (w15r0 [] 2)) (some (w15r0 z204 0))) (fun _=>none) l [] N l [] (by omega) (by rw [List.length_nil];omega);refine (congrArg (fun z:O=>z.bind w15un) this).trans ?_;cases hd:decZ l with
 | none=>rfl
 | some s=>
   obtain ⟨h1,h2⟩:=dec_text l.length (Nat.le_refl _) hd;show (ck (w10p N ([]++s)) _).bind w15un=_;have hc:(codZ s).1=(codesZ s).flatten:=by unfold codZ;rw [if_pos h1]
   rw [List.nil_append,ck_of (w10_P (by omega) (by omega)),w10_Y0 (by omega) (by omega),ck_of (w42_ok N _ _).1,(w42_ok N _ _).2,hc];show _=some (if (codesZ s).flatten=l then (s,0) else ([],2));by_cases h:(codesZ s).flatten=l
   ·rw [decide_eq_true h,if_pos h];rfl
   ·rw [decide_eq_false h,if_neg h];rfl
end Go.Proofs
/- Listings made of numbers. -/
namespace Go.Proofs
open Go Go.Ax Go.Ax.Alg
def MadeOk (a:List (List UInt8)):Prop:=a.length<=4/\∀ s ∈ a,s.length<=77/\textZ s=true
def pcs:List (List UInt8):=[[105,102],[32],[32,32],[120],[123],[125],[84,111,116,97,108],[95],[64],[61],[49,48],[34],[126],[97,91,105,93],[32,32,32,32,32,32,32,32],[96]]
theorem textZ_app {s t:List UInt8} (h:textZ s=true) (h':textZ t=true):textZ (s++t)=true:=by
 unfold textZ at *
 rw [List.any_append,Bool.not_or,h,h'];rfl
theorem w9_inner (N:Nat) {l:List Int} (hl:Okl l) (k0:List Int->Int->Int->Int->List UInt8->Int->List (List UInt8)->List (List UInt8)->O) (k1 k2:Unit->O) (a n i many:Int) (out:List (List UInt8)) (hm:many<=9):∀ (f:Nat) (s:List UInt8) (k:Nat),10 - k < f->s.length<=77->textZ s=true->(k:Int)<=10->
    ∃ s':List UInt8,s'.length<=77/\textZ s'=true/\w9l0 N f (l,a,n,i,s,many,(k:Int),pcs,out) (fun y=>k0 y.1 y.2.1 y.2.2.1 y.2.2.2.1 y.2.2.2.2.1 y.2.2.2.2.2.1 y.2.2.2.2.2.2.1 y.2.2.2.2.2.2.2) k1 k2=k0 l a n i s' many pcs out
 | 0,s,k,h,_,_,_=>by omega
 | f+1,s,k,h,hs,ht,hk=>by
   have e:w9l0 N (f+1) (l,a,n,i,s,many,(k:Int),pcs,out) (fun y=>k0 y.1 y.2.1 y.2.2.1 y.2.2.2.1 y.2.2.2.2.1 y.2.2.2.2.2.1 y.2.2.2.2.2.2.1 y.2.2.2.2.2.2.2) k1 k2=w9F0 N (fun v0 v1=>w9l0 N f (l,a,n,i,v0,many,v1,pcs,out) (fun y=>k0 y.1 y.2.1 y.2.2.1 y.2.2.2.1 y.2.2.2.2.1 y.2.2.2.2.2.1 y.2.2.2.2.2.2.1 y.2.2.2.2.2.2.2) k1 k2) (fun y0 y1 y2 y3 y4 y5 y6 y7=>k0 y0 y1 y2 y3 y4 y5 y6 y7) l a n i many pcs out s (k:Int):=rfl;rw [e];unfold w9F0;by_cases hc:(k:Int) < many/\(s.length:Int) < 70
   ·rw [decide_eq_true hc.1,decide_eq_true hc.2,Bool.and_self,br_t,ck_of (w32_P N hl _ _),w32_Y N hl]
    have hat:=at_lt (l:=l) (i:=IntKind.i64.wrap (IntKind.i64.wrap (a+1)+(k:Int))) (m:=16) (by omega);obtain ⟨j,hj⟩:∃ j:Nat,atZ l (IntKind.i64.wrap (IntKind.i64.wrap (a+1)+(k:Int))) 16=j:=⟨(atZ l (IntKind.i64.wrap (IntKind.i64.wrap (a+1)+(k:Int))) 16).toNat,by omega⟩
    rw [hj] at hat ⊢;have hj16:j < pcs.length:=by show j < 16;omega
    have g:=List.getElem?_eq_getElem hj16;have hp:pcs[j].length<=8/\textZ pcs[j]=true:=by
     have:∀ p ∈ pcs,p.length<=8/\textZ p=true:=by decide
     exact this _ (List.getElem_mem hj16)
    rw [gx_at g,ck_of (decide_eq_true (by omega)),wr (by omega) (by omega)];exact w9_inner N hl k0 k1 k2 a n i many out hm f (s++pcs[j]) (k+1) (by omega) (by rw [List.length_append];omega) (textZ_app ht hp.2) (by omega)
   ·have:(decide ((k:Int) < many)&&decide ((s.length:Int) < 70))=false:=by
     rw [Bool.eq_false_iff];intro h;simp only [Bool.and_eq_true,decide_eq_true_eq] at h;exact hc h
    rw [this,br_f];exact ⟨s,hs,ht,rfl⟩
theorem w9_outer (N:Nat) (hN:20<=N) {l:List Int} (hl:Okl l) (k0:List (List UInt8)->O) (k1 k2:Unit->O) (n:Int) (hn:n<=4):∀ (f:Nat) (a:Int) (i:Nat) (out:List (List UInt8)),5 - i < f->(i:Int)<=5->out.length<=i->(i:Int)<=max n 0->(∀ s ∈ out,s.length<=77/\textZ s=true)->
    ∃ out',MadeOk out'/\w9l1 N f (l,a,n,(i:Int),pcs,out) k0 k1 k2=k0 out'
 | 0,a,i,out,h,_,_,_,_=>by omega
 | f+1,a,i,out,h,hi,ho,hin,hs=>by
   have e:w9l1 N (f+1) (l,a,n,(i:Int),pcs,out) k0 k1 k2=w9F1 N (w9n0 N) (fun v0 v1 v2 v3 v4 v5=>w9l1 N f (v0,v1,v2,v3,v4,v5) k0 k1 k2) (fun y0=>k0 y0) l a n (i:Int) pcs out:=rfl;rw [e];unfold w9F1;by_cases hc:(i:Int) < n
   ·have hat:=at_lt (l:=l) (i:=a) (m:=9) (by omega)
    rw [decide_eq_true hc,br_t,ck_of (w32_P N hl _ _),w32_Y N hl];unfold w9n0;obtain ⟨s',h1,h2,h3⟩:=w9_inner N hl (fun z40 z41 z42 z43 z44 z45 z46 z47=>ck (lim (z47++[z44]).length 16) <| w9l1 N f (z40,IntKind.i64.wrap (IntKind.i64.wrap (z41+1)+z45),z42,IntKind.i64.wrap (z43+1),z46,z47++[z44]) k0 k1 k2) (fun _=>none) (fun _=>none) a n (i:Int) (atZ l a 9) out (by omega) N [] 0 (by omega) (by simp) rfl (by omega);obtain ⟨out',h4,h5⟩:=w9_outer N hN hl k0 k1 k2 n hn f (IntKind.i64.wrap (IntKind.i64.wrap (a+1)+atZ l a 9)) (i+1) (out++[s']) (by omega) (by omega) (by simp;omega) (by omega) (fun s hs'=>by
     rcases List.mem_append.1 hs' with h | h
     ·exact hs s h
     ·rw [List.mem_singleton.1 h];exact ⟨h1,h2⟩)
    refine ⟨out',h4,h3.trans ?_⟩;rw [ck_of (lim_of (by simp;omega) (by simp;omega)),wr (x:=(i:Int)+1) (by omega) (by omega)];exact h5
   ·rw [decide_eq_false hc,br_f]
    exact ⟨out,⟨by omega,hs⟩,rfl⟩
theorem w9_ok (N:Nat) (hN:20<=N) {l:List Int} (hl:Okl l):∃ a,w9z N l=some a/\MadeOk a:=by
 have hat:=at_lt (l:=l) (i:=0) (m:=5) (by omega);obtain ⟨out',h1,h2⟩:=w9_outer N hN hl (fun z=>some (w9r0 z)) (fun _=>none) (fun _=>none) (atZ l 0 5) (by omega) N 1 0 [] (by omega) (by omega) (by simp) (by omega) (fun s hs=>by cases hs);refine ⟨out',?_,h1⟩;unfold w9z w9 w9G w9n1;rw [ck_of (w32_P N hl _ _),w32_Y N hl];exact congrArg (fun z:O=>z.bind w9un) h2
end Go.Proofs
/- Lines and rows, in plain words. -/
namespace Go.Proofs
open Go Go.Ax Go.Ax.Alg
def Cds (l:List (List UInt8)):Prop:=∀ c ∈ l,1<=c.length/\c.length<=2
theorem line_cds (s:List UInt8):Cds (lineZ s):=fun c hc=>by
 rcases List.mem_append.1 hc with h | h
 ·exact codesZ_two h
 ·split at h
  ·cases h
  ·rcases List.mem_cons.1 h with rfl | h
   ·exact ⟨by decide,by decide⟩
   ·exact codesZ_two h
theorem Cds.flat {l:List (List UInt8)} (h:Cds l):l.length<=l.flatten.length/\l.flatten.length<=2 * l.length:=by
 induction l with
 | nil=>simp
 | cons x l ih=>
   rw [List.flatten_cons,List.length_append,List.length_cons];have:=ih fun y hy=>h y (List.mem_cons_of_mem _ hy)
   have:=h x (List.mem_cons_self);omega
def fillZ (m:Nat):List (List UInt8)->List UInt8->List UInt8×List (List UInt8)
 | [],row=>(row,[])
 | c::l,row=>if row.length+c.length<=m then fillZ m l (row++c) else (row,c::l)
theorem fill_spec (m:Nat):∀ (l:List (List UInt8)) (row:List UInt8),row.length<=m->(fillZ m l row).1.length<=m/\(fillZ m l row).1++(fillZ m l row).2.flatten=row++l.flatten/\∃ k,k<=l.length/\(fillZ m l row).2=l.drop k/\(fillZ m l row).1=row++(l.take k).flatten
 | [],row,h=>⟨h,rfl,0,Nat.le_refl _,rfl,by simp [fillZ]⟩
 | c::l,row,h=>by
   unfold fillZ;split
   ·rename_i hc
    obtain ⟨h1,h2,k,h3,h4,h5⟩:=fill_spec m l (row++c) (by rw [List.length_append];exact hc);refine ⟨h1,by rw [h2,List.flatten_cons,List.append_assoc],k+1,by simp;omega,h4,?_⟩;rw [h5,List.take_succ_cons,List.flatten_cons,List.append_assoc]
   ·exact ⟨h,rfl,0,Nat.zero_le _,rfl,by simp⟩
theorem fill_all {m:Nat}:∀ {l:List (List UInt8)} {row:List UInt8},row.length+l.flatten.length<=m->fillZ m l row=(row++l.flatten,[])
 | [],row,_=>by simp [fillZ]
 | c::l,row,h=>by
   rw [List.flatten_cons,List.length_append] at h;unfold fillZ;rw [if_pos (by omega),fill_all (by rw [List.length_append];omega),List.flatten_cons,List.append_assoc]
theorem fill_less {m:Nat} {l:List (List UInt8)} (hl:Cds l) (hne:l≠[]) (hm:2<=m):(fillZ m l []).2.length < l.length:=by
 match l,hne with
 | c::l,_=>
   have hc:=hl c List.mem_cons_self;unfold fillZ;rw [if_pos (by simp;omega)];obtain ⟨_,_,k,h3,h4,_⟩:=fill_spec m l ([]++c) (by simp;omega);rw [h4,List.length_drop,List.length_cons];omega
theorem fill_cds {m:Nat} {l:List (List UInt8)} {row:List UInt8} (hl:Cds l) (hr:row.length<=m):Cds (fillZ m l row).2/\(fillZ m l row).2.length<=l.length:=by
 obtain ⟨_,_,k,_,h4,_⟩:=fill_spec m l row hr;rw [h4];exact ⟨fun c hc=>hl c (List.mem_of_mem_drop hc),by rw [List.length_drop];omega⟩
def rowsF (w:Nat):Nat->List (List UInt8)->List (List UInt8)
 | 0,_=>[]
 | n+1,l=>if l.flatten.length<=w then [l.flatten] else ((fillZ (w - 1) l []).1++[63])::rowsF w n (fillZ (w - 1) l []).2
def rowsZ (w:Nat) (l:List (List UInt8)):List (List UInt8):=rowsF w (l.length+1) l
theorem rowsF_any {w:Nat} (hw:4<=w):∀ (n m:Nat) {l:List (List UInt8)},Cds l->l.length < n->l.length < m->rowsF w n l=rowsF w m l
 | 0,_,_,_,h,_=>by omega
 | _,0,_,_,_,h=>by omega
 | n+1,m+1,l,hl,h1,h2=>by
   unfold rowsF;split
   ·rfl
   ·rename_i hf
    have hne:l≠[]:=fun e=>by subst e;simp at hf
    have:=fill_less hl hne (m:=w - 1) (by omega);rw [rowsF_any hw n m (fill_cds hl (by simp)).1 (by omega) (by omega)]
theorem rows_step {w:Nat} (hw:4<=w) {l:List (List UInt8)} (hl:Cds l):rowsZ w l=if l.flatten.length<=w then [l.flatten] else ((fillZ (w - 1) l []).1++[63])::rowsZ w (fillZ (w - 1) l []).2:=by
 unfold rowsZ
 conv=>lhs;unfold rowsF
 split
 ·rfl
 ·rename_i hf
  have hne:l≠[]:=fun e=>by subst e;simp at hf
  have:=fill_less hl hne (m:=w - 1) (by omega);rw [rowsF_any hw l.length ((fillZ (w - 1) l []).2.length+1) (fill_cds hl (by simp)).1 (by omega) (by omega)]
theorem rows_len {w:Nat} (hw:4<=w):∀ (n:Nat) {l:List (List UInt8)},Cds l->l.length<=n->(rowsZ w l).length<=l.length+1
 | n,l,hl,hn=>by
   rw [rows_step hw hl];split
   ·simp
   ·rename_i hf
    have hne:l≠[]:=fun e=>by subst e;simp at hf
    have h1:=fill_less hl hne (m:=w - 1) (by omega)
    match n,hn with
    | n+1,hn=>
      have:=rows_len hw n (fill_cds (m:=w - 1) (row:=[]) hl (by simp)).1 (by omega);rw [List.length_cons];omega
    | 0,hn=>omega
end Go.Proofs
