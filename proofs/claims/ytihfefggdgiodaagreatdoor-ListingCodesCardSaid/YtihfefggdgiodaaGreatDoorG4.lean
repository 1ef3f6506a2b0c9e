/- ListingCodes in plain words. Conditions are in the theorems. -/
import Derived.Test.YtihfefggdgiodaaGreatDoorF7
import Derived.Test.YtihfefggdgiodaaGreatDoorG1
/- ListingCodes, in plain words. -/
namespace Go.Proofs
open Go Go.Ax Go.Ax.Alg
theorem cod_len (s:List UInt8):(codZ s).1.length<=2 * s.length:=by
 unfold codZ;split
 ·exact codesZ_flat s
 ·simp
theorem v13_eq (N:Nat) {b:List UInt8} (hb:b.length<=1000000):v13z N b (b.length:Int)=some b:=by
 have hs:slc b none (some (min (b.length:Int) (b.length:Int)))=b:=by
  show b.take (min (b.length:Int) (b.length:Int)).toNat=b;rw [Int.min_self,Int.toNat_natCast,List.take_length]
 unfold v13z v13 v13G;rw [hs,ck_of (show slcOk b.length none (some (min (b.length:Int) (b.length:Int)))=true from decide_eq_true (by rw [Int.min_self];omega)),ck_of (lim_of (by omega) (by omega))];rfl
theorem v13_P (N:Nat) {b:List UInt8} (hb:b.length<=1000000):v13p N b (b.length:Int)=true:=by unfold v13p;rw [v13_eq N hb];rfl
theorem v13_Y (N:Nat) {b:List UInt8} (hb:b.length<=1000000):v13y0 N b (b.length:Int)=b:=by unfold v13y0;rw [v13_eq N hb];rfl
theorem w3_loop0 (N:Nat) (k0:Int->Int->List (List UInt8)->List (List UInt8)->O) (k1 k2:Unit->O) (x y:Int) (a t0 ls:List (List UInt8)) (ha:a.length<=100) (ht:t0.length<=100):∀ (n i:Nat),a.length - i < n->i<=a.length->w3l0 N n (x,y,a,(i:Int),t0++a.take i,ls) (fun y=>k0 y.1 y.2.1 y.2.2.1 y.2.2.2) k1 k2=k0 x y (t0++a) ls
 | 0,i,h,_=>by omega
 | n+1,i,h,hi=>by
   show w3F0 N _ _ x y a ls (i:Int) (t0++a.take i)=_;unfold w3F0;by_cases hlt:i < a.length
   ·have g:=List.getElem?_eq_getElem hlt
    have e:t0++a.take i++[a[i]]=t0++a.take (i+1):=by rw [List.take_succ_eq_append_getElem hlt,List.append_assoc]
    rw [decide_eq_true (show (i:Int) < (a.length:Int) by omega),br_t,gx_at g,e,ck_of (lim_of (by simp;omega) (by simp;omega)),wr (by omega) (by omega)];exact w3_loop0 N k0 k1 k2 x y a t0 ls ha ht n (i+1) (by omega) (by omega)
   ·rw [decide_eq_false (show ¬ (i:Int) < (a.length:Int) by omega),br_f,List.take_of_length_le (by omega)]
theorem w3_loop1 (N:Nat) (hN:1000<=N) (k0:Bool->O) (k1:Int->List (List UInt8)->O) (k2:Unit->O) (x y:Int) (hx:I64 x) (hy:I64 y) (ts:List (List UInt8)) (ht:ts.length<=200) (hts:∀ s ∈ ts,s.length<=100):∀ (n i:Nat) (ls:List (List UInt8)),ts.length - i < n->i<=ts.length->ls.length<=2+2 * i->(∀ l ∈ ls,l.length<=200)->
    ∃ ls',w3l1 N n (x,y,(i:Int),ts,ls) k0 (fun y=>k1 y.1 y.2) k2=k1 x ls'/\ls'.length<=402/\∀ l ∈ ls',l.length<=200
 | 0,i,_,h,_,_,_=>by omega
 | n+1,i,ls,h,hi,hl,hls=>by
   have e:w3l1 N (n+1) (x,y,(i:Int),ts,ls) k0 (fun y=>k1 y.1 y.2) k2=w3F1 N (fun v0 v1=>w3l1 N n (x,y,v0,ts,v1) k0 (fun y=>k1 y.1 y.2) k2) (fun y0=>k0 y0) (fun y0 y1=>k1 y0 y1) x y ts (i:Int) ls:=rfl;rw [e];unfold w3F1;by_cases hlt:i < ts.length
   ·have g:=List.getElem?_eq_getElem hlt
    have hs:=hts _ (List.getElem_mem hlt);generalize ts[i]=s at g hs;have hc:=cod_len s;rw [decide_eq_true (show (i:Int) < (ts.length:Int) by omega),br_t,gx_at g,ck_of (w10_P (by omega) (by omega)),gx_at g,ck_of (w11_P (by omega) (by omega)),w10_Y0 (by omega) (by omega),w10_Y1 (by omega) (by omega),w11_Y0 (by omega) (by omega),w11_Y1 (by omega) (by omega)];generalize (codZ s).2=z;generalize (codZ s).1=c at hc;rw [w12_P (by omega) (by omega),w12_Y (by omega) (by omega),decide_eq_false (show ¬ (z≠z) from fun h=>h rfl),decide_eq_true rfl,ck_of (by rfl),Bool.not_true,Bool.or_false,br_f,ck_of (v13_P N (by omega)),v13_Y N (by omega)];have hrec:∀ c':List UInt8,c'.length<=200->∃ ls',(ck (lim (ls++[c,c']).length 24) <| w3l1 N n (x,y,IntKind.i64.wrap ((i:Int)+1),ts,ls++[c,c']) k0 (fun y=>k1 y.1 y.2) k2)=k1 x ls'/\ls'.length<=402/\∀ l ∈ ls',l.length<=200:=fun c' hc'=>by
     rw [ck_of (lim_of (by simp;omega) (by simp;omega)),wr (by omega) (by omega)];exact w3_loop1 N hN k0 k1 k2 x y hx hy ts ht hts n (i+1) (ls++[c,c']) (by omega) (by omega) (by simp;omega) (fun l hl=>by
      rcases List.mem_append.1 hl with h | h
      ·exact hls l h
      ·rcases List.mem_cons.1 h with rfl | h
       ·omega
       ·rw [List.mem_singleton.1 h];omega)
    by_cases hp:(0:Int) < (c.length:Int)
    ·have har:=around_lt (n:=x) (m:=(c.length:Int)) (by omega)
     rw [decide_eq_true hp,br_t,ck_of (w14_P N hx),ck_of (w14_P N hy),w14_Y N hx,w14_Y N hy,ck_of (decide_eq_true har),gn_of (List.getElem?_eq_getElem (by omega))];exact hrec _ (by rw [List.length_set];omega)
    ·rw [decide_eq_false hp,br_f]
     exact hrec _ (by omega)
   ·rw [decide_eq_false (show ¬ (i:Int) < (ts.length:Int) by omega),br_f]
    exact ⟨ls,rfl,by omega,hls⟩
theorem w3_loop2 (N:Nat) (hN:1000<=N) (k0:Bool->O) (k1 k2:Unit->O) (x:Int) (ls:List (List UInt8)) (hl:ls.length<=1000) (hls:∀ l ∈ ls,l.length<=200):∀ (n i:Nat),ls.length - i < n->i<=ls.length->w3l2 N n (x,(i:Int),ls) k0 k1 k2=k1 ()
 | 0,i,h,_=>by omega
 | n+1,i,h,hi=>by
   show w3F2 N _ _ _ x ls (i:Int)=_;unfold w3F2;by_cases hlt:i < ls.length
   ·have g:=List.getElem?_eq_getElem hlt
    have hs:=hls _ (List.getElem_mem hlt);rw [decide_eq_true (show (i:Int) < (ls.length:Int) by omega),br_t,gx_at g,ck_of (w15_P (by omega) (by omega) (by omega)),gx_at g,ck_of (w16_P (by omega) (by omega)),w15_Y0 (by omega) (by omega) (by omega),w15_Y1 (by omega) (by omega) (by omega),w16_Y0 (by omega) (by omega),w16_Y1 (by omega) (by omega),
     decide_eq_false (fun h=>h rfl),decide_eq_false (fun h=>h rfl),Bool.or_false,br_f,wr (by omega) (by omega)]
    exact w3_loop2 N hN k0 k1 k2 x ls hl hls n (i+1) (by omega) (by omega)
   ·rw [decide_eq_false (show ¬ (i:Int) < (ls.length:Int) by omega),br_f]
theorem slc_min (x:List UInt8) (m:Nat):slcOk x.length none (some (min (x.length:Int) (m:Int)))=true/\(slc x none (some (min (x.length:Int) (m:Int)))).length<=m:=by
 have e:min (x.length:Int) (m:Int)=((min x.length m:Nat):Int):=by omega
 rw [e];constructor
 ·exact decide_eq_true ⟨by omega,by omega⟩
 ·show (x.take ((min x.length m:Nat):Int).toNat).length<=m
  rw [Int.toNat_natCast,List.length_take];omega
theorem law3 {l:List Int} {raw b:List UInt8} {x y:Int} (hl:Okl l) (hx:I64 x) (hy:I64 y):w3z 60000 l raw b x y=some true:=by
 obtain ⟨a,ha,hm1,hm2⟩:=w9_ok 60000 (by omega) hl;have hp9:w9p 60000 l=true:=by unfold w9p;rw [ha];rfl
 have hy9:w9y0 60000 l=a:=by unfold w9y0;rw [ha];rfl
 obtain ⟨r1,r2⟩:slcOk raw.length none (some (min (raw.length:Int) 100))=true/\(slc raw none (some (min (raw.length:Int) 100))).length<=100:=slc_min raw 100;obtain ⟨b1,b2⟩:slcOk b.length none (some (min (b.length:Int) 100))=true/\(slc b none (some (min (b.length:Int) 100))).length<=100:=slc_min b 100;unfold w3z w3 w3G w3n0 w3n1 w3n2;rw [ck_of r1,ck_of b1,ck_of hp9,hy9];generalize slc raw none (some (min (raw.length:Int) 100))=rw' at r2;generalize slc b none (some (min (b.length:Int) 100))=bw' at b2;have h0:=w3_loop0 60000 (fun z4 z5 z6 z7=>w3l1 60000 60000 (z4,z5,0,z6,z7) (fun z18=>some (w3r0 z18)) (fun y=>w3l2 60000 60000 (y.1,0,y.2) (fun z28=>some (w3r0 z28)) (fun _=>ck true <| some (w3r0 true)) (fun _=>none)) (fun _=>none)) (fun _=>none) (fun _=>none) x y a [rw',[]] [bw',[]] (by omega) (by simp) 60000 0 (by omega) (Nat.zero_le _);refine (congrArg (fun z:O=>z.bind w3un) h0).trans ?_;obtain ⟨ls',h1,h2,h3⟩:=w3_loop1 60000 (by omega) (fun z18=>some (w3r0 z18)) (fun z19 z20=>w3l2 60000 60000 (z19,0,z20) (fun z28=>some (w3r0 z28)) (fun _=>ck true <| some (w3r0 true)) (fun _=>none)) (fun _=>none) x y hx hy ([rw',[]]++a) (by simp;omega) (fun s hs=>by
  rcases List.mem_append.1 hs with h | h
  ·rcases List.mem_cons.1 h with rfl | h
   ·exact r2
   ·rw [List.mem_singleton.1 h];simp
  ·have:=(hm2 s h).1;omega) 60000 0 [bw',[]] (by simp;omega) (Nat.zero_le _) (by simp) (fun l hl=>by
  rcases List.mem_cons.1 hl with rfl | h
  ·have:l.length<=100:=b2
   omega
  ·rw [List.mem_singleton.1 h];simp)
 refine (congrArg (fun z:O=>z.bind w3un) h1).trans ?_;have h4:=w3_loop2 60000 (by omega) (fun z28=>some (w3r0 z28)) (fun _=>ck true <| some (w3r0 true)) (fun _=>none) x ls' (by omega) h3 60000 0 (by omega) (Nat.zero_le _);exact congrArg (fun z:O=>z.bind w3un) h4
end Go.Proofs
