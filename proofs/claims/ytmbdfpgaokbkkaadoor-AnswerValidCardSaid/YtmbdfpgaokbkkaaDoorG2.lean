/- AnswerValid in plain words. Conditions are in the theorems. -/
import Derived.Test.YtmbdfpgaokbkkaaDoorG1
import Derived.Test.YtmbdfpgaokbkkaaDoorF6
/- Law 3: Valid of both, for texts of all kinds. -/
namespace Go.Proofs
open Go Go.Ax Go.Ax.Alg
theorem w5_loop0 (N:Nat) (k0:List UInt8->O) (k1 k2:Unit->O):∀ (f n:Nat) (y:Int) (s:List UInt8),f < n->0<=y->y < 10 ^ (f+1)->y<=100000->s.length+f<=40->
    ∃ t:List UInt8,w5l0 N n (y,s) k0 k1 k2=k0 t/\t.length<=s.length+f
 | f,0,y,s,h,_,_,_,_=>by omega
 | f,n+1,y,s,h,h0,hy,hm,hs=>by
   have e:w5l0 N (n+1) (y,s) k0 k1 k2=w5F0 N (fun v0 v1=>w5l0 N n (v0,v1) k0 k1 k2) (fun y0=>k0 y0) y s:=rfl;rw [e];unfold w5F0;by_cases h1:10<=y
   ·match f,h,hy,hs with
    | 0,_,hy,_=>exact absurd hy (by omega)
    | f+1,h,hy,hs=>
      have ed:y.tdiv 10=y / 10:=Int.tdiv_eq_ediv_of_nonneg h0;rw [decide_eq_true h1,br_t,ck_t,ck_t,ck_of (decide_eq_true (by simp only [List.length_cons,List.length_nil];omega)),ed,wr (x:=y / 10) (by omega) (by omega)];obtain ⟨t,e1,e2⟩:=w5_loop0 N k0 k1 k2 f n (y / 10) ([u8of (IntKind.i64.wrap (48+(y / 10).tmod 10))]++s) (by omega) (by omega) (by rw [Int.pow_succ] at hy;omega) (by omega) (by simp only [List.length_append,List.length_cons,List.length_nil];omega);exact ⟨t,e1,by simp only [List.length_append,List.length_cons,List.length_nil] at e2;omega⟩
   ·rw [decide_eq_false h1,br_f]
    exact ⟨s,rfl,by omega⟩
theorem w5_loop1 (N:Nat) (k0:List UInt8->O) (k1 k2:Unit->O) {l:List Int} (hl:Okl l) (m:Nat) (hm:m<=40):∀ (n i:Nat) (s:List UInt8),m - i < n->i<=m->s.length+(m - i)<=40->
    ∃ t:List UInt8,w5l1 N n (l,(m:Int),s,(i:Int)) k0 k1 k2=k0 t/\t.length<=40
 | 0,i,s,h,_,_=>by omega
 | n+1,i,s,h,hi,hs=>by
   have e:w5l1 N (n+1) (l,(m:Int),s,(i:Int)) k0 k1 k2=w5F1 N (fun v0 v1=>w5l1 N n (l,(m:Int),v0,v1) k0 k1 k2) (fun y0=>k0 y0) l (m:Int) s (i:Int):=rfl;rw [e];unfold w5F1;by_cases h1:i < m
   ·rw [decide_eq_true (show (i:Int) < (m:Int) by omega),br_t,wr (x:=1+(i:Int)) (by omega) (by omega),show 1+(i:Int)=((1+i:Nat):Int) by omega,ck_of (w15_P N hl (1+i) 95),ck_of (decide_eq_true (by simp only [List.length_cons,List.length_nil];omega)),wr (x:=(i:Int)+1) (by omega) (by omega),show (i:Int)+1=((i+1:Nat):Int) by omega]
    exact w5_loop1 N k0 k1 k2 hl m hm n (i+1) _ (by omega) (by omega) (by simp only [List.length_append,List.length_cons,List.length_nil];omega)
   ·rw [decide_eq_false (show ¬ (i:Int) < (m:Int) by omega),br_f]
    exact ⟨s,rfl,by omega⟩
theorem w5_eq {N:Nat} (hN:100<=N) {l:List Int} (hl:Okl l) (k:Int):∃ (s:List UInt8) (o:Int),w5z N k l=some (s,o)/\s.length<=40:=by
 unfold w5z w5 w5G;have ur:∀ (s:List UInt8) (o:Int),(some (w5r0 s o):O).bind w5un=some (s,o):=fun _ _=>rfl
 by_cases h0:k=0
 ·have p0:w15p N l 0 5=true:=w15_P N hl 0 5
  have p1:w15p N l 1 (IntKind.i64.wrap (2+w15y0 N l 0 5))=true:=w15_P N hl 1 _;rw [decide_eq_true h0,br_t,ck_of p0,ck_of p1];exact ⟨_,_,ur _ _,show 1<=40 by omega⟩
 ·rw [decide_eq_false h0,br_f]
  by_cases h1:k=1
  ·have p1:w15p N l 1 1000=true:=w15_P N hl 1 1000
   have p0:w15p N l 0 6=true:=w15_P N hl 0 6;have y1:w15y0 N l 1 1000=atZ l 1 1000:=w15_Y N hl 1 1000;have y0:w15y0 N l 0 6=atZ l 0 6:=w15_Y N hl 0 6;have b1:=atZ_lt (l:=l) (i:=1) (m:=1000) (by omega);have b0:=atZ_lt (l:=l) (i:=0) (m:=6) (by omega);rw [decide_eq_true h1,br_t,ck_of p1,ck_of p0,y1,y0];generalize atZ l 1 1000=a at b1;generalize atZ l 0 6=c at b0;obtain ⟨y,hy,g⟩:∃ y,(0<=y/\y < 1000)/\[0,7,10,42,999,a][c.toNat]?=some y:=by
    have:c.toNat < 6:=by omega
    generalize c.toNat=d at this
    match d,this with
    | 0,_=>exact ⟨0,by omega,rfl⟩
    | 1,_=>exact ⟨7,by omega,rfl⟩
    | 2,_=>exact ⟨10,by omega,rfl⟩
    | 3,_=>exact ⟨42,by omega,rfl⟩
    | 4,_=>exact ⟨999,by omega,rfl⟩
    | 5,_=>exact ⟨a,by omega,rfl⟩
   rw [gx_of b0.1 g,ck_t];obtain ⟨t,e1,e2⟩:=w5_loop0 N (fun y=>some (w5r0 y 0)) (fun _=>none) (fun _=>none) 2 N y [u8of (IntKind.i64.wrap (48+y.tmod 10))] (by omega) hy.1 (by omega) (by omega) (by simp only [List.length_cons,List.length_nil];omega);refine ⟨t,0,(congrArg (fun z:O=>z.bind w5un) e1).trans (ur _ _),?_⟩;simp only [List.length_cons,List.length_nil] at e2;omega
  ·have p0:w15p N l 0 7=true:=w15_P N hl 0 7
   have y0:w15y0 N l 0 7=atZ l 0 7:=w15_Y N hl 0 7;have b0:=atZ_lt (l:=l) (i:=0) (m:=7) (by omega);rw [decide_eq_false h1,br_f,ck_of p0,y0];generalize atZ l 0 7=c at b0;obtain ⟨y,hy,g⟩:∃ y:Nat,y<=40/\[(1:Int),2,3,5,8,39,40][c.toNat]?=some (y:Int):=by
    have:c.toNat < 7:=by omega
    generalize c.toNat=d at this
    match d,this with
    | 0,_=>exact ⟨1,by omega,rfl⟩
    | 1,_=>exact ⟨2,by omega,rfl⟩
    | 2,_=>exact ⟨3,by omega,rfl⟩
    | 3,_=>exact ⟨5,by omega,rfl⟩
    | 4,_=>exact ⟨8,by omega,rfl⟩
    | 5,_=>exact ⟨39,by omega,rfl⟩
    | 6,_=>exact ⟨40,by omega,rfl⟩
   rw [gx_of b0.1 g];obtain ⟨t,e1,e2⟩:=w5_loop1 N (fun y=>some (w5r0 y 0)) (fun _=>none) (fun _=>none) hl y hy N 0 [] (by omega) (by omega) (by simp only [List.length_nil];omega);exact ⟨t,0,(congrArg (fun z:O=>z.bind w5un) e1).trans (ur _ _),e2⟩
theorem w3_l0 {N:Nat} (hN:100<=N) (kd op:Int) (l:List Int) (raw:List UInt8) (k k':Int) (C:List Int) (T:List (List UInt8)) (i:Nat) (c:Int) (hc:C[i]?=some c) (hT:∀ t ∈ T,t.length<=50) (hT2:T.length<=100)
    (K0:Bool->O) (K1:Int×Int×List Int×List UInt8×Int×Int×Int×List Int×List (List UInt8)->O) (K2:Unit->O):∀ (n j:Nat),T.length - j < n->j<=T.length->
    w3l0 N n (kd,op,l,raw,k,k',(i:Int),(j:Int),C,T) K0 K1 K2=K1 (kd,op,l,raw,k,k',(i:Int),C,T)
 | 0,j,h,_=>by omega
 | n+1,j,h,hj=>by
   have e:w3l0 N (n+1) (kd,op,l,raw,k,k',(i:Int),(j:Int),C,T) K0 K1 K2=w3F0 N (fun v0=>w3l0 N n (kd,op,l,raw,k,k',(i:Int),v0,C,T) K0 K1 K2) (fun y0=>K0 y0) (fun y0 y1 y2 y3 y4 y5 y6 y7 y8=>K1 (y0,y1,y2,y3,y4,y5,y6,y7,y8)) kd op l raw k k' (i:Int) C T (j:Int):=rfl;rw [e];unfold w3F0;by_cases h1:j < T.length
   ·have g:=List.getElem?_eq_getElem h1
    have hm:=hT _ (List.getElem_mem h1);generalize T[j]=t at g hm;have hs:t.length < N:=by omega
    have hs':t.length<=1000000:=by omega
    have p8:=w8_P hs hs';have p9:=w9_P hs hs';have y8:=w8_Y hs hs';have y9:=w9_Y hs hs';rw [decide_eq_true (show (j:Int) < (T.length:Int) by omega),br_t,gx_at hc,gx_at g,ck_of (p8 _ _),gx_at hc,gx_at g,ck_of (p9 _ _),y8,y9];have eb:∀ b:Bool,(b == b)=true:=fun b=>by cases b <;> rfl
    rw [eb,Bool.not_true,Bool.not_false,gc_t,gx_at hc,gc_t,gx_at g,ck_of (show (!true||w8p N kd c t)=true by rw [p8];rfl),gc_t,gx_at hc,gc_t,gx_at g,ck_of (show (!true||w9p N kd c t)=true by rw [p9];rfl),y8,y9,eb,Bool.not_true,Bool.false_or,br_f,wr (by omega) (by omega),show (j:Int)+1=((j+1:Nat):Int) by omega];exact w3_l0 hN kd op l raw k k' C T i c hc hT hT2 K0 K1 K2 n (j+1) (by omega) (by omega)
   ·rw [decide_eq_false (show ¬ (j:Int) < (T.length:Int) by omega),br_f]
theorem w3_l1 {N:Nat} (hN:200<=N) (kd op:Int) (l:List Int) (raw:List UInt8) (k k':Int) (C:List Int) (T:List (List UInt8)) (hC:C.length<=100) (hT:∀ t ∈ T,t.length<=50) (hT2:T.length<=100)
    (K0:Bool->O) (K1:Int×Int×List Int×List UInt8×Int->O) (K2:Unit->O):∀ (n i:Nat),C.length - i < n->i<=C.length->
    w3l1 N n (kd,op,l,raw,k,k',(i:Int),C,T) K0 K1 K2=K1 (kd,op,l,raw,k)
 | 0,i,h,_=>by omega
 | n+1,i,h,hi=>by
   have e:w3l1 N (n+1) (kd,op,l,raw,k,k',(i:Int),C,T) K0 K1 K2=w3F1 N (w3n0 N) (fun v0 v1 v2 v3 v4 v5 v6 v7 v8=>w3l1 N n (v0,v1,v2,v3,v4,v5,v6,v7,v8) K0 K1 K2) (fun y0=>K0 y0) (fun y0 y1 y2 y3 y4=>K1 (y0,y1,y2,y3,y4)) kd op l raw k k' (i:Int) C T:=rfl;rw [e];unfold w3F1;by_cases h1:i < C.length
   ·have g:=List.getElem?_eq_getElem h1
    generalize C[i]=c at g;rw [decide_eq_true (show (i:Int) < (C.length:Int) by omega),br_t];refine (w3_l0 (by omega) kd op l raw k k' C T i c g hT hT2 _ _ _ N 0 (by omega) (Nat.zero_le _)).trans ?_;simp only [];rw [wr (by omega) (by omega),show (i:Int)+1=((i+1:Nat):Int) by omega];exact w3_l1 hN kd op l raw k k' C T hC hT hT2 K0 K1 K2 n (i+1) (by omega) (by omega)
   ·rw [decide_eq_false (show ¬ (i:Int) < (C.length:Int) by omega),br_f]
theorem w3_l2 {N:Nat} (hN:200<=N) (kd op:Int) (ho:I64 op) (l:List Int) (hl:Okl l) (raw:List UInt8) (K0:Bool->O) (K1 K2:Unit->O):∀ (n j:Nat),5 - j < n->j<=5->
    w3l2 N n (kd,op,l,raw,(j:Int) - 1) K0 K1 K2=K1 ()
 | 0,j,h,_=>by omega
 | n+1,j,h,hj=>by
   have e:w3l2 N (n+1) (kd,op,l,raw,(j:Int) - 1) K0 K1 K2=w3F2 N (w3n0 N) (w3n1 N) (fun v0 v1 v2 v3 v4=>w3l2 N n (v0,v1,v2,v3,v4) K0 K1 K2) (fun y0=>K0 y0) (fun y0=>K1 y0) kd op l raw ((j:Int) - 1):=rfl;rw [e];unfold w3F2;by_cases h1:j < 5
   ·obtain ⟨s,o,e5,hs⟩:=w5_eq (N:=N) (by omega) hl ((j:Int) - 1)
    have p5:w5p N ((j:Int) - 1) l=true:=by unfold w5p;rw [e5];rfl
    have y5:w5y0 N ((j:Int) - 1) l=s:=by unfold w5y0;rw [e5];rfl
    have e7:w7p N raw 45=true:=w7_P N raw 45;have y7:w7y0 N raw 45=raw.take 45:=w7_Y N raw 45;rw [decide_eq_true (show (j:Int) - 1<=3 by omega),br_t,ck_of p5,ck_of (w6_P N ho),y5,ck_of (decide_eq_true (by omega)),ck_of (decide_eq_true (by omega)),ck_of (decide_eq_true (by omega)),ck_of e7,ck_of (decide_eq_true (by omega)),y7];refine (w3_l1 hN kd op l raw _ _ _ _ (by simp only [List.length_cons,List.length_nil];omega) ?_ (by simp only [List.length_cons,List.length_nil];omega) _ _ _ N 0 (by simp only [List.length_cons,List.length_nil];omega) (Nat.zero_le _)).trans ?_
    ·intro t ht
     simp only [List.mem_cons,List.not_mem_nil,or_false] at ht;have:=List.length_take (i:=45) (l:=raw);rcases ht with rfl | rfl | rfl | rfl | rfl | rfl | rfl | rfl <;> first
      | omega
      | (simp only [List.length_append,List.length_cons,List.length_nil];omega)
    ·simp only []
     rw [wr (by omega) (by omega),show (j:Int) - 1+1=((j+1:Nat):Int) - 1 by omega];exact w3_l2 hN kd op ho l hl raw K0 K1 K2 n (j+1) (by omega) (by omega)
   ·rw [decide_eq_false (show ¬ (j:Int) - 1<=3 by omega),br_f]
theorem w3_eq {N:Nat} (hN:200<=N) (kd op:Int) (ho:I64 op) (l:List Int) (hl:Okl l) (raw:List UInt8):w3z N kd op l raw=some true:=by
 unfold w3z w3 w3G;exact congrArg (fun z:O=>z.bind w3un) (w3_l2 hN kd op ho l hl raw (fun y=>some (w3r0 y)) (fun _=>ck true (some (w3r0 true))) (fun _=>none) N 0 (by omega) (by omega))
end Go.Proofs
