/- What is printed is read. Conditions are in the theorems. -/
import Derived.Test.YtipllfcmdnellaaDoorG8
import Derived.Lib.Atoi
/- A text of words, and its tokens. -/
namespace Go.Proofs
open Go Go.Ax Go.Ax.Alg
abbrev Wd:=List UInt8×UInt8
def wtx:List Wd->List UInt8
 | []=>[]
 | p::P=>p.1++p.2::wtx P
def wtk:Nat->List Wd->List (List UInt8×Int)
 | _,[]=>[]
 | o,p::P=>(p.1,(o:Int))::wtk (o+p.1.length+1) P
structure WOk (p:Wd):Prop where
 ne:1<=p.1.length
 w:∀ c ∈ p.1,(32:UInt8) < c/\c < 127
 l:p.1.length<=7
 e:p.2=32\/p.2=10
theorem wtx_len:∀ P:List Wd,(∀ p ∈ P,WOk p)->(wtx P).length<=8 * P.length
 | [],_=>by simp [wtx]
 | p::P,h=>by
   have h1:=(h p (by simp)).l;have h2:=wtx_len P (fun q hq=>h q (by simp [hq]));unfold wtx;simp;omega
theorem wtk_fst:∀ (P:List Wd) (o:Nat),(wtk o P).map Prod.fst=P.map Prod.fst
 | [],_=>rfl
 | p::P,o=>by unfold wtk;rw [List.map_cons,List.map_cons,wtk_fst P]
theorem w41_in {s pre w rest:List UInt8} {c:UInt8} (hs:s=pre++(w++c::rest)) (hw:∀ c ∈ w,(32:UInt8) < c/\c < 127) (hc:c=32\/c=10) (hl:s.length<=100000) (b:Bool) (z:Int) (out:List (List UInt8×Int))
    (k0:List UInt8×Int×Int×List (List UInt8×Int)->O) (k1 k2:Unit->O):∀ (f i:Nat),w.length - i < f->i<=w.length->
    w41l0 2000 f (s,((pre.length+i:Nat):Int),b,z,out) k0 k1 k2=k0 (s,((pre.length+w.length:Nat):Int),z,out)
 | 0,i,h,_=>by omega
 | f+1,i,h,hi=>by
   show w41F0 2000 _ _ s b z out ((pre.length+i:Nat):Int)=_;unfold w41F0;have hsl:s.length=pre.length+(w.length+(rest.length+1)):=by rw [hs];simp
   have hlt:((pre.length+i:Nat):Int) < (s.length:Int):=by omega
   by_cases hiw:i < w.length
   ·have hg:s[pre.length+i]?=some w[i]:=by
     rw [hs,List.getElem?_append_right (by omega),List.getElem?_append_left (by omega),Nat.add_sub_cancel_left,List.getElem?_eq_getElem hiw]
    have hb:=hw _ (List.getElem_mem hiw);rw [decide_eq_true hlt,gc_t,gx_at hg,Bool.true_and,decide_eq_true hb.1,gc_t,gx_at hg,Bool.true_and,decide_eq_true hb.2,br_t,nxt (by omega)];exact w41_in hs hw hc hl b z out k0 k1 k2 f (i+1) (by omega) (by omega)
   ·have hiw:i=w.length:=by omega
    subst hiw;have hg:s[pre.length+w.length]?=some c:=by
     rw [hs,List.getElem?_append_right (by omega),List.getElem?_append_right (by omega)];simp
    have hn:¬ (32:UInt8) < c:=by rcases hc with rfl | rfl <;> decide
    rw [decide_eq_true hlt,gc_t,gx_at hg,Bool.true_and,decide_eq_false hn,gc_f,Bool.false_and,br_f]
theorem w41_out {s:List UInt8} (hl:s.length<=100000) (k0:Int×List (List UInt8×Int)->O) (k1:List UInt8×List (List UInt8×Int)->O) (k2:Unit->O):∀ (P:List Wd) (pre:List UInt8) (out:List (List UInt8×Int)) (f:Nat),s=pre++wtx P->(∀ p ∈ P,WOk p)->2 * P.length < f->out.length+P.length<=100000->
    w41l1 2000 f (s,(pre.length:Int),out) k0 k1 k2=k1 (s,out++wtk pre.length P)
 | [],pre,out,0,_,_,h,_=>by omega
 | [],pre,out,f+1,hs,_,_,_=>by
   have hs:s=pre:=by rw [hs];exact List.append_nil pre
   show w41F1 2000 _ _ _ _ s (pre.length:Int) out=_;unfold w41F1;rw [decide_eq_false (show ¬ ((pre.length:Nat):Int) < (s.length:Int) by rw [hs];omega),br_f];show k1 (s,out)=k1 (s,out++[]);rw [List.append_nil]
 | p::P,pre,out,0,_,_,h,_=>by omega
 | p::P,pre,out,1,_,_,h,_=>by rw [List.length_cons] at h;omega
 | p::P,pre,out,f+2,hs,hP,hf,ho=>by
   obtain ⟨w,c⟩:=p;have W:=hP _ List.mem_cons_self;have hs:s=pre++(w++c::wtx P):=hs;have hsl:s.length=pre.length+(w.length+((wtx P).length+1)):=by rw [hs];simp
   have hne:1<=w.length:=W.ne;have h7:w.length<=7:=W.l;rw [List.length_cons] at hf ho;have s1:∀ K:List UInt8->Int->Int->List (List UInt8×Int)->O,w41n0 2000 s (pre.length:Int) true (pre.length:Int) out K=K s ((pre.length+w.length:Nat):Int) (pre.length:Int) out:=fun K=>by
    have:=w41_in hs W.w W.e hl true (pre.length:Int) out (fun y=>K y.1 y.2.1 y.2.2.1 y.2.2.2) (fun _=>none) (fun _=>none) 2000 0 (by omega) (by omega);exact this
   have hs2:s=(pre++w)++([]++c::wtx P):=by rw [hs];simp
   have hpl:(pre++w).length=pre.length+w.length:=List.length_append;have s2:∀ (out':List (List UInt8×Int)) (K:List UInt8->Int->Int->List (List UInt8×Int)->O),w41n0 2000 s ((pre.length+w.length:Nat):Int) true ((pre.length+w.length:Nat):Int) out' K=K s ((pre.length+w.length:Nat):Int) ((pre.length+w.length:Nat):Int) out':=fun out' K=>by
    have:=w41_in hs2 (fun c h=>by cases h) W.e hl true ((pre.length+w.length:Nat):Int) out' (fun y=>K y.1 y.2.1 y.2.2.1 y.2.2.2) (fun _=>none) (fun _=>none) 2000 0 (by simp) (by simp);rw [hpl] at this;exact this
   show w41F1 2000 _ _ _ _ s (pre.length:Int) out=_;unfold w41F1;rw [decide_eq_true (show ((pre.length:Nat):Int) < (s.length:Int) by omega),br_t,s1];have hsc:slc s (some (pre.length:Int)) (some ((pre.length+w.length:Nat):Int))=w:=by
    show (s.take ((pre.length+w.length:Nat):Int).toNat).drop ((pre.length:Nat):Int).toNat=w;rw [Int.toNat_natCast,Int.toNat_natCast,hs2];show ((pre++w++(c::wtx P)).take (pre.length+w.length)).drop pre.length=w;rw [← hpl,List.take_left,List.drop_left]
   show br (decide ((pre.length:Int) < ((pre.length+w.length:Nat):Int))) _ _=_;rw [decide_eq_true (show (pre.length:Int) < ((pre.length+w.length:Nat):Int) by omega),br_t,ck_of (show slcOk s.length (some (pre.length:Int)) (some ((pre.length+w.length:Nat):Int))=true from decide_eq_true ⟨by omega,by omega,by omega⟩),hsc,ck_of (lim_of (by simp;omega) (by simp;omega))];show w41F1 2000 _ _ _ _ s ((pre.length+w.length:Nat):Int) (out++[(w,(pre.length:Int))])=_;unfold w41F1;rw [decide_eq_true (show ((pre.length+w.length:Nat):Int) < (s.length:Int) by omega),br_t,s2];have hg:s[pre.length+w.length]?=some c:=by
    rw [hs2,List.getElem?_append_right (by omega),hpl];simp
   have hgo:w41l1 2000 f (s,((pre.length+w.length+1:Nat):Int),out++[(w,(pre.length:Int))]) k0 k1 k2=k1 (s,out++wtk pre.length ((w,c)::P)):=by
    have hs3:s=(pre++w++[c])++wtx P:=by rw [hs];simp
    have hpl3:(pre++w++[c]).length=pre.length+w.length+1:=by simp;omega
    have ih:=w41_out hl k0 k1 k2 P (pre++w++[c]) (out++[(w,(pre.length:Int))]) f hs3 (fun p hp=>hP p (by simp [hp])) (by omega) (by simp;omega);rw [hpl3] at ih;refine ih.trans ?_;rw [List.append_assoc];rfl
   show br (decide (((pre.length+w.length:Nat):Int) < ((pre.length+w.length:Nat):Int))) _ _=_;rw [decide_eq_false (show ¬ ((pre.length+w.length:Nat):Int) < ((pre.length+w.length:Nat):Int) by omega),br_f,gx_at hg];rcases (show c=32\/c=10 from W.e) with rfl | rfl
   ·show w41l1 2000 f (s,IntKind.i64.wrap (((pre.length+w.length:Nat):Int)+1),out++[(w,(pre.length:Int))]) k0 k1 k2=_
    rw [nxt (by omega)];exact hgo
   ·have e1:decide ((10:UInt8)=32)=false:=by decide
    rw [e1];show gx s ((pre.length+w.length:Nat):Int) _=_;rw [gx_at hg];show w41l1 2000 f (s,IntKind.i64.wrap (((pre.length+w.length:Nat):Int)+1),out++[(w,(pre.length:Int))]) k0 k1 k2=_;rw [nxt (by omega)];exact hgo
theorem w41_eq {P:List Wd} (hP:∀ p ∈ P,WOk p) (h:2 * P.length < 2000):w41z 2000 (wtx P)=some (wtk 0 P,((wtx P).length:Int)):=by
 have hl:=wtx_len P hP;unfold w41z w41 w41G w41n1;refine (congrArg (fun z:O=>z.bind w41un) (w41_out (s:=wtx P) (by omega) _ _ _ P [] [] 2000 rfl hP h (by simp;omega))).trans ?_;rfl
end Go.Proofs
/- Rules are read of their tokens. -/
namespace Go.Proofs
open Go Go.Ax Go.Ax.Alg
abbrev Tk:=List (List UInt8×Int)
def tks (T:Tk) (i:Nat):List (List UInt8):=(T.drop i).map Prod.fst
theorem tks_cons {T:Tk} {i:Nat} {w:List UInt8} {ws:List (List UInt8)} (h:tks T i=w::ws):i < T.length/\(∃ o,T[i]?=some (w,o))/\tks T (i+1)=ws:=by
 have hi:i < T.length:=by
  rcases Nat.lt_or_ge i T.length with h' | h'
  ·exact h'
  ·unfold tks at h;rw [List.drop_eq_nil_of_le h'] at h;cases h
 unfold tks at h;rw [List.drop_eq_getElem_cons hi,List.map_cons] at h;injection h with h1 h2;exact ⟨hi,⟨T[i].2,by rw [List.getElem?_eq_getElem hi,← h1]⟩,h2⟩
theorem tks_nil {T:Tk} {i:Nat} (h:tks T i=[]):T.length<=i:=by
 unfold tks at h;have:=List.map_eq_nil_iff.1 h;exact List.drop_eq_nil_iff.1 this
section
variable {N:Nat} {T:Tk} {i:Nat} {b:Bool} {w:List UInt8} {ws:List (List UInt8)}
theorem w58_eq (h:tks T i=w::ws):w58z N T (i:Int) b=some (w,T,(i:Int),b):=by
 obtain ⟨hi,⟨o,hg⟩,_⟩:=tks_cons h;unfold w58z w58 w58G;rw [decide_eq_true (show (i:Int) < (T.length:Int) by omega),br_t,gx_at hg];rfl
def ixF (v:List UInt8):List (List UInt8)->Nat->Int
 | [],_=>-1
 | a::l,k=>if v=a then (k:Int) else ixF v l (k+1)
theorem w65_loop (L:List (List UInt8)) (v:List UInt8) (hl:L.length<=100) (K:Option Int->O) (k2:Unit->O):∀ (f k:Nat),L.length - k < f->k<=L.length->
    w65l0 2000 f (L,v,(L.length:Int),(k:Int)) (fun y=>K (some y)) (fun _=>K none) k2=K (if ixF v (L.drop k) k = -1 then none else some (ixF v (L.drop k) k))
 | 0,k,h,_=>by omega
 | f+1,k,h,hk=>by
   show w65F0 2000 _ _ _ L v (L.length:Int) (k:Int)=_;unfold w65F0;by_cases hlt:k < L.length
   ·have hg:=List.getElem?_eq_getElem hlt
    rw [decide_eq_true (show (k:Int) < (L.length:Int) by omega),br_t,gx_at hg,drop_at hg,nxt (by omega)];unfold ixF;by_cases hv:v=L[k]
    ·rw [decide_eq_true hv,br_t,if_pos hv,if_neg (by omega)]
    ·rw [decide_eq_false hv,br_f,if_neg hv]
     exact w65_loop L v hl K k2 f (k+1) (by omega) (by omega)
   ·rw [decide_eq_false (show ¬ (k:Int) < (L.length:Int) by omega),br_f,List.drop_eq_nil_of_le (by omega)]
    rfl
theorem w65_eq (L:List (List UInt8)) (v:List UInt8) (hl:L.length<=100):w65z 2000 L v=some (ixF v L 0):=by
 unfold w65z w65 w65G;have:=w65_loop L v hl (fun o=>match o with | some z=>some (w65r0 z) | none=>some (w65r0 (-1))) (fun _=>none) 2000 0 (by omega) (by omega);refine (congrArg (fun z:O=>z.bind w65un) this).trans ?_;rw [List.drop_zero];by_cases h:ixF v L 0 = -1
 ·rw [if_pos h,h];rfl
 ·rw [if_neg h];rfl
theorem w56_hit {L:List (List UInt8)} {k:Nat} (h:tks T i=w::ws) (hT:T.length<=100000) (hl:L.length<=100) (hx:ixF w L 0=(k:Int)):w56z 2000 L T (i:Int) b=some ((k:Int),T,((i+1:Nat):Int),b):=by
 have h58:=w58_eq (N:=2000) (b:=b) h;have h65:=w65_eq L w hl;have hi:=(tks_cons h).1;unfold w56z w56 w56G;rw [ck_of (w58_p h58),w58_y0 h58,w58_y1 h58,w58_y2 h58,w58_y3 h58];simp only [];rw [ck_of (w65_p h65),w65_y0 h65,hx,decide_eq_true (show (0:Int)<=(k:Int) by omega),br_t,nxt (by omega)];rfl
theorem w56_miss {L:List (List UInt8)} (h:tks T i=w::ws) (hl:L.length<=100) (hx:ixF w L 0 = -1):w56z 2000 L T (i:Int) b=some (-1,T,(i:Int),b):=by
 have h58:=w58_eq (N:=2000) (b:=b) h;have h65:=w65_eq L w hl;unfold w56z w56 w56G;rw [ck_of (w58_p h58),w58_y0 h58,w58_y1 h58,w58_y2 h58,w58_y3 h58];simp only [];rw [ck_of (w65_p h65),w65_y0 h65,hx,decide_eq_false (show ¬ (0:Int) <= -1 by omega),br_f];rfl
end
end Go.Proofs
/- Digits as text, and back. -/
namespace Go.Proofs
open Go Go.Ax Go.Ax.Alg
theorem dec_at {u t:Nat} (h:t < Lib.nDigits u):(Lib.decDigits u)[t]?=some (UInt8.ofNat (48+u / 10 ^ (Lib.nDigits u - 1 - t) % 10)):=by
 rw [Lib.decDigits_eq,List.getElem?_map,List.getElem?_range h];rfl
theorem dig_val {d:Nat} (h:d < 10):Lib.digitVal (UInt8.ofNat (48+d))=some d:=by
 rcases (show d=0\/d=1\/d=2\/d=3\/d=4\/d=5\/d=6\/d=7\/d=8\/d=9 by omega) with h | h | h | h | h | h | h | h | h | h <;> subst h <;> decide
theorem dig_sign {d:Nat} (h:d < 10):(UInt8.ofNat (48+d) == 45)=false/\(UInt8.ofNat (48+d) == 43)=false:=by
 rcases (show d=0\/d=1\/d=2\/d=3\/d=4\/d=5\/d=6\/d=7\/d=8\/d=9 by omega) with h | h | h | h | h | h | h | h | h | h <;> subst h <;> decide
theorem dec_from (u:Nat):Lib.decFrom 0 (Lib.decDigits u)=some u:=by
 induction u using Nat.strongRecOn with
 | _ u ih=>
   by_cases hu:u < 10
   ·rw [Lib.decDigits,dif_pos hu]
    have:=Lib.decFrom_take [UInt8.ofNat (48+u)] 0 0 0 (UInt8.ofNat (48+u)) u rfl rfl (dig_val hu);simpa using this
   ·have h:=ih (u / 10) (by omega)
    have hd:Lib.decDigits u=Lib.decDigits (u / 10)++[UInt8.ofNat (48+u % 10)]:=by rw [Lib.decDigits,dif_neg hu]
    have:=Lib.decFrom_take (Lib.decDigits u) (Lib.decDigits (u / 10)).length 0 (u / 10) (UInt8.ofNat (48+u % 10)) (u % 10) (by rw [hd,List.take_left];exact h) (by rw [hd];simp) (dig_val (by omega));rw [List.take_of_length_le (by rw [hd];simp)] at this;rw [this]
    congr 1
    omega
theorem atoi_dec (u:Nat):Lib.atoi (Lib.decDigits u)=some (u:Int):=by
 have h0:=dec_at (u:=u) (t:=0) (Lib.nDigits_pos u);have hf:=dec_from u;generalize Lib.decDigits u=l at *
 cases l with
 | nil=>cases h0
 | cons b r=>
   have hb:b=UInt8.ofNat (48+u / 10 ^ (Lib.nDigits u - 1 - 0) % 10):=by simpa using h0
   obtain ⟨s1,s2⟩:=dig_sign (d:=u / 10 ^ (Lib.nDigits u - 1 - 0) % 10) (by omega);rw [← hb] at s1 s2;simp only [Lib.atoi,s1,s2,Bool.false_eq_true,if_false];have:Lib.decNat (b::r)=some u:=hf;rw [this];rfl
theorem dig_of {d:Nat} (h:d < 10):(32:UInt8) < UInt8.ofNat (48+d)/\UInt8.ofNat (48+d) < 127:=by
 rcases (show d=0\/d=1\/d=2\/d=3\/d=4\/d=5\/d=6\/d=7\/d=8\/d=9 by omega) with h | h | h | h | h | h | h | h | h | h <;> subst h <;> decide
theorem dec_dig (u:Nat):∀ c ∈ Lib.decDigits u,(32:UInt8) < c/\c < 127:=by
 induction u using Nat.strongRecOn with
 | _ u ih=>
   by_cases h:u < 10
   ·rw [Lib.decDigits_one h];intro c hc;rw [List.mem_singleton] at hc;subst hc;exact dig_of h
   ·rw [Lib.decDigits,dif_neg h]
    intro c hc;rw [List.mem_append,List.mem_singleton] at hc;rcases hc with hc | rfl
    ·exact ih (u / 10) (by omega) c hc
    ·exact dig_of (by omega)
theorem dec_ne (u:Nat):1<=(Lib.decDigits u).length:=by rw [dec_len];exact Lib.nDigits_pos u
theorem w35_eq (N:Nat) {n:Int} (h0:0<=n) (h1:n < 1000000):w35p N n=true/\w35y0 N n=Lib.decDigits n.toNat:=by
 refine ⟨decide_eq_true ⟨by omega,by omega⟩,?_⟩;show Lib.itoa n=_;obtain ⟨u,rfl⟩:=Int.eq_ofNat_of_zero_le h0;rw [Lib.itoa_nonneg];rfl
theorem w74_eq (N:Nat) {n:Int} (h0:0<=n) (h1:n < 1000000):w74p N (Lib.decDigits n.toNat)=true/\w74y0 N (Lib.decDigits n.toNat)=n:=by
 have:=dec_le h1;unfold w74p w74y0;rw [atoi_dec,decide_eq_true (show (Lib.decDigits n.toNat).length<=18 by omega)];exact ⟨rfl,by show ((n.toNat:Nat):Int)=n;omega⟩
theorem w67_eq {n most:Int} (h0:0<=n) (h1:n < 1000000) (hm:n<=most):w67z 2000 (Lib.decDigits n.toNat) most=some (n,true):=by
 obtain ⟨p,y⟩:=w74_eq 2000 h0 h1;obtain ⟨p2,y2⟩:=w35_eq 2000 h0 h1;unfold w67z w67 w67G;rw [ck_of p,y,decide_eq_true h0,decide_eq_true hm,ck_of (show (!(true&&true&&true)||w35p 2000 n)=true from p2),y2,decide_eq_true rfl];rfl
theorem w66_eq (p t:List UInt8):w66z 2000 (p++t) p=some (t,true):=by
 have h80:w80z 2000 (p++t) p=some true:=by
  unfold w80z w80 w80G;have hle:((p.length:Nat):Int)<=((p++t).length:Int):=by simp;omega
  have hs:slc (p++t) none (some (p.length:Int))=p:=by
   show (p++t).take ((p.length:Nat):Int).toNat=p;rw [Int.toNat_natCast,List.take_left]
  rw [decide_eq_true hle,ck_of (show (!true||slcOk (p++t).length none (some (p.length:Int)))=true from decide_eq_true ⟨by omega,hle⟩),hs,decide_eq_true rfl];rfl
 have h73:w73z 2000 (p++t) p=some (t,true):=by
  unfold w73z w73 w73G;have hs:slc (p++t) (some (p.length:Int)) none=t:=by
   show (p++t).drop ((p.length:Nat):Int).toNat=t;rw [Int.toNat_natCast,List.drop_left]
  rw [ck_of (w80_p h80),w80_y0 h80];show (ck (slcOk (p++t).length (some (p.length:Int)) none) <| some (w73r0 (slc (p++t) (some (p.length:Int)) none) true)).bind w73un=_;rw [ck_of (show slcOk (p++t).length (some (p.length:Int)) none=true from decide_eq_true ⟨by omega,by simp;omega⟩),hs];rfl
 unfold w66z w66 w66G;rw [ck_of (w73_p h73),w73_y0 h73,w73_y1 h73];rfl
theorem w57_eq {T:Tk} {i:Nat} {b:Bool} {w:List UInt8} {ws:List (List UInt8)} {p:List UInt8} {least most n:Int} (h:tks T i=w::ws) (hT:T.length<=100000) (hw:w=p++Lib.decDigits n.toNat) (h0:0<=n) (h1:n < 1000000) (hm:n<=most) (hl:least<=n):
    w57z 2000 p least most T (i:Int) b=some (n,T,((i+1:Nat):Int),b):=by
 have h58:=w58_eq (N:=2000) (b:=b) h;have h66:=w66_eq p (Lib.decDigits n.toNat);have h67:=w67_eq h0 h1 hm;have hi:=(tks_cons h).1;unfold w57z w57 w57G;rw [ck_of (w58_p h58),w58_y0 h58,w58_y1 h58,w58_y2 h58,w58_y3 h58];simp only [];rw [hw,ck_of (w66_p h66),w66_y0 h66,w66_y1 h66];simp only [];rw [ck_of (w67_p h67),w67_y0 h67,w67_y1 h67];simp only [];rw [decide_eq_false (show ¬ n < least by omega),nxt (by omega)];rfl
end Go.Proofs
/- Terms and rules are read. -/
namespace Go.Proofs
open Go Go.Ax Go.Ax.Alg
def featT (t:Int):List UInt8:=[102]++Lib.decDigits (num t).toNat
def tlN (t:Int):Nat:=if t < 0 then 2 else 1
theorem tks_app {T:Tk} {i:Nat} {a ws:List (List UInt8)} (h:tks T i=a++ws):tks T (i+a.length)=ws:=by
 have e:tks T (i+a.length)=(tks T i).drop a.length:=by unfold tks;rw [List.map_drop,List.map_drop,List.drop_drop]
 rw [e,h,List.drop_left]
def lstN (out:List Int):Int:=num (out.getLastD 0)
theorem ix_not {w:List UInt8}:ixF ([102]++w) [[110,111,116]] 0 = -1:=by
 unfold ixF ixF;rw [if_neg (by intro h;cases h)]
theorem w55_eq {T:Tk} {i:Nat} {t:Int} {out:List Int} {ws:List (List UInt8)} (hT:T.length<=100000) (h:tks T i=(if t < 0 then [notT] else [])++featT t::ws) (h16:num t<=16) (hx:∀ x ∈ out,-16<=x/\x<=16) (ho:out.length < 8) (hl:lstN out < num t) (d a:Int):
    tks T (i+tlN t)=ws/\w55z 2000 d a T (i:Int) false out=some (d,a,T,((i+tlN t:Nat):Int),false,out++[t]):=by
 have hn:0<=num t:=by unfold num;omega
 have hlp:0<=lstN out:=by unfold lstN num;omega
 have s1:∀ K:Int->Int->Int->Int->Tk->Int->Bool->List Int->O,∀ s i':Int,w55n1 2000 s 0 d a T i' false out K=K s (lstN out) d a T i' false out:=fun K s i'=>by
  rw [w55n1_eq];unfold w55F1;by_cases h0:out=[]
  ·subst h0
   rfl
  ·have hp:0 < out.length:=List.length_pos_iff.2 h0
   have hg:out[out.length - 1]?=some (out.getLastD 0):=by
    rw [← List.getLast?_eq_getElem?,List.getLastD_eq_getLast?];cases h:out.getLast? with
    | none=>exact absurd (List.getLast?_eq_none_iff.1 h) h0
    | some x=>rfl
   have hm:=hx _ (List.mem_of_getElem? hg);have h36:=w36_eq (N:=2000) (t:=out.getLastD 0) (by omega) (by omega);have e:IntKind.i64.wrap ((out.length:Int) - 1)=((out.length - 1:Nat):Int):=by rw [wr (by omega) (by omega)];omega
   rw [decide_eq_true (show (0:Int) < (out.length:Int) by omega),br_t,e,gx_at hg,ck_of (w36_p h36),w36_y0 h36];rfl
 have fin:∀ (s:Int) (i':Nat),tks T i'=featT t::ws->(s=1/\0<=t\/s = -1/\t < 0)->((w55n1 2000 s 0 d a T (i':Int) false out fun z12 z13 z14 z15 z16 z17 z18 z19=>
         ck (w57p 2000 [(102:UInt8)] (IntKind.i64.wrap (z13+(1:Int))) (16:Int) z16 z17 z18) <|
         br (!w57y3 2000 [(102:UInt8)] (IntKind.i64.wrap (z13+(1:Int))) (16:Int) z16 z17 z18)
          (ck (lim (z19++[IntKind.i64.wrap (z12 * w57y0 2000 [(102:UInt8)] (IntKind.i64.wrap (z13+(1:Int))) (16:Int) z16 z17 z18)]).length (8:Nat)) <|
          some (w55r0 z14 z15 (w57y1 2000 [(102:UInt8)] (IntKind.i64.wrap (z13+(1:Int))) (16:Int) z16 z17 z18) (w57y2 2000 [(102:UInt8)] (IntKind.i64.wrap (z13+(1:Int))) (16:Int) z16 z17 z18) (w57y3 2000 [(102:UInt8)] (IntKind.i64.wrap (z13+(1:Int))) (16:Int) z16 z17 z18) (z19++[IntKind.i64.wrap (z12 * w57y0 2000 [(102:UInt8)] (IntKind.i64.wrap (z13+(1:Int))) (16:Int) z16 z17 z18)])))
          (some (w55r0 z14 z15 (w57y1 2000 [(102:UInt8)] (IntKind.i64.wrap (z13+(1:Int))) (16:Int) z16 z17 z18) (w57y2 2000 [(102:UInt8)] (IntKind.i64.wrap (z13+(1:Int))) (16:Int) z16 z17 z18) (w57y3 2000 [(102:UInt8)] (IntKind.i64.wrap (z13+(1:Int))) (16:Int) z16 z17 z18) z19))).bind w55un=some (d,a,T,((i'+1:Nat):Int),false,out++[t])):=fun s i' hi' hs=>by
  have e1:IntKind.i64.wrap (lstN out+1)=lstN out+1:=wr (by omega) (by omega);have h57:=w57_eq (b:=false) (p:=[102]) (least:=lstN out+1) (most:=16) (n:=num t) hi' hT rfl hn (by omega) h16 (by omega);have hst:IntKind.i64.wrap (s * num t)=t:=by
   rcases hs with ⟨rfl,h⟩ | ⟨rfl,h⟩
   ·rw [wr (by omega) (by omega)];unfold num;omega
   ·rw [wr (by omega) (by omega)];unfold num;omega
  rw [s1];show (ck (w57p 2000 [(102:UInt8)] (IntKind.i64.wrap (lstN out+(1:Int))) (16:Int) T (i':Int) false) _).bind w55un=_;rw [e1,ck_of (w57_p h57),w57_y0 h57,w57_y1 h57,w57_y2 h57,w57_y3 h57];simp only [];rw [hst,ck_of (lim_of (by simp;omega) (by simp;omega))];rfl
 unfold w55z w55 w55G;rw [w55n0_eq];unfold w55F0;by_cases ht:t < 0
 ·rw [if_pos ht] at h
  have h':tks T i=[110,111,116]::featT t::ws:=h;have h56:=w56_hit (b:=false) (L:=[[110,111,116]]) (k:=0) h' hT (by simp) (by decide);rw [ck_of (w56_p h56),w56_y0 h56,w56_y1 h56,w56_y2 h56,w56_y3 h56];simp only [];rw [show tlN t=2 from if_pos ht];exact ⟨(tks_cons (tks_cons h').2.2).2.2,fin (-1) (i+1) (tks_cons h').2.2 (.inr ⟨rfl,ht⟩)⟩
 ·rw [if_neg ht] at h
  have h':tks T i=featT t::ws:=h;have h56:=w56_miss (b:=false) (L:=[[110,111,116]]) h' (by simp) ix_not;rw [ck_of (w56_p h56),w56_y0 h56,w56_y1 h56,w56_y2 h56,w56_y3 h56];simp only [];rw [show tlN t=1 from if_neg ht];exact ⟨(tks_cons h').2.2,fin 1 i h' (.inl ⟨rfl,by omega⟩)⟩
theorem ix_and {d:Int}:ixF (wordT d) [[97,110,100]] 0 = -1:=by
 unfold ixF ixF wordT;split
 ·decide
 ·split <;> decide
theorem lst_app (out:List Int) (t:Int):lstN (out++[t])=num t:=by
 unfold lstN;rw [List.getLastD_concat]
theorem term_len (f:Bool) (t:Int):(termT f t).length=tlN t+1:=by
 unfold termT tlN;by_cases h:t < 0
 ·rw [if_pos h,if_pos h];rfl
 ·rw [if_neg h,if_neg h];rfl
theorem w42_terms {T:Tk} (hT:T.length<=100000) {d:Int} {ws:List (List UInt8)} (b:Bool) (x4 x5 x6 x7:Int) (k0:Tk×Int×Bool×Int×Int×Int×Int×List Int->O) (k1 k2:Unit->O):∀ (l out:List Int) (i f:Nat),tks T i=termsT false l++wordT d::ws->termsB (lstN out) l=true->(∀ x ∈ out,-16<=x/\x<=16)->out.length+l.length<=8->l.length < f->
    w42l0 2000 f (b,T,(i:Int),false,x4,x5,x6,x7,out) k0 k1 k2=k0 (T,((i+(termsT false l).length:Nat):Int),false,x4,x5,x6,x7,out++l)
 | [],out,i,0,_,_,_,_,h=>by omega
 | [],out,i,f+1,h,_,_,_,_=>by
   have h':tks T i=wordT d::ws:=h;show w42F0 2000 _ _ b x4 x5 T (i:Int) false x6 x7 out=_;unfold w42F0;have h56:=w56_miss (b:=false) (L:=[[97,110,100]]) h' (by simp) ix_and;rw [List.append_nil];cases h8:decide ((out.length:Int) < 8)
   ·rfl
   ·show (ck (w56p 2000 [[97,110,100]] T (i:Int) false) _)=_
    rw [ck_of (w56_p h56),w56_y0 h56,w56_y1 h56,w56_y2 h56,w56_y3 h56];rfl
 | t::l,out,i,0,_,_,_,_,h=>by omega
 | t::l,out,i,f+1,h,ht,hx,ho,hf=>by
   rw [List.length_cons] at ho hf;have h':tks T i=[97,110,100]::((if t < 0 then [notT] else [])++featT t::(termsT false l++wordT d::ws)):=by
    rw [h];show termT false t++termsT false l++_=_;unfold termT featT andT;simp
   unfold termsB at ht;rw [Bool.and_eq_true] at ht;obtain ⟨ht1,ht2⟩:=ht;have hb:(-16<=t/\t<=16)/\lstN out < num t:=by simpa using ht1
   have h56:=w56_hit (b:=false) (L:=[[97,110,100]]) (k:=0) h' hT (by simp) (by decide);obtain ⟨hj,h55⟩:=w55_eq hT (tks_cons h').2.2 (by unfold num;omega) hx (by omega) (by omega) x6 x7;have ih:=w42_terms hT b x4 x5 x6 x7 k0 k1 k2 l (out++[t]) (i+1+tlN t) f hj (by rw [lst_app];exact ht2) (by
    intro x hx';rcases List.mem_append.1 hx' with h | h
    ·exact hx x h
    ·rw [List.mem_singleton.1 h];omega) (by simp;omega) (by omega)
   show w42F0 2000 _ _ b x4 x5 T (i:Int) false x6 x7 out=_;unfold w42F0;rw [decide_eq_true (show (out.length:Int) < 8 by omega)];show (ck (w56p 2000 [[97,110,100]] T (i:Int) false) _)=_;rw [ck_of (w56_p h56),w56_y0 h56,w56_y1 h56,w56_y2 h56,w56_y3 h56];show (ck (w55p 2000 x6 x7 T ((i+1:Nat):Int) false out) _)=_;rw [ck_of (w55_p h55),w55_y0 h55,w55_y1 h55,w55_y2 h55,w55_y3 h55,w55_y4 h55,w55_y5 h55];refine ih.trans ?_;rw [List.append_assoc,show termsT false (t::l)=termT false t++termsT false l from rfl,List.length_append,term_len,show i+1+tlN t+(termsT false l).length=i+(tlN t+1+(termsT false l).length) by omega];rfl
end Go.Proofs
/- A rule is read; all rules are read. -/
namespace Go.Proofs
open Go Go.Ax Go.Ax.Alg
def headT (l:List Int):List (List UInt8):=if l=[] then [alwT] else termsT true l
theorem w42_head {T:Tk} (hT:T.length<=100000) {l:List Int} {d:Int} {ws:List (List UInt8)} {i:Nat} (ht:termsB 0 l=true) (h8:l.length<=8) (h:tks T i=headT l++wordT d::ws)
    (K:Tk->Int->Bool->Int->Int->Int->Int->List Int->O):w42n1 2000 T (i:Int) false 0 0 0 0 K=K T ((i+(headT l).length:Nat):Int) false 0 0 0 0 l:=by
 cases l with
 | nil=>
   have h':tks T i=[97,108,119,97,121,115]::wordT d::ws:=h;have h56:=w56_hit (b:=false) (L:=[[97,108,119,97,121,115],[105,102]]) (k:=0) h' hT (by simp) (by decide);rw [w42n1_eq];unfold w42F1;rw [ck_of (w56_p h56),w56_y0 h56,w56_y1 h56,w56_y2 h56,w56_y3 h56];rfl
 | cons t l=>
   have hh:headT (t::l)=termT true t++termsT false l:=rfl;rw [hh] at h ⊢;have h':tks T i=[105,102]::((if t < 0 then [notT] else [])++featT t::(termsT false l++wordT d::ws)):=by
    rw [h];unfold termT featT ifT;simp
   unfold termsB at ht;rw [Bool.and_eq_true] at ht;obtain ⟨ht1,ht2⟩:=ht;have hb:(-16<=t/\t<=16)/\0 < num t:=by simpa using ht1
   rw [List.length_cons] at h8;have h56:=w56_hit (b:=false) (L:=[[97,108,119,97,121,115],[105,102]]) (k:=1) h' hT (by simp) (by decide);have hl0:lstN []=0:=rfl;obtain ⟨hj,h55⟩:=w55_eq (out:=[]) hT (tks_cons h').2.2 (by unfold num;omega) (fun x hx=>by cases hx) (by simp) (by rw [hl0];omega) 0 0;have key:=w42_terms hT (d:=d) (ws:=ws) true 0 0 0 0 (fun y=>K y.1 y.2.1 y.2.2.1 y.2.2.2.1 y.2.2.2.2.1 y.2.2.2.2.2.1 y.2.2.2.2.2.2.1 y.2.2.2.2.2.2.2) (fun _=>none) (fun _=>none) l [t] (i+1+tlN t) 2000 hj (by rw [show lstN [t]=num t from rfl];exact ht2) (by intro x hx;rw [List.mem_singleton.1 hx];omega) (by simp;omega) (by omega);rw [w42n1_eq];unfold w42F1;rw [ck_of (w56_p h56),w56_y0 h56,w56_y1 h56,w56_y2 h56,w56_y3 h56];show (ck (w55p 2000 0 0 T ((i+1:Nat):Int) false []) _)=_;rw [ck_of (w55_p h55),w55_y0 h55,w55_y1 h55,w55_y2 h55,w55_y3 h55,w55_y4 h55,w55_y5 h55];refine key.trans ?_;rw [List.length_append,term_len,show i+1+tlN t+(termsT false l).length=i+(tlN t+1+(termsT false l).length) by omega];rfl
theorem w42_eq {T:Tk} (hT:T.length<=100000) {r:Rl} (hv:validB r=true) {i:Nat} {ws:List (List UInt8)} (h:tks T i=tksZ r++ws):w42z 2000 T (i:Int) false=some (r.1,r.2.1,r.2.2,T,((i+(tksZ r).length:Nat):Int),false):=by
 have V:=VR.of hv;obtain ⟨l,d,a⟩:=r;have ht:termsB 0 l=true:=by unfold validB at hv;rw [Bool.and_eq_true] at hv;exact hv.1
 have h8:l.length<=8:=V.l;have d0:0<=d:=V.d0;have d3:d < 3:=V.d3;have a0:-10000<=a:=V.a0;have a1:a<=9999:=V.a1;have hz:tksZ (l,d,a)=headT l++[wordT d]++amtT a:=rfl;have h':tks T i=headT l++wordT d::(amtT a++ws):=by rw [h,hz];simp
 have hj:=tks_app h';have hlen:(tksZ (l,d,a)).length=(headT l).length+3:=by
  rw [hz,List.length_append,List.length_append];have:(amtT a).length=2:=by unfold amtT;split <;> rfl
  rw [this];rfl
 rw [hlen,← Nat.add_assoc];unfold w42z w42 w42G;rw [w42_head hT ht h8 h'];generalize i+(headT l).length=j at hj;have h58:=w58_eq (N:=2000) (b:=false) hj;have hi:=(tks_cons hj).1;show (ck true <| ck (w58p 2000 T (j:Int) false) _).bind w42un=_;rw [ck_t,ck_of (w58_p h58),w58_y0 h58,w58_y1 h58,w58_y2 h58,w58_y3 h58];have hd:d=0\/d=1\/d=2:=by omega
 have h2:=(tks_cons hj).2.2;have hA:(a < 0/\tks T (j+1)=[109,111,115,116]::Lib.decDigits (-1 - a).toNat::ws)\/(0<=a/\tks T (j+1)=[108,101,97,115,116]::Lib.decDigits a.toNat::ws):=by
  rw [h2];unfold amtT;by_cases ha:a < 0
  ·rw [if_pos ha];exact .inl ⟨ha,rfl⟩
  ·rw [if_neg ha];exact .inr ⟨by omega,rfl⟩
 rcases hd with rfl | rfl | rfl <;> rcases hA with ⟨ha,hA⟩ | ⟨ha,hA⟩
 all_goals
  simp only [];rw [nxt (by omega)]
  first
  | (have h56:=w56_hit (b:=false) (L:=[[108,101,97,115,116],[109,111,115,116]]) (k:=1) hA hT (by simp) (by decide)
     have h57:=w57_eq (b:=false) (p:=[]) (least:=0) (most:=9999) (n:=-1 - a) (tks_cons hA).2.2 hT rfl (by omega) (by omega) (by omega) (by omega);show (ck (w56p 2000 [[108,101,97,115,116],[109,111,115,116]] T ((j+1:Nat):Int) false) _).bind w42un=_;rw [ck_of (w56_p h56),w56_y0 h56,w56_y1 h56,w56_y2 h56,w56_y3 h56];show (ck (w57p 2000 [] 0 9999 T ((j+1+1:Nat):Int) false) _).bind w42un=_;rw [ck_of (w57_p h57),w57_y0 h57,w57_y1 h57,w57_y2 h57,w57_y3 h57];simp only [];rw [wr (x:=-1 - (-1 - a)) (by omega) (by omega),show -1 - (-1 - a)=a by omega];rfl)
  | (have h56:=w56_hit (b:=false) (L:=[[108,101,97,115,116],[109,111,115,116]]) (k:=0) hA hT (by simp) (by decide)
     have h57:=w57_eq (b:=false) (p:=[]) (least:=0) (most:=9999) (n:=a) (tks_cons hA).2.2 hT rfl (by omega) (by omega) (by omega) (by omega);show (ck (w56p 2000 [[108,101,97,115,116],[109,111,115,116]] T ((j+1:Nat):Int) false) _).bind w42un=_;rw [ck_of (w56_p h56),w56_y0 h56,w56_y1 h56,w56_y2 h56,w56_y3 h56];show (ck (w57p 2000 [] 0 9999 T ((j+1+1:Nat):Int) false) _).bind w42un=_;rw [ck_of (w57_p h57),w57_y0 h57,w57_y1 h57,w57_y2 h57,w57_y3 h57];rfl)
end Go.Proofs
/- The text of rules is read as these rules. -/
namespace Go.Proofs
open Go Go.Ax Go.Ax.Alg
def prs:List (List UInt8)->List Wd
 | []=>[]
 | [t]=>[(t,10)]
 | t::u::l=>(t,32)::prs (u::l)
theorem prs_fst:∀ T:List (List UInt8),(prs T).map Prod.fst=T
 | []=>rfl
 | [_]=>rfl
 | t::u::l=>by unfold prs;rw [List.map_cons,prs_fst (u::l)]
theorem prs_tx:∀ T:List (List UInt8),T≠[]->∀ f:Bool,(if f then [] else [(32:UInt8)])++wtx (prs T)=sepT f T++[10]
 | [],h,_=>absurd rfl h
 | [t],_,f=>by
   show (if f then [] else [(32:UInt8)])++(t++[10])=(if f then [] else [32])++t++[]++[10];simp
 | t::u::l,_,f=>by
   have ih:=prs_tx (u::l) (by simp) false;show (if f then [] else [(32:UInt8)])++(t++32::wtx (prs (u::l)))=(if f then [] else [32])++t++sepT false (u::l)++[10];rw [List.append_assoc,← ih];simp
theorem prs_end:∀ (T:List (List UInt8)),∀ p ∈ prs T,p.1 ∈ T/\(p.2=32\/p.2=10)
 | [],p,h=>by cases h
 | [t],p,h=>by
   rw [show p=(t,10) from List.mem_singleton.1 h];exact ⟨by simp,.inr rfl⟩
 | t::u::l,p,h=>by
   unfold prs at h;rcases List.mem_cons.1 h with h | h
   ·rw [h];exact ⟨by simp,.inl rfl⟩
   ·have:=prs_end (u::l) p h
    exact ⟨List.mem_cons_of_mem _ this.1,this.2⟩
theorem prs_len:∀ (T:List (List UInt8)),(prs T).length=T.length
 | []=>rfl
 | [_]=>rfl
 | t::u::l=>by unfold prs;rw [List.length_cons,prs_len (u::l)];rfl
def wOk (t:List UInt8):Prop:=1<=t.length/\∀ c ∈ t,(32:UInt8) < c/\c < 127
theorem wOk_dec (n:Nat):wOk (Lib.decDigits n):=⟨dec_ne n,dec_dig n⟩
theorem tks_ok (r:Rl):∀ t ∈ tksZ r,wOk t:=by
 have ht:∀ (l:List Int) (f:Bool),∀ x ∈ termsT f l,wOk x:=by
  intro l
  induction l with
  | nil=>intro f x hx;cases hx
  | cons t l ih=>
    intro f x hx;unfold termsT at hx;rcases List.mem_append.1 hx with h | h
    ·unfold termT at h
     simp only [List.mem_append,List.mem_singleton] at h;rcases h with (h | h) | h
     ·subst h;split <;> exact ⟨by decide,by decide⟩
     ·split at h
      ·rw [List.mem_singleton.1 h];exact ⟨by decide,by decide⟩
      ·cases h
     ·subst h
      refine ⟨by simp,fun c hc=>?_⟩;rcases List.mem_append.1 hc with h | h
      ·rw [List.mem_singleton.1 h];decide
      ·exact dec_dig _ c h
    ·exact ih false x h
 intro x hx;unfold tksZ at hx;rcases List.mem_append.1 hx with h | h
 ·rcases List.mem_append.1 h with h | h
  ·split at h
   ·rw [List.mem_singleton.1 h];exact ⟨by decide,by decide⟩
   ·exact ht r.1 true x h
  ·rw [List.mem_singleton.1 h]
   unfold wordT;split
   ·exact ⟨by decide,by decide⟩
   ·split <;> exact ⟨by decide,by decide⟩
 ·unfold amtT at h
  split at h
  ·rcases List.mem_cons.1 h with h | h
   ·subst h;exact ⟨by decide,by decide⟩
   ·rw [List.mem_singleton.1 h];exact wOk_dec _
  ·rcases List.mem_cons.1 h with h | h
   ·subst h;exact ⟨by decide,by decide⟩
   ·rw [List.mem_singleton.1 h];exact wOk_dec _
def wordsT (L:List Rl):List Wd:=L.flatMap fun r=>prs (tksZ r)
theorem tks_ne (r:Rl):tksZ r≠[]:=by unfold tksZ;simp
theorem wtx_app:∀ P Q:List Wd,wtx (P++Q)=wtx P++wtx Q
 | [],_=>rfl
 | p::P,Q=>by show p.1++p.2::wtx (P++Q)=(p.1++p.2::wtx P)++wtx Q;rw [wtx_app P Q];simp
theorem words_tx:∀ L:List Rl,wtx (wordsT L)=textT L
 | []=>rfl
 | r::L=>by
   show wtx (prs (tksZ r)++wordsT L)=lineT r++textT L;rw [wtx_app,words_tx L];have:=prs_tx (tksZ r) (tks_ne r) true;unfold lineT;rw [← this];rfl
theorem words_fst:∀ L:List Rl,(wordsT L).map Prod.fst=L.flatMap tksZ
 | []=>rfl
 | r::L=>by
   show (prs (tksZ r)++wordsT L).map Prod.fst=tksZ r++L.flatMap tksZ;rw [List.map_append,prs_fst,words_fst L]
theorem words_ok {L:List Rl} (hL:∀ r ∈ L,VR r):∀ p ∈ wordsT L,WOk p:=by
 intro p hp;obtain ⟨r,hr,hp⟩:=List.mem_flatMap.1 hp;obtain ⟨h1,h2⟩:=prs_end _ p hp;have:=tks_ok r _ h1;exact ⟨this.1,this.2,tks_word (hL r hr) _ h1,h2⟩
theorem words_len {L:List Rl} (hL:∀ r ∈ L,VR r):(wordsT L).length<=27 * L.length:=by
 induction L with
 | nil=>simp [wordsT]
 | cons r L ih=>
   have h1:=ih (fun x hx=>hL x (by simp [hx]));have h2:=tks_len (hL r (by simp));show (prs (tksZ r)++wordsT L).length<=_;rw [List.length_append,prs_len,List.length_cons];omega
theorem w24_loop {T T1:Tk} (hT:T.length<=100000) (hT1:T1.length=T.length) (s:List UInt8) (e:Int) (k0:Int×Int->O) (k1:List UInt8×Int×List Rl->O) (k2:Unit->O):∀ (L out:List Rl) (i f:Nat),tks T i=L.flatMap tksZ->(∀ r ∈ L,validB r=true)->L.length < f->out.length+L.length<=1000->
    w24l0 2000 f (s,T1,e,T,(i:Int),false,out) k0 k1 k2=k1 (s,e,out++L)
 | [],out,i,0,_,_,h,_=>by omega
 | [],out,i,f+1,h,_,_,_=>by
   have:=tks_nil h;show w24F0 2000 _ _ _ s T1 e T (i:Int) false out=_;unfold w24F0;rw [decide_eq_false (show ¬ (i:Int) < (T1.length:Int) by omega),br_f,List.append_nil]
 | r::L,out,i,0,_,_,h,_=>by omega
 | r::L,out,i,f+1,h,hv,hf,ho=>by
   rw [List.length_cons] at hf ho;have h':tks T i=tksZ r++L.flatMap tksZ:=h;have hi:i < T.length:=by
    rcases Nat.lt_or_ge i T.length with h1 | h1
    ·exact h1
    ·unfold tks at h'
     rw [List.drop_eq_nil_of_le h1] at h';have:=(List.append_eq_nil_iff.1 h'.symm).1;exact absurd this (tks_ne r)
   have h42:=w42_eq hT (hv r (by simp)) h';have ih:=w24_loop hT hT1 s e k0 k1 k2 L (out++[r]) (i+(tksZ r).length) f (tks_app h') (fun x hx=>hv x (by simp [hx])) (by omega) (by simp;omega);show w24F0 2000 _ _ _ s T1 e T (i:Int) false out=_;unfold w24F0;rw [decide_eq_true (show (i:Int) < (T1.length:Int) by omega),br_t,ck_of (w42_p h42),w42_y0 h42,w42_y1 h42,w42_y2 h42,w42_y3 h42,w42_y4 h42,w42_y5 h42];simp only [];rw [br_f,ck_of (lim_of (by simp;omega) (by simp;omega))];refine ih.trans ?_;rw [List.append_assoc];rfl
theorem wtk_len (P:List Wd) (o:Nat):(wtk o P).length=P.length:=by
 have:=congrArg List.length (wtk_fst P o);simpa using this
theorem text_len {L:List Rl} (hL:∀ r ∈ L,VR r):(textT L).length<=250 * L.length:=by
 induction L with
 | nil=>simp [textT]
 | cons r L ih=>
   have h1:=ih (fun x hx=>hL x (by simp [hx]));have h2:=line_len (hL r (by simp));show (lineT r++textT L).length<=_;rw [List.length_append,List.length_cons];omega
theorem w24_ur (l:List Rl) (a b:Int):(some (w24r0 l a b):O).bind w24un=some (l,a,b):=rfl
theorem w24_text {L:List Rl} (h32:L.length<=32) (hv:∀ r ∈ L,validB r=true):w24z 2000 (textT L)=some (L,0,0):=by
 have hV:∀ r ∈ L,VR r:=fun r hr=>VR.of (hv r hr)
 have hl:=text_len hV;have hw:=words_len hV;have h41:=w41_eq (words_ok hV) (by omega);rw [words_tx] at h41;have hT:(wtk 0 (wordsT L)).length<=100000:=by rw [wtk_len];omega
 unfold w24z w24 w24G;rw [decide_eq_false (show ¬ (8192:Int) < ((textT L).length:Int) by omega),br_f,ck_of (w41_p h41),w41_y0 h41,w41_y1 h41];simp only [];unfold w24n0;refine (congrArg (fun z:O=>z.bind w24un) (w24_loop hT rfl (textT L) ((textT L).length:Int) _ _ _ L [] 0 2000 (by unfold tks;rw [List.drop_zero,wtk_fst,words_fst]) hv (by omega) (by simp;omega))).trans ?_;show (br (decide (((textT L).length:Int) < ((textT L).length:Int))) _ _).bind w24un=_;rw [decide_eq_false (show ¬ ((textT L).length:Int) < ((textT L).length:Int) by omega),br_f,List.nil_append,decide_eq_false (show ¬ (32:Int) < (L.length:Int) by omega),br_f];exact w24_ur L 0 0
end Go.Proofs
