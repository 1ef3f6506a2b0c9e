/- Valid in plain words. Conditions are in the theorems. -/
import Derived.Test.YtmbdfpgaokbkkaaDoorF2
import Derived.Test.YtmbdfpgaokbkkaaDoorF1
import Derived.Test.YtmbdfpgaokbkkaaDoorG0
import Derived.KernelRfl
/- Small laws: places, numbers, which kinds fit; Valid in plain words. -/
namespace Go.Proofs
open Go Go.Ax Go.Ax.Alg
theorem lim_of {n b:Nat} (h:n * b<=140737488355328) (h2:n<=140737488355327):lim n b=true:=decide_eq_true ⟨h,h2⟩
def aroundZ (n m:Int):Int:=if m < 1 then 0 else if n < 0 then (-(n+1)).tmod m else n.tmod m
theorem around_lt {n m:Int} (hm:1<=m):0<=aroundZ n m/\aroundZ n m < m:=by
 unfold aroundZ;rw [if_neg (by omega)];split
 ·exact ⟨Int.tmod_nonneg _ (by omega),Int.tmod_lt_of_pos _ (by omega)⟩
 ·exact ⟨Int.tmod_nonneg _ (by omega),Int.tmod_lt_of_pos _ (by omega)⟩
theorem w6_eq (N:Nat) {n m:Int} (hn:I64 n):w6z N n m=some (aroundZ n m):=by
 unfold w6z w6 w6G aroundZ;have ur:∀ x:Int,(some (w6r0 x):O).bind w6un=some x:=fun _=>rfl
 by_cases h0:n < 0
 ·rw [decide_eq_true h0,br_t]
  by_cases hm:m < 1
  ·rw [decide_eq_true hm,br_t,if_pos hm];rfl
  ·rw [decide_eq_false hm,br_f,ck_of (decide_eq_true (show m≠0 by omega)),if_neg hm,if_pos h0,ur,wr (x:=n+1) (by have:=hn.1;omega) (by omega),wr (by have:=hn.1;omega) (by have:=hn.1;omega)]
 ·rw [decide_eq_false h0,br_f]
  by_cases hm:m < 1
  ·rw [decide_eq_true hm,br_t,if_pos hm];rfl
  ·rw [decide_eq_false hm,br_f,ck_of (decide_eq_true (show m≠0 by omega)),if_neg hm,if_neg h0,ur]
theorem w6_P (N:Nat) {n m:Int} (hn:I64 n):w6p N n m=true:=by unfold w6p;rw [w6_eq N hn];rfl
theorem w6_Y (N:Nat) {n m:Int} (hn:I64 n):w6y0 N n m=aroundZ n m:=by unfold w6y0;rw [w6_eq N hn];rfl
def Okl (l:List Int):Prop:=∀ x ∈ l,I64 x
def atZ (l:List Int) (i:Nat) (m:Int):Int:=match l[i]? with
 | some x=>aroundZ x m
 | none=>0
theorem atZ_lt {l:List Int} {i:Nat} {m:Int} (hm:1<=m):0<=atZ l i m/\atZ l i m < m:=by
 unfold atZ;split
 ·exact around_lt hm
 ·omega
theorem w15_eq (N:Nat) {l:List Int} (hl:Okl l) (i:Nat) (m:Int):w15z N l (i:Int) m=some (atZ l i m):=by
 unfold w15z w15 w15G atZ;rw [decide_eq_false (show ¬ (i:Int) < 0 by omega),Bool.false_or];by_cases h:i < l.length
 ·have g:=List.getElem?_eq_getElem h
  have hx:=hl _ (List.getElem_mem h);rw [decide_eq_false (show ¬ (l.length:Int)<=(i:Int) by omega),br_f,gx_at g,ck_of (w6_P N hx),w6_Y N hx,g];rfl
 ·rw [decide_eq_true (show (l.length:Int)<=(i:Int) by omega),br_t,List.getElem?_eq_none (by omega)]
  rfl
theorem w15_P (N:Nat) {l:List Int} (hl:Okl l) (i:Nat) (m:Int):w15p N l (i:Int) m=true:=by unfold w15p;rw [w15_eq N hl];rfl
theorem w15_Y (N:Nat) {l:List Int} (hl:Okl l) (i:Nat) (m:Int):w15y0 N l (i:Int) m=atZ l i m:=by unfold w15y0;rw [w15_eq N hl];rfl
def rightZ (k o:Int):Bool:=if k=0 then decide (2<=o)&&decide (o<=6) else (decide (k=1)||decide (k=2))&&decide (o=0)
theorem w22_eq (N:Nat) (k o:Int):w22z N k o=some (rightZ k o):=by
 unfold w22z w22 w22G rightZ;by_cases h:k=0
 ·rw [decide_eq_true h,br_t,if_pos h];rfl
 ·rw [decide_eq_false h,br_f,if_neg h];rfl
theorem w22_P (N:Nat) (k o:Int):w22p N k o=true:=by unfold w22p;rw [w22_eq];rfl
theorem w22_Y (N:Nat) (k o:Int):w22y0 N k o=rightZ k o:=by unfold w22y0;rw [w22_eq];rfl
theorem w16_eq (N:Nat) (k o:Int):w16z N k o=some (rightZ k o):=by
 unfold w16z w16 w16G rightZ;by_cases h:k=0
 ·rw [decide_eq_true h,br_t,if_pos h];rfl
 ·rw [decide_eq_false h,br_f,if_neg h]
  by_cases h1:k=1
  ·rw [decide_eq_true h1,br_t,br_t];rfl
  ·rw [decide_eq_false h1,br_f]
   by_cases h2:k=2
   ·rw [decide_eq_true h2,br_t];rfl
   ·rw [decide_eq_false h2,br_f];rfl
theorem w16_P (N:Nat) (k o:Int):w16p N k o=true:=by unfold w16p;rw [w16_eq];rfl
theorem w16_Y (N:Nat) (k o:Int):w16y0 N k o=rightZ k o:=by unfold w16y0;rw [w16_eq];rfl
def chZ (c:UInt8):Bool:=decide (32<=c)&&decide (c<=126)
theorem w19_P (N:Nat) (n:Int):w19p N n=true:=rfl
theorem w19_Y (N:Nat) (n:Int):w19y0 N n=(decide (32<=n)&&decide (n<=126)):=rfl
theorem ch_int (c:UInt8):(decide ((32:Int)<=(c.toNat:Int))&&decide ((c.toNat:Int)<=126))=chZ c:=by
 unfold chZ;rw [Bool.eq_iff_iff];simp only [Bool.and_eq_true,decide_eq_true_eq,UInt8.le_iff_toNat_le];have e1:(32:UInt8).toNat=32:=rfl;have e2:(126:UInt8).toNat=126:=rfl;omega
theorem w18_eq (N:Nat) (c:UInt8):w18z N c=some (!chZ c):=by
 have h:=c.toNat_lt;unfold w18z w18 w18G;rw [wr (by omega) (by omega),ck_of (w19_P ..),w19_Y,ch_int];rfl
theorem w18_P (N:Nat) (c:UInt8):w18p N c=true:=by unfold w18p;rw [w18_eq];rfl
theorem w18_Y (N:Nat) (c:UInt8):w18y0 N c=!chZ c:=by unfold w18y0;rw [w18_eq];rfl
theorem w29_loop (N:Nat) (k0:Int->O) (k1 k2:Unit->O) (s:List UInt8) (hs:s.length<=1000000) (f:Int->Unit->O):∀ (n i:Nat),s.length - i < n->i<=s.length->
    (∃ j:Nat,w29l0 N n (s,(s.length:Int),(i:Int)) k0 k1 k2=k0 (j:Int)/\(s.drop i).all chZ=false)\/(w29l0 N n (s,(s.length:Int),(i:Int)) k0 k1 k2=k1 ()/\(s.drop i).all chZ=true)
 | 0,i,h,_=>by omega
 | n+1,i,h,hi=>by
   have e:w29l0 N (n+1) (s,(s.length:Int),(i:Int)) k0 k1 k2=w29F0 N (fun v0=>w29l0 N n (s,(s.length:Int),v0) k0 k1 k2) (fun y0=>k0 y0) (fun _=>k1 ()) s (s.length:Int) (i:Int):=rfl;rw [e];unfold w29F0;by_cases hlt:i < s.length
   ·have g:=List.getElem?_eq_getElem hlt
    rw [decide_eq_true (show (i:Int) < (s.length:Int) by omega),br_t,gx_at g,ck_of (w18_P ..),w18_Y,drop_at g,List.all_cons];cases hc:chZ s[i] with
    | false=>exact .inl ⟨i,by rw [Bool.not_false,br_t],rfl⟩
    | true=>
      rw [Bool.not_true,br_f,wr (by omega) (by omega),show (i:Int)+1=((i+1:Nat):Int) by omega,Bool.true_and];exact w29_loop N k0 k1 k2 s hs f n (i+1) (by omega) (by omega)
   ·rw [decide_eq_false (show ¬ (i:Int) < (s.length:Int) by omega),br_f,List.drop_eq_nil_of_le (by omega)]
    exact .inr ⟨rfl,rfl⟩
theorem w17_eq {N:Nat} {s:List UInt8} (hN:s.length < N) (hs:s.length<=1000000):w17z N s=some (!s.all chZ):=by
 have h:=w29_loop N (fun y=>some (w29r0 y)) (fun _=>some (w29r0 (-1))) (fun _=>none) s hs (fun _ _=>none) N 0 (by omega) (Nat.zero_le _);rw [List.drop_zero] at h;unfold w17z w17 w17G;rcases h with ⟨j,h1,h2⟩ | ⟨h1,h2⟩
 ·have e:w29z N s=some (j:Int):=congrArg (fun z:O=>z.bind w29un) h1
  have p:w29p N s=true:=by unfold w29p;rw [e];rfl
  have y:w29y0 N s=(j:Int):=by unfold w29y0;rw [e];rfl
  rw [ck_of p,y,h2,decide_eq_true (by omega)];rfl
 ·have e:w29z N s=some (-1):=congrArg (fun z:O=>z.bind w29un) h1
  have p:w29p N s=true:=by unfold w29p;rw [e];rfl
  have y:w29y0 N s = -1:=by unfold w29y0;rw [e];rfl
  rw [ck_of p,y,h2];rfl
theorem w17_P {N:Nat} {s:List UInt8} (hN:s.length < N) (hs:s.length<=1000000):w17p N s=true:=by unfold w17p;rw [w17_eq hN hs];rfl
theorem w17_Y {N:Nat} {s:List UInt8} (hN:s.length < N) (hs:s.length<=1000000):w17y0 N s=!s.all chZ:=by unfold w17y0;rw [w17_eq hN hs];rfl
end Go.Proofs
/- Valid, of both: validZ. -/
namespace Go.Proofs
open Go Go.Ax Go.Ax.Alg
def d3 (n:Nat):List UInt8:=if n < 10 then [UInt8.ofNat (48+n)] else if n < 100 then [UInt8.ofNat (48+n / 10),UInt8.ofNat (48+n % 10)] else [UInt8.ofNat (48+n / 100),UInt8.ofNat (48+n / 10 % 10),UInt8.ofNat (48+n % 10)]
theorem dec_d3 {n:Nat} (h:n < 1000):Lib.decDigits n=d3 n:=by
 unfold d3;split
 ·exact Lib.decDigits_one ‹_›
 ·split
  ·exact Lib.decDigits_two ‹_› ‹_›
  ·rw [Lib.decDigits,dif_neg (by omega),Lib.decDigits_two (by omega) (by omega),show n / 10 / 10=n / 100 by omega]
   rfl
theorem itoa_d3 {n:Nat} (h:n < 1000):Lib.itoa (n:Int)=d3 n:=by rw [Lib.itoa_nonneg,dec_d3 h]
def okA (n:Nat):Bool:=match Lib.atoiAll (d3 n) with
 | .ok v=>v == (n:Int)
 | _=>false
theorem okA_all:(List.range 1000).all okA=true:=by kernel_rfl
theorem atoi_d3 {n:Nat} (h:n < 1000):Lib.atoiAll (d3 n) = .ok (n:Int):=by
 have:=List.all_eq_true.1 okA_all n (List.mem_range.2 h);unfold okA at this;split at this
 ·next v e=>rw [e,eq_of_beq this]
 ·cases this
theorem atoi_i64 {s:List UInt8} {v:Int} (h:Lib.atoiAll s = .ok v):I64 v:=by
 unfold I64;cases s with
 | nil=>cases h
 | cons c r=>
   unfold Lib.atoiAll at h
   dsimp only at h
   cases hp:Lib.parseMag (if c.toNat=43\/c.toNat=45 then r else c::r)
   case ok u=>
    rw [hp] at h
    dsimp only at h
    by_cases h1:¬ c.toNat=45/\9223372036854775808<=u
    ·rw [if_pos h1] at h;cases h
    ·rw [if_neg h1] at h
     by_cases h2:c.toNat=45/\9223372036854775808 < u
     ·rw [if_pos h2] at h;cases h
     ·rw [if_neg h2] at h
      injection h with h;split at h <;> omega
   all_goals (rw [hp] at h;cases h)
theorem sat_i64 (s:List UInt8):I64 (Lib.atoiSat s):=by
 unfold Lib.atoiSat I64;split <;> omega
theorem w20_i64 (N:Nat) (s:List UInt8):I64 (w20y0 N s):=by
 unfold w20y0;split
 ·exact atoi_i64 ‹_›
 ·exact sat_i64 s
 ·unfold I64;omega
def numB (s:List UInt8) (b:Nat):Bool:=(List.range b).any fun n=>decide (s=d3 n)
def bndZ (k o:Int):Nat:=if k=0 then o.toNat else 1000
def validZ (k o:Int) (s:List UInt8):Bool:=rightZ k o&&(if k=2 then (decide (1<=s.length)&&decide (s.length<=40))&&s.all chZ else numB s (bndZ k o))
theorem numB_iff {s:List UInt8} {b:Nat}:numB s b=true ↔ ∃ n,n < b/\s=d3 n:=by
 unfold numB;rw [List.any_eq_true];constructor
 ·rintro ⟨n,h,e⟩
  exact ⟨n,List.mem_range.1 h,of_decide_eq_true e⟩
 ·rintro ⟨n,h,e⟩
  exact ⟨n,List.mem_range.2 h,decide_eq_true e⟩
theorem bnd_le {k o:Int} (h:rightZ k o=true):bndZ k o<=1000:=by
 unfold rightZ at h;unfold bndZ;split
 ·rename_i e
  rw [if_pos e] at h;simp only [Bool.and_eq_true,decide_eq_true_eq] at h;omega
 ·omega
theorem w8_eq {N:Nat} {s:List UInt8} (hN:s.length < N) (hs:s.length<=1000000) (k o:Int):w8z N k o s=some (validZ k o s):=by
 unfold w8z w8 w8G validZ;rw [ck_of (w16_P ..),w16_Y];cases hr:rightZ k o with
 | false=>rfl
 | true=>
   rw [Bool.not_true,br_f,Bool.true_and];by_cases h2:k=2
   ·rw [decide_eq_true h2,br_t,if_pos h2,ck_of (by rw [w17_P hN hs,Bool.or_true]),w17_Y hN hs,Bool.not_not]
    refine congrArg some ?_;rw [show decide ((1:Int)<=(s.length:Int))=decide (1<=s.length) from decide_eq_decide.2 (by omega),show decide ((s.length:Int)<=40)=decide (s.length<=40) from decide_eq_decide.2 (by omega)];rfl
   ·have hi:=w20_i64 N s
    rw [decide_eq_false h2,br_f,if_neg h2,ck_of (show w20p N s=true from decide_eq_true hs),ck_of (show (_||w21p N (w20y0 N s))=true by rw [show w21p N (w20y0 N s)=true from decide_eq_true hi,Bool.or_true])];have e1:Nat.add._f Nat.zero PUnit.unit (w20y1 N s)=w20y1 N s:=rfl;rw [e1];have hk:k=0\/k=1:=by
     unfold rightZ at hr;split at hr
     ·exact .inl ‹_›
     ·simp only [Bool.and_eq_true,Bool.or_eq_true,decide_eq_true_eq] at hr
      omega
    have hb:=bnd_le hr;cases ha:Lib.atoiAll s with
    | ok v=>
      have y1:w20y1 N s=1:=by unfold w20y1;rw [ha]
      have y0:w20y0 N s=v:=by unfold w20y0;rw [ha]
      rw [y1,y0];by_cases hc:¬ v < 0/\Lib.itoa v=s
      ·have e2:(decide ((1:Nat)≠1)||decide (v < 0)||decide (w21y0 N v≠s))=false:=by
        rw [decide_eq_false (show ¬ (1:Nat)≠1 from fun h=>h rfl),decide_eq_false hc.1,decide_eq_false (show ¬ w21y0 N v≠s from fun h=>h hc.2)];rfl
       rw [e2,br_f];refine congrArg some ?_;show (decide (k=0)&&decide (v < o)||decide (k=1)&&decide (v<=999))=_;rw [Bool.eq_iff_iff,numB_iff];simp only [Bool.or_eq_true,Bool.and_eq_true,decide_eq_true_eq];constructor
       ·intro h
        have hv:v.toNat < bndZ k o:=by
         unfold bndZ;split <;> omega
        refine ⟨v.toNat,hv,?_⟩;rw [← itoa_d3 (by omega),Int.toNat_of_nonneg (by omega),hc.2]
       ·rintro ⟨n,hn,e⟩
        have:=atoi_d3 (n:=n) (by omega);rw [← e,ha] at this;injection this with this;unfold bndZ at hn;split at hn <;> omega
      ·have e2:(decide ((1:Nat)≠1)||decide (v < 0)||decide (w21y0 N v≠s))=true:=by
        by_cases h0:v < 0
        ·rw [decide_eq_true h0,Bool.or_true,Bool.true_or]
        ·rw [decide_eq_true (show w21y0 N v≠s from fun h=>hc ⟨h0,h⟩),Bool.or_true]
       rw [e2,br_t];refine congrArg some ?_;show false=_;symm;rw [Bool.eq_false_iff];intro h;obtain ⟨n,hn,e⟩:=numB_iff.1 h;have:=atoi_d3 (n:=n) (by omega);rw [← e,ha] at this;injection this with this;refine hc ⟨by omega,?_⟩;rw [this,itoa_d3 (by omega),e]
    | _=>
      have y1:w20y1 N s=0:=by unfold w20y1;rw [ha]
      rw [y1,show decide ((0:Nat)≠1)=true from rfl,Bool.true_or,Bool.true_or,br_t];refine congrArg some ?_;show false=_;symm;rw [Bool.eq_false_iff];intro h;obtain ⟨n,hn,e⟩:=numB_iff.1 h;have:=atoi_d3 (n:=n) (by omega);rw [← e,ha] at this;cases this
theorem w8_P {N:Nat} {s:List UInt8} (hN:s.length < N) (hs:s.length<=1000000) (k o:Int):w8p N k o s=true:=by unfold w8p;rw [w8_eq hN hs];rfl
theorem w8_Y {N:Nat} {s:List UInt8} (hN:s.length < N) (hs:s.length<=1000000) (k o:Int):w8y0 N k o s=validZ k o s:=by unfold w8y0;rw [w8_eq hN hs];rfl
def okc (k:Int) (c:UInt8):Bool:=!(decide (c < 32)||decide (126 < c)||decide (k≠2)&&(decide (c < 48)||decide (57 < c)))
theorem w9_loop (N:Nat) (k o:Int) (b1 b2:Bool) (K0:Bool->O) (K1:Int×Int×List UInt8×Bool×Bool->O) (K2:Unit->O) (s:List UInt8) (hs:s.length<=1000000):∀ (n i:Nat),s.length - i < n->i<=s.length->
    w9l0 N n (k,o,s,b1,b2,(i:Int)) K0 K1 K2=if (s.drop i).all (okc k) then K1 (k,o,s,b1,b2) else K0 false
 | 0,i,h,_=>by omega
 | n+1,i,h,hi=>by
   have e:w9l0 N (n+1) (k,o,s,b1,b2,(i:Int)) K0 K1 K2=w9F0 N (fun v0=>w9l0 N n (k,o,s,b1,b2,v0) K0 K1 K2) (fun y0=>K0 y0) (fun y0 y1 y2 y3 y4=>K1 (y0,y1,y2,y3,y4)) k o s b1 b2 (i:Int):=rfl;rw [e];unfold w9F0;by_cases hlt:i < s.length
   ·have g:=List.getElem?_eq_getElem hlt
    have hd:=drop_at g;generalize s[i]=c at g hd;rw [decide_eq_true (show (i:Int) < (s.length:Int) by omega),br_t,gx_at g,gc_at g,gc_at g,gc_at g,hd,List.all_cons];have hcc:(decide (c < 32)||decide (126 < (if !decide (c < 32) then c else 0))||decide (k≠2)&&(decide ((if (!(decide (c < 32)||decide (126 < (if !decide (c < 32) then c else 0)))&&decide (k≠2)) then c else 0) < 48)||decide (57 < (if (!(decide (c < 32)||decide (126 < (if !decide (c < 32) then c else 0)))&&decide (k≠2)&&!decide ((if (!(decide (c < 32)||decide (126 < (if !decide (c < 32) then c else 0)))&&decide (k≠2)) then c else 0) < 48)) then c else 0))))=!okc k c:=by
     unfold okc;by_cases h1:c < 32
     ·rw [decide_eq_true h1];simp only [Bool.true_or,Bool.not_true];rfl
     ·rw [decide_eq_false h1];simp only [Bool.false_or,Bool.not_false,if_true]
      by_cases h3:126 < c
      ·rw [decide_eq_true h3];simp only [Bool.true_or,Bool.not_true];rfl
      ·rw [decide_eq_false h3];simp only [Bool.false_or,Bool.not_false,Bool.true_and]
       by_cases h2:k=2
       ·rw [decide_eq_false (show ¬ k≠2 from fun h=>h h2)];rfl
       ·rw [decide_eq_true h2];simp only [if_true,Bool.true_and]
        by_cases h4:c < 48
        ·rw [decide_eq_true h4];rfl
        ·rw [decide_eq_false h4];simp only [Bool.false_or,Bool.not_false,if_true,Bool.not_not]
    rw [hcc];cases okc k c with
    | false=>rfl
    | true=>
      rw [Bool.not_true,br_f,wr (by omega) (by omega),show (i:Int)+1=((i+1:Nat):Int) by omega,Bool.true_and];exact w9_loop N k o b1 b2 K0 K1 K2 s hs n (i+1) (by omega) (by omega)
   ·rw [decide_eq_false (show ¬ (i:Int) < (s.length:Int) by omega),br_f,List.drop_eq_nil_of_le (by omega)]
    rfl
def digB (c:UInt8):Bool:=decide (48<=c)&&decide (c<=57)
theorem okc_dig {k:Int} (h:k≠2):∀ c:UInt8,okc k c=digB c:=by
 intro c;unfold okc digB;rw [decide_eq_true h,Bool.true_and,Bool.eq_iff_iff];simp only [Bool.not_eq_true',Bool.or_eq_false_iff,Bool.and_eq_true,decide_eq_true_eq,decide_eq_false_iff_not,UInt8.lt_iff_toNat_lt,UInt8.le_iff_toNat_le];have e1:(32:UInt8).toNat=32:=rfl;have e2:(126:UInt8).toNat=126:=rfl;have e3:(48:UInt8).toNat=48:=rfl;have e4:(57:UInt8).toNat=57:=rfl;omega
theorem okc_2:∀ c:UInt8,okc 2 c=chZ c:=by
 intro c;unfold okc chZ;rw [decide_eq_false (show ¬ (2:Int)≠2 from fun h=>h rfl),Bool.false_and,Bool.or_false,Bool.eq_iff_iff];simp only [Bool.not_eq_true',Bool.or_eq_false_iff,Bool.and_eq_true,decide_eq_true_eq,decide_eq_false_iff_not,UInt8.lt_iff_toNat_lt,UInt8.le_iff_toNat_le];have e1:(32:UInt8).toNat=32:=rfl;have e2:(126:UInt8).toNat=126:=rfl;omega
theorem dig_nat {c:UInt8} (h:digB c=true):∃ a,a < 10/\c=UInt8.ofNat (48+a):=by
 unfold digB at h;simp only [Bool.and_eq_true,decide_eq_true_eq,UInt8.le_iff_toNat_le] at h;have e3:(48:UInt8).toNat=48:=rfl;have e4:(57:UInt8).toNat=57:=rfl;refine ⟨c.toNat - 48,by omega,?_⟩;rw [show 48+(c.toNat - 48)=c.toNat by omega,UInt8.ofNat_toNat]
theorem d3_all:(List.range 1000).all (fun n=>(d3 n).all digB&&decide ((d3 n).length<=3)&&decide (1<=(d3 n).length)&&(decide ((d3 n).length=1)||decide ((d3 n)[0]?≠some 48)))=true:=by kernel_rfl
theorem num_iff {s:List UInt8}:numB s 1000=true ↔ s.all digB=true/\s.length<=3/\1<=s.length/\(s.length=1\/s[0]?≠some 48):=by
 constructor
 ·intro h
  obtain ⟨n,hn,rfl⟩:=numB_iff.1 h;have:=List.all_eq_true.1 d3_all n (List.mem_range.2 hn);simp only [Bool.and_eq_true,Bool.or_eq_true,decide_eq_true_eq] at this;exact ⟨this.1.1.1,this.1.1.2,this.1.2,this.2⟩
 ·rintro ⟨h1,h2,h3,h4⟩
  refine numB_iff.2 ?_
  match s,h1,h2,h3,h4 with
  | [a],h1,_,_,_=>
    rw [List.all_cons,Bool.and_eq_true] at h1;obtain ⟨x,hx,rfl⟩:=dig_nat h1.1;exact ⟨x,by omega,by unfold d3;rw [if_pos hx]⟩
  | [a,b],h1,_,_,h4=>
    rw [List.all_cons,Bool.and_eq_true,List.all_cons,Bool.and_eq_true] at h1;obtain ⟨x,hx,rfl⟩:=dig_nat h1.1;obtain ⟨y,hy,rfl⟩:=dig_nat h1.2.1;have h0:x≠0:=by
     rintro rfl;rcases h4 with h | h
     ·cases h
     ·exact h rfl
    refine ⟨10 * x+y,by omega,?_⟩;unfold d3;rw [if_neg (by omega),if_pos (by omega),show (10 * x+y) / 10=x by omega,show (10 * x+y) % 10=y by omega]
  | [a,b,c],h1,_,_,h4=>
    rw [List.all_cons,Bool.and_eq_true,List.all_cons,Bool.and_eq_true,List.all_cons,Bool.and_eq_true] at h1;obtain ⟨x,hx,rfl⟩:=dig_nat h1.1;obtain ⟨y,hy,rfl⟩:=dig_nat h1.2.1;obtain ⟨z,hz,rfl⟩:=dig_nat h1.2.2.1;have h0:x≠0:=by
     rintro rfl;rcases h4 with h | h
     ·cases h
     ·exact h rfl
    refine ⟨100 * x+10 * y+z,by omega,?_⟩;unfold d3;rw [if_neg (by omega),if_neg (by omega),show (100 * x+10 * y+z) / 100=x by omega,show (100 * x+10 * y+z) / 10 % 10=y by omega,show (100 * x+10 * y+z) % 10=z by omega]
theorem w9_eq {N:Nat} {s:List UInt8} (hN:s.length < N) (hs:s.length<=1000000) (k o:Int):w9z N k o s=some (validZ k o s):=by
 unfold w9z w9 w9G validZ;rw [ck_of (w22_P ..),w22_Y];cases hr:rightZ k o with
 | false=>rfl
 | true=>
   rw [Bool.not_true,Bool.false_or,Bool.true_and];by_cases hl:s.length=0\/40 < s.length
   ·have e:(decide ((s.length:Int)=0)||decide (40 < (s.length:Int)))=true:=by
     simp only [Bool.or_eq_true,decide_eq_true_eq];omega
    rw [e,br_t];refine congrArg some ?_;show false=_;symm;split
    ·simp only [Bool.and_eq_false_iff,decide_eq_false_iff_not]
     omega
    ·rw [Bool.eq_false_iff]
     intro h;obtain ⟨n,hn,e⟩:=numB_iff.1 h;have hb:=bnd_le hr;have:=(num_iff (s:=s)).1 (numB_iff.2 ⟨n,by omega,e⟩);omega
   ·have e:(decide ((s.length:Int)=0)||decide (40 < (s.length:Int)))=false:=by
     simp only [Bool.or_eq_false_iff,decide_eq_false_iff_not];omega
    rw [e,br_f];refine (congrArg (fun z:O=>z.bind w9un) (w9_loop N k o false true (fun y=>some (w9r0 y)) _ (fun _=>none) s hs N 0 (by omega) (Nat.zero_le _))).trans ?_;rw [List.drop_zero];have ur:∀ x:Bool,(some (w9r0 x):O).bind w9un=some x:=fun _=>rfl
    by_cases h2:k=2
    ·subst h2
     rw [show okc 2=chZ from funext okc_2,if_pos rfl,decide_eq_true (show 1<=s.length by omega),decide_eq_true (show s.length<=40 by omega)];cases s.all chZ with
     | false=>rfl
     | true=>rfl
    ·rw [show okc k=digB from funext (okc_dig h2),if_neg h2]
     have hk:k=0\/k=1:=by
      unfold rightZ at hr;split at hr
      ·exact .inl ‹_›
      ·simp only [Bool.and_eq_true,Bool.or_eq_true,decide_eq_true_eq] at hr
       omega
     cases hd:s.all digB with
     | false=>
       rw [if_neg (by decide),ur];refine congrArg some ?_;symm;rw [Bool.eq_false_iff];intro h;obtain ⟨n,hn,e⟩:=numB_iff.1 h;have hb:=bnd_le hr;have:=(num_iff (s:=s)).1 (numB_iff.2 ⟨n,by omega,e⟩);rw [this.1] at hd;cases hd
     | true=>
       rw [if_pos rfl];have hne:0 < s.length:=by omega
       obtain ⟨w,g⟩:∃ w,s[0]?=some w:=⟨_,List.getElem?_eq_getElem hne⟩
       have gc0:∀ (c:Bool) (K:UInt8->O),gc c 0 s 0 K=K (if c then w else 0):=fun c K=>gc_at (i:=0) g K
       simp only [];rcases hk with rfl | rfl
       ·rw [decide_eq_true rfl,br_t,gc0,ur]
        refine congrArg some ?_;rw [Bool.eq_iff_iff,numB_iff,Bool.and_eq_true];simp only [decide_eq_true_eq];have ho:=hr;unfold rightZ at ho;rw [if_pos rfl,Bool.and_eq_true,decide_eq_true_eq,decide_eq_true_eq] at ho;have eb:bndZ 0 o=o.toNat:=rfl;rw [eb];constructor
        ·rintro ⟨h1,h3⟩
         obtain ⟨a,rfl⟩:∃ a,s=[a]:=by
          match s,(show s.length=1 by omega) with
          | [a],_=>exact ⟨a,rfl⟩
         rw [if_pos h1] at h3;rw [List.all_cons,Bool.and_eq_true] at hd;obtain ⟨x,hx,rfl⟩:=dig_nat hd.1;have e9:((UInt8.ofNat (48+x)) - 48).toNat=x:=by
          rw [UInt8.toNat_sub_of_le,UInt8.toNat_ofNat',show (48:UInt8).toNat=48 from rfl]
          ·omega
          ·rw [UInt8.le_iff_toNat_le,UInt8.toNat_ofNat',show (48:UInt8).toNat=48 from rfl]
           omega
         rw [← Option.some.inj g,e9,wr (by omega) (by omega)] at h3;exact ⟨x,by omega,by unfold d3;rw [if_pos hx]⟩
        ·rintro ⟨n,hn,rfl⟩
         have e:d3 n=[UInt8.ofNat (48+n)]:=by unfold d3;rw [if_pos (by omega)]
         have e9:((UInt8.ofNat (48+n)) - 48).toNat=n:=by
          rw [UInt8.toNat_sub_of_le,UInt8.toNat_ofNat',show (48:UInt8).toNat=48 from rfl]
          ·omega
          ·rw [UInt8.le_iff_toNat_le,UInt8.toNat_ofNat',show (48:UInt8).toNat=48 from rfl]
           omega
         have e7:w=UInt8.ofNat (48+n):=by rw [e] at g;exact (Option.some.inj g).symm
         have e8:((d3 n).length:Int)=1:=by rw [e];rfl
         refine ⟨e8,?_⟩;rw [if_pos e8,e7,e9,wr (by omega) (by omega)];omega
       ·rw [decide_eq_false (show ¬ (1:Int)=0 by omega),br_f,gc0,ur]
        refine congrArg some ?_;have eb:bndZ 1 o=1000:=rfl;rw [eb,Bool.eq_iff_iff,num_iff,g];rw [decide_eq_false (show ¬ (1:Int)=2 by omega)];simp only [Bool.false_or,Bool.not_false,Bool.true_and,Bool.and_eq_true,Bool.or_eq_true,decide_eq_true_eq,Bool.not_eq_true',decide_eq_false_iff_not,hd,true_and];constructor
        ·rintro ⟨h1,h3⟩
         refine ⟨by omega,by omega,?_⟩;rcases h3 with h3 | h3
         ·exact .inl (by omega)
         ·by_cases h4:s.length=1
          ·exact .inl h4
          ·rw [if_pos ⟨by omega,by omega⟩] at h3
           exact .inr fun e=>h3 (Option.some.inj e)
        ·rintro ⟨h1,h3,h4⟩
         refine ⟨by omega,?_⟩;rcases h4 with h4 | h4
         ·exact .inl (by omega)
         ·by_cases h5:s.length=1
          ·exact .inl (by omega)
          ·rw [if_pos ⟨by omega,by omega⟩]
           exact .inr fun e=>h4 (congrArg some e)
theorem w9_P {N:Nat} {s:List UInt8} (hN:s.length < N) (hs:s.length<=1000000) (k o:Int):w9p N k o s=true:=by unfold w9p;rw [w9_eq hN hs];rfl
theorem w9_Y {N:Nat} {s:List UInt8} (hN:s.length < N) (hs:s.length<=1000000) (k o:Int):w9y0 N k o s=validZ k o s:=by unfold w9y0;rw [w9_eq hN hs];rfl
end Go.Proofs
