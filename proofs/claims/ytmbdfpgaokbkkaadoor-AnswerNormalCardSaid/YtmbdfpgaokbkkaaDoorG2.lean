/- Devices in plain words. Conditions are in the theorems. -/
import Derived.Test.YtmbdfpgaokbkkaaDoorG1
import Derived.Test.YtmbdfpgaokbkkaaDoorF3
/- What is entered; chords; the voice; the keyboard: own devices and the reference's Step. -/
namespace Go.Proofs
open Go Go.Ax Go.Ax.Alg
def enterZ (t:List UInt8) (c:Int):List UInt8:=if t.length < 40/\32<=c/\c<=126 then t++[u8of c] else t
def removeZ (t:List UInt8):List UInt8:=t.take (t.length - 1)
theorem enter_len {t:List UInt8} (h:t.length<=40) (c:Int):(enterZ t c).length<=40:=by
 unfold enterZ;split
 ·simp only [List.length_append,List.length_cons,List.length_nil];omega
 ·exact h
theorem remove_len {t:List UInt8} (h:t.length<=40):(removeZ t).length<=40:=by
 unfold removeZ;rw [List.length_take];omega
theorem enter_b (t:List UInt8) (c:Int):((decide (32<=c)&&decide (c<=126))&&decide ((t.length:Int) < 40))=decide (t.length < 40/\32<=c/\c<=126):=by
 rw [Bool.eq_iff_iff];simp only [Bool.and_eq_true,decide_eq_true_eq];omega
theorem enter_b2 (t:List UInt8) (c:Int):(decide ((t.length:Int) < 40)&&decide (32<=c)&&decide (c<=126))=decide (t.length < 40/\32<=c/\c<=126):=by
 rw [Bool.eq_iff_iff];simp only [Bool.and_eq_true,decide_eq_true_eq];omega
theorem max_pred (t:List UInt8):(max 0 ((t.length:Int) - 1)).toNat=t.length - 1:=by omega
theorem c93_eq (N:Nat) {t:List UInt8} (h:t.length<=40) (c:Int) (d:Bool) (D S:Int):c93z N c d D S t=some (d,D,S,enterZ t c):=by
 unfold c93z c93 c93G enterZ;rw [ck_of (w19_P ..),w19_Y,enter_b];by_cases hc:t.length < 40/\32<=c/\c<=126
 ·rw [decide_eq_true hc,br_t,if_pos hc,ck_of (lim_of (by simp only [List.length_append,List.length_cons,List.length_nil];omega) (by simp only [List.length_append,List.length_cons,List.length_nil];omega))]
  rfl
 ·rw [decide_eq_false hc,br_f,if_neg hc];rfl
theorem o93_eq (N:Nat) {t:List UInt8} (h:t.length<=40) (c:Int) (d:Bool) (D:Int):o93z N c d D t=some (d,D,enterZ t c):=by
 unfold o93z o93 o93G enterZ;rw [ck_of (w19_P ..),w19_Y,enter_b];by_cases hc:t.length < 40/\32<=c/\c<=126
 ·rw [decide_eq_true hc,br_t,if_pos hc,ck_of (lim_of (by simp only [List.length_append,List.length_cons,List.length_nil];omega) (by simp only [List.length_append,List.length_cons,List.length_nil];omega))]
  rfl
 ·rw [decide_eq_false hc,br_f,if_neg hc];rfl
theorem k93_eq (N:Nat) {t:List UInt8} (h:t.length<=40) (c:Int) (d:Bool):k93z N c d t=some (d,enterZ t c):=by
 unfold k93z k93 k93G enterZ;rw [ck_of (w19_P ..),w19_Y,enter_b];by_cases hc:t.length < 40/\32<=c/\c<=126
 ·rw [decide_eq_true hc,br_t,if_pos hc,ck_of (lim_of (by simp only [List.length_append,List.length_cons,List.length_nil];omega) (by simp only [List.length_append,List.length_cons,List.length_nil];omega))]
  rfl
 ·rw [decide_eq_false hc,br_f,if_neg hc];rfl
theorem w47_eq (N:Nat) {t:List UInt8} (h:t.length<=40) (c:Int) (d:Bool) (D S w:Int):w47z N t d D S w c=some (enterZ t c,d,D,S,w):=by
 unfold w47z w47 w47G enterZ;rw [enter_b2];by_cases hc:t.length < 40/\32<=c/\c<=126
 ·rw [decide_eq_true hc,br_t,if_pos hc,ck_of (decide_eq_true (by simp only [List.length_cons,List.length_nil];omega))]
  rfl
 ·rw [decide_eq_false hc,br_f,if_neg hc];rfl
theorem c88_eq (N:Nat) {t:List UInt8} (h:t.length<=40) (d:Bool) (D S:Int):c88z N d D S t=some (d,D,S,removeZ t):=by
 unfold c88z c88 c88G removeZ;rw [wr (by omega) (by omega),ck_of (decide_eq_true (by omega)),max_pred];rfl
theorem o88_eq (N:Nat) {t:List UInt8} (h:t.length<=40) (d:Bool) (D:Int):o88z N d D t=some (d,D,removeZ t):=by
 unfold o88z o88 o88G removeZ;rw [wr (by omega) (by omega),ck_of (decide_eq_true (by omega)),max_pred];rfl
theorem k88_eq (N:Nat) {t:List UInt8} (h:t.length<=40) (d:Bool):k88z N d t=some (d,removeZ t):=by
 unfold k88z k88 k88G removeZ;rw [wr (by omega) (by omega),ck_of (decide_eq_true (by omega)),max_pred];rfl
theorem w48_eq (N:Nat) {t:List UInt8} (h:t.length<=40) (d:Bool) (D S w:Int):w48z N t d D S w=some (removeZ t,d,D,S,w):=by
 unfold w48z w48 w48G removeZ;have e:slc t none (some (max 0 ((t.length:Int) - 1)))=t.take (t.length - 1):=by
  show t.take (max 0 ((t.length:Int) - 1)).toNat=_;rw [max_pred]
 rw [wr (by omega) (by omega),ck_of (show slcOk t.length none (some (max 0 ((t.length:Int) - 1)))=true from decide_eq_true ⟨by omega,by omega⟩),e];rfl
abbrev Tri:Type:=Int×Int×Int
abbrev CS:Type:=List UInt8×Bool×Nat×Nat
def chordZ (S:Nat) (t:List UInt8) (d:Bool):List UInt8×Bool:=if S=512 then (enterZ t 32,d) else if S=256 then (removeZ t,d) else if S=384 then (t,true) else if S / 2<=94 then (enterZ t (32+((S / 2:Nat):Int)),d) else (t,d)
def stepC (s:CS) (e:Tri):CS:=
 if s.2.1=true\/e.1≠0\/e.2.1 < 1\/9 < e.2.1 then s
 else if e.2.2=1 then (s.1,s.2.1,s.2.2.1 ||| 2 ^ e.2.1.toNat,s.2.2.2 ||| 2 ^ e.2.1.toNat)
 else if e.2.2=0/\s.2.2.1.testBit e.2.1.toNat=true then
  if s.2.2.1 ^^^ 2 ^ e.2.1.toNat=0 then ((chordZ s.2.2.2 s.1 s.2.1).1,(chordZ s.2.2.2 s.1 s.2.1).2,0,0) else (s.1,s.2.1,s.2.2.1 ^^^ 2 ^ e.2.1.toNat,s.2.2.2)
 else s
structure IC (s:CS):Prop where
 l:s.1.length<=40
 D:s.2.2.1 < 1024
 S:s.2.2.2 < 1024
 sub:∀ e,s.2.2.1.testBit e=true->s.2.2.2.testBit e=true
theorem chord_len {S:Nat} {t:List UInt8} {d:Bool} (h:t.length<=40):(chordZ S t d).1.length<=40:=by
 unfold chordZ;split
 ·exact enter_len h _
 ·split
  ·exact remove_len h
  ·split
   ·exact h
   ·split
    ·exact enter_len h _
    ·exact h
theorem pow_lt {i:Nat} (h:i<=9):2 ^ i < 2 ^ 10:=Nat.pow_lt_pow_right (by omega) (by omega)
theorem IC.step {s:CS} (h:IC s) (e:Tri):IC (stepC s e):=by
 unfold stepC;split
 ·exact h
 ·rename_i hn
  have hi:e.2.1.toNat<=9:=by omega
  generalize e.2.1.toNat=i at hi;split
  ·refine ⟨h.l,Nat.or_lt_two_pow (n:=10) h.D (pow_lt hi),Nat.or_lt_two_pow (n:=10) h.S (pow_lt hi),fun j hj=>?_⟩
   simp only [Nat.testBit_or,Bool.or_eq_true] at hj ⊢;exact hj.imp (h.sub j) id
  ·split
   ·rename_i hb
    split
    ·exact ⟨chord_len h.l,(show 0 < 1024 by omega),(show 0 < 1024 by omega),fun j hj=>by simp at hj⟩
    ·refine ⟨h.l,Nat.xor_lt_two_pow (n:=10) h.D (pow_lt hi),h.S,fun j hj=>?_⟩
     simp only [Nat.testBit_xor,Nat.testBit_two_pow] at hj;by_cases e1:i=j
     ·subst e1
      rw [decide_eq_true rfl,hb.2] at hj;cases hj
     ·rw [decide_eq_false e1,Bool.xor_false] at hj
      exact h.sub j hj
   ·exact h
def bitZ (e:Nat):Int:=IntKind.i64.wrap (1 * 2 ^ min e (64:Nat))
def okBit (a e:Nat):Bool:=
 if a.testBit e then decide (andV IntKind.i64 a (bitZ e)≠0)&&decide (notV IntKind.i64 a (bitZ e)=((a ^^^ 2 ^ e:Nat):Int))&&decide (IntKind.i64.wrap ((a:Int) - bitZ e)=((a ^^^ 2 ^ e:Nat):Int))&&decide ((IntKind.i64.wrap ((a:Int).tdiv (bitZ e))).tmod 2=1)&&decide (orV IntKind.i64 a (bitZ e)=(a:Int))&&decide (a ||| 2 ^ e=a)
 else decide (andV IntKind.i64 a (bitZ e)=0)&&decide (orV IntKind.i64 a (bitZ e)=((a ||| 2 ^ e:Nat):Int))&&decide (IntKind.i64.wrap ((a:Int)+bitZ e)=((a ||| 2 ^ e:Nat):Int))&&decide ((IntKind.i64.wrap ((a:Int).tdiv (bitZ e))).tmod 2=0)
theorem okBit_all:(List.range 1024).all (fun a=>(List.range 9).all fun i=>okBit a (i+1))=true:=by kernel_rfl
theorem okBit_at {a e:Nat} (ha:a < 1024) (h1:1<=e) (h9:e<=9):okBit a e=true:=by
 have:=List.all_eq_true.1 (List.all_eq_true.1 okBit_all a (List.mem_range.2 ha)) (e - 1) (List.mem_range.2 (by omega))
 rwa [show e - 1+1=e by omega] at this
theorem bit_on {a e:Nat} (ha:a < 1024) (h1:1<=e) (h9:e<=9) (h:a.testBit e=true):andV IntKind.i64 a (bitZ e)≠0/\notV IntKind.i64 a (bitZ e)=((a ^^^ 2 ^ e:Nat):Int)/\IntKind.i64.wrap ((a:Int) - bitZ e)=((a ^^^ 2 ^ e:Nat):Int)/\(IntKind.i64.wrap ((a:Int).tdiv (bitZ e))).tmod 2=1/\orV IntKind.i64 a (bitZ e)=(a:Int)/\a ||| 2 ^ e=a:=by
 have:=okBit_at ha h1 h9;unfold okBit at this;rw [if_pos h] at this;simp only [Bool.and_eq_true,decide_eq_true_eq] at this;exact ⟨this.1.1.1.1.1,this.1.1.1.1.2,this.1.1.1.2,this.1.1.2,this.1.2,this.2⟩
theorem bit_off {a e:Nat} (ha:a < 1024) (h1:1<=e) (h9:e<=9) (h:¬ a.testBit e=true):andV IntKind.i64 a (bitZ e)=0/\orV IntKind.i64 a (bitZ e)=((a ||| 2 ^ e:Nat):Int)/\IntKind.i64.wrap ((a:Int)+bitZ e)=((a ||| 2 ^ e:Nat):Int)/\(IntKind.i64.wrap ((a:Int).tdiv (bitZ e))).tmod 2=0:=by
 have:=okBit_at ha h1 h9;unfold okBit at this;rw [if_neg h] at this;simp only [Bool.and_eq_true,decide_eq_true_eq] at this;exact ⟨this.1.1.1,this.1.1.2,this.1.2,this.2⟩
theorem bit_or {a e:Nat} (ha:a < 1024) (h1:1<=e) (h9:e<=9):orV IntKind.i64 a (bitZ e)=((a ||| 2 ^ e:Nat):Int):=by
 by_cases h:a.testBit e=true
 ·have:=bit_on ha h1 h9 h
  rw [this.2.2.2.2.1,this.2.2.2.2.2]
 ·exact (bit_off ha h1 h9 h).2.1
theorem bit_nz:(List.range 9).all (fun i=>decide (bitZ (i+1)≠0)&&decide ((IntKind.u64.wrap ((i+1:Nat):Int)).toNat=i+1)&&decide (0<=IntKind.u64.wrap ((i+1:Nat):Int)))=true:=by kernel_rfl
theorem bit_ne {e:Nat} (h1:1<=e) (h9:e<=9):bitZ e≠0/\(IntKind.u64.wrap (e:Int)).toNat=e/\0<=IntKind.u64.wrap (e:Int):=by
 have:=List.all_eq_true.1 bit_nz (e - 1) (List.mem_range.2 (by omega));rw [show e - 1+1=e by omega] at this;simp only [Bool.and_eq_true,decide_eq_true_eq] at this;exact ⟨this.1.1,this.1.2,this.2⟩
theorem c86_eq (N:Nat) {t:List UInt8} {d:Bool} {D S:Nat} (h:IC (t,d,D,S)) (x y k a b:Int):
    c86z N x y k a b d (D:Int) (S:Int) t=some ((stepC (t,d,D,S) (k,a,b)).2.1,((stepC (t,d,D,S) (k,a,b)).2.2.1:Int),((stepC (t,d,D,S) (k,a,b)).2.2.2:Int),(stepC (t,d,D,S) (k,a,b)).1):=by
 have ur:∀ (d:Bool) (D S:Int) (t:List UInt8),(some (c86r0 d D S t):O).bind c86un=some (d,D,S,t):=fun _ _ _ _=>rfl
 unfold c86z c86 c86G stepC;by_cases h0:d=true\/k≠0\/a < 1\/9 < a
 ·have e:(d||decide (k≠0)||decide (a < 1)||decide (9 < a))=true:=by
   simp only [Bool.or_eq_true,decide_eq_true_eq];rcases h0 with h | h | h | h
   ·exact .inl (.inl (.inl h))
   ·exact .inl (.inl (.inr h))
   ·exact .inl (.inr h)
   ·exact .inr h
  rw [e,br_t,ur,if_pos h0]
 ·have e:(d||decide (k≠0)||decide (a < 1)||decide (9 < a))=false:=by
   simp only [Bool.or_eq_false_iff,decide_eq_false_iff_not];have h0':=(not_or.1 h0).2;refine ⟨⟨⟨?_,by omega⟩,by omega⟩,by omega⟩;cases d with
   | false=>rfl
   | true=>exact absurd (Or.inl rfl) h0
  have h0':=(not_or.1 h0).2;obtain ⟨i,rfl⟩:∃ i:Nat,a=(i:Int):=⟨a.toNat,by omega⟩
  have h1:1<=i:=by omega
  have h9:i<=9:=by omega
  rw [e,br_f,if_neg h0,ck_of (decide_eq_true (show (0:Int)<=(i:Int) by omega))]
  dsimp only
  have en:((i:Int)).toNat=i:=Int.toNat_natCast i;have eb:IntKind.i64.wrap (1 * 2 ^ min i (64:Nat))=bitZ i:=rfl;rw [en,eb];by_cases hb:b=1
  ·rw [decide_eq_true hb,br_t,if_pos hb,bit_or h.D h1 h9,bit_or h.S h1 h9,ur]
  ·rw [decide_eq_false hb,br_f,if_neg hb]
   by_cases ho:D.testBit i=true
   ·have T:=bit_on h.D h1 h9 ho
    by_cases hb0:b=0
    ·rw [decide_eq_true hb0,decide_eq_true T.1,Bool.true_and,br_t,if_pos ⟨hb0,ho⟩,T.2.1]
     by_cases hz:D ^^^ 2 ^ i=0
     ·rw [decide_eq_false (show ¬ ((D ^^^ 2 ^ i:Nat):Int)≠0 by omega),br_f,if_pos hz,hz]
      have p93:∀ c:Int,c93p N c d ((0:Nat):Int) 0 t=true:=fun c=>by unfold c93p;rw [c93_eq N h.l];rfl
      have y93:∀ c:Int,c93y0 N c d ((0:Nat):Int) 0 t=d/\c93y1 N c d ((0:Nat):Int) 0 t=0/\c93y2 N c d ((0:Nat):Int) 0 t=0/\c93y3 N c d ((0:Nat):Int) 0 t=enterZ t c:=fun c=>by
       unfold c93y0 c93y1 c93y2 c93y3;rw [c93_eq N h.l];exact ⟨rfl,rfl,rfl,rfl⟩
      have p88:c88p N d ((0:Nat):Int) 0 t=true:=by unfold c88p;rw [c88_eq N h.l];rfl
      have y88:c88y0 N d ((0:Nat):Int) 0 t=d/\c88y1 N d ((0:Nat):Int) 0 t=0/\c88y2 N d ((0:Nat):Int) 0 t=0/\c88y3 N d ((0:Nat):Int) 0 t=removeZ t:=by
       unfold c88y0 c88y1 c88y2 c88y3;rw [c88_eq N h.l];exact ⟨rfl,rfl,rfl,rfl⟩
      have hS:=h.S;unfold chordZ
      dsimp only at hS ⊢
      by_cases s1:S=512
      ·rw [decide_eq_true (show (S:Int)=512 by omega),br_t,ck_of (p93 32),(y93 32).1,(y93 32).2.1,(y93 32).2.2.1,(y93 32).2.2.2,ur,if_pos s1];rfl
      ·rw [decide_eq_false (show ¬ (S:Int)=512 by omega),br_f,if_neg s1]
       by_cases s2:S=256
       ·rw [decide_eq_true (show (S:Int)=256 by omega),br_t,ck_of p88,y88.1,y88.2.1,y88.2.2.1,y88.2.2.2,ur,if_pos s2];rfl
       ·rw [decide_eq_false (show ¬ (S:Int)=256 by omega),br_f,if_neg s2]
        by_cases s3:S=384
        ·rw [decide_eq_true (show (S:Int)=384 by omega),br_t,ur,if_pos s3];rfl
        ·rw [decide_eq_false (show ¬ (S:Int)=384 by omega),br_f,if_neg s3]
         have ed:(S:Int).tdiv 2=((S / 2:Nat):Int):=rfl;by_cases s4:S < 256
         ·rw [decide_eq_true (show (S:Int) < 256 by omega),br_t,ck_t,ed,wr (x:=((S / 2:Nat):Int)) (by omega) (by omega),wr (x:=32+((S / 2:Nat):Int)) (by omega) (by omega),ck_of (p93 _),(y93 _).1,(y93 _).2.1,(y93 _).2.2.1,(y93 _).2.2.2,ur]
          by_cases s5:S / 2<=94
          ·rw [if_pos s5];rfl
          ·rw [if_neg s5,show enterZ t (32+((S / 2:Nat):Int))=t from if_neg (by omega)];rfl
         ·rw [decide_eq_false (show ¬ (S:Int) < 256 by omega),br_f,ur,if_neg (show ¬ S / 2<=94 by omega)];rfl
     ·rw [decide_eq_true (show ((D ^^^ 2 ^ i:Nat):Int)≠0 by omega),br_t,if_neg hz,ur]
    ·rw [decide_eq_false hb0,Bool.false_and,br_f,ur,if_neg (fun hh=>hb0 hh.1)]
   ·have T:=bit_off h.D h1 h9 ho
    rw [decide_eq_false (show ¬ andV IntKind.i64 (D:Int) (bitZ i)≠0 from fun hh=>hh T.1),Bool.and_false,br_f,ur,if_neg (fun hh=>ho hh.2)]
theorem w46_eq (N:Nat) {t:List UInt8} (h:t.length<=40) (d:Bool) (D X w:Int) {S:Nat} (hS:S < 1024):w46z N t d D X w (S:Int)=some ((chordZ S t d).1,(chordZ S t d).2,D,X,w):=by
 have ur:∀ (d:Bool) (D S w:Int) (t:List UInt8),(some (w46r0 t d D S w):O).bind w46un=some (t,d,D,S,w):=fun _ _ _ _ _=>rfl
 have p47:∀ c:Int,w47p N t d D X w c=true:=fun c=>by unfold w47p;rw [w47_eq N h];rfl
 have y47:∀ c:Int,w47y0 N t d D X w c=enterZ t c/\w47y1 N t d D X w c=d/\w47y2 N t d D X w c=D/\w47y3 N t d D X w c=X/\w47y4 N t d D X w c=w:=fun c=>by
  unfold w47y0 w47y1 w47y2 w47y3 w47y4;rw [w47_eq N h];exact ⟨rfl,rfl,rfl,rfl,rfl⟩
 have p48:w48p N t d D X w=true:=by unfold w48p;rw [w48_eq N h];rfl
 have y48:w48y0 N t d D X w=removeZ t/\w48y1 N t d D X w=d/\w48y2 N t d D X w=D/\w48y3 N t d D X w=X/\w48y4 N t d D X w=w:=by
  unfold w48y0 w48y1 w48y2 w48y3 w48y4;rw [w48_eq N h];exact ⟨rfl,rfl,rfl,rfl,rfl⟩
 unfold w46z w46 w46G chordZ;by_cases s1:S=512
 ·rw [decide_eq_true (show (S:Int)=512 by omega),br_t,ck_of (p47 32),(y47 32).1,(y47 32).2.1,(y47 32).2.2.1,(y47 32).2.2.2.1,(y47 32).2.2.2.2,ur,if_pos s1]
 ·rw [decide_eq_false (show ¬ (S:Int)=512 by omega),br_f,if_neg s1]
  by_cases s2:S=256
  ·rw [decide_eq_true (show (S:Int)=256 by omega),br_t,ck_of p48,y48.1,y48.2.1,y48.2.2.1,y48.2.2.2.1,y48.2.2.2.2,ur,if_pos s2]
  ·rw [decide_eq_false (show ¬ (S:Int)=256 by omega),br_f,if_neg s2]
   by_cases s3:S=384
   ·rw [decide_eq_true (show (S:Int)=384 by omega),br_t,ur,if_pos s3]
   ·rw [decide_eq_false (show ¬ (S:Int)=384 by omega),br_f,if_neg s3,ck_t]
    have ed:(S:Int).tdiv 2=((S / 2:Nat):Int):=rfl;rw [ed,wr (x:=((S / 2:Nat):Int)) (by omega) (by omega)];by_cases s5:S / 2<=94
    ·rw [decide_eq_true (show ((S / 2:Nat):Int)<=94 by omega),br_t,ck_t,wr (by omega) (by omega),ck_of (p47 _),(y47 _).1,(y47 _).2.1,(y47 _).2.2.1,(y47 _).2.2.2.1,(y47 _).2.2.2.2,ur,if_pos s5]
    ·rw [decide_eq_false (show ¬ ((S / 2:Nat):Int)<=94 by omega),br_f,ur,if_neg s5]
theorem w37_eq (N:Nat) {t:List UInt8} {D S:Nat} (h:IC (t,false,D,S)) (w x y k a b:Int):
    w37z N t false (D:Int) (S:Int) w x y k a b=some ((stepC (t,false,D,S) (k,a,b)).1,(stepC (t,false,D,S) (k,a,b)).2.1,((stepC (t,false,D,S) (k,a,b)).2.2.1:Int),((stepC (t,false,D,S) (k,a,b)).2.2.2:Int),w):=by
 have ur:∀ (d:Bool) (D S w:Int) (t:List UInt8),(some (w37r0 t d D S w):O).bind w37un=some (t,d,D,S,w):=fun _ _ _ _ _=>rfl
 unfold w37z w37 w37G stepC;by_cases h0:k≠0\/a < 1\/9 < a
 ·have e:(decide (k≠0)||decide (a < 1)||decide (9 < a))=true:=by
   simp only [Bool.or_eq_true,decide_eq_true_eq];omega
  rw [e,br_t,ur,if_pos (.inr h0)]
 ·have e:(decide (k≠0)||decide (a < 1)||decide (9 < a))=false:=by
   simp only [Bool.or_eq_false_iff,decide_eq_false_iff_not];omega
  obtain ⟨i,rfl⟩:∃ i:Nat,a=(i:Int):=⟨a.toNat,by omega⟩
  have h1:1<=i:=by omega
  have h9:i<=9:=by omega
  have U:=bit_ne h1 h9;rw [e,br_f,if_neg (show ¬ (false=true\/k≠0\/(i:Int) < 1\/9 < (i:Int)) from fun hh=>hh.elim (fun h=>by cases h) h0),ck_of (decide_eq_true U.2.2),U.2.1]
  dsimp only
  have en:((i:Int)).toNat=i:=Int.toNat_natCast i;have eb:IntKind.i64.wrap (1 * 2 ^ min i (64:Nat))=bitZ i:=rfl;rw [en,eb,ck_of (decide_eq_true U.1),ck_t];have fin:∀ (z1:Int) (z2:Bool) (z3:List UInt8) (z4:Bool) (z5 z6 z7 z8 z9 z10 z11 z12:Int) (z13:List UInt8) (z14:Bool) (z15 z16 z17:Int) (K:Int->Bool->List UInt8->Bool->Int->Int->Int->Int->Int->Int->Int->Int->List UInt8->Bool->Int->Int->Int->O),
   w37n0 N z1 z2 z3 z4 z5 z6 z7 z8 z9 z10 z11 z12 z13 z14 z15 z16 z17 K=w37F0 N K z1 z2 z3 z4 z5 z6 z7 z8 z9 z10 z11 z12 z13 z14 z15 z16 z17:=fun _ _ _ _ _ _ _ _ _ _ _ _ _ _ _ _ _ _=>rfl
  rw [fin];unfold w37F0;by_cases ho:D.testBit i=true
  ·have T:=bit_on h.D h1 h9 ho
   have TS:=bit_on h.S h1 h9 (h.sub i ho);rw [T.2.2.2.1,decide_eq_true rfl,Bool.not_true,Bool.and_false,br_f];simp only [];by_cases hb:b=1
   ·rw [decide_eq_false (show ¬ b=0 by omega),Bool.false_and,br_f,ur,if_pos hb,T.2.2.2.2.2,TS.2.2.2.2.2]
   ·rw [if_neg hb]
    by_cases hb0:b=0
    ·rw [decide_eq_true hb0,Bool.true_and,br_t,T.2.2.1,if_pos ⟨hb0,ho⟩]
     by_cases hz:D ^^^ 2 ^ i=0
     ·have e46:=w46_eq N h.l false ((D ^^^ 2 ^ i:Nat):Int) 0 w (S:=S) h.S
      have p46:w46p N t false ((D ^^^ 2 ^ i:Nat):Int) 0 w (S:Int)=true:=by unfold w46p;rw [e46];rfl
      have y46:w46y0 N t false ((D ^^^ 2 ^ i:Nat):Int) 0 w (S:Int)=(chordZ S t false).1/\w46y1 N t false ((D ^^^ 2 ^ i:Nat):Int) 0 w (S:Int)=(chordZ S t false).2/\w46y2 N t false ((D ^^^ 2 ^ i:Nat):Int) 0 w (S:Int)=((D ^^^ 2 ^ i:Nat):Int)/\w46y3 N t false ((D ^^^ 2 ^ i:Nat):Int) 0 w (S:Int)=0/\w46y4 N t false ((D ^^^ 2 ^ i:Nat):Int) 0 w (S:Int)=w:=by
       unfold w46y0 w46y1 w46y2 w46y3 w46y4;rw [e46];exact ⟨rfl,rfl,rfl,rfl,rfl⟩
      rw [decide_eq_true (show ((D ^^^ 2 ^ i:Nat):Int)=0 by omega),br_t,ck_of p46,y46.1,y46.2.1,y46.2.2.1,y46.2.2.2.1,y46.2.2.2.2,ur,if_pos hz,hz];rfl
     ·rw [decide_eq_false (show ¬ ((D ^^^ 2 ^ i:Nat):Int)=0 by omega),br_f,ur,if_neg hz]
    ·rw [decide_eq_false hb0,Bool.false_and,br_f,ur,if_neg (fun hh=>hb0 hh.1)]
  ·have T:=bit_off h.D h1 h9 ho
   rw [T.2.2.2,decide_eq_false (show ¬ (0:Int)=1 by omega),Bool.not_false,Bool.and_true];by_cases hb:b=1
   ·rw [decide_eq_true hb,br_t,ck_of (decide_eq_true U.1),ck_t,T.2.2.1,if_pos hb]
    by_cases hs:S.testBit i=true
    ·have TS:=bit_on h.S h1 h9 hs
     rw [TS.2.2.2.1,decide_eq_false (show ¬ (1:Int)=0 by omega),br_f];simp only [];rw [decide_eq_false (show ¬ b=0 by omega),Bool.false_and,br_f,ur,TS.2.2.2.2.2]
    ·have TS:=bit_off h.S h1 h9 hs
     rw [TS.2.2.2,decide_eq_true rfl,br_t];simp only [];rw [decide_eq_false (show ¬ b=0 by omega),Bool.false_and,br_f,ur,TS.2.2.1]
   ·rw [decide_eq_false hb,br_f,if_neg hb]
    simp only [];rw [Bool.and_false,br_f,ur,if_neg (fun hh=>ho hh.2)]
end Go.Proofs
/- The voice, the keyboard; Normal by chords, voice and keyboard, own and of the reference. -/
namespace Go.Proofs
open Go Go.Ax Go.Ax.Alg
abbrev VS:Type:=List UInt8×Bool×Int
def stepV (s:VS) (e:Tri):VS:=
 if s.2.1=true then s
 else if e.1=0/\32<=e.2.1/\e.2.1<=126 then (s.1,s.2.1,e.2.1)
 else if e.1=1/\(e.2.1=0\/e.2.1=1) then (if e.2.1=1/\0 < s.2.2 then (enterZ s.1 s.2.2,s.2.1,0) else (s.1,s.2.1,0))
 else if e.1=2 then (if s.2.2=0 then (removeZ s.1,s.2.1,0) else (s.1,s.2.1,0))
 else if e.1=3 then (s.1,true,0) else s
structure IV (s:VS):Prop where
 l:s.1.length<=40
 w:s.2.2=0\/32<=s.2.2
theorem IV.step {s:VS} (h:IV s) (e:Tri):IV (stepV s e):=by
 unfold stepV;split
 ·exact h
 ·split
  ·rename_i hc;exact ⟨h.l,.inr hc.2.1⟩
  ·split
   ·split
    ·exact ⟨enter_len h.l _,.inl rfl⟩
    ·exact ⟨h.l,.inl rfl⟩
   ·split
    ·split
     ·exact ⟨remove_len h.l,.inl rfl⟩
     ·exact ⟨h.l,.inl rfl⟩
    ·split
     ·exact ⟨h.l,.inl rfl⟩
     ·exact h
theorem o94_eq (N:Nat) {t:List UInt8} {d:Bool} {w:Int} (h:IV (t,d,w)) (x y k a b:Int):o94z N x y k a b d w t=some ((stepV (t,d,w) (k,a,b)).2.1,(stepV (t,d,w) (k,a,b)).2.2,(stepV (t,d,w) (k,a,b)).1):=by
 have ur:∀ (d:Bool) (w:Int) (t:List UInt8),(some (o94r0 d w t):O).bind o94un=some (d,w,t):=fun _ _ _=>rfl
 unfold o94z o94 o94G stepV;cases d with
 | true=>rfl
 | false=>
   rw [br_f,w19_P,Bool.or_true,ck_t,w19_Y,if_neg (show ¬ (false=true) from fun h=>by cases h)];by_cases h0:k=0/\32<=a/\a<=126
   ·rw [decide_eq_true h0.1,decide_eq_true h0.2.1,decide_eq_true h0.2.2,if_pos h0];rfl
   ·have e:(decide (k=0)&&(decide (32<=a)&&decide (a<=126)))=false:=by
     rw [Bool.eq_false_iff];simp only [ne_eq,Bool.and_eq_true,decide_eq_true_eq];exact h0
    rw [e,br_f,if_neg h0];by_cases h1:k=1/\(a=0\/a=1)
    ·have e:(decide (k=1)&&(decide (a=0)||decide (a=1)))=true:=by simp only [Bool.and_eq_true,Bool.or_eq_true,decide_eq_true_eq];exact h1
     rw [e,br_t,if_pos h1];by_cases h2:a=1/\0 < w
     ·have p:o93p N w false 0 t=true:=by unfold o93p;rw [o93_eq N h.l];rfl
      rw [decide_eq_true h2.1,decide_eq_true h2.2,Bool.true_and,br_t,ck_of p,if_pos h2];unfold o93y0 o93y1 o93y2;rw [o93_eq N h.l];rfl
     ·have e:(decide (a=1)&&decide (0 < w))=false:=by
       rw [Bool.eq_false_iff];simp only [ne_eq,Bool.and_eq_true,decide_eq_true_eq];exact h2
      rw [e,br_f,if_neg h2];rfl
    ·have e:(decide (k=1)&&(decide (a=0)||decide (a=1)))=false:=by
      rw [Bool.eq_false_iff];simp only [ne_eq,Bool.and_eq_true,Bool.or_eq_true,decide_eq_true_eq];exact h1
     rw [e,br_f,if_neg h1];by_cases h3:k=2
     ·rw [decide_eq_true h3,br_t,if_pos h3]
      by_cases h4:w=0
      ·have p:o88p N false 0 t=true:=by unfold o88p;rw [o88_eq N h.l];rfl
       rw [decide_eq_true h4,br_t,ck_of p,if_pos h4];unfold o88y0 o88y1 o88y2;rw [o88_eq N h.l];rfl
      ·rw [decide_eq_false h4,br_f,if_neg h4];rfl
     ·rw [decide_eq_false h3,br_f,if_neg h3]
      by_cases h5:k=3
      ·rw [decide_eq_true h5,br_t,if_pos h5];rfl
      ·rw [decide_eq_false h5,br_f,if_neg h5];rfl
def refW (w:Int):Int:=if w=0 then -1 else w
theorem w38_eq (N:Nat) {t:List UInt8} {w:Int} (h:IV (t,false,w)) (D S x y k a b:Int):w38z N t false D S (refW w) x y k a b=some ((stepV (t,false,w) (k,a,b)).1,(stepV (t,false,w) (k,a,b)).2.1,D,S,refW (stepV (t,false,w) (k,a,b)).2.2):=by
 have ur:∀ (t:List UInt8) (d:Bool) (D S w:Int),(some (w38r0 t d D S w):O).bind w38un=some (t,d,D,S,w):=fun _ _ _ _ _=>rfl
 have r0:refW 0 = -1:=rfl;have rp:(0<=refW w)=(0 < w):=by
  have:=h.w
  dsimp only at this
  unfold refW;split <;> (apply propext;omega)
 have rn:(refW w < 0)=(w=0):=by
  have:=h.w
  dsimp only at this
  unfold refW;split <;> (apply propext;omega)
 unfold w38z w38 w38G stepV;rw [if_neg (show ¬ (false=true) from fun h=>by cases h)]
 dsimp only
 by_cases h0:k=0
 ·rw [decide_eq_true h0,br_t]
  by_cases h1:32<=a/\a<=126
  ·rw [decide_eq_true h1.1,decide_eq_true h1.2,Bool.true_and,br_t,ur,if_pos ⟨h0,h1⟩,show refW a=a from if_neg (by omega)]
  ·have e:(decide (32<=a)&&decide (a<=126))=false:=by
    rw [Bool.eq_false_iff];simp only [ne_eq,Bool.and_eq_true,decide_eq_true_eq];exact h1
   rw [e,br_f,ur,if_neg (fun hh=>h1 hh.2),if_neg (by omega),if_neg (by omega),if_neg (by omega)]
 ·rw [decide_eq_false h0,br_f,if_neg (fun hh=>h0 hh.1)]
  by_cases h1:k=1
  ·rw [decide_eq_true h1,br_t]
   by_cases ha:a=1
   ·rw [if_pos ⟨h1,.inr ha⟩,decide_eq_true ha,Bool.true_and,decide_eq_decide.2 (iff_of_eq rp)]
    by_cases hw:0 < w
    ·have p:w47p N t false D S (-1) (refW w)=true:=by unfold w47p;rw [w47_eq N h.l];rfl
     rw [decide_eq_true hw,br_t,ck_of p,if_pos ⟨ha,hw⟩];unfold w47y0 w47y1 w47y2 w47y3 w47y4;rw [w47_eq N h.l]
     dsimp only [Option.getD]
     rw [ur,show refW w=w from if_neg (by omega)];rfl
    ·rw [decide_eq_false hw,br_f,if_neg (fun hh=>hw hh.2),decide_eq_false (show ¬ a=0 by omega),br_f,ur,show w=0 by have:=h.w;dsimp only at this;omega]
   ·rw [decide_eq_false ha,Bool.false_and,br_f]
    by_cases hz:a=0
    ·rw [decide_eq_true hz,br_t,ur,if_pos ⟨h1,.inl hz⟩,if_neg (fun hh=>ha hh.1)]
     rfl
    ·rw [decide_eq_false hz,br_f,ur,if_neg (by omega),if_neg (by omega),if_neg (by omega)]
  ·rw [decide_eq_false h1,br_f,if_neg (fun hh=>h1 hh.1)]
   by_cases h3:k=2
   ·rw [decide_eq_true h3,br_t,if_pos h3,decide_eq_decide.2 (iff_of_eq rn)]
    by_cases h4:w=0
    ·have p:w48p N t false D S (-1)=true:=by unfold w48p;rw [w48_eq N h.l];rfl
     rw [decide_eq_true h4,br_t,ck_of p,if_pos h4];unfold w48y0 w48y1 w48y2 w48y3 w48y4;rw [w48_eq N h.l];rfl
    ·rw [decide_eq_false h4,br_f,ur,if_neg h4];rfl
   ·rw [decide_eq_false h3,br_f,if_neg h3]
    by_cases h5:k=3
    ·rw [decide_eq_true h5,br_t,ur,if_pos h5];rfl
    ·rw [decide_eq_false h5,br_f,ur,if_neg h5]
abbrev KS:Type:=List UInt8×Bool
def stepK (s:KS) (e:Tri):KS:=
 if s.2=true\/e.1≠0\/e.2.2≠1 then s
 else if e.2.1=8 then (removeZ s.1,s.2) else if e.2.1=13 then (s.1,true) else (enterZ s.1 e.2.1,s.2)
theorem stepK_len {s:KS} (h:s.1.length<=40) (e:Tri):(stepK s e).1.length<=40:=by
 unfold stepK;split
 ·exact h
 ·split
  ·exact remove_len h
  ·split
   ·exact h
   ·exact enter_len h _
theorem k99_eq (N:Nat) {t:List UInt8} (h:t.length<=40) (d:Bool) (x y k a b:Int):k99z N x y k a b d t=some ((stepK (t,d) (k,a,b)).2,(stepK (t,d) (k,a,b)).1):=by
 have ur:∀ (d:Bool) (t:List UInt8),(some (k99r0 d t):O).bind k99un=some (d,t):=fun _ _=>rfl
 unfold k99z k99 k99G stepK
 dsimp only
 by_cases h0:d=true\/k≠0\/b≠1
 ·have e:(d||decide (k≠0)||decide (b≠1))=true:=by
   simp only [Bool.or_eq_true,decide_eq_true_eq];rcases h0 with h | h | h
   ·exact .inl (.inl h)
   ·exact .inl (.inr h)
   ·exact .inr h
  rw [e,br_t,ur,if_pos h0]
 ·have e:(d||decide (k≠0)||decide (b≠1))=false:=by
   rw [Bool.eq_false_iff];simp only [ne_eq,Bool.or_eq_true,decide_eq_true_eq];rintro ((h | h) | h)
   ·exact h0 (.inl h)
   ·exact h0 (.inr (.inl h))
   ·exact h0 (.inr (.inr h))
  rw [e,br_f,if_neg h0];by_cases h1:a=8
  ·have p:k88p N d t=true:=by unfold k88p;rw [k88_eq N h];rfl
   rw [decide_eq_true h1,br_t,ck_of p,if_pos h1];unfold k88y0 k88y1;rw [k88_eq N h];rfl
  ·rw [decide_eq_false h1,br_f,if_neg h1]
   by_cases h2:a=13
   ·rw [decide_eq_true h2,br_t,ur,if_pos h2]
   ·have p:k93p N a d t=true:=by unfold k93p;rw [k93_eq N h];rfl
    rw [decide_eq_false h2,br_f,ck_of p,if_neg h2];unfold k93y0 k93y1;rw [k93_eq N h];rfl
theorem w39_eq (N:Nat) {t:List UInt8} (h:t.length<=40) (D S w x y k a b:Int):w39z N t false D S w x y k a b=some ((stepK (t,false) (k,a,b)).1,(stepK (t,false) (k,a,b)).2,D,S,w):=by
 have ur:∀ (t:List UInt8) (d:Bool) (D S w:Int),(some (w39r0 t d D S w):O).bind w39un=some (t,d,D,S,w):=fun _ _ _ _ _=>rfl
 unfold w39z w39 w39G stepK
 dsimp only
 by_cases h0:k≠0\/b≠1
 ·have e:(decide (k≠0)||decide (b≠1))=true:=by
   simp only [Bool.or_eq_true,decide_eq_true_eq];exact h0
  rw [e,br_t,ur,if_pos (.inr h0)]
 ·have e:(decide (k≠0)||decide (b≠1))=false:=by
   rw [Bool.eq_false_iff];simp only [ne_eq,Bool.or_eq_true,decide_eq_true_eq];exact h0
  rw [e,br_f,if_neg (fun hh=>hh.elim (fun h=>by cases h) h0)];by_cases h1:a=8
  ·have p:w48p N t false D S w=true:=by unfold w48p;rw [w48_eq N h];rfl
   rw [decide_eq_true h1,br_t,ck_of p,if_pos h1];unfold w48y0 w48y1 w48y2 w48y3 w48y4;rw [w48_eq N h];rfl
  ·have p:∀ d,w47p N t d D S w a=true:=fun d=>by unfold w47p;rw [w47_eq N h];rfl
   rw [decide_eq_false h1,br_f,if_neg h1];by_cases h2:a=13
   ·rw [decide_eq_true h2,br_t,ck_of (p true),if_pos h2]
    unfold w47y0 w47y1 w47y2 w47y3 w47y4;rw [w47_eq N h,show enterZ t a=t from if_neg (by omega)];rfl
   ·rw [decide_eq_false h2,br_f,ck_of (p false),if_neg h2]
    unfold w47y0 w47y1 w47y2 w47y3 w47y4;rw [w47_eq N h];rfl
theorem stepC_done {s:CS} (h:s.2.1=true) (e:Tri):stepC s e=s:=if_pos (.inl h)
theorem stepV_done {s:VS} (h:s.2.1=true) (e:Tri):stepV s e=s:=if_pos h
theorem stepK_done {s:KS} (h:s.2=true) (e:Tri):stepK s e=s:=if_pos (.inl h)
theorem w28_1 (N:Nat) {t:List UInt8} {d:Bool} {D S:Nat} (h:IC (t,d,D,S)) (x y k a b:Int):
    w28z N 1 t d (D:Int) (S:Int) (-1) x y k a b=some ((stepC (t,d,D,S) (k,a,b)).1,(stepC (t,d,D,S) (k,a,b)).2.1,((stepC (t,d,D,S) (k,a,b)).2.2.1:Int),((stepC (t,d,D,S) (k,a,b)).2.2.2:Int),-1):=by
 unfold w28z w28 w28G;cases d with
 | true=>rw [stepC_done rfl,br_t];rfl
 | false=>
   have e:=w37_eq N h (-1) x y k a b;have p:w37p N t false (D:Int) (S:Int) (-1) x y k a b=true:=by unfold w37p;rw [e];rfl
   rw [br_f,decide_eq_true rfl,br_t,ck_of p];unfold w37y0 w37y1 w37y2 w37y3 w37y4;rw [e];rfl
theorem w28_2 (N:Nat) {t:List UInt8} {d:Bool} {w:Int} (h:IV (t,d,w)) (x y k a b:Int):
    w28z N 2 t d 0 0 (refW w) x y k a b=some ((stepV (t,d,w) (k,a,b)).1,(stepV (t,d,w) (k,a,b)).2.1,0,0,refW (stepV (t,d,w) (k,a,b)).2.2):=by
 unfold w28z w28 w28G;cases d with
 | true=>rw [stepV_done rfl,br_t];rfl
 | false=>
   have e:=w38_eq N h 0 0 x y k a b;have p:w38p N t false 0 0 (refW w) x y k a b=true:=by unfold w38p;rw [e];rfl
   rw [br_f,decide_eq_false (show ¬ (2:Int)=1 by omega),br_f,decide_eq_true rfl,br_t,ck_of p];unfold w38y0 w38y1 w38y2 w38y3 w38y4;rw [e];rfl
theorem w28_3 (N:Nat) {t:List UInt8} (h:t.length<=40) (d:Bool) (x y k a b:Int):
    w28z N 3 t d 0 0 (-1) x y k a b=some ((stepK (t,d) (k,a,b)).1,(stepK (t,d) (k,a,b)).2,0,0,-1):=by
 unfold w28z w28 w28G;cases d with
 | true=>rw [stepK_done rfl,br_t];rfl
 | false=>
   have e:=w39_eq N h 0 0 (-1) x y k a b;have p:w39p N t false 0 0 (-1) x y k a b=true:=by unfold w39p;rw [e];rfl
   rw [br_f,decide_eq_false (show ¬ (3:Int)=1 by omega),br_f,decide_eq_false (show ¬ (3:Int)=2 by omega),br_f,ck_of p];unfold w39y0 w39y1 w39y2 w39y3 w39y4;rw [e];rfl
end Go.Proofs
/- Normal by chords, voice and keyboard. -/
namespace Go.Proofs
open Go Go.Ax Go.Ax.Alg
def foldC (s:CS) (l:List Ev):CS:=l.foldl (fun s e=>stepC s e.2.2) s
def foldV (s:VS) (l:List Ev):VS:=l.foldl (fun s e=>stepV s e.2.2) s
def foldK (s:KS) (l:List Ev):KS:=l.foldl (fun s e=>stepK s e.2.2) s
theorem IC.fold:∀ (l:List Ev) {s:CS},IC s->IC (foldC s l)
 | [],_,h=>h
 | e::l,_,h=>IC.fold l (h.step e.2.2)
theorem IV.fold:∀ (l:List Ev) {s:VS},IV s->IV (foldV s l)
 | [],_,h=>h
 | e::l,_,h=>IV.fold l (h.step e.2.2)
theorem foldK_len:∀ (l:List Ev) {s:KS},s.1.length<=40->(foldK s l).1.length<=40
 | [],_,h=>h
 | e::l,_,h=>foldK_len l (stepK_len h e.2.2)
def finZ (k o:Int) (t:List UInt8) (d:Bool):List UInt8×Int:=if d=false then ([],11) else if validZ k o t=true then (t,0) else ([],2)
def runZ (w:Int) (l:List Ev):List UInt8×Bool:=if w=1 then ((foldC ([],false,0,0) l).1,(foldC ([],false,0,0) l).2.1) else if w=2 then ((foldV ([],false,0) l).1,(foldV ([],false,0) l).2.1) else foldK ([],false) l
theorem ic0:IC ([],false,0,0):=⟨(show 0<=40 by omega),(show 0 < 1024 by omega),(show 0 < 1024 by omega),fun j hj=>by simp at hj⟩
theorem iv0:IV ([],false,0):=⟨(show 0<=40 by omega),.inl rfl⟩
theorem c13_loop (N:Nat) (k o:Int) (l:List Ev) (hl:l.length<=1000000) (K0:Int×Int×Bool×Int×Int×List UInt8->O) (K1 K2:Unit->O):∀ (n i:Nat) (s:CS),IC s->l.length - i < n->i<=l.length->
    c13l0 N n (k,o,l,(l.length:Int),(i:Int),s.2.1,(s.2.2.1:Int),(s.2.2.2:Int),s.1) K0 K1 K2=K0 (k,o,(foldC s (l.drop i)).2.1,((foldC s (l.drop i)).2.2.1:Int),((foldC s (l.drop i)).2.2.2:Int),(foldC s (l.drop i)).1)
 | 0,i,s,_,h,_=>by omega
 | n+1,i,s,hs,h,hi=>by
   have e:c13l0 N (n+1) (k,o,l,(l.length:Int),(i:Int),s.2.1,(s.2.2.1:Int),(s.2.2.2:Int),s.1) K0 K1 K2=c13F0 N (fun v0 v1 v2 v3 v4=>c13l0 N n (k,o,l,(l.length:Int),v0,v1,v2,v3,v4) K0 K1 K2) (fun y0 y1 y2 y3 y4 y5=>K0 (y0,y1,y2,y3,y4,y5)) k o l (l.length:Int) (i:Int) s.2.1 (s.2.2.1:Int) (s.2.2.2:Int) s.1:=rfl;rw [e];unfold c13F0;by_cases hlt:i < l.length
   ·have g:=List.getElem?_eq_getElem hlt
    have hd:=drop_at g;generalize l[i]=ev at g hd;obtain ⟨x,y,q,a,b⟩:=ev;obtain ⟨t,d,D,S⟩:=s;have e86:=c86_eq N hs x y q a b;have p:c86p N x y q a b d (D:Int) (S:Int) t=true:=by unfold c86p;rw [e86];rfl
    have y0:c86y0 N x y q a b d (D:Int) (S:Int) t=(stepC (t,d,D,S) (q,a,b)).2.1:=by unfold c86y0;rw [e86];rfl
    have y1:c86y1 N x y q a b d (D:Int) (S:Int) t=((stepC (t,d,D,S) (q,a,b)).2.2.1:Int):=by unfold c86y1;rw [e86];rfl
    have y2:c86y2 N x y q a b d (D:Int) (S:Int) t=((stepC (t,d,D,S) (q,a,b)).2.2.2:Int):=by unfold c86y2;rw [e86];rfl
    have y3:c86y3 N x y q a b d (D:Int) (S:Int) t=(stepC (t,d,D,S) (q,a,b)).1:=by unfold c86y3;rw [e86];rfl
    rw [decide_eq_true (show (i:Int) < (l.length:Int) by omega),br_t,gx_at g,hd]
    dsimp only
    rw [ck_of p,y0,y1,y2,y3,wr (by omega) (by omega),show (i:Int)+1=((i+1:Nat):Int) by omega];exact c13_loop N k o l hl K0 K1 K2 n (i+1) _ (hs.step (q,a,b)) (by omega) (by omega)
   ·rw [decide_eq_false (show ¬ (i:Int) < (l.length:Int) by omega),br_f,List.drop_eq_nil_of_le (by omega)]
    rfl
theorem o13_loop (N:Nat) (k o:Int) (l:List Ev) (hl:l.length<=1000000) (K0:Int×Int×Bool×Int×List UInt8->O) (K1 K2:Unit->O):∀ (n i:Nat) (s:VS),IV s->l.length - i < n->i<=l.length->
    o13l0 N n (k,o,l,(l.length:Int),(i:Int),s.2.1,s.2.2,s.1) K0 K1 K2=K0 (k,o,(foldV s (l.drop i)).2.1,(foldV s (l.drop i)).2.2,(foldV s (l.drop i)).1)
 | 0,i,s,_,h,_=>by omega
 | n+1,i,s,hs,h,hi=>by
   have e:o13l0 N (n+1) (k,o,l,(l.length:Int),(i:Int),s.2.1,s.2.2,s.1) K0 K1 K2=o13F0 N (fun v0 v1 v2 v3=>o13l0 N n (k,o,l,(l.length:Int),v0,v1,v2,v3) K0 K1 K2) (fun y0 y1 y2 y3 y4=>K0 (y0,y1,y2,y3,y4)) k o l (l.length:Int) (i:Int) s.2.1 s.2.2 s.1:=rfl;rw [e];unfold o13F0;by_cases hlt:i < l.length
   ·have g:=List.getElem?_eq_getElem hlt
    have hd:=drop_at g;generalize l[i]=ev at g hd;obtain ⟨x,y,q,a,b⟩:=ev;obtain ⟨t,d,w⟩:=s;have e86:=o94_eq N hs x y q a b;have p:o94p N x y q a b d w t=true:=by unfold o94p;rw [e86];rfl
    have y0:o94y0 N x y q a b d w t=(stepV (t,d,w) (q,a,b)).2.1:=by unfold o94y0;rw [e86];rfl
    have y1:o94y1 N x y q a b d w t=(stepV (t,d,w) (q,a,b)).2.2:=by unfold o94y1;rw [e86];rfl
    have y2:o94y2 N x y q a b d w t=(stepV (t,d,w) (q,a,b)).1:=by unfold o94y2;rw [e86];rfl
    rw [decide_eq_true (show (i:Int) < (l.length:Int) by omega),br_t,gx_at g,hd]
    dsimp only
    rw [ck_of p,y0,y1,y2,wr (by omega) (by omega),show (i:Int)+1=((i+1:Nat):Int) by omega];exact o13_loop N k o l hl K0 K1 K2 n (i+1) _ (hs.step (q,a,b)) (by omega) (by omega)
   ·rw [decide_eq_false (show ¬ (i:Int) < (l.length:Int) by omega),br_f,List.drop_eq_nil_of_le (by omega)]
    rfl
theorem k13_loop (N:Nat) (k o:Int) (l:List Ev) (hl:l.length<=1000000) (K0:Int×Int×Bool×List UInt8->O) (K1 K2:Unit->O):∀ (n i:Nat) (s:KS),s.1.length<=40->l.length - i < n->i<=l.length->
    k13l0 N n (k,o,l,(l.length:Int),(i:Int),s.2,s.1) K0 K1 K2=K0 (k,o,(foldK s (l.drop i)).2,(foldK s (l.drop i)).1)
 | 0,i,s,_,h,_=>by omega
 | n+1,i,s,hs,h,hi=>by
   have e:k13l0 N (n+1) (k,o,l,(l.length:Int),(i:Int),s.2,s.1) K0 K1 K2=k13F0 N (fun v0 v1 v2=>k13l0 N n (k,o,l,(l.length:Int),v0,v1,v2) K0 K1 K2) (fun y0 y1 y2 y3=>K0 (y0,y1,y2,y3)) k o l (l.length:Int) (i:Int) s.2 s.1:=rfl;rw [e];unfold k13F0;by_cases hlt:i < l.length
   ·have g:=List.getElem?_eq_getElem hlt
    have hd:=drop_at g;generalize l[i]=ev at g hd;obtain ⟨x,y,q,a,b⟩:=ev;obtain ⟨t,d⟩:=s;have e86:=k99_eq N hs d x y q a b;have p:k99p N x y q a b d t=true:=by unfold k99p;rw [e86];rfl
    have y0:k99y0 N x y q a b d t=(stepK (t,d) (q,a,b)).2:=by unfold k99y0;rw [e86];rfl
    have y1:k99y1 N x y q a b d t=(stepK (t,d) (q,a,b)).1:=by unfold k99y1;rw [e86];rfl
    rw [decide_eq_true (show (i:Int) < (l.length:Int) by omega),br_t,gx_at g,hd]
    dsimp only
    rw [ck_of p,y0,y1,wr (by omega) (by omega),show (i:Int)+1=((i+1:Nat):Int) by omega];exact k13_loop N k o l hl K0 K1 K2 n (i+1) _ (stepK_len hs (q,a,b)) (by omega) (by omega)
   ·rw [decide_eq_false (show ¬ (i:Int) < (l.length:Int) by omega),br_f,List.drop_eq_nil_of_le (by omega)]
    rfl
theorem w14_loop1 (N:Nat) (k o:Int) (l:List Ev) (hl:l.length<=1000000) (K0:Int×Int×List UInt8×Bool×Int×Int×Int->O) (K1 K2:Unit->O):∀ (n i:Nat) (s:CS),IC s->l.length - i < n->i<=l.length->
    w14l0 N n (1,k,o,l,(i:Int),s.1,s.2.1,(s.2.2.1:Int),(s.2.2.2:Int),-1) K0 K1 K2=K0 (k,o,(foldC s (l.drop i)).1,(foldC s (l.drop i)).2.1,((foldC s (l.drop i)).2.2.1:Int),((foldC s (l.drop i)).2.2.2:Int),-1)
 | 0,i,s,_,h,_=>by omega
 | n+1,i,s,hs,h,hi=>by
   have e:w14l0 N (n+1) (1,k,o,l,(i:Int),s.1,s.2.1,(s.2.2.1:Int),(s.2.2.2:Int),-1) K0 K1 K2=w14F0 N (fun v0 v1 v2 v3 v4 v5=>w14l0 N n (1,k,o,l,v0,v1,v2,v3,v4,v5) K0 K1 K2) (fun y0 y1 y2 y3 y4 y5 y6=>K0 (y0,y1,y2,y3,y4,y5,y6)) 1 k o l (i:Int) s.1 s.2.1 (s.2.2.1:Int) (s.2.2.2:Int) (-1):=rfl;rw [e];unfold w14F0;by_cases hlt:i < l.length
   ·have g:=List.getElem?_eq_getElem hlt
    have hd:=drop_at g;generalize l[i]=ev at g hd;obtain ⟨x,y,q,a,b⟩:=ev;obtain ⟨t,d,D,S⟩:=s;have e86:=w28_1 N hs x y q a b;have p:w28p N 1 t d (D:Int) (S:Int) (-1) x y q a b=true:=by unfold w28p;rw [e86];rfl
    have y0:w28y0 N 1 t d (D:Int) (S:Int) (-1) x y q a b=(stepC (t,d,D,S) (q,a,b)).1:=by unfold w28y0;rw [e86];rfl
    have y1:w28y1 N 1 t d (D:Int) (S:Int) (-1) x y q a b=(stepC (t,d,D,S) (q,a,b)).2.1:=by unfold w28y1;rw [e86];rfl
    have y2:w28y2 N 1 t d (D:Int) (S:Int) (-1) x y q a b=((stepC (t,d,D,S) (q,a,b)).2.2.1:Int):=by unfold w28y2;rw [e86];rfl
    have y3:w28y3 N 1 t d (D:Int) (S:Int) (-1) x y q a b=((stepC (t,d,D,S) (q,a,b)).2.2.2:Int):=by unfold w28y3;rw [e86];rfl
    have y4:w28y4 N 1 t d (D:Int) (S:Int) (-1) x y q a b = -1:=by unfold w28y4;rw [e86];rfl
    rw [decide_eq_true (show (i:Int) < (l.length:Int) by omega),br_t,gx_at g,hd]
    dsimp only
    rw [ck_of p,y0,y1,y2,y3,y4,wr (by omega) (by omega),show (i:Int)+1=((i+1:Nat):Int) by omega];exact w14_loop1 N k o l hl K0 K1 K2 n (i+1) _ (hs.step (q,a,b)) (by omega) (by omega)
   ·rw [decide_eq_false (show ¬ (i:Int) < (l.length:Int) by omega),br_f,List.drop_eq_nil_of_le (by omega)]
    rfl
theorem w14_loop2 (N:Nat) (k o:Int) (l:List Ev) (hl:l.length<=1000000) (K0:Int×Int×List UInt8×Bool×Int×Int×Int->O) (K1 K2:Unit->O):∀ (n i:Nat) (s:VS),IV s->l.length - i < n->i<=l.length->
    w14l0 N n (2,k,o,l,(i:Int),s.1,s.2.1,0,0,refW s.2.2) K0 K1 K2=K0 (k,o,(foldV s (l.drop i)).1,(foldV s (l.drop i)).2.1,0,0,refW (foldV s (l.drop i)).2.2)
 | 0,i,s,_,h,_=>by omega
 | n+1,i,s,hs,h,hi=>by
   have e:w14l0 N (n+1) (2,k,o,l,(i:Int),s.1,s.2.1,0,0,refW s.2.2) K0 K1 K2=w14F0 N (fun v0 v1 v2 v3 v4 v5=>w14l0 N n (2,k,o,l,v0,v1,v2,v3,v4,v5) K0 K1 K2) (fun y0 y1 y2 y3 y4 y5 y6=>K0 (y0,y1,y2,y3,y4,y5,y6)) 2 k o l (i:Int) s.1 s.2.1 0 0 (refW s.2.2):=rfl;rw [e];unfold w14F0;by_cases hlt:i < l.length
   ·have g:=List.getElem?_eq_getElem hlt
    have hd:=drop_at g;generalize l[i]=ev at g hd;obtain ⟨x,y,q,a,b⟩:=ev;obtain ⟨t,d,w⟩:=s;have e86:=w28_2 N hs x y q a b;have p:w28p N 2 t d 0 0 (refW w) x y q a b=true:=by unfold w28p;rw [e86];rfl
    have y0:w28y0 N 2 t d 0 0 (refW w) x y q a b=(stepV (t,d,w) (q,a,b)).1:=by unfold w28y0;rw [e86];rfl
    have y1:w28y1 N 2 t d 0 0 (refW w) x y q a b=(stepV (t,d,w) (q,a,b)).2.1:=by unfold w28y1;rw [e86];rfl
    have y2:w28y2 N 2 t d 0 0 (refW w) x y q a b=0:=by unfold w28y2;rw [e86];rfl
    have y3:w28y3 N 2 t d 0 0 (refW w) x y q a b=0:=by unfold w28y3;rw [e86];rfl
    have y4:w28y4 N 2 t d 0 0 (refW w) x y q a b=refW (stepV (t,d,w) (q,a,b)).2.2:=by unfold w28y4;rw [e86];rfl
    rw [decide_eq_true (show (i:Int) < (l.length:Int) by omega),br_t,gx_at g,hd]
    dsimp only
    rw [ck_of p,y0,y1,y2,y3,y4,wr (by omega) (by omega),show (i:Int)+1=((i+1:Nat):Int) by omega];exact w14_loop2 N k o l hl K0 K1 K2 n (i+1) _ (hs.step (q,a,b)) (by omega) (by omega)
   ·rw [decide_eq_false (show ¬ (i:Int) < (l.length:Int) by omega),br_f,List.drop_eq_nil_of_le (by omega)]
    rfl
theorem w14_loop3 (N:Nat) (k o:Int) (l:List Ev) (hl:l.length<=1000000) (K0:Int×Int×List UInt8×Bool×Int×Int×Int->O) (K1 K2:Unit->O):∀ (n i:Nat) (s:KS),s.1.length<=40->l.length - i < n->i<=l.length->
    w14l0 N n (3,k,o,l,(i:Int),s.1,s.2,0,0,-1) K0 K1 K2=K0 (k,o,(foldK s (l.drop i)).1,(foldK s (l.drop i)).2,0,0,-1)
 | 0,i,s,_,h,_=>by omega
 | n+1,i,s,hs,h,hi=>by
   have e:w14l0 N (n+1) (3,k,o,l,(i:Int),s.1,s.2,0,0,-1) K0 K1 K2=w14F0 N (fun v0 v1 v2 v3 v4 v5=>w14l0 N n (3,k,o,l,v0,v1,v2,v3,v4,v5) K0 K1 K2) (fun y0 y1 y2 y3 y4 y5 y6=>K0 (y0,y1,y2,y3,y4,y5,y6)) 3 k o l (i:Int) s.1 s.2 0 0 (-1):=rfl;rw [e];unfold w14F0;by_cases hlt:i < l.length
   ·have g:=List.getElem?_eq_getElem hlt
    have hd:=drop_at g;generalize l[i]=ev at g hd;obtain ⟨x,y,q,a,b⟩:=ev;obtain ⟨t,d⟩:=s;have e86:=w28_3 N hs d x y q a b;have p:w28p N 3 t d 0 0 (-1) x y q a b=true:=by unfold w28p;rw [e86];rfl
    have y0:w28y0 N 3 t d 0 0 (-1) x y q a b=(stepK (t,d) (q,a,b)).1:=by unfold w28y0;rw [e86];rfl
    have y1:w28y1 N 3 t d 0 0 (-1) x y q a b=(stepK (t,d) (q,a,b)).2:=by unfold w28y1;rw [e86];rfl
    have y2:w28y2 N 3 t d 0 0 (-1) x y q a b=0:=by unfold w28y2;rw [e86];rfl
    have y3:w28y3 N 3 t d 0 0 (-1) x y q a b=0:=by unfold w28y3;rw [e86];rfl
    have y4:w28y4 N 3 t d 0 0 (-1) x y q a b = -1:=by unfold w28y4;rw [e86];rfl
    rw [decide_eq_true (show (i:Int) < (l.length:Int) by omega),br_t,gx_at g,hd]
    dsimp only
    rw [ck_of p,y0,y1,y2,y3,y4,wr (by omega) (by omega),show (i:Int)+1=((i+1:Nat):Int) by omega];exact w14_loop3 N k o l hl K0 K1 K2 n (i+1) _ (stepK_len hs (q,a,b)) (by omega) (by omega)
   ·rw [decide_eq_false (show ¬ (i:Int) < (l.length:Int) by omega),br_f,List.drop_eq_nil_of_le (by omega)]
    rfl
theorem run_len (w:Int) (l:List Ev):(runZ w l).1.length<=40:=by
 unfold runZ;split
 ·exact (IC.fold l ic0).l
 ·split
  ·exact (IV.fold l iv0).l
  ·exact foldK_len l (by show 0<=40;omega)
theorem c13_bad (N:Nat) {w k o:Int} (l:List Ev) (h:(w < 0\/3 < w)\/rightZ k o=false):c13z N w k o l=some ([],1):=by
 unfold c13z c13 c13G;rw [ck_t,w16_P,w16_Y];by_cases h0:0=w
 ·rw [decide_eq_true h0,br_t,h.resolve_left (by omega)];rfl
 ·rw [decide_eq_false h0,br_f]
  by_cases h1:1=w
  ·rw [decide_eq_true h1,br_t,h.resolve_left (by omega)];rfl
  ·rw [decide_eq_false h1,br_f]
   by_cases h2:2=w
   ·rw [decide_eq_true h2,br_t,h.resolve_left (by omega)];rfl
   ·rw [decide_eq_false h2,br_f]
    by_cases h3:3=w
    ·rw [decide_eq_true h3,br_t,h.resolve_left (by omega)];rfl
    ·rw [decide_eq_false h3,br_f];rfl
theorem c13_no (N:Nat) {w k o:Int} (l:List Ev) (h:w=0\/w=2\/w=3) (hr:rightZ k o=true):c13z N w k o l=none:=by
 unfold c13z c13 c13G;rw [w16_P,w16_Y,hr];rcases h with rfl | rfl | rfl <;> rfl
theorem o13_no (N:Nat) {w k o:Int} (l:List Ev) (h:w=0\/w=3) (hr:rightZ k o=true):o13z N w k o l=none:=by
 unfold o13z o13 o13G;rw [w16_P,w16_Y,hr];rcases h with rfl | rfl <;> rfl
theorem k13_no (N:Nat) {k o:Int} (l:List Ev) (hr:rightZ k o=true):k13z N 0 k o l=none:=by
 unfold k13z k13 k13G;rw [w16_P,w16_Y,hr];rfl
theorem c13_eq {N:Nat} (hN:100<=N) {k o:Int} {l:List Ev} (hl:l.length < N) (hm:l.length<=1000000) (hr:rightZ k o=true):c13z N 1 k o l=some (finZ k o (runZ 1 l).1 (runZ 1 l).2):=by
 have hlen:=run_len 1 l;unfold c13z c13 c13G;rw [ck_t,w16_P,w16_Y,hr,decide_eq_false (show ¬ (0:Int)=1 by omega),br_f,decide_eq_true rfl,br_t];refine (congrArg (fun z:O=>z.bind c13un) (c13_loop N k o l hm _ (fun _=>none) (fun _=>none) N 0 ([],false,0,0) ic0 (by omega) (Nat.zero_le _))).trans ?_;rw [List.drop_zero]
 dsimp only
 have er:runZ 1 l=((foldC ([],false,0,0) l).1,(foldC ([],false,0,0) l).2.1):=rfl;rw [er] at hlen ⊢
 dsimp only at hlen ⊢
 generalize foldC ([],false,0,0) l=s at hlen;obtain ⟨t,d,D,S⟩:=s
 dsimp only at hlen ⊢
 cases d with
 | false=>rfl
 | true=>
   have y0:c91y0 N true (D:Int) (S:Int) t=t:=rfl;have y1:c91y1 N true (D:Int) (S:Int) t=0:=rfl;have p:c91p N true (D:Int) (S:Int) t=true:=rfl;rw [ck_of p,y0,y1,w8_P (by omega) (by omega),w8_Y (by omega) (by omega)];unfold finZ;cases validZ k o t with
   | false=>rfl
   | true=>rfl
theorem o13_eq {N:Nat} (hN:100<=N) {k o:Int} {l:List Ev} (hl:l.length < N) (hm:l.length<=1000000) (hr:rightZ k o=true):o13z N 2 k o l=some (finZ k o (runZ 2 l).1 (runZ 2 l).2):=by
 have hlen:=run_len 2 l;unfold o13z o13 o13G;rw [ck_t,w16_P,w16_Y,hr,decide_eq_false (show ¬ (0:Int)=2 by omega),br_f,decide_eq_false (show ¬ (1:Int)=2 by omega),br_f,decide_eq_true rfl,br_t];refine (congrArg (fun z:O=>z.bind o13un) (o13_loop N k o l hm _ (fun _=>none) (fun _=>none) N 0 ([],false,0) iv0 (by omega) (Nat.zero_le _))).trans ?_;rw [List.drop_zero]
 dsimp only
 have er:runZ 2 l=((foldV ([],false,0) l).1,(foldV ([],false,0) l).2.1):=rfl;rw [er] at hlen ⊢
 dsimp only at hlen ⊢
 generalize foldV ([],false,0) l=s at hlen;obtain ⟨t,d,w⟩:=s
 dsimp only at hlen ⊢
 cases d with
 | false=>rfl
 | true=>
   have y0:o91y0 N true w t=t:=rfl;have y1:o91y1 N true w t=0:=rfl;have p:o91p N true w t=true:=rfl;rw [ck_of p,y0,y1,w8_P (by omega) (by omega),w8_Y (by omega) (by omega)];unfold finZ;cases validZ k o t with
   | false=>rfl
   | true=>rfl
theorem k13_eq {N:Nat} (hN:100<=N) {k o:Int} {l:List Ev} (hl:l.length < N) (hm:l.length<=1000000) (hr:rightZ k o=true):k13z N 3 k o l=some (finZ k o (runZ 3 l).1 (runZ 3 l).2):=by
 have hlen:=run_len 3 l;unfold k13z k13 k13G;rw [ck_t,w16_P,w16_Y,hr,decide_eq_false (show ¬ (0:Int)=3 by omega),br_f,decide_eq_false (show ¬ (1:Int)=3 by omega),br_f,decide_eq_false (show ¬ (2:Int)=3 by omega),br_f,decide_eq_true rfl,br_t];refine (congrArg (fun z:O=>z.bind k13un) (k13_loop N k o l hm _ (fun _=>none) (fun _=>none) N 0 ([],false) (by show 0<=40;omega) (by omega) (Nat.zero_le _))).trans ?_;rw [List.drop_zero]
 dsimp only
 have er:runZ 3 l=foldK ([],false) l:=rfl;rw [er] at hlen ⊢;generalize foldK ([],false) l=s at hlen;obtain ⟨t,d⟩:=s
 dsimp only at hlen ⊢
 cases d with
 | false=>rfl
 | true=>
   have y0:k91y0 N true t=t:=rfl;have y1:k91y1 N true t=0:=rfl;have p:k91p N true t=true:=rfl;rw [ck_of p,y0,y1,w8_P (by omega) (by omega),w8_Y (by omega) (by omega)];unfold finZ;cases validZ k o t with
   | false=>rfl
   | true=>rfl
theorem w14_bad (N:Nat) {w k o:Int} (l:List Ev) (h:(w < 0\/3 < w)\/rightZ k o=false):w14z N w k o l=some ([],1):=by
 unfold w14z w14 w14G;rw [w22_P,Bool.or_true,ck_t,w22_Y];have e:(decide (w < 0)||decide (3 < w)||!rightZ k o)=true:=by
  simp only [Bool.or_eq_true,decide_eq_true_eq,Bool.not_eq_true'];exact h
 rw [e];rfl
theorem w14_eq {N:Nat} (hN:100<=N) {w k o:Int} {l:List Ev} (hl:l.length < N) (hm:l.length<=1000000) (hr:rightZ k o=true) (hw:w=1\/w=2\/w=3):w14z N w k o l=some (finZ k o (runZ w l).1 (runZ w l).2):=by
 have hlen:=run_len w l;unfold w14z w14 w14G;have e:(decide (w < 0)||decide (3 < w)||!rightZ k o)=false:=by
  rw [hr,decide_eq_false (show ¬ w < 0 by omega),decide_eq_false (show ¬ 3 < w by omega)];rfl
 rw [w22_P,Bool.or_true,ck_t,w22_Y,e,br_f,decide_eq_false (show ¬ w=0 by omega),br_f];have fin:∀ (t:List UInt8) (d:Bool),t.length<=40->(br (!d) (some (w14r0 [] 11)) (ck (w9p N k o t) (br (!w9y0 N k o t) (some (w14r0 [] 2)) (some (w14r0 t 0)))):O).bind w14un=some (finZ k o t d):=by
  intro t d ht;cases d with
  | false=>rfl
  | true=>
    rw [Bool.not_true,br_f,ck_of (w9_P (by omega) (by omega) ..),w9_Y (by omega) (by omega)];unfold finZ;cases validZ k o t with
    | false=>rfl
    | true=>rfl
 rcases hw with rfl | rfl | rfl
 ·refine (congrArg (fun z:O=>z.bind w14un) (w14_loop1 N k o l hm _ (fun _=>none) (fun _=>none) N 0 ([],false,0,0) ic0 (by omega) (Nat.zero_le _))).trans ?_
  rw [List.drop_zero];exact fin _ _ hlen
 ·refine (congrArg (fun z:O=>z.bind w14un) (w14_loop2 N k o l hm _ (fun _=>none) (fun _=>none) N 0 ([],false,0) iv0 (by omega) (Nat.zero_le _))).trans ?_
  rw [List.drop_zero];exact fin _ _ hlen
 ·refine (congrArg (fun z:O=>z.bind w14un) (w14_loop3 N k o l hm _ (fun _=>none) (fun _=>none) N 0 ([],false) (by show 0<=40;omega) (by omega) (Nat.zero_le _))).trans ?_
  rw [List.drop_zero];exact fin _ _ hlen
end Go.Proofs
