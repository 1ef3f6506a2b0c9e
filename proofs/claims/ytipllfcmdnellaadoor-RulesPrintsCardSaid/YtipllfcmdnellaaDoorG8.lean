/- The text of rules, by the reference, in plain words. Conditions are in the theorems. -/
import Derived.Test.YtipllfcmdnellaaDoorF5
import Derived.Test.YtipllfcmdnellaaDoorG7
import Derived.Test.YtipllfcmdnellaaDoorG1
import Derived.Lib.ItoaMem
/- The text of rules, by the reference: tokens, lines. -/
namespace Go.Proofs
open Go Go.Ax Go.Ax.Alg
theorem u8of_dec {d:Int} (h0:0<=d) (h1:d<=9):u8of (IntKind.i64.wrap (48+d))=UInt8.ofNat (48+d.toNat):=by
 rw [wr (by omega) (by omega)];show UInt8.ofNat ((48+d) % 256).toNat=_
 congr 1
 omega
theorem dec_len (u:Nat):(Lib.decDigits u).length=Lib.nDigits u:=by rw [Lib.decDigits_eq];simp
theorem nd_le:∀ (k n:Nat),n < 10 ^ (k+1)->Lib.nDigits n<=k+1
 | 0,n,h=>by rw [Lib.nDigits_small (by omega)];exact Nat.le_refl _
 | k+1,n,h=>by
   by_cases hn:n < 10
   ·rw [Lib.nDigits_small hn];omega
   ·rw [Lib.nDigits_big hn]
    have hp:10 ^ (k+1+1)=10 ^ (k+1) * 10:=Nat.pow_succ 10 (k+1);have:=nd_le k (n / 10) (by omega);omega
theorem w54Y_eq (N:Nat):∀ (m:Nat) (n:Int),Lib.nDigits n.toNat<=m->0<=n->n < 1000000->w54Y N m n=some (Lib.decDigits n.toNat)
 | 0,n,h,_,_=>by have:=Lib.nDigits_pos n.toNat;omega
 | m+1,n,h,h0,hb=>by
   show w54z (N,w54Y N m) n=_;unfold w54z w54 w54G;by_cases h10:n < 10
   ·rw [decide_eq_true h10,br_t,u8of_dec h0 (by omega),Lib.decDigits,dif_pos (by omega)]
    rfl
   ·have hd:n.tdiv 10=n / 10:=Int.tdiv_eq_ediv_of_nonneg h0
    have hm:n.tmod 10=n % 10:=Int.tmod_eq_emod_of_nonneg h0;rw [decide_eq_false h10,br_f,ck_t,hd,hm,wr (by omega) (by omega)];have hl:Lib.nDigits n.toNat=Lib.nDigits (n / 10).toNat+1:=by
     rw [Lib.nDigits_big (by omega),show n.toNat / 10=(n / 10).toNat by omega]
    have ih:=w54Y_eq N m (n / 10) (by omega) (by omega) (by omega);have hlen:=nd_le 5 (n / 10).toNat (by have:10 ^ (5+1)=1000000:=rfl;omega);have ih':(N,w54Y N m).2 (n / 10)=some (Lib.decDigits (n / 10).toNat):=ih;rw [ih',u8of_dec (by omega) (by omega)];have hck:decide ((↑((some (Lib.decDigits (n / 10).toNat)).getD []).length:Int)+(↑[UInt8.ofNat (48+(n % 10).toNat)].length:Int)<=9223372036854775807)=true:=by
     apply decide_eq_true;show ((Lib.decDigits (n / 10).toNat).length:Int)+(1:Nat)<=_;rw [dec_len];omega
    have hs:(some (Lib.decDigits (n / 10).toNat)).isSome=true:=rfl;rw [ck_of hs,ck_t,ck_of hck];rw [Lib.decDigits.eq_def n.toNat,dif_neg (by omega),show n.toNat / 10=(n / 10).toNat by omega,show n.toNat % 10=(n % 10).toNat by omega];rfl
theorem w54p_eq {n:Int} (h0:0<=n) (hb:n < 1000000):w54p 2000 n=true/\w54y0 2000 n=Lib.decDigits n.toNat:=by
 have hl:=nd_le 5 n.toNat (by have:10 ^ (5+1)=1000000:=rfl;omega);have:=w54Y_eq 2000 2000 n (by omega) h0 hb;unfold w54p w54y0;rw [this];exact ⟨rfl,rfl⟩
theorem dec_le {n:Int} (hb:n < 1000000):(Lib.decDigits n.toNat).length<=6:=by
 rw [dec_len];exact nd_le 5 n.toNat (by have:10 ^ (5+1)=1000000:=rfl;omega)
def andT:List UInt8:=[97,110,100]
def ifT:List UInt8:=[105,102]
def notT:List UInt8:=[110,111,116]
def alwT:List UInt8:=[97,108,119,97,121,115]
def mostT:List UInt8:=[109,111,115,116]
def leastT:List UInt8:=[108,101,97,115,116]
def wordT (d:Int):List UInt8:=if d=0 then [115,116,114,105,107,101] else if d=1 then [114,101,115,116,111,114,101] else [114,101,116,97,107,101]
def termT (first:Bool) (t:Int):List (List UInt8):=[if first then ifT else andT]++(if t < 0 then [notT] else [])++[[102]++Lib.decDigits (num t).toNat]
def termsT:Bool->List Int->List (List UInt8)
 | _,[]=>[]
 | f,t::l=>termT f t++termsT false l
def amtT (a:Int):List (List UInt8):=if a < 0 then [mostT,Lib.decDigits (-1 - a).toNat] else [leastT,Lib.decDigits a.toNat]
def tksZ (r:Rl):List (List UInt8):=(if r.1=[] then [alwT] else termsT true r.1)++[wordT r.2.1]++amtT r.2.2
theorem termsT_len:∀ (l:List Int) (f:Bool),(termsT f l).length<=3 * l.length
 | [],_=>by simp [termsT]
 | t::l,f=>by
   have:=termsT_len l false;unfold termsT termT;by_cases ht:t < 0
   ·rw [if_pos ht];simp;omega
   ·rw [if_neg ht];simp;omega
theorem w40_terms {l:List Int} (hl:∀ t ∈ l,-16<=t/\t<=16) (h8:l.length<=8) (d a:Int) (k0:List Int×Int×Int×List (List UInt8)->O) (k1 k2:Unit->O):∀ (f i:Nat) (out:List (List UInt8)),l.length - i < f->i<=l.length->out.length<=3 * i->
    w40l1 2000 f ((i:Int),l,d,a,out) k0 k1 k2=k0 (l,d,a,out++termsT (decide (i=0)) (l.drop i))
 | 0,i,out,h,_,_=>by omega
 | f+1,i,out,h,hi,ho=>by
   show w40F1 2000 _ _ _ (i:Int) l d a out=_;unfold w40F1;by_cases hlt:i < l.length
   ·have hg:=List.getElem?_eq_getElem hlt
    have hb:=hl _ (List.getElem_mem hlt);have e:IntKind.i64.wrap ((i:Int)+1)=((i+1:Nat):Int):=by rw [wr (by omega) (by omega)];omega
    have e0:∀ (K:Int->List UInt8->List Int->Int->Int->List (List UInt8)->O),w40n0 2000 (i:Int) [97,110,100] l d a out K=K (i:Int) (if decide (i=0)=true then ifT else andT) l d a out:=fun K=>by
     show w40F0 2000 _ (i:Int) [97,110,100] l d a out=_;unfold w40F0;by_cases h0:i=0
     ·rw [decide_eq_true (show (i:Int)=0 by omega),br_t,decide_eq_true h0,if_pos rfl];rfl
     ·rw [decide_eq_false (show ¬ (i:Int)=0 by omega),br_f,decide_eq_false h0,if_neg (by simp)];rfl
    have h43:=w43_eq (t:=l[i]) (by omega) (by omega);have hn:0<=num l[i]/\num l[i]<=16:=by unfold num;omega
    obtain ⟨p54,y54⟩:=w54p_eq (n:=num l[i]) hn.1 (by omega);have hdl:=dec_le (n:=num l[i]) (by omega);have hck:decide ((1:Int)+((Lib.decDigits (num l[i]).toNat).length:Int)<=9223372036854775807)=true:=decide_eq_true (by omega);have fin:∀ out':List (List UInt8),out'=out++termT (decide (i=0)) l[i]->w40l1 2000 f (((i+1:Nat):Int),l,d,a,out') k0 k1 k2=k0 (l,d,a,out++(termT (decide (i=0)) l[i]++termsT false (l.drop (i+1)))):=fun out' he=>by
     have hol:out'.length<=3 * (i+1):=by
      rw [he,List.length_append];have:(termT (decide (i=0)) l[i]).length<=3:=by
       unfold termT;by_cases ht:l[i] < 0
       ·rw [if_pos ht];simp
       ·rw [if_neg ht];simp
      omega
     refine (w40_terms hl h8 d a k0 k1 k2 f (i+1) out' (by omega) (by omega) hol).trans ?_;rw [he,decide_eq_false (show ¬ i+1=0 by omega),List.append_assoc]
    rw [decide_eq_true (show (i:Int) < (l.length:Int) by omega),br_t,e0,drop_at hg];show _=k0 (l,d,a,out++(termT (decide (i=0)) l[i]++termsT false (l.drop (i+1))));rw [ck_of (lim_of (by simp;omega) (by simp;omega)),gx_at hg];by_cases ht:l[i] < 0
    ·rw [decide_eq_true ht,br_t,ck_of (lim_of (by simp;omega) (by simp;omega)),gx_at hg,ck_of (w43_p h43),w43_y0 h43,ck_of p54,y54,ck_of hck,ck_of (lim_of (by simp;omega) (by simp;omega)),e]
     refine fin _ ?_;unfold termT;rw [if_pos ht];simp only [List.append_assoc];rfl
    ·rw [decide_eq_false ht,br_f,gx_at hg,ck_of (w43_p h43),w43_y0 h43,ck_of p54,y54,ck_of hck,ck_of (lim_of (by simp;omega) (by simp;omega)),e]
     refine fin _ ?_;unfold termT;rw [if_neg ht];simp only [List.append_assoc,List.nil_append]
   ·rw [decide_eq_false (show ¬ (i:Int) < (l.length:Int) by omega),br_f,List.drop_eq_nil_of_le (by omega)]
    show _=k0 (l,d,a,out++[]);rw [List.append_nil]
theorem w40_ur (x:List (List UInt8)):(some (w40r0 x):O).bind w40un=some x:=rfl
end Go.Proofs
/- The text of rules, by the reference: one line for each rule. -/
namespace Go.Proofs
open Go Go.Ax Go.Ax.Alg
theorem word_at {d:Int} (h0:0<=d) (h3:d < 3) (k:List UInt8->O):gx [[(115:UInt8),(116:UInt8),(114:UInt8),(105:UInt8),(107:UInt8),(101:UInt8)],[(114:UInt8),(101:UInt8),(115:UInt8),(116:UInt8),(111:UInt8),(114:UInt8),(101:UInt8)],[(114:UInt8),(101:UInt8),(116:UInt8),(97:UInt8),(107:UInt8),(101:UInt8)]] d k=k (wordT d):=by
 have hd:d=0\/d=1\/d=2:=by omega
 rcases hd with rfl | rfl | rfl <;> rfl
theorem termsT_nil {l:List Int} (h:l≠[]):termsT true l≠[]:=by
 cases l with
 | nil=>exact absurd rfl h
 | cons t l=>unfold termsT termT;simp
theorem tks_len {r:Rl} (V:VR r):(tksZ r).length<=27:=by
 have h8:=V.l;have ht:=termsT_len r.1 true;have ha:(amtT r.2.2).length=2:=by unfold amtT;split <;> rfl
 unfold tksZ;rw [List.length_append,List.length_append,ha];split
 ·simp
 ·simp;omega
theorem w40_eq {r:Rl} (V:VR r):w40z 2000 r.1 r.2.1 r.2.2=some (tksZ r):=by
 obtain ⟨l,d,a⟩:=r;have hl:∀ t ∈ l,-16<=t/\t<=16:=fun t h=>⟨(V.t t h).1,(V.t t h).2.1⟩
 have h8:l.length<=8:=V.l;have d0:0<=d:=V.d0;have d3:d < 3:=V.d3;have a0:-10000<=a:=V.a0;have a1:a<=9999:=V.a1;unfold w40z w40 w40G w40n1;refine (congrArg (fun z:O=>z.bind w40un) (w40_terms hl h8 d a _ _ _ 2000 0 [] (by omega) (by omega) (by simp))).trans ?_;rw [List.drop_zero,List.nil_append,decide_eq_true rfl];have htl:=termsT_len l true;have e2:∀ (K:List Int->Int->Int->List (List UInt8)->O),w40n2 2000 l d a (termsT true l) K=K l d a (if l=[] then [alwT] else termsT true l):=fun K=>by
  show w40F2 2000 _ l d a (termsT true l)=_;unfold w40F2;by_cases hn:l=[]
  ·subst hn
   rw [if_pos rfl];rfl
  ·have h1:=termsT_nil hn
   have h2:¬ ((termsT true l).length:Int)=0:=fun h=>h1 (List.length_eq_zero_iff.1 (by omega))
   rw [if_neg hn,decide_eq_false h2,br_f]
 show (w40n2 2000 l d a (termsT true l) _).bind w40un=_;rw [e2];have hol:(if l=[] then [alwT] else termsT true l).length<=24:=by
  split
  ·simp
  ·omega
 have htk:tksZ (l,d,a)=(if l=[] then [alwT] else termsT true l)++[wordT d]++amtT a:=rfl;rw [htk];generalize (if l=[] then [alwT] else termsT true l)=out at hol ⊢;rw [word_at d0 d3,ck_of (lim_of (by simp;omega) (by simp;omega))];by_cases ha:a < 0
 ·have e1:IntKind.i64.wrap (-1 - a) = -1 - a:=wr (by omega) (by omega)
  obtain ⟨p,y⟩:=w54p_eq (n:=-1 - a) (by omega) (by omega);rw [decide_eq_true ha,br_t,e1,ck_of p,y,ck_of (lim_of (by simp;omega) (by simp;omega))];unfold amtT;rw [if_pos ha];exact w40_ur _
 ·obtain ⟨p,y⟩:=w54p_eq (n:=a) (by omega) (by omega)
  rw [decide_eq_false ha,br_f,ck_of p,y,ck_of (lim_of (by simp;omega) (by simp;omega))];unfold amtT;rw [if_neg ha];exact w40_ur _
def sepT:Bool->List (List UInt8)->List UInt8
 | _,[]=>[]
 | f,t::l=>(if f then [] else [32])++t++sepT false l
def lineT (r:Rl):List UInt8:=sepT true (tksZ r)++[10]
def textT (l:List Rl):List UInt8:=l.flatMap lineT
theorem sepT_len:∀ (T:List (List UInt8)) (f:Bool) (m:Nat),(∀ t ∈ T,t.length<=m)->(sepT f T).length<=T.length * (m+1)
 | [],_,_,_=>by simp [sepT]
 | t::T,f,m,h=>by
   have h1:=h t (by simp);have h2:=sepT_len T false m (fun x hx=>h x (by simp [hx]));have e:(t::T).length * (m+1)=T.length * (m+1)+(m+1):=by rw [List.length_cons,Nat.succ_mul]
   rw [e];show ((if f then [] else [32])++t++sepT false T).length<=_;rw [List.length_append,List.length_append];have:(if f then [] else [(32:UInt8)]).length<=1:=by split <;> simp
   omega
theorem tks_word {r:Rl} (V:VR r):∀ t ∈ tksZ r,t.length<=7:=by
 have dec7:∀ n:Int,n < 1000000->(Lib.decDigits n.toNat).length<=6:=fun n h=>dec_le h
 have ht:∀ (l:List Int),(∀ t ∈ l,-16<=t/\t<=16)->∀ (f:Bool),∀ x ∈ termsT f l,x.length<=7:=by
  intro l
  induction l with
  | nil=>intro _ f x hx;cases hx
  | cons t l ih=>
    intro hl f x hx;have hb:=hl t (by simp);unfold termsT at hx;rcases List.mem_append.1 hx with h | h
    ·unfold termT at h
     have hn:num t < 1000000:=by unfold num;omega
     have:=dec7 (num t) hn;simp only [List.mem_append,List.mem_singleton] at h;rcases h with (h | h) | h
     ·subst h;split <;> decide
     ·split at h
      ·rw [List.mem_singleton.1 h];decide
      ·cases h
     ·subst h;simp;omega
    ·exact ih (fun t h=>hl t (by simp [h])) false x h
 intro x hx;unfold tksZ at hx;rcases List.mem_append.1 hx with h | h
 ·rcases List.mem_append.1 h with h | h
  ·split at h
   ·rw [List.mem_singleton.1 h];decide
   ·exact ht r.1 (fun t h=>⟨(V.t t h).1,(V.t t h).2.1⟩) true x h
  ·rw [List.mem_singleton.1 h]
   unfold wordT;split
   ·decide
   ·split <;> decide
 ·unfold amtT at h
  have a0:=V.a0;have a1:=V.a1;have h1:=dec7 (-1 - r.2.2) (by omega);have h2:=dec7 r.2.2 (by omega);split at h
  ·rcases List.mem_cons.1 h with h | h
   ·subst h;decide
   ·rw [List.mem_singleton.1 h];omega
  ·rcases List.mem_cons.1 h with h | h
   ·subst h;decide
   ·rw [List.mem_singleton.1 h];omega
theorem line_len {r:Rl} (V:VR r):(lineT r).length<=250:=by
 have h1:=sepT_len (tksZ r) true 7 (tks_word V);have h2:=tks_len V;unfold lineT;rw [List.length_append];have:(tksZ r).length * 8<=216:=by omega
 simp;omega
theorem w23_line (L:List Rl) (i:Int) {T:List (List UInt8)} (hT:∀ t ∈ T,t.length<=7) (hn:T.length<=27) (k0:List Rl×List UInt8×Int->O) (k1 k2:Unit->O):∀ (f k:Nat) (out:List UInt8),T.length - k < f->k<=T.length->out.length<=1000000+8 * k->
    w23l0 2000 f (L,out,i,T,(k:Int)) k0 k1 k2=k0 (L,out++sepT (decide (k=0)) (T.drop k),i)
 | 0,k,out,h,_,_=>by omega
 | f+1,k,out,h,hk,ho=>by
   show w23F0 2000 _ _ L i T out (k:Int)=_;unfold w23F0;by_cases hlt:k < T.length
   ·have hg:=List.getElem?_eq_getElem hlt
    have hl:=hT _ (List.getElem_mem hlt);have e:IntKind.i64.wrap ((k:Int)+1)=((k+1:Nat):Int):=by rw [wr (by omega) (by omega)];omega
    rw [decide_eq_true (show (k:Int) < (T.length:Int) by omega),br_t,drop_at hg,e];by_cases h0:k=0
    ·rw [decide_eq_false (show ¬ (0:Int) < (k:Int) by omega),br_f,gx_at hg,ck_of (decide_eq_true (by omega)),decide_eq_true h0]
     refine (w23_line L i hT hn k0 k1 k2 f (k+1) (out++T[k]) (by omega) (by omega) (by simp;omega)).trans ?_;rw [decide_eq_false (show ¬ k+1=0 by omega),List.append_assoc];rfl
    ·rw [decide_eq_true (show (0:Int) < (k:Int) by omega),br_t,ck_of (decide_eq_true (by omega)),gx_at hg,ck_of (decide_eq_true (by simp;omega)),decide_eq_false h0]
     refine (w23_line L i hT hn k0 k1 k2 f (k+1) (out++[32]++T[k]) (by omega) (by omega) (by simp;omega)).trans ?_;rw [decide_eq_false (show ¬ k+1=0 by omega)];show k0 (L,out++[32]++T[k]++sepT false (T.drop (k+1)),i)=k0 (L,out++([32]++T[k]++sepT false (T.drop (k+1))),i);simp only [List.append_assoc]
   ·rw [decide_eq_false (show ¬ (k:Int) < (T.length:Int) by omega),br_f,List.drop_eq_nil_of_le (by omega)]
    show _=k0 (L,out++[],i);rw [List.append_nil]
theorem w23_lines {L:List Rl} (hV:∀ r ∈ L,VR r) (hn:L.length<=100) (k0:List UInt8->O) (k1 k2:Unit->O):∀ (f i:Nat) (out:List UInt8),L.length - i < f->i<=L.length->out.length<=250 * i->
    w23l1 2000 f (L,out,(i:Int)) k0 k1 k2=k0 (out++textT (L.drop i))
 | 0,i,out,h,_,_=>by omega
 | f+1,i,out,h,hi,ho=>by
   show w23F1 2000 _ _ _ L out (i:Int)=_;unfold w23F1;by_cases hlt:i < L.length
   ·have hg:=List.getElem?_eq_getElem hlt
    have V:=hV _ (List.getElem_mem hlt);have h40:=w40_eq V;have p40:w40p 2000 L[i].1 L[i].2.1 L[i].2.2=true:=by unfold w40p;rw [h40];rfl
    have y40:w40y0 2000 L[i].1 L[i].2.1 L[i].2.2=tksZ L[i]:=by unfold w40y0;rw [h40];rfl
    have e:IntKind.i64.wrap ((i:Int)+1)=((i+1:Nat):Int):=by rw [wr (by omega) (by omega)];omega
    have hll:=line_len V;have hsl:(sepT true (tksZ L[i])).length+1=(lineT L[i]).length:=by unfold lineT;simp
    rw [decide_eq_true (show (i:Int) < (L.length:Int) by omega),br_t,gx_at hg,ck_of p40,y40,drop_at hg];unfold w23n0;refine (w23_line L (i:Int) (tks_word V) (tks_len V) _ _ _ 2000 0 out (by have:=tks_len V;omega) (by omega) (by omega)).trans ?_;rw [List.drop_zero,decide_eq_true rfl];show (ck (decide (((out++sepT true (tksZ L[i])).length:Int)+1<=9223372036854775807)) <| w23l1 2000 f (L,out++sepT true (tksZ L[i])++[10],IntKind.i64.wrap ((i:Int)+1)) k0 k1 k2)=_;rw [ck_of (decide_eq_true (by simp;omega)),e];refine (w23_lines hV hn k0 k1 k2 f (i+1) _ (by omega) (by omega) (by simp;omega)).trans ?_;show k0 (out++sepT true (tksZ L[i])++[10]++textT (L.drop (i+1)))=k0 (out++((sepT true (tksZ L[i])++[10])++textT (L.drop (i+1))));simp only [List.append_assoc]
   ·rw [decide_eq_false (show ¬ (i:Int) < (L.length:Int) by omega),br_f,List.drop_eq_nil_of_le (by omega)]
    show _=k0 (out++[]);rw [List.append_nil]
end Go.Proofs
/- The reference's Print. -/
namespace Go.Proofs
open Go Go.Ax Go.Ax.Alg
theorem check_vr {l:List Rl} (h:checkZ l=0):l.length<=32/\∀ r ∈ l,VR r:=by
 unfold checkZ at h;split at h
 ·cases h
 ·split at h
  ·rename_i h1 h2
   exact ⟨by omega,fun r hr=>VR.of (List.all_eq_true.1 h2 r hr)⟩
  ·cases h
def printZ (l:List Rl):List UInt8:=if checkZ l=0 then textT l else []
theorem w23_ur (x:List UInt8):(some (w23r0 x):O).bind w23un=some x:=rfl
theorem w23_eq (l:List Rl) (hl:l.length < 150) (hr:∀ r ∈ l,r.1.length < 150):w23z 2000 l=some (printZ l):=by
 have h25:=w25_eq l hl hr;have p25:w25p 2000 l=true:=by unfold w25p;rw [h25];rfl
 have y25:w25y0 2000 l=checkZ l:=by unfold w25y0;rw [h25];rfl
 unfold w23z w23 w23G printZ;rw [ck_of p25,y25];by_cases h0:checkZ l=0
 ·obtain ⟨h32,hV⟩:=check_vr h0
  rw [decide_eq_false (fun h=>h h0),br_f,if_pos h0];unfold w23n1;refine (congrArg (fun z:O=>z.bind w23un) (w23_lines hV (by omega) _ _ _ 2000 0 [] (by omega) (by omega) (by simp))).trans ?_;rw [List.drop_zero];exact w23_ur _
 ·rw [decide_eq_true h0,br_t,if_neg h0]
  exact w23_ur _
end Go.Proofs
