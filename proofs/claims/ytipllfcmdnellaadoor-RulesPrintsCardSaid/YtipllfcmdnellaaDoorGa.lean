/- Print in plain words. Conditions are in the theorems. -/
import Derived.Test.YtipllfcmdnellaaDoorF8
import Derived.Test.YtipllfcmdnellaaDoorG9
import Derived.Test.YtipllfcmdnellaaDoorG7
/- Small laws of Print. -/
namespace Go.Proofs
open Go Go.Ax Go.Ax.Alg
theorem w37_p {N:Nat} {s1:(List UInt8)} {h51_0:(List UInt8)} {d:Int×(List UInt8)} (h:w37z N s1 h51_0=some d):w37p N s1 h51_0=true:=by unfold w37p;rw [h];rfl
theorem w37_y1 {N:Nat} {s1:(List UInt8)} {h51_0:(List UInt8)} {d:Int×(List UInt8)} (h:w37z N s1 h51_0=some d):w37y1 N s1 h51_0=d.2:=by unfold w37y1;rw [h];rfl
theorem w39_p {N:Nat} {h51_0:(List UInt8)} {d:(List UInt8)} (h:w39z N h51_0=some d):w39p N h51_0=true:=by unfold w39p;rw [h];rfl
theorem w39_y0 {N:Nat} {h51_0:(List UInt8)} {d:(List UInt8)} (h:w39z N h51_0=some d):w39y0 N h51_0=d:=by unfold w39y0;rw [h];rfl
theorem w38_p {N:Nat} {elems0:(List (List UInt8))} {sep1:(List UInt8)} {d:(List UInt8)} (h:w38z N elems0 sep1=some d):w38p N elems0 sep1=true:=by unfold w38p;rw [h];rfl
theorem w38_y0 {N:Nat} {elems0:(List (List UInt8))} {sep1:(List UInt8)} {d:(List UInt8)} (h:w38z N elems0 sep1=some d):w38y0 N elems0 sep1=d:=by unfold w38y0;rw [h];rfl
theorem w22_p {N:Nat} {l0:(List ((List Int)×(Int×Int)))} {d:(List UInt8)} (h:w22z N l0=some d):w22p N l0=true:=by unfold w22p;rw [h];rfl
theorem w22_y0 {N:Nat} {l0:(List ((List Int)×(Int×Int)))} {d:(List UInt8)} (h:w22z N l0=some d):w22y0 N l0=d:=by unfold w22y0;rw [h];rfl
end Go.Proofs
/- Words are joined; the program's Print. -/
namespace Go.Proofs
open Go Go.Ax Go.Ax.Alg
theorem w37_eq {s b:List UInt8} (h:b.length+s.length<=100000):w37z 2000 s b=some ((s.length:Int),b++s):=by
 unfold w37z w37 w37G;rw [ck_t,ck_of (lim_of (by omega) (by omega))];rfl
theorem w39_eq (b:List UInt8):w39z 2000 b=some b:=by
 unfold w39z w39 w39G;rw [decide_eq_true rfl,ck_t];rfl
def sumL:List (List UInt8)->Nat
 | []=>0
 | t::l=>t.length+sumL l
theorem w38_sum {T:List (List UInt8)} (hT:T.length<=100) (hw:∀ t ∈ T,t.length<=100) (A:List (List UInt8)) (B:List UInt8) (k0:List (List UInt8)×List UInt8×Int->O) (k1 k2:Unit->O):∀ (f i n:Nat),T.length - i < f->i<=T.length->n<=1000+100 * i->
    w38l1 2000 f (A,B,(n:Int),T,(T.length:Int),(i:Int)) k0 k1 k2=k0 (A,B,((n+sumL (T.drop i):Nat):Int))
 | 0,i,n,h,_,_=>by omega
 | f+1,i,n,h,hi,hn=>by
   show w38F1 2000 _ _ A B T (T.length:Int) (n:Int) (i:Int)=_;unfold w38F1;by_cases hlt:i < T.length
   ·have hg:=List.getElem?_eq_getElem hlt
    have hl:=hw _ (List.getElem_mem hlt);have e1:IntKind.i64.wrap (9223372036854775807 - (n:Int))=9223372036854775807 - (n:Int):=wr (by omega) (by omega);have e2:IntKind.i64.wrap ((n:Int)+(T[i].length:Int))=((n+T[i].length:Nat):Int):=by rw [wr (by omega) (by omega)];omega
    rw [decide_eq_true (show (i:Int) < (T.length:Int) by omega),br_t,gx_at hg,e1,decide_eq_false (show ¬ 9223372036854775807 - (n:Int) < (T[i].length:Int) by omega),br_f,e2,nxt (by omega),drop_at hg];refine (w38_sum hT hw A B k0 k1 k2 f (i+1) (n+T[i].length) (by omega) (by omega) (by omega)).trans ?_;show k0 (A,B,((n+T[i].length+sumL (T.drop (i+1)):Nat):Int))=k0 (A,B,((n+(T[i].length+sumL (T.drop (i+1))):Nat):Int));rw [Nat.add_assoc]
   ·rw [decide_eq_false (show ¬ (i:Int) < (T.length:Int) by omega),br_f,List.drop_eq_nil_of_le (by omega)]
    rfl
theorem w38_put {T:List (List UInt8)} (hT:T.length<=100) (hw:∀ t ∈ T,t.length<=100) (k0:List UInt8->O) (k1 k2:Unit->O):∀ (f i:Nat) (b:List UInt8),T.length - i < f->i<=T.length->b.length<=1000+101 * i->
    w38l2 2000 f ([32],T,(T.length:Int),(i:Int),b) k0 k1 k2=k0 (b++sepT false (T.drop i))
 | 0,i,b,h,_,_=>by omega
 | f+1,i,b,h,hi,hb=>by
   show w38F2 2000 _ _ [32] T (T.length:Int) (i:Int) b=_;unfold w38F2;by_cases hlt:i < T.length
   ·have hg:=List.getElem?_eq_getElem hlt
    have hl:=hw _ (List.getElem_mem hlt);have h1:=w37_eq (s:=[32]) (b:=b) (by simp;omega);have h2:=w37_eq (s:=T[i]) (b:=b++[32]) (by simp;omega);rw [decide_eq_true (show (i:Int) < (T.length:Int) by omega),br_t,gx_at hg,ck_of (w37_p h1),w37_y1 h1];simp only [];rw [ck_of (w37_p h2),w37_y1 h2,nxt (by omega),drop_at hg];refine (w38_put hT hw k0 k1 k2 f (i+1) _ (by omega) (by omega) (by simp;omega)).trans ?_;show k0 (b++[32]++T[i]++sepT false (T.drop (i+1)))=k0 (b++([32]++T[i]++sepT false (T.drop (i+1))));simp only [List.append_assoc]
   ·rw [decide_eq_false (show ¬ (i:Int) < (T.length:Int) by omega),br_f,List.drop_eq_nil_of_le (by omega)]
    show _=k0 (b++[]);rw [List.append_nil]
theorem sumL_le:∀ (T:List (List UInt8)),(∀ t ∈ T,t.length<=100)->sumL T<=100 * T.length
 | [],_=>by simp [sumL]
 | t::T,h=>by
   have h1:=h t (by simp);have h2:=sumL_le T (fun x hx=>h x (by simp [hx]));unfold sumL;rw [List.length_cons];omega
theorem w38_ur (x:List UInt8):(some (w38r0 x):O).bind w38un=some x:=rfl
theorem w38_eq {a b:List UInt8} {T:List (List UInt8)} (hT:T.length<=50) (hw:∀ t ∈ a::b::T,t.length<=100) (ha:1<=a.length):w38z 2000 (a::b::T) [32]=some (sepT true (a::b::T)):=by
 have hl:((a::b::T).length:Int)=(T.length:Int)+2:=by simp;omega
 have hla:=hw a (by simp);unfold w38z w38 w38G;rw [decide_eq_false (show ¬ ((a::b::T).length:Int)=0 by omega),br_f,decide_eq_false (show ¬ ((a::b::T).length:Int)=1 by omega),br_f];have e0:IntKind.i64.wrap (((a::b::T).length:Int) - 1)=(T.length:Int)+1:=by rw [wr (by omega) (by omega)];omega
 have hdv:2<=(9223372036854775807:Int).tdiv ((T.length:Int)+1)/\(9223372036854775807:Int).tdiv ((T.length:Int)+1)<=9223372036854775807:=by
  rw [Int.tdiv_eq_ediv_of_nonneg (by omega)];constructor
  ·rw [Int.le_ediv_iff_mul_le (by omega)];omega
  ·exact Int.ediv_le_self _ (by omega)
 have e1:IntKind.i64.wrap ((9223372036854775807:Int).tdiv ((T.length:Int)+1))=(9223372036854775807:Int).tdiv ((T.length:Int)+1):=wr (by omega) (by omega);have e2:IntKind.i64.wrap ((([32]:List UInt8).length:Int) * ((T.length:Int)+1))=(T.length:Int)+1:=by
  rw [show ((([32]:List UInt8).length:Int))=1 from rfl,Int.one_mul,wr (by omega) (by omega)]
 have e3:IntKind.i64.wrap (0+((T.length:Int)+1))=((T.length+1:Nat):Int):=by rw [wr (by omega) (by omega)];omega
 have s0:∀ K:List (List UInt8)->List UInt8->Int->O,w38n0 2000 (a::b::T) [32] 0 K=K (a::b::T) [32] ((T.length+1:Nat):Int):=fun K=>by
  show w38F0 2000 _ (a::b::T) [32] 0=_;unfold w38F0;rw [decide_eq_true (show (0:Int) < (([32]:List UInt8).length:Int) by decide),br_t,e0,ck_of (decide_eq_true (by omega)),e1,decide_eq_false (show ¬ (9223372036854775807:Int).tdiv ((T.length:Int)+1)<=(([32]:List UInt8).length:Int) by
   show ¬ _<=(1:Int);omega),br_f,e2,e3]
 rw [s0];have hs:=sumL_le (a::b::T) hw;have hs0:1<=sumL (a::b::T):=by unfold sumL;omega
 have hlN:(a::b::T).length=T.length+2:=by simp
 unfold w38n1;refine (congrArg (fun z:O=>z.bind w38un) (w38_sum (T:=a::b::T) (by omega) hw (a::b::T) [32] _ _ _ 2000 0 (T.length+1) (by omega) (by omega) (by omega))).trans ?_;rw [List.drop_zero];have h37:=w37_eq (s:=a) (b:=[]) (by simp;omega);show (ck (decide ((0:Int) < ((T.length+1+sumL (a::b::T):Nat):Int)/\((T.length+1+sumL (a::b::T):Nat):Int)<=140737488355328)) <| gx (a::b::T) 0 fun y12=>_).bind w38un=_;rw [ck_of (decide_eq_true ⟨by omega,by omega⟩),gx_0,ck_of (w37_p h37),w37_y1 h37];have hsl:slc (a::b::T) (some (1:Int)) none=b::T:=rfl;rw [ck_of (show slcOk (a::b::T).length (some (1:Int)) none=true from decide_eq_true ⟨by omega,by omega⟩),hsl];unfold w38n2;refine (congrArg (fun z:O=>z.bind w38un) (w38_put (T:=b::T) (by simp;omega) (fun t h=>hw t (by simp at h ⊢;exact .inr h)) _ _ _ 2000 0 ([]++a) (by simp;omega) (by omega) (by simp;omega))).trans ?_;have h39:=w39_eq ([]++a++sepT false ((b::T).drop 0));show (ck (w39p 2000 ([]++a++sepT false ((b::T).drop 0))) (some (w38r0 (w39y0 2000 ([]++a++sepT false ((b::T).drop 0)))))).bind w38un=_;rw [ck_of (w39_p h39),w39_y0 h39];refine (w38_ur _).trans ?_;rfl
end Go.Proofs
/- The program's Print: the same text as the reference's. -/
namespace Go.Proofs
open Go Go.Ax Go.Ax.Alg
theorem w22_terms {L:List Rl} {n:Int} {W:List (List UInt8)} {l':List Int} {d a:Int} {buf:List UInt8} {l:List Int} (hl:∀ t ∈ l,-16<=t/\t<=16) (h8:l.length<=8) (q:Int)
    (k0:List Rl×Int×Int×List (List UInt8)×List Int×Int×Int×List (List UInt8)×List UInt8->O) (k1 k2:Unit->O):∀ (f i:Nat) (out:List (List UInt8)),l.length - i < f->i<=l.length->out.length<=3 * i->
    w22l2 2000 f (L,n,q,l,(l.length:Int),(i:Int),W,l',d,a,out,buf) k0 k1 k2=k0 (L,n,q,W,l',d,a,out++termsT (decide (i=0)) (l.drop i),buf)
 | 0,i,out,h,_,_=>by omega
 | f+1,i,out,h,hi,ho=>by
   show w22F2 2000 _ _ _ L n q l (l.length:Int) (i:Int) W l' d a out buf=_;unfold w22F2;by_cases hlt:i < l.length
   ·have hg:=List.getElem?_eq_getElem hlt
    have hb:=hl _ (List.getElem_mem hlt);have e0:∀ (x:Int) (K:List Rl->Int->Int->List Int->Int->Int->Int->List UInt8->List (List UInt8)->List Int->Int->Int->List (List UInt8)->List UInt8->O),w22n1 2000 L n q l (l.length:Int) (i:Int) (i:Int) x [97,110,100] W l' d a out buf K=K L n q l (l.length:Int) (i:Int) x (if decide (i=0)=true then ifT else andT) W l' d a out buf:=fun x K=>by
     show w22F1 2000 _ L n q l (l.length:Int) (i:Int) (i:Int) x [97,110,100] W l' d a out buf=_;unfold w22F1;by_cases h0:i=0
     ·rw [decide_eq_true (show (i:Int)=0 by omega),br_t,decide_eq_true h0,if_pos rfl];rfl
     ·rw [decide_eq_false (show ¬ (i:Int)=0 by omega),br_f,decide_eq_false h0,if_neg (by simp)];rfl
    have h36:=w36_eq (N:=2000) (t:=l[i]) (by omega) (by omega);have hn:0<=num l[i]/\num l[i]<=16:=by unfold num;omega
    obtain ⟨p35,y35⟩:=w35_eq 2000 (n:=num l[i]) hn.1 (by omega);have hdl:=dec_le (n:=num l[i]) (by omega);have hck:decide ((1:Int)+((Lib.decDigits (num l[i]).toNat).length:Int)<=9223372036854775807)=true:=decide_eq_true (by omega);have fin:∀ out':List (List UInt8),out'=out++termT (decide (i=0)) l[i]->w22l2 2000 f (L,n,q,l,(l.length:Int),((i+1:Nat):Int),W,l',d,a,out',buf) k0 k1 k2=k0 (L,n,q,W,l',d,a,out++(termT (decide (i=0)) l[i]++termsT false (l.drop (i+1))),buf):=fun out' he=>by
     have hol:out'.length<=3 * (i+1):=by
      rw [he,List.length_append,term_len];have:tlN l[i]<=2:=by unfold tlN;split <;> omega
      omega
     refine (w22_terms hl h8 q k0 k1 k2 f (i+1) out' (by omega) (by omega) hol).trans ?_;rw [he,decide_eq_false (show ¬ i+1=0 by omega),List.append_assoc]
    rw [decide_eq_true (show (i:Int) < (l.length:Int) by omega),br_t,gx_at hg,e0,drop_at hg];show _=k0 (L,n,q,W,l',d,a,out++(termT (decide (i=0)) l[i]++termsT false (l.drop (i+1))),buf);rw [ck_of (lim_of (by simp;omega) (by simp;omega))];by_cases ht:l[i] < 0
    ·rw [decide_eq_true ht,br_t,ck_of (lim_of (by simp;omega) (by simp;omega)),ck_of (w36_p h36),w36_y0 h36,ck_of p35,y35,ck_of hck,ck_of (lim_of (by simp;omega) (by simp;omega)),nxt (by omega)]
     refine fin _ ?_;unfold termT;rw [if_pos ht];simp only [List.append_assoc];rfl
    ·rw [decide_eq_false ht,br_f,ck_of (w36_p h36),w36_y0 h36,ck_of p35,y35,ck_of hck,ck_of (lim_of (by simp;omega) (by simp;omega)),nxt (by omega)]
     refine fin _ ?_;unfold termT;rw [if_neg ht];simp only [List.append_assoc,List.nil_append]
   ·rw [decide_eq_false (show ¬ (i:Int) < (l.length:Int) by omega),br_f,List.drop_eq_nil_of_le (by omega)]
    show _=k0 (L,n,q,W,l',d,a,out++[],buf);rw [List.append_nil]
def wordsW:List (List UInt8):=[[115,116,114,105,107,101],[114,101,115,116,111,114,101],[114,101,116,97,107,101]]
theorem words_at {d:Int} (h0:0<=d) (h3:d < 3) (k:List UInt8->O):gn wordsW d.toNat k=k (wordT d):=by
 have hd:d=0\/d=1\/d=2:=by omega
 rcases hd with rfl | rfl | rfl <;> rfl
theorem join_tks {r:Rl} (V:VR r):w38z 2000 (tksZ r) [32]=some (sepT true (tksZ r)):=by
 have hl:=tks_len V;have hw:=tks_word V;have hk:=tks_ok r;have h2:2<=(tksZ r).length:=by
  unfold tksZ;have:(amtT r.2.2).length=2:=by unfold amtT;split <;> rfl
  rw [List.length_append,this];omega
 generalize tksZ r=T at hl hw hk h2
 match T,h2 with
 | a::b::T,_=>
   exact w38_eq (by simp at hl;omega) (fun t ht=>by have:=hw t ht;omega) (hk a (by simp)).1
theorem w22_lines {L:List Rl} (hV:∀ r ∈ L,VR r) (hn:L.length<=100) (k0:List UInt8->O) (k1 k2:Unit->O):∀ (f i:Nat) (buf:List UInt8),L.length - i < f->i<=L.length->buf.length<=250 * i->
    w22l4 2000 f (L,(L.length:Int),(i:Int),wordsW,buf) k0 k1 k2=k0 (buf++textT (L.drop i))
 | 0,i,buf,h,_,_=>by omega
 | f+1,i,buf,h,hi,ho=>by
   show w22F4 2000 _ _ _ _ _ L (L.length:Int) (i:Int) wordsW buf=_;unfold w22F4;by_cases hlt:i < L.length
   ·have hg:=List.getElem?_eq_getElem hlt
    have V:=hV _ (List.getElem_mem hlt);have hll:=line_len V;have hjn:=join_tks V;have hdr:=drop_at hg;generalize L[i]=r at hg V hll hjn hdr;obtain ⟨l,d,a⟩:=r;have hl:∀ t ∈ l,-16<=t/\t<=16:=fun t h=>⟨(V.t t h).1,(V.t t h).2.1⟩
    have h8:l.length<=8:=V.l;have d0:0<=d:=V.d0;have d3:d < 3:=V.d3;have a0:-10000<=a:=V.a0;have a1:a<=9999:=V.a1;have htl:=termsT_len l true;have hsl:(sepT true (tksZ (l,d,a))).length+1=(lineT (l,d,a)).length:=by unfold lineT;simp
    rw [decide_eq_true (show (i:Int) < (L.length:Int) by omega),br_t,gx_at hg,hdr];have s2:∀ K:List Rl->Int->Int->List (List UInt8)->List Int->Int->Int->List (List UInt8)->List UInt8->O,w22n2 2000 L (L.length:Int) (i:Int) l (l.length:Int) 0 wordsW l d a [] buf K=K L (L.length:Int) (i:Int) wordsW l d a (termsT true l) buf:=fun K=>by
     have:=w22_terms (L:=L) (n:=(L.length:Int)) (W:=wordsW) (l':=l) (d:=d) (a:=a) (buf:=buf) hl h8 (i:Int) (fun y=>K y.1 y.2.1 y.2.2.1 y.2.2.2.1 y.2.2.2.2.1 y.2.2.2.2.2.1 y.2.2.2.2.2.2.1 y.2.2.2.2.2.2.2.1 y.2.2.2.2.2.2.2.2) (fun _=>none) (fun _=>none) 2000 0 [] (by omega) (by omega) (by simp);rw [List.drop_zero,decide_eq_true rfl,List.nil_append] at this;exact this
    have s3:∀ K:List Rl->Int->Int->List (List UInt8)->List Int->Int->Int->List (List UInt8)->List UInt8->O,w22n3 2000 L (L.length:Int) (i:Int) wordsW l d a (termsT true l) buf K=K L (L.length:Int) (i:Int) wordsW l d a (headT l) buf:=fun K=>by
     show w22F3 2000 _ L (L.length:Int) (i:Int) wordsW l d a (termsT true l) buf=_;unfold w22F3 headT;by_cases hn:l=[]
     ·subst hn
      rw [if_pos rfl];rfl
     ·have h1:=termsT_nil hn
      have h2:¬ ((termsT true l).length:Int)=0:=fun h=>h1 (List.length_eq_zero_iff.1 (by omega))
      rw [if_neg hn,decide_eq_false h2,br_f]
    have hol:(headT l).length<=24:=by
     unfold headT;split
     ·simp
     ·omega
    rw [s2,s3];have hwl:(wordsW.length:Int)=3:=rfl;rw [hwl,ck_of (decide_eq_true ⟨d0,d3⟩),words_at d0 d3,ck_of (lim_of (by simp;omega) (by simp;omega))];have hbl:(buf++(sepT true (tksZ (l,d,a))++[10])).length<=250 * (i+1):=by simp;omega
    have h37:=w37_eq (s:=sepT true (tksZ (l,d,a))++[10]) (b:=buf) (by simp;omega);have fin:w22l4 2000 f (L,(L.length:Int),((i+1:Nat):Int),wordsW,buf++(sepT true (tksZ (l,d,a))++[10])) k0 k1 k2=k0 (buf++textT ((l,d,a)::L.drop (i+1))):=by
     refine (w22_lines hV hn k0 k1 k2 f (i+1) _ (by omega) (by omega) hbl).trans ?_;rw [List.append_assoc];rfl
    by_cases ha:a < 0
    ·have e1:IntKind.i64.wrap (-1 - a) = -1 - a:=wr (by omega) (by omega)
     obtain ⟨p,y⟩:=w35_eq 2000 (n:=-1 - a) (by omega) (by omega);have hz:headT l++[wordT d]++[[109,111,115,116],Lib.decDigits (-1 - a).toNat]=tksZ (l,d,a):=by
      show _=headT l++[wordT d]++amtT a;unfold amtT;rw [if_pos ha];rfl
     rw [decide_eq_true ha,br_t,e1,ck_of p,y,ck_of (lim_of (by simp;omega) (by simp;omega)),hz,ck_of (w38_p hjn),w38_y0 hjn,ck_of (decide_eq_true (by omega)),ck_of (w37_p h37),w37_y1 h37,nxt (by omega)];exact fin
    ·obtain ⟨p,y⟩:=w35_eq 2000 (n:=a) (by omega) (by omega)
     have hz:headT l++[wordT d]++[[108,101,97,115,116],Lib.decDigits a.toNat]=tksZ (l,d,a):=by
      show _=headT l++[wordT d]++amtT a;unfold amtT;rw [if_neg ha];rfl
     rw [decide_eq_false ha,br_f,ck_of p,y,ck_of (lim_of (by simp;omega) (by simp;omega)),hz,ck_of (w38_p hjn),w38_y0 hjn,ck_of (decide_eq_true (by omega)),ck_of (w37_p h37),w37_y1 h37,nxt (by omega)];exact fin
   ·rw [decide_eq_false (show ¬ (i:Int) < (L.length:Int) by omega),br_f,List.drop_eq_nil_of_le (by omega)]
    show _=k0 (buf++[]);rw [List.append_nil]
theorem w22_ur (x:List UInt8):(some (w22r0 x):O).bind w22un=some x:=rfl
theorem w22_eq (L:List Rl) (hl:L.length < 150) (hr:∀ r ∈ L,r.1.length < 150):w22z 2000 L=some (printZ L):=by
 have h29:=w29_eq L hl hr;unfold w22z w22 w22G printZ;rw [ck_of (w29_p h29),w29_y0 h29];by_cases h0:checkZ L=0
 ·obtain ⟨h32,hV⟩:=check_vr h0
  rw [decide_eq_false (fun h=>h h0),br_f,if_pos h0,ck_t,ck_t];show (w22n4 2000 L (L.length:Int) 0 wordsW [] _).bind w22un=_;unfold w22n4;refine (congrArg (fun z:O=>z.bind w22un) (w22_lines hV (by omega) _ _ _ 2000 0 [] (by omega) (by omega) (by simp))).trans ?_;rw [List.drop_zero,List.nil_append];have h39:=w39_eq (textT L);show (ck (w39p 2000 (textT L)) (some (w22r0 (w39y0 2000 (textT L))))).bind w22un=_;rw [ck_of (w39_p h39),w39_y0 h39];exact w22_ur _
 ·rw [decide_eq_true h0,br_t,if_neg h0]
  exact w22_ur _
end Go.Proofs
/- Rules are the same as themselves; what Print gives is read. -/
namespace Go.Proofs
open Go Go.Ax Go.Ax.Alg
theorem w27_loop (l:List Rl) (hl:l.length < 150) (k0:List Rl->O) (k1 k2:Unit->O):∀ (n i:Nat),l.length - i < n->i<=l.length->w27l0 2000 n (l,(i:Int),l.take i) k0 k1 k2=k0 l
 | 0,i,h,_=>by omega
 | n+1,i,h,hi=>by
   show w27F0 2000 _ _ l i (l.take i)=_;unfold w27F0;by_cases hlt:i < l.length
   ·have hg:l[i]?=some l[i]:=List.getElem?_eq_getElem hlt
    have e:l.take i++[l[i]]=l.take (i+1):=by rw [List.take_add_one,hg];rfl
    rw [decide_eq_true (show (i:Int) < (l.length:Int) by omega),br_t,gx_at hg,gx_at hg,gx_at hg,nxt (by omega),e,ck_of (lim_of (by simp;omega) (by simp;omega))];exact w27_loop l hl k0 k1 k2 n (i+1) (by omega) (by omega)
   ·rw [decide_eq_false (show ¬ (i:Int) < (l.length:Int) by omega),br_f,List.take_of_length_le (by omega)]
theorem w27_eq {l:List Rl} (hl:l.length < 150):w27z 2000 l=some l:=by
 unfold w27z w27 w27G;exact congrArg (fun z:O=>z.bind w27un) (w27_loop l hl (fun z=>some (w27r0 z)) (fun _=>none) (fun _=>none) 2000 0 (by omega) (by omega))
theorem w44_loop (l:List Int) (hl:l.length < 150) (c:Bool) (k0 k1:Bool->O) (k2:Unit->O):∀ (n i:Nat),l.length - i < n->i<=l.length->w44l0 2000 n (l,l,c,(i:Int)) k0 k1 k2=k1 c
 | 0,i,h,_=>by omega
 | n+1,i,h,hi=>by
   show w44F0 2000 _ _ _ l l c i=_;unfold w44F0;by_cases hlt:i < l.length
   ·have hg:l[i]?=some l[i]:=List.getElem?_eq_getElem hlt
    rw [decide_eq_true (show (i:Int) < (l.length:Int) by omega),br_t,gx_at hg,gx_at hg,nxt (by omega),decide_eq_false (fun h=>h rfl),br_f];exact w44_loop l hl c k0 k1 k2 n (i+1) (by omega) (by omega)
   ·rw [decide_eq_false (show ¬ (i:Int) < (l.length:Int) by omega),br_f]
theorem w44_refl {l:List Int} (hl:l.length < 150):w44z 2000 l l=some true:=by
 unfold w44z w44 w44G;rw [decide_eq_false (fun h=>h rfl),br_f];exact congrArg (fun z:O=>z.bind w44un) (w44_loop l hl false (fun z=>some (w44r0 z)) (fun _=>some (w44r0 true)) (fun _=>none) 2000 0 (by omega) (by omega))
theorem w26_loop (l:List Rl) (hl:l.length < 150) (hr:∀ r ∈ l,r.1.length < 150) (c:Bool) (k0 k1:Bool->O) (k2:Unit->O):∀ (n i:Nat),l.length - i < n->i<=l.length->w26l0 2000 n (l,l,c,(i:Int)) k0 k1 k2=k1 c
 | 0,i,h,_=>by omega
 | n+1,i,h,hi=>by
   show w26F0 2000 _ _ _ l l c i=_;unfold w26F0;by_cases hlt:i < l.length
   ·have hg:l[i]?=some l[i]:=List.getElem?_eq_getElem hlt
    have h44:=w44_refl (hr _ (List.getElem_mem hlt));rw [decide_eq_true (show (i:Int) < (l.length:Int) by omega),br_t,gx_at hg,gx_at hg,decide_eq_false (show ¬ l[i].2.1≠l[i].2.1 from fun h=>h rfl)];show gx l (i:Int) _=_;rw [gx_at hg];show gx l (i:Int) _=_;rw [gx_at hg,decide_eq_false (show ¬ l[i].2.2≠l[i].2.2 from fun h=>h rfl)];show gx l (i:Int) _=_;rw [gx_at hg];show gx l (i:Int) _=_;rw [gx_at hg,ck_of (show (!!(false||false)||w44p 2000 l[i].1 l[i].1)=true from w44_p h44),w44_y0 h44,nxt (by omega)];exact w26_loop l hl hr c k0 k1 k2 n (i+1) (by omega) (by omega)
   ·rw [decide_eq_false (show ¬ (i:Int) < (l.length:Int) by omega),br_f]
theorem w26_refl {l:List Rl} (hl:l.length < 150) (hr:∀ r ∈ l,r.1.length < 150):w26z 2000 l l=some true:=by
 unfold w26z w26 w26G;rw [decide_eq_false (fun h=>h rfl),br_f];exact congrArg (fun z:O=>z.bind w26un) (w26_loop l hl hr false (fun z=>some (w26r0 z)) (fun _=>some (w26r0 true)) (fun _=>none) 2000 0 (by omega) (by omega))
theorem check_valid {l:List Rl} (h:checkZ l=0):l.length<=32/\∀ r ∈ l,validB r=true:=by
 unfold checkZ at h;split at h
 ·cases h
 ·split at h
  ·rename_i h1 h2
   exact ⟨by omega,fun r hr=>List.all_eq_true.1 h2 r hr⟩
  ·cases h
def readZ (l:List Rl):List Rl:=if checkZ l=0 then l else []
theorem w24_print (l:List Rl):w24z 2000 (printZ l)=some (readZ l,0,0):=by
 unfold printZ readZ;by_cases h:checkZ l=0
 ·obtain ⟨h32,hv⟩:=check_valid h
  rw [if_pos h,if_pos h];exact w24_text h32 hv
 ·rw [if_neg h,if_neg h]
  exact w24_text (L:=[]) (by simp) (fun r hr=>by cases hr)
end Go.Proofs
