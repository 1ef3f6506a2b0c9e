/- ListingBack in plain words. Conditions are in the theorems. -/
import Derived.Test.YtihfefggdgiodaaGreatDoorF7
import Derived.Test.YtihfefggdgiodaaGreatDoorG1
import Derived.Test.YtihfefggdgiodaaGreatDoorG2
/- ListingLines, in plain words. -/
namespace Go.Proofs
open Go Go.Ax Go.Ax.Alg
theorem w9_get (N:Nat) (hN:20<=N) {l:List Int} (hl:Okl l):∃ a,w9p N l=true/\w9y0 N l=a/\MadeOk a:=by
 obtain ⟨a,ha,hm⟩:=w9_ok N hN hl;exact ⟨a,by unfold w9p;rw [ha];rfl,by unfold w9y0;rw [ha];rfl,hm⟩
theorem rows_w {w:Nat} (hw:4<=w):∀ (n:Nat) {l:List (List UInt8)},Cds l->l.length<=n->∀ r ∈ rowsZ w l,r.length<=w
 | n,l,hl,hn,r,hr=>by
   rw [rows_step hw hl] at hr;split at hr
   ·rename_i hf
    rw [List.mem_singleton.1 hr];exact hf
   ·rename_i hf
    have hne:l≠[]:=fun e=>by subst e;simp at hf
    have h1:=fill_less hl hne (m:=w - 1) (by omega);obtain ⟨h2,_⟩:=fill_spec (w - 1) l [] (by simp);rcases List.mem_cons.1 hr with rfl | hr
    ·rw [List.length_append,List.length_singleton];omega
    ·match n,hn with
     | n+1,hn=>exact rows_w hw n (fill_cds (m:=w - 1) (row:=[]) hl (by simp)).1 (by omega) r hr
     | 0,hn=>omega
end Go.Proofs
/- ListingRows, in plain words. -/
namespace Go.Proofs
open Go Go.Ax Go.Ax.Alg
theorem enc_small (l:List (List UInt8)) (w:Int):(encZ l w).1.length<=6592/\∀ r ∈ (encZ l w).1,r.length<=40:=by
 unfold encZ;split
 ·rename_i h
  obtain ⟨h1,h2,_,h4,h5⟩:=fits_ok h;have:=out_le (w:=w.toNat) (by omega) l h2 l.length;rw [List.take_length] at this;refine ⟨by show (l.flatMap (divZ w.toNat)).length<=_;omega,fun r hr=>?_⟩;obtain ⟨s,_,h⟩:=List.mem_flatMap.1 hr;have:=rows_w (w:=w.toNat) (by omega) _ (line_cds s) (Nat.le_refl _) r h;omega
 ·exact ⟨by simp,fun r hr=>by cases hr⟩
def Lst (N:Nat) (l:List (List UInt8)):Prop:=l.length < N/\l.length<=1000000/\∀ s ∈ l,s.length<=1000000/\s.length < N
theorem v18_get {N:Nat} (hN:60000<=N) {l:List Int} (hl:Okl l) (raw:List UInt8):∃ a,MadeOk a/\v18p N l raw=true/\v18y0 N l raw=[a,a++[raw.take 90]]/\w18p N l raw=true/\w18y0 N l raw=[a,a++[raw.take 90]]:=by
 obtain ⟨a,ap,ay,am⟩:=w9_get N (by omega) hl;have ha:=am.1;have p44:w44p N raw 90=true:=w44_P N (m:=90);have y44:w44y0 N raw 90=raw.take 90:=w44_Y N (m:=90);have e:v18z N l raw=some [a,a++[raw.take 90]]:=by
  unfold v18z v18 v18G;rw [ck_of ap,ay,List.nil_append,ck_of (lim_of (by omega) (by omega)),ck_of p44,y44,ck_of (lim_of (by simp;omega) (by simp;omega))];rfl
 have e':w18z N l raw=some [a,a++[raw.take 90]]:=by
  unfold w18z w18 w18G;rw [ck_of ap,ay,List.nil_append,ck_of (lim_of (by omega) (by omega)),ck_of p44,y44,ck_of (lim_of (by simp;omega) (by simp;omega))];rfl
 exact ⟨a,am,by unfold v18p;rw [e];rfl,by unfold v18y0;rw [e];rfl,by unfold w18p;rw [e'];rfl,by unfold w18y0;rw [e'];rfl⟩
end Go.Proofs
/- Codes are read back. -/
namespace Go.Proofs
open Go Go.Ax Go.Ax.Alg
theorem endN_cons (c:UInt8) (s:List UInt8):endN (c::s)=if endN s=0/\c=32 then 0 else endN s+1:=by
 unfold endN;rw [List.reverse_cons];have e:∀ (l:List UInt8),(l++[c]).dropWhile (· == 32)=if l.dropWhile (· == 32)=[] then [c].dropWhile (· == 32) else l.dropWhile (· == 32)++[c]:=by
  intro l
  induction l with
  | nil=>rfl
  | cons x l ih=>
    rw [List.cons_append,List.dropWhile_cons,List.dropWhile_cons];by_cases hx:(x == 32)=true
    ·rw [if_pos hx,if_pos hx,ih]
    ·rw [if_neg hx,if_neg hx,if_neg (by simp),List.cons_append]
 rw [e];by_cases h:s.reverse.dropWhile (· == 32)=[]
 ·rw [if_pos h,h]
  by_cases hc:c=32
  ·subst hc;rfl
  ·rw [if_neg (fun h=>hc h.2),List.dropWhile_cons,if_neg (by simpa using hc)];rfl
 ·rw [if_neg h,if_neg (fun h'=>h (List.eq_nil_of_length_eq_zero h'.1)),List.length_append];rfl
theorem codesZ_cons (c:UInt8) (s:List UInt8):codesZ (c::s)=codeZ c (decide (endN (c::s)=0))::codesZ s:=by
 unfold codesZ;rw [List.length_cons,List.range_succ_eq_map,List.map_cons,List.map_map];refine congr (congrArg List.cons ?_) (List.map_congr_left fun i _=>?_)
 ·show codeZ c (decide (endN (c::s)<=0))=_
  rw [show decide (endN (c::s)<=0)=decide (endN (c::s)=0) from decide_eq_decide.2 (by omega)]
 ·show codeZ ((c::s).getD (i+1) 0) (decide (endN (c::s)<=i+1))=_
  rw [show decide (endN (c::s)<=i+1)=decide (endN s<=i) from decide_eq_decide.2 (by rw [endN_cons];split <;> omega)];rfl
theorem dec_code {c:UInt8} {b:Bool} (h:32<=c.toNat/\c.toNat<=126) (hb:b=true->c=32) (t:List UInt8):decZ (codeZ c b++t)=(decZ t).map (c :: ·):=by
 cases b with
 | true=>
   rw [hb rfl];exact dec_32 2 t
 | false=>
   rcases code_view c h with ⟨x,e,e1,e2⟩ | ⟨x,e,e1,e2⟩
   ·rw [e]
    show decZ (x::t)=_;rw [dec_ne e1,e2];rfl
   ·rw [e]
    show decZ (32::x::t)=_;rw [dec_32,e1,if_neg e2]
theorem text_cons {c:UInt8} {s:List UInt8} (h:textZ (c::s)=true):(32<=c.toNat/\c.toNat<=126)/\textZ s=true:=by
 unfold textZ at h ⊢;rw [List.any_cons,Bool.not_or,Bool.and_eq_true] at h;refine ⟨?_,h.2⟩;have h1:=h.1;unfold badZ at h1;rw [Bool.not_or,Bool.and_eq_true,Bool.not_eq_true',Bool.not_eq_true',decide_eq_false_iff_not,decide_eq_false_iff_not,UInt8.lt_iff_toNat_lt,UInt8.lt_iff_toNat_lt] at h1;have e1:(32:UInt8).toNat=32:=rfl;have e2:(126:UInt8).toNat=126:=rfl;omega
theorem dec_codes:∀ {s:List UInt8},textZ s=true->decZ (codesZ s).flatten=some s
 | [],_=>rfl
 | c::s,h=>by
   obtain ⟨h1,h2⟩:=text_cons h;rw [codesZ_cons,List.flatten_cons,dec_code h1 (fun e=>by
    have e:=of_decide_eq_true e;rw [endN_cons] at e;split at e
    ·rename_i h;exact h.2
    ·omega),dec_codes h2]
   rfl
theorem chars_codes {s:List UInt8} (h:textZ s=true):charsZ (codesZ s).flatten=(s,0):=by
 unfold charsZ;rw [dec_codes h];show (if _ then _ else _)=_
 first
 | rw [if_pos rfl]
 | simp
theorem codes_inj {s t:List UInt8} (hs:textZ s=true) (ht:textZ t=true) (h:(codesZ s).flatten=(codesZ t).flatten):s=t:=by
 have:=dec_codes hs;rw [h,dec_codes ht] at this;exact (Option.some.inj this).symm
end Go.Proofs
/- Lines are read back from their rows. -/
namespace Go.Proofs
open Go Go.Ax Go.Ax.Alg
theorem text_app {a b:List UInt8}:textZ (a++b)=(textZ a&&textZ b):=by
 unfold textZ;rw [List.any_append,Bool.not_or]
theorem trim_eq (s:List UInt8):s=List.replicate (s.length - (trimL s).length) 32++trimL s:=by
 induction s with
 | nil=>rfl
 | cons c s ih=>
   unfold trimL;rw [List.dropWhile_cons];by_cases h:(c == 32)=true
   ·rw [if_pos h]
    have hl:=trimL_le s;have e:c=32:=by simpa using h
    show c::s=List.replicate ((c::s).length - (trimL s).length) 32++trimL s;rw [List.length_cons,show s.length+1 - (trimL s).length=s.length - (trimL s).length+1 by omega,List.replicate_succ,List.cons_append,← ih,e]
   ·rw [if_neg h,Nat.sub_self];rfl
theorem rep_eq (n:Nat):Lib.repeatL [32] n=List.replicate n 32:=by
 induction n with
 | zero=>rfl
 | succ n ih=>
   show [32]++Lib.repeatL [32] n=_;rw [ih];rfl
theorem digit_code (c:UInt8) (h:48<=c.toNat/\c.toNat<=57):codeZ c false=[c - 32]/\c - 32≠0/\c≠32:=by
 have key:∀ c:UInt8,(!(decide (48<=c.toNat)&&decide (c.toNat<=57))||(decide (codeZ c false=[c - 32])&&decide (c - 32≠0)&&decide (c≠32)))=true:=u8_all (by kernel_rfl)
 have:=key c;rw [decide_eq_true h.1,decide_eq_true h.2,Bool.and_self,Bool.not_true,Bool.false_or] at this;simp only [Bool.and_eq_true,decide_eq_true_eq] at this;exact ⟨this.1.1,this.1.2,this.2⟩
theorem num_facts {n:Nat} (h:n<=80):Lib.atoiAll (Lib.itoa (n:Int)) = .ok (n:Int)/\∀ c ∈ Lib.itoa (n:Int),48<=c.toNat/\c.toNat<=57:=by
 have key:((List.range 81).all fun n=>decide (Lib.atoiAll (Lib.itoa (n:Int)) = .ok (n:Int))&&(Lib.itoa (n:Int)).all fun c=>decide (48<=c.toNat)&&decide (c.toNat<=57))=true:=by kernel_rfl
 have:=List.all_eq_true.1 key n (List.mem_range.2 (by omega));rw [Bool.and_eq_true,decide_eq_true_eq] at this;refine ⟨this.1,fun c hc=>?_⟩;have:=List.all_eq_true.1 this.2 c hc;simpa using this
theorem digits_nz:∀ {ds:List UInt8},(∀ c ∈ ds,48<=c.toNat/\c.toNat<=57)->(∀ x ∈ (codesZ ds).flatten,(x != 0)=true)/\textZ ds=true
 | [],_=>⟨fun x hx=>(by cases hx),rfl⟩
 | c::ds,h=>by
   obtain ⟨i1,i2⟩:=digits_nz (ds:=ds) (fun x hx=>h x (List.mem_cons_of_mem _ hx));have hc:=h c (List.mem_cons_self ..);obtain ⟨d1,d2,d3⟩:=digit_code c hc;refine ⟨fun x hx=>?_,?_⟩
   ·rw [codesZ_cons,endN_cons,if_neg (fun h=>d3 h.2),decide_eq_false (by omega),d1,List.flatten_cons] at hx
    rcases List.mem_append.1 hx with hx | hx
    ·rw [List.mem_singleton.1 hx]
     simpa using d2
    ·exact i1 x hx
   ·unfold textZ at i2 ⊢
    rw [List.any_cons,Bool.not_or,i2,Bool.and_true];unfold badZ;rw [decide_eq_false (fun h=>by have:=UInt8.lt_iff_toNat_lt.1 h;have e:(32:UInt8).toNat=32:=rfl;omega),decide_eq_false (fun h=>by have:=UInt8.lt_iff_toNat_lt.1 h;have e:(126:UInt8).toNat=126:=rfl;omega)];rfl
theorem whole_line {s:List UInt8} (ht:textZ s=true) (hs:s.length<=80):wholeZ (lineZ s).flatten=(s,true):=by
 have hle:=trimL_le s;have tt:textZ (trimL s)=true:=by
  have e:=trim_eq s;rw [e,text_app,Bool.and_eq_true] at ht;exact ht.2
 obtain ⟨n1,n2⟩:=num_facts (n:=s.length - (trimL s).length) (by omega);have es:=trim_eq s;generalize hn:s.length - (trimL s).length=n at n1 n2 es;have hn80:n<=80:=by omega
 obtain ⟨z1,z2⟩:=digits_nz n2;have y0:w70y0 0 (Lib.itoa (n:Int))=n:=by unfold w70y0;rw [n1]
 have y1:w70y1 0 (Lib.itoa (n:Int))=1:=by unfold w70y1;rw [n1]
 have hL:(lineZ s).flatten=(codesZ (Lib.itoa (n:Int))).flatten++(if trimL s=[] then [] else 0::(codesZ (trimL s)).flatten):=by
  unfold lineZ;rw [hn,List.flatten_append];split <;> rfl
 have hd:headZ (lineZ s).flatten=(codesZ (Lib.itoa (n:Int))).flatten:=by
  rw [hL];unfold headZ;rw [List.takeWhile_append_of_pos z1];split
  ·simp
  ·rw [List.takeWhile_cons,if_neg (by decide),List.append_nil]
 have hb:badHead (lineZ s).flatten=false:=by
  unfold badHead;rw [hd,chars_codes z2,y0,y1,decide_eq_false (fun h=>h rfl),decide_eq_false (fun h=>h rfl),decide_eq_false (by omega),decide_eq_false (by omega)];rfl
 have hr:(lineZ s).flatten.contains 0=!decide (trimL s=[]):=by
  rw [hL];have nz:(codesZ (Lib.itoa (n:Int))).flatten.contains 0=false:=by
   cases h:(codesZ (Lib.itoa (n:Int))).flatten.contains 0 with
   | false=>rfl
   | true=>
     have:=z1 0 (by simpa using h);cases this
  by_cases h:trimL s=[]
  ·rw [if_pos h,List.append_nil,nz,decide_eq_true h];rfl
  ·rw [if_neg h,decide_eq_false h]
   simp
 have hrest:trimL s≠[]->restZ (lineZ s).flatten=(codesZ (trimL s)).flatten:=fun h=>by
  rw [hL,if_neg h];unfold restZ;rw [List.dropWhile_append_of_pos z1,List.dropWhile_cons,if_neg (by decide)];rfl
 have hc:contZ (lineZ s).flatten=trimL s:=by
  unfold contZ;rw [hr];by_cases h:trimL s=[]
  ·rw [decide_eq_true h,if_neg (by simp),h]
  ·rw [decide_eq_false h,if_pos (by rfl),hrest h,chars_codes tt]
 have hl:lineOf (lineZ s).flatten=s:=by
  unfold lineOf;rw [hd,chars_codes z2,y0,hc,Int.toNat_natCast,rep_eq,← es]
 unfold wholeZ;rw [hb,hr,hl,if_neg (by simp)];by_cases h:trimL s=[]
 ·rw [decide_eq_true h,if_neg (by simp),decide_eq_true rfl]
 ·rw [hrest h,chars_codes tt,decide_eq_false h,if_neg (by simp),decide_eq_true rfl]
end Go.Proofs
/- Pages are read back. -/
namespace Go.Proofs
open Go Go.Ax Go.Ax.Alg
def Nd (l:List (List UInt8)):Prop:=∀ c ∈ l,c.getLast?≠some 63
theorem nd_flat:∀ {l:List (List UInt8)},Nd l->l.flatten.getLast?≠some 63
 | [],_=>by simp
 | c::l,h=>by
   rw [List.flatten_cons,List.getLast?_append];have h1:=nd_flat (l:=l) (fun x hx=>h x (List.mem_cons_of_mem _ hx));have h2:=h c (List.mem_cons_self ..);cases e:l.flatten.getLast? with
   | none=>simpa using h2
   | some x=>rw [e] at h1;simpa using h1
theorem nd_code (c:UInt8) (h:32<=c.toNat/\c.toNat<=126) (b:Bool):(codeZ c b).getLast?≠some 63/\∀ x ∈ codeZ c b,x<=63:=by
 cases b with
 | true=>
   refine ⟨by show [(32:UInt8),2].getLast?≠_;decide,fun x hx=>?_⟩;have hx:x ∈ [(32:UInt8),2]:=hx;simp only [List.mem_cons,List.not_mem_nil,or_false] at hx;rcases hx with rfl | rfl <;> decide
 | false=>
   have key:∀ c:UInt8,(!(decide (32<=c.toNat)&&decide (c.toNat<=126))||(decide ((codeZ c false).getLast?≠some 63)&&(codeZ c false).all fun x=>decide (x<=63)))=true:=u8_all (by kernel_rfl)
   have:=key c;rw [decide_eq_true h.1,decide_eq_true h.2,Bool.and_self,Bool.not_true,Bool.false_or,Bool.and_eq_true,decide_eq_true_eq] at this;exact ⟨this.1,fun x hx=>by have:=List.all_eq_true.1 this.2 x hx;simpa using this⟩
theorem nd_codes:∀ {s:List UInt8},textZ s=true->Nd (codesZ s)/\∀ c ∈ codesZ s,∀ x ∈ c,x<=63
 | [],_=>⟨fun c hc=>(by cases hc),fun c hc=>(by cases hc)⟩
 | c::s,h=>by
   obtain ⟨h1,h2⟩:=text_cons h;obtain ⟨i1,i2⟩:=nd_codes h2;rw [codesZ_cons];refine ⟨fun x hx=>?_,fun x hx=>?_⟩
   ·rcases List.mem_cons.1 hx with rfl | hx
    ·exact (nd_code c h1 _).1
    ·exact i1 x hx
   ·rcases List.mem_cons.1 hx with rfl | hx
    ·exact (nd_code c h1 _).2
    ·exact i2 x hx
theorem nd_line {s:List UInt8} (ht:textZ s=true) (hs:s.length<=80):Nd (lineZ s)/\∀ c ∈ lineZ s,∀ x ∈ c,x<=63:=by
 have tt:textZ (trimL s)=true:=by
  have e:=trim_eq s;rw [e,text_app,Bool.and_eq_true] at ht;exact ht.2
 obtain ⟨_,n2⟩:=num_facts (n:=s.length - (trimL s).length) (by omega);obtain ⟨a1,a2⟩:=nd_codes (digits_nz n2).2;obtain ⟨b1,b2⟩:=nd_codes tt;refine ⟨fun c hc=>?_,fun c hc=>?_⟩ <;> unfold lineZ at hc <;> rcases List.mem_append.1 hc with hc | hc
 ·exact a1 c hc
 ·split at hc
  ·cases hc
  ·rcases List.mem_cons.1 hc with rfl | hc
   ·decide
   ·exact b1 c hc
 ·exact a2 c hc
 ·split at hc
  ·cases hc
  ·rcases List.mem_cons.1 hc with rfl | hc
   ·intro x hx
    rw [List.mem_singleton.1 hx];decide
   ·exact b2 c hc
theorem rows_ne {w:Nat} (hw:4<=w) {l:List (List UInt8)} (hl:Cds l):rowsZ w l≠[]:=by
 rw [rows_step hw hl];split <;> simp
theorem rd_rows {w:Nat} (hw:4<=w):∀ (n:Nat) {l:List (List UInt8)} (p out:List (List UInt8)) (now:List UInt8),Cds l->l.length<=n->Nd l->(wholeZ (now++l.flatten)).2=true->rdZ (rowsZ w l++p) out now=rdZ p (out++[(wholeZ (now++l.flatten)).1]) []
 | n,l,p,out,now,hl,hn,hd,hk=>by
   rw [rows_step hw hl];by_cases ht:l.flatten.length<=w
   ·rw [if_pos ht]
    have g:goesZ l.flatten=false:=decide_eq_false (nd_flat hd);have e:stripZ l.flatten=l.flatten:=by unfold stripZ;rw [g];rfl
    show rdZ (l.flatten::p) out now=_;rw [rdZ,g,e,hk,Bool.false_and,if_neg (by simp),if_neg (by simp)]
   ·rw [if_neg ht]
    have hne:l≠[]:=fun e=>by subst e;simp at ht
    obtain ⟨f1,f2,k,_,f4,_⟩:=fill_spec (w - 1) l [] (by simp);have fl:=fill_less hl hne (m:=w - 1) (by omega);have fc:=(fill_cds (m:=w - 1) (row:=[]) hl (by simp)).1;have fd:Nd (fillZ (w - 1) l []).2:=fun c hc=>by
     rw [f4] at hc;exact hd c (List.mem_of_mem_drop hc)
    rw [List.nil_append] at f2;have e2:now++l.flatten=(now++(fillZ (w - 1) l []).1)++(fillZ (w - 1) l []).2.flatten:=by rw [List.append_assoc,f2]
    rw [e2] at hk ⊢;have g:goesZ ((fillZ (w - 1) l []).1++[63])=true:=decide_eq_true (by simp);have e:stripZ ((fillZ (w - 1) l []).1++[63])=(fillZ (w - 1) l []).1:=by unfold stripZ;rw [g,if_pos rfl];simp
    have ne:(rowsZ w (fillZ (w - 1) l []).2++p).isEmpty=false:=by
     cases h:rowsZ w (fillZ (w - 1) l []).2 with
     | nil=>exact absurd h (rows_ne hw fc)
     | cons _ _=>rfl
    cases n with
    | zero=>omega
    | succ n=>
      rw [List.cons_append,rdZ,g,e,ne,if_pos (by rfl)];exact rd_rows hw n p out _ fc (by omega) fd hk
theorem rd_all {w:Nat} (hw:4<=w):∀ (a out:List (List UInt8)),(∀ s ∈ a,s.length<=80/\textZ s=true)->rdZ (a.flatMap (divZ w)) out []=some (out++a)
 | [],out,_=>by rw [List.append_nil];rfl
 | s::a,out,h=>by
   obtain ⟨h1,h2⟩:=h s (List.mem_cons_self ..);have hw2:=whole_line h2 h1;rw [List.flatMap_cons];show rdZ (rowsZ w (lineZ s)++_) out []=_;rw [rd_rows hw _ _ out [] (line_cds s) (Nat.le_refl _) (nd_line h2 h1).1 (by rw [List.nil_append,hw2]),List.nil_append,hw2,rd_all hw a _ (fun x hx=>h x (List.mem_cons_of_mem _ hx)),List.append_assoc];rfl
theorem read_enc {a:List (List UInt8)} {w:Int} (hf:fitsZ a w=0):encZ a w=(a.flatMap (divZ w.toNat),0)/\readZ (a.flatMap (divZ w.toNat))=(a,0):=by
 obtain ⟨h1,h2,h3,h4,h5⟩:=fits_ok hf;have e:encZ a w=(a.flatMap (divZ w.toNat),0):=by unfold encZ;rw [if_pos hf]
 refine ⟨e,?_⟩;unfold readZ;rw [rd_all (by omega) a [] (fun s hs=>⟨h2 s hs,h3 s hs⟩),List.nil_append];have an:anyZ a (a.flatMap (divZ w.toNat))=true:=by
  unfold anyZ;refine List.any_eq_true.2 ⟨w.toNat - 4,List.mem_range.2 (by omega),decide_eq_true ?_⟩;rw [show ((4+(w.toNat - 4):Nat):Int)=w by omega];exact e
 show (if _ then _ else _)=_;rw [if_pos an]
end Go.Proofs
/- ListingBack, in plain words. -/
namespace Go.Proofs
open Go Go.Ax Go.Ax.Alg
theorem rows_flat {w:Nat} (hw:4<=w):∀ (n:Nat) {l:List (List UInt8)},Cds l->l.length<=n->(rowsZ w l).flatten.length<=l.flatten.length+l.length/\∀ r ∈ rowsZ w l,∀ x ∈ r,x=63\/x ∈ l.flatten
 | n,l,hl,hn=>by
   rw [rows_step hw hl];by_cases ht:l.flatten.length<=w
   ·rw [if_pos ht]
    refine ⟨by simp,fun r hr x hx=>?_⟩;rw [List.mem_singleton.1 hr] at hx;exact .inr hx
   ·rw [if_neg ht]
    have hne:l≠[]:=fun e=>by subst e;simp at ht
    obtain ⟨f1,f2,k,_,f4,_⟩:=fill_spec (w - 1) l [] (by simp);have fl:=fill_less hl hne (m:=w - 1) (by omega);have fc:=(fill_cds (m:=w - 1) (row:=[]) hl (by simp)).1;rw [List.nil_append] at f2;cases n with
    | zero=>omega
    | succ n=>
      obtain ⟨i1,i2⟩:=rows_flat hw n fc (by omega);have f3:=congrArg List.length f2;rw [List.length_append] at f3;refine ⟨by rw [List.flatten_cons,List.length_append,List.length_append];simp only [List.length_cons,List.length_nil];omega,fun r hr x hx=>?_⟩;rcases List.mem_cons.1 hr with rfl | hr
      ·rcases List.mem_append.1 hx with hx | hx
       ·exact .inr (by rw [← f2];exact List.mem_append_left _ hx)
       ·exact .inl (List.mem_singleton.1 hx)
      ·rcases i2 r hr x hx with h | h
       ·exact .inl h
       ·exact .inr (by rw [← f2];exact List.mem_append_right _ h)
theorem cds_flat:∀ {l:List (List UInt8)},Cds l->l.flatten.length<=2 * l.length
 | [],_=>by simp
 | c::l,h=>by
   have:=(h c (List.mem_cons_self ..)).2;have:=cds_flat (l:=l) (fun x hx=>h x (List.mem_cons_of_mem _ hx));rw [List.flatten_cons,List.length_append,List.length_cons];omega
theorem div_flat {w:Nat} (hw:4<=w) {s:List UInt8} (hs:s.length<=80):(divZ w s).flatten.length<=306:=by
 have h1:=(rows_flat hw _ (line_cds s) (Nat.le_refl _)).1;have h2:=cds_flat (line_cds s);have h3:=line_len (s:=s) (by omega);unfold divZ;omega
theorem page_flat {w:Nat} (hw:4<=w):∀ {a:List (List UInt8)},(∀ s ∈ a,s.length<=80)->(a.flatMap (divZ w)).flatten.length<=306 * a.length
 | [],_=>by simp
 | s::a,h=>by
   have h1:=div_flat hw (h s (List.mem_cons_self ..));have h2:=page_flat hw (a:=a) (fun x hx=>h x (List.mem_cons_of_mem _ hx));rw [List.flatMap_cons,List.flatten_append,List.length_append,List.length_cons];omega
theorem page_63 {w:Nat} (hw:4<=w) {a:List (List UInt8)} (h:∀ s ∈ a,s.length<=80/\textZ s=true):∀ r ∈ a.flatMap (divZ w),(r.any fun c=>decide (64<=c))=false:=fun r hr=>by
 obtain ⟨s,hs,hr⟩:=List.mem_flatMap.1 hr;obtain ⟨h1,h2⟩:=h s hs;have h3:=(rows_flat hw _ (line_cds s) (Nat.le_refl _)).2 r hr;have h4:=(nd_line h2 h1).2;refine Bool.eq_false_iff.2 fun hc=>?_
 obtain ⟨x,hx,hx2⟩:=List.any_eq_true.1 hc;have hx2:=UInt8.le_iff_toNat_le.1 (of_decide_eq_true hx2);have e:(64:UInt8).toNat=64:=rfl;rcases h3 x hx with h | h
 ·have e2:(63:UInt8).toNat=63:=rfl
  rw [h] at hx2;omega
 ·obtain ⟨c,hc,hxc⟩:=List.mem_flatten.1 h
  have:=UInt8.le_iff_toNat_le.1 (h4 c hc x hxc);have e2:(63:UInt8).toNat=63:=rfl;omega
end Go.Proofs
/- Law 8 in plain words. -/
namespace Go.Proofs
open Go Go.Ax Go.Ax.Alg
theorem w8_loop0 {N:Nat} (k0:Bool->O) (k1:Int->Bool->List (List (List UInt8))->Int->Int->O) (k2:Unit->O) (x:Int) (b:Bool) (ls:List (List (List UInt8))) (w i:Int) (p:List (List UInt8)) (hp:p.length<=1000000) (h63:∀ r ∈ p,r.length < N/\r.length<=1000000/\(r.any fun c=>decide (64<=c))=false):∀ (n k:Nat),p.length - k < n->k<=p.length->
    w8l0 N n (x,b,ls,w,i,p,(k:Int)) k0 (fun y=>k1 y.1 y.2.1 y.2.2.1 y.2.2.2.1 y.2.2.2.2) k2=k1 x b ls w i
 | 0,k,h,_=>by omega
 | n+1,k,h,hk=>by
   show w8F0 N _ (fun y0=>k0 y0) (fun y0 y1 y2 y3 y4=>k1 y0 y1 y2 y3 y4) x b ls w i p (k:Int)=_;unfold w8F0;by_cases hlt:k < p.length
   ·have g:=List.getElem?_eq_getElem hlt
    obtain ⟨r1,r2,r3⟩:=h63 _ (List.getElem_mem hlt);rw [decide_eq_true (by omega),br_t,gx_at g,ck_of (w31_P r1 r2),w31_Y r1 r2,r3,Bool.not_false,Bool.not_true,br_f,wr (by omega) (by omega)];exact w8_loop0 k0 k1 k2 x b ls w i p hp h63 n (k+1) (by omega) (by omega)
   ·rw [decide_eq_false (by omega),br_f]
theorem w8_loop1 {N:Nat} (hN:60000<=N) (k0:Bool->O) (k1:Int->Bool->List (List (List UInt8))->Int->Int->O) (k2:Unit->O) (x:Int) (b:Bool) (ls:List (List (List UInt8))) (w:Int) (i:Nat) (l:List (List UInt8)) (hl:ls[i]?=some l) (h64:l.length<=64) (hs:∀ s ∈ l,s.length<=80/\textZ s=true):∀ (n k:Nat),l.length - k < n->k<=l.length->
    w8l1 N n (x,b,ls,w,(i:Int),(k:Int)) k0 (fun y=>k1 y.1 y.2.1 y.2.2.1 y.2.2.2.1 y.2.2.2.2) k2=k1 x b ls w i
 | 0,k,h,_=>by omega
 | n+1,k,h,hk=>by
   show w8F1 N _ (fun y0=>k0 y0) (fun y0 y1 y2 y3 y4=>k1 y0 y1 y2 y3 y4) x b ls w (i:Int) (k:Int)=_;unfold w8F1;rw [gx_at hl];by_cases hlt:k < l.length
   ·have g:=List.getElem?_eq_getElem hlt
    have g0:=List.getElem?_eq_getElem (l:=l) (i:=0) (by omega);obtain ⟨s1,s2⟩:=hs _ (List.getElem_mem hlt);obtain ⟨t1,t2⟩:=hs _ (List.getElem_mem (l:=l) (n:=0) (by omega));generalize l[k]=s at g s1 s2;generalize l[0]=t at g0 t1 t2;have cs:codZ s=((codesZ s).flatten,0):=by unfold codZ;rw [if_pos s2]
    have ct:codZ t=((codesZ t).flatten,0):=by unfold codZ;rw [if_pos t2]
    have fs:=codesZ_flat s;have ey0:w15y0 N (codesZ s).flatten=s:=by rw [w15_Y0 (by omega) (by omega) (by omega),chars_codes s2]
    have ey1:w15y1 N (codesZ s).flatten=0:=by rw [w15_Y1 (by omega) (by omega) (by omega),chars_codes s2]
    have ep:w15p N (codesZ s).flatten=true:=w15_P (by omega) (by omega) (by omega);have es0:w10y0 N s=(codesZ s).flatten:=by rw [w10_Y0 (by omega) (by omega),cs]
    have es1:w10y1 N s=0:=by rw [w10_Y1 (by omega) (by omega),cs]
    have et0:w10y0 N t=(codesZ t).flatten:=by rw [w10_Y0 (by omega) (by omega),ct]
    have et1:w10y1 N t=0:=by rw [w10_Y1 (by omega) (by omega),ct]
    have zz:decide ((0:Int)≠0)=false:=decide_eq_false (fun h=>h rfl);have hz:(0:Int)=((0:Nat):Int):=rfl;have sm:decide ((codesZ s).flatten=(codesZ t).flatten)=decide (s=t):=decide_eq_decide.2 ⟨codes_inj s2 t2,fun h=>by rw [h]⟩;rw [decide_eq_true (by omega),br_t,gx_at hl,gx_at g,ck_of (w10_P (by omega) (by omega)),es0,es1,ck_of ep,ey0,ey1,zz,Bool.or_false,Bool.not_false,gc_t,gx_at hl,gc_t,gx_at g,decide_eq_false (fun h=>h rfl),Bool.or_false,br_f,gx_at hl,hz,gx_at g0,ck_of (w10_P (by omega) (by omega)),et0,et1,← hz,zz,
     w12_Y (by omega) (by omega),ck_of (by rw [w12_P (by omega) (by omega)];rfl),Bool.not_false,gc_t,gx_at hl,gc_t,gx_at g,gc_t,gx_at hl,gc_t,hz,gx_at g0,sm,Bool.false_or]
    rw [show (!decide (s=t) == decide (s=t))=false from by cases decide (s=t) <;> rfl,br_f,wr (by omega) (by omega)];exact w8_loop1 hN k0 k1 k2 x b ls w i l hl h64 hs n (k+1) (by omega) (by omega)
   ·rw [decide_eq_false (by omega),br_f]
theorem w8_loop2 {N:Nat} (hN:60000<=N) (k0:Bool->O) (k1 k2:Unit->O) (x:Int) (b:Bool) (w:Nat) (hw:4<=w) (ls:List (List (List UInt8))) (h2:ls.length=2) (hok:∀ l ∈ ls,Lst N l/\l.length<=5):∀ (n i:Nat),2 - i < n->i<=2->
    w8l2 N n (x,b,ls,(w:Int),(i:Int)) k0 k1 k2=k1 ()
 | 0,i,h,_=>by omega
 | n+1,i,h,hi=>by
   show w8F2 N (w8n0 N) (w8n1 N) _ (fun y0=>k0 y0) (fun _=>k1 ()) x b ls (w:Int) (i:Int)=_;unfold w8F2 w8n0 w8n1;by_cases hlt:i < 2
   ·have g:=List.getElem?_eq_getElem (l:=ls) (i:=i) (by omega)
    have hl:=hok _ (List.getElem_mem (l:=ls) (n:=i) (by omega));generalize ls[i]=l at g hl;obtain ⟨⟨o1,o2,o3⟩,o5⟩:=hl;rw [decide_eq_true (by omega),br_t,gx_at g,ck_of (w19_P (by omega) o1 o2 o3),w19_Y1 (by omega) o1 o2 o3,w19_Y0 (by omega) o1 o2 o3];by_cases hf:fitsZ l (w:Int)=0
    ·obtain ⟨f1,f2,f3,_,_⟩:=fits_ok hf
     obtain ⟨e,rd⟩:=read_enc hf;obtain ⟨sm1,sm2⟩:=enc_small l (w:Int);rw [e] at sm1 sm2;rw [Int.toNat_natCast] at e rd sm1 sm2;have pf:=page_flat hw (a:=l) f2;have both:∀ s ∈ l,s.length<=80/\textZ s=true:=fun s hs=>⟨f2 s hs,f3 s hs⟩
     have sm1:(l.flatMap (divZ w)).length<=6592:=sm1;have sm2:∀ r ∈ l.flatMap (divZ w),r.length<=40:=sm2
     have zz:decide ((0:Int)≠0)=false:=decide_eq_false (fun h=>h rfl);rw [e,zz,br_f,ck_of (w26_P hN (by show (l.flatMap (divZ w)).length<=_;omega) (by show (l.flatMap (divZ w)).flatten.length<=_;omega)),w26_Y1 hN (by show (l.flatMap (divZ w)).length<=_;omega) (by show (l.flatMap (divZ w)).flatten.length<=_;omega),w26_Y0 hN (by show (l.flatMap (divZ w)).length<=_;omega) (by show (l.flatMap (divZ w)).flatten.length<=_;omega)];rw [rd,zz,Bool.not_false,gc_t,gx_at g,w28_Y (by omega) (by omega),ck_of (by rw [w28_P (by omega) (by omega)];rfl),decide_eq_true rfl,Bool.not_true,Bool.or_false,br_f];refine (w8_loop0 (N:=N) (fun z111=>k0 z111) (fun z112 z113 z114 z115 z116=>w8l1 N N (z112,z113,z114,z115,z116,0) (fun z151=>k0 z151) (fun y=>w8l2 N n (y.1,y.2.1,y.2.2.1,y.2.2.2.1,IntKind.i64.wrap (y.2.2.2.2+1)) k0 k1 k2) (fun _=>none)) (fun _=>none) x b ls w i (l.flatMap (divZ w)) (by omega) (fun r hr=>⟨by have:=sm2 r hr;omega,by have:=sm2 r hr;omega,page_63 hw both r hr⟩) N 0 (by omega) (Nat.zero_le _)).trans ?_;refine (w8_loop1 hN (fun z151=>k0 z151) (fun z152 z153 z154 z155 z156=>w8l2 N n (z152,z153,z154,z155,IntKind.i64.wrap (z156+1)) k0 k1 k2) (fun _=>none) x b ls w i l g f1 both N 0 (by omega) (Nat.zero_le _)).trans ?_;rw [wr (by omega) (by omega)];exact w8_loop2 hN k0 k1 k2 x b w hw ls h2 hok n (i+1) (by omega) (by omega)
    ·have e:encZ l (w:Int)=([],fitsZ l w):=by unfold encZ;rw [if_neg hf]
     rw [e,decide_eq_true hf,br_t,wr (by omega) (by omega)];exact w8_loop2 hN k0 k1 k2 x b w hw ls h2 hok n (i+1) (by omega) (by omega)
   ·rw [decide_eq_false (by omega),br_f]
theorem law8 {N:Nat} (hN:60000<=N) {l:List Int} {raw:List UInt8} {x:Int} (hl:Okl l) (hx:I64 x):w8z N l raw x=some true:=by
 obtain ⟨a,am,vp,vy,wp,wy⟩:=v18_get hN hl raw;have ha:=am.1;have har:=around_lt (n:=x) (m:=37) (by omega);obtain ⟨v,hv⟩:∃ v:Nat,4+aroundZ x 37=v:=⟨(4+aroundZ x 37).toNat,by omega⟩
 unfold w8z w8 w8G w8n2;rw [ck_of wp,ck_of (w14_P N hx),wy,w14_Y N hx,wr (by omega) (by omega),hv];have made:∀ s ∈ a,s.length<=1000000/\s.length < N:=fun s hs=>by have:=(am.2 s hs).1;omega
 have h0:=w8_loop2 hN (fun z157=>some (w8r0 z157)) (fun _=>ck true <| some (w8r0 true)) (fun _=>none) x false v (by omega) [a,a++[raw.take 90]] rfl (fun l hl=>by
  simp only [List.mem_cons,List.not_mem_nil,or_false] at hl;rcases hl with rfl | rfl
  ·exact ⟨⟨by omega,by omega,made⟩,by omega⟩
  ·refine ⟨⟨by simp;omega,by simp;omega,fun s hs=>?_⟩,by simp;omega⟩
   rcases List.mem_append.1 hs with h | h
   ·exact made s h
   ·rw [List.mem_singleton.1 h,List.length_take];omega) N 0 (by omega) (Nat.zero_le _)
 exact congrArg (fun z:O=>z.bind w8un) h0
end Go.Proofs
