/- Codes and lines in plain words; the examples. Conditions are in the theorems. -/
import Derived.Test.YtihfefggdgiodaaGreatDoorG1
import Derived.Test.YtihfefggdgiodaaGreatDoorF6
import Derived.KernelRfl
/- Rows, Encode and Lines: what the functions give. -/
namespace Go.Proofs
open Go Go.Ax Go.Ax.Alg
theorem w66_z (N:Nat) (c:List UInt8) (w r:Int) (a:List UInt8) (d:List (List UInt8)):w66z N c w r a d=some (decide (IntKind.i64.wrap (IntKind.i64.wrap ((a.length:Int)+(c.length:Int))+r)<=w),a,d):=rfl
theorem w66_ok (N:Nat) (c:List UInt8) (w r:Int) (a:List UInt8) (d:List (List UInt8)):w66p N c w r a d=true/\w66y0 N c w r a d=decide (IntKind.i64.wrap (IntKind.i64.wrap ((a.length:Int)+(c.length:Int))+r)<=w)/\w66y1 N c w r a d=a/\w66y2 N c w r a d=d:=by
 refine ⟨?_,?_,?_,?_⟩
 ·unfold w66p;rw [w66_z];rfl
 ·unfold w66y0;rw [w66_z];rfl
 ·unfold w66y1;rw [w66_z];rfl
 ·unfold w66y2;rw [w66_z];rfl
theorem w67_ok (N:Nat) {c a:List UInt8} (d:List (List UInt8)) (h:(a++c).length<=1000000):w67p N c a d=true/\w67y0 N c a d=d/\w67y1 N c a d=a++c:=by
 have e:w67z N c a d=some (d,a++c):=by
  unfold w67z w67 w67G;rw [ck_of (lim_of (by omega) (by omega))];rfl
 refine ⟨?_,?_,?_⟩
 ·unfold w67p;rw [e];rfl
 ·unfold w67y0;rw [e];rfl
 ·unfold w67y1;rw [e];rfl
theorem w68_ok (N:Nat) (a:List UInt8) {d:List (List UInt8)} (h:d.length<=1000000):w68p N a d=true/\w68y1 N a d=d++[a]:=by
 have e:w68z N a d=some (a,d++[a]):=by
  unfold w68z w68 w68G;rw [ck_of (lim_of (by simp;omega) (by simp;omega))];rfl
 refine ⟨?_,?_⟩
 ·unfold w68p;rw [e];rfl
 ·unfold w68y1;rw [e];rfl
theorem w46_inner (N:Nat) (k0:Int->List (List UInt8)->Int->Bool->List UInt8->List (List UInt8)->O) (k1 k2:Unit->O) (w room:Nat) (whole:Bool) (done:List (List UInt8)) (hw:w<=1000) (hr:room<=w):∀ (n:Nat) (l:List (List UInt8)) (cells:List UInt8),l.length < n->Cds l->l.length<=100000->cells.length<=w - room->
    w46l1 N n ((w:Int),l,(l.flatten.length:Int),whole,(room:Int),cells,done) (fun y=>k0 y.1 y.2.1 y.2.2.1 y.2.2.2.1 y.2.2.2.2.1 y.2.2.2.2.2) k1 k2=k0 w (fillZ (w - room) l cells).2 ((fillZ (w - room) l cells).2.flatten.length:Int) whole (fillZ (w - room) l cells).1 done
 | 0,_,_,h,_,_,_=>by omega
 | n+1,l,cells,h,hl,hll,hcl=>by
   show w46F1 N _ _ (w:Int) whole (room:Int) l (l.flatten.length:Int) cells done=_;unfold w46F1
   match l,h,hl,hll with
   | [],h,hl,hll=>rfl
   | c::l,h,hl,hll=>
     have hc:=hl c List.mem_cons_self;have hl':Cds l:=fun x hx=>hl x (List.mem_cons_of_mem _ hx)
     have hf:=hl'.flat;rw [List.length_cons] at h hll;obtain ⟨p1,p2,p3,p4⟩:=w66_ok N c w room cells done;rw [decide_eq_true (show (0:Int) < ((c::l).length:Int) by rw [List.length_cons];omega),br_t,gx_0,ck_of p1,p2,p3,p4,wr (x:=(cells.length:Int)+(c.length:Int)) (by omega) (by omega),wr (by omega) (by omega)];unfold fillZ;by_cases hfit:cells.length+c.length<=w - room
     ·obtain ⟨q1,q2,q3⟩:=w67_ok N (c:=c) (a:=cells) done (by rw [List.length_append];omega)
      have hsl:slc (c::l) (some (1:Int)) none=l:=rfl;have hlen:IntKind.i64.wrap (((c::l).flatten.length:Int) - (c.length:Int))=(l.flatten.length:Int):=by
       rw [List.flatten_cons,List.length_append,wr (by omega) (by omega)];omega
      rw [decide_eq_true (show (cells.length:Int)+(c.length:Int)+(room:Int)<=(w:Int) by omega),br_t,gx_0,ck_of q1,gx_0,ck_of (show slcOk (c::l).length (some (1:Int)) none=true from decide_eq_true ⟨by omega,by rw [List.length_cons];omega⟩),q2,q3,hsl,hlen,if_pos hfit];exact w46_inner N k0 k1 k2 w room whole done hw hr n l (cells++c) (by omega) hl' (by omega) (by rw [List.length_append];exact hfit)
     ·rw [decide_eq_false (show ¬ (cells.length:Int)+(c.length:Int)+(room:Int)<=(w:Int) by omega),br_f,if_neg hfit]
theorem w46_outer (N:Nat) (k0:List (List UInt8)->O) (k1 k2:Unit->O) (w:Nat) (hw:4<=w) (hw2:w<=1000):∀ (n:Nat) (l:List (List UInt8)) (done:List (List UInt8)),l.length+1 < n->l.length < N->Cds l->l.length<=100000->l.length+done.length<=200000->
    w46l2 N n ((w:Int),l,(l.flatten.length:Int),done) k0 k1 k2=k0 (done++if l.flatten.length=0 then [] else rowsZ w l)
 | 0,_,_,h,_,_,_,_=>by omega
 | n+1,l,done,h,hN,hl,hll,hd=>by
   show w46F2 N (w46n0 N) (w46n1 N) _ _ (w:Int) l (l.flatten.length:Int) done=_;unfold w46F2;have hf:=hl.flat;by_cases h0:l.flatten.length=0
   ·rw [decide_eq_false (show ¬ (0:Int) < (l.flatten.length:Int) by omega),br_f,if_pos h0,List.append_nil]
   ·rw [decide_eq_true (show (0:Int) < (l.flatten.length:Int) by omega),br_t,if_neg h0,rows_step hw hl]
    by_cases hwh:l.flatten.length<=w
    ·rw [decide_eq_true (show (l.flatten.length:Int)<=(w:Int) by omega),if_pos hwh]
     show w46l1 N N ((w:Int),l,(l.flatten.length:Int),true,0,[],done) _ _ _=_;have hi:=w46_inner N (fun z85 z86 z87 z88 z89 z90=>br (!z88) (ck (w67p N [63] z89 z90) <| ck (w68p N (w67y1 N [63] z89 z90) (w67y0 N [63] z89 z90)) <| w46l2 N n (z85,z86,z87,w68y1 N (w67y1 N [63] z89 z90) (w67y0 N [63] z89 z90)) k0 k1 k2) (ck (w68p N z89 z90) <| w46l2 N n (z85,z86,z87,w68y1 N z89 z90) k0 k1 k2)) (fun _=>none) (fun _=>none) w 0 true done hw2 (Nat.zero_le _) N l [] hN hl hll (by simp);refine hi.trans ?_;rw [fill_all (by rw [List.length_nil];omega)];obtain ⟨q1,q2⟩:=w68_ok N ([]++l.flatten) (d:=done) (by omega);rw [Bool.not_true,br_f,ck_of q1,q2];have:=w46_outer N k0 k1 k2 w hw hw2 n [] (done++[[]++l.flatten]) (by simp;omega) (by simp;omega) (fun c hc=>by cases hc) (by simp) (by simp;omega);refine this.trans ?_;rw [if_pos (by rfl),List.append_nil,List.nil_append]
    ·rw [decide_eq_false (show ¬ (l.flatten.length:Int)<=(w:Int) by omega),if_neg hwh]
     show w46l1 N N ((w:Int),l,(l.flatten.length:Int),false,((1:Nat):Int),[],done) _ _ _=_;have hi:=w46_inner N (fun z85 z86 z87 z88 z89 z90=>br (!z88) (ck (w67p N [63] z89 z90) <| ck (w68p N (w67y1 N [63] z89 z90) (w67y0 N [63] z89 z90)) <| w46l2 N n (z85,z86,z87,w68y1 N (w67y1 N [63] z89 z90) (w67y0 N [63] z89 z90)) k0 k1 k2) (ck (w68p N z89 z90) <| w46l2 N n (z85,z86,z87,w68y1 N z89 z90) k0 k1 k2)) (fun _=>none) (fun _=>none) w 1 false done hw2 (by omega) N l [] hN hl hll (by simp);refine hi.trans ?_;have hne:l≠[]:=fun e=>by subst e;simp at h0
     obtain ⟨s1,s2,_⟩:=fill_spec (w - 1) l [] (by simp);have s3:=fill_less hl hne (m:=w - 1) (by omega);obtain ⟨s4,s5⟩:=fill_cds (m:=w - 1) (row:=[]) hl (by simp);obtain ⟨q1,q2,q3⟩:=w67_ok N (c:=[63]) (a:=(fillZ (w - 1) l []).1) done (by simp;omega);obtain ⟨q4,q5⟩:=w68_ok N ((fillZ (w - 1) l []).1++[63]) (d:=done) (by omega);rw [Bool.not_false,br_t,ck_of q1,q2,q3,ck_of q4,q5];have:=w46_outer N k0 k1 k2 w hw hw2 n (fillZ (w - 1) l []).2 (done++[(fillZ (w - 1) l []).1++[63]]) (by omega) (by omega) s4 (by omega) (by simp;omega);refine this.trans ?_;have s6:=congrArg List.length s2;rw [List.length_append,List.nil_append] at s6;rw [if_neg (by omega),List.append_assoc];rfl
theorem line_pos (s:List UInt8):1<=(lineZ s).length:=by
 have hpos:1<=(Lib.itoa ((s.length - (trimL s).length:Nat):Int)).length:=by
  rw [Lib.itoa_nonneg,Lib.decDigits];split <;> simp
 unfold lineZ;rw [List.length_append,codesZ_le];omega
def divZ (w:Nat) (s:List UInt8):List (List UInt8):=rowsZ w (lineZ s)
theorem w46_eq {N w:Nat} {s:List UInt8} (hN:s.length+40 < N) (hs:s.length<=20000) (hw:4<=w) (hw2:w<=1000):w46z N s (w:Int)=some (divZ w s):=by
 have hl:=line_cds s;have hlen:(lineZ s).length<=s.length+22:=by
  unfold lineZ;rw [List.length_append,codesZ_le];have h1:=Lib.itoa_length_le ((s.length - (trimL s).length:Nat):Int) (by omega) (by omega);have h2:=trimL_le s;split
  ·simp;omega
  ·rw [List.length_cons,codesZ_le];omega
 have hf:=hl.flat;have hp:=line_pos s;have e65:w65p N s=true/\w65y0 N s=s:=⟨rfl,rfl⟩;have e35:l35lp N s=true/\l35ly0 N s=lineZ s:=⟨decide_eq_true hs,rfl⟩;unfold w46z w46 w46G w46n2;rw [e65.2,ck_of e65.1,ck_of e35.1,e35.2,ck_of (w34_P (by omega) (by omega) (by omega)),w34_Y (by omega) (by omega) (by omega)];refine (congrArg (fun z:O=>z.bind w46un) (w46_outer N (fun z=>some (w46r0 z)) (fun _=>none) (fun _=>none) w hw hw2 N (lineZ s) [] (by omega) (by omega) hl (by omega) (by simp;omega))).trans ?_;rw [if_neg (by omega)];rfl
theorem w46_P {N w:Nat} {s:List UInt8} (hN:s.length+40 < N) (hs:s.length<=20000) (hw:4<=w) (hw2:w<=1000):w46p N s (w:Int)=true:=by unfold w46p;rw [w46_eq hN hs hw hw2];rfl
theorem w46_Y {N w:Nat} {s:List UInt8} (hN:s.length+40 < N) (hs:s.length<=20000) (hw:4<=w) (hw2:w<=1000):w46y0 N s (w:Int)=divZ w s:=by unfold w46y0;rw [w46_eq hN hs hw hw2];rfl
theorem line_len {s:List UInt8} (hs:s.length<=20000):(lineZ s).length<=s.length+22:=by
 unfold lineZ;rw [List.length_append,codesZ_le];have h1:=Lib.itoa_length_le ((s.length - (trimL s).length:Nat):Int) (by omega) (by omega);have h2:=trimL_le s;split
 ·simp;omega
 ·rw [List.length_cons,codesZ_le];omega
end Go.Proofs
/- Encode and Lines, in plain words. -/
namespace Go.Proofs
open Go Go.Ax Go.Ax.Alg
def longZ (l:List (List UInt8)):Bool:=decide (64 < (l.length:Int))||l.any fun s=>decide (80 < (s.length:Int))
def fitsZ (l:List (List UInt8)) (w:Int):Int:=if longZ l=true then 4 else if (l.any fun s=>!textZ s)=true then 1 else if (decide (w < 4)||decide (40 < w))=true then 5 else 0
theorem w45_eq {N:Nat} {l:List (List UInt8)} {w:Int} (hN2:l.length < N) (hl:l.length<=1000000) (hs:∀ s ∈ l,s.length<=1000000/\s.length < N):w45z N l w=some (fitsZ l w):=by
 have key:∀ (b:Bool) (x y:O),(br b x y).bind w45un=if b=true then x.bind w45un else y.bind w45un:=fun b x y=>by cases b <;> rfl
 have ur:∀ x:Int,(some (w45r0 x):O).bind w45un=some x:=fun _=>rfl
 have p1:=w62_P (N:=N) (s:=l) (b:=fun s=>decide (80 < (s.length:Int))) (fun x _=>w63_ok N x) hl hN2;have y1:=w62_Y (N:=N) (s:=l) (b:=fun s=>decide (80 < (s.length:Int))) (fun x _=>w63_ok N x) hl hN2;have p2:=v62_P (N:=N) (s:=l) (b:=fun s=>!textZ s) (fun x hx=>w64_ok (hs x hx).2 (hs x hx).1) hl hN2;have y2:=v62_Y (N:=N) (s:=l) (b:=fun s=>!textZ s) (fun x hx=>w64_ok (hs x hx).2 (hs x hx).1) hl hN2;unfold w45z w45 w45G fitsZ longZ;rw [p1,y1,ck_of (Bool.or_true _),ck_of p2,y2];simp only [key,ur]
 repeat' split
 all_goals rfl
theorem w45_P {N:Nat} {l:List (List UInt8)} {w:Int} (hN2:l.length < N) (hl:l.length<=1000000) (hs:∀ s ∈ l,s.length<=1000000/\s.length < N):w45p N l w=true:=by unfold w45p;rw [w45_eq hN2 hl hs];rfl
theorem w45_Y {N:Nat} {l:List (List UInt8)} {w:Int} (hN2:l.length < N) (hl:l.length<=1000000) (hs:∀ s ∈ l,s.length<=1000000/\s.length < N):w45y0 N l w=fitsZ l w:=by unfold w45y0;rw [w45_eq hN2 hl hs];rfl
theorem fits_ok {l:List (List UInt8)} {w:Int} (h:fitsZ l w=0):l.length<=64/\(∀ s ∈ l,s.length<=80)/\(∀ s ∈ l,textZ s=true)/\4<=w/\w<=40:=by
 unfold fitsZ at h;split at h
 ·cases h
 rename_i h1;split at h
 ·cases h
 rename_i h2;split at h
 ·cases h
 rename_i h3;unfold longZ at h1;simp only [Bool.or_eq_true,decide_eq_true_eq,not_or,List.any_eq_true,not_exists,not_and] at h1 h2 h3;refine ⟨by omega,fun s hs=>by have:=h1.2 s hs;omega,fun s hs=>?_,by omega,by omega⟩;have:=h2 s hs;simpa using this
def encZ (l:List (List UInt8)) (w:Int):List (List UInt8)×Int:=if fitsZ l w=0 then (l.flatMap (divZ w.toNat),0) else ([],fitsZ l w)
def lnsZ (l:List (List UInt8)) (w:Int):List Int×Int:=if fitsZ l w=0 then (l.flatMap (fun s=>[((divZ w.toNat s).length:Int)]),0) else ([],fitsZ l w)
theorem div_len {w:Nat} (hw:4<=w) {s:List UInt8} (hs:s.length<=20000):(divZ w s).length<=s.length+23:=by
 have:=rows_len hw _ (line_cds s) (Nat.le_refl _);have:=line_len hs;unfold divZ;omega
theorem out_le {w:Nat} (hw:4<=w) (l:List (List UInt8)) (hs:∀ s ∈ l,s.length<=80) (i:Nat):((l.take i).flatMap (divZ w)).length<=103 * l.length:=by
 induction l generalizing i with
 | nil=>simp
 | cons s l ih=>
   cases i with
   | zero=>simp
   | succ i=>
     rw [List.take_succ_cons,List.flatMap_cons,List.length_append,List.length_cons];have:=ih (fun x hx=>hs x (List.mem_cons_of_mem _ hx)) i;have:=div_len hw (s:=s) (by have:=hs s List.mem_cons_self;omega);have:=hs s List.mem_cons_self;omega
theorem out_le1 {w:Nat} (_hw:4<=w) (l:List (List UInt8)) (hs:∀ s ∈ l,s.length<=80) (i:Nat):((l.take i).flatMap (fun s=>[((divZ w s).length:Int)])).length<=103 * l.length:=by
 induction l generalizing i with
 | nil=>simp
 | cons s l ih=>
   cases i with
   | zero=>simp
   | succ i=>
     rw [List.take_succ_cons,List.flatMap_cons,List.length_append,List.length_cons];have:=ih (fun x hx=>hs x (List.mem_cons_of_mem _ hx)) i;simp only [List.length_cons,List.length_nil];omega
theorem w19_loop (N:Nat) (k0:List (List UInt8)->O) (k1 k2:Unit->O) (w:Nat) (hw:4<=w) (hw2:w<=1000) (l:List (List UInt8)) (hl:l.length<=64) (hs:∀ s ∈ l,s.length<=80) (hN:200<=N):∀ (n i:Nat),l.length - i < n->i<=l.length->w19l0 N n ((w:Int),l,(l.length:Int),(i:Int),(l.take i).flatMap (divZ w)) k0 k1 k2=k0 (l.flatMap (divZ w))
 | 0,i,h,_=>by omega
 | n+1,i,h,hi=>by
   show w19F0 N _ _ (w:Int) l (l.length:Int) (i:Int) ((l.take i).flatMap (divZ w))=_;unfold w19F0;by_cases hlt:i < l.length
   ·have g:=List.getElem?_eq_getElem hlt
    have hx:=hs _ (List.getElem_mem hlt);have hb:=out_le hw l hs i;have hb':=out_le hw l hs (i+1);have e:(l.take i).flatMap (divZ w)++divZ w l[i]=(l.take (i+1)).flatMap (divZ w):=by
     rw [List.take_succ_eq_append_getElem hlt,List.flatMap_append];simp
    rw [decide_eq_true (show (i:Int) < (l.length:Int) by omega),br_t,gx_at g,ck_of (w46_P (by omega) (by omega) hw hw2),w46_Y (by omega) (by omega) hw hw2,e,ck_of (lim_of (by omega) (by omega)),wr (by omega) (by omega)];exact w19_loop N k0 k1 k2 w hw hw2 l hl hs hN n (i+1) (by omega) (by omega)
   ·rw [decide_eq_false (show ¬ (i:Int) < (l.length:Int) by omega),br_f,List.take_of_length_le (by omega)]
theorem w19_eq {N:Nat} {l:List (List UInt8)} {w:Int} (hN:200<=N) (hN2:l.length < N) (hl:l.length<=1000000) (hs:∀ s ∈ l,s.length<=1000000/\s.length < N):w19z N l w=some (encZ l w):=by
 unfold w19z w19 w19G w19n0 encZ;rw [ck_of (w45_P hN2 hl hs),w45_Y hN2 hl hs];by_cases h:fitsZ l w=0
 ·obtain ⟨h1,h2,_,h4,h5⟩:=fits_ok h
  obtain ⟨v,rfl⟩:∃ v:Nat,w=v:=⟨w.toNat,by omega⟩
  rw [h,decide_eq_false (by decide),br_f];refine (congrArg (fun z:O=>z.bind w19un) (w19_loop N (fun z=>some (w19r0 z 0)) (fun _=>none) (fun _=>none) v (by omega) (by omega) l h1 h2 hN N 0 (by omega) (Nat.zero_le _))).trans ?_;rw [if_pos rfl,Int.toNat_natCast];rfl
 ·rw [decide_eq_true h,br_t,if_neg h]
  rfl
theorem w19_P {N:Nat} {l:List (List UInt8)} {w:Int} (hN:200<=N) (hN2:l.length < N) (hl:l.length<=1000000) (hs:∀ s ∈ l,s.length<=1000000/\s.length < N):w19p N l w=true:=by unfold w19p;rw [w19_eq hN hN2 hl hs];rfl
theorem w19_Y0 {N:Nat} {l:List (List UInt8)} {w:Int} (hN:200<=N) (hN2:l.length < N) (hl:l.length<=1000000) (hs:∀ s ∈ l,s.length<=1000000/\s.length < N):w19y0 N l w=(encZ l w).1:=by unfold w19y0;rw [w19_eq hN hN2 hl hs];rfl
theorem w19_Y1 {N:Nat} {l:List (List UInt8)} {w:Int} (hN:200<=N) (hN2:l.length < N) (hl:l.length<=1000000) (hs:∀ s ∈ l,s.length<=1000000/\s.length < N):w19y1 N l w=(encZ l w).2:=by unfold w19y1;rw [w19_eq hN hN2 hl hs];rfl
theorem w21_loop (N:Nat) (k0:List (Int)->O) (k1 k2:Unit->O) (w:Nat) (hw:4<=w) (hw2:w<=1000) (l:List (List UInt8)) (hl:l.length<=64) (hs:∀ s ∈ l,s.length<=80) (hN:200<=N):∀ (n i:Nat),l.length - i < n->i<=l.length->w21l0 N n ((w:Int),l,(l.length:Int),(i:Int),(l.take i).flatMap (fun s=>[((divZ w s).length:Int)])) k0 k1 k2=k0 (l.flatMap (fun s=>[((divZ w s).length:Int)]))
 | 0,i,h,_=>by omega
 | n+1,i,h,hi=>by
   show w21F0 N _ _ (w:Int) l (l.length:Int) (i:Int) ((l.take i).flatMap (fun s=>[((divZ w s).length:Int)]))=_;unfold w21F0;by_cases hlt:i < l.length
   ·have g:=List.getElem?_eq_getElem hlt
    have hx:=hs _ (List.getElem_mem hlt);have hb:=out_le1 hw l hs i;have hb':=out_le1 hw l hs (i+1);have e:(l.take i).flatMap (fun s=>[((divZ w s).length:Int)])++[((divZ w l[i]).length:Int)]=(l.take (i+1)).flatMap (fun s=>[((divZ w s).length:Int)]):=by
     rw [List.take_succ_eq_append_getElem hlt,List.flatMap_append];simp
    rw [decide_eq_true (show (i:Int) < (l.length:Int) by omega),br_t,gx_at g,ck_of (w46_P (by omega) (by omega) hw hw2),w46_Y (by omega) (by omega) hw hw2,e,ck_of (lim_of (by omega) (by omega)),wr (by omega) (by omega)];exact w21_loop N k0 k1 k2 w hw hw2 l hl hs hN n (i+1) (by omega) (by omega)
   ·rw [decide_eq_false (show ¬ (i:Int) < (l.length:Int) by omega),br_f,List.take_of_length_le (by omega)]
theorem w21_eq {N:Nat} {l:List (List UInt8)} {w:Int} (hN:200<=N) (hN2:l.length < N) (hl:l.length<=1000000) (hs:∀ s ∈ l,s.length<=1000000/\s.length < N):w21z N l w=some (lnsZ l w):=by
 unfold w21z w21 w21G w21n0 lnsZ;rw [ck_of (w45_P hN2 hl hs),w45_Y hN2 hl hs];by_cases h:fitsZ l w=0
 ·obtain ⟨h1,h2,_,h4,h5⟩:=fits_ok h
  obtain ⟨v,rfl⟩:∃ v:Nat,w=v:=⟨w.toNat,by omega⟩
  rw [h,decide_eq_false (by decide),br_f];refine (congrArg (fun z:O=>z.bind w21un) (w21_loop N (fun z=>some (w21r0 z 0)) (fun _=>none) (fun _=>none) v (by omega) (by omega) l h1 h2 hN N 0 (by omega) (Nat.zero_le _))).trans ?_;rw [if_pos rfl,Int.toNat_natCast];rfl
 ·rw [decide_eq_true h,br_t,if_neg h]
  rfl
theorem w21_P {N:Nat} {l:List (List UInt8)} {w:Int} (hN:200<=N) (hN2:l.length < N) (hl:l.length<=1000000) (hs:∀ s ∈ l,s.length<=1000000/\s.length < N):w21p N l w=true:=by unfold w21p;rw [w21_eq hN hN2 hl hs];rfl
theorem w21_Y0 {N:Nat} {l:List (List UInt8)} {w:Int} (hN:200<=N) (hN2:l.length < N) (hl:l.length<=1000000) (hs:∀ s ∈ l,s.length<=1000000/\s.length < N):w21y0 N l w=(lnsZ l w).1:=by unfold w21y0;rw [w21_eq hN hN2 hl hs];rfl
theorem w21_Y1 {N:Nat} {l:List (List UInt8)} {w:Int} (hN:200<=N) (hN2:l.length < N) (hl:l.length<=1000000) (hs:∀ s ∈ l,s.length<=1000000/\s.length < N):w21y1 N l w=(lnsZ l w).2:=by unfold w21y1;rw [w21_eq hN hN2 hl hs];rfl
end Go.Proofs
/- Read, in plain words. -/
namespace Go.Proofs
open Go Go.Ax Go.Ax.Alg
theorem w50_loop (N:Nat) (k0:Bool->O) (k1 k2:Unit->O) (a b:List (List UInt8)) (hab:a.length=b.length) (ha:a.length<=1000000):∀ (n i:Nat),a.length - i < n->i<=a.length->w50l0 N n (b,a,(a.length:Int),(i:Int)) k0 k1 k2=if a.drop i=b.drop i then k1 () else k0 false
 | 0,i,h,_=>by omega
 | n+1,i,h,hi=>by
   show w50F0 N _ _ _ b a (a.length:Int) (i:Int)=_;unfold w50F0;by_cases hlt:i < a.length
   ·have ga:=List.getElem?_eq_getElem hlt
    have gb:=List.getElem?_eq_getElem (l:=b) (i:=i) (by omega);rw [decide_eq_true (show (i:Int) < (a.length:Int) by omega),br_t,gx_at ga,gx_at gb,ck_of (w42_ok N _ _).1,(w42_ok N _ _).2,drop_at ga,drop_at gb];by_cases he:a[i]=b[i]
    ·rw [decide_eq_true he,Bool.not_true,br_f,wr (by omega) (by omega)]
     refine (w50_loop N k0 k1 k2 a b hab ha n (i+1) (by omega) (by omega)).trans ?_;by_cases hd:a.drop (i+1)=b.drop (i+1)
     ·rw [if_pos hd,if_pos (by rw [he,hd])]
     ·rw [if_neg hd,if_neg (fun h=>hd (List.cons.inj h).2)]
    ·rw [decide_eq_false he,Bool.not_false,br_t,if_neg (fun h=>he (List.cons.inj h).1)]
   ·rw [decide_eq_false (show ¬ (i:Int) < (a.length:Int) by omega),br_f,List.drop_eq_nil_of_le (by omega),List.drop_eq_nil_of_le (by omega),if_pos rfl]
theorem w50_eq {N:Nat} {a b:List (List UInt8)} (hN:a.length < N) (ha:a.length<=1000000):w50z N a b=some (decide (a=b)):=by
 unfold w50z w50 w50G w50n0;by_cases hab:a.length=b.length
 ·rw [decide_eq_false (show ¬ ((a.length:Int)≠(b.length:Int)) by omega),br_f]
  have:=w50_loop N (fun z=>some (w50r0 z)) (fun _=>some (w50r0 true)) (fun _=>none) a b hab ha N 0 (by omega) (Nat.zero_le _);refine (congrArg (fun z:O=>z.bind w50un) this).trans ?_;rw [List.drop_zero,List.drop_zero];by_cases h:a=b
  ·rw [if_pos h,decide_eq_true h];rfl
  ·rw [if_neg h,decide_eq_false h];rfl
 ·rw [decide_eq_true (show (a.length:Int)≠(b.length:Int) by omega),br_t,decide_eq_false (fun h=>hab (by rw [h]))]
  rfl
theorem w50_P {N:Nat} {a b:List (List UInt8)} (hN:a.length < N) (ha:a.length<=1000000):w50p N a b=true:=by unfold w50p;rw [w50_eq hN ha];rfl
theorem w50_Y {N:Nat} {a b:List (List UInt8)} (hN:a.length < N) (ha:a.length<=1000000):w50y0 N a b=decide (a=b):=by unfold w50y0;rw [w50_eq hN ha];rfl
theorem w15_P {N:Nat} {l:List UInt8} (hN:200<=N) (hN2:2 * l.length < N) (hl:l.length<=20000):w15p N l=true:=by unfold w15p;rw [w15_eq hN hN2 hl];rfl
theorem w15_Y0 {N:Nat} {l:List UInt8} (hN:200<=N) (hN2:2 * l.length < N) (hl:l.length<=20000):w15y0 N l=(charsZ l).1:=by unfold w15y0;rw [w15_eq hN hN2 hl];rfl
theorem w15_Y1 {N:Nat} {l:List UInt8} (hN:200<=N) (hN2:2 * l.length < N) (hl:l.length<=20000):w15y1 N l=(charsZ l).2:=by unfold w15y1;rw [w15_eq hN hN2 hl];rfl
theorem chars_len (l:List UInt8):(charsZ l).1.length<=l.length:=by
 unfold charsZ;cases hd:decZ l with
 | none=>simp
 | some s=>
   have:=(dec_text l.length (Nat.le_refl _) hd).2;show (if _ then _ else _:List UInt8×Int).1.length<=_;split
   ·exact this
   ·simp
def headZ (l:List UInt8):List UInt8:=l.takeWhile (· != 0)
def restZ (l:List UInt8):List UInt8:=(l.dropWhile (· != 0)).drop 1
def badHead (l:List UInt8):Bool:=decide ((charsZ (headZ l)).2≠0)||decide (w70y1 0 (charsZ (headZ l)).1≠1)||decide (w70y0 0 (charsZ (headZ l)).1 < 0)||decide (80 < w70y0 0 (charsZ (headZ l)).1)
def contZ (l:List UInt8):List UInt8:=if l.contains 0=true then (charsZ (restZ l)).1 else []
def lineOf (l:List UInt8):List UInt8:=Lib.repeatL [32] (w70y0 0 (charsZ (headZ l)).1).toNat++contZ l
def wholeZ (l:List UInt8):List UInt8×Bool:=if badHead l=true then ([],false) else if (l.contains 0&&decide ((charsZ (restZ l)).2≠0))=true then ([],false) else (lineOf l,decide ((lineZ (lineOf l)).flatten=l))
theorem rep_len (n:Nat):(Lib.repeatL [32] n).length=n:=by
 induction n with
 | zero=>rfl
 | succ n ih=>
   show ([32]++Lib.repeatL [32] n).length=_;rw [List.length_append,ih];simp;omega
theorem head_le (l:List UInt8):(headZ l).length<=l.length/\(restZ l).length<=l.length:=by
 constructor
 ·exact (List.takeWhile_sublist _).length_le
 ·unfold restZ
  rw [List.length_drop];have:=(List.dropWhile_sublist (l:=l) (· != 0)).length_le;omega
theorem w49_eq {N:Nat} {l:List UInt8} (hN:60000<=N) (hl:l.length<=15000):w49z N l=some (wholeZ l):=by
 have key:∀ (b:Bool) (x y:O),(br b x y).bind w49un=if b=true then x.bind w49un else y.bind w49un:=fun b x y=>by cases b <;> rfl
 have hh:=head_le l;have y0:w69y0 N l [0]=headZ l:=rfl;have y1:w69y1 N l [0]=restZ l:=rfl;have y2:w69y2 N l [0]=l.contains 0:=rfl;have z0:∀ s,w70y0 N s=w70y0 0 s:=fun _=>rfl
 have z1:∀ s,w70y1 N s=w70y1 0 s:=fun _=>rfl
 have hch:=chars_len (headZ l);have hcr:=chars_len (restZ l);unfold w49z w49 w49G wholeZ;rw [ck_of (show w69p N l [0]=true from decide_eq_true ⟨by omega,rfl⟩),y0,y1,y2,ck_of (w15_P (by omega) (by omega) (by omega)),w15_Y0 (l:=headZ l) (by omega) (by omega) (by omega),w15_Y1 (l:=headZ l) (by omega) (by omega) (by omega),ck_of (show w70p N (charsZ (headZ l)).1=true from decide_eq_true (by omega)),z0,z1];show Option.bind (br (badHead l) _ _) w49un=_;rw [key];cases hb:badHead l with
 | true=>rfl
 | false=>
   rw [if_neg (by decide),if_neg (by decide)];have hn:0<=w70y0 0 (charsZ (headZ l)).1/\w70y0 0 (charsZ (headZ l)).1<=80:=by
    unfold badHead at hb;simp only [Bool.or_eq_false_iff,decide_eq_false_iff_not] at hb;omega
   have hp71:w71p N [32] (w70y0 0 (charsZ (headZ l)).1)=true:=decide_eq_true ⟨hn.1,by omega,by decide⟩;have hy71:w71y0 N [32] (w70y0 0 (charsZ (headZ l)).1)=Lib.repeatL [32] (w70y0 0 (charsZ (headZ l)).1).toNat:=rfl;have hrl:=rep_len (w70y0 0 (charsZ (headZ l)).1).toNat;have fin:∀ s:List UInt8,s.length<=15080->w65p N s=true/\w65y0 N s=s/\l35lp N s=true/\l35ly0 N s=lineZ s/\w34p N (lineZ s)=true/\w34y0 N (lineZ s)=(lineZ s).flatten:=fun s hs=>by
    have h1:=line_len (s:=s) (by omega);have h2:=(line_cds s).flat;exact ⟨rfl,rfl,decide_eq_true (by omega),rfl,w34_P (by omega) (by omega) (by omega),w34_Y (by omega) (by omega) (by omega)⟩
   unfold lineOf contZ;cases hm:l.contains 0 with
   | true=>
     rw [br_t,ck_of (w15_P (by omega) (by omega) (by omega)),w15_Y0 (l:=restZ l) (by omega) (by omega) (by omega),w15_Y1 (l:=restZ l) (by omega) (by omega) (by omega),Bool.true_and,key];by_cases he:(charsZ (restZ l)).2≠0
     ·rw [decide_eq_true he,if_pos rfl,if_pos rfl]
      rfl
     ·rw [decide_eq_false he,if_neg (by decide),if_neg (by decide),if_pos rfl]
      obtain ⟨f1,f2,f3,f4,f5,f6⟩:=fin (Lib.repeatL [32] (w70y0 0 (charsZ (headZ l)).1).toNat++(charsZ (restZ l)).1) (by rw [List.length_append];omega);rw [ck_of hp71,hy71,ck_of (decide_eq_true (by omega)),ck_of f1,f2,ck_of f3,f4,ck_of f5,f6,ck_of (w42_ok N _ _).1,(w42_ok N _ _).2];rfl
   | false=>
     rw [br_f,Bool.false_and,if_neg (by decide),if_neg (by decide)];obtain ⟨f1,f2,f3,f4,f5,f6⟩:=fin (Lib.repeatL [32] (w70y0 0 (charsZ (headZ l)).1).toNat++[]) (by rw [List.length_append,List.length_nil];omega);rw [ck_of hp71,hy71,ck_of (decide_eq_true (by omega)),ck_of f1,f2,ck_of f3,f4,ck_of f5,f6,ck_of (w42_ok N _ _).1,(w42_ok N _ _).2];rfl
theorem w49_P {N:Nat} {l:List UInt8} (hN:60000<=N) (hl:l.length<=15000):w49p N l=true:=by unfold w49p;rw [w49_eq hN hl];rfl
theorem w49_Y0 {N:Nat} {l:List UInt8} (hN:60000<=N) (hl:l.length<=15000):w49y0 N l=(wholeZ l).1:=by unfold w49y0;rw [w49_eq hN hl];rfl
theorem w49_Y1 {N:Nat} {l:List UInt8} (hN:60000<=N) (hl:l.length<=15000):w49y1 N l=(wholeZ l).2:=by unfold w49y1;rw [w49_eq hN hl];rfl
theorem whole_len (l:List UInt8):(wholeZ l).1.length<=l.length+80:=by
 unfold wholeZ;split
 ·simp
 rename_i hb;split
 ·simp
 ·have hb:badHead l=false:=by simpa using hb
  unfold badHead at hb;simp only [Bool.or_eq_false_iff,decide_eq_false_iff_not] at hb;show (lineOf l).length<=_;unfold lineOf contZ;have h1:=rep_len (w70y0 0 (charsZ (headZ l)).1).toNat;have h2:=chars_len (restZ l);have h3:=head_le l;rw [List.length_append,h1];split
  ·omega
  ·simp;omega
end Go.Proofs
/- Read, in plain words: the rows. -/
namespace Go.Proofs
open Go Go.Ax Go.Ax.Alg
def goesZ (r:List UInt8):Bool:=decide (r.getLast?=some 63)
def stripZ (r:List UInt8):List UInt8:=if goesZ r=true then r.dropLast else r
def rdZ:List (List UInt8)->List (List UInt8)->List UInt8->Option (List (List UInt8))
 | [],out,_=>some out
 | r::p,out,now=>if (goesZ r&&!p.isEmpty)=true then rdZ p out (now++stripZ r) else if (goesZ r||!(wholeZ (now++stripZ r)).2)=true then none else rdZ p (out++[(wholeZ (now++stripZ r)).1]) []
def anyZ (out p:List (List UInt8)):Bool:=(List.range 37).any fun i=>decide (encZ out ((4+i:Nat):Int)=(p,0))
def readZ (p:List (List UInt8)):List (List UInt8)×Int:=match rdZ p [] [] with
 | none=>([],2)
 | some out=>if anyZ out p=true then (out,0) else ([],2)
theorem strip_le (r:List UInt8):(stripZ r).length<=r.length:=by
 unfold stripZ;split
 ·rw [List.length_dropLast];omega
 ·exact Nat.le_refl _
theorem w26_rows (N:Nat) (hN:60000<=N) (k0:Int->O) (k1:List (List UInt8)->List (List UInt8)->O) (k2:Unit->O) (p:List (List UInt8)) (e:Int) (hp:p.length<=50000):∀ (n i:Nat) (out:List (List UInt8)) (now:List UInt8),p.length - i < n->i<=p.length->out.length<=i->now.length+(p.drop i).flatten.length<=15000->
    w26l1 N n (p,e,p,(p.length:Int),(i:Int),out,now) k0 (fun y=>k1 y.1 y.2) k2=match rdZ (p.drop i) out now with
     | none=>k0 2
     | some o=>k1 p o
  | 0,i,_,_,h,_,_,_=>by omega
  | n+1,i,out,now,h,hi,ho,hf=>by
    show w26F1 N (w26n0 N) _ _ _ p e p (p.length:Int) (i:Int) out now=_;unfold w26F1;by_cases hlt:i < p.length
    ·have g:=List.getElem?_eq_getElem hlt
     have hd:=drop_at g;rw [hd,List.flatten_cons,List.length_append] at hf;have ei:IntKind.i64.wrap ((i:Int)+1)=((i+1:Nat):Int):=by rw [wr (by omega) (by omega)];omega
     rw [decide_eq_true (show (i:Int) < (p.length:Int) by omega),br_t,gx_at g,hd];generalize p[i]=r at hf ⊢;have hsl:=strip_le r;have hgo:∀ k:UInt8->O,gc (decide ((0:Int) < (r.length:Int))) (0:UInt8) r (IntKind.i64.wrap ((r.length:Int) - 1)) k=k (r.getLast?.getD 0):=fun k=>by
      rcases List.eq_nil_or_concat r with rfl | ⟨t,c,rfl⟩
      ·rfl
      ·rw [List.concat_eq_append] at *
       have hl:((t++[c]).length:Int)=(t.length:Int)+1:=by simp
       rw [List.length_append] at hf;have ew:IntKind.i64.wrap ((t.length:Int)+1 - 1)=((t.length:Nat):Int):=by rw [wr (by omega) (by omega)];omega
       rw [hl,decide_eq_true (by omega),gc_t,ew,gx_at (y:=c) (by simp)];simp
     have hgoes:(decide ((0:Int) < (r.length:Int))&&decide (r.getLast?.getD 0=63))=goesZ r:=by
      unfold goesZ;rcases List.eq_nil_or_concat r with rfl | ⟨t,c,rfl⟩
      ·rfl
      ·have hL:(t.concat c).getLast?=some c:=by rw [List.concat_eq_append];simp
       have hp:(0:Int) < ((t.concat c).length:Int):=by rw [List.concat_eq_append,List.length_append];simp
       rw [hL,decide_eq_true hp,Bool.true_and];simp
     rw [hgo,hgoes];have hstep:∀ k:List (List UInt8)->Int->List (List UInt8)->Int->Int->Int->List UInt8->Bool->List (List UInt8)->List UInt8->O,w26n0 N p e p (p.length:Int) (i:Int) (i:Int) r (goesZ r) out now k=k p e p (p.length:Int) (i:Int) (i:Int) (stripZ r) (goesZ r) out now:=fun k=>by
      show w26F0 N k p e p (p.length:Int) (i:Int) (i:Int) r (goesZ r) out now=_;unfold w26F0 stripZ;cases hg:goesZ r with
      | false=>rfl
      | true=>
        have hpos:1<=r.length:=by
         unfold goesZ at hg;cases r with
         | nil=>cases hg
         | cons c t=>simp
        have ew:IntKind.i64.wrap ((r.length:Int) - 1)=((r.length - 1:Nat):Int):=by rw [wr (by omega) (by omega)];omega
        have hsl:slc r none (some ((r.length - 1:Nat):Int))=r.dropLast:=by
         show r.take (((r.length - 1:Nat):Int)).toNat=_;rw [Int.toNat_natCast,List.dropLast_eq_take]
        rw [br_t,ew,ck_of (show slcOk r.length none (some ((r.length - 1:Nat):Int))=true from decide_eq_true ⟨by omega,by omega⟩),hsl,if_pos rfl]
     rw [hstep,ck_of (lim_of (by rw [List.length_append];omega) (by rw [List.length_append];omega)),ei];have hemp:decide (((i+1:Nat):Int) < (p.length:Int))=!(p.drop (i+1)).isEmpty:=by
      by_cases h1:i+1 < p.length
      ·rw [decide_eq_true (by omega)]
       cases hq:p.drop (i+1) with
       | nil=>rw [List.drop_eq_nil_iff] at hq;omega
       | cons _ _=>rfl
      ·rw [decide_eq_false (by omega),List.drop_eq_nil_of_le (by omega)];rfl
     rw [hemp];show _=match (if (goesZ r&&!(p.drop (i+1)).isEmpty)=true then rdZ (p.drop (i+1)) out (now++stripZ r) else if (goesZ r||!(wholeZ (now++stripZ r)).2)=true then none else rdZ (p.drop (i+1)) (out++[(wholeZ (now++stripZ r)).1]) []) with
      | none=>k0 2
      | some o=>k1 p o
     cases hc:goesZ r&&!(p.drop (i+1)).isEmpty with
     | true=>
       rw [br_t,if_pos rfl];exact w26_rows N hN k0 k1 k2 p e hp n (i+1) out (now++stripZ r) (by omega) (by omega) (by omega) (by rw [List.length_append];omega)
     | false=>
       rw [br_f,if_neg (by decide),ck_of (w49_P hN (by rw [List.length_append];omega)),w49_Y1 hN (by rw [List.length_append];omega),w49_Y0 hN (by rw [List.length_append];omega)];cases hw:goesZ r||!(wholeZ (now++stripZ r)).2 with
       | true=>rw [br_t,if_pos rfl]
       | false=>
         rw [br_f,if_neg (by decide),ck_of (lim_of (by simp;omega) (by simp;omega))];exact w26_rows N hN k0 k1 k2 p e hp n (i+1) (out++[(wholeZ (now++stripZ r)).1]) [] (by omega) (by omega) (by simp;omega) (by rw [List.length_nil];omega)
    ·rw [decide_eq_false (show ¬ (i:Int) < (p.length:Int) by omega),br_f,List.drop_eq_nil_of_le (by omega)]
     rfl
theorem rd_len:∀ {p out:List (List UInt8)} {now:List UInt8} {o:List (List UInt8)},rdZ p out now=some o->(∀ s ∈ out,s.length<=15080)->now.length+p.flatten.length<=15000->(∀ s ∈ o,s.length<=15080)/\o.length<=out.length+p.length
 | [],out,now,o,h,ho,_=>by cases h;exact ⟨ho,Nat.le_refl _⟩
 | r::p,out,now,o,h,ho,hf=>by
   rw [List.flatten_cons,List.length_append] at hf;have hsl:=strip_le r;unfold rdZ at h;split at h
   ·obtain ⟨h1,h2⟩:=rd_len h ho (by rw [List.length_append];omega)
    exact ⟨h1,by rw [List.length_cons];omega⟩
   ·split at h
    ·cases h
    ·have hw:=whole_len (now++stripZ r)
     rw [List.length_append] at hw;obtain ⟨h1,h2⟩:=rd_len h (fun s hs=>by
      rcases List.mem_append.1 hs with h | h
      ·exact ho s h
      ·rw [List.mem_singleton.1 h];omega) (by rw [List.length_nil];omega)
     exact ⟨h1,by rw [List.length_append,List.length_singleton] at h2;rw [List.length_cons];omega⟩
theorem w26_width (N:Nat) (hN:60000<=N) (k0:Int->List (List UInt8)->O) (k1 k2:Unit->O) (p out:List (List UInt8)) (hp:p.length<=50000) (ho:out.length<=50000) (hs:∀ s ∈ out,s.length<=15080):∀ (n i:Nat),37 - i < n->i<=37->
    w26l2 N n (p,((4+i:Nat):Int),out) (fun y=>k0 y.1 y.2) k1 k2=if (((List.range 37).drop i).any fun i=>decide (encZ out ((4+i:Nat):Int)=(p,0)))=true then k0 0 out else k1 ()
 | 0,i,h,_=>by omega
 | n+1,i,h,hi=>by
   show w26F2 N _ _ _ p out ((4+i:Nat):Int)=_;unfold w26F2;have hs':∀ s ∈ out,s.length<=1000000/\s.length < N:=fun s h=>by have:=hs s h;omega
   by_cases hlt:i < 37
   ·have g:(List.range 37)[i]?=some i:=List.getElem?_range hlt
    rw [decide_eq_true (show ((4+i:Nat):Int)<=40 by omega),br_t,ck_of (w19_P (by omega) (by omega) (by omega) hs'),w19_Y1 (by omega) (by omega) (by omega) hs',w19_Y0 (by omega) (by omega) (by omega) hs',ck_of (by rw [w50_P (by omega) (by omega),Bool.or_true]),w50_Y (by omega) (by omega),drop_at g,List.any_cons];have hc:(decide ((encZ out ((4+i:Nat):Int)).2=0)&&decide (p=(encZ out ((4+i:Nat):Int)).1))=decide (encZ out ((4+i:Nat):Int)=(p,0)):=by
     rw [Bool.eq_iff_iff];simp only [Bool.and_eq_true,decide_eq_true_eq,Prod.ext_iff];exact ⟨fun h=>⟨h.2.symm,h.1⟩,fun h=>⟨h.2,h.1.symm⟩⟩
    rw [hc];cases hd:decide (encZ out ((4+i:Nat):Int)=(p,0)) with
    | true=>rw [br_t,Bool.true_or,if_pos rfl]
    | false=>
      rw [br_f,Bool.false_or,wr (by omega) (by omega),show ((4+i:Nat):Int)+1=((4+(i+1):Nat):Int) by omega];exact w26_width N hN k0 k1 k2 p out hp ho hs n (i+1) (by omega) (by omega)
   ·have:i=37:=by omega
    subst this;rfl
theorem w26_eq {N:Nat} {p:List (List UInt8)} (hN:60000<=N) (hp:p.length<=50000) (hf:p.flatten.length<=15000):w26z N p=some (readZ p):=by
 unfold w26z w26 w26G w26n1 w26n2 readZ;have h0:=w26_rows N hN (fun z63=>some (w26r0 [] z63)) (fun z64 z65=>w26l2 N N (z64,4,z65) (fun y=>some (w26r0 y.2 y.1)) (fun _=>some (w26r0 [] 2)) (fun _=>none)) (fun _=>none) p 0 hp N 0 [] [] (by omega) (Nat.zero_le _) (Nat.le_refl _) (by rw [List.length_nil,List.drop_zero];omega);refine (congrArg (fun z:O=>z.bind w26un) h0).trans ?_;rw [List.drop_zero];cases hr:rdZ p [] [] with
 | none=>rfl
 | some out=>
   obtain ⟨h1,h2⟩:=rd_len hr (fun s h=>by cases h) (by rw [List.length_nil];omega);rw [List.length_nil] at h2;have hw:=w26_width N hN (fun z67 z68=>some (w26r0 z68 z67)) (fun _=>some (w26r0 [] 2)) (fun _=>none) p out hp (by omega) h1 N 0 (by omega) (by omega);refine (congrArg (fun z:O=>z.bind w26un) hw).trans ?_;rw [List.drop_zero];show _=some (if anyZ out p=true then (out,0) else ([],2));unfold anyZ;split <;> rfl
theorem w26_P {N:Nat} {p:List (List UInt8)} (hN:60000<=N) (hp:p.length<=50000) (hf:p.flatten.length<=15000):w26p N p=true:=by unfold w26p;rw [w26_eq hN hp hf];rfl
theorem w26_Y0 {N:Nat} {p:List (List UInt8)} (hN:60000<=N) (hp:p.length<=50000) (hf:p.flatten.length<=15000):w26y0 N p=(readZ p).1:=by unfold w26y0;rw [w26_eq hN hp hf];rfl
theorem w26_Y1 {N:Nat} {p:List (List UInt8)} (hN:60000<=N) (hp:p.length<=50000) (hf:p.flatten.length<=15000):w26y1 N p=(readZ p).2:=by unfold w26y1;rw [w26_eq hN hp hf];rfl
end Go.Proofs
/- The example of the document. -/
namespace Go.Proofs
open Go Go.Ax Go.Ax.Alg
theorem ex_line:lineZ [32,32,120,123]=[[18],[0],[56],[32,59]]:=by
 have h:Lib.itoa ((([32,32,120,123]:List UInt8).length - (trimL [32,32,120,123]).length:Nat):Int)=[50]:=by
  show Lib.itoa ((2:Nat):Int)=_;rw [Lib.itoa_nonneg,Lib.decDigits_one (by decide)];rfl
 unfold lineZ;rw [h];rfl
theorem ex_line0:lineZ []=[[16]]:=by
 have h:Lib.itoa ((([]:List UInt8).length - (trimL []).length:Nat):Int)=[48]:=by
  show Lib.itoa ((0:Nat):Int)=_;rw [Lib.itoa_nonneg,Lib.decDigits_one (by decide)];rfl
 unfold lineZ;rw [h];rfl
theorem ex_enc5:encZ [[32,32,120,123],[]] 5=([[18,0,56,32,59],[16]],0):=by
 unfold encZ;rw [if_pos (show fitsZ [[32,32,120,123],[]] 5=0 from by decide)];show ((rowsZ 5 (lineZ [32,32,120,123]))++(rowsZ 5 (lineZ [])++[]),(0:Int))=_;rw [ex_line,ex_line0];rfl
theorem ex_enc4:encZ [[32,32,120,123]] 4=([[18,0,56,63],[32,59]],0):=by
 unfold encZ;rw [if_pos (show fitsZ [[32,32,120,123]] 4=0 from by decide)];show ((rowsZ 4 (lineZ [32,32,120,123]))++[],(0:Int))=_;rw [ex_line];rfl
theorem ex_lns:lnsZ [[32,32,120,123],[]] 4=([2,1],0):=by
 unfold lnsZ;rw [if_pos (show fitsZ [[32,32,120,123],[]] 4=0 from by decide)];show ([((rowsZ 4 (lineZ [32,32,120,123])).length:Int)]++([((rowsZ 4 (lineZ [])).length:Int)]++[]),(0:Int))=_;rw [ex_line,ex_line0];rfl
theorem ex_whole:wholeZ [18,0,56,32,59]=([32,32,120,123],true):=by
 have h1:badHead [18,0,56,32,59]=false:=by kernel_rfl
 have h2:(([18,0,56,32,59]:List UInt8).contains 0&&decide ((charsZ (restZ [18,0,56,32,59])).2≠0))=false:=by kernel_rfl
 have h3:lineOf [18,0,56,32,59]=[32,32,120,123]:=by kernel_rfl
 unfold wholeZ;rw [h1,if_neg (by decide),h2,if_neg (by decide),h3,ex_line];rfl
theorem ex_read:readZ [[18,0,56,63],[32,59]]=([[32,32,120,123]],0):=by
 have h:rdZ [[18,0,56,63],[32,59]] [] []=some [[32,32,120,123]]:=by
  show (if (goesZ [32,59]||!(wholeZ [18,0,56,32,59]).2)=true then none else some ([]++[(wholeZ [18,0,56,32,59]).1]))=_;rw [ex_whole];rfl
 have h2:anyZ [[32,32,120,123]] [[18,0,56,63],[32,59]]=true:=by
  unfold anyZ;rw [List.any_eq_true];exact ⟨0,by simp,decide_eq_true ex_enc4⟩
 unfold readZ;rw [h];show (if anyZ [[32,32,120,123]] [[18,0,56,63],[32,59]]=true then _ else _)=_;rw [h2,if_pos rfl]
theorem w23_loop (N:Nat) (k0:Bool->O) (k1 k2:Unit->O) (a b:List (List UInt8)) (hab:a.length=b.length) (ha:a.length<=1000000) (hr:∀ x ∈ a,x.length < N/\x.length<=1000000):∀ (n i:Nat),a.length - i < n->i<=a.length->w23l0 N n (a,b,(i:Int)) k0 k1 k2=if a.drop i=b.drop i then k1 () else k0 false
 | 0,i,h,_=>by omega
 | n+1,i,h,hi=>by
   show w23F0 N _ _ _ a b (i:Int)=_;unfold w23F0;by_cases hlt:i < a.length
   ·have ga:=List.getElem?_eq_getElem hlt
    have gb:=List.getElem?_eq_getElem (l:=b) (i:=i) (by omega);have hx:=hr _ (List.getElem_mem hlt);rw [decide_eq_true (show (i:Int) < (a.length:Int) by omega),br_t,gx_at ga,gx_at gb,ck_of (w12_P hx.1 hx.2),w12_Y hx.1 hx.2,drop_at ga,drop_at gb];by_cases he:a[i]=b[i]
    ·rw [decide_eq_true he,Bool.not_true,br_f,wr (by omega) (by omega)]
     refine (w23_loop N k0 k1 k2 a b hab ha hr n (i+1) (by omega) (by omega)).trans ?_;by_cases hd:a.drop (i+1)=b.drop (i+1)
     ·rw [if_pos hd,if_pos (by rw [he,hd])]
     ·rw [if_neg hd,if_neg (fun h=>hd (List.cons.inj h).2)]
    ·rw [decide_eq_false he,Bool.not_false,br_t,if_neg (fun h=>he (List.cons.inj h).1)]
   ·rw [decide_eq_false (show ¬ (i:Int) < (a.length:Int) by omega),br_f,List.drop_eq_nil_of_le (by omega),List.drop_eq_nil_of_le (by omega),if_pos rfl]
theorem w23_eq {N:Nat} {a b:List (List UInt8)} (hN:a.length < N) (ha:a.length<=1000000) (hr:∀ x ∈ a,x.length < N/\x.length<=1000000):w23z N a b=some (decide (a=b)):=by
 unfold w23z w23 w23G w23n0;by_cases hab:a.length=b.length
 ·rw [decide_eq_false (show ¬ ((a.length:Int)≠(b.length:Int)) by omega),br_f]
  have:=w23_loop N (fun z=>some (w23r0 z)) (fun _=>some (w23r0 true)) (fun _=>none) a b hab ha hr N 0 (by omega) (Nat.zero_le _);refine (congrArg (fun z:O=>z.bind w23un) this).trans ?_;rw [List.drop_zero,List.drop_zero];by_cases h:a=b
  ·rw [if_pos h,decide_eq_true h];rfl
  ·rw [if_neg h,decide_eq_false h];rfl
 ·rw [decide_eq_true (show (a.length:Int)≠(b.length:Int) by omega),br_t,decide_eq_false (fun h=>hab (by rw [h]))]
  rfl
theorem w23_P {N:Nat} {a b:List (List UInt8)} (hN:a.length < N) (ha:a.length<=1000000) (hr:∀ x ∈ a,x.length < N/\x.length<=1000000):w23p N a b=true:=by unfold w23p;rw [w23_eq hN ha hr];rfl
theorem w23_Y {N:Nat} {a b:List (List UInt8)} (hN:a.length < N) (ha:a.length<=1000000) (hr:∀ x ∈ a,x.length < N/\x.length<=1000000):w23y0 N a b=decide (a=b):=by unfold w23y0;rw [w23_eq hN ha hr];rfl
theorem w17_eq {N:Nat} (hN:60000<=N):w17z N=some true:=by
 have b2:∀ s ∈ ([[32,32,120,123],[]]:List (List UInt8)),s.length<=1000000/\s.length < N:=fun s hs=>by
  rcases List.mem_cons.1 hs with rfl | hs
  ·exact ⟨by decide,by show 4 < N;omega⟩
  ·rw [List.mem_singleton.1 hs];exact ⟨by decide,by show 0 < N;omega⟩
 have b1:∀ s ∈ ([[32,32,120,123]]:List (List UInt8)),s.length<=1000000/\s.length < N:=fun s hs=>by
  rw [List.mem_singleton.1 hs];exact ⟨by decide,by show 4 < N;omega⟩
 unfold w17z w17 w17G;rw [ck_of (w19_P (by omega) (by show 2 < N;omega) (by decide) b2),ck_of (w19_P (by omega) (by show 1 < N;omega) (by decide) b1),ck_of (w26_P hN (by decide) (by decide)),ck_of (w21_P (by omega) (by show 2 < N;omega) (by decide) b2),
  w19_Y1 (by omega) (by show 2 < N;omega) (by decide) b2,w19_Y0 (by omega) (by show 2 < N;omega) (by decide) b2,w19_Y1 (by omega) (by show 1 < N;omega) (by decide) b1,w19_Y0 (by omega) (by show 1 < N;omega) (by decide) b1,
  w26_Y0 hN (by decide) (by decide),w26_Y1 hN (by decide) (by decide),w21_Y0 (by omega) (by show 2 < N;omega) (by decide) b2,w21_Y1 (by omega) (by show 2 < N;omega) (by decide) b2,ex_enc5,ex_enc4,ex_read,ex_lns]
 have r5:∀ x ∈ ([[18,0,56,32,59],[16]]:List (List UInt8)),x.length < N/\x.length<=1000000:=fun s hs=>by
  rcases List.mem_cons.1 hs with rfl | hs
  ·exact ⟨by show 5 < N;omega,by decide⟩
  ·rw [List.mem_singleton.1 hs];exact ⟨by show 1 < N;omega,by decide⟩
 have r4:∀ x ∈ ([[18,0,56,63],[32,59]]:List (List UInt8)),x.length < N/\x.length<=1000000:=fun s hs=>by
  rcases List.mem_cons.1 hs with rfl | hs
  ·exact ⟨by show 4 < N;omega,by decide⟩
  ·rw [List.mem_singleton.1 hs];exact ⟨by show 2 < N;omega,by decide⟩
 show (ck (w23p N [[18,0,56,32,59],[16]] [[18,0,56,32,59],[16]]) _).bind w17un=_;rw [ck_of (w23_P (by show 2 < N;omega) (by decide) r5),w23_Y (by show 2 < N;omega) (by decide) r5,decide_eq_true rfl,br_t,ck_of (w23_P (by show 2 < N;omega) (by decide) r4),w23_Y (by show 2 < N;omega) (by decide) r4,decide_eq_true rfl,br_t,ck_of (w24_P (by show 2 < N;omega) (by decide)),w24_Y (by show 2 < N;omega) (by decide),decide_eq_true rfl];rfl
theorem l17ok (N:Nat):EOk Tryz.prog 17 (l17e N):=EOk.e0 fun _=>w17fin (w17cx 60000) (w17_eq (Nat.le_refl _))
end Go.Proofs
