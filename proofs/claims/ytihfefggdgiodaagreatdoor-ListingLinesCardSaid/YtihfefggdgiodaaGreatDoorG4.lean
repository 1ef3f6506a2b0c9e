/- ListingLines in plain words. Conditions are in the theorems. -/
import Derived.Test.YtihfefggdgiodaaGreatDoorF7
import Derived.Test.YtihfefggdgiodaaGreatDoorG1
/- ListingLines, in plain words. -/
namespace Go.Proofs
open Go Go.Ax Go.Ax.Alg
theorem w9_get (N:Nat) (hN:20<=N) {l:List Int} (hl:Okl l):∃ a,w9p N l=true/\w9y0 N l=a/\MadeOk a:=by
 obtain ⟨a,ha,hm⟩:=w9_ok N hN hl;exact ⟨a,by unfold w9p;rw [ha];rfl,by unfold w9y0;rw [ha];rfl,hm⟩
theorem fits_made {a:List (List UInt8)} (hm:a.length<=64/\∀ s ∈ a,s.length<=77/\textZ s=true) {w:Int} (h4:4<=w) (h5:w<=40):fitsZ a w=0:=
 fits_mk hm.1 (fun s hs=>by have:=(hm.2 s hs).1;omega) (fun s hs=>(hm.2 s hs).2) h4 h5
theorem rows_w {w:Nat} (hw:4<=w):∀ (n:Nat) {l:List (List UInt8)},Cds l->l.length<=n->∀ r ∈ rowsZ w l,r.length<=w
 | n,l,hl,hn,r,hr=>by
   rw [rows_step hw hl] at hr;split at hr
   ·rename_i hf
    rw [List.mem_singleton.1 hr];exact hf
   ·rename_i hf
    have hne:l≠[]:=fun e=>by subst e;simp at hf
    have h1:=fill_less hl hne (m:=w - 1) (by omega);obtain ⟨h2,_⟩:=fill_spec (w - 1) l [] (by simp);rcases List.mem_cons.1 hr with rfl | hr
    ·rw [List.length_append,List.length_singleton];omega
    ·match n,hn with
     | n+1,hn=>exact rows_w hw n (fill_cds (m:=w - 1) (row:=[]) hl (by simp)).1 (by omega) r hr
     | 0,hn=>omega
theorem w7_loop (N:Nat) (k0:List (List UInt8)->List (List UInt8)->Int->List (List UInt8)->Int->O) (k1 k2:Unit->O) (p q r:List (List UInt8)) (z:Int) (n:List Int) (hn:n.length<=1000) (hb:∀ x ∈ n,0<=x/\x<=1000):∀ (m i:Nat) (s:Int),n.length - i < m->i<=n.length->0<=s->s<=1000 * i->
    w7l0 N m (p,q,z,r,n,s,(i:Int)) (fun y=>k0 y.1 y.2.1 y.2.2.1 y.2.2.2.1 y.2.2.2.2) k1 k2=k0 p q z r (s+(n.drop i).sum)
 | 0,i,s,h,_,_,_=>by omega
 | m+1,i,s,h,hi,h0,h1=>by
   show w7F0 N _ _ p q z r n s (i:Int)=_;unfold w7F0;by_cases hlt:i < n.length
   ·have g:=List.getElem?_eq_getElem hlt
    have hx:=hb _ (List.getElem_mem hlt);rw [decide_eq_true (show (i:Int) < (n.length:Int) by omega),br_t,gx_at g,wr (by omega) (by omega),wr (by omega) (by omega)];refine (w7_loop N k0 k1 k2 p q r z n hn hb m (i+1) (s+n[i]) (by omega) (by omega) (by omega) (by omega)).trans ?_;rw [drop_at g,List.sum_cons,Int.add_assoc]
   ·rw [decide_eq_false (show ¬ (i:Int) < (n.length:Int) by omega),br_f,List.drop_eq_nil_of_le (by omega)]
    simp
theorem sum_lens (w:Nat):∀ (a:List (List UInt8)),(a.flatMap fun s=>[((divZ w s).length:Int)]).sum=((a.flatMap (divZ w)).length:Int)
 | []=>rfl
 | s::a=>by
   rw [List.flatMap_cons,List.flatMap_cons,List.sum_append,sum_lens w a,List.length_append];simp
theorem law7 {N:Nat} (hN:60000<=N) {l m:List Int} {x:Int} (hl:Okl l) (hm:Okl m) (hx:I64 x):w7z N l m x=some true:=by
 obtain ⟨a,ap,ay,am⟩:=w9_get N (by omega) hl;obtain ⟨b,bp,by_,bm⟩:=w9_get N (by omega) hm;have har:=around_lt (n:=x) (m:=37) (by omega);obtain ⟨v,hv⟩:∃ v:Nat,4+aroundZ x 37=v:=⟨(4+aroundZ x 37).toNat,by omega⟩
 have hv1:4<=v/\v<=40:=by omega
 have bnd:∀ {c:List (List UInt8)},(∀ s ∈ c,s.length<=77/\textZ s=true)->∀ s ∈ c,s.length<=1000000/\s.length < N:=fun h s hs=>by have:=(h s hs).1;omega
 have am':=bnd am.2;have bm':=bnd bm.2;have cm:(a++b).length<=8/\∀ s ∈ a++b,s.length<=77/\textZ s=true:=⟨by rw [List.length_append];have:=am.1;have:=bm.1;omega,fun s hs=>(List.mem_append.1 hs).elim (am.2 s) (bm.2 s)⟩
 have cm':=bnd cm.2;have ha4:=am.1;have hb4:=bm.1;have fa:=fits_made ⟨by omega,am.2⟩ (w:=(v:Int)) (by omega) (by omega);have fb:=fits_made ⟨by omega,bm.2⟩ (w:=(v:Int)) (by omega) (by omega);have fc:=fits_made ⟨by omega,cm.2⟩ (w:=(v:Int)) (by omega) (by omega);have ea:encZ a (v:Int)=(a.flatMap (divZ v),0):=by unfold encZ;rw [if_pos fa,Int.toNat_natCast]
 have eb:encZ b (v:Int)=(b.flatMap (divZ v),0):=by unfold encZ;rw [if_pos fb,Int.toNat_natCast]
 have ec:encZ (a++b) (v:Int)=((a++b).flatMap (divZ v),0):=by unfold encZ;rw [if_pos fc,Int.toNat_natCast]
 have el:lnsZ a (v:Int)=(a.flatMap (fun s=>[((divZ v s).length:Int)]),0):=by unfold lnsZ;rw [if_pos fa,Int.toNat_natCast]
 have la:=out_le (w:=v) hv1.1 a (fun s hs=>by have:=(am.2 s hs).1;omega) a.length;have lb:=out_le (w:=v) hv1.1 b (fun s hs=>by have:=(bm.2 s hs).1;omega) b.length;rw [List.take_length] at la lb;unfold w7z w7 w7G w7n0;rw [ck_of ap,ck_of bp,ay,by_,ck_of (w14_P N hx),w14_Y N hx,wr (by omega) (by omega),hv];rw [ck_of (w19_P (by omega) (by omega) (by omega) am'),ck_of (w19_P (by omega) (by omega) (by omega) bm'),List.nil_append,ck_of (lim_of (by omega) (by omega)),ck_of (lim_of (by rw [List.length_append];omega) (by rw [List.length_append];omega)),ck_of (w19_P (by omega) (by omega) (by omega) cm'),ck_of (w21_P (by omega) (by omega) (by omega) am'),
  w19_Y1 (by omega) (by omega) (by omega) am',w19_Y1 (by omega) (by omega) (by omega) bm',w19_Y1 (by omega) (by omega) (by omega) cm',w21_Y1 (by omega) (by omega) (by omega) am',w19_Y0 (by omega) (by omega) (by omega) am',w19_Y0 (by omega) (by omega) (by omega) bm',w19_Y0 (by omega) (by omega) (by omega) cm',w21_Y0 (by omega) (by omega) (by omega) am',ea,eb,ec,el]
 have h0:=w7_loop N (fun z4 z5 _ z7 z8=>br (decide (z8=(z4.length:Int))) (ck (lim ([]++z4).length 24) <| ck (lim ([]++z4++z5).length 24) <| ck (w23p N z7 ([]++z4++z5)) <| ck (!w23y0 N z7 ([]++z4++z5)||true) <| some (w7r0 (w23y0 N z7 ([]++z4++z5)&&true))) (ck true <| some (w7r0 false))) (fun _=>none) (fun _=>none) (a.flatMap (divZ v)) (b.flatMap (divZ v)) ((a++b).flatMap (divZ v)) 0 (a.flatMap fun s=>[((divZ v s).length:Int)])
  (by have:=out_le1 (w:=v) hv1.1 a (fun s hs=>by have:=(am.2 s hs).1;omega) a.length;rw [List.take_length] at this;omega)
  (fun y hy=>by
   obtain ⟨s,hs,hy⟩:=List.mem_flatMap.1 hy;rw [List.mem_singleton.1 hy];have:=div_len hv1.1 (s:=s) (by have:=(am.2 s hs).1;omega);have:=(am.2 s hs).1;omega) N 0 0 (by
   have:=out_le1 (w:=v) hv1.1 a (fun s hs=>by have:=(am.2 s hs).1;omega) a.length;rw [List.take_length] at this;omega) (Nat.zero_le _) (Int.le_refl _) (by omega)
 refine (congrArg (fun z:O=>z.bind w7un) h0).trans ?_;rw [List.drop_zero,sum_lens,Int.zero_add,decide_eq_true rfl,br_t,List.nil_append,ck_of (lim_of (by omega) (by omega)),ck_of (lim_of (by rw [List.length_append];omega) (by rw [List.length_append];omega)),List.flatMap_append];have rows:∀ r ∈ a.flatMap (divZ v)++b.flatMap (divZ v),r.length < N/\r.length<=1000000:=fun r hr=>by
  rcases List.mem_append.1 hr with h | h
  ·obtain ⟨s,_,h⟩:=List.mem_flatMap.1 h
   have:=rows_w hv1.1 _ (line_cds s) (Nat.le_refl _) r h;omega
  ·obtain ⟨s,_,h⟩:=List.mem_flatMap.1 h
   have:=rows_w hv1.1 _ (line_cds s) (Nat.le_refl _) r h;omega
 rw [ck_of (w23_P (by rw [List.length_append];omega) (by rw [List.length_append];omega) rows),w23_Y (by rw [List.length_append];omega) (by rw [List.length_append];omega) rows,decide_eq_true rfl];rfl
end Go.Proofs
