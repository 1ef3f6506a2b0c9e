/- ListingFewest in plain words. Conditions are in the theorems. -/
import Derived.Test.YtihfefggdgiodaaGreatDoorF7
import Derived.Test.YtihfefggdgiodaaGreatDoorG1
import Derived.Test.YtihfefggdgiodaaGreatDoorG2
/- ListingLines, in plain words. -/
namespace Go.Proofs
open Go Go.Ax Go.Ax.Alg
theorem w9_get (N:Nat) (hN:20<=N) {l:List Int} (hl:Okl l):∃ a,w9p N l=true/\w9y0 N l=a/\MadeOk a:=by
 obtain ⟨a,ha,hm⟩:=w9_ok N hN hl;exact ⟨a,by unfold w9p;rw [ha];rfl,by unfold w9y0;rw [ha];rfl,hm⟩
end Go.Proofs
/- ListingRows, in plain words. -/
namespace Go.Proofs
open Go Go.Ax Go.Ax.Alg
def Lst (N:Nat) (l:List (List UInt8)):Prop:=l.length < N/\l.length<=1000000/\∀ s ∈ l,s.length<=1000000/\s.length < N
theorem v18_get {N:Nat} (hN:60000<=N) {l:List Int} (hl:Okl l) (raw:List UInt8):∃ a,MadeOk a/\v18p N l raw=true/\v18y0 N l raw=[a,a++[raw.take 90]]/\w18p N l raw=true/\w18y0 N l raw=[a,a++[raw.take 90]]:=by
 obtain ⟨a,ap,ay,am⟩:=w9_get N (by omega) hl;have ha:=am.1;have p44:w44p N raw 90=true:=w44_P N (m:=90);have y44:w44y0 N raw 90=raw.take 90:=w44_Y N (m:=90);have e:v18z N l raw=some [a,a++[raw.take 90]]:=by
  unfold v18z v18 v18G;rw [ck_of ap,ay,List.nil_append,ck_of (lim_of (by omega) (by omega)),ck_of p44,y44,ck_of (lim_of (by simp;omega) (by simp;omega))];rfl
 have e':w18z N l raw=some [a,a++[raw.take 90]]:=by
  unfold w18z w18 w18G;rw [ck_of ap,ay,List.nil_append,ck_of (lim_of (by omega) (by omega)),ck_of p44,y44,ck_of (lim_of (by simp;omega) (by simp;omega))];rfl
 exact ⟨a,am,by unfold v18p;rw [e];rfl,by unfold v18y0;rw [e];rfl,by unfold w18p;rw [e'];rfl,by unfold w18y0;rw [e'];rfl⟩
end Go.Proofs
/- Fewest rows: the table and the greedy rows. -/
namespace Go.Proofs
open Go Go.Ax Go.Ax.Alg
def roomZ (l:List (List UInt8)):Nat:=if l=[] then 0 else 1
def Rows (w:Nat):Nat->List (List UInt8)->Prop
 | 0,l=>l=[]
 | k+1,l=>∃ a b,l=a++b/\a≠[]/\a.flatten.length+roomZ b<=w/\Rows w k b
theorem rows_drop {w:Nat}:∀ (k:Nat) (a l:List (List UInt8)),Rows w k (a++l)->∃ j,j<=k/\Rows w j l
 | 0,a,l,h=>⟨0,Nat.le_refl _,(List.append_eq_nil_iff.1 h).2⟩
 | k+1,a,l,h=>by
   obtain ⟨p,q,e,hp,hw,hr⟩:=h;rcases List.append_eq_append_iff.1 e with ⟨x,e1,e2⟩ | ⟨x,e1,e2⟩
   ·by_cases hx:x=[]
    ·subst hx
     exact ⟨k,by omega,by rw [e2];exact hr⟩
    ·refine ⟨k+1,Nat.le_refl _,x,q,e2,hx,?_,hr⟩
     rw [e1,List.flatten_append,List.length_append] at hw;omega
   ·obtain ⟨j,hj,h⟩:=rows_drop k x l (by rw [← e2];exact hr)
    exact ⟨j,by omega,h⟩
theorem fill_most {m:Nat}:∀ (p q row:List (List UInt8)) (r:List UInt8),row=p++q->r.length+p.flatten.length<=m->∃ x,q=x++(fillZ m row r).2
 | [],q,row,r,e,h=>by
   obtain ⟨_,_,k,_,h4,_⟩:=fill_spec m q r (by simpa using h);rw [e,List.nil_append,h4];exact ⟨q.take k,(List.take_append_drop k q).symm⟩
 | c::p,q,row,r,e,h=>by
   rw [List.flatten_cons,List.length_append] at h;subst e;rw [List.cons_append];unfold fillZ;rw [if_pos (by omega)];exact fill_most p q _ _ rfl (by rw [List.length_append];omega)
theorem rows_best {w:Nat} (hw:4<=w):∀ (n:Nat) {l:List (List UInt8)},Cds l->l.length<=n->l≠[]->Rows w (rowsZ w l).length l/\∀ k,Rows w k l->(rowsZ w l).length<=k
 | 0,l,_,h,hne=>absurd (List.eq_nil_of_length_eq_zero (by omega)) hne
 | n+1,l,hl,h,hne=>by
   rw [rows_step hw hl];have pos:∀ k,Rows w k l->1<=k:=fun k hk=>by
    cases k with
    | zero=>exact absurd hk hne
    | succ k=>omega
   by_cases ht:l.flatten.length<=w
   ·rw [if_pos ht]
    exact ⟨⟨l,[],(List.append_nil l).symm,hne,ht,rfl⟩,pos⟩
   ·rw [if_neg ht,List.length_cons]
    obtain ⟨f1,f2,k,hk,f4,f5⟩:=fill_spec (w - 1) l [] (by simp);have fl:=fill_less hl hne (m:=w - 1) (by omega);have fc:=(fill_cds (m:=w - 1) (row:=[]) hl (by simp)).1;have hr:(fillZ (w - 1) l []).2≠[]:=fun e=>by
     rw [e,List.flatten_nil,List.append_nil,List.nil_append] at f2;rw [f2] at f1;omega
    obtain ⟨i1,i2⟩:=rows_best hw n fc (by omega) hr;refine ⟨⟨l.take k,(fillZ (w - 1) l []).2,by rw [f4,List.take_append_drop],fun e=>?_,?_,i1⟩,fun j hj=>?_⟩
    ·rw [f4] at fl
     rcases List.take_eq_nil_iff.1 e with h0 | h0
     ·subst h0;simp at fl
     ·exact hne h0
    ·rw [List.nil_append] at f5
     rw [← f5];unfold roomZ;rw [if_neg hr];omega
    ·cases j with
     | zero=>exact absurd hj hne
     | succ j=>
       obtain ⟨p,q,e,hp,hpw,hq⟩:=hj;have hq0:q≠[]:=fun e0=>by
        subst e0;rw [List.append_nil] at e;subst e;unfold roomZ at hpw;rw [if_pos rfl] at hpw;omega
       unfold roomZ at hpw;rw [if_neg hq0] at hpw;obtain ⟨x,hx⟩:=fill_most (m:=w - 1) p q l [] e (by rw [List.length_nil];omega);obtain ⟨i,hi,hri⟩:=rows_drop j x _ (by rw [← hx];exact hq);have:=i2 i hri;omega
def bestY (w:Int):Int->List (List UInt8)->List Int->Int->Int
 | size,c::cs,y::ys,b=>bestY w (size+c.length) cs ys (if size+c.length+roomZ cs<=w then min b (y+1) else b)
 | _,_,_,b=>b
def leastF (w:Int):List (List UInt8)->List Int
 | []=>[0]
 | c::cs=>bestY w 0 (c::cs) (leastF w cs) 1048576::leastF w cs
def lf (w:Int) (l:List (List UInt8)):Int:=(leastF w l).headD 0
theorem least_cons (w:Int) (l:List (List UInt8)):leastF w l=lf w l::(leastF w l).tail:=by
 cases l <;> rfl
theorem least_len (w:Int):∀ l:List (List UInt8),(leastF w l).length=l.length+1
 | []=>rfl
 | c::cs=>by
   unfold leastF;rw [List.length_cons,least_len w cs,List.length_cons]
theorem best_spec (w:Int):∀ (cs:List (List UInt8)) (c:List UInt8) (size b:Int),
    bestY w size (c::cs) (leastF w cs) b<=b /\
    (∀ a d,c::cs=a++d->a≠[]->size+a.flatten.length+roomZ d<=w->bestY w size (c::cs) (leastF w cs) b<=lf w d+1) /\
    (bestY w size (c::cs) (leastF w cs) b=b\/∃ a d,c::cs=a++d/\a≠[]/\size+a.flatten.length+roomZ d<=w/\bestY w size (c::cs) (leastF w cs) b=lf w d+1)
 | cs,c,size,b=>by
   rw [least_cons w cs];unfold bestY;generalize hb:(if size+(c.length:Int)+(roomZ cs:Int)<=w then min b (lf w cs+1) else b)=b';have hb1:b'<=b:=by rw [← hb];split <;> omega
   have hb2:size+(c.length:Int)+(roomZ cs:Int)<=w->b'<=lf w cs+1:=fun h=>by rw [← hb,if_pos h];omega
   have hb3:b'=b\/(size+(c.length:Int)+(roomZ cs:Int)<=w/\b'=lf w cs+1):=by
    rw [← hb];split
    ·rename_i h
     by_cases h2:b<=lf w cs+1
     ·exact .inl (by omega)
     ·exact .inr ⟨h,by omega⟩
    ·exact .inl rfl
   match cs with
   | []=>
     have e:bestY w (size+(c.length:Int)) [] (leastF w []).tail b'=b':=rfl;rw [e];refine ⟨hb1,fun a d ha hne hw=>?_,?_⟩
     ·match a,hne with
      | x::a,_=>
        rw [List.cons_append] at ha;obtain ⟨rfl,hn⟩:=List.cons.inj ha;obtain ⟨rfl,rfl⟩:=List.append_eq_nil_iff.1 hn.symm;exact hb2 (by simpa using hw)
     ·rcases hb3 with h | ⟨h,h2⟩
      ·exact .inl h
      ·exact .inr ⟨[c],[],rfl,by simp,by simpa using h,h2⟩
   | c'::cs'=>
     have e:(leastF w (c'::cs')).tail=leastF w cs':=rfl;rw [e];obtain ⟨i1,i2,i3⟩:=best_spec w cs' c' (size+(c.length:Int)) b';refine ⟨by omega,fun a d ha hne hw=>?_,?_⟩
     ·match a,hne with
      | x::a,_=>
        rw [List.cons_append] at ha;obtain ⟨rfl,hn⟩:=List.cons.inj ha;rw [List.flatten_cons,List.length_append] at hw;by_cases h0:a=[]
        ·subst h0
         rw [List.nil_append] at hn;subst hn;have:=hb2 (by simp at hw;omega);omega
        ·exact i2 a d hn h0 (by omega)
     ·rcases i3 with h | ⟨a,d,h1,h2,h3,h4⟩
      ·rcases hb3 with g | ⟨g,g2⟩
       ·exact .inl (h.trans g)
       ·exact .inr ⟨[c],c'::cs',rfl,by simp,by simp;omega,h.trans g2⟩
      ·exact .inr ⟨c::a,d,by rw [h1,List.cons_append],by simp,by rw [List.flatten_cons,List.length_append];omega,h4⟩
theorem lf_best {w:Nat} (hw:4<=w):∀ (n:Nat) {l:List (List UInt8)},Cds l->l.length<=n->l.length<=1000000->∃ k:Nat,lf w l=k/\k<=l.length/\Rows w k l/\∀ j,Rows w j l->k<=j
 | _,[],_,_,_=>⟨0,rfl,Nat.le_refl _,rfl,fun _ _=>Nat.zero_le _⟩
 | n+1,c::cs,hl,h,hm=>by
   have sub:∀ a d,c::cs=a++d->a≠[]->Cds d/\d.length<=n/\d.length+1<=(c::cs).length/\d.length<=1000000:=fun a d e ha=>by
    have e2:=congrArg List.length e;rw [List.length_append] at e2;have:=List.length_pos_iff.2 ha;exact ⟨fun x hx=>hl x (by rw [e];exact List.mem_append_right _ hx),by omega,by omega,by omega⟩
   obtain ⟨b1,b2,b3⟩:=best_spec (w:Int) cs c 0 1048576;have e:lf w (c::cs)=bestY w 0 (c::cs) (leastF w cs) 1048576:=rfl;rw [← e] at b1 b2 b3;obtain ⟨k0,e0,l0,r0,m0⟩:=lf_best hw n (sub [c] cs rfl (by simp)).1 (sub [c] cs rfl (by simp)).2.1 (sub [c] cs rfl (by simp)).2.2.2;have hc:=hl c (List.mem_cons_self ..);have up:=b2 [c] cs rfl (by simp) (by
    have:roomZ cs<=1:=by unfold roomZ;split <;> omega
    simp;omega)
   rw [List.length_cons] at hm;rcases b3 with h' | ⟨a,d,h1,h2,h3,h4⟩
   ·omega
   ·obtain ⟨d1,d2,d3,d4⟩:=sub a d h1 h2
    obtain ⟨k,ek,lk,rk,mk⟩:=lf_best hw n d1 d2 d4;refine ⟨k+1,by rw [h4,ek];omega,by omega,⟨a,d,h1,h2,by omega,rk⟩,fun j hj=>?_⟩;cases j with
    | zero=>cases hj
    | succ j=>
      obtain ⟨p,q,e1,hp,hpw,hq⟩:=hj;obtain ⟨q1,q2,q3,q4⟩:=sub p q e1 hp;obtain ⟨kq,eq,_,_,mq⟩:=lf_best hw n q1 q2 q4;have:=b2 p q e1 hp (by omega);have:=mq j hq;omega
theorem lf_rows {w:Nat} (hw:4<=w) {l:List (List UInt8)} (hl:Cds l) (hne:l≠[]) (hm:l.length<=1000000):lf w l=((rowsZ w l).length:Int):=by
 obtain ⟨k,e,_,r,m⟩:=lf_best hw _ hl (Nat.le_refl _) hm;obtain ⟨r2,m2⟩:=rows_best hw _ hl (Nat.le_refl _) hne;have:=m _ r2;have:=m2 _ r;rw [e];omega
end Go.Proofs
/- ListingFewest, in plain words. -/
namespace Go.Proofs
open Go Go.Ax Go.Ax.Alg
theorem w29_part (N:Nat) (hN:0 < N) (l:List (List UInt8)) (w i s k:Int) (arr:List Int) (hl:l.length<=1000000) (K:List (List UInt8)->Int->Int->Int->Int->Int->List Int->O):
    w29n0 N l w i s k 1 arr K=K l w i s k (if k=(l.length:Int) - 1 then 0 else 1) arr:=by
 obtain ⟨n,rfl⟩:∃ n,N=n+1:=⟨N - 1,by omega⟩
 show w29F0 (n+1) (fun y0 y1 y2 y3 y4 y5 y6=>K y0 y1 y2 y3 y4 y5 y6) l w i s k 1 arr=_;unfold w29F0;rw [wr (by omega) (by omega)];by_cases h:k=(l.length:Int) - 1
 ·rw [decide_eq_true h,br_t,if_pos h]
 ·rw [decide_eq_false h,br_f,if_neg h]
def Tb (l:List Int):Prop:=∀ x ∈ l,0<=x/\x<=1048576
theorem tb_at {l:List Int} (h:Tb l) {i:Nat} {x:Int} (hx:l[i]?=some x):0<=x/\x<=1048576:=h x (List.mem_of_getElem? hx)
theorem tb_set {l:List Int} (h:Tb l) (i:Nat) {x:Int} (h0:0<=x/\x<=1048576):Tb (l.set i x):=fun y hy=>by
 rcases List.mem_or_eq_of_mem_set hy with h1 | h1
 ·exact h y h1
 ·rw [h1];exact h0
theorem w29_loop1 {N:Nat} (hN:0 < N) (k0:List (List UInt8)->Int->Int->List Int->O) (k1 k2:Unit->O) (l:List (List UInt8)) (w:Int) (i:Nat) (hl:l.length<=1000000) (hc:∀ c ∈ l,c.length<=2):∀ (n k:Nat) (s:Int) (arr:List Int) (b:Int),l.length - k < n->k<=l.length->i<=k->arr.length=l.length+1->arr[i]?=some b->Tb arr->0<=s->s<=2 * k->
    w29l1 N n (l,w,(i:Int),s,(k:Int),arr) (fun y=>k0 y.1 y.2.1 y.2.2.1 y.2.2.2) k1 k2=k0 l w i (arr.set i (bestY w s (l.drop k) (arr.drop (k+1)) b))/\0<=bestY w s (l.drop k) (arr.drop (k+1)) b/\bestY w s (l.drop k) (arr.drop (k+1)) b<=1048576
 | 0,k,s,arr,b,h,_,_,_,_,_,_,_=>by omega
 | n+1,k,s,arr,b,h,hk,hik,ha,hb,ht,h0,h1=>by
   have ilt:i < arr.length:=by omega
   have hb2:=tb_at ht hb;show w29F1 N (w29n0 N) _ (fun y0 y1 y2 y3=>k0 y0 y1 y2 y3) l w (i:Int) s (k:Int) arr=_/\_;unfold w29F1;by_cases hlt:k < l.length
   ·have g:=List.getElem?_eq_getElem hlt
    have hcl:=hc _ (List.getElem_mem hlt);have gy:=List.getElem?_eq_getElem (l:=arr) (i:=k+1) (by omega);have hy:=tb_at ht gy;rw [decide_eq_true (show (k:Int) < (l.length:Int) by omega),br_t,gx_at g,wr (by omega) (by omega),w29_part N hN l w i _ k arr hl,drop_at g,drop_at gy];have er:(if (k:Int)=(l.length:Int) - 1 then (0:Int) else 1)=(roomZ (l.drop (k+1)):Int):=by
     unfold roomZ;by_cases h2:k+1=l.length
     ·rw [if_pos (by omega),if_pos (List.drop_eq_nil_of_le (by omega))];rfl
     ·rw [if_neg (by omega),if_neg (fun e=>by have:=congrArg List.length e;rw [List.length_drop,List.length_nil] at this;omega)];rfl
    have hr:roomZ (l.drop (k+1))<=1:=by unfold roomZ;split <;> omega
    generalize hcc:l[k]=c at g hcl ⊢;generalize hyy:arr[k+1]=y at gy hy ⊢;unfold bestY;rw [er,wr (x:=s+_+_) (by omega) (by omega),wr (x:=(k:Int)+1) (by omega) (by omega)];have ck1:(0:Int)<=((k+1:Nat):Int)/\((k+1:Nat):Int) < (arr.length:Int):=by omega
    by_cases hf:s+(c.length:Int)+(roomZ (l.drop (k+1)):Int)<=w
    ·rw [decide_eq_true hf,br_t,if_pos hf,ck_of (decide_eq_true (by omega)),Int.toNat_natCast,gn_of hb,show (k:Int)+1=((k+1:Nat):Int) by omega,ck_of (decide_eq_true ck1),Int.toNat_natCast,gn_of gy,ck_of (decide_eq_true (by omega)),gn_of hb,wr (by omega) (by omega)]
     have ih:=w29_loop1 hN k0 k1 k2 l w i hl hc n (k+1) (s+c.length) (arr.set i (min b (y+1))) (min b (y+1)) (by omega) (by omega) (by omega) (by rw [List.length_set];exact ha) (List.getElem?_set_self ilt) (tb_set ht i (by omega)) (by omega) (by omega);rw [List.drop_set_of_lt (by omega),List.set_set] at ih;exact ih
    ·rw [decide_eq_false hf,br_f,if_neg hf,show (k:Int)+1=((k+1:Nat):Int) by omega]
     exact w29_loop1 hN k0 k1 k2 l w i hl hc n (k+1) (s+c.length) arr b (by omega) (by omega) (by omega) ha hb ht (by omega) (by omega)
   ·rw [decide_eq_false (show ¬ (k:Int) < (l.length:Int) by omega),br_f,List.drop_eq_nil_of_le (by omega)]
    have e:∀ ys,bestY w s [] ys b=b:=fun _=>rfl
    rw [e];refine ⟨?_,hb2⟩;rw [show arr.set i b=arr from by
     obtain ⟨h1,h2⟩:=List.getElem?_eq_some_iff.1 hb;rw [← h2];exact List.set_getElem_self h1]
theorem w29_loop2 {N:Nat} (k0:List Int->O) (k1 k2:Unit->O) (l:List (List UInt8)) (w:Int) (hN:l.length+2 < N) (hl:l.length<=1000000) (hc:∀ c ∈ l,c.length<=2):∀ (n i:Nat) (arr:List Int),i < n->i<=l.length->arr.length=l.length+1->Tb arr->arr.drop i=leastF w (l.drop i)->
    w29l2 N n (l,w,(i:Int) - 1,arr) k0 k1 k2=k0 (leastF w l)
 | 0,i,arr,h,_,_,_,_=>by omega
 | n+1,i,arr,h,hi,ha,ht,hd=>by
   show w29F2 N (w29n0 N) (w29n1 N) _ (fun y0=>k0 y0) l w ((i:Int) - 1) arr=_;unfold w29F2;cases i with
   | zero=>
     rw [decide_eq_false (by omega),br_f];rw [List.drop_zero,List.drop_zero] at hd;rw [hd]
   | succ i=>
     have g:=List.getElem?_eq_getElem (l:=arr) (i:=i) (by omega);have gl:=List.getElem?_eq_getElem (l:=l) (i:=i) (by omega);rw [show ((i+1:Nat):Int) - 1=(i:Int) by omega,decide_eq_true (by omega),br_t,ck_of (decide_eq_true (by omega)),Int.toNat_natCast,gn_of g];unfold w29n1;obtain ⟨h0,h1,h2⟩:=w29_loop1 (N:=N) (by omega) (fun z123 z124 z125 z126=>w29l2 N n (z123,z124,IntKind.i64.wrap (z125 - 1),z126) k0 k1 k2) (fun _=>none) (fun _=>none) l w i hl hc N i 0 (arr.set i 1048576) 1048576 (by omega) (by omega) (Nat.le_refl _) (by rw [List.length_set];exact ha) (List.getElem?_set_self (by omega)) (tb_set ht i (by omega)) (Int.le_refl _) (by omega);refine h0.trans ?_;rw [List.set_set,wr (by omega) (by omega)];rw [List.drop_set_of_lt (by omega),hd] at h1 h2 ⊢;refine w29_loop2 k0 k1 k2 l w hN hl hc n i _ (by omega) (by omega) (by rw [List.length_set];exact ha) (tb_set ht i ⟨h1,h2⟩) ?_;have e:leastF w (l.drop i)=bestY w 0 (l.drop i) (leastF w (l.drop (i+1))) 1048576::leastF w (l.drop (i+1)):=by
      rw [drop_at gl];rfl
     rw [drop_at (List.getElem?_set_self (by omega)),List.drop_set_of_lt (by omega),hd,e]
theorem w29_eq {N:Nat} {l:List (List UInt8)} {w:Int} (hN:l.length+2 < N) (hl:l.length<=1000000) (hc:∀ c ∈ l,c.length<=2):w29z N l w=some (lf w l):=by
 unfold w29z w29 w29G w29n2;rw [wr (x:=(l.length:Int)+1) (by omega) (by omega),wr (x:=(l.length:Int) - 1) (by omega) (by omega),show (l.length:Int)+1=((l.length+1:Nat):Int) by omega,ck_of (decide_eq_true (by omega)),Int.toNat_natCast,ck_of (lim_of (by omega) (by omega))];have h0:=w29_loop2 (fun z127=>ck (decide ((0:Int)<=(0:Int)/\(0:Int) < (z127.length:Int))) <| gn z127 0 fun y128=>some (w29r0 y128)) (fun _=>none) (fun _=>none) l w hN hl hc N l.length (List.replicate (l.length+1) 0) (by omega) (Nat.le_refl _) (by simp) (fun x hx=>by rw [List.eq_of_mem_replicate hx];omega) (by simp [leastF]);refine (congrArg (fun z:O=>z.bind w29un) h0).trans ?_;rw [ck_of (decide_eq_true (by rw [least_len];omega)),gn_of (show (leastF w l)[0]?=some (lf w l) by rw [least_cons];rfl)];rfl
theorem w29_P {N:Nat} {l:List (List UInt8)} {w:Int} (hN:l.length+2 < N) (hl:l.length<=1000000) (hc:∀ c ∈ l,c.length<=2):w29p N l w=true:=by unfold w29p;rw [w29_eq hN hl hc];rfl
theorem w29_Y {N:Nat} {l:List (List UInt8)} {w:Int} (hN:l.length+2 < N) (hl:l.length<=1000000) (hc:∀ c ∈ l,c.length<=2):w29y0 N l w=lf w l:=by unfold w29y0;rw [w29_eq hN hl hc];rfl
theorem flat_one {α β:Type} (f:α->β):∀ l:List α,l.flatMap (fun s=>[f s])=l.map f
 | []=>rfl
 | x::l=>by rw [List.flatMap_cons,flat_one f l];rfl
theorem line_small {s:List UInt8} (hs:s.length<=80) {w:Nat} (hw:4<=w):lf w (lineZ s)=((divZ w s).length:Int):=by
 have:=line_len (s:=s) (by omega);have h1:=line_pos s;exact lf_rows hw (line_cds s) (fun e=>by rw [e] at h1;simp at h1) (by omega)
theorem w6_loop0 {N:Nat} (hN:60000<=N) (k0:Bool->O) (k1:Int->List (List (List UInt8))->Int->O) (k2:Unit->O) (w:Nat) (hw:4<=w) (ls:List (List (List UInt8))) (i:Nat) (l:List (List UInt8)) (hl:ls[i]?=some l) (h64:l.length<=64) (hs:∀ s ∈ l,s.length<=80):∀ (n k:Nat),l.length - k < n->k<=l.length->
    w6l0 N n ((w:Int),ls,(i:Int),l.map (fun s=>((divZ w s).length:Int)),(k:Int)) k0 (fun y=>k1 y.1 y.2.1 y.2.2) k2=k1 w ls i
 | 0,k,h,_=>by omega
 | n+1,k,h,hk=>by
   show w6F0 N _ (fun y0=>k0 y0) (fun y0 y1 y2=>k1 y0 y1 y2) (w:Int) ls (i:Int) (l.map _) (k:Int)=_;unfold w6F0;by_cases hlt:k < l.length
   ·have g:=List.getElem?_eq_getElem hlt
    have hsl:=hs _ (List.getElem_mem hlt);generalize l[k]=s at g hsl;have g2:(l.map (fun s=>((divZ w s).length:Int)))[k]?=some ((divZ w s).length:Int):=by rw [List.getElem?_map,g];rfl
    have hll:=line_len (s:=s) (by omega);have hc:∀ c ∈ lineZ s,c.length<=2:=fun c h=>(line_cds s c h).2
    rw [decide_eq_true (by rw [List.length_map];omega),br_t,gx_at g2,gx_at hl,gx_at g,ck_of (w30_P (by omega) (by omega)),w30_Y (by omega) (by omega),ck_of (w29_P (by omega) (by omega) hc),w29_Y (by omega) (by omega) hc,line_small hsl hw,decide_eq_false (fun h=>h rfl),br_f,wr (by omega) (by omega)];exact w6_loop0 hN k0 k1 k2 w hw ls i l hl h64 hs n (k+1) (by omega) (by omega)
   ·rw [decide_eq_false (by rw [List.length_map];omega),br_f]
theorem w6_loop1 {N:Nat} (hN:60000<=N) (k0:Bool->O) (k1 k2:Unit->O) (w:Nat) (hw:4<=w) (ls:List (List (List UInt8))) (h2:ls.length=2) (hok:∀ l ∈ ls,Lst N l):∀ (n i:Nat),2 - i < n->i<=2->
    w6l1 N n ((w:Int),ls,(i:Int)) k0 k1 k2=k1 ()
 | 0,i,h,_=>by omega
 | n+1,i,h,hi=>by
   show w6F1 N (w6n0 N) _ (fun y0=>k0 y0) (fun _=>k1 ()) (w:Int) ls (i:Int)=_;unfold w6F1 w6n0;by_cases hlt:i < 2
   ·have g:=List.getElem?_eq_getElem (l:=ls) (i:=i) (by omega)
    have hl:=hok _ (List.getElem_mem (l:=ls) (n:=i) (by omega));generalize ls[i]=l at g hl;obtain ⟨o1,o2,o3⟩:=hl;rw [decide_eq_true (by omega),br_t,gx_at g,ck_of (w21_P (by omega) o1 o2 o3),w21_Y1 (by omega) o1 o2 o3,w21_Y0 (by omega) o1 o2 o3,wr (by omega) (by omega)];by_cases hf:fitsZ l (w:Int)=0
    ·obtain ⟨f1,f2,_,_,_⟩:=fits_ok hf
     have e:lnsZ l (w:Int)=(l.map (fun s=>((divZ w s).length:Int)),0):=by unfold lnsZ;rw [if_pos hf,Int.toNat_natCast,flat_one]
     rw [e,decide_eq_false (fun h=>h rfl),br_f,gx_at g,decide_eq_false (by rw [List.length_map];exact fun h=>h rfl),br_f];refine (w6_loop0 hN (fun z45=>k0 z45) (fun z46 z47 z48=>w6l1 N n (z46,z47,IntKind.i64.wrap (z48+1)) k0 k1 k2) (fun _=>none) w hw ls i l g f1 f2 N 0 (by omega) (Nat.zero_le _)).trans ?_;rw [wr (by omega) (by omega)];exact w6_loop1 hN k0 k1 k2 w hw ls h2 hok n (i+1) (by omega) (by omega)
    ·have e:lnsZ l (w:Int)=([],fitsZ l w):=by unfold lnsZ;rw [if_neg hf]
     rw [e,decide_eq_true hf,br_t];exact w6_loop1 hN k0 k1 k2 w hw ls h2 hok n (i+1) (by omega) (by omega)
   ·rw [decide_eq_false (by omega),br_f]
theorem law6 {N:Nat} (hN:60000<=N) {l:List Int} {raw:List UInt8} {x:Int} (hl:Okl l) (hx:I64 x):w6z N l raw x=some true:=by
 obtain ⟨a,am,vp,vy,wp,wy⟩:=v18_get hN hl raw;have ha:=am.1;have har:=around_lt (n:=x) (m:=20) (by omega);obtain ⟨v,hv⟩:∃ v:Nat,4+aroundZ x 20=v:=⟨(4+aroundZ x 20).toNat,by omega⟩
 unfold w6z w6 w6G w6n1;rw [ck_of (w14_P N hx),ck_of wp,wy,w14_Y N hx,wr (by omega) (by omega),hv];have made:∀ s ∈ a,s.length<=1000000/\s.length < N:=fun s hs=>by have:=(am.2 s hs).1;omega
 have h0:=w6_loop1 hN (fun z49=>some (w6r0 z49)) (fun _=>ck true <| some (w6r0 true)) (fun _=>none) v (by omega) [a,a++[raw.take 90]] rfl (fun l hl=>by
  simp only [List.mem_cons,List.not_mem_nil,or_false] at hl;rcases hl with rfl | rfl
  ·exact ⟨by omega,by omega,made⟩
  ·refine ⟨by simp;omega,by simp;omega,fun s hs=>?_⟩
   rcases List.mem_append.1 hs with h | h
   ·exact made s h
   ·rw [List.mem_singleton.1 h,List.length_take];omega) N 0 (by omega) (Nat.zero_le _)
 exact congrArg (fun z:O=>z.bind w6un) h0
end Go.Proofs
