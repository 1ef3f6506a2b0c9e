/- Unwrapping. Conditions are in the theorems. -/
import Derived.Test.YtlhdefefoaldfaaGreatDoorG8
import Derived.Test.YtlhdefefoaldfaaGreatDoorG9
import Derived.Test.YtlhdefefoaldfaaGreatDoorG2
/- Unwrapping: what both do. -/
namespace Go.Proofs
open Go Go.Ax Go.Ax.Alg
def joinP:List Tx->Tx
 | []=>[]
 | r::p=>r++(p.map (List.drop 2)).flatten
def restP (p:List Tx):Tx:=(p.map (List.drop 2)).flatten
def sumL:List Tx->Nat
 | []=>0
 | r::p=>r.length+sumL p
theorem rest_len:∀ (p:List Tx),(restP p).length<=sumL p
 | []=>Nat.le_refl _
 | r::p=>by
   have:=rest_len p
   unfold restP at *
   simp only [List.map_cons,List.flatten_cons,List.length_append,List.length_drop,sumL]
   omega
theorem join_len (p:List Tx):(joinP p).length<=sumL p:=by
 cases p with
 | nil=>exact Nat.le_refl _
 | cons r p=>
   have:=rest_len p
   unfold restP at this
   unfold joinP
   rw [List.length_append]
   simp only [sumL]
   omega
def indR (r:Tx):Bool:=decide (r.take 2=[0,0])
theorem ind_two {r:Tx} (h:indR r=true):2<=r.length:=by
 have h1:=congrArg List.length (of_decide_eq_true h)
 rw [List.length_take] at h1
 simp at h1
 omega
theorem drop_take {l:Tx} {f t:Nat} (h1:f<=t):(l.take t).drop f++l.drop t=l.drop f:=by
 conv=>rhs;rw [← List.take_append_drop t l]
 by_cases h:t<=l.length
 ·rw [List.drop_append_of_le_length (by rw [List.length_take];omega)]
 ·rw [List.drop_eq_nil_of_le (show l.length<=t by omega),List.append_nil,List.append_nil]
theorem wrap_parts {l:Tx} {ps:List Int} {w:Int} (hp:∀ p ∈ ps,p<=(l.length:Int)):∀ (n f:Nat) (out p:List Tx),0 < f->f<=l.length->l.length - f<=n->wrapP l ps w n f out=some p->
    ∃ q,p=out++q/\restP q=l.drop f/\(∀ r ∈ q,indR r=true/\(r.length:Int)<=w)/\sumL q<=l.length - f+2 * n
 | 0,f,out,p,h0,hf,hn,h=>by
   unfold wrapP at h
   cases h
   exact ⟨[],by simp,by rw [List.drop_eq_nil_of_le (by omega)];rfl,by simp,by simp [sumL]⟩
 | n+1,f,out,p,h0,hf,hn,h=>by
   unfold wrapP at h
   by_cases hlt:f < l.length
   ·rw [if_pos hlt] at h
    have hge:=next_ge (ps:=ps) (w:=w) (f:=f)
    have hle:=next_le (ps:=ps) (w:=w) hf hp
    by_cases h2:nextP ps w f<=f
    ·rw [if_pos h2] at h;cases h
    ·rw [if_neg h2] at h
     obtain ⟨q,e1,e2,e3,e4⟩:=wrap_parts hp n _ _ p (by omega) hle (by omega) h
     have hi:=next_i (ps:=ps) (w:=w) (f:=f)
     have hx:=to_or (w:=w) (ll:=((indE f).length:Int)) (f:=(f:Int)) ps f
     have hind:indE f=[0,0]:=by unfold indE;rw [if_pos h0]
     have hll:(lineP l f (nextP ps w f)).length=2+(nextP ps w f - f):=by
      unfold lineP
      rw [hind]
      simp only [List.length_append,List.length_cons,List.length_nil,List.length_drop,List.length_take]
      omega
     refine ⟨lineP l f (nextP ps w f)::q,by rw [e1];simp,?_,?_,?_⟩
     ·unfold restP at *
      rw [List.map_cons,List.flatten_cons,e2]
      unfold lineP
      rw [hind]
      show (l.take _).drop f++_=_
      exact drop_take hge
     ·intro r hr
      rcases List.mem_cons.1 hr with rfl | hr
      ·refine ⟨by unfold lineP;rw [hind];rfl,?_⟩
       rw [hll]
       rw [hind] at hi hx
       rcases hx with hx | ⟨_,_,hx⟩
       ·omega
       ·simp only [List.length_cons,List.length_nil] at hx hi
        omega
      ·exact e3 r hr
     ·simp only [sumL]
      omega
   ·rw [if_neg hlt] at h
    cases h
    exact ⟨[],by simp,by rw [List.drop_eq_nil_of_le (by omega)];rfl,by simp,by simp [sumL]⟩
theorem wrap_page {l:Tx} {ps:List Int} {w:Int} (hp:∀ p ∈ ps,p<=(l.length:Int)) (hl:0 < l.length) {p:List Tx} (h:wrapP l ps w l.length 0 []=some p):
    ∃ r q,p=r::q/\joinP p=l/\(r.length:Int)<=w/\(∀ x ∈ q,indR x=true/\(x.length:Int)<=w)/\sumL p<=3 * l.length:=by
 obtain ⟨n,hn⟩:∃ n,l.length=n+1:=⟨l.length - 1,by omega⟩
 rw [hn] at h
 unfold wrapP at h
 rw [if_pos (by omega)] at h
 have hle:=next_le (ps:=ps) (w:=w) (f:=0) (Nat.zero_le _) hp
 by_cases h2:nextP ps w 0<=0
 ·rw [if_pos h2] at h;cases h
 ·rw [if_neg h2] at h
  obtain ⟨q,e1,e2,e3,e4⟩:=wrap_parts hp n _ _ p (by omega) hle (by omega) h
  have hi:=next_i (ps:=ps) (w:=w) (f:=0)
  have hx:=to_or (w:=w) (ll:=((indE 0).length:Int)) (f:=((0:Nat):Int)) ps ((0:Nat):Int)
  have hli:lineP l 0 (nextP ps w 0)=l.take (nextP ps w 0):=rfl
  have hll:(l.take (nextP ps w 0)).length=nextP ps w 0:=by rw [List.length_take];omega
  rw [hli] at e1
  refine ⟨l.take (nextP ps w 0),q,by rw [e1];rfl,?_,?_,e3,?_⟩
  ·rw [e1]
   show l.take _++restP q=l
   rw [e2,List.take_append_drop]
  ·rw [hll]
   have h0:((indE 0).length:Int)=0:=rfl
   rw [h0] at hi hx
   rcases hx with hx | ⟨_,_,hx⟩
   ·omega
   ·omega
  ·rw [e1]
   simp only [List.nil_append,List.singleton_append,sumL]
   omega
theorem plac_le {e:Ex}:∀ p ∈ placE e,p<=((encE e).length:Int):=fun p h=>(plac_in p h).2
theorem wrapE_page {e:Ex} {w:Int} {p:List Tx} (h:wrapE e w=(p,0)):validE e=0/\4<=w/\w<=40/\∃ r q,p=r::q/\joinP p=encE e/\(r.length:Int)<=w/\(∀ x ∈ q,indR x=true/\(x.length:Int)<=w)/\sumL p<=3 * (encE e).length:=by
 unfold wrapE at h
 by_cases hv:validE e=0
 ·rw [if_pos hv] at h
  by_cases hw:w < 4\/40 < w
  ·rw [if_pos hw] at h
   have:=congrArg Prod.snd h
   exact absurd (show (5:Int)=0 from this) (by decide)
  ·rw [if_neg hw] at h
   have hl:0 < (encE e).length:=by rw [encE_v hv];simp
   cases hq:wrapP (encE e) (placE e) w (encE e).length 0 [] with
   | none=>
     rw [hq] at h
     have:=congrArg Prod.snd h
     exact absurd (show (14:Int)=0 from this) (by decide)
   | some p'=>
     rw [hq] at h
     have:p'=p:=congrArg Prod.fst h
     subst this
     exact ⟨hv,by omega,by omega,wrap_page plac_le hl hq⟩
 ·rw [if_neg hv] at h
  exact absurd (congrArg Prod.snd h) hv
def isPg (p:List Tx) (e:Ex):Prop:=∃ w:Int,wrapE e w=(p,0)
theorem isPg_one {p:List Tx} {e f:Ex} (h1:isPg p e) (h2:isPg p f):e=f:=by
 obtain ⟨w,h1⟩:=h1
 obtain ⟨w',h2⟩:=h2
 obtain ⟨v1,_,_,_,_,_,j1,_⟩:=wrapE_page h1
 obtain ⟨v2,_,_,_,_,_,j2,_⟩:=wrapE_page h2
 exact enc_inj (N:=70000) (by omega) v1 v2 (j1.symm.trans j2)
theorem w48_loop {N:Nat} {a b:List Tx} (hl:a.length<=2 ^ 40) {K:Bool->O} {k1 k2:Unit->O}:∀ (r r' pre pre':List Tx) (m:Nat),a=pre++r->b=pre'++r'->pre.length=pre'.length->r.length=r'.length->r.length < m->
    w48l0 N m (b,a,(a.length:Int),(pre.length:Int)) K k1 k2=if r=r' then k1 () else K false
 | _,_,_,_,0,_,_,_,_,h=>by omega
 | [],r',pre,pre',m+1,ha,_,_,hq,_=>by
   show w48F0 _ _ _ _ _ _ _ _=_
   unfold w48F0
   simp only []
   have h0:a.length=pre.length:=by rw [ha];simp
   have h1:r'=[]:=List.eq_nil_of_length_eq_zero hq.symm
   rw [decide_eq_false (by omega),br_f,h1,if_pos rfl]
 | x::r,[],_,_,_,_,_,_,h,_=>by simp at h
 | x::r,y::r',pre,pre',m+1,ha,hb,hp,hq,hm=>by
   have hlt:pre.length < a.length:=by rw [ha];simp
   have hg:a[pre.length]?=some x:=by rw [ha,List.getElem?_append_right (Nat.le_refl _)];simp
   have hg':b[pre.length]?=some y:=by rw [hb,hp,List.getElem?_append_right (Nat.le_refl _)];simp
   show w48F0 _ _ _ _ _ _ _ _=_
   unfold w48F0
   simp only []
   rw [decide_eq_true (by omega),br_t,gx_at hg,gx_at hg',ck_of w43_p,w43_y0]
   by_cases h:x=y
   ·subst h
    rw [decide_eq_true rfl,Bool.not_true,br_f,wr (by omega) (by omega)]
    have ih:=w48_loop (N:=N) (a:=a) (b:=b) hl (K:=K) (k1:=k1) (k2:=k2) r r' (pre++[x]) (pre'++[x]) m (by rw [ha];simp) (by rw [hb];simp) (by simp [hp]) (by simpa using hq) (by simp at hm;omega)
    have hpl:((pre++[x]).length:Int)=(pre.length:Int)+1:=by simp
    rw [hpl] at ih
    refine ih.trans ?_
    simp
   ·rw [decide_eq_false h,Bool.not_false,br_t,if_neg (by simp [h])]
theorem w48_z {N:Nat} {a b:List Tx} (hl:a.length<=2 ^ 40) (hN:a.length < N):w48z N a b=some (decide (a=b)):=by
 unfold w48z w48 w48G w48n0
 by_cases h:a.length=b.length
 ·rw [decide_eq_false (by simp [h]),br_f]
  refine (congrArg (fun z:O=>z.bind w48un) (w48_loop (N:=N) hl a b [] [] N rfl rfl rfl h hN)).trans ?_
  by_cases hab:a=b
  ·rw [if_pos hab,decide_eq_true hab];rfl
  ·rw [if_neg hab,decide_eq_false hab];rfl
 ·rw [decide_eq_true (by omega),br_t,decide_eq_false (fun e=>h (by rw [e]))];rfl
theorem w48_p {N:Nat} {a b:List Tx} (hl:a.length<=2 ^ 40) (hN:a.length < N):w48p N a b=true:=by unfold w48p;rw [w48_z hl hN];rfl
theorem w48_y0 {N:Nat} {a b:List Tx} (hl:a.length<=2 ^ 40) (hN:a.length < N):w48y0 N a b=decide (a=b):=by unfold w48y0;rw [w48_z hl hN];rfl
section
variable {N:Nat} (hN:70000<=N) {p:List Tx} (hl:p.length<=60000) (hr:∀ r ∈ p,r.length<=60000) {e:Ex} (hs:sizeE e<=8500)
include hN hl hs
open Classical in
theorem w27_ws {a b:Int} {K:Int×Int×Int×(List Ex)->O} {k1:Int×Int->O} {k2:Unit->O}:∀ (n:Nat) (w:Int) (m:Nat),w+n=41->4<=w->n < m->
    w27l1 N m (p,w,a,b,e.op,e.num,e.kids) K k1 k2=if (∃ v:Int,w<=v/\wrapE e v=(p,0)) then K (0,e.op,e.num,e.kids) else k1 (a,b)
 | _,_,0,_,_,h=>by omega
 | 0,w,m+1,hw,_,_=>by
   have:w=41:=by omega
   subst this
   show w27F1 _ _ _ _ _ _ _ _ _ _ _=_
   unfold w27F1
   simp only []
   rw [decide_eq_false (by omega),br_f,if_neg (fun ⟨v,h1,h2⟩=>by have:=(wrapE_page h2).2.2.1;omega)]
 | n+1,w,m+1,hw,h4,hm=>by
   have p48:=w48_p (N:=N) (a:=p) (b:=(wrapE e w).1) (by omega) (by omega)
   have y48:=w48_y0 (N:=N) (a:=p) (b:=(wrapE e w).1) (by omega) (by omega)
   have ih:=w27_ws (a:=a) (b:=b) (K:=K) (k1:=k1) (k2:=k2) n (w+1) m (by omega) (by omega) (by omega)
   show w27F1 _ _ _ _ _ _ _ _ _ _ _=_
   unfold w27F1
   simp only [Ex.eta,w24_p hN hs,w24_y0 hN hs,w24_y1 hN hs,p48,y48,ck_t,Bool.or_true]
   rw [decide_eq_true (by omega),br_t]
   by_cases h:wrapE e w=(p,0)
   ·rw [h]
    simp only [decide_true,Bool.and_self,br_t]
    rw [if_pos ⟨w,Int.le_refl _,h⟩]
   ·have hc:(decide ((wrapE e w).2=0)&&decide (p=(wrapE e w).1))=false:=by
     rw [← Bool.decide_and]
     exact decide_eq_false (fun hh=>h (by rw [hh.2,← hh.1]))
    rw [hc,br_f,wr (by omega) (by omega),ih]
    by_cases hx:∃ v:Int,w+1<=v/\wrapE e v=(p,0)
    ·rw [if_pos hx,if_pos (by obtain ⟨v,h1,h2⟩:=hx;exact ⟨v,by omega,h2⟩)]
    ·rw [if_neg hx,if_neg (fun ⟨v,h1,h2⟩=>by
      rcases Int.lt_or_eq_of_le h1 with h3 | h3
      ·exact hx ⟨v,by omega,h2⟩
      ·subst h3;exact h h2)]
include hr
end
end Go.Proofs
/- Unwrapping; the law on it. -/
namespace Go.Proofs
open Go Go.Ax Go.Ax.Alg
open Classical in
noncomputable def unF (p:List Tx):Int×Int×List Ex×Int:=if h:∃ e,isPg p e then (h.choose.op,h.choose.num,h.choose.kids,0) else (0,0,[],2)
theorem unF_ok {p:List Tx} {e:Ex} (h:isPg p e):unF p=(e.op,e.num,e.kids,0):=by
 have hx:∃ e,isPg p e:=⟨e,h⟩
 unfold unF
 rw [dif_pos hx,isPg_one hx.choose_spec h]
theorem unF_no {p:List Tx} (h:¬ ∃ e,isPg p e):unF p=(0,0,[],2):=by unfold unF;rw [dif_neg h]
theorem dcdF_enc {e:Ex} (hv:validE e=0):dcdF (encE e)=(e.op,e.num,e.kids,((encE e).length:Int),0):=by
 have hel:=enc_len (e:=e)
 have h1:=w20_ok (N:=70000) (by omega) hv [] (by simp)
 rw [List.append_nil] at h1
 exact Option.some.inj ((w20_a (N:=70000) (by omega) (l:=encE e) (by omega)).symm.trans h1)
theorem pg_dec {p:List Tx} {e:Ex} (h:isPg p e):validE e=0/\dcdF (joinP p)=(e.op,e.num,e.kids,((joinP p).length:Int),0)/\∃ r q,p=r::q/\(∀ x ∈ q,indR x=true)/\∀ x ∈ p,x.length<=40:=by
 obtain ⟨w,h⟩:=h
 obtain ⟨hv,_,hw,r,q,hp,hj,h1,h2,_⟩:=wrapE_page h
 refine ⟨hv,by rw [hj];exact dcdF_enc hv,r,q,hp,fun x hx=>(h2 x hx).1,fun x hx=>?_⟩
 rw [hp] at hx
 rcases List.mem_cons.1 hx with rfl | hx
 ·omega
 ·have:=(h2 x hx).2;omega
def mostP:Int->List Tx->Int
 | m,[]=>m
 | m,r::p=>mostP (max m (r.length:Int)) p
theorem most_le {B:Int}:∀ (p:List Tx) (m:Int),m<=B->(∀ r ∈ p,(r.length:Int)<=B)->mostP m p<=B
 | [],_,h,_=>h
 | r::p,m,h,hp=>by
   unfold mostP
   exact most_le p _ (by have:=hp r (List.mem_cons_self ..);omega) (fun x hx=>hp x (List.mem_cons_of_mem _ hx))
theorem rest_cons (r:Tx) (p:List Tx):restP (r::p)=r.drop 2++restP p:=by unfold restP;rw [List.map_cons,List.flatten_cons]
theorem ind_walk (r:Tx) {k:Bool->O}:(gc (!decide ((r.length:Int) < 2)) 0 r 0 fun y11=>gc (!(decide ((r.length:Int) < 2)||decide (y11≠0))) 0 r 1 fun y12=>k (decide ((r.length:Int) < 2)||decide (y11≠0)||decide (y12≠0)))=k (!indR r):=by
 match r with
 | []=>rfl
 | [a]=>
   rw [decide_eq_true (show (([a]:Tx).length:Int) < 2 by simp)]
   rw [show indR [a]=false from decide_eq_false (by simp)]
   rfl
 | a::b::t=>
   have g0:(a::b::t)[0]?=some a:=rfl
   have g1:(a::b::t)[1]?=some b:=rfl
   have e0:((0:Nat):Int)=0:=rfl
   have e1:((1:Nat):Int)=1:=rfl
   rw [decide_eq_false (show ¬ (((a::b::t:Tx)).length:Int) < 2 by simp;omega)]
   have q0:=fun (c:Bool) (z:UInt8) (k:UInt8->O)=>gc_at (c:=c) (z:=z) g0 k
   have q1:=fun (c:Bool) (z:UInt8) (k:UInt8->O)=>gc_at (c:=c) (z:=z) g1 k
   rw [e0] at q0
   rw [e1] at q1
   rw [q0,q1]
   have:indR (a::b::t)=(decide (a=0)&&decide (b=0)):=by
    unfold indR
    rw [← Bool.decide_and]
    congr 1
    simp
   rw [this]
   by_cases ha:a=0
   ·subst ha
    by_cases hb:b=0
    ·subst hb;rfl
    ·simp [hb]
   ·simp [ha]
section
variable {N:Nat} {p:List Tx} (hl:p.length<=60000) (hr:sumL p<=60000) (hN:70000<=N)
include hl hr
omit hr in
theorem w27_join {z:Int} {K:Int×Int×Int->O} {k1:(List Tx)×Int×Int×Int×Tx->O} {k2:Unit->O}:∀ (q pre:List Tx) (most:Int) (acc:Tx) (m:Nat),p=pre++q->0 < pre.length->acc.length+sumL q<=60000->q.length < m->
    w27l0 N m (p,z,most,p,(p.length:Int),(pre.length:Int),0,0,acc) K k1 k2=if (∀ r ∈ q,indR r=true) then k1 (p,mostP most q,0,0,acc++restP q) else K (2,0,0)
 | _,_,_,_,0,_,_,_,h=>by omega
 | [],pre,most,acc,m+1,hp,_,_,_=>by
   show w27F0 _ _ _ _ _ _ _ _ _ _ _ _ _=_
   unfold w27F0
   simp only []
   have h0:p.length=pre.length:=by rw [hp];simp
   rw [decide_eq_false (by omega),br_f,if_pos (by simp)]
   unfold restP mostP
   simp
 | r::q,pre,most,acc,m+1,hp,h0,ha,hm=>by
   have hlt:pre.length < p.length:=by rw [hp];simp
   have hg:p[pre.length]?=some r:=by rw [hp,List.getElem?_append_right (Nat.le_refl _)];simp
   simp only [sumL] at ha
   show w27F0 _ _ _ _ _ _ _ _ _ _ _ _ _=_
   unfold w27F0
   simp only []
   rw [decide_eq_true (by omega),br_t,gx_at hg,decide_eq_true (show (0:Int) < (pre.length:Int) by omega),br_t]
   refine (ind_walk r (k:=fun b=>br b _ _)).trans ?_
   by_cases h:indR r=true
   ·have h2:=ind_two h
    have hs:slc r (some 2) none=r.drop 2:=rfl
    rw [h,Bool.not_true,br_f,ck_of (slcOk_f (by omega) (by omega)),hs,ck_of (limb (by simp;omega) (by omega)),wr (by omega) (by omega)]
    have ih:=w27_join (z:=z) (K:=K) (k1:=k1) (k2:=k2) q (pre++[r]) (max most (r.length:Int)) (acc++r.drop 2) m (by rw [hp];simp) (by simp) (by simp;omega) (by simp at hm;omega)
    have hpl:((pre++[r]).length:Int)=(pre.length:Int)+1:=by simp
    rw [hpl] at ih
    refine ih.trans ?_
    rw [rest_cons,List.append_assoc]
    by_cases hq:∀ x ∈ q,indR x=true
    ·rw [if_pos hq,if_pos (fun x hx=>by
      rcases List.mem_cons.1 hx with rfl | hx
      ·exact h
      ·exact hq x hx)]
     rfl
    ·rw [if_neg hq,if_neg (fun hh=>hq (fun x hx=>hh x (List.mem_cons_of_mem _ hx)))]
   ·have hf:indR r=false:=by simpa using h
    rw [hf,Bool.not_false,br_t,if_neg (fun hh=>h (hh r (List.mem_cons_self ..)))]
include hN
theorem w27_a:w27z N p=some (unF p):=by
 have hjl:=join_len p
 have z20:=w20_a hN (l:=joinP p) (by omega)
 have p20:w20p N (joinP p)=true:=by unfold w20p;rw [z20];rfl
 have y3:w20y3 N (joinP p)=(dcdF (joinP p)).2.2.2.1:=by unfold w20y3;rw [z20];rfl
 have y4:w20y4 N (joinP p)=(dcdF (joinP p)).2.2.2.2:=by unfold w20y4;rw [z20];rfl
 obtain ⟨e,e1,e2,e3,hsz,hok⟩:=dcdF_e (joinP p)
 have y0:w20y0 N (joinP p)=e.op:=by unfold w20y0;rw [z20];exact e1
 have y1:w20y1 N (joinP p)=e.num:=by unfold w20y1;rw [z20];exact e2
 have y2:w20y2 N (joinP p)=e.kids:=by unfold w20y2;rw [z20];exact e3
 have pgE:∀ f,isPg p f->f=e/\(dcdF (joinP p)).2.2.2.2=0/\(dcdF (joinP p)).2.2.2.1=((joinP p).length:Int):=fun f hf=>by
  obtain ⟨_,hd,_⟩:=pg_dec hf
  rw [hd] at e1 e2 e3 ⊢
  exact ⟨by rw [← Ex.eta f,← Ex.eta e,← e1,← e2,← e3],rfl,rfl⟩
 obtain ⟨M,rfl⟩:∃ M,N=M+1:=⟨N - 1,by omega⟩
 unfold w27z w27 w27G w27n0
 have key:∀ (mo:Int),((∃ f,isPg p f)->mo<=40)->Option.bind (ck (w20p (M+1) (joinP p)) <|
     br (decide (w20y4 (M+1) (joinP p)≠(0:Int))||decide (w20y3 (M+1) (joinP p)≠((joinP p).length:Int))||decide ((40:Int) < mo))
      (some (w27r0 ((0:Int)) ((0:Int)) [] ((2:Int))))
      (w27n1 (M+1) p ((4:Int)) 0 0 (w20y0 (M+1) (joinP p)) (w20y1 (M+1) (joinP p)) (w20y2 (M+1) (joinP p))
       (fun z22 z23 z24 z25=>
        some (w27r0 ((Ex.mk z23 z24 z25).op) ((Ex.mk z23 z24 z25).num) ((Ex.mk z23 z24 z25).kids) z22))
       (fun _ _=>
        some (w27r0 ((0:Int)) ((0:Int)) [] ((2:Int)))))) w27un=some (unF p):=fun mo hmo=>by
  rw [ck_of p20,y0,y1,y2,y3,y4]
  by_cases hc:(dcdF (joinP p)).2.2.2.2=0/\(dcdF (joinP p)).2.2.2.1=((joinP p).length:Int)/\mo<=40
  ·obtain ⟨c1,c2,c3⟩:=hc
   rw [c1,c2,decide_eq_false (show ¬ 40 < mo by omega)]
   simp only [ne_eq,not_true_eq_false,decide_false,Bool.or_self,br_f]
   unfold w27n1
   rw [w27_ws hN hl (by omega) 37 4 (M+1) rfl (by omega) (by omega)]
   by_cases hx:∃ v:Int,4<=v/\wrapE e v=(p,0)
   ·rw [if_pos hx]
    obtain ⟨v,_,hx⟩:=hx
    rw [unF_ok ⟨v,hx⟩]
    rfl
   ·rw [if_neg hx,unF_no (fun ⟨f,hf⟩=>by
     have:=(pgE f hf).1
     subst this
     obtain ⟨v,hv⟩:=hf
     exact hx ⟨v,(wrapE_page hv).2.1,hv⟩)]
    rfl
  ·have hcb:(decide ((dcdF (joinP p)).2.2.2.2≠0)||decide ((dcdF (joinP p)).2.2.2.1≠((joinP p).length:Int))||decide (40 < mo))=true:=by
    rw [← Bool.decide_or,← Bool.decide_or]
    refine decide_eq_true ?_
    by_cases c1:(dcdF (joinP p)).2.2.2.2=0
    ·by_cases c2:(dcdF (joinP p)).2.2.2.1=((joinP p).length:Int)
     ·refine .inr ?_
      have:¬ mo<=40:=fun h=>hc ⟨c1,c2,h⟩
      omega
     ·exact .inl (.inr c2)
    ·exact .inl (.inl c1)
   rw [hcb,br_t,unF_no (fun ⟨f,hf⟩=>hc ⟨(pgE f hf).2.1,(pgE f hf).2.2,hmo ⟨f,hf⟩⟩)]
   rfl
 cases p with
 | nil=>
   unfold w27l0
   simp only []
   unfold w27F0
   exact key 0 (fun _=>by omega)
 | cons r q=>
   unfold w27l0
   simp only []
   unfold w27F0
   simp only [sumL,List.length_cons] at hr hl
   rw [decide_eq_true (by simp only [List.length_cons];omega),br_t,show ((0:Int))=((0:Nat):Int) from rfl,gx_at (l:=r::q) (i:=0) rfl]
   rw [decide_eq_false (by omega),br_f,List.nil_append,ck_of (limb (by omega) (by omega)),wr (by omega) (by omega)]
   rw [show ((0:Nat):Int)+1=(([r]:List Tx).length:Int) from rfl]
   refine (congrArg (fun z:O=>z.bind w27un) (w27_join (N:=M+1) (p:=r::q) (by simp only [List.length_cons];omega) q [r] (max 0 (r.length:Int)) r M rfl (by simp) (by omega) (by omega))).trans ?_
   by_cases hq:∀ x ∈ q,indR x=true
   ·rw [if_pos hq]
    refine key (mostP (max 0 (r.length:Int)) q) (fun ⟨f,hf⟩=>?_)
    obtain ⟨_,_,_,_,_,_,h40⟩:=pg_dec hf
    have h40':=fun x hx=>h40 x hx
    exact most_le _ _ (by have:=h40 r (List.mem_cons_self ..);omega) (fun x hx=>by have:=h40 x (List.mem_cons_of_mem _ hx);omega)
   ·rw [if_neg hq,unF_no (fun ⟨f,hf⟩=>by
     obtain ⟨_,_,r',q',hpq,hi,_⟩:=pg_dec hf
     cases hpq
     exact hq hi)]
    rfl
end
end Go.Proofs
