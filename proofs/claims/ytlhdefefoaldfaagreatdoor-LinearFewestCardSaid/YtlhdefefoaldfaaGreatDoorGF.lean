/- The fewest lines; the law in plain words. Conditions are in the theorems. -/
import Derived.Test.YtlhdefefoaldfaaGreatDoorG8
import Derived.Test.YtlhdefefoaldfaaGreatDoorGU
import Derived.Test.YtlhdefefoaldfaaGreatDoorG2
import Derived.Test.YtlhdefefoaldfaaGreatDoorF6
import Derived.Test.YtlhdefefoaldfaaGreatDoorG1
import Derived.Test.YtlhdefefoaldfaaGreatDoorE7
/- The fewest lines: plain. -/
namespace Go.Proofs
open Go Go.Ax Go.Ax.Alg
def Inc:Int->List Int->Prop
 | _,[]=>True
 | lo,p::ps=>lo < p/\Inc p ps
theorem inc_mem:∀ (ps:List Int) (lo x:Int),Inc lo ps->x ∈ ps->lo < x
 | p::ps,lo,x,h,hx=>by
   rcases List.mem_cons.1 hx with rfl | hx
   ·exact h.1
   ·have:=inc_mem ps p x h.2 hx
    have:=h.1
    omega
theorem inc_weak:∀ (ps:List Int) (lo lo':Int),lo'<=lo->Inc lo ps->Inc lo' ps
 | [],_,_,_,_=>trivial
 | p::ps,lo,lo',h,hi=>⟨by have:=hi.1;omega,hi.2⟩
theorem inc_brk:∀ (s:Tx) (a:UInt8) (n:Nat),Inc n (brkP a n s)
 | [],_,_=>trivial
 | c::s,a,n=>by
   have hce:=(code_len [c] a).1
   simp only [codeP,List.append_nil,List.length_cons,List.length_nil] at hce
   have ih:=inc_brk s c (n+(cellP a c).length)
   unfold brkP
   split
   ·exact ⟨by omega,ih⟩
   ·exact inc_weak _ _ _ (by omega) ih
theorem inc_app:∀ (ps:List Int) (lo x:Int),Inc lo ps->(∀ p ∈ ps,p < x)->lo < x->Inc lo (ps++[x])
 | [],_,_,_,_,h=>⟨h,trivial⟩
 | p::ps,_,x,h,hp,_=>⟨h.1,inc_app ps p x h.2 (fun q hq=>hp q (List.mem_cons_of_mem _ hq)) (hp p (List.mem_cons_self ..))⟩
theorem inc_plac {e:Ex} (hv:validE e=0):Inc 0 (placE e):=by
 unfold placE brkE
 rw [if_pos hv]
 have hl:(encE e).length=(codeP 40 (textE e)).length+1:=by rw [encE_v hv];simp
 refine inc_app _ _ _ (inc_brk _ _ 0) (fun p hp=>?_) (by omega)
 have:=(brk_in _ _ _ p hp).2
 omega
theorem plac_l {e:Ex}:∀ p ∈ placE e,p<=((encE e).length:Int):=fun p h=>(plac_in p h).2
def llI (f:Int):Int:=if 0 < f then 2 else 0
theorem ll_ind (f:Nat):((indE f).length:Int)=llI f:=by
 unfold indE llI
 by_cases h:0 < f
 ·rw [if_pos h,if_pos (by omega)];rfl
 ·rw [if_neg h,if_neg (by omega)];rfl
def Rch (ps:List Int) (w n:Int):Nat->Int->Prop
 | 0,f=>f=n
 | k+1,f=>∃ p ∈ ps,f < p/\llI f+p - f<=w/\Rch ps w n k p
section
variable {ps:List Int} {w n:Int}
theorem rch_mono (hps:∀ p ∈ ps,0 < p):∀ (k:Nat) (f g:Int),0 < f->f<=g->g<=n->Rch ps w n k f->∃ j,j<=k/\Rch ps w n j g
 | 0,f,g,_,hfg,hgn,h=>⟨0,Nat.le_refl _,by
   have:f=n:=h
   show g=n
   omega⟩
 | k+1,f,g,h0,hfg,hgn,h=>by
   obtain ⟨p,hp,h1,h2,h3⟩:=h
   by_cases hg:g < p
   ·refine ⟨k+1,Nat.le_refl _,p,hp,hg,?_,h3⟩
    unfold llI at *
    rw [if_pos (by omega)] at h2 ⊢
    omega
   ·obtain ⟨j,hj,hr⟩:=rch_mono hps k p g (hps p hp) (by omega) hgn h3
    exact ⟨j,by omega,hr⟩
theorem to_ge {ll f:Int}:∀ (qs:List Int) (lo t:Int),Inc lo qs->∀ p ∈ qs,f < p->ll+p - f<=w->p<=toP w ll f qs t
 | q::qs,_,t,hi,p,hp,h1,h2=>by
   unfold toP
   rcases List.mem_cons.1 hp with rfl | hp
   ·rw [if_pos ⟨h1,h2⟩]
    rcases to_or (w:=w) (ll:=ll) (f:=f) qs p with e | ⟨e,_⟩
    ·omega
    ·have:=inc_mem qs p _ hi.2 e
     omega
   ·exact to_ge qs q _ hi.2 p hp h1 h2
theorem next_best (hi:Inc 0 ps) (hn:∀ p ∈ ps,p<=n) {f:Nat} (hf:(f:Int) < n) {k:Nat} (h:Rch ps w n k f):∃ j,j+1<=k/\f < nextP ps w f/\Rch ps w n j ((nextP ps w f:Nat):Int):=by
 cases k with
 | zero=>
   have:(f:Int)=n:=h
   omega
 | succ k=>
   obtain ⟨p,hp,h1,h2,h3⟩:=h
   have hx:=next_i (ps:=ps) (w:=w) (f:=f)
   rw [ll_ind] at hx
   have hge:=to_ge (w:=w) (ll:=llI f) (f:=f) ps 0 f hi p hp h1 h2
   have hle:((nextP ps w f:Nat):Int)<=n:=by
    rw [hx]
    rcases to_or (w:=w) (ll:=llI f) (f:=(f:Int)) ps f with e | ⟨e,_⟩
    ·rw [e];omega
    ·exact hn _ e
   obtain ⟨j,hj,hr⟩:=rch_mono (fun q hq=>inc_mem ps 0 q hi hq) k p ((nextP ps w f:Nat):Int) (inc_mem ps 0 p hi hp) (by omega) hle h3
   exact ⟨j,by omega,by omega,hr⟩
end
theorem wrap_best {l:Tx} {ps:List Int} {w:Int} (hi:Inc 0 ps) (hn:∀ p ∈ ps,p<=(l.length:Int)):∀ (m f:Nat) (out:List Tx),f<=l.length->l.length - f<=m->
    (∀ p,wrapP l ps w m f out=some p->∃ k,p.length=out.length+k/\Rch ps w l.length k f/\∀ j,Rch ps w l.length j f->k<=j)/\(wrapP l ps w m f out=none->∀ j,¬ Rch ps w l.length j f)
 | 0,f,out,hf,h=>by
   unfold wrapP
   refine ⟨fun p hp=>?_,fun hh=>by cases hh⟩
   cases hp
   exact ⟨0,rfl,show (f:Int)=l.length by omega,fun _ _=>Nat.zero_le _⟩
 | m+1,f,out,hf,h=>by
   unfold wrapP
   by_cases hlt:f < l.length
   ·rw [if_pos hlt]
    have hx:=next_i (ps:=ps) (w:=w) (f:=f)
    have hle:=next_le (ps:=ps) (w:=w) hf hn
    by_cases h2:nextP ps w f<=f
    ·rw [if_pos h2]
     refine ⟨fun p hp=>(by cases hp),fun _ j hj=>?_⟩
     obtain ⟨_,_,h3,_⟩:=next_best hi hn (by omega) hj
     omega
    ·rw [if_neg h2]
     obtain ⟨i1,i2⟩:=wrap_best hi hn m (nextP ps w f) (out++[lineP l f (nextP ps w f)]) hle (by omega)
     refine ⟨fun p hp=>?_,fun hh j hj=>?_⟩
     ·obtain ⟨k,hk,hr,hb⟩:=i1 p hp
      refine ⟨k+1,by rw [hk];simp;omega,?_,fun j hj=>?_⟩
      ·rcases to_or (w:=w) (ll:=((indE f).length:Int)) (f:=(f:Int)) ps f with e | ⟨e1,e2,e3⟩
       ·omega
       ·refine ⟨_,e1,e2,?_,?_⟩
        ·rw [← ll_ind];exact e3
        ·rw [← hx];exact hr
      ·obtain ⟨j',h3,_,h4⟩:=next_best hi hn (by omega) hj
       have:=hb j' h4
       omega
     ·obtain ⟨j',_,_,h4⟩:=next_best hi hn (by omega) hj
      exact i2 hh j' h4
   ·rw [if_neg hlt]
    refine ⟨fun p hp=>?_,fun hh=>by cases hh⟩
    cases hp
    exact ⟨0,rfl,show (f:Int)=l.length by omega,fun _ _=>Nat.zero_le _⟩
def bestP (room a:Int):List Int->List Int->Int->Int
 | x::xs,y::ls,b=>bestP room a xs ls (if x - a<=room/\0<=y/\(b < 0\/y+1 < b) then y+1 else b)
 | _,_,b=>b
def leastL (w:Int):List Int->List Int
 | []=>[]
 | [_]=>[0]
 | a::a'::xs=>bestP (w - 2) a (a'::xs) (leastL w (a'::xs)) (-1)::leastL w (a'::xs)
theorem least_len (w:Int):∀ (xs:List Int),(leastL w xs).length=xs.length
 | []=>rfl
 | [_]=>rfl
 | a::a'::xs=>by
   have:=least_len w (a'::xs)
   simp only [leastL,List.length_cons] at this ⊢
   omega
def Val (ps:List Int) (w n f v:Int):Prop:=(0<=v/\Rch ps w n v.toNat f/\∀ k,Rch ps w n k f->v<=k)\/(v = -1/\∀ k,¬ Rch ps w n k f)
def Vals (ps:List Int) (w n:Int):List Int->List Int->Prop
 | [],[]=>True
 | a::xs,v::vs=>Val ps w n a v/\Vals ps w n xs vs
 | _,_=>False
section
variable {ps:List Int} {w n:Int}
theorem best_val {a room:Int} (hroom:∀ p,(llI a+p - a<=w ↔ p - a<=room)) (hne:a≠n):∀ (qs vs pre:List Int) (b:Int),Inc a qs->(∀ q ∈ qs,q ∈ ps)->Vals ps w n qs vs->(∀ q ∈ ps,a < q->q ∈ pre\/q ∈ qs)->
    ((0<=b/\Rch ps w n b.toNat a/\∀ k p,p ∈ pre->a < p->llI a+p - a<=w->Rch ps w n k p->b<=k+1)\/(b = -1/\∀ k p,p ∈ pre->a < p->llI a+p - a<=w->¬ Rch ps w n k p))->
    Val ps w n a (bestP room a qs vs b)
 | [],[],pre,b,_,_,_,hc,hb=>by
   unfold bestP
   rcases hb with ⟨h1,h2,h3⟩ | ⟨h1,h2⟩
   ·refine .inl ⟨h1,h2,fun k hk=>?_⟩
    cases k with
    | zero=>exact absurd hk hne
    | succ k=>
      obtain ⟨p,hp,g1,g2,g3⟩:=hk
      rcases hc p hp g1 with h | h
      ·have:=h3 k p h g1 g2 g3;omega
      ·cases h
   ·refine .inr ⟨h1,fun k hk=>?_⟩
    cases k with
    | zero=>exact absurd hk hne
    | succ k=>
      obtain ⟨p,hp,g1,g2,g3⟩:=hk
      rcases hc p hp g1 with h | h
      ·exact h2 k p h g1 g2 g3
      ·cases h
 | [],_::_,_,_,_,_,hv,_,_=>hv.elim
 | _::_,[],_,_,_,_,hv,_,_=>hv.elim
 | q::qs,v::vs,pre,b,hi,hq,hv,hc,hb=>by
   unfold bestP
   have hv1:=hv.1
   have hwk:Inc a qs:=inc_weak qs q a (by have:=hi.1;omega) hi.2
   refine best_val hroom hne qs vs (q::pre) _ hwk (fun x hx=>hq x (List.mem_cons_of_mem _ hx)) hv.2 (fun x hx hax=>?_) ?_
   ·rcases hc x hx hax with h | h
    ·exact .inl (List.mem_cons_of_mem _ h)
    ·rcases List.mem_cons.1 h with rfl | h
     ·exact .inl (List.mem_cons_self ..)
     ·exact .inr h
   ·have haq:a < q:=hi.1
    have hqm:q ∈ ps:=hq q (List.mem_cons_self ..)
    by_cases hok:q - a<=room/\0<=v
    ·have hreach:Rch ps w n (v+1).toNat a:=by
      rcases hv1 with ⟨_,r1,_⟩ | ⟨r1,_⟩
      ·rw [show (v+1).toNat=v.toNat+1 by omega]
       exact ⟨q,hqm,haq,(hroom q).2 hok.1,r1⟩
      ·omega
     have hmin:∀ k,Rch ps w n k q->v<=k:=by
      rcases hv1 with ⟨_,_,r2⟩ | ⟨r1,_⟩
      ·exact r2
      ·omega
     by_cases hlt:b < 0\/v+1 < b
     ·rw [if_pos ⟨hok.1,hok.2,hlt⟩]
      refine .inl ⟨by omega,hreach,fun k p hp g1 g2 g3=>?_⟩
      rcases List.mem_cons.1 hp with rfl | hp
      ·have:=hmin k g3;omega
      ·rcases hb with ⟨h1,h2,h3⟩ | ⟨h1,h2⟩
       ·have:=h3 k p hp g1 g2 g3;omega
       ·exact absurd g3 (h2 k p hp g1 g2)
     ·rw [if_neg (fun h=>hlt h.2.2)]
      rcases hb with ⟨h1,h2,h3⟩ | ⟨h1,h2⟩
      ·refine .inl ⟨h1,h2,fun k p hp g1 g2 g3=>?_⟩
       rcases List.mem_cons.1 hp with rfl | hp
       ·have:=hmin k g3;omega
       ·exact h3 k p hp g1 g2 g3
      ·omega
    ·rw [if_neg (fun h=>hok ⟨h.1,h.2.1⟩)]
     have hno:llI a+q - a<=w->∀ k,¬ Rch ps w n k q:=fun g2 k g3=>by
      have h1:=(hroom q).1 g2
      have h2:¬ 0<=v:=fun h=>hok ⟨h1,h⟩
      rcases hv1 with ⟨r1,_⟩ | ⟨_,r2⟩
      ·exact h2 r1
      ·exact r2 k g3
     rcases hb with ⟨h1,h2,h3⟩ | ⟨h1,h2⟩
     ·refine .inl ⟨h1,h2,fun k p hp g1 g2 g3=>?_⟩
      rcases List.mem_cons.1 hp with rfl | hp
      ·exact absurd g3 (hno g2 k)
      ·exact h3 k p hp g1 g2 g3
     ·refine .inr ⟨h1,fun k p hp g1 g2 g3=>?_⟩
      rcases List.mem_cons.1 hp with rfl | hp
      ·exact hno g2 k g3
      ·exact h2 k p hp g1 g2 g3
theorem least_val (hn:∀ p ∈ ps,p<=n):∀ (qs pre:List Int) (lo:Int),ps=pre++qs->(∀ p ∈ pre,p<=lo)->0<=lo->Inc lo qs->(qs=[]\/qs.getLast?=some n)->Vals ps w n qs (leastL w qs)
 | [],_,_,_,_,_,_,_=>trivial
 | [a],pre,lo,hps,_,_,_,hl=>by
   have ha:a=n:=by
    rcases hl with h | h
    ·cases h
    ·simpa using h
   refine ⟨.inl ⟨Int.le_refl _,ha,fun k _=>by omega⟩,trivial⟩
 | a::a'::xs,pre,lo,hps,hpre,h0,hi,hl=>by
   have hl':(a'::xs).getLast?=some n:=by
    rcases hl with h | h
    ·cases h
    ·rwa [List.getLast?_cons_cons] at h
   have ih:=least_val hn (a'::xs) (pre++[a]) a (by rw [hps];simp) (fun p hp=>by
    rcases List.mem_append.1 hp with hp | hp
    ·have:=hpre p hp;have:=hi.1;omega
    ·rw [List.mem_singleton] at hp;omega) (by have:=hi.1;omega) hi.2 (.inr hl')
   refine ⟨?_,ih⟩
   have ha0:0 < a:=by have:=hi.1;omega
   have hlast:n ∈ a'::xs:=List.mem_of_getLast? hl'
   have han:a < n:=inc_mem _ a n hi.2 hlast
   refine best_val (ps:=ps) (w:=w) (n:=n) (a:=a) (room:=w - 2) (fun p=>by unfold llI;rw [if_pos ha0];omega) (by omega) (a'::xs) _ [] (-1) hi.2 (fun q hq=>by rw [hps];exact List.mem_append_right _ (List.mem_cons_of_mem _ hq)) ih (fun q hq haq=>.inr ?_) (.inr ⟨rfl,fun _ _ h=>by cases h⟩)
   rw [hps] at hq
   rcases List.mem_append.1 hq with h | h
   ·have:=hpre q h;have:=hi.1;omega
   ·rcases List.mem_cons.1 h with rfl | h
    ·omega
    ·exact h
def fewP (w:Int):List Int->Int
 | a::xs=>bestP w a xs (leastL w xs) (-1)
 | []=>0
theorem few_val (hn:∀ p ∈ ps,p<=n) (hi:Inc 0 ps) (hl:ps.getLast?=some n):Val ps w n 0 (fewP w (0::ps)):=by
 have ih:=least_val (w:=w) hn ps [] 0 rfl (by simp) (by omega) hi (.inr hl)
 have h0:0 < n:=inc_mem ps 0 n hi (List.mem_of_getLast? hl)
 exact best_val (a:=0) (room:=w) (fun p=>by unfold llI;rw [if_neg (by omega)];omega) (by omega) ps _ [] (-1) hi (fun q h=>h) ih (fun q hq _=>.inr hq) (.inr ⟨rfl,fun _ _ h=>by cases h⟩)
end
theorem wrapE_few {e:Ex} (hv:validE e=0) {w:Int} (h1:4<=w) (h2:w<=40):(∃ p,wrapE e w=(p,0)/\(p.length:Int)=fewP w (0::placE e))\/(wrapE e w=([],14)/\fewP w (0::placE e) < 0):=by
 have hfv:=few_val (w:=w) (ps:=placE e) (n:=((encE e).length:Int)) plac_l (inc_plac hv) (by unfold placE;simp)
 obtain ⟨b1,b2⟩:=wrap_best (l:=encE e) (ps:=placE e) (w:=w) (inc_plac hv) plac_l (encE e).length 0 [] (Nat.zero_le _) (by omega)
 unfold wrapE
 rw [if_pos hv,if_neg (by omega)]
 cases hq:wrapP (encE e) (placE e) w (encE e).length 0 [] with
 | none=>
   refine .inr ⟨rfl,?_⟩
   rcases hfv with ⟨_,r,_⟩ | ⟨r,_⟩
   ·exact absurd r (b2 hq _)
   ·omega
 | some p=>
   refine .inl ⟨p,rfl,?_⟩
   obtain ⟨k,hk,hr,hm⟩:=b1 p hq
   rcases hfv with ⟨r0,r1,r2⟩ | ⟨_,r⟩
   ·have g1:=hm _ r1
    have g2:=r2 k hr
    simp only [List.length_nil] at hk
    omega
   ·exact absurd hr (r k)
end Go.Proofs
/- The fewest lines: the walk; the law. -/
namespace Go.Proofs
open Go Go.Ax Go.Ax.Alg
theorem least_in (w:Int):∀ (xs:List Int),∀ y ∈ leastL w xs,-1<=y/\y<=(xs.length:Int)
 | [],_,h=>by cases h
 | [_],y,h=>by
   simp only [leastL,List.mem_singleton] at h
   simp only [List.length_cons,List.length_nil]
   omega
 | a::a'::xs,y,h=>by
   have ih:=least_in w (a'::xs)
   have hb:∀ (qs vs:List Int) (b:Int),(∀ v ∈ vs,v<=((a'::xs).length:Int))->-1<=b->b<=((a'::xs).length:Int)+1->-1<=bestP (w - 2) a qs vs b/\bestP (w - 2) a qs vs b<=((a'::xs).length:Int)+1:=by
    intro qs
    induction qs with
    | nil=>intro vs b _ h1 h2;unfold bestP;exact ⟨h1,h2⟩
    | cons q qs ih=>
      intro vs b hv h1 h2
      cases vs with
      | nil=>unfold bestP;exact ⟨h1,h2⟩
      | cons v vs=>
        unfold bestP
        have:=hv v (List.mem_cons_self ..)
        refine ih vs _ (fun x hx=>hv x (List.mem_cons_of_mem _ hx)) ?_ ?_
        ·split <;> omega
        ·split <;> omega
   unfold leastL at h
   rcases List.mem_cons.1 h with rfl | h
   ·have:=hb (a'::xs) (leastL w (a'::xs)) (-1) (fun v hv=>(ih v hv).2) (by omega) (by omega)
    simp only [List.length_cons] at this ⊢
    omega
   ·have:=ih y h
    simp only [List.length_cons] at this ⊢
    omega
theorem set_at {l r:List Int} {i:Nat} {b v:Int} (h:l.length=i):(l++b::r).set i v=l++v::r:=by
 subst h
 rw [List.set_append_right _ _ (Nat.le_refl _),Nat.sub_self];rfl
theorem get_at {α:Type} {l r:List α} {i:Nat} {b:α} (h:l.length=i):(l++b::r)[i]?=some b:=by
 subst h
 rw [List.getElem?_append_right (Nat.le_refl _),Nat.sub_self];rfl
section
variable {N:Nat} {w a z room:Int} {pre lpre:List Int} (hlp:lpre.length=pre.length) (hpl:pre.length<=2 ^ 20)
include hlp hpl
theorem w30_in {all:List Int} (hall:∀ x ∈ all,0<=x/\x<=2 ^ 20) (hal:all.length<=2 ^ 20) {K:Int×Int×List Int×List Int->O} {k1 k2:Unit->O}:∀ (r lr mid lmid:List Int) (b:Int) (m:Nat),all=pre++a::(mid++r)->lmid.length=mid.length->lr.length=r.length->(∀ y ∈ lr,-1<=y/\y<=2 ^ 20)->r.length < m->
    w30l1 N m (w,(pre.length:Int),z,room,((pre.length+1+mid.length:Nat):Int),all,lpre++b::(lmid++lr)) K k1 k2=K (w,(pre.length:Int),all,lpre++bestP room a r lr b::(lmid++lr))
 | _,_,_,_,_,0,_,_,_,_,h=>by omega
 | [],lr,mid,lmid,b,m+1,hs,_,hlr,_,_=>by
   have h1:lr=[]:=List.eq_nil_of_length_eq_zero hlr
   have h0:all.length=pre.length+1+mid.length:=by rw [hs];simp;omega
   show w30F1 _ _ _ _ _ _ _ _ _ _=_
   unfold w30F1
   simp only []
   rw [decide_eq_false (by omega),br_f]
   subst h1
   rfl
 | _::_,[],_,_,_,_,_,_,h,_,_=>by simp at h
 | x::r,y::lr,mid,lmid,b,m+1,hs,hlm,hlr,hy,hm=>by
   have h0:all.length=pre.length+1+mid.length+(r.length+1):=by rw [hs];simp;omega
   have hgx:all[pre.length+1+mid.length]?=some x:=by
    rw [hs,show pre++a::(mid++x::r)=(pre++a::mid)++x::r by simp]
    exact get_at (by simp;omega)
   have hga:all[pre.length]?=some a:=by rw [hs];exact get_at rfl
   have hll:(lpre++b::(lmid++y::lr)).length=all.length:=by
    simp only [List.length_cons] at hlr
    rw [h0];simp;omega
   have hgy:(lpre++b::(lmid++y::lr))[pre.length+1+mid.length]?=some y:=by
    rw [show lpre++b::(lmid++y::lr)=(lpre++b::lmid)++y::lr by simp]
    exact get_at (by simp;omega)
   have hgb:(lpre++b::(lmid++y::lr))[pre.length]?=some b:=get_at hlp
   have bx:=hall x (by rw [hs];simp)
   have ba:=hall a (by rw [hs];simp)
   have by':=hy y (List.mem_cons_self ..)
   have o1:decide ((0:Int)<=((pre.length+1+mid.length:Nat):Int)/\((pre.length+1+mid.length:Nat):Int) < ((lpre++b::(lmid++y::lr)).length:Int))=true:=decide_eq_true (by rw [hll];omega)
   have o2:decide ((0:Int)<=(pre.length:Int)/\(pre.length:Int) < ((lpre++b::(lmid++y::lr)).length:Int))=true:=decide_eq_true (by rw [hll];omega)
   have ih:=fun (b':Int)=>w30_in (K:=K) (k1:=k1) (k2:=k2) hall hal r lr (mid++[x]) (lmid++[y]) b' m (by rw [hs];simp) (by simp [hlm]) (by simpa using hlr) (fun q hq=>hy q (List.mem_cons_of_mem _ hq)) (by simp at hm;omega)
   have hk:((pre.length+1+(mid++[x]).length:Nat):Int)=((pre.length+1+mid.length:Nat):Int)+1:=by simp;omega
   have hlx:∀ b',lpre++b'::(lmid++[y]++lr)=lpre++b'::(lmid++y::lr):=fun b'=>by simp
   simp only [hk,hlx] at ih
   show w30F1 _ _ _ _ _ _ _ _ _ _=_
   unfold w30F1
   simp only []
   rw [decide_eq_true (show ((pre.length+1+mid.length:Nat):Int) < (all.length:Int) by omega),br_t,gx_at hgx,gx_at hga,o1,o2]
   simp only [Bool.or_true,ck_t,Int.toNat_natCast,gn_of hgy,gn_of hgb]
   rw [wr (x:=x - a) (by omega) (by omega),wr (x:=y+1) (by omega) (by omega),wr (x:=((pre.length+1+mid.length:Nat):Int)+1) (by omega) (by omega)]
   rw [show (decide (x - a<=room)&&decide (0<=y)&&(decide (b < 0)||decide (y+1 < b)))=decide (x - a<=room/\0<=y/\(b < 0\/y+1 < b)) by rw [← Bool.decide_or,← Bool.decide_and,← Bool.decide_and,decide_eq_decide];exact and_assoc]
   conv=>rhs;unfold bestP
   by_cases hc:x - a<=room/\0<=y/\(b < 0\/y+1 < b)
   ·rw [decide_eq_true hc,br_t,if_pos hc,set_at hlp]
    exact ih (y+1)
   ·rw [decide_eq_false hc,br_f,if_neg hc]
    exact ih b
end
theorem w30_out {N:Nat} {w:Int} (hw:4<=w/\w<=40) {all:List Int} (hall:∀ x ∈ all,0<=x/\x<=2 ^ 20) (hal:all.length<=2 ^ 20) (hN:all.length < N) {K:List Int->O} {k1 k2:Unit->O}:∀ (i:Nat) (pre:List Int) (a x:Int) (xs:List Int) (m:Nat),all=pre++a::x::xs->pre.length=i->i+1 < m->
    w30l2 N m (w,(i:Int),all,List.replicate i 0++0::leastL w (x::xs)) K k1 k2=K (fewP w all::leastL w all.tail)
 | _,_,_,_,_,0,_,_,h=>by omega
 | i,pre,a,x,xs,m+1,hs,hp,hm=>by
   have h0:all.length=i+1+(xs.length+1):=by rw [hs];simp;omega
   have hlen:=least_len w (x::xs)
   have hin:=least_in w (x::xs)
   simp only [List.length_cons] at hlen hin
   have hll:(List.replicate i (0:Int)++0::leastL w (x::xs)).length=all.length:=by simp;omega
   have hg:(List.replicate i (0:Int)++0::leastL w (x::xs))[i]?=some 0:=get_at (by simp)
   have hst:(List.replicate i (0:Int)++0::leastL w (x::xs)).set i (-1)=List.replicate i 0++(-1)::leastL w (x::xs):=set_at (by simp)
   show w30F2 _ _ _ _ _ _ _ _ _=_
   unfold w30F2
   simp only [Int.toNat_natCast]
   rw [decide_eq_true (show (0:Int)<=(i:Int) by omega),br_t,ck_of (decide_eq_true (by rw [hll];omega)),gn_of hg,hst]
   have inn:∀ (room:Int) (K':Int->Int->List Int->List Int->O),w30n1 N w (i:Int) (i:Int) room (IntKind.i64.wrap ((i:Int)+1)) all (List.replicate i 0++(-1)::leastL w (x::xs)) K'=K' w (i:Int) all (List.replicate i 0++bestP room a (x::xs) (leastL w (x::xs)) (-1)::leastL w (x::xs)):=fun room K'=>by
    unfold w30n1
    have h:=w30_in (N:=N) (w:=w) (a:=a) (z:=(i:Int)) (room:=room) (pre:=pre) (lpre:=List.replicate i 0) (by simp [hp]) (by omega) hall hal (K:=fun y=>K' y.1 y.2.1 y.2.2.1 y.2.2.2) (k1:=fun _=>none) (k2:=fun _=>none) (x::xs) (leastL w (x::xs)) [] [] (-1) N (by rw [hs];rfl) rfl (by simpa using hlen) (fun y hy=>by have:=hin y hy;omega) (by simp only [List.length_cons];omega)
    rw [hp] at h
    rw [wr (by omega) (by omega),show (i:Int)+1=((i+1+([]:List Int).length:Nat):Int) by simp]
    exact h
   unfold w30n0 w30l0 w30F0
   simp only []
   cases i with
   | zero=>
     have hpre:pre=[]:=List.eq_nil_of_length_eq_zero hp
     subst hpre
     obtain ⟨m,rfl⟩:∃ k,m=k+1:=⟨m - 1,by omega⟩
     rw [decide_eq_false (by omega),br_f,inn]
     unfold w30l2
     simp only []
     unfold w30F2
     rw [show IntKind.i64.wrap (((0:Nat):Int) - 1) = -1 from wr (by omega) (by omega),decide_eq_false (by omega),br_f]
     rw [hs]
     rfl
   | succ i=>
     rw [decide_eq_true (by omega),br_t,inn,wr (x:=w - 2) (by omega) (by omega),wr (x:=((i+1:Nat):Int) - 1) (by omega) (by omega)]
     obtain ⟨pre',a',rfl⟩:∃ pre' a',pre=pre'++[a']:=⟨pre.dropLast,pre.getLast (by intro h;rw [h] at hp;cases hp),(List.dropLast_concat_getLast _).symm⟩
     have ih:=w30_out hw hall hal hN (K:=K) (k1:=k1) (k2:=k2) i pre' a' a (x::xs) m (by rw [hs];simp) (by simpa using hp) (by omega)
     refine Eq.trans ?_ ih
     rw [show ((i+1:Nat):Int) - 1=(i:Int) by omega]
     rw [show List.replicate (i+1) (0:Int)=List.replicate i 0++[0] from List.replicate_succ',List.append_assoc]
     rfl
theorem w30_z {N:Nat} {w c:Int} {ps:List Int} (hw:4<=w/\w<=40) (hc:0<=c/\c<=2 ^ 20) (hps:∀ x ∈ ps,0<=x/\x<=2 ^ 20) (hl:ps.length<=2 ^ 19) (hN:ps.length+2 < N):w30z N c ps w=some (fewP w (0::(ps++[c]))):=by
 have hb0:[(0:Int)]++ps++[c]=0::(ps++[c]):=by simp
 have hlen:([(0:Int)]++ps++[c]).length=ps.length+2:=by simp
 have hl1:([(0:Int)]++ps).length=ps.length+1:=by simp
 unfold w30z w30 w30G
 simp only [hlen,hl1]
 rw [ck_of (limb (by omega) (by omega)),ck_of (limb (by omega) (by omega)),ck_of (decide_eq_true (by omega)),Int.toNat_natCast,ck_of (limb (by omega) (by omega)),wr (by omega) (by omega)]
 obtain ⟨pre,a,hpa⟩:∃ pre a,(0::ps:List Int)=pre++[a]:=⟨_,_,(List.dropLast_concat_getLast (by simp)).symm⟩
 have hpl:pre.length=ps.length:=by
  have:=congrArg List.length hpa
  simp at this
  omega
 have hr:List.replicate (ps.length+2) (0:Int)=List.replicate ps.length 0++0::leastL w [c]:=by
  rw [show List.replicate (ps.length+2) (0:Int)=List.replicate (ps.length+1) 0++[0] from List.replicate_succ',show List.replicate (ps.length+1) (0:Int)=List.replicate ps.length 0++[0] from List.replicate_succ',List.append_assoc]
  rfl
 rw [hr,show ((ps.length+2:Nat):Int) - 2=(ps.length:Int) by omega]
 unfold w30n2
 refine (congrArg (fun z:O=>z.bind w30un) (w30_out (N:=N) hw (all:=[(0:Int)]++ps++[c]) (fun x hx=>?_) (by omega) (by omega) ps.length pre a c [] N ?_ hpl (by omega))).trans ?_
 ·rw [hb0] at hx
  rcases List.mem_cons.1 hx with rfl | hx
  ·omega
  ·rcases List.mem_append.1 hx with hx | hx
   ·exact hps x hx
   ·rw [List.mem_singleton] at hx;omega
 ·rw [show [(0:Int)]++ps=pre++[a] from hpa];simp
 ·simp only []
  rw [ck_of (decide_eq_true (by simp only [List.length_cons];omega)),gn_0,hb0]
  rfl
end Go.Proofs
/- The law on the fewest lines. -/
namespace Go.Proofs
open Go Go.Ax Go.Ax.Alg
section
variable {N:Nat} {w f we o nn i0 want h0 o' nn':Int} {c:Tx} {pg:List Tx} {kk kk':List Ex}
theorem w7_places {ps:List Int} (hi:Inc 0 ps) (hc:∀ p ∈ ps,p < (c.length:Int)) (hl:ps.length<=2 ^ 20) {K:Bool->O} {k1:Int×Tx×Int×List Tx×Int×Int×Int×Int×List Ex×List Int->O} {k2:Unit->O}:∀ (r pre:List Int) (m:Nat),ps=pre++r->r.length < m->
    w7l0 N m (w,c,f,pg,we,(pre.length:Int),o,nn,kk,ps) K k1 k2=k1 (w,c,f,pg,we,(ps.length:Int),o,nn,kk,ps)
 | _,_,0,_,h=>by omega
 | [],pre,m+1,hs,_=>by
   show w7F0 _ _ _ _ _ _ _ _ _ _ _ _ _ _=_
   unfold w7F0
   simp only []
   have h0:ps.length=pre.length:=by rw [hs];simp
   rw [decide_eq_false (by omega),br_f,h0]
 | x::r,pre,m+1,hs,hm=>by
   have hlt:pre.length < ps.length:=by rw [hs];simp
   have hg:ps[pre.length]?=some x:=by rw [hs,List.getElem?_append_right (Nat.le_refl _)];simp
   have h1:=inc_mem ps 0 x hi (by rw [hs];simp)
   have h2:=hc x (by rw [hs];simp)
   have ih:=w7_places hi hc hl (K:=K) (k1:=k1) (k2:=k2) r (pre++[x]) m (by rw [hs];simp) (by simp at hm;omega)
   have hpl:((pre++[x]).length:Int)=(pre.length:Int)+1:=by simp
   rw [hpl] at ih
   show w7F0 _ _ _ _ _ _ _ _ _ _ _ _ _ _=_
   unfold w7F0
   simp only []
   rw [decide_eq_true (show (pre.length:Int) < (ps.length:Int) by omega),br_t,gx_at hg,decide_eq_false (show ¬ x < 1 by omega),gc_at hg]
   simp only [Bool.not_false,if_true,Bool.false_or]
   rw [decide_eq_false (show ¬ (c.length:Int)<=x by omega),gc_at hg]
   simp only [Bool.not_false,Bool.true_and,Bool.false_or]
   rw [wr (x:=(pre.length:Int)+1) (by omega) (by omega)]
   by_cases hp:pre=[]
   ·subst hp
    rw [decide_eq_false (show ¬ (0:Int) < (([]:List Int).length:Int) by simp),gc_no',Bool.false_and,br_f]
    exact ih
   ·obtain ⟨q,y,rfl⟩:∃ q y,pre=q++[y]:=⟨_,_,(List.dropLast_concat_getLast hp).symm⟩
    have hq:(q++[y]).length=q.length+1:=by simp
    have hgy:ps[q.length]?=some y:=by rw [hs,List.append_assoc,List.getElem?_append_right (Nat.le_refl _)];simp
    have hxy:y < x:=by
     have:∀ (q:List Int) (lo:Int),Inc lo (q++y::x::r)->y < x:=by
      intro q
      induction q with
      | nil=>intro lo h;exact h.2.1
      | cons z q ih=>intro lo h;exact ih z h.2
     exact this q 0 (by rw [hs] at hi;simpa using hi)
    rw [decide_eq_true (show (0:Int) < ((q++[y]).length:Int) by omega)]
    simp only [if_true,Bool.true_and]
    rw [show IntKind.i64.wrap (((q++[y]).length:Int) - 1)=(q.length:Int) by rw [hq,wr (by omega) (by omega)];omega,gc_at hgy]
    simp only [if_true]
    rw [decide_eq_false (show ¬ x<=y by omega),br_f]
    exact ih
theorem w7_rows {L:List Tx} (hr:∀ r ∈ L,(r.length:Int)<=w/\r.length<=2 ^ 20/\r.length < N/\∀ x ∈ r,x < 64) (hl:L.length<=2 ^ 20) {K:Bool->O} {k1:Tx×List Tx×Int×Int×Int×Int×Int×List Ex×Int×Int×List Ex->O} {k2:Unit->O}:∀ (r pre:List Tx) (m:Nat),L=pre++r->r.length < m->
    w7l1 N m (w,c,L,i0,want,h0,(pre.length:Int),o,nn,kk,o',nn',kk') K k1 k2=k1 (c,L,i0,want,h0,o,nn,kk,o',nn',kk')
 | _,_,0,_,h=>by omega
 | [],pre,m+1,hs,_=>by
   show w7F1 _ _ _ _ _ _ _ _ _ _ _ _ _ _ _ _ _=_
   unfold w7F1
   simp only []
   have h0:L.length=pre.length:=by rw [hs];simp
   rw [decide_eq_false (by omega),br_f]
 | x::r,pre,m+1,hs,hm=>by
   have hlt:pre.length < L.length:=by rw [hs];simp
   have hg:L[pre.length]?=some x:=by rw [hs,List.getElem?_append_right (Nat.le_refl _)];simp
   obtain ⟨h1,h2,h3,h4⟩:=hr x (by rw [hs];simp)
   have v0:=w31_z (N:=N) (l:=x) (by omega) h3 h4
   have v1:w31p N x=true:=by unfold w31p;rw [v0];rfl
   have v2:w31y0 N x=true:=by unfold w31y0;rw [v0];rfl
   have ih:=w7_rows hr hl (K:=K) (k1:=k1) (k2:=k2) r (pre++[x]) m (by rw [hs];simp) (by simp at hm;omega)
   have hpl:((pre++[x]).length:Int)=(pre.length:Int)+1:=by simp
   rw [hpl] at ih
   show w7F1 _ _ _ _ _ _ _ _ _ _ _ _ _ _ _ _ _=_
   unfold w7F1
   simp only []
   rw [decide_eq_true (show (pre.length:Int) < (L.length:Int) by omega),br_t,gx_at hg,decide_eq_false (show ¬ w < (x.length:Int) by omega),gc_at hg]
   simp only [Bool.not_false,if_true]
   rw [v1,v2,wr (by omega) (by omega)]
   exact ih
end
theorem page_64 {l:Tx} (hl:∀ x ∈ l,x < 64) {r:Tx} {q:List Tx} (hj:joinP (r::q)=l) (hq:∀ x ∈ q,indR x=true):∀ y ∈ r::q,∀ x ∈ y,x < 64:=by
 intro y hy x hx
 have hj:r++restP q=l:=hj
 rcases List.mem_cons.1 hy with rfl | hy
 ·exact hl x (by rw [← hj];exact List.mem_append_left _ hx)
 ·have h1:y.take 2=[0,0]:=of_decide_eq_true (hq y hy)
  rw [← List.take_append_drop 2 y,h1] at hx
  rcases List.mem_append.1 hx with hx | hx
  ·have:x=0:=by simpa using hx
   subst this
   decide
  ·refine hl x ?_
   rw [← hj]
   refine List.mem_append_right _ ?_
   unfold restP
   exact List.mem_flatten.2 ⟨_,List.mem_map.2 ⟨y,hy,rfl⟩,hx⟩
theorem law7 {N:Nat} (hN:70000<=N) {l:List Int} {wd:Int} (hl:∀ x ∈ l,J64 x) (hlen:l.length < 2 ^ 60) (hw:J64 wd):w7z N l wd=some true:=by
 obtain ⟨e,g1,hs⟩:=w8_z (N:=N) (by omega) hl hlen
 have a0:w8p N l=true:=by unfold w8p;rw [g1];rfl
 have a1:w8y0 N l=e.op:=by unfold w8y0;rw [g1];rfl
 have a2:w8y1 N l=e.num:=by unfold w8y1;rw [g1];rfl
 have a3:w8y2 N l=e.kids:=by unfold w8y2;rw [g1];rfl
 have c1:=w23_p (N:=N) hw (show (1:Int)<=37 by omega)
 have c2:=w23_y0 (N:=N) hw (show (1:Int)<=37 by omega)
 obtain ⟨k1,k2⟩:=arI_in (x:=wd) (m:=(37:Int)) (by omega)
 have hel:=enc_len (e:=e)
 have hbl:=brkE_len (e:=e)
 unfold w7z w7 w7G
 simp only [a0,a1,a2,a3,Ex.eta,c1,c2,w10_p hN (show sizeE e<=8500 by omega),w10_y0 hN (show sizeE e<=8500 by omega),w10_y1 hN (show sizeE e<=8500 by omega),w29_p (N:=N) (e:=e) (by omega) (by omega),w29_y0 (N:=N) (e:=e) (by omega) (by omega),w24_p hN (show sizeE e<=8500 by omega),w24_y0 hN (show sizeE e<=8500 by omega),w24_y1 hN (show sizeE e<=8500 by omega),ck_t]
 rw [wr (x:=4+arI wd 37) (by omega) (by omega)]
 generalize hwv:4+arI wd 37=w
 have hw1:4<=w/\w<=40:=by omega
 by_cases hv:validE e=0
 ·have h3:=w35_p (N:=N) (e:=e) (by omega) (by omega)
  have h4:=w35_y0 (N:=N) (e:=e) (by omega) (by omega)
  have h5:=w34_text (e:=e) hN
  have h6:w34p N (textE e)=true:=by unfold w34p;rw [h5];rfl
  have h7:w34y1 N (textE e)=brkE e:=by unfold w34y1 brkE;rw [h5,if_pos hv];rfl
  have hz:w12z N e.op e.num e.kids=some (0,brkE e):=by
   unfold w12z w12 w12G
   simp only [Ex.eta]
   rw [ck_of (w29_p (N:=N) (e:=e) (by omega) (by omega)),w29_y0 (N:=N) (e:=e) (by omega) (by omega),decide_eq_false (by simpa using hv),br_f,ck_of h3,h4,ck_of h6,h7];rfl
  have p12:w12p N e.op e.num e.kids=true:=by unfold w12p;rw [hz];rfl
  have y12:w12y1 N e.op e.num e.kids=brkE e:=by unfold w12y1;rw [hz];rfl
  have x12:w12y0 N e.op e.num e.kids=0:=by unfold w12y0;rw [hz];rfl
  have hin:∀ x ∈ brkE e,0<=x/\x<=2 ^ 20:=fun x hx=>by
   have:=plac_in (e:=e) x (by unfold placE;exact List.mem_append_left _ hx)
   omega
  have hinc:Inc 0 (brkE e):=by unfold brkE;rw [if_pos hv];exact inc_brk _ _ 0
  have hlt:∀ p ∈ brkE e,p < ((encE e).length:Int):=fun p hp=>by
   have hl2:(encE e).length=(codeP 40 (textE e)).length+1:=by rw [encE_v hv];simp
   unfold brkE at hp
   rw [if_pos hv] at hp
   have:=(brk_in _ _ _ p hp).2
   omega
  have z30:=w30_z (N:=N) (w:=w) (c:=((encE e).length:Int)) (ps:=brkE e) hw1 (by omega) hin (by omega) (by omega)
  have p30:w30p N ((encE e).length:Int) (brkE e) w=true:=by unfold w30p;rw [z30];rfl
  have y30:w30y0 N ((encE e).length:Int) (brkE e) w=fewP w (0::placE e):=by unfold w30y0;rw [z30];rfl
  rw [decide_eq_false (by simpa using hv),br_f,p12,ck_t,y12,x12]
  unfold w7n0
  refine (congrArg (fun z:O=>z.bind w7un) (w7_places (N:=N) hinc hlt (by omega) (brkE e) [] N rfl (by omega))).trans ?_
  simp only []
  rw [p30,ck_t,y30]
  rcases wrapE_few hv hw1.1 hw1.2 with ⟨p,hp,hpl⟩ | ⟨hp,hneg⟩
  ·rw [hp]
   simp only [ne_eq,not_true_eq_false,decide_false,Bool.or_self,br_f]
   obtain ⟨_,_,_,r,q,hrq,hj,hrw,hqw,hsum⟩:=wrapE_page hp
   have hlen2:p.length<=4097:=by have:=(wrapE_rows (e:=e) (w:=w)).2;rw [hp] at this;exact this
   have hrows:∀ x ∈ p,x.length<=4099:=by have:=(wrapE_rows (e:=e) (w:=w)).1;rw [hp] at this;exact this
   have z27:=w27_a (p:=p) (by omega) (by omega) hN
   rw [unF_ok ⟨w,hp⟩] at z27
   have p27:w27p N p=true:=by unfold w27p;rw [z27];rfl
   have y0:w27y0 N p=e.op:=by unfold w27y0;rw [z27];rfl
   have y1:w27y1 N p=e.num:=by unfold w27y1;rw [z27];rfl
   have y2:w27y2 N p=e.kids:=by unfold w27y2;rw [z27];rfl
   have y3:w27y3 N p=0:=by unfold w27y3;rw [z27];rfl
   rw [p27,ck_t,y0,y1,y2,y3]
   have hrr:∀ x ∈ p,(x.length:Int)<=w/\x.length<=2 ^ 20/\x.length < N/\∀ y ∈ x,y < 64:=fun x hx=>by
    have h1:=hrows x hx
    have h2:=page_64 (l:=encE e) enc_64 (by rw [← hrq];exact hj) (fun y hy=>(hqw y hy).1) x (by rw [← hrq];exact hx)
    refine ⟨?_,by omega,by omega,h2⟩
    rw [hrq] at hx
    rcases List.mem_cons.1 hx with rfl | hx
    ·exact hrw
    ·exact (hqw x hx).2
   unfold w7n1
   refine (congrArg (fun z:O=>z.bind w7un) (w7_rows (N:=N) hrr (by omega) p [] N rfl (by omega))).trans ?_
   simp only [Ex.eta]
   rw [w32_p (N:=N) (e:=e) (f:=e) (by omega) (by omega) (by omega),w32_y0 (N:=N) (e:=e) (f:=e) (by omega) (by omega) (by omega),sameE_refl,decide_eq_true hpl]
   rfl
  ·rw [hp]
   simp only [ne_eq,not_true_eq_false,decide_false,Bool.false_or]
   rw [decide_eq_true (show ¬ (14:Int)=0 by omega),br_t,decide_eq_true hneg]
   rfl
 ·rw [decide_eq_true hv,br_t]
  simp
  rfl
end Go.Proofs
/- Numbers that came in. -/
namespace Go.Proofs
open Go Go.Ax
theorem j64_w {z:Int} (h:OkV (.i .i64) z):J64 z:=by
 have h:(Lit.int .i64 z).wf=true:=h
 simp [Lit.wf] at h
 have h1:IntKind.i64.min = -9223372036854775808:=by decide
 rw [h1] at h
 unfold J64
 omega
theorem jl_w {l:List Int} (h:OkV (.sl (.i .i64)) l):∀ x ∈ l,J64 x:=fun x hx=>j64_w (h x hx)
theorem len_s {l:List Int} (h:SzV (.sl (.i .i64)) l):l.length < 2 ^ 60:=by
 have h1:=h.1
 have h2:l.length * 8<=reachBytes:=h1
 have h3:reachBytes=0x7ffffffff000:=rfl
 omega
end Go.Proofs
