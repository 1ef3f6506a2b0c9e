/- Texts of formulas: how they are read and printed. Conditions are in the theorems. -/
import Derived.Test.YtlhdefefoaldfaaGreatDoorF5
import Derived.Lib.ItoaNum
/- Texts of formulas: how they are read, as a relation; every text is read in some way. -/
namespace Go.Proofs
open Go Go.Ax
abbrev Tx:=List UInt8
def dig (c:UInt8):Bool:=decide (48<=c)&&decide (c<=57)
def let1 (c:UInt8):Bool:=decide (97<=c)&&decide (c<=122)
def skp:Tx->Tx
 | []=>[]
 | c::l=>if c=32 then skp l else c::l
def numD (l:Tx):Int:=l.foldl (fun n c=>10 * n+((c.toNat:Int) - 48)) 0
def runOk (l:Tx):Bool:=decide (l.length<=6)&&!(decide (1 < l.length)&&decide (l.head?=some 48))
def opAt:Nat->UInt8->Option Int
 | 0,c=>if c=61 then some 9 else if c=60 then some 10 else none
 | 1,c=>if c=43 then some 3 else if c=45 then some 4 else none
 | 2,c=>if c=42 then some 5 else if c=47 then some 6 else none
 | _,_=>none
inductive Pr where
 | ok (e:Ex) (l:Tx)
 | bad (l:Tx)
def Pr.map (f:Ex->Ex):Pr->Pr
 | .ok e l=>.ok (f e) l
 | .bad l=>.bad l
def Pr.left:Pr->Tx
 | .ok _ l=>l
 | .bad l=>l
inductive Kd where
 | pa | at | lv (k:Nat) | lo (k:Nat) (e:Ex)
inductive Rd:Kd->Tx->Pr->Prop
 | pa_ok {l t t2 t3:Tx} {e:Ex}:skp l=40::t->Rd (.lv 1) t (.ok e t2)->skp t2=41::t3->Rd .pa l (.ok e t3)
 | pa_b1 {l:Tx}:(skp l).head?≠some 40->Rd .pa l (.bad (skp l))
 | pa_b2 {l t b:Tx}:skp l=40::t->Rd (.lv 1) t (.bad b)->Rd .pa l (.bad b)
 | pa_b3 {l t t2:Tx} {e:Ex}:skp l=40::t->Rd (.lv 1) t (.ok e t2)->(skp t2).head?≠some 41->Rd .pa l (.bad (skp t2))
 | num {l t:Tx} {c:UInt8}:skp l=c::t->dig c=true->runOk ((c::t).takeWhile dig)=true->Rd .at l (.ok (.mk 0 (numD ((c::t).takeWhile dig)) []) ((c::t).dropWhile dig))
 | numBad {l t:Tx} {c:UInt8}:skp l=c::t->dig c=true->runOk ((c::t).takeWhile dig)=false->Rd .at l (.bad (c::t))
 | var {l t:Tx} {c:UInt8}:skp l=c::t->let1 c=true->Rd .at l (.ok (.mk 1 ((c.toNat:Int) - 97) []) t)
 | root {l t:Tx} {r:Pr}:skp l=82::t->Rd .pa t r->Rd .at l (r.map fun e=>.mk 8 0 [e])
 | par {l:Tx} {r:Pr}:(∀ c,(skp l).head?=some c->dig c=false/\let1 c=false/\c≠82)->Rd .pa l r->Rd .at l r
 | neg {l t:Tx} {r:Pr}:skp l=45::t->Rd (.lv 3) t r->Rd (.lv 3) l (r.map fun e=>.mk 2 0 [e])
 | at_bad {l b:Tx}:(skp l).head?≠some 45->Rd .at l (.bad b)->Rd (.lv 3) l (.bad b)
 | at_ok {l t:Tx} {e:Ex}:(skp l).head?≠some 45->Rd .at l (.ok e t)->(skp t).head?≠some 94->Rd (.lv 3) l (.ok e (skp t))
 | pow {l t t':Tx} {e:Ex} {r:Pr}:(skp l).head?≠some 45->Rd .at l (.ok e t)->skp t=94::t'->Rd (.lv 3) t' r->Rd (.lv 3) l (r.map fun f=>.mk 7 0 [e,f])
 | lv_bad {k:Nat} {l b:Tx}:k < 3->Rd (.lv (k+1)) l (.bad b)->Rd (.lv k) l (.bad b)
 | lv_ok {k:Nat} {l t:Tx} {e:Ex} {r:Pr}:k < 3->Rd (.lv (k+1)) l (.ok e t)->Rd (.lo k e) t r->Rd (.lv k) l r
 | lo_end {k:Nat} {e:Ex} {t:Tx}:k < 3->(∀ c,(skp t).head?=some c->opAt k c=none)->Rd (.lo k e) t (.ok e (skp t))
 | lo_bad {k:Nat} {e:Ex} {t t' b:Tx} {c:UInt8} {o:Int}:k < 3->skp t=c::t'->opAt k c=some o->Rd (.lv (k+1)) t' (.bad b)->Rd (.lo k e) t (.bad b)
 | lo_next {k:Nat} {e f:Ex} {t t' t2:Tx} {c:UInt8} {o:Int} {r:Pr}:k < 3->skp t=c::t'->opAt k c=some o->k≠0->Rd (.lv (k+1)) t' (.ok f t2)->Rd (.lo k (.mk o 0 [e,f])) t2 r->Rd (.lo k e) t r
 | lo_zero {e f:Ex} {t t' t2:Tx} {c:UInt8} {o:Int}:skp t=c::t'->opAt 0 c=some o->Rd (.lv 1) t' (.ok f t2)->Rd (.lo 0 e) t (.ok (.mk o 0 [e,f]) t2)
theorem skp_suf:∀ l:Tx,skp l <:+ l
 | []=>List.suffix_rfl
 | c::l=>by
   unfold skp
   split
   ·exact (skp_suf l).trans (List.suffix_cons c l)
   ·exact List.suffix_rfl
theorem skp_skp:∀ l:Tx,skp (skp l)=skp l
 | []=>rfl
 | c::l=>by
   by_cases h:c=32
   ·rw [skp,if_pos h];exact skp_skp l
   ·rw [skp,if_neg h,skp,if_neg h]
theorem suf_lt {l t:Tx} {c:UInt8} (h:skp l=c::t):t <:+ l/\t.length < l.length:=by
 have h1:=skp_suf l
 rw [h] at h1
 exact ⟨(List.suffix_cons c t).trans h1,by have:=h1.length_le;simp at this;omega⟩
theorem drop_suf (p:UInt8->Bool) (l:Tx):l.dropWhile p <:+ l:=List.dropWhile_suffix p
def Kd.str:Kd->Nat
 | .lo _ _=>0
 | _=>1
theorem rd_suf {k:Kd} {l:Tx} {r:Pr} (h:Rd k l r):r.left <:+ l/\(∀ e t,r = .ok e t->t.length+k.str<=l.length):=by
 have mp:∀ {r:Pr} {f:Ex->Ex},(r.map f).left=r.left:=fun {r f}=>by cases r <;> rfl
 have mo:∀ {r:Pr} {f:Ex->Ex} {e t},r.map f = .ok e t->∃ e',r = .ok e' t:=fun {r f e t} h=>by
  cases r with
  | ok a b=>simp only [Pr.map,Pr.ok.injEq] at h;exact ⟨a,by rw [h.2]⟩
  | bad b=>simp [Pr.map] at h
 induction h with
 | pa_ok h1 _ h2 ih=>
   have a:=suf_lt h1
   have b:=suf_lt h2
   have c:=ih.2 _ _ rfl
   have d:_ <:+ _:=ih.1
   simp only [Kd.str] at c ⊢
   refine ⟨b.1.trans (d.trans a.1),fun e t he=>?_⟩
   cases he;omega
 | pa_b1 _=>exact ⟨skp_suf _,fun e t he=>by cases he⟩
 | pa_b2 h1 _ ih=>exact ⟨ih.1.trans (suf_lt h1).1,fun e t he=>by cases he⟩
 | pa_b3 h1 _ _ ih=>exact ⟨(skp_suf _).trans (ih.1.trans (suf_lt h1).1),fun e t he=>by cases he⟩
 | num h1 h2 _=>
   have a:=suf_lt h1
   rename_i l t c _
   rw [List.dropWhile_cons,if_pos h2]
   have b:=drop_suf dig t
   refine ⟨b.trans a.1,fun e t he=>?_⟩
   cases he
   have:=b.length_le
   simp only [Kd.str]
   omega
 | numBad h1 _ _=>
   have:=h1 ▸ skp_suf _
   exact ⟨this,fun e t he=>by cases he⟩
 | var h1 _=>
   have a:=suf_lt h1
   refine ⟨a.1,fun e t he=>?_⟩
   cases he
   simp only [Kd.str];omega
 | root h1 _ ih=>
   have a:=suf_lt h1
   rw [mp]
   refine ⟨ih.1.trans a.1,fun e t he=>?_⟩
   obtain ⟨e',he⟩:=mo he
   have:=ih.2 _ _ he
   simp only [Kd.str] at this ⊢;omega
 | par _ _ ih=>exact ih
 | neg h1 _ ih=>
   have a:=suf_lt h1
   rw [mp]
   refine ⟨ih.1.trans a.1,fun e t he=>?_⟩
   obtain ⟨e',he⟩:=mo he
   have:=ih.2 _ _ he
   simp only [Kd.str] at this ⊢;omega
 | at_bad _ _ ih=>exact ⟨ih.1,fun e t he=>by cases he⟩
 | at_ok _ _ _ ih=>
   rename_i l t e _ _ _
   have a:=skp_suf t
   have b:=ih.2 _ _ rfl
   refine ⟨a.trans ih.1,fun e t he=>?_⟩
   cases he
   have:=a.length_le
   simp only [Kd.str] at b ⊢;omega
 | pow _ _ h2 _ ih1 ih2=>
   have a:=suf_lt h2
   have b:=ih1.2 _ _ rfl
   have c:_ <:+ _:=ih1.1
   rw [mp]
   refine ⟨ih2.1.trans (a.1.trans c),fun e t he=>?_⟩
   obtain ⟨e',he⟩:=mo he
   have:=ih2.2 _ _ he
   simp only [Kd.str] at b this ⊢;omega
 | lv_bad _ _ ih=>exact ⟨ih.1,fun e t he=>by cases he⟩
 | lv_ok _ _ _ ih1 ih2=>
   have b:=ih1.2 _ _ rfl
   have c:_ <:+ _:=ih1.1
   refine ⟨ih2.1.trans c,fun e t he=>?_⟩
   have:=ih2.2 _ _ he
   simp only [Kd.str] at b this ⊢;omega
 | lo_end _ _=>
   rename_i k e t _ _
   have a:=skp_suf t
   refine ⟨a,fun e t he=>?_⟩
   cases he
   have:=a.length_le
   simp only [Kd.str];omega
 | lo_bad _ h1 _ _ ih=>exact ⟨ih.1.trans (suf_lt h1).1,fun e t he=>by cases he⟩
 | lo_next _ h1 _ _ _ _ ih1 ih2=>
   have a:=suf_lt h1
   have b:=ih1.2 _ _ rfl
   have c:_ <:+ _:=ih1.1
   refine ⟨ih2.1.trans (c.trans a.1),fun e t he=>?_⟩
   have:=ih2.2 _ _ he
   simp only [Kd.str] at b this ⊢;omega
 | lo_zero h1 _ _ ih1=>
   have a:=suf_lt h1
   have b:=ih1.2 _ _ rfl
   have c:_ <:+ _:=ih1.1
   refine ⟨c.trans a.1,fun e t he=>?_⟩
   cases he
   simp only [Kd.str] at b ⊢;omega
theorem rd_ex:∀ n (l:Tx),l.length<=n->∀ k:Kd,(∀ m,k = .lv m->m<=3)->(∀ m e,k = .lo m e->m < 3)->∃ r,Rd k l r:=by
 intro n
 induction n using Nat.strongRecOn with
 | ind n IH=>
 intro l hl
 have sub:∀ t:Tx,t.length < l.length->∀ k:Kd,(∀ m,k = .lv m->m<=3)->(∀ m e,k = .lo m e->m < 3)->∃ r,Rd k t r:=fun t ht=>IH t.length (by omega) t (Nat.le_refl _)
 have lv:∀ t:Tx,t.length < l.length->∀ m,m<=3->∃ r,Rd (.lv m) t r:=fun t ht m hm=>sub t ht (.lv m) (fun m' h=>by cases h;exact hm) (fun _ _ h=>by cases h)
 have pa:∀ t:Tx,t.length<=l.length->∃ r,Rd .pa t r:=fun t ht=>by
  cases hs:skp t with
  | nil=>exact ⟨_,.pa_b1 (by rw [hs];simp)⟩
  | cons c t1=>
    have a:=suf_lt hs
    by_cases hc:c=40
    ·subst hc
     obtain ⟨r,hr⟩:=lv t1 (by omega) 1 (by omega)
     cases r with
     | bad b=>exact ⟨_,.pa_b2 hs hr⟩
     | ok e t2=>
       cases hs2:skp t2 with
       | nil=>exact ⟨_,.pa_b3 hs hr (by rw [hs2];simp)⟩
       | cons d t3=>
         by_cases hd:d=41
         ·subst hd;exact ⟨_,.pa_ok hs hr hs2⟩
         ·exact ⟨_,.pa_b3 hs hr (by rw [hs2];simpa using hd)⟩
    ·exact ⟨_,.pa_b1 (by rw [hs];simpa using hc)⟩
 have at':∃ r,Rd .at l r:=by
  cases hs:skp l with
  | nil=>
    obtain ⟨r,hr⟩:=pa l (Nat.le_refl _)
    exact ⟨r,.par (by rw [hs];simp) hr⟩
  | cons c t1=>
    have a:=suf_lt hs
    cases h1:dig c with
    | true=>
      cases h2:runOk ((c::t1).takeWhile dig) with
      | true=>exact ⟨_,.num hs h1 h2⟩
      | false=>exact ⟨_,.numBad hs h1 h2⟩
    | false=>
      cases h2:let1 c with
      | true=>exact ⟨_,.var hs h2⟩
      | false=>
        by_cases hc:c=82
        ·subst hc
         obtain ⟨r,hr⟩:=pa t1 (by omega)
         exact ⟨_,.root hs hr⟩
        ·obtain ⟨r,hr⟩:=pa l (Nat.le_refl _)
         refine ⟨r,.par (fun d hd=>?_) hr⟩
         rw [hs] at hd
         cases hd
         exact ⟨h1,h2,hc⟩
 have l3:∃ r,Rd (.lv 3) l r:=by
  have go:(skp l).head?≠some 45->∃ r,Rd (.lv 3) l r:=fun hh=>by
   obtain ⟨r,hr⟩:=at'
   cases r with
   | bad b=>exact ⟨_,.at_bad hh hr⟩
   | ok e t=>
     have b:=(rd_suf hr).2 _ _ rfl
     simp only [Kd.str] at b
     cases hs:skp t with
     | nil=>exact ⟨_,.at_ok hh hr (by rw [hs];simp)⟩
     | cons c t1=>
       have a:=suf_lt hs
       by_cases hc:c=94
       ·subst hc
        obtain ⟨r,hr'⟩:=lv t1 (by omega) 3 (by omega)
        exact ⟨_,.pow hh hr hs hr'⟩
       ·exact ⟨_,.at_ok hh hr (by rw [hs];simpa using hc)⟩
  cases hs:skp l with
  | nil=>exact go (by rw [hs];simp)
  | cons c t1=>
    have a:=suf_lt hs
    by_cases hc:c=45
    ·subst hc
     obtain ⟨r,hr⟩:=lv t1 (by omega) 3 (by omega)
     exact ⟨_,.neg hs hr⟩
    ·exact go (by rw [hs];simpa using hc)
 have lo:∀ (t:Tx),t.length<=l.length->∀ m e,m < 3->∃ r,Rd (.lo m e) t r:=fun t ht m e hm=>by
  cases hs:skp t with
  | nil=>exact ⟨_,.lo_end hm (by rw [hs];simp)⟩
  | cons c t1=>
    have a:=suf_lt hs
    cases ho:opAt m c with
    | none=>exact ⟨_,.lo_end hm (by rw [hs];intro d hd;cases hd;exact ho)⟩
    | some o=>
      obtain ⟨r,hr⟩:=lv t1 (by omega) (m+1) (by omega)
      cases r with
      | bad b=>exact ⟨_,.lo_bad hm hs ho hr⟩
      | ok f t2=>
        have b:=(rd_suf hr).2 _ _ rfl
        simp only [Kd.str] at b
        by_cases h0:m=0
        ·subst h0;exact ⟨_,.lo_zero hs ho hr⟩
        ·obtain ⟨r',hr'⟩:=sub t2 (by omega) (.lo m (.mk o 0 [e,f])) (fun _ h=>by cases h) (fun _ _ h=>by cases h;exact hm)
         exact ⟨_,.lo_next hm hs ho h0 hr hr'⟩
 have step:∀ m,m < 3->(∃ r,Rd (.lv (m+1)) l r)->∃ r,Rd (.lv m) l r:=fun m hm ⟨r,hr⟩=>by
  cases r with
  | bad b=>exact ⟨_,.lv_bad hm hr⟩
  | ok e t=>
    have b:=(rd_suf hr).2 _ _ rfl
    obtain ⟨r',hr'⟩:=lo t (by omega) m e hm
    exact ⟨_,.lv_ok hm hr hr'⟩
 have l2:=step 2 (by omega) l3
 have l1:=step 1 (by omega) l2
 have l0:=step 0 (by omega) l1
 intro k hk hk'
 cases k with
 | pa=>exact pa l (Nat.le_refl _)
 | «at»=>exact at'
 | lv m=>
   have:=hk m rfl
   match m with
   | 0=>exact l0
   | 1=>exact l1
   | 2=>exact l2
   | 3=>exact l3
   | m+4=>omega
 | lo m e=>exact lo l (Nat.le_refl _) m e (hk' m e rfl)
end Go.Proofs
/- Digits, and the text of a tree. -/
namespace Go.Proofs
open Go Go.Ax
theorem u8_of {n:Nat} (h:n < 256):(UInt8.ofNat n).toNat=n:=by simp;omega
theorem dig_of {d:Nat} (h:d < 10):dig (UInt8.ofNat (48+d))=true:=by
 have:d=0\/d=1\/d=2\/d=3\/d=4\/d=5\/d=6\/d=7\/d=8\/d=9:=by omega
 rcases this with rfl | rfl | rfl | rfl | rfl | rfl | rfl | rfl | rfl | rfl <;> decide
theorem dec_dig (u:Nat):∀ c ∈ Lib.decDigits u,dig c=true:=by
 induction u using Nat.strongRecOn with
 | _ u ih=>
   by_cases h:u < 10
   ·rw [Lib.decDigits_one h];intro c hc;rw [List.mem_singleton] at hc;subst hc;exact dig_of h
   ·rw [Lib.decDigits,dif_neg h]
    intro c hc
    rw [List.mem_append,List.mem_singleton] at hc
    rcases hc with hc | rfl
    ·exact ih (u / 10) (by omega) c hc
    ·exact dig_of (by omega)
theorem numD_app (l:Tx) (c:UInt8):numD (l++[c])=10 * numD l+((c.toNat:Int) - 48):=by simp [numD]
theorem numD_dec (u:Nat):numD (Lib.decDigits u)=u:=by
 induction u using Nat.strongRecOn with
 | _ u ih=>
   by_cases h:u < 10
   ·rw [Lib.decDigits_one h]
    simp only [numD,List.foldl]
    rw [u8_of (by omega)];omega
   ·rw [Lib.decDigits,dif_neg h,numD_app,ih (u / 10) (by omega),u8_of (by omega)];omega
theorem dec_ne (u:Nat):Lib.decDigits u≠[]:=fun h=>by
 have:=Lib.decDigits_length u
 rw [h] at this
 have h1:=Lib.nDigits_pos u
 simp at this;omega
theorem dec_h0:∀ u:Nat,1<=u->(Lib.decDigits u).head?≠some 48:=by
 intro u
 induction u using Nat.strongRecOn with
 | _ u ih=>
   intro h1
   by_cases h:u < 10
   ·rw [Lib.decDigits_one h]
    have:u=1\/u=2\/u=3\/u=4\/u=5\/u=6\/u=7\/u=8\/u=9:=by omega
    rcases this with rfl | rfl | rfl | rfl | rfl | rfl | rfl | rfl | rfl <;> decide
   ·rw [Lib.decDigits,dif_neg h]
    have:=ih (u / 10) (by omega) (by omega)
    have hn:=dec_ne (u / 10)
    cases hd:Lib.decDigits (u / 10) with
    | nil=>exact absurd hd hn
    | cons a b=>rw [hd] at this;simpa using this
theorem nDigits_le {u k:Nat} (hk:1<=k) (h:u < 10 ^ k):Lib.nDigits u<=k:=by
 induction k generalizing u with
 | zero=>omega
 | succ k ih=>
   by_cases h0:u < 10
   ·rw [Lib.nDigits_small h0];omega
   ·rw [Lib.nDigits_big h0]
    cases k with
    | zero=>simp at h;omega
    | succ k=>
      have:=ih (u:=u / 10) (by omega) (by rw [Nat.pow_succ] at h;omega)
      omega
theorem dec_len6 {u:Nat} (h:u<=999999):(Lib.decDigits u).length<=6:=by
 rw [Lib.decDigits_length];exact nDigits_le (by omega) (by omega)
theorem dec_run {u:Nat} (h:u<=999999):runOk (Lib.decDigits u)=true:=by
 unfold runOk
 rw [decide_eq_true (dec_len6 h),Bool.true_and]
 by_cases h0:u < 10
 ·rw [Lib.decDigits_one h0];rfl
 ·rw [decide_eq_false (dec_h0 u (by omega)),Bool.and_false];rfl
theorem tw_app {p:UInt8->Bool}:∀ {l r:Tx},(∀ c ∈ l,p c=true)->(∀ c,r.head?=some c->p c=false)->(l++r).takeWhile p=l/\(l++r).dropWhile p=r
 | [],[],_,_=>⟨rfl,rfl⟩
 | [],c::r,_,h=>by simp [h c rfl]
 | a::l,r,h1,h2=>by
   have:=tw_app (l:=l) (r:=r) (fun c hc=>h1 c (List.mem_cons_of_mem _ hc)) h2
   have ha:=h1 a (List.mem_cons_self ..)
   rw [List.cons_append,List.takeWhile_cons,List.dropWhile_cons,if_pos ha,if_pos ha,this.1,this.2]
   exact ⟨rfl,rfl⟩
def lvlN (o:Int):Nat:=if o=9\/o=10 then 0 else if o=3\/o=4 then 1 else if o=5\/o=6 then 2 else if o=2\/o=7 then 3 else 4
def sgnU (o:Int):UInt8:=if o=3 then 43 else if o=4 then 45 else if o=5 then 42 else if o=6 then 47 else if o=7 then 94 else if o=9 then 61 else 60
def atT (k:Nat) (p:Int×Tx):Tx:=if lvlN p.1 < k then 40::(p.2++[41]) else p.2
def opT (o n:Int) (l:List (Int×Tx)):Tx:=
 if o=0 then Lib.decDigits n.toNat
 else if o=1 then [UInt8.ofNat (97+n.toNat)]
 else if o=2 then 45::atT 3 (l.getD 0 (0,[]))
 else if o=8 then 82::40::(atT 1 (l.getD 0 (0,[]))++[41])
 else if o=7 then atT 4 (l.getD 0 (0,[]))++94::atT 3 (l.getD 1 (0,[]))
 else atT (max 1 (lvlN o)) (l.getD 0 (0,[]))++sgnU o::atT (lvlN o+1) (l.getD 1 (0,[]))
mutual
def txE:Ex->Tx
 | .mk o n ks=>opT o n (txL ks)
def txL:List Ex->List (Int×Tx)
 | []=>[]
 | k::l=>(k.op,txE k)::txL l
end
def atE (k:Nat) (e:Ex):Tx:=atT k (e.op,txE e)
theorem atE_hi {k:Nat} {e:Ex} (h:k<=lvlN e.op):atE k e=txE e:=by
 unfold atE atT
 rw [if_neg]
 show ¬ lvlN e.op < k
 omega
theorem atE_lo {k:Nat} {e:Ex} (h:lvlN e.op < k):atE k e=40::(txE e++[41]):=by
 unfold atE atT
 rw [if_pos]
 show lvlN e.op < k
 omega
theorem txE_num {n:Int}:txE (.mk 0 n [])=Lib.decDigits n.toNat:=rfl
theorem txE_var {n:Int}:txE (.mk 1 n [])=[UInt8.ofNat (97+n.toNat)]:=rfl
theorem txE_neg {n:Int} {a:Ex}:txE (.mk 2 n [a])=45::atE 3 a:=rfl
theorem txE_root {n:Int} {a:Ex}:txE (.mk 8 n [a])=82::40::(atE 1 a++[41]):=rfl
theorem txE_pow {n:Int} {a b:Ex}:txE (.mk 7 n [a,b])=atE 4 a++94::atE 3 b:=rfl
theorem txE_two {o n:Int} {a b:Ex} (h:o=3\/o=4\/o=5\/o=6\/o=9\/o=10):txE (.mk o n [a,b])=atE (max 1 (lvlN o)) a++sgnU o::atE (lvlN o+1) b:=by
 rcases h with rfl | rfl | rfl | rfl | rfl | rfl <;> rfl
end Go.Proofs
/- What is printed is read as the tree. -/
namespace Go.Proofs
open Go Go.Ax
inductive Wf:Ex->Prop
 | num {n:Int}:0<=n->n<=999999->Wf (.mk 0 n [])
 | var {n:Int}:0<=n->n<=25->Wf (.mk 1 n [])
 | neg {a:Ex}:Wf a->Wf (.mk 2 0 [a])
 | root {a:Ex}:Wf a->Wf (.mk 8 0 [a])
 | pow {a b:Ex}:Wf a->Wf b->Wf (.mk 7 0 [a,b])
 | two {o:Int} {a b:Ex}:o=3\/o=4\/o=5\/o=6->Wf a->Wf b->Wf (.mk o 0 [a,b])
def Ends (k:Nat) (r:Tx):Prop:=(∀ c,r.head?=some c->dig c=false)/\∀ c,(skp r).head?=some c->(k<=3->c≠94)/\(k<=2->opAt 2 c=none)/\(k<=1->opAt 1 c=none)/\(k<=0->opAt 0 c=none)
theorem Ends.up {k j:Nat} {r:Tx} (h:Ends k r) (hk:k<=j):Ends j r:=
 ⟨h.1,fun c hc=>⟨fun x=>(h.2 c hc).1 (by omega),fun x=>(h.2 c hc).2.1 (by omega),fun x=>(h.2 c hc).2.2.1 (by omega),fun x=>(h.2 c hc).2.2.2 (by omega)⟩⟩
theorem Ends.nil {k:Nat}:Ends k []:=⟨fun c h=>(by cases h),fun c h=>(by cases h)⟩
theorem skp_ne {c:UInt8} {t:Tx} (h:c≠32):skp (c::t)=c::t:=by rw [skp,if_neg h]
theorem Ends.par {k:Nat} {r:Tx}:Ends k (41::r):=⟨fun c h=>by cases h;rfl,fun c h=>by
 rw [skp_ne (by decide)] at h
 cases h
 exact ⟨fun _=>by decide,fun _=>rfl,fun _=>rfl,fun _=>rfl⟩⟩
structure Reads (e:Ex):Prop where
 a1:∀ r,Ends 1 r->Rd (.lv 1) (atE 1 e++r) (.ok e (skp r))
 a2:∀ r,Ends 2 r->Rd (.lv 2) (atE 2 e++r) (.ok e (skp r))
 a3:∀ r,Ends 3 r->Rd (.lv 3) (atE 3 e++r) (.ok e (skp r))
 a4:∀ r,Ends 4 r->Rd .at (atE 4 e++r) (.ok e r)
 b1:∀ r R,Ends 2 r->Rd (.lo 1 e) (skp r) R->Rd (.lv 1) (atE 1 e++r) R
 b2:∀ r R,Ends 3 r->Rd (.lo 2 e) (skp r) R->Rd (.lv 2) (atE 2 e++r) R
theorem dig_cases {c:UInt8} (h:dig c=true):48<=c.toNat/\c.toNat<=57:=by
 unfold dig at h
 rw [Bool.and_eq_true] at h
 have h1:=of_decide_eq_true h.1
 have h2:=of_decide_eq_true h.2
 exact ⟨UInt8.le_iff_toNat_le.1 h1,UInt8.le_iff_toNat_le.1 h2⟩
theorem dig_not {c:UInt8} (h:c.toNat < 48\/57 < c.toNat):dig c=false:=by
 cases hd:dig c with
 | false=>rfl
 | true=>have:=dig_cases hd;omega
theorem dec_cons (u:Nat):∃ c t,Lib.decDigits u=c::t/\dig c=true:=by
 cases h:Lib.decDigits u with
 | nil=>exact absurd h (dec_ne u)
 | cons c t=>exact ⟨c,t,rfl,dec_dig u c (by rw [h];exact List.mem_cons_self ..)⟩
theorem lvl_wf {e:Ex} (h:Wf e):1<=lvlN e.op/\lvlN e.op<=4:=by
 cases h with
 | num _ _=>exact (by decide:1<=lvlN 0/\lvlN 0<=4)
 | var _ _=>exact (by decide:1<=lvlN 1/\lvlN 1<=4)
 | neg _=>exact (by decide:1<=lvlN 2/\lvlN 2<=4)
 | root _=>exact (by decide:1<=lvlN 8/\lvlN 8<=4)
 | pow _ _=>exact (by decide:1<=lvlN 7/\lvlN 7<=4)
 | two h _ _=>
   show 1<=lvlN _/\lvlN _<=4
   rcases h with rfl | rfl | rfl | rfl
   ·exact (by decide:1<=lvlN 3/\lvlN 3<=4)
   ·exact (by decide:1<=lvlN 4/\lvlN 4<=4)
   ·exact (by decide:1<=lvlN 5/\lvlN 5<=4)
   ·exact (by decide:1<=lvlN 6/\lvlN 6<=4)
theorem ne_of_nat {c d:UInt8} (h:c.toNat≠d.toNat):c≠d:=fun e=>h (by rw [e])
theorem atE_head {e:Ex} (h:Wf e):∃ c t,atE 4 e=c::t/\c≠32/\c≠45:=by
 by_cases hl:lvlN e.op < 4
 ·exact ⟨40,_,atE_lo hl,by decide,by decide⟩
 ·rw [atE_hi (by omega)]
  cases h with
  | num _ _=>
    rw [txE_num]
    obtain ⟨c,t,h1,h2⟩:=dec_cons _
    have:=dig_cases h2
    exact ⟨c,t,h1,ne_of_nat (by show c.toNat≠32;omega),ne_of_nat (by show c.toNat≠45;omega)⟩
  | var h0 h1=>
    rename_i n
    rw [txE_var]
    have:=u8_of (n:=97+n.toNat) (by omega)
    exact ⟨_,_,rfl,ne_of_nat (by rw [this];show _≠32;omega),ne_of_nat (by rw [this];show _≠45;omega)⟩
  | root _=>exact ⟨82,_,rfl,by decide,by decide⟩
  | neg _=>exact absurd (show lvlN 2 < 4 by decide) hl
  | pow _ _=>exact absurd (show lvlN 7 < 4 by decide) hl
  | two h _ _=>
    rcases h with rfl | rfl | rfl | rfl
    ·exact absurd (show lvlN 3 < 4 by decide) hl
    ·exact absurd (show lvlN 4 < 4 by decide) hl
    ·exact absurd (show lvlN 5 < 4 by decide) hl
    ·exact absurd (show lvlN 6 < 4 by decide) hl
theorem a3_of {e:Ex} (h:Wf e) (he:atE 3 e=atE 4 e) (a4:∀ r,Ends 4 r->Rd .at (atE 4 e++r) (.ok e r)) (r:Tx) (hr:Ends 3 r):Rd (.lv 3) (atE 3 e++r) (.ok e (skp r)):=by
 obtain ⟨c,t,h1,h2,h3⟩:=atE_head h
 have:=a4 r (hr.up (by omega))
 rw [he]
 refine .at_ok ?_ this fun hh=>(hr.2 _ hh).1 (by omega) rfl
 rw [h1,List.cons_append,skp_ne h2]
 simpa using h3
theorem b_of {e:Ex} {k:Nat} (hk:k < 3) (he:atE k e=atE (k+1) e) (a:∀ r,Ends (k+1) r->Rd (.lv (k+1)) (atE (k+1) e++r) (.ok e (skp r))) (r:Tx) (R:Pr) (hr:Ends (k+1) r) (h:Rd (.lo k e) (skp r) R):Rd (.lv k) (atE k e++r) R:=by
 rw [he]
 exact .lv_ok hk (a r hr) h
theorem a1_of {e:Ex} (b:∀ r R,Ends 2 r->Rd (.lo 1 e) (skp r) R->Rd (.lv 1) (atE 1 e++r) R) (r:Tx) (hr:Ends 1 r):Rd (.lv 1) (atE 1 e++r) (.ok e (skp r)):=by
 refine b r _ (hr.up (by omega)) ?_
 have:=Rd.lo_end (k:=1) (e:=e) (t:=skp r) (by omega) (fun c hc=>by rw [skp_skp] at hc;exact (hr.2 c hc).2.2.1 (by omega))
 rwa [skp_skp] at this
theorem a2_of {e:Ex} (b:∀ r R,Ends 3 r->Rd (.lo 2 e) (skp r) R->Rd (.lv 2) (atE 2 e++r) R) (r:Tx) (hr:Ends 2 r):Rd (.lv 2) (atE 2 e++r) (.ok e (skp r)):=by
 refine b r _ (hr.up (by omega)) ?_
 have:=Rd.lo_end (k:=2) (e:=e) (t:=skp r) (by omega) (fun c hc=>by rw [skp_skp] at hc;exact (hr.2 c hc).2.1 (by omega))
 rwa [skp_skp] at this
theorem a4_of {e:Ex} (h:lvlN e.op < 4) (h1:1<=lvlN e.op) (a1:∀ r,Ends 1 r->Rd (.lv 1) (atE 1 e++r) (.ok e (skp r))) (r:Tx):Rd .at (atE 4 e++r) (.ok e r):=by
 rw [atE_lo h]
 have a:=a1 (41::r) .par
 rw [atE_hi h1,skp_ne (by decide)] at a
 have e1:40::(txE e++[41])++r=40::(txE e++41::r):=by simp
 rw [e1]
 refine .par (fun c hc=>?_) (.pa_ok (t:=txE e++41::r) (skp_ne (by decide)) a (skp_ne (by decide)))
 rw [skp_ne (by decide)] at hc
 cases hc
 exact ⟨rfl,rfl,by decide⟩
theorem reads4 {e:Ex} (h:Wf e) (hl:lvlN e.op=4) (a4:∀ r,Ends 4 r->Rd .at (atE 4 e++r) (.ok e r)):Reads e:=by
 have eq:∀ j k,j<=4->k<=4->atE j e=atE k e:=fun j k hj hk=>by rw [atE_hi (by omega),atE_hi (by omega)]
 have a3:=a3_of h (eq 3 4 (by omega) (by omega)) a4
 have b2:=b_of (k:=2) (by omega) (eq 2 3 (by omega) (by omega)) a3
 have a2:=a2_of b2
 have b1:=b_of (k:=1) (by omega) (eq 1 2 (by omega) (by omega)) a2
 exact ⟨a1_of b1,a2,a3,a4,b1,b2⟩
theorem reads3 {e:Ex} (hl:lvlN e.op=3) (a3:∀ r,Ends 3 r->Rd (.lv 3) (atE 3 e++r) (.ok e (skp r))):Reads e:=by
 have eq:∀ j k,j<=3->k<=3->atE j e=atE k e:=fun j k hj hk=>by rw [atE_hi (by omega),atE_hi (by omega)]
 have b2:=b_of (k:=2) (by omega) (eq 2 3 (by omega) (by omega)) a3
 have a2:=a2_of b2
 have b1:=b_of (k:=1) (by omega) (eq 1 2 (by omega) (by omega)) a2
 have a1:=a1_of b1
 exact ⟨a1,a2,a3,fun r _=>a4_of (by omega) (by omega) a1 r,b1,b2⟩
theorem reads2 {e:Ex} (h:Wf e) (hl:lvlN e.op=2) (b2:∀ r R,Ends 3 r->Rd (.lo 2 e) (skp r) R->Rd (.lv 2) (atE 2 e++r) R):Reads e:=by
 have a2:=a2_of b2
 have b1:=b_of (k:=1) (by omega) (by rw [atE_hi (by omega),atE_hi (by omega)]) a2
 have a1:=a1_of b1
 have a4:=a4_of (by omega) (by omega) a1
 have a3:=a3_of h (by rw [atE_lo (by omega),atE_lo (by omega)]) (fun r _=>a4 r)
 exact ⟨a1,a2,a3,fun r _=>a4 r,b1,b2⟩
theorem reads1 {e:Ex} (h:Wf e) (hl:lvlN e.op=1) (b1:∀ r R,Ends 2 r->Rd (.lo 1 e) (skp r) R->Rd (.lv 1) (atE 1 e++r) R):Reads e:=by
 have a1:=a1_of b1
 have a4:=a4_of (by omega) (by omega) a1
 have a3:=a3_of h (by rw [atE_lo (by omega),atE_lo (by omega)]) (fun r _=>a4 r)
 have b2:=b_of (k:=2) (by omega) (by rw [atE_lo (by omega),atE_lo (by omega)]) a3
 exact ⟨a1,a2_of b2,a3,fun r _=>a4 r,b1,b2⟩
theorem ends_op {o:Int} {k:Nat} {r:Tx} (h:(k=1/\(o=3\/o=4))\/(k=2/\(o=5\/o=6))):Ends (k+1) (sgnU o::r)/\skp (sgnU o::r)=sgnU o::r/\opAt k (sgnU o)=some o/\lvlN o=k:=by
 rcases h with ⟨rfl,rfl | rfl⟩ | ⟨rfl,rfl | rfl⟩ <;>
 refine ⟨⟨fun c h=>by cases h;rfl,fun c h=>?_⟩,skp_ne (by decide),rfl,rfl⟩ <;>
 rw [skp_ne (by decide)] at h <;> cases h <;>
 exact ⟨fun _=>by decide,fun _=>by first | rfl | omega,fun _=>by first | rfl | omega,fun _=>rfl⟩
theorem ends_pow {r:Tx}:Ends 4 (94::r):=⟨fun c h=>by cases h;rfl,fun c h=>⟨fun x=>by omega,fun x=>by omega,fun x=>by omega,fun x=>by omega⟩⟩
theorem reads {e:Ex} (h:Wf e):Reads e:=by
 induction h with
 | num h0 h1=>
   rename_i n
   refine reads4 (.num h0 h1) rfl fun r hr=>?_
   rw [atE_hi (show 4<=lvlN 0 by decide),txE_num]
   obtain ⟨c,t,e1,e2⟩:=dec_cons n.toNat
   have hc:=dig_cases e2
   have tw:=tw_app (p:=dig) (l:=Lib.decDigits n.toNat) (r:=r) (dec_dig _) hr.1
   have:=Rd.num (l:=Lib.decDigits n.toNat++r) (c:=c) (t:=t++r) (by rw [e1,List.cons_append,skp_ne (ne_of_nat (by show c.toNat≠32;omega))]) e2 (by
    rw [← List.cons_append,← e1,tw.1];exact dec_run (by omega))
   rw [← List.cons_append,← e1,tw.1,tw.2,numD_dec,Int.toNat_of_nonneg h0] at this
   exact this
 | var h0 h1=>
   rename_i n
   refine reads4 (.var h0 h1) rfl fun r hr=>?_
   rw [atE_hi (show 4<=lvlN 1 by decide),txE_var]
   have hc:=u8_of (n:=97+n.toNat) (by omega)
   generalize UInt8.ofNat (97+n.toNat)=c at hc
   have:=Rd.var (l:=c::r) (c:=c) (t:=r) (skp_ne (ne_of_nat (by show c.toNat≠32;omega))) (by
    unfold let1
    rw [decide_eq_true (UInt8.le_iff_toNat_le.2 (by show 97<=c.toNat;omega)),decide_eq_true (UInt8.le_iff_toNat_le.2 (by show c.toNat<=122;omega))];rfl)
   rw [hc,show ((97+n.toNat:Nat):Int) - 97=n by omega] at this
   exact this
 | neg ha ih=>
   rename_i a
   refine reads3 rfl fun r hr=>?_
   rw [atE_hi (show 3<=lvlN 2 by decide),txE_neg]
   exact .neg (t:=atE 3 a++r) (skp_ne (by decide)) (ih.a3 r hr)
 | root ha ih=>
   rename_i a
   refine reads4 (.root ha) rfl fun r hr=>?_
   rw [atE_hi (show 4<=lvlN 8 by decide),txE_root]
   have a:=ih.a1 (41::r) .par
   rw [skp_ne (by decide)] at a
   have e1:∀ x:Tx,82::40::(x++[41])++r=82::40::(x++41::r):=by simp
   rw [e1]
   exact .root (skp_ne (by decide)) (.pa_ok (skp_ne (by decide)) a (skp_ne (by decide)))
 | pow ha hb iha ihb=>
   rename_i a b
   refine reads3 rfl fun r hr=>?_
   rw [atE_hi (show 3<=lvlN 7 by decide),txE_pow,List.append_assoc,List.cons_append]
   obtain ⟨c,t,h1,h2,h3⟩:=atE_head ha
   refine .pow ?_ (iha.a4 _ ends_pow) (skp_ne (by decide)) (ihb.a3 r hr)
   rw [h1,List.cons_append,skp_ne h2]
   simpa using h3
 | two ho ha hb iha ihb=>
   rename_i o a b
   have hw:=Wf.two ho ha hb
   have tx:txE (.mk o 0 [a,b])=_:=txE_two (by omega)
   by_cases h1:o=3\/o=4
   ·have hl:lvlN o=1:=by rcases h1 with rfl | rfl <;> rfl
    refine reads1 hw hl fun r R hr hR=>?_
    have eo:=ends_op (o:=o) (k:=1) (r:=atE 2 b++r) (.inl ⟨rfl,h1⟩)
    rw [atE_hi (show 1<=lvlN o by omega),tx,hl,List.append_assoc,List.cons_append]
    refine iha.b1 _ R eo.1 ?_
    rw [eo.2.1]
    exact .lo_next (by omega) eo.2.1 eo.2.2.1 (by omega) (ihb.a2 r hr) hR
   ·have hl:lvlN o=2:=by rcases ho with rfl | rfl | rfl | rfl <;> first | rfl | (exact absurd (by simp) h1)
    refine reads2 hw hl fun r R hr hR=>?_
    have eo:=ends_op (o:=o) (k:=2) (r:=atE 3 b++r) (.inr ⟨rfl,by omega⟩)
    rw [atE_hi (show 2<=lvlN o by omega),tx,hl,List.append_assoc,List.cons_append]
    refine iha.b2 _ R eo.1 ?_
    rw [eo.2.1]
    exact .lo_next (by omega) eo.2.1 eo.2.2.1 (by omega) (ihb.a3 r hr) hR
inductive WfR:Ex->Prop
 | tree {e:Ex}:Wf e->WfR e
 | rel {o:Int} {a b:Ex}:o=9\/o=10->Wf a->Wf b->WfR (.mk o 0 [a,b])
theorem reads_rel {o:Int} {a b:Ex} (ho:o=9\/o=10) {x y r:Tx} (hx:∀ r,Ends 1 r->Rd (.lv 1) (x++r) (.ok a (skp r))) (hy:∀ r,Ends 1 r->Rd (.lv 1) (y++r) (.ok b (skp r))) (hr:Ends 1 r):Rd (.lv 0) (x++sgnU o::(y++r)) (.ok (.mk o 0 [a,b]) (skp r)):=by
 have e:Ends 1 (sgnU o::(y++r))/\skp (sgnU o::(y++r))=sgnU o::(y++r)/\opAt 0 (sgnU o)=some o:=by
  rcases ho with rfl | rfl <;>
  refine ⟨⟨fun c h=>by cases h;rfl,fun c h=>?_⟩,skp_ne (by decide),rfl⟩ <;>
  rw [skp_ne (by decide)] at h <;> cases h <;>
  exact ⟨fun _=>by decide,fun _=>rfl,fun _=>rfl,fun _=>by omega⟩
 refine .lv_ok (by omega) (hx _ e.1) ?_
 exact .lo_zero (by rw [skp_skp];exact e.2.1) e.2.2 (hy r hr)
theorem reads_tree {e:Ex} {x r:Tx} (hx:∀ r,Ends 1 r->Rd (.lv 1) (x++r) (.ok e (skp r))) (hr:Ends 0 r):Rd (.lv 0) (x++r) (.ok e (skp r)):=by
 refine .lv_ok (by omega) (hx r (hr.up (by omega))) ?_
 have:=Rd.lo_end (k:=0) (e:=e) (t:=skp r) (by omega) (fun c hc=>by rw [skp_skp] at hc;exact (hr.2 c hc).2.2.2 (by omega))
 rwa [skp_skp] at this
theorem reads0 {e:Ex} (h:WfR e):Rd (.lv 0) (txE e) (.ok e []):=by
 cases h with
 | tree h=>
   have:=reads_tree (reads h).a1 (Ends.nil (k:=0))
   rwa [List.append_nil,atE_hi (lvl_wf h).1] at this
 | rel ho ha hb=>
   have:=reads_rel ho (reads ha).a1 (reads hb).a1 (Ends.nil (k:=1))
   rw [List.append_nil] at this
   rw [txE_two (.inr (.inr (.inr (.inr ho))))]
   rcases ho with rfl | rfl <;> exact this
end Go.Proofs
/- A text that is read as a tree has at least the parentheses that the tree asks for. -/
namespace Go.Proofs
open Go Go.Ax
abbrev cn (l:Tx):Nat:=l.count 40
theorem ite2 {c a b:UInt8} {x y o:Int} (h:(if c=a then some x else if c=b then some y else none)=some o):(c=a/\o=x)\/(c=b/\o=y):=by
 by_cases h1:c=a
 ·rw [if_pos h1] at h;exact .inl ⟨h1,(Option.some.inj h).symm⟩
 ·rw [if_neg h1] at h
  by_cases h2:c=b
  ·rw [if_pos h2] at h;exact .inr ⟨h2,(Option.some.inj h).symm⟩
  ·rw [if_neg h2] at h;cases h
theorem op_lvl {k:Nat} {c:UInt8} {o:Int} (h:opAt k c=some o):lvlN o=k/\sgnU o=c/\(o=3\/o=4\/o=5\/o=6\/o=9\/o=10):=by
 match k,h with
 | 0,h=>rcases ite2 h with ⟨rfl,rfl⟩ | ⟨rfl,rfl⟩ <;> exact ⟨rfl,rfl,by omega⟩
 | 1,h=>rcases ite2 h with ⟨rfl,rfl⟩ | ⟨rfl,rfl⟩ <;> exact ⟨rfl,rfl,by omega⟩
 | 2,h=>rcases ite2 h with ⟨rfl,rfl⟩ | ⟨rfl,rfl⟩ <;> exact ⟨rfl,rfl,by omega⟩
 | k+3,h=>simp [opAt] at h
theorem map_ok {r:Pr} {f:Ex->Ex} {e:Ex} {t:Tx} (h:r.map f = .ok e t):∃ e',r = .ok e' t/\e=f e':=by
 cases r with
 | ok a b=>simp only [Pr.map,Pr.ok.injEq] at h;exact ⟨a,by rw [h.2],h.1.symm⟩
 | bad b=>simp [Pr.map] at h
end Go.Proofs
/- Blanks, and parentheses around the whole, do not change what is read. -/
namespace Go.Proofs
open Go Go.Ax
inductive Sp:Bool->Tx->Tx->Prop
 | nil {p:Bool}:Sp p [] []
 | cons {p:Bool} {c:UInt8} {l m:Tx}:Sp (dig c) l m->Sp p (c::l) (c::m)
 | blank {p:Bool} {l m:Tx}:(p=true->∀ c,l.head?=some c->dig c=false)->Sp p l m->Sp p l (32::m)
theorem Sp.rfl:∀ {l:Tx} {p:Bool},Sp p l l
 | [],_=>.nil
 | _::_,_=>.cons Sp.rfl
theorem Sp.any {l m:Tx} {p:Bool} (h:Sp p l m):Sp false l m:=by
 induction h with
 | nil=>exact .nil
 | cons h _=>exact .cons h
 | blank _ _ ih=>exact .blank (fun h=>by cases h) ih
theorem Sp.tail {l m:Tx} {p:Bool} (h:Sp p l m):Sp p l (m++[32]):=by
 induction h with
 | nil=>exact .blank (fun _ c h=>by cases h) .nil
 | cons _ ih=>exact .cons ih
 | blank h _ ih=>exact .blank h ih
end Go.Proofs
