/- AnswerNormal in plain words. Conditions are in the theorems. -/
import Derived.Test.YtmbdfpgaokbkkaaDoorG2
import Derived.Test.YtmbdfpgaokbkkaaDoorF6
/- Normal by the pen, own and of the reference. -/
namespace Go.Proofs
open Go Go.Ax Go.Ax.Alg
abbrev PR:Type:=List (List Bool)
def rowB:List Bool:=List.replicate 127 false
def blankP:PR:=List.replicate 40 rowB
def onP (e:Tri):Bool:=decide (0<=e.1)&&decide (e.1 < 40)&&decide (32<=e.2.1)&&decide (e.2.1<=126)&&(decide (e.2.2=0)||decide (e.2.2=1))
def stepP (P:PR) (e:Tri):PR:=if onP e=true then P.set e.1.toNat ((P.getD e.1.toNat []).set e.2.1.toNat (decide (e.2.2=1))) else P
structure IP (P:PR):Prop where
 l:P.length=40
 r:∀ (i:Nat) (r:List Bool),P[i]?=some r->r.length=127
theorem IP.at {P:PR} (h:IP P) {i:Nat} (hi:i < 40):∃ r,P[i]?=some r/\r.length=127:=by
 have hi':i < P.length:=by rw [h.l];exact hi
 exact ⟨P[i],List.getElem?_eq_getElem hi',h.r i _ (List.getElem?_eq_getElem hi')⟩
theorem on_iff {e:Tri} (h:onP e=true):0<=e.1/\e.1 < 40/\32<=e.2.1/\e.2.1<=126:=by
 unfold onP at h;simp only [Bool.and_eq_true,decide_eq_true_eq] at h;exact ⟨h.1.1.1.1,h.1.1.1.2,h.1.1.2,h.1.2⟩
theorem IP.step {P:PR} (h:IP P) (e:Tri):IP (stepP P e):=by
 unfold stepP;split
 ·rename_i ho
  have hb:=on_iff ho;obtain ⟨r,hr,hl⟩:=h.at (i:=e.1.toNat) (by omega);refine ⟨by rw [List.length_set];exact h.l,fun i q hq=>?_⟩;rw [List.getElem?_set] at hq;split at hq
  ·split at hq
   ·cases hq
    rw [List.length_set,List.getD_eq_getElem?_getD,hr];exact hl
   ·cases hq
  ·exact h.r i q hq
 ·exact h
def foldP (P:PR) (l:List Ev):PR:=l.foldl (fun s e=>stepP s e.2.2) P
theorem IP.fold:∀ (l:List Ev) {P:PR},IP P->IP (foldP P l)
 | [],_,h=>h
 | e::l,_,h=>IP.fold l (h.step e.2.2)
theorem ip0:IP blankP:=by
 refine ⟨List.length_replicate,fun i r h=>?_⟩;unfold blankP at h;rw [List.getElem?_replicate] at h;split at h
 ·cases h;exact List.length_replicate
 ·cases h
structure Rl (F:List Bool) (P:PR):Prop where
 l:F.length=5080
 r:∀ i,i < 40->P[i]?=some ((F.drop (i * 127)).take 127)
theorem rl0:Rl (List.replicate 5080 false) blankP:=by
 refine ⟨List.length_replicate,fun i hi=>?_⟩;unfold blankP rowB;rw [List.getElem?_replicate,if_pos hi,List.drop_replicate,List.take_replicate,Nat.min_eq_left (by omega)]
theorem Rl.set {F:List Bool} {P:PR} (h:Rl F P) {i j:Nat} (hi:i < 40) (hj:j < 127) (v:Bool):Rl (F.set (i * 127+j) v) (P.set i ((P.getD i []).set j v)):=by
 refine ⟨by rw [List.length_set];exact h.l,fun q hq=>?_⟩;have hl:P.length=40\/40 < P.length:=by
  have:=h.r 39 (by omega);have:=(List.getElem?_eq_some_iff.1 this).1;omega
 rw [List.getElem?_set,List.drop_set];by_cases e:i=q
 ·subst e
  rw [if_pos rfl,if_pos (by omega),if_neg (by omega),List.take_set,show i * 127+j - i * 127=j by omega,List.getD_eq_getElem?_getD,h.r i hi];rfl
 ·rw [if_neg e,h.r q hq]
  by_cases hlt:i * 127+j < q * 127
  ·rw [if_pos hlt]
  ·rw [if_neg hlt,List.take_set,List.set_eq_of_length_le (by rw [List.length_take,List.length_drop];omega)]
theorem p80_eq (N:Nat) {F:List Bool} {P:PR} (h:Rl F P) (x y k a b:Int):∃ F',p80z N x y k a b F=some F'/\Rl F' (stepP P (k,a,b)):=by
 unfold p80z p80 p80G stepP;rw [w19_P,Bool.or_true,ck_t,w19_Y];have e:(decide (0<=k)&&decide (k < 40)&&(decide (32<=a)&&decide (a<=126))&&(decide (b=0)||decide (b=1)))=onP (k,a,b):=by
  unfold onP;cases decide (0<=k) <;> cases decide (k < 40) <;> cases decide (32<=a) <;> cases decide (a<=126) <;> rfl
 rw [e];by_cases ho:onP (k,a,b)=true
 ·have hb:=on_iff ho
  dsimp only at hb
  have hj:(0:Nat)+k.toNat * 127+a.toNat * 1=k.toNat * 127+a.toNat:=by omega
  have g:F[k.toNat * 127+a.toNat]?=some (F[k.toNat * 127+a.toNat]'(by rw [h.l];omega)):=List.getElem?_eq_getElem _;rw [if_pos ho,ho,br_t,ck_of (decide_eq_true ⟨hb.1,hb.2.1⟩),ck_of (decide_eq_true ⟨by omega,by omega⟩),hj,gn_of g];exact ⟨_,rfl,h.set (by omega) (by omega) _⟩
 ·rw [if_neg ho,Bool.eq_false_iff.2 ho,br_f]
  exact ⟨F,rfl,h⟩
theorem p13_loop (N:Nat) (k o:Int) (l:List Ev) (hl:l.length<=1000000) (K0:Int×Int×List Bool->O) (K1 K2:Unit->O):∀ (n i:Nat) (F:List Bool) (P:PR),Rl F P->l.length - i < n->i<=l.length->
    ∃ F',p13l0 N n (k,o,l,(l.length:Int),(i:Int),F) K0 K1 K2=K0 (k,o,F')/\Rl F' (foldP P (l.drop i))
 | 0,i,_,_,_,h,_=>by omega
 | n+1,i,F,P,hs,h,hi=>by
   have e:p13l0 N (n+1) (k,o,l,(l.length:Int),(i:Int),F) K0 K1 K2=p13F0 N (fun v0 v1=>p13l0 N n (k,o,l,(l.length:Int),v0,v1) K0 K1 K2) (fun y0 y1 y2=>K0 (y0,y1,y2)) k o l (l.length:Int) (i:Int) F:=rfl;rw [e];unfold p13F0;by_cases hlt:i < l.length
   ·have g:=List.getElem?_eq_getElem hlt
    have hd:=drop_at g;generalize l[i]=ev at g hd;obtain ⟨x,y,q,a,b⟩:=ev;obtain ⟨F',e80,hF⟩:=p80_eq N hs x y q a b;have p:p80p N x y q a b F=true:=by unfold p80p;rw [e80];rfl
    have y0:p80y0 N x y q a b F=F':=by unfold p80y0;rw [e80];rfl
    rw [decide_eq_true (show (i:Int) < (l.length:Int) by omega),br_t,gx_at g,hd]
    dsimp only
    rw [ck_of p,y0,wr (by omega) (by omega),show (i:Int)+1=((i+1:Nat):Int) by omega];exact p13_loop N k o l hl K0 K1 K2 n (i+1) F' _ hF (by omega) (by omega)
   ·rw [decide_eq_false (show ¬ (i:Int) < (l.length:Int) by omega),br_f,List.drop_eq_nil_of_le (by omega)]
    exact ⟨F,rfl,hs⟩
def cntB:List Bool->Nat
 | []=>0
 | true::l=>cntB l+1
 | false::l=>cntB l
def fstT (i:Nat):List Bool->Option Nat
 | []=>none
 | true::_=>some i
 | false::l=>fstT (i+1) l
def lstT (c i:Nat):List Bool->Nat
 | []=>c
 | true::l=>lstT i (i+1) l
 | false::l=>lstT c (i+1) l
theorem lst_0:∀ (l:List Bool) (c i:Nat),cntB l=0->lstT c i l=c
 | [],_,_,_=>rfl
 | true::l,c,i,h=>by simp [cntB] at h
 | false::l,c,i,h=>lst_0 l c (i+1) h
theorem fst_0:∀ (l:List Bool) (i:Nat),cntB l=0->fstT i l=none
 | [],_,_=>rfl
 | true::l,i,h=>by simp [cntB] at h
 | false::l,i,h=>fst_0 l (i+1) h
theorem fst_1:∀ (l:List Bool) (c i:Nat),cntB l=1->fstT i l=some (lstT c i l)
 | [],_,_,h=>by simp [cntB] at h
 | true::l,c,i,h=>by
   have h:cntB l+1=1:=h;show some i=some (lstT i (i+1) l);rw [lst_0 l i (i+1) (by omega)]
 | false::l,c,i,h=>fst_1 l c (i+1) h
def addF (e:Bool) (m:Nat) (b:List UInt8) (x:Option Nat):List UInt8:=if e=false/\m=0 then (match x with | some x=>b++[u8of (x:Int)] | none=>b) else b
theorem p84_l0 (N:Nat) (x0:List UInt8) (x1:Int) (e bh:Bool) (A:List Bool) (q:Int) (r:List Bool) (hr:r.length=127) (h:List Bool) (K0:List UInt8×Int×Bool×Bool×List Bool×Int×Int×List Bool×List UInt8->O) (K1 K2:Unit->O):∀ (n c m:Nat) (b:List UInt8),127 - c < n->c<=127->m<=c->b.length<=40->
    p84l0 N n (x0,x1,e,bh,A,q,(m:Int),r,(c:Int),h,b) K0 K1 K2=K0 (x0,x1,e,bh,A,q,((m+cntB (r.drop c):Nat):Int),h,addF e m b (fstT c (r.drop c)))
 | 0,c,m,b,hn,_,_,_=>by omega
 | n+1,c,m,b,hn,hc,hm,hb=>by
   have ee:p84l0 N (n+1) (x0,x1,e,bh,A,q,(m:Int),r,(c:Int),h,b) K0 K1 K2=p84F0 N (fun v0 v1 v2=>p84l0 N n (x0,x1,e,bh,A,q,v0,r,v1,h,v2) K0 K1 K2) (fun y0 y1 y2 y3 y4 y5 y6 y7 y8=>K0 (y0,y1,y2,y3,y4,y5,y6,y7,y8)) x0 x1 e bh A q r h (m:Int) (c:Int) b:=rfl;rw [ee];unfold p84F0;by_cases hlt:c < 127
   ·have g:=List.getElem?_eq_getElem (show c < r.length by omega)
    have hd:=drop_at g;generalize r[c]=v at g hd;rw [decide_eq_true (show (c:Int) < 127 by omega),br_t,ck_of (decide_eq_true hr),gx_at g,hd];cases v with
    | true=>
      rw [br_t,wr (x:=(m:Int)+1) (by omega) (by omega),wr (x:=(c:Int)+1) (by omega) (by omega),show (c:Int)+1=((c+1:Nat):Int) by omega,show (m:Int)+1=((m+1:Nat):Int) by omega];by_cases h0:e=false/\m=0
      ·have eb:(!e&&decide (((m+1:Nat):Int)=1))=true:=by rw [h0.1,decide_eq_true (by omega)];rfl
       rw [eb,br_t,ck_of (lim_of (by simp only [List.length_append,List.length_cons,List.length_nil];omega) (by simp only [List.length_append,List.length_cons,List.length_nil];omega))];have st:∀ (n c m:Nat) (b:List UInt8),127 - c < n->c<=127->1<=m->m<=c->p84l0 N n (x0,x1,e,bh,A,q,(m:Int),r,(c:Int),h,b) K0 K1 K2=K0 (x0,x1,e,bh,A,q,((m+cntB (r.drop c):Nat):Int),h,b):=by
        intro n
        induction n with
        | zero=>intro c m b h1 _ _ _;omega
        | succ n ih=>
          intro c m b h1 h2 h3 h4;have ee:p84l0 N (n+1) (x0,x1,e,bh,A,q,(m:Int),r,(c:Int),h,b) K0 K1 K2=p84F0 N (fun v0 v1 v2=>p84l0 N n (x0,x1,e,bh,A,q,v0,r,v1,h,v2) K0 K1 K2) (fun y0 y1 y2 y3 y4 y5 y6 y7 y8=>K0 (y0,y1,y2,y3,y4,y5,y6,y7,y8)) x0 x1 e bh A q r h (m:Int) (c:Int) b:=rfl;rw [ee];unfold p84F0;by_cases hlt:c < 127
          ·have g:=List.getElem?_eq_getElem (show c < r.length by omega)
           have hd:=drop_at g;generalize r[c]=v at g hd;rw [decide_eq_true (show (c:Int) < 127 by omega),br_t,ck_of (decide_eq_true hr),gx_at g,hd];cases v with
           | true=>
             rw [br_t,wr (x:=(m:Int)+1) (by omega) (by omega),wr (x:=(c:Int)+1) (by omega) (by omega),show (c:Int)+1=((c+1:Nat):Int) by omega,show (m:Int)+1=((m+1:Nat):Int) by omega,decide_eq_false (show ¬ ((m+1:Nat):Int)=1 by omega),Bool.and_false,br_f];refine (ih (c+1) (m+1) b (by omega) (by omega) (by omega) (by omega)).trans ?_;rw [show m+1+cntB (r.drop (c+1))=m+cntB (true::r.drop (c+1)) by simp only [cntB];omega]
           | false=>
             rw [br_f,wr (x:=(c:Int)+1) (by omega) (by omega),show (c:Int)+1=((c+1:Nat):Int) by omega];exact ih (c+1) m b (by omega) (by omega) (by omega) (by omega)
          ·rw [decide_eq_false (show ¬ (c:Int) < 127 by omega),br_f,List.drop_eq_nil_of_le (by omega)]
           rfl
       refine (st n (c+1) (m+1) _ (by omega) (by omega) (by omega) (by omega)).trans ?_;rw [show m+1+cntB (r.drop (c+1))=m+cntB (true::r.drop (c+1)) by simp only [cntB];omega];unfold addF;rw [if_pos h0];rfl
      ·have eb:(!e&&decide (((m+1:Nat):Int)=1))=false:=by
        rw [Bool.eq_false_iff];intro hh;rw [Bool.and_eq_true,Bool.not_eq_true',decide_eq_true_eq] at hh;exact h0 ⟨hh.1,by omega⟩
       rw [eb,br_f];refine (p84_l0 N x0 x1 e bh A q r hr h K0 K1 K2 n (c+1) (m+1) b (by omega) (by omega) (by omega) hb).trans ?_;rw [show m+1+cntB (r.drop (c+1))=m+cntB (true::r.drop (c+1)) by simp only [cntB];omega];unfold addF;rw [if_neg h0,if_neg (fun hh=>by omega)]
    | false=>
      rw [br_f,wr (x:=(c:Int)+1) (by omega) (by omega),show (c:Int)+1=((c+1:Nat):Int) by omega];exact p84_l0 N x0 x1 e bh A q r hr h K0 K1 K2 n (c+1) m b (by omega) (by omega) (by omega) hb
   ·rw [decide_eq_false (show ¬ (c:Int) < 127 by omega),br_f,List.drop_eq_nil_of_le (by omega)]
    unfold addF fstT;split <;> rfl
def refT (e bh s:Bool) (t:List UInt8):PR->List UInt8×Bool×Bool
 | []=>(t,s,bh)
 | r::Q=>refT (e||decide (cntB r=0)) (bh||e&&decide (0 < cntB r)) (s||decide (1 < cntB r)) (if (e||decide (cntB r=0))=true then t else t++[u8of (lstT 0 0 r:Int)]) Q
def outT (r:List UInt8×Bool×Bool):List UInt8×Int:=if r.2.1=true then ([],17) else if r.2.2=true then ([],2) else (r.1,0)
theorem ref_several:∀ (Q:PR) (e bh:Bool) (t:List UInt8),(refT e bh true t Q).2.1=true
 | [],_,_,_=>rfl
 | r::Q,e,bh,t=>by unfold refT;rw [Bool.true_or];exact ref_several Q _ _ _
theorem ref_len:∀ (Q:PR) (e bh s:Bool) (t:List UInt8),(refT e bh s t Q).1.length<=t.length+Q.length
 | [],_,_,_,_=>Nat.le_refl _
 | r::Q,e,bh,s,t=>by
   unfold refT;refine Nat.le_trans (ref_len Q _ _ _ _) ?_;split
   ·rw [List.length_cons];omega
   ·simp only [List.length_append,List.length_cons,List.length_nil];omega
theorem p84_l1 (N:Nat) (hN:200<=N) {F:List Bool} {P:PR} (hR:Rl F P) (hP:IP P) (K0:List UInt8×Int×List Bool->O) (K1:Bool×List Bool×List UInt8->O) (K2:Unit->O):∀ (n i:Nat) (e bh:Bool) (b:List UInt8),40 - i < n->i<=40->b.length<=i->
    p84l1 N n ([],0,e,bh,F,(i:Int),F,b) K0 K1 K2=if (refT e bh false b (P.drop i)).2.1=true then K0 ([],17,F) else K1 ((refT e bh false b (P.drop i)).2.2,F,(refT e bh false b (P.drop i)).1)
 | 0,i,e,bh,b,h,_,_=>by omega
 | n+1,i,e,bh,b,h,hi,hb=>by
   have ee:p84l1 N (n+1) ([],0,e,bh,F,(i:Int),F,b) K0 K1 K2=p84F1 N (p84n0 N) (fun v0 v1 v2 v3 v4 v5 v6 v7=>p84l1 N n (v0,v1,v2,v3,v4,v5,v6,v7) K0 K1 K2) (fun y0 y1 y2=>K0 (y0,y1,y2)) (fun y0 y1 y2=>K1 (y0,y1,y2)) [] 0 e bh F (i:Int) F b:=rfl;rw [ee];unfold p84F1;by_cases hlt:i < 40
   ·obtain ⟨r,g,hr⟩:=hP.at hlt
    have hg:=hR.r i hlt;rw [g] at hg;have er:(F.drop (i * 127)).take 127=r:=(Option.some.inj hg).symm;have hd:=drop_at g;rw [decide_eq_true (show (i:Int) < 40 by omega),br_t,ck_of (decide_eq_true hR.l),ck_of (decide_eq_true ⟨by omega,by omega⟩),Int.toNat_natCast,er,ck_of (decide_eq_true ⟨by omega,hr,rfl⟩),ck_of (decide_eq_true (by omega)),List.drop_zero,List.take_of_length_le (by omega:r.length<=127)];refine (p84_l0 N [] 0 e bh F (i:Int) r hr F _ (fun _=>none) (fun _=>none) N 0 0 b (by omega) (by omega) (Nat.le_refl _) (by omega)).trans ?_;rw [List.drop_zero,Nat.zero_add,hd]
    dsimp only
    unfold refT;by_cases hc:1 < cntB r
    ·rw [decide_eq_true (show (1:Int) < (cntB r:Int) by omega),br_t,decide_eq_true hc,Bool.or_true,if_pos (ref_several ..)]
    ·rw [decide_eq_false (show ¬ (1:Int) < (cntB r:Int) by omega),br_f,decide_eq_false hc,Bool.or_false,wr (by omega) (by omega),show (i:Int)+1=((i+1:Nat):Int) by omega]
     have ed:decide ((cntB r:Int)=0)=decide (cntB r=0):=decide_eq_decide.2 (by omega);have ed2:decide (0 < (cntB r:Int))=decide (0 < cntB r):=decide_eq_decide.2 (by omega);have eb:addF e 0 b (fstT 0 r)=if (e||decide (cntB r=0))=true then b else b++[u8of (lstT 0 0 r:Int)]:=by
      unfold addF;cases e with
      | true=>rfl
      | false=>
        rw [if_pos ⟨rfl,rfl⟩,Bool.false_or];by_cases h0:cntB r=0
        ·rw [fst_0 r 0 h0,decide_eq_true h0];rfl
        ·rw [fst_1 r 0 0 (by omega),decide_eq_false h0];rfl
     rw [ed,ed2,eb];refine p84_l1 N hN hR hP K0 K1 K2 n (i+1) _ _ _ (by omega) (by omega) ?_;split
     ·omega
     ·simp only [List.length_append,List.length_cons,List.length_nil];omega
   ·rw [decide_eq_false (show ¬ (i:Int) < 40 by omega),br_f,List.drop_eq_nil_of_le (by rw [hP.l];omega)]
    rfl
theorem p84_eq (N:Nat) (hN:200<=N) {F:List Bool} {P:PR} (hR:Rl F P) (hP:IP P):p84z N F=some ((outT (refT false false false [] P)).1,(outT (refT false false false [] P)).2,F):=by
 have ur:∀ (t:List UInt8) (e:Int) (F:List Bool),(some (p84r0 t e F):O).bind p84un=some (t,e,F):=fun _ _ _=>rfl
 unfold p84z p84 p84G;rw [ck_of (decide_eq_true (by rw [hR.l];omega)),List.drop_zero,List.take_of_length_le (by rw [hR.l];omega)];refine (congrArg (fun z:O=>z.bind p84un) (p84_l1 N hN hR hP _ _ (fun _=>none) N 0 false false [] (by omega) (by omega) (Nat.le_refl _))).trans ?_;rw [List.drop_zero];unfold outT;generalize refT false false false [] P=r;obtain ⟨t,s,bh⟩:=r;cases s with
 | true=>rfl
 | false=>
   cases bh with
   | true=>rfl
   | false=>rfl
def unitR (P:PR):List (List Bool×Unit):=P.map fun r=>(r,())
theorem w27F0_eq (N:Nat) (self:Int->List (List Bool×Unit)->O) (k0:List Ev->Int->List (List Bool×Unit)->O) (l:List Ev) (i:Int) (X:List (List Bool×Unit)):
    w27F0 N self k0 l i X=br (decide (i < 40)) (gx X i fun _=>ck true <| ck true <| ck (decide (0<=i/\i < (X.length:Int))) <| ck (decide (i.toNat=i.toNat)) <| gn X i.toNat fun _=>gx X i fun y=>self (IntKind.i64.wrap (i+1)) (X.set i.toNat (rowB,y.2))) (k0 l i X):=by kernel_rfl
theorem w27_l0 (N:Nat) (l:List Ev) (K0:List Ev×Int×List (List Bool×Unit)->O) (K1 K2:Unit->O):∀ (n i:Nat) (X:List (List Bool×Unit)),40 - i < n->i<=40->X.length=40->(∀ j,j < i->X[j]?=some (rowB,()))->
    w27l0 N n (l,(i:Int),X) K0 K1 K2=K0 (l,40,unitR blankP)
 | 0,i,X,h,_,_,_=>by omega
 | n+1,i,X,h,hi,hX,hj=>by
   have e:w27l0 N (n+1) (l,(i:Int),X) K0 K1 K2=w27F0 N (fun v0 v1=>w27l0 N n (l,v0,v1) K0 K1 K2) (fun y0 y1 y2=>K0 (y0,y1,y2)) l (i:Int) X:=rfl;rw [e,w27F0_eq];by_cases hlt:i < 40
   ·have g:=List.getElem?_eq_getElem (show i < X.length by omega)
    rw [decide_eq_true (show (i:Int) < 40 by omega),br_t,gx_at g,ck_t,ck_t,ck_of (decide_eq_true ⟨by omega,by omega⟩),ck_of (decide_eq_true rfl),Int.toNat_natCast,gn_of g,gx_at g,wr (by omega) (by omega),show (i:Int)+1=((i+1:Nat):Int) by omega];refine w27_l0 N l K0 K1 K2 n (i+1) _ (by omega) (by omega) (by rw [List.length_set];exact hX) fun j hj'=>?_
    rw [List.getElem?_set];split
    ·rw [if_pos (by omega)]
    ·exact hj j (by omega)
   ·obtain rfl:i=40:=by omega
    rw [decide_eq_false (by omega),br_f];have eX:X=unitR blankP:=by
     refine List.ext_getElem? fun j=>?_
     by_cases hjj:j < 40
     ·rw [hj j hjj]
      unfold unitR blankP;rw [List.getElem?_map,List.getElem?_replicate,if_pos hjj];rfl
     ·rw [List.getElem?_eq_none (by omega),List.getElem?_eq_none (by unfold unitR blankP;rw [List.length_map,List.length_replicate];omega)]
    rw [eX];rfl
theorem w27_l1 (N:Nat) (l:List Ev) (q:Int) (hl:l.length<=1000000) (K0:List (List Bool×Unit)->O) (K1 K2:Unit->O):∀ (n i:Nat) (P:PR),IP P->l.length - i < n->i<=l.length->
    w27l1 N n (l,q,(i:Int),unitR P) K0 K1 K2=K0 (unitR (foldP P (l.drop i)))
 | 0,i,P,_,h,_=>by omega
 | n+1,i,P,hP,h,hi=>by
   have e:w27l1 N (n+1) (l,q,(i:Int),unitR P) K0 K1 K2=w27F1 N (fun v0 v1=>w27l1 N n (l,q,v0,v1) K0 K1 K2) (fun y0=>K0 y0) l q (i:Int) (unitR P):=rfl;rw [e];unfold w27F1;by_cases hlt:i < l.length
   ·have g:=List.getElem?_eq_getElem hlt
    have hd:=drop_at g;generalize l[i]=ev at g hd;obtain ⟨x,y,k,a,b⟩:=ev;have step:∀ Q,foldP P ((x,y,k,a,b)::Q)=foldP (stepP P (k,a,b)) Q:=fun _=>rfl
    rw [decide_eq_true (show (i:Int) < (l.length:Int) by omega),br_t,gx_at g,hd,step]
    dsimp only
    have eo:(decide (0<=k)&&decide (k < 40)&&decide (32<=a)&&decide (a<=126)&&(decide (b=0)||decide (b=1)))=onP (k,a,b):=rfl;rw [eo,wr (by omega) (by omega),show (i:Int)+1=((i+1:Nat):Int) by omega];by_cases ho:onP (k,a,b)=true
    ·have hb:=on_iff ho
     dsimp only at hb
     obtain ⟨k,rfl⟩:∃ k':Nat,k=(k':Int):=⟨k.toNat,by omega⟩
     obtain ⟨a,rfl⟩:∃ a':Nat,a=(a':Int):=⟨a.toNat,by omega⟩
     obtain ⟨r,gr,hr⟩:=hP.at (i:=k) (by omega);have gu:(unitR P)[k]?=some (r,()):=by unfold unitR;rw [List.getElem?_map,gr];rfl
     have hU:(unitR P).length=40:=by unfold unitR;rw [List.length_map];exact hP.l
     have ga:=List.getElem?_eq_getElem (show a < r.length by omega);have el:∀ z:Int,lendI (27:Nat) z=z:=fun _=>rfl
     rw [ho,br_t,el,gx_at gu,ck_of (decide_eq_true ⟨by omega,by omega⟩),ck_of (decide_eq_true rfl),Int.toNat_natCast,gn_of gu]
     dsimp only
     rw [ck_of (decide_eq_true ⟨by omega,by omega⟩),Int.toNat_natCast,gn_of ga,gx_at gu];have es:(unitR P).set k (r.set a (decide (b=1)),())=unitR (stepP P ((k:Int),(a:Int),b)):=by
      unfold stepP unitR;rw [if_pos ho,List.map_set]
      dsimp only
      rw [Int.toNat_natCast,Int.toNat_natCast,List.getD_eq_getElem?_getD,gr];rfl
     rw [es];exact w27_l1 N l q hl K0 K1 K2 n (i+1) _ (hP.step _) (by omega) (by omega)
    ·have es:stepP P (k,a,b)=P:=if_neg ho
     rw [Bool.eq_false_iff.2 ho,br_f,es];exact w27_l1 N l q hl K0 K1 K2 n (i+1) P hP (by omega) (by omega)
   ·rw [decide_eq_false (show ¬ (i:Int) < (l.length:Int) by omega),br_f,List.drop_eq_nil_of_le (by omega)]
    rfl
theorem w27_eq {N:Nat} (hN:100<=N) {l:List Ev} (hl:l.length < N) (hm:l.length<=1000000):w27z N l=some (foldP blankP l):=by
 unfold w27z w27 w27G;rw [ck_t,ck_t];refine (congrArg (fun z:O=>z.bind w27un) (w27_l0 N l _ (fun _=>none) (fun _=>none) N 0 _ (by omega) (by omega) rfl (fun j hj=>absurd hj (by omega)))).trans ?_
 dsimp only
 refine (congrArg (fun z:O=>z.bind w27un) (w27_l1 N l 40 hm _ (fun _=>none) (fun _=>none) N 0 blankP ip0 (by omega) (by omega))).trans ?_;rw [List.drop_zero];have e:(unitR (foldP blankP l)).map (fun x=>x.fst)=foldP blankP l:=by unfold unitR;rw [List.map_map];exact List.map_id _
 dsimp only
 rw [e];rfl
theorem w26_l0 (N:Nat) (P:PR) (z1:Bool) (t:List UInt8) (s bh e:Bool) (q:Nat) {r:List Bool} (gr:P[q]?=some r) (hr:r.length=127) (K0:PR×Bool×List UInt8×Bool×Bool×Bool×Int×Int×Int->O) (K1 K2:Unit->O):∀ (n i m c:Nat),127 - i < n->i<=127->m<=i->
    w26l0 N n (P,z1,t,s,bh,e,(q:Int),(m:Int),(c:Int),(i:Int)) K0 K1 K2=K0 (P,z1,t,s,bh,e,(q:Int),((m+cntB (r.drop i):Nat):Int),(lstT c i (r.drop i):Int))
 | 0,i,m,c,h,_,_=>by omega
 | n+1,i,m,c,h,hi,hm=>by
   have ee:w26l0 N (n+1) (P,z1,t,s,bh,e,(q:Int),(m:Int),(c:Int),(i:Int)) K0 K1 K2=w26F0 N (fun v0 v1 v2=>w26l0 N n (P,z1,t,s,bh,e,(q:Int),v0,v1,v2) K0 K1 K2) (fun y0 y1 y2 y3 y4 y5 y6 y7 y8=>K0 (y0,y1,y2,y3,y4,y5,y6,y7,y8)) P z1 t s bh e (q:Int) (m:Int) (c:Int) (i:Int):=rfl;rw [ee];unfold w26F0;rw [gx_at gr];by_cases hlt:i < 127
   ·have g:=List.getElem?_eq_getElem (show i < r.length by omega)
    have hd:=drop_at g;generalize r[i]=v at g hd;rw [decide_eq_true (show (i:Int) < (r.length:Int) by omega),br_t,gx_at gr,gx_at g,hd,wr (x:=(i:Int)+1) (by omega) (by omega),show (i:Int)+1=((i+1:Nat):Int) by omega];cases v with
    | true=>
      rw [br_t,wr (by omega) (by omega),show (m:Int)+1=((m+1:Nat):Int) by omega];refine (w26_l0 N P z1 t s bh e q gr hr K0 K1 K2 n (i+1) (m+1) i (by omega) (by omega) (by omega)).trans ?_;rw [show m+1+cntB (r.drop (i+1))=m+cntB (true::r.drop (i+1)) by simp only [cntB];omega];rfl
    | false=>
      rw [br_f];exact w26_l0 N P z1 t s bh e q gr hr K0 K1 K2 n (i+1) m c (by omega) (by omega) (by omega)
   ·rw [decide_eq_false (show ¬ (i:Int) < (r.length:Int) by omega),br_f,List.drop_eq_nil_of_le (by omega)]
    rfl
theorem w26_l1 (N:Nat) (hN:200<=N) {P:PR} (hP:IP P) (z1:Bool) (K0:List UInt8×Bool×Bool->O) (K1 K2:Unit->O):∀ (n i:Nat) (t:List UInt8) (s bh e:Bool),40 - i < n->i<=40->t.length<=i->
    w26l1 N n (P,z1,t,s,bh,e,(i:Int)) K0 K1 K2=K0 (refT e bh s t (P.drop i))
 | 0,i,_,_,_,_,h,_,_=>by omega
 | n+1,i,t,s,bh,e,h,hi,ht=>by
   have ee:w26l1 N (n+1) (P,z1,t,s,bh,e,(i:Int)) K0 K1 K2=w26F1 N (w26n0 N) (fun v0 v1 v2 v3 v4 v5 v6=>w26l1 N n (v0,v1,v2,v3,v4,v5,v6) K0 K1 K2) (fun y0 y1 y2=>K0 (y0,y1,y2)) P z1 t s bh e (i:Int):=rfl;rw [ee];unfold w26F1;have hl:=hP.l;by_cases hlt:i < 40
   ·obtain ⟨r,g,hr⟩:=hP.at hlt
    have hd:=drop_at g;rw [decide_eq_true (show (i:Int) < (P.length:Int) by omega),br_t];refine (w26_l0 N P z1 t s bh e i g hr _ (fun _=>none) (fun _=>none) N 0 0 0 (by omega) (by omega) (Nat.le_refl _)).trans ?_;rw [List.drop_zero,Nat.zero_add,hd]
    dsimp only
    have ed:decide ((cntB r:Int)=0)=decide (cntB r=0):=decide_eq_decide.2 (by omega);have ed2:decide (0 < (cntB r:Int))=decide (0 < cntB r):=decide_eq_decide.2 (by omega);have ed3:decide (1 < (cntB r:Int))=decide (1 < cntB r):=decide_eq_decide.2 (by omega);rw [ed,ed2,ed3,wr (by omega) (by omega),show (i:Int)+1=((i+1:Nat):Int) by omega];unfold refT;cases hc:e||decide (cntB r=0) with
    | true=>
      rw [Bool.not_true,br_f,if_pos rfl];exact w26_l1 N hN hP z1 K0 K1 K2 n (i+1) t _ _ _ (by omega) (by omega) (by omega)
    | false=>
      rw [Bool.not_false,br_t,ck_of (decide_eq_true (by simp only [List.length_cons,List.length_nil];omega)),if_neg (by decide)];exact w26_l1 N hN hP z1 K0 K1 K2 n (i+1) _ _ _ _ (by omega) (by omega) (by simp only [List.length_append,List.length_cons,List.length_nil];omega)
   ·rw [decide_eq_false (show ¬ (i:Int) < (P.length:Int) by omega),br_f,List.drop_eq_nil_of_le (by omega)]
    rfl
theorem w26_eq {N:Nat} (hN:200<=N) {P:PR} (hP:IP P):w26z N P=some (refT false false false [] P):=by
 unfold w26z w26 w26G;exact congrArg (fun z:O=>z.bind w26un) (w26_l1 N hN hP false (fun y=>some (w26r0 y.1 y.2.1 y.2.2)) (fun _=>none) (fun _=>none) N 0 [] false false false (by omega) (by omega) (Nat.le_refl _))
def penZ (k o:Int) (l:List Ev):List UInt8×Int:=if (refT false false false [] (foldP blankP l)).2.1=true then ([],17) else if (refT false false false [] (foldP blankP l)).2.2=true then ([],2) else if validZ k o (refT false false false [] (foldP blankP l)).1=true then ((refT false false false [] (foldP blankP l)).1,0) else ([],2)
theorem pen_len (l:List Ev):(refT false false false [] (foldP blankP l)).1.length<=40:=by
 have:=ref_len (foldP blankP l) false false false [];rw [(IP.fold l ip0).l] at this;simpa using this
theorem p13_eq {N:Nat} (hN:200<=N) {k o:Int} {l:List Ev} (hl:l.length < N) (hm:l.length<=1000000) (hr:rightZ k o=true):p13z N 0 k o l=some (penZ k o l):=by
 have ur:∀ (t:List UInt8) (e:Int),(some (p13r0 t e):O).bind p13un=some (t,e):=fun _ _=>rfl
 have hlen:=pen_len l;unfold p13z p13 p13G;rw [ck_t,w16_P,w16_Y,hr,decide_eq_true rfl,br_t,Bool.or_true,ck_t,Bool.not_true,Bool.or_false,br_f,ck_of (show p33p N=true from rfl)];obtain ⟨F,e1,hF⟩:=p13_loop N k o l hm (fun y=>(fun z4 z5 z6=>
         ck (p84p N z6) <|
         ck (!decide (p84y1 N z6=0)||w8p N z4 z5 (p84y0 N z6)) <|
         br (decide (p84y1 N z6=0)&&!w8y0 N z4 z5 (p84y0 N z6))
          (br true
           (some (p13r0 [] 2))
           (some (p13r0 (p84y0 N z6) 0)))
          (br (decide (p84y1 N z6≠0))
           (some (p13r0 [] (p84y1 N z6)))
           (some (p13r0 (p84y0 N z6) 0)))) y.1 y.2.1 y.2.2) (fun _=>none) (fun _=>none) N 0 (p33y0 N) blankP rl0 (by omega) (by omega)
 rw [List.drop_zero] at hF;refine (congrArg (fun z:O=>z.bind p13un) e1).trans ?_;have e84:=p84_eq N hN hF (IP.fold l ip0);have pp:p84p N F=true:=by unfold p84p;rw [e84];rfl
 have y0:p84y0 N F=(outT (refT false false false [] (foldP blankP l))).1:=by unfold p84y0;rw [e84];rfl
 have y1:p84y1 N F=(outT (refT false false false [] (foldP blankP l))).2:=by unfold p84y1;rw [e84];rfl
 dsimp only
 rw [ck_of pp,y0,y1];unfold penZ outT;generalize refT false false false [] (foldP blankP l)=r at hlen;obtain ⟨t,s,bh⟩:=r
 dsimp only at hlen ⊢
 cases s with
 | true=>rfl
 | false=>
   cases bh with
   | true=>rfl
   | false=>
     rw [if_neg (by decide),if_neg (by decide),if_neg (by decide),if_neg (by decide)]
     dsimp only
     rw [w8_P (by omega) (by omega),w8_Y (by omega) (by omega)];cases validZ k o t with
     | false=>rfl
     | true=>rfl
theorem w14_pen {N:Nat} (hN:200<=N) {k o:Int} {l:List Ev} (hl:l.length < N) (hm:l.length<=1000000) (hr:rightZ k o=true):w14z N 0 k o l=some (penZ k o l):=by
 have hlen:=pen_len l;have e27:=w27_eq (N:=N) (by omega) hl hm;have p27:w27p N l=true:=by unfold w27p;rw [e27];rfl
 have y27:w27y0 N l=foldP blankP l:=by unfold w27y0;rw [e27];rfl
 have e26:=w26_eq hN (IP.fold l ip0);have p26:w26p N (foldP blankP l)=true:=by unfold w26p;rw [e26];rfl
 have y0:w26y0 N (foldP blankP l)=(refT false false false [] (foldP blankP l)).1:=by unfold w26y0;rw [e26];rfl
 have y1:w26y1 N (foldP blankP l)=(refT false false false [] (foldP blankP l)).2.1:=by unfold w26y1;rw [e26];rfl
 have y2:w26y2 N (foldP blankP l)=(refT false false false [] (foldP blankP l)).2.2:=by unfold w26y2;rw [e26];rfl
 unfold w14z w14 w14G;have e:(decide ((0:Int) < 0)||decide (3 < (0:Int))||!rightZ k o)=false:=by rw [hr];rfl
 rw [w22_P,Bool.or_true,ck_t,w22_Y,e,br_f,decide_eq_true rfl,br_t,ck_of p27,y27,ck_of p26,y0,y1,y2];unfold penZ;generalize refT false false false [] (foldP blankP l)=r at hlen;obtain ⟨t,s,bh⟩:=r
 dsimp only at hlen ⊢
 cases s with
 | true=>rfl
 | false=>
   cases bh with
   | true=>rfl
   | false=>
     rw [br_f,if_neg (by decide),if_neg (by decide),w9_P (by omega) (by omega),w9_Y (by omega) (by omega)];cases validZ k o t with
     | false=>rfl
     | true=>rfl
end Go.Proofs
/- Law 4: Normal by all ways; other Ticks and Seats; events behind one that finishes. -/
namespace Go.Proofs
open Go Go.Ax Go.Ax.Alg
def normalZ (w k o:Int) (l:List Ev):List UInt8×Int:=if (w < 0\/3 < w)\/rightZ k o=false then ([],1) else if w=0 then penZ k o l else finZ k o (runZ w l).1 (runZ w l).2
theorem l13_eq {N:Nat} (hN:200<=N) (w k o:Int) {l:List Ev} (hl:l.length < N) (hm:l.length<=1000000):l13z N w k o l=some (normalZ w k o l):=by
 unfold l13z normalZ;by_cases hb:(w < 0\/3 < w)\/rightZ k o=false
 ·rw [if_pos hb,c13_bad N l hb];rfl
 ·rw [if_neg hb]
  have hr:rightZ k o=true:=by
   cases h:rightZ k o with
   | true=>rfl
   | false=>exact absurd (Or.inr h) hb
  have hw:=(not_or.1 hb).1;by_cases h0:w=0
  ·subst h0
   rw [if_pos rfl,c13_no N l (.inl rfl) hr,o13_no N l (.inl rfl) hr,k13_no N l hr,p13_eq hN hl hm hr];rfl
  ·rw [if_neg h0]
   by_cases h1:w=1
   ·subst h1;rw [c13_eq (by omega) hl hm hr];rfl
   ·by_cases h2:w=2
    ·subst h2;rw [c13_no N l (.inr (.inl rfl)) hr,o13_eq (by omega) hl hm hr];rfl
    ·obtain rfl:w=3:=by omega
     rw [c13_no N l (.inr (.inr rfl)) hr,o13_no N l (.inr rfl) hr,k13_eq (by omega) hl hm hr];rfl
theorem w14_all {N:Nat} (hN:200<=N) (w k o:Int) {l:List Ev} (hl:l.length < N) (hm:l.length<=1000000):w14z N w k o l=some (normalZ w k o l):=by
 unfold normalZ;by_cases hb:(w < 0\/3 < w)\/rightZ k o=false
 ·rw [if_pos hb,w14_bad N l hb]
 ·rw [if_neg hb]
  have hr:rightZ k o=true:=by
   cases h:rightZ k o with
   | true=>rfl
   | false=>exact absurd (Or.inr h) hb
  have hw:=(not_or.1 hb).1;by_cases h0:w=0
  ·subst h0
   rw [if_pos rfl,w14_pen hN hl hm hr]
  ·rw [if_neg h0,w14_eq (by omega) hl hm hr (by omega)]
theorem l13_P {N:Nat} (hN:200<=N) (w k o:Int) {l:List Ev} (hl:l.length < N) (hm:l.length<=1000000):l13p N w k o l=true:=by unfold l13p;rw [l13_eq hN w k o hl hm];rfl
theorem l13_Y {N:Nat} (hN:200<=N) (w k o:Int) {l:List Ev} (hl:l.length < N) (hm:l.length<=1000000):l13y0 N w k o l=(normalZ w k o l).1/\l13y1 N w k o l=(normalZ w k o l).2:=by unfold l13y0 l13y1;rw [l13_eq hN w k o hl hm];exact ⟨rfl,rfl⟩
theorem w14_P {N:Nat} (hN:200<=N) (w k o:Int) {l:List Ev} (hl:l.length < N) (hm:l.length<=1000000):w14p N w k o l=true:=by unfold w14p;rw [w14_all hN w k o hl hm];rfl
theorem w14_Y {N:Nat} (hN:200<=N) (w k o:Int) {l:List Ev} (hl:l.length < N) (hm:l.length<=1000000):w14y0 N w k o l=(normalZ w k o l).1/\w14y1 N w k o l=(normalZ w k o l).2:=by unfold w14y0 w14y1;rw [w14_all hN w k o hl hm];exact ⟨rfl,rfl⟩
def triL (l:List Ev):List Tri:=l.map fun e=>e.2.2
theorem foldl_tri {σ:Type} (f:σ->Tri->σ):∀ (l l':List Ev) (s:σ),triL l'=triL l->l'.foldl (fun s e=>f s e.2.2) s=l.foldl (fun s e=>f s e.2.2) s
 | [],[],_,_=>rfl
 | [],_::_,_,h=>by cases h
 | _::_,[],_,h=>by cases h
 | e::l,e'::l',s,h=>by
   have h:e'.2.2::triL l'=e.2.2::triL l:=h;injection h with h1 h2;show l'.foldl _ (f s e'.2.2)=l.foldl _ (f s e.2.2);rw [h1];exact foldl_tri f l l' _ h2
theorem normal_tri (w k o:Int) {l l':List Ev} (h:triL l'=triL l):normalZ w k o l'=normalZ w k o l:=by
 have hC:=foldl_tri stepC l l' ([],false,0,0) h;have hV:=foldl_tri stepV l l' ([],false,0) h;have hK:=foldl_tri stepK l l' ([],false) h;have hP:=foldl_tri stepP l l' blankP h;unfold normalZ penZ runZ foldC foldV foldK foldP;rw [hC,hV,hK,hP]
theorem foldC_done:∀ (m:List Ev) {s:CS},s.2.1=true->foldC s m=s
 | [],_,_=>rfl
 | e::m,s,h=>by show foldC (stepC s e.2.2) m=s;rw [stepC_done h];exact foldC_done m h
theorem foldV_done:∀ (m:List Ev) {s:VS},s.2.1=true->foldV s m=s
 | [],_,_=>rfl
 | e::m,s,h=>by show foldV (stepV s e.2.2) m=s;rw [stepV_done h];exact foldV_done m h
theorem foldK_done:∀ (m:List Ev) {s:KS},s.2=true->foldK s m=s
 | [],_,_=>rfl
 | e::m,s,h=>by show foldK (stepK s e.2.2) m=s;rw [stepK_done h];exact foldK_done m h
theorem run_done {w:Int} {l:List Ev} (m:List Ev) (h:(runZ w l).2=true):runZ w (l++m)=runZ w l:=by
 unfold runZ at h ⊢;split
 ·rename_i h1
  rw [if_pos h1] at h;have e:foldC ([],false,0,0) (l++m)=foldC ([],false,0,0) l:=by
   show (l++m).foldl _ _=_;rw [List.foldl_append];exact foldC_done m h
  rw [e]
 ·rename_i h1
  rw [if_neg h1] at h;split
  ·rename_i h2
   rw [if_pos h2] at h;have e:foldV ([],false,0) (l++m)=foldV ([],false,0) l:=by
    show (l++m).foldl _ _=_;rw [List.foldl_append];exact foldV_done m h
   rw [e]
  ·rename_i h2
   rw [if_neg h2] at h;show (l++m).foldl _ _=_;rw [List.foldl_append];exact foldK_done m h
theorem normal_done {w k o:Int} {l:List Ev} (m:List Ev) (hw:w≠0) (h:(normalZ w k o l).2≠11):normalZ w k o (l++m)=normalZ w k o l:=by
 unfold normalZ at h ⊢;split
 ·rfl
 ·rename_i hb
  rw [if_neg hb,if_neg hw] at h;have hd:(runZ w l).2=true:=by
   cases hd:(runZ w l).2 with
   | true=>rfl
   | false=>rw [hd] at h;exact absurd rfl h
  rw [run_done m hd]
theorem gx_in {α:Type} {l:List α} {n:Int} (h0:0<=n) (h:n < (l.length:Int)):∃ y,∀ k:α->O,gx l n k=k y:=
 ⟨l[n.toNat]'(by omega),fun k=>gx_of h0 (List.getElem?_eq_getElem _) k⟩
theorem l11_F0 (N:Nat) (k0:Int->List Int->Int->List Ev->Int->Int->Int->Int->Int->O) (w:Int) (l:List Int) (i K:Int) (out:List Ev) (t s d a b:Int) (h0:0<=K) (h1:K < 1048576):
    ∃ q1 q2 q3 q4 q5,l11F0 N k0 w l i K out t s d a b=k0 w l i out q1 q2 q3 q4 q5:=by
 unfold l11F0;have e27:K.tdiv 27=K / 27:=Int.tdiv_eq_ediv_of_nonneg h0;have e216:K.tdiv 216=K / 216:=Int.tdiv_eq_ediv_of_nonneg h0;have m:∀ (x c:Int),0<=x->0 < c->0<=x.tmod c/\x.tmod c < c:=fun x c hx hc=>⟨Int.tmod_nonneg _ hx,Int.tmod_lt_of_pos _ hc⟩
 rw [e27,e216,wr (x:=K / 27) (by omega) (by omega),wr (x:=K / 216) (by omega) (by omega)];have hk:(0:Int)<=K / 27:=by omega
 have hk2:(0:Int)<=K / 216:=by omega
 by_cases c0:w=0
 ·rw [decide_eq_true c0,br_t,ck_t,ck_t]
  obtain ⟨y1,g1⟩:=gx_in (l:=[(0:Int),0,0,0,1,2,40,-1]) (n:=(K / 27).tmod 8) (m _ 8 hk (by omega)).1 (m _ 8 hk (by omega)).2;obtain ⟨y2,g2⟩:=gx_in (l:=[(1:Int),1,0,0,1,2]) (n:=(K / 216).tmod 6) (m _ 6 hk2 (by omega)).1 (m _ 6 hk2 (by omega)).2;rw [g1,ck_t,ck_t,g2];exact ⟨_,_,_,_,_,rfl⟩
 ·rw [decide_eq_false c0,br_f]
  by_cases c1:w=1
  ·obtain ⟨y1,g1⟩:=gx_in (l:=[(1:Int),2,5,6,7,8,9,0,10]) (n:=K.tmod 9) (m _ 9 h0 (by omega)).1 (m _ 9 h0 (by omega)).2
   rw [decide_eq_true c1,br_t,ck_t,g1,ck_t,ck_t,ck_t,ck_t,ck_t];exact ⟨_,_,_,_,_,rfl⟩
  ·rw [decide_eq_false c1,br_f]
   by_cases c2:w=2
   ·obtain ⟨y1,g1⟩:=gx_in (l:=[(0:Int),0,0,1,1,1,2,3,4]) (n:=(K / 27).tmod 9) (m _ 9 hk (by omega)).1 (m _ 9 hk (by omega)).2
    rw [decide_eq_true c2,br_t,ck_t,ck_t,g1];by_cases c3:y1=1
    ·obtain ⟨y2,g2⟩:=gx_in (l:=[(1:Int),1,1,0,2]) (n:=K.tmod 5) (m _ 5 h0 (by omega)).1 (m _ 5 h0 (by omega)).2
     rw [decide_eq_true c3,br_t,ck_t,g2];exact ⟨_,_,_,_,_,rfl⟩
    ·rw [decide_eq_false c3,br_f]
     exact ⟨_,_,_,_,_,rfl⟩
   ·obtain ⟨y1,g1⟩:=gx_in (l:=[(48:Int),49,50,97,32,8,8,13,127]) (n:=K.tmod 9) (m _ 9 h0 (by omega)).1 (m _ 9 h0 (by omega)).2
    obtain ⟨y2,g2⟩:=gx_in (l:=[(1:Int),1,1,1,0,2]) (n:=(K / 27).tmod 6) (m _ 6 hk (by omega)).1 (m _ 6 hk (by omega)).2;rw [decide_eq_false c2,br_f,ck_t,g1,ck_t,ck_t,g2];exact ⟨_,_,_,_,_,rfl⟩
theorem l11_l1 (N:Nat) (w:Int) {l:List Int} (hl:Okl l) (K0:List Ev->O) (K1 K2:Unit->O):∀ (n i:Nat) (out:List Ev),40 - i < n->i<=40->out.length=i->
    ∃ L:List Ev,l11l1 N n (w,l,(i:Int),out) K0 K1 K2=K0 L/\L.length<=40
 | 0,i,out,h,_,_=>by omega
 | n+1,i,out,h,hi,ho=>by
   have e:l11l1 N (n+1) (w,l,(i:Int),out) K0 K1 K2=l11F1 N (l11n0 N) (fun v0 v1 v2 v3=>l11l1 N n (v0,v1,v2,v3) K0 K1 K2) (fun y0=>K0 y0) w l (i:Int) out:=rfl;rw [e];unfold l11F1;by_cases hc:(i:Int) < (l.length:Int)/\(i:Int) < 40
   ·have b:=atZ_lt (l:=l) (i:=i) (m:=1048576) (by omega)
    rw [decide_eq_true hc.1,decide_eq_true hc.2,Bool.true_and,br_t,ck_of (w15_P N hl i _),ck_t,w15_Y N hl];generalize atZ l i 1048576=K at b;obtain ⟨y,g⟩:=gx_in (l:=[(48:Int),49,50,51,97,32,126,127,31]) (n:=K.tmod 9) (Int.tmod_nonneg _ b.1) (Int.tmod_lt_of_pos _ (by omega));rw [g,ck_t,ck_t];have fin:∀ (a0:Int) (a1:List Int) (a2 a3:Int) (a4:List Ev) (a5 a6 a7 a8 a9:Int) (k:Int->List Int->Int->List Ev->Int->Int->Int->Int->Int->O),l11n0 N a0 a1 a2 a3 a4 a5 a6 a7 a8 a9 k=l11F0 N k a0 a1 a2 a3 a4 a5 a6 a7 a8 a9:=fun _ _ _ _ _ _ _ _ _ _ _=>rfl
    rw [fin];obtain ⟨q1,q2,q3,q4,q5,e1⟩:=l11_F0 N (fun z119 z120 z121 z122 z123 z124 z125 z126 z127=>ck (lim (z122++[(z123,z124,z125,z126,z127)]).length (40:Nat)) <| (fun v0 v1 v2 v3=>l11l1 N n (v0,v1,v2,v3) K0 K1 K2) z119 z120 (IntKind.i64.wrap (z121+1)) (z122++[(z123,z124,z125,z126,z127)])) w l (i:Int) K out (i:Int) ((IntKind.i64.wrap (K.tdiv 9)).tmod 3) 0 y 1 b.1 b.2;obtain ⟨L,e2,h2⟩:=l11_l1 N w hl K0 K1 K2 n (i+1) (out++[(q1,q2,q3,q4,q5)]) (by omega) (by omega) (by simp only [List.length_append,List.length_cons,List.length_nil];omega);refine ⟨L,e1.trans ?_,h2⟩
    dsimp only
    rw [ck_of (lim_of (by simp only [List.length_append,List.length_cons,List.length_nil];omega) (by simp only [List.length_append,List.length_cons,List.length_nil];omega)),wr (by omega) (by omega),show (i:Int)+1=((i+1:Nat):Int) by omega];exact e2
   ·have e:(decide ((i:Int) < (l.length:Int))&&decide ((i:Int) < 40))=false:=by
     rw [Bool.eq_false_iff];simp only [ne_eq,Bool.and_eq_true,decide_eq_true_eq];exact hc
    rw [e,br_f];exact ⟨out,rfl,by omega⟩
theorem l11_eq {N:Nat} (hN:200<=N) (w:Int) {l:List Int} (hl:Okl l):∃ L:List Ev,l11z N w l=some L/\L.length<=40:=by
 unfold l11z l11 l11G;obtain ⟨L,e,h⟩:=l11_l1 N w hl (fun y=>some (l11r0 y)) (fun _=>none) (fun _=>none) N 0 [] (by omega) (by omega) rfl;exact ⟨L,congrArg (fun z:O=>z.bind l11un) e,h⟩
theorem w12_P (N:Nat) {k o:Int} (hk:I64 k) (ho:I64 o):w12p N k o=true:=by
 have:(w12z N k o).isSome=true:=by
  unfold w12z w12 w12G;rw [ck_of (w6_P N hk),ck_of (w6_P N ho)];by_cases h:w6y0 N k 3=0
  ·rw [decide_eq_true h];rfl
  ·rw [decide_eq_false h];rfl
 exact this
theorem w4_l0 (N:Nat) (a1 a2 a3:Int) (a4 a5:List Int) (a6:List Ev) (a7 a8:Int) (a9:List UInt8) (a10:Int) (E:List Ev) (hE:E.length<=1000) (C:List (Int×Int)) (K0:Int×Int×Int×List Int×List Int×List Ev×Int×Int×List UInt8×Int×List Ev×List (Int×Int)×List Ev->O) (K1 K2:Unit->O):∀ (n j:Nat) (X:List Ev),E.length - j < n->j<=E.length->X.length=j->
    ∃ Y,triL Y=triL (E.drop j)/\w4l0 N n (a1,a2,a3,a4,a5,a6,a7,a8,a9,a10,(j:Int),E,C,X) K0 K1 K2=K0 (a1,a2,a3,a4,a5,a6,a7,a8,a9,a10,E,C,X++Y)
 | 0,j,X,h,_,_=>by omega
 | n+1,j,X,h,hj,hX=>by
   have e:w4l0 N (n+1) (a1,a2,a3,a4,a5,a6,a7,a8,a9,a10,(j:Int),E,C,X) K0 K1 K2=w4F0 N (fun v0 v1=>w4l0 N n (a1,a2,a3,a4,a5,a6,a7,a8,a9,a10,v0,E,C,v1) K0 K1 K2) (fun y0 y1 y2 y3 y4 y5 y6 y7 y8 y9 y10 y11 y12=>K0 (y0,y1,y2,y3,y4,y5,y6,y7,y8,y9,y10,y11,y12)) a1 a2 a3 a4 a5 a6 a7 a8 a9 a10 E C (j:Int) X:=rfl;rw [e];unfold w4F0;by_cases hlt:j < E.length
   ·have g:=List.getElem?_eq_getElem hlt
    have hd:=drop_at g;generalize E[j]=v at g hd;obtain ⟨Y,h1,h2⟩:=w4_l0 N a1 a2 a3 a4 a5 a6 a7 a8 a9 a10 E hE C K0 K1 K2 n (j+1) (X++[(IntKind.i64.wrap (v.1 - IntKind.i64.wrap ((j:Int) * (j:Int))),a1,v.2.2.1,v.2.2.2.1,v.2.2.2.2)]) (by omega) (by omega) (by simp only [List.length_append,List.length_cons,List.length_nil];omega);refine ⟨(IntKind.i64.wrap (v.1 - IntKind.i64.wrap ((j:Int) * (j:Int))),a1,v.2.2.1,v.2.2.2.1,v.2.2.2.2)::Y,?_,?_⟩
    ·rw [hd]
     show (v.2.2.1,v.2.2.2.1,v.2.2.2.2)::triL Y=v.2.2::triL (E.drop (j+1));rw [h1]
    ·rw [decide_eq_true (show (j:Int) < (E.length:Int) by omega),br_t,gx_at g,ck_of (lim_of (by simp only [List.length_append,List.length_cons,List.length_nil];omega) (by simp only [List.length_append,List.length_cons,List.length_nil];omega)),wr (x:=(j:Int)+1) (by omega) (by omega),show (j:Int)+1=((j+1:Nat):Int) by omega]
     refine h2.trans ?_;rw [List.append_assoc];rfl
   ·rw [decide_eq_false (show ¬ (j:Int) < (E.length:Int) by omega),br_f,List.drop_eq_nil_of_le (by omega)]
    exact ⟨[],rfl,by rw [List.append_nil]⟩
theorem w4_l1 {N:Nat} (hN:200<=N) (a1 a2 a3:Int) (a4:List Int) {a5:List Int} (h5:Okl a5) (a6:List Ev) (w:Int) {E:List Ev} (hE:E.length<=60) {C:List (Int×Int)} (hC:C.length=3) (K0:Bool->O) (K1:Int×Int×Int×List Int×List Int×List Ev×Int->O) (K2:Unit->O):∀ (n i:Nat),3 - i < n->i<=3->
    w4l1 N n (a1,a2,a3,a4,a5,a6,w,(i:Int),E,C) K0 K1 K2=K1 (a1,a2,a3,a4,a5,a6,w)
 | 0,i,h,_=>by omega
 | n+1,i,h,hi=>by
   have e:w4l1 N (n+1) (a1,a2,a3,a4,a5,a6,w,(i:Int),E,C) K0 K1 K2=w4F1 N (w4n0 N) (fun v0 v1 v2 v3 v4 v5 v6 v7 v8 v9=>w4l1 N n (v0,v1,v2,v3,v4,v5,v6,v7,v8,v9) K0 K1 K2) (fun y0=>K0 y0) (fun y0 y1 y2 y3 y4 y5 y6=>K1 (y0,y1,y2,y3,y4,y5,y6)) a1 a2 a3 a4 a5 a6 w (i:Int) E C:=rfl;rw [e];unfold w4F1;by_cases hlt:i < 3
   ·have g:=List.getElem?_eq_getElem (show i < C.length by omega)
    generalize C[i]=c at g;obtain ⟨k,o⟩:=c;have L:=l13_Y hN w k o (l:=E) (by omega) (by omega);have R:=w14_Y hN w k o (l:=E) (by omega) (by omega);have nxt:w4l1 N n (a1,a2,a3,a4,a5,a6,w,IntKind.i64.wrap ((i:Int)+1),E,C) K0 K1 K2=K1 (a1,a2,a3,a4,a5,a6,w):=by
     rw [wr (by omega) (by omega),show (i:Int)+1=((i+1:Nat):Int) by omega];exact w4_l1 hN a1 a2 a3 a4 h5 a6 w hE hC K0 K1 K2 n (i+1) (by omega) (by omega)
    rw [decide_eq_true (show (i:Int) < 3 by omega),br_t,gx_at g,gx_0,gx_at g,gx_1,ck_of (l13_P hN w k o (by omega) (by omega)),gx_at g,gx_0,gx_at g,gx_1,ck_of (w14_P hN w k o (by omega) (by omega))]
    dsimp only
    rw [L.1,L.2,R.1,R.2,decide_eq_false (show ¬ (normalZ w k o E).1≠(normalZ w k o E).1 from fun h=>h rfl),decide_eq_false (show ¬ (normalZ w k o E).2≠(normalZ w k o E).2 from fun h=>h rfl),Bool.or_false,br_f];obtain ⟨Y,hY,e0⟩:=w4_l0 N a1 a2 a3 a4 a5 a6 w (i:Int) (normalZ w k o E).1 (normalZ w k o E).2 E (by omega) C (fun y=>(fun z305 z306 z307 z308 z309 z310 z311 z312 z313 z314 z315 z316 z317=>
        gx z316 z312 fun y318=>
        gx [y318.1,y318.2] 0 fun y319=>
        gx z316 z312 fun y320=>
        gx [y320.1,y320.2] 1 fun y321=>
        ck (l13p N z311 y319 y321 z317) <|
        br (decide (l13y0 N z311 y319 y321 z317≠z313)||decide (l13y1 N z311 y319 y321 z317≠z314))
         (K0 false)
         (br (decide (z311≠0)&&decide (z314≠11))
          (gx z316 z312 fun y322=>
          gx [y322.1,y322.2] 0 fun y323=>
          gx z316 z312 fun y324=>
          gx [y324.1,y324.2] 1 fun y325=>
          ck (lim ([]++z315).length (40:Nat)) <|
          ck (l11p N z311 z309) <|
          ck (lim ([]++z315++l11y0 N z311 z309).length (40:Nat)) <|
          ck (l13p N z311 y323 y325 ([]++z315++l11y0 N z311 z309)) <|
          br (decide (l13y0 N z311 y323 y325 ([]++z315++l11y0 N z311 z309)≠z313)||decide (l13y1 N z311 y323 y325 ([]++z315++l11y0 N z311 z309)≠z314))
           (K0 false)
           ((fun v0 v1 v2 v3 v4 v5 v6 v7 v8 v9=>w4l1 N n (v0,v1,v2,v3,v4,v5,v6,v7,v8,v9) K0 K1 K2) z305 z306 z307 z308 z309 z310 z311 (IntKind.i64.wrap (z312+1)) z315 z316))
          ((fun v0 v1 v2 v3 v4 v5 v6 v7 v8 v9=>w4l1 N n (v0,v1,v2,v3,v4,v5,v6,v7,v8,v9) K0 K1 K2) z305 z306 z307 z308 z309 z310 z311 (IntKind.i64.wrap (z312+1)) z315 z316))) y.1 y.2.1 y.2.2.1 y.2.2.2.1 y.2.2.2.2.1 y.2.2.2.2.2.1 y.2.2.2.2.2.2.1 y.2.2.2.2.2.2.2.1 y.2.2.2.2.2.2.2.2.1 y.2.2.2.2.2.2.2.2.2.1 y.2.2.2.2.2.2.2.2.2.2.1 y.2.2.2.2.2.2.2.2.2.2.2.1 y.2.2.2.2.2.2.2.2.2.2.2.2) (fun _=>none) (fun _=>none) N 0 [] (by omega) (by omega) rfl
    rw [List.drop_zero] at hY;refine Eq.trans e0 ?_
    dsimp only
    rw [List.nil_append];have hYl:Y.length=E.length:=by
     have:=congrArg List.length hY;unfold triL at this
     rwa [List.length_map,List.length_map] at this
    have LY:=l13_Y hN w k o (l:=Y) (by omega) (by omega);rw [gx_at g,gx_0,gx_at g,gx_1,ck_of (l13_P hN w k o (by omega) (by omega))]
    dsimp only
    rw [LY.1,LY.2,normal_tri w k o hY,decide_eq_false (show ¬ (normalZ w k o E).1≠(normalZ w k o E).1 from fun h=>h rfl),decide_eq_false (show ¬ (normalZ w k o E).2≠(normalZ w k o E).2 from fun h=>h rfl),Bool.or_false,br_f];by_cases hx:w≠0/\(normalZ w k o E).2≠11
    ·obtain ⟨M,eM,hM⟩:=l11_eq hN w h5
     have pM:l11p N w a5=true:=by unfold l11p;rw [eM];rfl
     have yM:l11y0 N w a5=M:=by unfold l11y0;rw [eM];rfl
     have LE:=l13_Y hN w k o (l:=E++M) (by rw [List.length_append];omega) (by rw [List.length_append];omega);rw [decide_eq_true hx.1,decide_eq_true hx.2,Bool.true_and,br_t,gx_at g,gx_0,gx_at g,gx_1]
     dsimp only
     rw [List.nil_append,ck_of (lim_of (by omega) (by omega)),ck_of pM,yM,ck_of (lim_of (by rw [List.length_append];omega) (by rw [List.length_append];omega)),ck_of (l13_P hN w k o (by rw [List.length_append];omega) (by rw [List.length_append];omega)),LE.1,LE.2,normal_done M hx.1 hx.2,decide_eq_false (show ¬ (normalZ w k o E).1≠(normalZ w k o E).1 from fun h=>h rfl),decide_eq_false (show ¬ (normalZ w k o E).2≠(normalZ w k o E).2 from fun h=>h rfl),Bool.or_false,br_f];exact nxt
    ·have e:(decide (w≠0)&&decide ((normalZ w k o E).2≠11))=false:=by
      rw [Bool.eq_false_iff];simp only [ne_eq,Bool.and_eq_true,decide_eq_true_eq];exact hx
     rw [e,br_f];exact nxt
   ·rw [decide_eq_false (show ¬ (i:Int) < 3 by omega),br_f]
theorem w4_l2 {N:Nat} (hN:200<=N) {way kind options:Int} (h2:I64 kind) (h3:I64 options) {l m:List Int} (hl:Okl l) (hm:Okl m) (raw:List Ev) (K0:Bool->O) (K1 K2:Unit->O):∀ (n j:Nat),6 - j < n->j<=6->
    w4l2 N n (way,kind,options,l,m,raw,(j:Int) - 1) K0 K1 K2=K1 ()
 | 0,j,h,_=>by omega
 | n+1,j,h,hj=>by
   have e:w4l2 N (n+1) (way,kind,options,l,m,raw,(j:Int) - 1) K0 K1 K2=w4F2 N (w4n0 N) (w4n1 N) (fun v0 v1 v2 v3 v4 v5 v6=>w4l2 N n (v0,v1,v2,v3,v4,v5,v6) K0 K1 K2) (fun y0=>K0 y0) (fun (_:Unit)=>K1 ()) way kind options l m raw ((j:Int) - 1):=rfl;rw [e];unfold w4F2;by_cases hlt:j < 6
   ·obtain ⟨M,eM,hM⟩:=l11_eq hN ((j:Int) - 1) hl
    have pM:l11p N ((j:Int) - 1) l=true:=by unfold l11p;rw [eM];rfl
    have yM:l11y0 N ((j:Int) - 1) l=M:=by unfold l11y0;rw [eM];rfl
    have es:slc raw none (some (min (raw.length:Int) 20))=raw.take 20:=by
     show raw.take (min (raw.length:Int) 20).toNat=_;by_cases hr:raw.length<=20
     ·rw [List.take_of_length_le (by omega),List.take_of_length_le hr]
     ·rw [show (min (raw.length:Int) 20).toNat=20 by omega]
    have hE:(M++raw.take 20).length<=60:=by rw [List.length_append,List.length_take];omega
    rw [decide_eq_true (show (j:Int) - 1<=4 by omega),br_t,ck_of pM,ck_of (show slcOk raw.length none (some (min (raw.length:Int) 20))=true from decide_eq_true ⟨by omega,by omega⟩),yM,es,ck_of (lim_of (by omega) (by omega)),ck_of (w12_P N h2 h3)];refine (w4_l1 hN way kind options l hm raw ((j:Int) - 1) hE rfl _ _ (fun _=>none) N 0 (by omega) (by omega)).trans ?_
    dsimp only
    rw [wr (by omega) (by omega),show (j:Int) - 1+1=((j+1:Nat):Int) - 1 by omega];exact w4_l2 hN h2 h3 hl hm raw K0 K1 K2 n (j+1) (by omega) (by omega)
   ·rw [decide_eq_false (show ¬ (j:Int) - 1<=4 by omega),br_f]
theorem w4_eq {N:Nat} (hN:200<=N) {way kind options:Int} (h2:I64 kind) (h3:I64 options) {l m:List Int} (hl:Okl l) (hm:Okl m) (raw:List Ev):w4z N way kind options l m raw=some true:=by
 unfold w4z w4 w4G;exact congrArg (fun z:O=>z.bind w4un) (w4_l2 hN h2 h3 hl hm raw (fun y=>some (w4r0 y)) (fun _=>ck true (some (w4r0 true))) (fun _=>none) N 0 (by omega) (by omega))
end Go.Proofs
