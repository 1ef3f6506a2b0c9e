/- The law in plain words. Conditions are in the theorems. -/
import Derived.Test.YtlhdefefoaldfaaDoorG6
import Derived.Test.YtlhdefefoaldfaaDoorG2
import Derived.Test.YtlhdefefoaldfaaDoorF6
import Derived.Test.YtlhdefefoaldfaaDoorG1
import Derived.Test.YtlhdefefoaldfaaDoorE7
/- Texts with blanks. -/
namespace Go.Proofs
open Go Go.Ax Go.Ax.Alg
theorem w20_in {N:Nat} {s:Tx} {ml:List Int} {i:Int} {b:Bool}:∀ (k m:Nat) (out:Tx),k < m→out.length+k≤2 ^ 60→
    ∃ k':Int,∀ (K:Tx×List Int×Tx×Int×Int→O) (k1 k2:Unit→O),w20l0 N m (s,ml,out,i,b,(k:Int)) K k1 k2=K (s,ml,out++List.replicate (if b then 0 else k) 32,i,k')
 | _,0,_,h,_=>by omega
 | 0,m+1,out,_,_=>by
   refine ⟨0,fun K k1 k2=>?_⟩
   show w20F0 _ _ _ _ _ _ _ _ _=_
   unfold w20F0
   simp only []
   rw [decide_eq_false (by omega),Bool.false_and,br_f]
   cases b <;> simp
 | k+1,m+1,out,hm,hB=>by
   cases b with
   | true=>
     refine ⟨((k+1:Nat):Int),fun K k1 k2=>?_⟩
     show w20F0 _ _ _ _ _ _ _ _ _=_
     unfold w20F0
     simp only []
     rw [Bool.not_true,Bool.and_false,br_f]
     simp
   | false=>
     obtain ⟨k',ih⟩:=w20_in (N:=N) (s:=s) (ml:=ml) (i:=i) (b:=false) k m (out++[32]) (by omega) (by rw [List.length_append,List.length_singleton];omega)
     refine ⟨k',fun K k1 k2=>?_⟩
     show w20F0 _ _ _ _ _ _ _ _ _=_
     unfold w20F0
     simp only []
     rw [Bool.not_false,Bool.and_true,decide_eq_true (by omega),br_t,ck_of (le9 (by omega)),wr (by omega) (by omega),show ((k+1:Nat):Int) - 1=(k:Int) by omega,ih,List.append_assoc]
     simp only [Bool.false_eq_true,if_false]
     rw [show [(32:UInt8)]++List.replicate k 32=List.replicate (k+1) 32 from rfl]
/-- Whether a byte and the one ahead of it are digits. -/
def insD (s:Tx) (i:Nat):Bool:=match i,s[i]? with
 | j+1,some c=>(match s[j]? with | some p=>dig c&&dig p | none=>false)
 | _,_=>false
def prevD (s:Tx) (i:Nat):Bool:=match i with
 | 0=>false
 | j+1=>(match s[j]? with | some p=>dig p | none=>false)
theorem sp_rep {p:Bool} {l m:Tx} (h:Sp p l m) (hp:p=true→∀ c,l.head?=some c→dig c=false):∀ k:Nat,Sp p l (List.replicate k 32++m)
 | 0=>h
 | k+1=>.blank hp (sp_rep h hp k)
theorem w20_loop {N:Nat} (hN:10≤N) {s:Tx} {ml:List Int} (hml:∀ x ∈ ml,J64 x) (hs:s.length≤2 ^ 40):∀ (r i m:Nat) (out:Tx),i+r=s.length→r < m→out.length≤3 * i→
    ∃ s',(∀ (K:Tx→O) (k1 k2:Unit→O),w20l1 N m (s,ml,out,(i:Int)) K k1 k2=K (out++s'))∧Sp (prevD s i) (s.drop i) s'∧s'.length≤3 * r
 | _,_,0,_,_,h,_=>by omega
 | 0,i,m+1,out,h,_,_=>by
   refine ⟨[],fun K k1 k2=>?_,by rw [List.drop_eq_nil_of_le (by omega)];exact .nil,by simp⟩
   show w20F1 _ _ _ _ _ _ _ _=_
   unfold w20F1
   simp only []
   rw [decide_eq_false (by omega),br_f,List.append_nil]
 | r+1,i,m+1,out,h,hm,ho=>by
   have hi:i < s.length:=by omega
   have hg:s[i]?=some s[i]:=List.getElem?_eq_getElem hi
   have hsl:(s.take (i+1)).drop i=[s[i]]:=by
    rw [List.take_add_one,hg]
    rw [List.drop_append_of_le_length (by rw [List.length_take];omega),List.drop_eq_nil_of_le (by rw [List.length_take];omega)]
    rfl
   have hdr:=drop_at hg
   generalize s[i]=c at hg hsl hdr
   have hk:=atI_in (l:=ml) (i:=(i:Int)) (m:=3) (by omega)
   obtain ⟨k,hkk⟩:=Int.eq_ofNat_of_zero_le hk.1
   have hk3:k < 3:=by omega
   have wi:IntKind.i64.wrap ((i:Int)+1)=((i+1:Nat):Int):=by rw [wr (by omega) (by omega)];omega
   have hrep:(List.replicate (if insD s i then 0 else k) (32:UInt8)).length≤2:=by
    rw [List.length_replicate];split <;> omega
   obtain ⟨s',e1,e2,e3⟩:=w20_loop (N:=N) hN hml hs r (i+1) m (out++List.replicate (if insD s i then 0 else k) 32++[c]) (by omega) (by omega) (by simp only [List.length_append,List.length_singleton];omega)
   refine ⟨List.replicate (if insD s i then 0 else k) 32++c::s',fun K k1 k2=>?_,?_,?_⟩
   ·have ins:∀ k0:Bool→O,(gc (decide (0 < (i:Int))) (0:UInt8) s (i:Int) fun y21=>
        gc (decide (0 < (i:Int))&&decide (48≤y21)) (0:UInt8) s (i:Int) fun y22=>
        gc (decide (0 < (i:Int))&&decide (48≤y21)&&decide (y22≤57)) (0:UInt8) s (max (IntKind.i64.wrap ((i:Int) - 1)) 0) fun y23=>
        gc (decide (0 < (i:Int))&&decide (48≤y21)&&decide (y22≤57)&&decide (48≤y23)) (0:UInt8) s (max (IntKind.i64.wrap ((i:Int) - 1)) 0) fun y24=>
        k0 (decide (0 < (i:Int))&&decide (48≤y21)&&decide (y22≤57)&&decide (48≤y23)&&decide (y24≤57)):O)=k0 (insD s i):=fun k0=>by
     match i,hg,hi with
     | 0,_,_=>rfl
     | j+1,hg,hi=>
       have hj:s[j]?=some s[j]:=List.getElem?_eq_getElem (by omega)
       have e:insD s (j+1)=(dig c&&dig s[j]):=by unfold insD;rw [hg];simp only [];rw [hj]
       rw [e,show max (IntKind.i64.wrap (((j+1:Nat):Int) - 1)) 0=((j:Nat):Int) by rw [wr (by omega) (by omega)];omega]
       generalize s[j]=p at hj
       rw [decide_eq_true (show (0:Int) < ((j+1:Nat):Int) by omega)]
       simp only [Bool.true_and]
       rw [gc_at hg]
       simp only [if_true]
       rw [gc_at hg]
       unfold dig
       cases h1:decide (48≤c) with
       | false=>
         simp only [Bool.false_eq_true,if_false,Bool.false_and]
         rw [gc_f,gc_f]
       | true=>
         simp only [if_true,Bool.true_and]
         cases h2:decide (c≤57) with
         | false=>
           simp only [Bool.false_and]
           rw [gc_f,gc_f]
         | true=>
           simp only [Bool.true_and]
           rw [gc_at hj]
           simp only [if_true]
           rw [gc_at hj]
           cases h3:decide (48≤p) with
           | false=>simp only [Bool.false_and]
           | true=>simp only [if_true,Bool.true_and]
    obtain ⟨k',hin⟩:=w20_in (N:=N) (s:=s) (ml:=ml) (i:=(i:Int)) (b:=insD s i) k N out (by omega) (by omega)
    show w20F1 _ _ _ _ _ _ _ _=_
    unfold w20F1
    simp only []
    rw [decide_eq_true (by omega),br_t]
    refine (ins fun b=>ck (w60p N ml (i:Int) 3) <| w20n0 N s ml out (i:Int) b (w60y0 N ml (i:Int) 3) fun z26 z27 z28 z29 _=>
     ck (slcOk z26.length (some z29) (some (IntKind.i64.wrap (z29+1)))) <|
     ck (decide ((↑z28.length:Int)+(↑(slc z26 (some z29) (some (IntKind.i64.wrap (z29+1)))).length:Int)≤9223372036854775807)) <|
     w20l1 N m (z26,z27,z28++slc z26 (some z29) (some (IntKind.i64.wrap (z29+1))),IntKind.i64.wrap (z29+1)) K k1 k2).trans ?_
    rw [ck_of (w60_p hml (by omega)),w60_y0 hml (by omega),hkk]
    unfold w20n0
    rw [hin]
    simp only []
    have k3:slcOk s.length (some (i:Int)) (some ((i+1:Nat):Int))=true:=decide_eq_true (by omega)
    have s2:slc s (some (i:Int)) (some ((i+1:Nat):Int))=[c]:=by show (s.take (((i+1:Nat):Int)).toNat).drop ((i:Int)).toNat=_;rw [Int.toNat_natCast,Int.toNat_natCast];exact hsl
    rw [wi,ck_of k3,s2,ck_of (le9 (by simp only [List.length_append,List.length_singleton];omega)),e1]
    simp only [List.append_assoc,List.cons_append,List.nil_append]
   ·rw [hdr]
    have e2':Sp (dig c) (s.drop (i+1)) s':=by
     have:prevD s (i+1)=dig c:=by unfold prevD;simp only [];rw [hg]
     rw [this] at e2
     exact e2
    cases hin:insD s i with
    | true=>exact .cons e2'
    | false=>
      refine sp_rep (.cons e2') (fun hp d hd=>?_) _
      cases hd
      match i,hg,hin,hp with
      | 0,_,_,hp=>cases hp
      | j+1,hg,hin,hp=>
        unfold insD at hin
        unfold prevD at hp
        simp only [] at hp
        rw [hg] at hin
        simp only [] at hin
        cases hj:s[j]? with
        | none=>rw [hj] at hp;cases hp
        | some p=>
          rw [hj] at hin hp
          simp only [] at hin hp
          rw [hp,Bool.and_true] at hin
          exact hin
   ·simp only [List.length_append,List.length_cons];omega
end Go.Proofs
/- The law on blanks. -/
namespace Go.Proofs
open Go Go.Ax Go.Ax.Alg
theorem w20_z {N:Nat} {s:Tx} {ml:List Int} (hml:∀ x ∈ ml,J64 x) (hs:s.length≤2 ^ 40) (hN:s.length+10 < N):∃ s',w20z N s ml=some s'∧Sp false s s'∧s'.length≤3 * s.length:=by
 obtain ⟨s',e1,e2,e3⟩:=w20_loop (N:=N) (by omega) hml hs s.length 0 N [] (by omega) (by omega) (by simp)
 refine ⟨s',?_,e2,e3⟩
 show (w20n1 N s ml [] 0 (fun z31=>some (w20r0 z31)):O).bind w20un=_
 unfold w20n1
 rw [show (0:Int)=((0:Nat):Int) from rfl,e1]
 rfl
theorem w20_py {N:Nat} {s s':Tx} {ml:List Int} (h:w20z N s ml=some s'):w20p N s ml=true∧w20y0 N s ml=s':=by
 unfold w20p w20y0;rw [h];exact ⟨rfl,rfl⟩
/-- A text that is read as a formula. -/
def Is (e:Ex) (x:Tx):Prop:=x.length≤8192∧∃ t,Rd (.lv 0) x (.ok e t)∧skp t=[]
theorem is_sp {e:Ex} {x y:Tx} (h:Is e x) (hs:Sp false x y) (hy:y.length≤8192):Is e y:=by
 obtain ⟨_,t,hr,ht⟩:=h
 obtain ⟨u,hu,su⟩:=rd_sp hr e t rfl _ _ hs
 have:=sp_skp su
 refine ⟨hy,u,hu,?_⟩
 rcases this with ⟨_,h2⟩ | ⟨c,a,b,h1,_,_⟩
 ·exact h2
 ·rw [ht] at h1;cases h1
theorem w5_round {N:Nat} (hN:70000≤N) {ml:List Int} {b:Bool} {e:Ex} (hv:validE e=0) (hsz:sizeE e≤100) {L:List Tx} (hL:L.length=3) (hs:∀ x ∈ L,Is e x) {K0:Bool→O} {K1 k2:Unit→O}:∀ (r i m:Nat),i+r=3→r < m→
    w5l2 N m (ml,b,(i:Int),e.op,e.num,e.kids,L) K0 K1 k2=K1 ()
 | _,_,0,_,h=>by omega
 | 0,i,m+1,h,_=>by
   show w5F2 _ _ _ _ _ _ _ _ _ _ _=_
   unfold w5F2
   simp only []
   rw [decide_eq_false (by omega),br_f]
 | r+1,i,m+1,h,hm=>by
   have hi:i < L.length:=by omega
   have hg:L[i]?=some L[i]:=List.getElem?_eq_getElem hi
   obtain ⟨hx,t,hr,ht⟩:=hs _ (List.getElem_mem hi)
   have ih:=w5_round hN (ml:=ml) (b:=b) hv hsz hL hs (K0:=K0) (K1:=K1) (k2:=k2) r (i+1) m (by omega) (by omega)
   have hd:=parse_ok hN hx hr ht hv
   generalize L[i]=x at hg hd
   show w5F2 _ _ _ _ _ _ _ _ _ _ _=_
   unfold w5F2
   simp only []
   rw [decide_eq_true (by omega),br_t,gx_at hg,ck_of (w16_p hd),w16_y0 hd,w16_y1 hd,w16_y2 hd,w16_y3 hd,w16_y4 hd]
   simp only []
   rw [ck_of (by rw [w18_p (by omega) (by omega) (by omega),Bool.or_true]),w18_y0 (by omega) (by omega) (by omega),sameE_refl,show (decide ((0:Int)≠0)||decide ((0:Int)≠0)||!true)=false from rfl,br_f,wr (x:=(i:Int)+1) (by omega) (by omega),show (i:Int)+1=((i+1:Nat):Int) by omega]
   exact ih
theorem around_len {e:Ex} (ok:okE e true=true) (hs:sizeE e≤100):(aroundT e).length≤1000:=by
 obtain ⟨o,a,ks⟩:=e
 have tl:=txE_len _ _ true (Nat.le_refl _) ok
 unfold aroundT
 split
 ·rcases ok_shape ok with ⟨rfl,rfl,h0,h1⟩ | ⟨rfl,rfl,h0,h1⟩ | ⟨ho,q,rfl,hk⟩ | ⟨ho,q,q',rfl,hk,hk'⟩
  ·rename_i h;simp only [Ex.op] at h;omega
  ·rename_i h;simp only [Ex.op] at h;omega
  ·rename_i h;simp only [Ex.op] at h;omega
  ·have hq:=txE_len _ q false (Nat.le_refl _) hk
   have hq':=txE_len _ q' false (Nat.le_refl _) hk'
   have hz:sizeE (.mk o a [q,q'])=1+(sizeE q+sizeE q'):=by simp [sizeE,sizeL]
   simp only [inPar,Ex.kids,List.getD_cons_zero,List.getD_cons_succ,List.length_append,List.length_cons,List.length_nil]
   omega
 ·simp only [inPar,List.length_append,List.length_cons,List.length_nil];omega
theorem law5 {N:Nat} (hN:70000≤N) {l ml:List Int} {depth:Int} (hl:∀ x ∈ l,J64 x) (hlen:l.length < 2 ^ 60) (hml:∀ x ∈ ml,J64 x):w5z N l depth ml=some true:=by
 obtain ⟨e,p1,q1,q2,q3,ok,hs,hd,_⟩:=w12_py (N:=N) (by omega) hl hlen depth
 have hv:validE e=0:=by unfold validE;rw [if_neg (by omega),if_pos ok]
 have ht:textE e=txE e:=by unfold textE;rw [if_pos hv]
 have tl:=txE_len _ e true (Nat.le_refl _) ok
 have al:=around_len ok (by omega)
 have i1:Is e (txE e):=⟨by omega,[],reads0 (wfr_of ok),rfl⟩
 have i2:Is e (aroundT e):=⟨by omega,[],reads_around (wfr_of ok),rfl⟩
 obtain ⟨s1,z1,sp1,l1⟩:=w20_z (N:=N) (s:=txE e) hml (by omega) (by omega)
 obtain ⟨s2,z2,sp2,l2⟩:=w20_z (N:=N) (s:=aroundT e) hml (by omega) (by omega)
 have y1:=w20_py z1
 have y2:=w20_py z2
 have i3:Is e s1:=is_sp i1 sp1 (by omega)
 have i4:Is e ([32]++s2++[32,32]):=is_sp i2 (by
  have:Sp false (aroundT e) (32::(s2++[32]++[32])):=.blank (fun h=>by cases h) sp2.tail.tail
  simpa using this) (by simp only [List.length_append,List.length_cons,List.length_nil];omega)
 have fin:∀ (z33:Bool),((ck (w20p N (txE e) ml) <| ck (w20p N (aroundT e) ml) <| ck (decide ((1:Int)+(↑(w20y0 N (aroundT e) ml).length:Int)≤9223372036854775807)) <|
     ck (decide ((↑([(32:UInt8)]++w20y0 N (aroundT e) ml).length:Int)+2≤9223372036854775807)) <|
     w5n2 N ml z33 0 e.op e.num e.kids ([w20y0 N (txE e) ml,aroundT e,[(32:UInt8)]++w20y0 N (aroundT e) ml++[(32:UInt8),(32:UInt8)]]) (fun z43=>some (w5r0 z43)) (fun (_:Unit)=>ck true <| some (w5r0 true)):O)).bind w5un=some true:=fun z33=>by
  rw [ck_of y1.1,ck_of y2.1,y1.2,y2.2,ck_of (le9 (by omega)),ck_of (le9 (by simp only [List.length_append,List.length_singleton];omega))]
  unfold w5n2
  have:=w5_round hN (ml:=ml) (b:=z33) hv (by omega) (L:=[s1,aroundT e,[32]++s2++[32,32]]) rfl (fun x hx=>by
   simp only [List.mem_cons,List.not_mem_nil,or_false] at hx
   rcases hx with rfl | rfl | rfl
   ·exact i3
   ·exact i2
   ·exact i4) (K0:=fun y=>(fun z43=>some (w5r0 z43)) y) (K1:=fun y=>(fun (_:Unit)=>ck true <| some (w5r0 true)) y) (k2:=fun _=>none) 3 0 N rfl (by omega)
  exact (congrArg (fun z:O=>z.bind w5un) this).trans rfl
 unfold w5z w5 w5G
 rw [p1,q1,q2,q3,ck_t,ck_of (w14_p (by omega) (by omega)),w14_y0 (by omega) (by omega),ht,ck_of (le9 (by omega)),ck_of (le9 (by simp only [List.length_append,List.length_singleton];omega))]
 unfold w5n1 w5l1 w5F1
 simp only []
 by_cases hrel:e.op=9∨e.op=10
 ·obtain ⟨o,a,ks⟩:=e
  rcases ok_shape ok with ⟨rfl,rfl,h0,h1⟩ | ⟨rfl,rfl,h0,h1⟩ | ⟨ho,q,rfl,hk⟩ | ⟨ho,q,q',rfl,hk,hk'⟩
  ·simp only [Ex.op] at hrel;omega
  ·simp only [Ex.op] at hrel;omega
  ·simp only [Ex.op] at hrel;omega
  ·have hz:sizeE (.mk o a [q,q'])=1+(sizeE q+sizeE q'):=by simp [sizeE,sizeL]
   have hdq:depE (.mk o a [q,q'])=max (depE q) (max (depE q') 0)+1:=by simp [depE,depL]
   have vq:textE q=txE q:=by unfold textE;rw [if_pos];unfold validE;rw [if_neg (by omega),if_pos (okE_root hk)]
   have vq':textE q'=txE q':=by unfold textE;rw [if_pos];unfold validE;rw [if_neg (by omega),if_pos (okE_root hk')]
   have hq:=txE_len _ q false (Nat.le_refl _) hk
   have hq':=txE_len _ q' false (Nat.le_refl _) hk'
   have ar:∀ c:UInt8,c=sgnU o→[40]++txE q++[41]++[c]++[40,40]++txE q'++[41,41]=aroundT (.mk o a [q,q']):=fun c hc=>by
    subst hc
    unfold aroundT
    rw [if_pos hrel]
    simp [inPar,Ex.kids,Ex.op]
   simp only [Ex.op,Ex.num,Ex.kids] at hrel fin ⊢
   have rest:∀ c:UInt8,c=sgnU o→((gx [q,q'] 0 fun y29=>ck (w14p N y29.op y29.num y29.kids) <|
       ck (decide ((1:Int)+(↑(w14y0 N y29.op y29.num y29.kids).length:Int)≤9223372036854775807)) <|
       ck (decide ((↑([(40:UInt8)]++w14y0 N y29.op y29.num y29.kids).length:Int)+1≤9223372036854775807)) <|
       ck (decide ((↑([(40:UInt8)]++w14y0 N y29.op y29.num y29.kids++[(41:UInt8)]).length:Int)+(↑([c]:Tx).length:Int)≤9223372036854775807)) <|
       ck (decide ((↑([(40:UInt8)]++w14y0 N y29.op y29.num y29.kids++[(41:UInt8)]++[c]).length:Int)+2≤9223372036854775807)) <|
       gx [q,q'] 1 fun y30=>
       ck (w14p N y30.op y30.num y30.kids) <|
       ck (decide ((↑([(40:UInt8)]++w14y0 N y29.op y29.num y29.kids++[(41:UInt8)]++[c]++[(40:UInt8),(40:UInt8)]).length:Int)+(↑(w14y0 N y30.op y30.num y30.kids).length:Int)≤9223372036854775807)) <|
       ck (decide ((↑([(40:UInt8)]++w14y0 N y29.op y29.num y29.kids++[(41:UInt8)]++[c]++[(40:UInt8),(40:UInt8)]++w14y0 N y30.op y30.num y30.kids).length:Int)+2≤9223372036854775807)) <|
       (fun z35:Tx=>(ck (w20p N (txE (.mk o a [q,q'])) ml) <| ck (w20p N z35 ml) <| ck (decide ((1:Int)+(↑(w20y0 N z35 ml).length:Int)≤9223372036854775807)) <|
   ck (decide ((↑([(32:UInt8)]++w20y0 N z35 ml).length:Int)+2≤9223372036854775807)) <|
   w5n2 N ml false 0 o a [q,q'] ([w20y0 N (txE (.mk o a [q,q'])) ml,z35,[(32:UInt8)]++w20y0 N z35 ml++[(32:UInt8),(32:UInt8)]]) (fun z43=>some (w5r0 z43)) (fun (_:Unit)=>ck true <| some (w5r0 true)):O))
         ([(40:UInt8)]++w14y0 N y29.op y29.num y29.kids++[(41:UInt8)]++[c]++[(40:UInt8),(40:UInt8)]++w14y0 N y30.op y30.num y30.kids++[(41:UInt8),(41:UInt8)]):O)).bind w5un=some true:=fun c hc=>by
    rw [gx_0,ck_of (w14_p (by omega) (by omega)),w14_y0 (by omega) (by omega),vq,ck_of (le9 (by omega)),ck_of (le9 (by simp only [List.length_append,List.length_singleton];omega)),ck_of (le9 (by simp only [List.length_append,List.length_singleton];omega)),ck_of (le9 (by simp only [List.length_append,List.length_singleton];omega)),gx_1,ck_of (w14_p (by omega) (by omega)),w14_y0 (by omega) (by omega),vq',ck_of (le9 (by simp only [List.length_append,List.length_cons,List.length_nil];omega)),ck_of (le9 (by simp only [List.length_append,List.length_cons,List.length_nil];omega)),ar c hc]
    exact fin false
   rcases hrel with rfl | rfl
   ·exact rest 61 rfl
   ·exact rest 60 rfl
 ·have ar:[40]++txE e++[41]=aroundT e:=by unfold aroundT;rw [if_neg hrel];simp [inPar]
  rw [decide_eq_false (fun h=>hrel (.inl h)),decide_eq_false (fun h=>hrel (.inr h)),Bool.false_or,br_f,ar]
  exact fin false
end Go.Proofs
/- Numbers that came in. -/
namespace Go.Proofs
open Go Go.Ax
theorem j64_w {z:Int} (h:OkV (.i .i64) z):J64 z:=by
 have h:(Lit.int .i64 z).wf=true:=h
 simp [Lit.wf] at h
 have h1:IntKind.i64.min = -9223372036854775808:=by decide
 rw [h1] at h
 unfold J64
 omega
theorem jl_w {l:List Int} (h:OkV (.sl (.i .i64)) l):∀ x ∈ l,J64 x:=fun x hx=>j64_w (h x hx)
theorem len_s {l:List Int} (h:SzV (.sl (.i .i64)) l):l.length < 2 ^ 60:=by
 have h1:=h.1
 have h2:l.length * 8≤reachBytes:=h1
 have h3:reachBytes=0x7ffffffff000:=rfl
 omega
end Go.Proofs
