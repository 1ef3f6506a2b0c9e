/- Texts of trees. Conditions are in the theorems. -/
import Derived.Test.YtlhdefefoaldfaaGreatDoorG1
import Derived.Test.YtlhdefefoaldfaaGreatDoorG5
import Derived.Test.YtlhdefefoaldfaaGreatDoorF2
/- Values of trees: what the reference gives. -/
namespace Go.Proofs
open Go Go.Ax Go.Ax.Alg
theorem ok_shape {o a:Int} {ks:List Ex} {root:Bool} (h:okE (.mk o a ks) root=true):
    (o=0/\ks=[]/\0<=a/\a<=999999)\/(o=1/\ks=[]/\0<=a/\a<=25)\/((o=2\/o=8)/\∃ k,ks=[k]/\okE k false=true) \/
    ((o=3\/o=4\/o=5\/o=6\/o=7\/o=9\/o=10)/\∃ k k',ks=[k,k']/\okE k false=true/\okE k' false=true):=by
 simp only [okE,here,Bool.and_eq_true,decide_eq_true_eq] at h
 obtain ⟨⟨⟨⟨h1,_⟩,h3⟩,h4⟩,h5⟩:=h
 unfold kidsI at h1
 unfold mostI at h4
 split at h1
 ·rename_i ho
  have:ks=[]:=List.eq_nil_of_length_eq_zero (by omega)
  subst this
  rcases ho with rfl | rfl
  ·exact .inl ⟨rfl,rfl,h3,by simpa using h4⟩
  ·exact .inr (.inl ⟨rfl,rfl,h3,by simpa using h4⟩)
 ·split at h1
  ·rename_i ho
   match ks,h1,h5 with
   | [k],_,h5=>
     simp only [okL,Bool.and_true] at h5
     exact .inr (.inr (.inl ⟨ho,k,rfl,h5⟩))
   | [],h1,_=>simp at h1
   | _::_::_,h1,_=>simp at h1;omega
  ·split at h1
   ·rename_i ho
    match ks,h1,h5 with
    | [k,k'],_,h5=>
      simp only [okL,Bool.and_true,Bool.and_eq_true] at h5
      exact .inr (.inr (.inr ⟨ho,k,k',rfl,h5.1,h5.2⟩))
    | [],h1,_=>simp at h1
    | [_],h1,_=>simp at h1
    | _::_::_::_,h1,_=>simp at h1;omega
   ·omega
end Go.Proofs
/- Texts of trees: what both print. -/
namespace Go.Proofs
open Go Go.Ax Go.Ax.Alg
theorem wf_of:∀ (n:Nat) (e:Ex),sizeE e<=n->okE e false=true->Wf e
 | 0,e,h,_=>by have:=size_pos e;omega
 | n+1,.mk o a ks,h,ok=>by
   have hh:=ok
   simp only [okE,here,Bool.and_eq_true,decide_eq_true_eq,Bool.false_or] at hh
   have hroot:o < 9:=hh.1.1.1.2
   have ha:0<=a/\a<=mostI o:=⟨hh.1.1.2,hh.1.2⟩
   rcases ok_shape ok with ⟨rfl,rfl,h0,h1⟩ | ⟨rfl,rfl,h0,h1⟩ | ⟨ho,k,rfl,hk⟩ | ⟨ho,k,k',rfl,hk,hk'⟩
   ·exact .num h0 h1
   ·exact .var h0 h1
   ·have hm:mostI o=0:=by unfold mostI;rw [if_neg (by omega),if_neg (by omega)]
    have a0:a=0:=by omega
    subst a0
    have hs:sizeE k<=n:=by simp only [sizeE,sizeL] at h;omega
    have w:=wf_of n k hs hk
    rcases ho with rfl | rfl
    ·exact .neg w
    ·exact .root w
   ·have hm:mostI o=0:=by unfold mostI;rw [if_neg (by omega),if_neg (by omega)]
    have a0:a=0:=by omega
    subst a0
    have hs:sizeE k<=n/\sizeE k'<=n:=by simp only [sizeE,sizeL] at h;omega
    have w:=wf_of n k hs.1 hk
    have w':=wf_of n k' hs.2 hk'
    by_cases h7:o=7
    ·subst h7;exact .pow w w'
    ·exact .two (by omega) w w'
theorem wfr_of {e:Ex} (ok:okE e true=true):WfR e:=by
 cases h:okE e false with
 | true=>exact .tree (wf_of _ e (Nat.le_refl _) h)
 | false=>
   obtain ⟨o,a,ks⟩:=e
   have h9:¬ o < 9:=fun h9=>by
    simp only [okE,here] at ok h
    rw [decide_eq_true h9] at ok h
    simp only [Bool.or_true] at ok h
    rw [ok] at h;cases h
   have hh:=ok
   simp only [okE,here,Bool.and_eq_true,decide_eq_true_eq] at hh
   have ha:0<=a/\a<=mostI o:=⟨hh.1.1.2,hh.1.2⟩
   rcases ok_shape ok with ⟨rfl,rfl,h0,h1⟩ | ⟨rfl,rfl,h0,h1⟩ | ⟨ho,k,rfl,hk⟩ | ⟨ho,k,k',rfl,hk,hk'⟩
   ·omega
   ·omega
   ·omega
   ·have hm:mostI o=0:=by unfold mostI;rw [if_neg (by omega),if_neg (by omega)]
    have a0:a=0:=by omega
    subst a0
    exact .rel (by omega) (wf_of _ k (Nat.le_refl _) hk) (wf_of _ k' (Nat.le_refl _) hk')
theorem atE_len {k:Nat} {e:Ex}:(atE k e).length<=(txE e).length+2:=by
 by_cases h:lvlN e.op < k
 ·rw [atE_lo h];simp
 ·rw [atE_hi (by omega)];omega
theorem txE_len:∀ (n:Nat) (e:Ex) (root:Bool),sizeE e<=n->okE e root=true->(txE e).length+2<=8 * sizeE e
 | 0,e,_,h,_=>by have:=size_pos e;omega
 | n+1,.mk o a ks,root,h,ok=>by
   rcases ok_shape ok with ⟨rfl,rfl,h0,h1⟩ | ⟨rfl,rfl,h0,h1⟩ | ⟨ho,k,rfl,hk⟩ | ⟨ho,k,k',rfl,hk,hk'⟩
   ·have:=dec_len6 (u:=a.toNat) (by omega)
    rw [txE_num];simp only [sizeE,sizeL];omega
   ·rw [txE_var];simp [sizeE,sizeL]
   ·have hs:sizeE k<=n:=by simp only [sizeE,sizeL] at h;omega
    have ih:=txE_len n k false hs hk
    rcases ho with rfl | rfl
    ·have:=atE_len (k:=3) (e:=k)
     rw [txE_neg];simp only [sizeE,sizeL,List.length_cons];omega
    ·have:=atE_len (k:=1) (e:=k)
     rw [txE_root];simp only [sizeE,sizeL,List.length_cons,List.length_append,List.length_nil];omega
   ·have hs:sizeE k<=n/\sizeE k'<=n:=by simp only [sizeE,sizeL] at h;omega
    have ih:=txE_len n k false hs.1 hk
    have ih':=txE_len n k' false hs.2 hk'
    by_cases h7:o=7
    ·subst h7
     have a:=atE_len (k:=4) (e:=k)
     have b:=atE_len (k:=3) (e:=k')
     rw [txE_pow];simp only [sizeE,sizeL,List.length_cons,List.length_append];omega
    ·have a:=atE_len (k:=max 1 (lvlN o)) (e:=k)
     have b:=atE_len (k:=lvlN o+1) (e:=k')
     rw [txE_two (by omega)];simp only [sizeE,sizeL,List.length_cons,List.length_append];omega
theorem w90_z {N:Nat} {a:Int} {g:Tx} (h0:0<=a) (h1:a<=999999) (hg:g.length<=2 ^ 42):w90p N a 10 g=true/\w90y0 N a 10 g=g++Lib.decDigits a.toNat:=by
 have hu:IntKind.u64.wrap a=a:=by
  show a % 18446744073709551616=a
  omega
 have p:w109p N a 10 g=true:=by
  unfold w109p
  rw [decide_eq_true rfl,decide_eq_true (by omega),decide_eq_true (by omega)];rfl
 have z6:w104z N a 10 g=some (g++Lib.decDigits a.toNat):=by
  show (w104G _ _ _ _:O).bind w104un=_
  unfold w104G
  rw [decide_eq_false (by omega),br_f,hu,ck_of p]
  rfl
 have z:w90z N a 10 g=some (g++Lib.decDigits a.toNat):=by
  show (w90G _ _ _ _:O).bind w90un=_
  unfold w90G
  rw [ck_of (show w104p N a 10 g=true by unfold w104p;rw [z6];rfl),show w104y0 N a 10 g=g++Lib.decDigits a.toNat by unfold w104y0;rw [z6];rfl]
  rfl
 unfold w90p w90y0
 rw [z]
 exact ⟨rfl,rfl⟩
theorem u8_var {a:Int} (h0:0<=a) (h1:a<=25):u8of (IntKind.i64.wrap (97+a))=UInt8.ofNat (97+a.toNat):=by
 rw [wr (by omega) (by omega)]
 show UInt8.ofNat ((97+a) % 256).toNat=_
 congr 1
 omega
theorem lim1 {n:Nat} (h:n<=2 ^ 46):lim n 1=true:=decide_eq_true (by omega)
abbrev opR (o:Int):Int×(Int×(Int×UInt8)):=opsL.getD o.toNat (0,0,0,0)
theorem w61_ur (x:Tx):(some (w61r0 x):O).bind w61un=some x:=rfl
theorem w61_eq {N:Nat}:∀ (n:Nat) (e:Ex) (root:Bool) (k:Nat) (g:Tx),okE e root=true->((2 * sizeE e<=n/\g.length+16 * sizeE e<=2 ^ 41)\/(2 * sizeE e<=n+1/\k<=lvlN e.op/\g.length+16 * sizeE e<=2 ^ 41+1))->w61gY N n e.op e.num e.kids (k:Int) g=some (g++atE k e)
 | 0,e,_,_,_,_,h=>by have:=size_pos e;omega
 | n+1,.mk o a ks,root,k,g,ok,h=>by
   have sz:=size_pos (.mk o a ks)
   have tl:=txE_len _ _ root (Nat.le_refl _) ok
   show (w61G (N,w61gY N n) o a ks (k:Int) g:O).bind w61un=_
   unfold w61G
   simp only []
   have hop:(0<=o/\o<=10):=by rcases ok_shape ok with ⟨rfl,_⟩ | ⟨rfl,_⟩ | ⟨ho,_⟩ | ⟨ho,_⟩ <;> omega
   have row:opsL[o.toNat]?=some (opR o)/\(opR o).2.2.1=(lvlN o:Int)/\((o=3\/o=4\/o=5\/o=6\/o=9\/o=10)->(opR o).2.2.2=sgnU o):=by
    have:o=0\/o=1\/o=2\/o=3\/o=4\/o=5\/o=6\/o=7\/o=8\/o=9\/o=10:=by omega
    rcases this with rfl | rfl | rfl | rfl | rfl | rfl | rfl | rfl | rfl | rfl | rfl <;> exact ⟨rfl,rfl,fun h=>by first | rfl | (exfalso;revert h;decide)⟩
   rw [gx_of hop.1 row.1,row.2.1]
   have hgl:g.length+16 * sizeE (.mk o a ks)<=2 ^ 41+1:=by omega
   by_cases hl:lvlN o < k
   ·have hf:2 * sizeE (.mk o a ks)<=n+1/\g.length+16 * sizeE (.mk o a ks)<=2 ^ 41:=by
     rcases h with h | ⟨_,h,_⟩
     ·exact h
     ·exact absurd hl (Nat.not_lt.2 h)
    have ih:w61gY N n o a ks 0 (g++[40])=some (g++[40]++atE 0 (.mk o a ks)):=w61_eq (N:=N) n (.mk o a ks) root 0 (g++[40]) ok (.inr ⟨hf.1,Nat.zero_le _,by rw [List.length_append,List.length_singleton];omega⟩)
    have l0:(atE 0 (.mk o a ks)).length=(txE (.mk o a ks)).length:=by rw [atE_hi (Nat.zero_le _)]
    rw [decide_eq_true (by omega),br_t,ck_of (lim1 (by rw [List.length_append,List.length_singleton];omega)),ih,ck_of sm,sg,ck_of (lim1 (by simp only [List.length_append,List.length_singleton];omega)),w61_ur]
    rw [atE_lo (show lvlN (Ex.op (.mk o a ks)) < k from hl),atE_hi (Nat.zero_le _)]
    simp
   ·rw [decide_eq_false (by omega),br_f,atE_hi (show k<=lvlN (Ex.op (.mk o a ks)) from Nat.not_lt.1 hl)]
    have f1:2 * sizeE (.mk o a ks)<=n+2:=by omega
    rcases ok_shape ok with ⟨rfl,rfl,h0,h1⟩ | ⟨rfl,rfl,h0,h1⟩ | ⟨ho,q,rfl,hk⟩ | ⟨ho,q,q',rfl,hk,hk'⟩
    ·have z:=w90_z (N:=N) (a:=a) (g:=g) h0 h1 (by omega)
     rw [decide_eq_true rfl,br_t,ck_of z.1,z.2,w61_ur,txE_num]
    ·rw [decide_eq_false (by decide),br_f,decide_eq_true rfl,br_t,u8_var h0 h1,ck_of (lim1 (by rw [List.length_append,List.length_singleton];omega)),w61_ur,txE_var]
    ·have hs:sizeE (.mk o a [q])=1+sizeE q:=by simp [sizeE,sizeL]
     have hq:=txE_len _ q false (Nat.le_refl _) hk
     rcases ho with rfl | rfl
     ·have ih:w61gY N n q.op q.num q.kids 3 (g++[45])=some (g++[45]++atE 3 q):=w61_eq (N:=N) n q false 3 (g++[45]) hk (.inl ⟨by omega,by rw [List.length_append,List.length_singleton];omega⟩)
      rw [decide_eq_false (by decide),br_f,decide_eq_false (by decide),br_f,decide_eq_true rfl,br_t,ck_of (lim1 (by rw [List.length_append,List.length_singleton];omega)),gx_0,ih,ck_of sm,sg,w61_ur,txE_neg]
      simp
     ·have ih:w61gY N n q.op q.num q.kids 1 (g++[82,40])=some (g++[82,40]++atE 1 q):=w61_eq (N:=N) n q false 1 (g++[82,40]) hk (.inl ⟨by omega,by simp only [List.length_append,List.length_cons,List.length_nil];omega⟩)
      have ql:=atE_len (k:=1) (e:=q)
      rw [decide_eq_false (by decide),br_f,decide_eq_false (by decide),br_f,decide_eq_false (by decide),br_f,decide_eq_true rfl,br_t,ck_of (lim1 (by simp only [List.length_append,List.length_cons,List.length_nil];omega)),gx_0,ih,ck_of sm,sg,ck_of (lim1 (by simp only [List.length_append,List.length_cons,List.length_nil];omega)),w61_ur,txE_root]
      simp
    ·have hs:sizeE (.mk o a [q,q'])=1+(sizeE q+sizeE q'):=by simp [sizeE,sizeL]
     have hq:=txE_len _ q false (Nat.le_refl _) hk
     have hq':=txE_len _ q' false (Nat.le_refl _) hk'
     by_cases h7:o=7
     ·subst h7
      have ql:=atE_len (k:=4) (e:=q)
      have ih:w61gY N n q.op q.num q.kids 4 g=some (g++atE 4 q):=w61_eq (N:=N) n q false 4 g hk (.inl ⟨by omega,by omega⟩)
      have ih':w61gY N n q'.op q'.num q'.kids 3 (g++atE 4 q++[94])=some (g++atE 4 q++[94]++atE 3 q'):=w61_eq (N:=N) n q' false 3 _ hk' (.inl ⟨by omega,by simp only [List.length_append,List.length_singleton];omega⟩)
      rw [decide_eq_false (by decide),br_f,decide_eq_false (by decide),br_f,decide_eq_false (by decide),br_f,decide_eq_false (by decide),br_f,decide_eq_true rfl,br_t,gx_0,ih,ck_of sm,sg,ck_of (lim1 (by simp only [List.length_append,List.length_singleton];omega)),gx_1,ih',ck_of sm,sg,w61_ur,txE_pow]
      simp
     ·have ho':o=3\/o=4\/o=5\/o=6\/o=9\/o=10:=by omega
      have ql:=atE_len (k:=max 1 (lvlN o)) (e:=q)
      have hmx:max (1:Int) ((lvlN o:Nat):Int)=((max 1 (lvlN o):Nat):Int):=by omega
      have hl3:lvlN o<=2:=by rcases ho' with rfl | rfl | rfl | rfl | rfl | rfl <;> decide
      have hw:IntKind.i64.wrap (((lvlN o:Nat):Int)+1)=((lvlN o+1:Nat):Int):=by rw [wr (by omega) (by omega)];omega
      have ih:=w61_eq (N:=N) n q false (max 1 (lvlN o)) g hk (.inl ⟨by omega,by omega⟩)
      have ih':=w61_eq (N:=N) n q' false (lvlN o+1) (g++atE (max 1 (lvlN o)) q++[sgnU o]) hk' (.inl ⟨by omega,by simp only [List.length_append,List.length_singleton];omega⟩)
      rw [decide_eq_false (by omega),br_f,decide_eq_false (by omega),br_f,decide_eq_false (by omega),br_f,decide_eq_false (by omega),br_f,decide_eq_false (by omega),br_f,gx_0,hmx,ih,ck_of sm,sg,row.2.2 ho',ck_of (lim1 (by simp only [List.length_append,List.length_singleton];omega)),gx_1,hw,ih',ck_of sm,sg,w61_ur,txE_two ho']
      simp
def textE (e:Ex):Tx:=if validE e=0 then txE e else []
theorem valid_rt {e:Ex} (h:validE e=0):okE e true=true:=by
 unfold validE at h
 split at h
 ·cases h
 ·split at h
  ·assumption
  ·cases h
theorem w35_z {N:Nat} {e:Ex} (h:4 * sizeE e < N) (hB:sizeE e < 2 ^ 36):w35z N e.op e.num e.kids=some (textE e):=by
 show (w35G _ _ _ _:O).bind w35un=_
 unfold w35G textE
 rw [ck_of (w29_p h (by omega)),w29_y0 h (by omega)]
 by_cases hv:validE e=0
 ·have ih:w61gY N N e.op e.num e.kids 0 []=some ([]++atE 0 e):=w61_eq (N:=N) N e true 0 [] (valid_rt hv) (.inl ⟨by omega,by simp only [List.length_nil];omega⟩)
  rw [decide_eq_false (fun h=>h hv),br_f,if_pos hv,ck_of (show w61p N e.op e.num e.kids 0 []=true by unfold w61p;rw [ih];rfl),show w61y0 N e.op e.num e.kids 0 []=atE 0 e by unfold w61y0;rw [ih];rfl,atE_hi (Nat.zero_le _)]
  rfl
 ·rw [decide_eq_true hv,br_t,if_neg hv];rfl
section
variable {N:Nat} {e:Ex} (h:4 * sizeE e < N) (hB:sizeE e < 2 ^ 36)
include h hB
theorem w35_p:w35p N e.op e.num e.kids=true:=by unfold w35p;rw [w35_z h hB];rfl
theorem w35_y0:w35y0 N e.op e.num e.kids=textE e:=by unfold w35y0;rw [w35_z h hB];rfl
end
end Go.Proofs
/- Texts of trees: what the reference prints. -/
namespace Go.Proofs
open Go Go.Ax Go.Ax.Alg
section
variable {N:Nat} {e:Ex} (hN:7<=N) (h:4 * sizeE e < N) (hB:sizeE e < 2 ^ 36)
include hN h hB
end
theorem text_read {N:Nat} (hN:70000<=N) {e:Ex} (hs:sizeE e<=1000) (hv:validE e=0):w42v N (textE e)=some (e.op,e.num,e.kids,0,0):=by
 have tl:=txE_len _ e true (Nat.le_refl _) (valid_rt hv)
 unfold textE
 rw [if_pos hv]
 exact parse_ok hN (by omega) (reads0 (wfr_of (valid_rt hv))) rfl hv
end Go.Proofs
