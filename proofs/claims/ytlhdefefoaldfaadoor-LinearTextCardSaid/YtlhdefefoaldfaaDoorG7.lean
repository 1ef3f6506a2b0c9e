/- Cells of texts; the law in plain words. Conditions are in the theorems. -/
import Derived.Test.YtlhdefefoaldfaaDoorG6
import Derived.KernelRfl
import Derived.Lib.Bytealg
import Derived.Test.YtlhdefefoaldfaaDoorL1
import Derived.Test.YtlhdefefoaldfaaDoorG2
import Derived.Test.YtlhdefefoaldfaaDoorG1
import Derived.Test.YtlhdefefoaldfaaDoorF6
import Derived.Test.YtlhdefefoaldfaaDoorE7
/- The cells of a text, and the text of cells: plain. -/
namespace Go.Proofs
open Go Go.Ax Go.Ax.Alg
theorem u8_all {p:UInt8→Bool} (h:(List.range 256).all (fun n=>p (UInt8.ofNat n))=true) (c:UInt8):p c=true:=by
 have:=List.all_eq_true.1 h c.toNat (List.mem_range.2 c.toNat_lt)
 rwa [UInt8.ofNat_toNat] at this
abbrev sgL:Tx:=[43,45,42,47,94,61,60,82,40,41]
abbrev twoL:Tx:=[43,45,42,47,61,60]
abbrev digL:Tx:=[26,1,3,9,25,17,11,27,19,10]
abbrev lowL:Tx:=[1,3,9,25,17,11,27,19,10,26,5,7,13,29,21,15,31,23,14,30,37,39,58,45,61,53]
abbrev celL:Tx:=[22,36,33,12,24,54,42,28,55,62]
def ixB (l:Tx) (c:UInt8):Nat:=(Lib.indexByte l c).toNat
def okC (c:UInt8):Bool:=dig c||let1 c||sgL.contains c
def cellP (last c:UInt8):Tx:=if dig c then (if dig last then [] else [60])++[digL.getD (c.toNat - 48) 0] else if let1 c then [48,lowL.getD (c.toNat - 97) 0] else [celL.getD (ixB sgL c) 0]
def codeP:UInt8→Tx→Tx
 | _,[]=>[]
 | last,c::s=>cellP last c++codeP c s
def cutP (last c:UInt8):Bool:=twoL.contains c&&(dig last||let1 last||decide (last=41))
def brkP:UInt8→Nat→Tx→List Int
 | _,_,[]=>[]
 | last,n,c::s=>(if cutP last c then [((n+(cellP last c).length:Nat):Int)] else [])++brkP c (n+(cellP last c).length) s
def cellOk (c:UInt8):Bool:=
 if dig c then decide (c.toNat - 48 < 10)&&decide (digL.getD (c.toNat - 48) 0≠63)&&decide (digL.getD (c.toNat - 48) 0 < 64)&&decide (0≤Lib.indexByte digL (digL.getD (c.toNat - 48) 0))&&decide (UInt8.ofNat (48+ixB digL (digL.getD (c.toNat - 48) 0))=c)
 else if let1 c then decide (c.toNat - 97 < 26)&&decide (lowL.getD (c.toNat - 97) 0≠63)&&decide (lowL.getD (c.toNat - 97) 0 < 64)&&decide (0≤Lib.indexByte lowL (lowL.getD (c.toNat - 97) 0))&&decide (UInt8.ofNat (97+ixB lowL (lowL.getD (c.toNat - 97) 0))=c)
 else if sgL.contains c then decide (ixB sgL c < 10)&&decide (0≤Lib.indexByte sgL c)&&decide (celL.getD (ixB sgL c) 0≠63)&&decide (celL.getD (ixB sgL c) 0 < 64)&&decide (Lib.indexByte digL (celL.getD (ixB sgL c) 0) < 0)&&decide (celL.getD (ixB sgL c) 0≠60)&&decide (celL.getD (ixB sgL c) 0≠48)&&decide (0≤Lib.indexByte celL (celL.getD (ixB sgL c) 0))&&decide (sgL.getD (ixB celL (celL.getD (ixB sgL c) 0)) 0=c)
 else true
theorem cell_ok (c:UInt8):cellOk c=true:=u8_all (p:=cellOk) (by kernel_rfl) c
theorem ok_sg {c:UInt8} (h:okC c=true) (h1:dig c=false) (h2:let1 c=false):sgL.contains c=true:=by
 unfold okC at h;rw [h1,h2] at h;simpa using h
theorem ok_128 {c:UInt8} (h:okC c=true):c.toNat < 128:=by
 have:=u8_all (p:=fun c=>!okC c||decide (c.toNat < 128)) (by kernel_rfl) c
 rw [h] at this
 simpa using this
theorem cell_d {c:UInt8} (h1:dig c=true):c.toNat - 48 < 10∧digL.getD (c.toNat - 48) 0≠63∧digL.getD (c.toNat - 48) 0 < 64∧0≤Lib.indexByte digL (digL.getD (c.toNat - 48) 0)∧UInt8.ofNat (48+ixB digL (digL.getD (c.toNat - 48) 0))=c:=by
 have:=cell_ok c
 unfold cellOk at this
 rw [if_pos h1] at this
 simp only [Bool.and_eq_true,decide_eq_true_eq] at this
 exact ⟨this.1.1.1.1,this.1.1.1.2,this.1.1.2,this.1.2,this.2⟩
theorem cell_l {c:UInt8} (h1:dig c=false) (h2:let1 c=true):c.toNat - 97 < 26∧lowL.getD (c.toNat - 97) 0≠63∧lowL.getD (c.toNat - 97) 0 < 64∧0≤Lib.indexByte lowL (lowL.getD (c.toNat - 97) 0)∧UInt8.ofNat (97+ixB lowL (lowL.getD (c.toNat - 97) 0))=c:=by
 have:=cell_ok c
 unfold cellOk at this
 rw [if_neg (by rw [h1];decide),if_pos h2] at this
 simp only [Bool.and_eq_true,decide_eq_true_eq] at this
 exact ⟨this.1.1.1.1,this.1.1.1.2,this.1.1.2,this.1.2,this.2⟩
theorem cell_s {c:UInt8} (h1:dig c=false) (h2:let1 c=false) (h3:sgL.contains c=true):ixB sgL c < 10∧0≤Lib.indexByte sgL c∧celL.getD (ixB sgL c) 0≠63∧celL.getD (ixB sgL c) 0 < 64∧Lib.indexByte digL (celL.getD (ixB sgL c) 0) < 0∧celL.getD (ixB sgL c) 0≠60∧celL.getD (ixB sgL c) 0≠48∧0≤Lib.indexByte celL (celL.getD (ixB sgL c) 0)∧sgL.getD (ixB celL (celL.getD (ixB sgL c) 0)) 0=c:=by
 have:=cell_ok c
 unfold cellOk at this
 rw [if_neg (by rw [h1];decide),if_neg (by rw [h2];decide),if_pos h3] at this
 simp only [Bool.and_eq_true,decide_eq_true_eq] at this
 obtain ⟨⟨⟨⟨⟨⟨⟨⟨a1,a2⟩,a3⟩,a4⟩,a5⟩,a6⟩,a7⟩,a8⟩,a9⟩:=this
 exact ⟨a1,a2,a3,a4,a5,a6,a7,a8,a9⟩
theorem cell_len (last c:UInt8):1≤(cellP last c).length∧(cellP last c).length≤2:=by
 unfold cellP
 split
 ·split <;> simp
 ·split <;> simp
theorem code_len:∀ (s:Tx) (last:UInt8),s.length≤(codeP last s).length∧(codeP last s).length≤2 * s.length
 | [],_=>⟨Nat.le_refl _,Nat.le_refl _⟩
 | c::s,last=>by
   have:=code_len s c
   have h:=cell_len last c
   unfold codeP
   simp only [List.length_append,List.length_cons]
   omega
theorem at_ok {k:Nat} {e:Ex} (h:∀ c ∈ txE e,okC c=true):∀ c ∈ atE k e,okC c=true:=fun c hc=>by
 by_cases hk:lvlN e.op < k
 ·rw [atE_lo hk] at hc
  simp only [List.mem_cons,List.mem_append,List.not_mem_nil,or_false] at hc
  rcases hc with rfl | hc | rfl
  ·decide
  ·exact h c hc
  ·decide
 ·rw [atE_hi (by omega)] at hc;exact h c hc
theorem dec_ok (u:Nat):∀ c ∈ Lib.decDigits u,okC c=true:=fun c hc=>by
 unfold okC;rw [dec_dig u c hc];rfl
theorem txE_ok:∀ (n:Nat) (e:Ex) (root:Bool),sizeE e≤n→okE e root=true→∀ c ∈ txE e,okC c=true
 | 0,e,_,h,_=>by have:=size_pos e;omega
 | n+1,.mk o a ks,root,h,ok=>by
   rcases ok_shape ok with ⟨rfl,rfl,h0,h1⟩ | ⟨rfl,rfl,h0,h1⟩ | ⟨ho,k,rfl,hk⟩ | ⟨ho,k,k',rfl,hk,hk'⟩
   ·rw [txE_num];exact dec_ok _
   ·rw [txE_var]
    intro c hc
    rw [List.mem_singleton] at hc
    subst hc
    have key:∀ m:Nat,m < 26→okC (UInt8.ofNat (97+m))=true:=fun m hm=>by
     have:=List.all_eq_true.1 (by kernel_rfl:(List.range 26).all (fun m=>okC (UInt8.ofNat (97+m)))=true) m (List.mem_range.2 hm)
     exact this
    exact key _ (by omega)
   ·have hs:sizeE k≤n:=by simp only [sizeE,sizeL] at h;omega
    have ih:=txE_ok n k false hs hk
    rcases ho with rfl | rfl
    ·rw [txE_neg]
     intro c hc
     rcases List.mem_cons.1 hc with rfl | hc
     ·decide
     ·exact at_ok ih c hc
    ·rw [txE_root]
     intro c hc
     simp only [List.mem_cons,List.mem_append,List.not_mem_nil,or_false] at hc
     rcases hc with rfl | rfl | hc | rfl
     ·decide
     ·decide
     ·exact at_ok ih c hc
     ·decide
   ·have hs:sizeE k≤n∧sizeE k'≤n:=by simp only [sizeE,sizeL] at h;omega
    have i1:=txE_ok n k false hs.1 hk
    have i2:=txE_ok n k' false hs.2 hk'
    by_cases h7:o=7
    ·subst h7
     rw [txE_pow]
     intro c hc
     simp only [List.mem_cons,List.mem_append] at hc
     rcases hc with hc | rfl | hc
     ·exact at_ok i1 c hc
     ·decide
     ·exact at_ok i2 c hc
    ·have h6:o=3∨o=4∨o=5∨o=6∨o=9∨o=10:=by omega
     rw [txE_two h6]
     intro c hc
     simp only [List.mem_cons,List.mem_append] at hc
     rcases hc with hc | rfl | hc
     ·exact at_ok i1 c hc
     ·rcases h6 with rfl | rfl | rfl | rfl | rfl | rfl <;> decide
     ·exact at_ok i2 c hc
theorem textE_ok (e:Ex):∀ c ∈ textE e,okC c=true:=by
 unfold textE
 split
 ·rename_i h;exact txE_ok _ e true (Nat.le_refl _) (valid_rt h)
 ·intro c hc;cases hc
theorem textE_len {e:Ex}:(textE e).length≤2048:=by
 unfold textE
 split
 ·rename_i h
  have h1:=txE_len _ e true (Nat.le_refl _) (valid_rt h)
  have h2:sizeE e≤256:=by
   unfold validE at h
   split at h
   ·cases h
   ·rename_i h2;omega
  omega
 ·simp
end Go.Proofs
/- The loops of code and text. -/
namespace Go.Proofs
open Go Go.Ax Go.Ax.Alg
theorem getD_at {l:Tx} {i:Nat} (h:i < l.length):l[i]?=some (l.getD i 0):=by
 rw [List.getElem?_eq_getElem h,List.getD_eq_getElem?_getD,List.getElem?_eq_getElem h];rfl
theorem dig_i (c:UInt8):(decide ((48:Int)≤(c.toNat:Int))&&decide ((c.toNat:Int)≤57))=dig c:=by
 have:=u8_all (p:=fun c=>(decide ((48:Int)≤(c.toNat:Int))&&decide ((c.toNat:Int)≤57)) == dig c) (by kernel_rfl) c
 simpa using this
theorem let_i (c:UInt8):(decide ((97:Int)≤(c.toNat:Int))&&decide ((c.toNat:Int)≤122))=let1 c:=by
 have:=u8_all (p:=fun c=>(decide ((97:Int)≤(c.toNat:Int))&&decide ((c.toNat:Int)≤122)) == let1 c) (by kernel_rfl) c
 simpa using this
theorem w97_z {N:Nat} {c:UInt8}:w97z N (c.toNat:Int)=some (dig c):=by rw [← dig_i];rfl
theorem w97_p {N:Nat} {c:UInt8}:w97p N (c.toNat:Int)=true:=by unfold w97p;rw [w97_z];rfl
theorem w97_y0 {N:Nat} {c:UInt8}:w97y0 N (c.toNat:Int)=dig c:=by unfold w97y0;rw [w97_z];rfl
theorem w98_z {N:Nat} {c:UInt8}:w98z N (c.toNat:Int)=some (let1 c):=by rw [← let_i];rfl
theorem w98_p {N:Nat} {c:UInt8}:w98p N (c.toNat:Int)=true:=by unfold w98p;rw [w98_z];rfl
theorem w98_y0 {N:Nat} {c:UInt8}:w98y0 N (c.toNat:Int)=let1 c:=by unfold w98y0;rw [w98_z];rfl
theorem byte_i (c:UInt8):(Int.toNat (c.toNat:Int)).toUInt8=c:=by rw [Int.toNat_natCast];exact UInt8.ofNat_toNat
theorem ix_i {l:Tx} {c:UInt8} (h:0≤Lib.indexByte l c):Lib.indexByte l c=(ixB l c:Int):=by unfold ixB;omega
theorem w99_p {N:Nat} {s:Tx} {c:UInt8} (h:c.toNat < 128):w99p N s (c.toNat:Int)=true:=decide_eq_true (by omega)
theorem w99_y0 {N:Nat} {s:Tx} {c:UInt8}:w99y0 N s (c.toNat:Int)=Lib.indexByte s c:=by unfold w99y0;rw [byte_i]
theorem w100_p {N:Nat} {s:Tx} {c:UInt8} (h:c.toNat < 128):w100p N s (c.toNat:Int)=true:=decide_eq_true (by omega)
theorem w100_y0 {N:Nat} {c:UInt8}:w100y0 N twoL (c.toNat:Int)=twoL.contains c:=by
 unfold w100y0
 rw [byte_i]
 have:=u8_all (p:=fun c=>decide (0≤Lib.indexByte twoL c) == twoL.contains c) (by kernel_rfl) c
 simpa using this
theorem last_i (c:UInt8):decide ((c.toNat:Int)=41)=decide (c=41):=by
 have:=u8_all (p:=fun c=>decide ((c.toNat:Int)=41) == decide (c=41)) (by kernel_rfl) c
 simpa using this
theorem wrd {c:UInt8} (h:dig c=true):IntKind.i32.wrap ((c.toNat:Int) - 48)=((c.toNat - 48:Nat):Int):=by
 have h1:=c.toNat_lt
 unfold dig at h
 simp only [Bool.and_eq_true,decide_eq_true_eq] at h
 have h2:48≤c.toNat:=h.1
 rw [IntWalk.i32_in _ (by omega)];omega
theorem wrl {c:UInt8} (h:let1 c=true):IntKind.i32.wrap ((c.toNat:Int) - 97)=((c.toNat - 97:Nat):Int):=by
 have h1:=c.toNat_lt
 unfold let1 at h
 simp only [Bool.and_eq_true,decide_eq_true_eq] at h
 have h2:97≤c.toNat:=h.1
 rw [IntWalk.i32_in _ (by omega)];omega
theorem limb {n b:Nat} (h:n≤2 ^ 42) (hb:b≤8):lim n b=true:=by
 unfold lim
 refine decide_eq_true ⟨?_,by omega⟩
 have:=Nat.mul_le_mul h hb
 omega
theorem w70_loop {N:Nat} {s:Tx} {K:Tx×List Int→O} {k1 k2:Unit→O}:∀ (r pre:Tx) (a:UInt8) (out:Tx) (brk:List Int) (m:Nat),s=pre++r→(∀ c ∈ r,okC c=true)→out.length+2 * r.length≤2 ^ 40→brk.length+r.length≤2 ^ 40→r.length < m→
    w70l0 N m ((a.toNat:Int),s,out,brk,s,(pre.length:Int)) K k1 k2=K (out++codeP a r,brk++brkP a out.length r)
 | _,_,_,_,_,0,_,_,_,_,h=>by omega
 | [],pre,a,out,brk,m+1,hs,_,_,_,_=>by
   show w70F0 _ _ _ _ _ _ _ _ _=_
   unfold w70F0
   simp only []
   have h0:s.length=pre.length:=by rw [hs];simp
   rw [decide_eq_false (by omega),br_f,br_f]
   simp [codeP,brkP]
 | c::r,pre,a,out,brk,m+1,hs,hok,ho,hb,hm=>by
   have hc:=hok c (List.mem_cons_self ..)
   have hlt:pre.length < s.length:=by rw [hs];simp
   have hg:s[pre.length]?=some c:=by rw [hs,List.getElem?_append_right (Nat.le_refl _)];simp
   have h128:=ok_128 hc
   have ih:=fun (o':Tx) (b':List Int) (h1:o'.length+2 * r.length≤2 ^ 40) (h2:b'.length+r.length≤2 ^ 40)=>
    w70_loop (N:=N) (s:=s) (K:=K) (k1:=k1) (k2:=k2) r (pre++[c]) c o' b' m (by rw [hs];simp) (fun d hd=>hok d (List.mem_cons_of_mem _ hd)) h1 h2 (by simp at hm;omega)
   have hpl:((pre++[c]).length:Int)=(pre.length:Int)+1:=by simp
   rw [hpl] at ih
   simp only [List.length_cons] at ho hb
   show w70F0 _ _ _ _ _ _ _ _ _=_
   unfold w70F0
   simp only []
   rw [decide_eq_true (by omega),br_t,gx_at hg,ck_of (decide_eq_true h128),br_t,ck_of w97_p,w97_y0]
   unfold codeP brkP cellP
   by_cases h1:dig c=true
   ·have hcut:cutP a c=false:=by
     have:=u8_all (p:=fun c=>!dig c||!twoL.contains c) (by kernel_rfl) c
     rw [h1] at this
     unfold cutP
     simp only [Bool.not_true,Bool.false_or,Bool.not_eq_true'] at this
     rw [this];rfl
    have hx:=getD_at (l:=digL) (i:=c.toNat - 48) (cell_d h1).1
    rw [h1,br_t,ck_of w97_p,w97_y0,if_pos rfl,hcut]
    cases h2:dig a with
    | true=>
      rw [Bool.not_true,br_f,wrd h1,gx_at hx,ck_of (limb (by simp;omega) (by omega))]
      refine (ih _ _ (by simp;omega) (by omega)).trans ?_
      simp
    | false=>
      rw [Bool.not_false,br_t,ck_of (limb (by simp;omega) (by omega)),wrd h1,gx_at hx,ck_of (limb (by simp;omega) (by omega))]
      refine (ih _ _ (by simp;omega) (by omega)).trans ?_
      simp
   ·have h1:dig c=false:=by simpa using h1
    rw [h1,br_f,ck_of w98_p,w98_y0,if_neg (by decide)]
    by_cases h2:let1 c=true
    ·have hcut:cutP a c=false:=by
      have:=u8_all (p:=fun c=>!let1 c||!twoL.contains c) (by kernel_rfl) c
      rw [h2] at this
      unfold cutP
      simp only [Bool.not_true,Bool.false_or,Bool.not_eq_true'] at this
      rw [this];rfl
     have hx:=getD_at (l:=lowL) (i:=c.toNat - 97) (cell_l h1 h2).1
     rw [h2,br_t,wrl h2,gx_at hx,ck_of (limb (by simp;omega) (by omega)),if_pos rfl,hcut]
     refine (ih _ _ (by simp;omega) (by omega)).trans ?_
     simp
    ·have h2:let1 c=false:=by simpa using h2
     have hsg:=cell_s h1 h2 (ok_sg hc h1 h2)
     have hx:=getD_at (l:=celL) (i:=ixB sgL c) hsg.1
     rw [h2,br_f,ck_of (w99_p h128),w99_y0,ix_i hsg.2.1,gx_at hx,ck_of (limb (by simp;omega) (by omega)),ck_of (w100_p h128),w100_y0,w97_p,Bool.or_true,ck_t,w98_p,Bool.or_true,ck_t,w97_y0,w98_y0,last_i,if_neg (by decide)]
     have hcutd:(twoL.contains c&&(dig a||let1 a||decide (a=41)))=cutP a c:=rfl
     rw [hcutd]
     cases cutP a c with
     | true=>
       rw [br_t,ck_of (limb (by simp;omega) (by omega))]
       refine (ih _ _ (by simp;omega) (by simp;omega)).trans ?_
       simp
     | false=>
       rw [br_f]
       refine (ih _ _ (by simp;omega) (by omega)).trans ?_
       simp
theorem w70_z {N:Nat} {s:Tx} (hok:∀ c ∈ s,okC c=true) (h:s.length < N) (hB:s.length≤2 ^ 36):w70z N s=some (codeP 40 s++[63],brkP 40 0 s):=by
 unfold w70z w70 w70G w70n0
 refine (congrArg (fun z:O=>z.bind w70un) (w70_loop (N:=N) (s:=s) s [] 40 [] [] N rfl hok (by simp;omega) (by simp;omega) h)).trans ?_
 have:=(code_len s 40).2
 simp only [List.nil_append,List.length_nil]
 rw [ck_of (limb (by simp;omega) (by omega))]
 rfl
end Go.Proofs
/- Text of cells, Encode, Decode. -/
namespace Go.Proofs
open Go Go.Ax Go.Ax.Alg
section
variable {N:Nat} {l:Tx} (h:l.length < N) (hB:l.length≤2 ^ 36)
include h hB
end
def encE (e:Ex):Tx:=if validE e=0 then codeP 40 (txE e)++[63] else []
theorem textE_v {e:Ex} (h:validE e=0):textE e=txE e:=by unfold textE;rw [if_pos h]
theorem w70_text {N:Nat} {e:Ex} (hN:70000≤N):w70z N (textE e)=some (codeP 40 (textE e)++[63],brkP 40 0 (textE e)):=by
 have:=textE_len (e:=e)
 exact w70_z (textE_ok e) (by omega) (by omega)
section
variable {N:Nat} {e:Ex} (hN:70000≤N) (hs:sizeE e≤8500)
include hN hs
theorem w40_z:w40z N e.op e.num e.kids=some (encE e,validE e):=by
 have h1:=w17_p (N:=N) (e:=e) (by omega) (by omega)
 have h2:=w17_y0 (N:=N) (e:=e) (by omega) (by omega)
 have h3:=w14_p (N:=N) (e:=e) (by omega) (by omega)
 have h4:=w14_y0 (N:=N) (e:=e) (by omega) (by omega)
 have h5:=w70_text (e:=e) hN
 have h6:w70p N (textE e)=true:=by unfold w70p;rw [h5];rfl
 have h7:w70y0 N (textE e)=codeP 40 (textE e)++[63]:=by unfold w70y0;rw [h5];rfl
 unfold w40z w40 w40G encE
 simp only [Ex.eta]
 rw [ck_of h1,h2]
 by_cases hv:validE e=0
 ·rw [decide_eq_false (by simpa using hv),br_f,ck_of h3,h4,ck_of h6,h7,if_pos hv,hv,textE_v hv];rfl
 ·rw [decide_eq_true hv,br_t,if_neg hv];rfl
theorem w40_p:w40p N e.op e.num e.kids=true:=by unfold w40p;rw [w40_z hN hs];rfl
theorem w40_y0:w40y0 N e.op e.num e.kids=encE e:=by unfold w40y0;rw [w40_z hN hs];rfl
theorem w40_y1:w40y1 N e.op e.num e.kids=validE e:=by unfold w40y1;rw [w40_z hN hs];rfl
theorem w42_z:w42z N e.op e.num e.kids=some ((encE e).length:Int):=by
 unfold w42z w42 w42G
 simp only [Ex.eta]
 rw [ck_of (w40_p hN hs),w40_y0 hN hs];rfl
theorem w42_p:w42p N e.op e.num e.kids=true:=by unfold w42p;rw [w42_z hN hs];rfl
theorem w42_y0:w42y0 N e.op e.num e.kids=((encE e).length:Int):=by unfold w42y0;rw [w42_z hN hs];rfl
end
theorem encE_v {e:Ex} (h:validE e=0):encE e=codeP 40 (textE e)++[63]:=by unfold encE;rw [if_pos h,textE_v h]
end Go.Proofs
/- The law on how many cells there are. -/
namespace Go.Proofs
open Go Go.Ax Go.Ax.Alg
def extP (last c:UInt8):Bool:=let1 c||dig c&&!dig last
def cntP:UInt8→Tx→Nat
 | _,[]=>0
 | last,c::s=>(if extP last c then 1 else 0)+cntP c s
theorem cell_ext (last c:UInt8):(cellP last c).length=1+if extP last c then 1 else 0:=by
 unfold cellP extP
 have:=u8_all (p:=fun c=>!(dig c&&let1 c)) (by kernel_rfl) c
 cases h1:dig c with
 | true=>
   rw [h1] at this
   have h2:let1 c=false:=by simpa using this
   rw [h2]
   cases dig last <;> rfl
 | false=>
   cases h2:let1 c <;> rfl
theorem code_cnt:∀ (s:Tx) (last:UInt8),(codeP last s).length=s.length+cntP last s
 | [],_=>rfl
 | c::s,last=>by
   unfold codeP cntP
   rw [List.length_append,code_cnt s c,cell_ext,List.length_cons]
   omega
theorem gc48 (c:UInt8):(decide ((48:UInt8)≤c)&&decide ((if decide ((48:UInt8)≤c)=true then c else 0)≤57))=dig c:=by
 unfold dig
 by_cases h:(48:UInt8)≤c
 ·rw [decide_eq_true h];rfl
 ·rw [decide_eq_false h];rfl
theorem gc97 (c:UInt8):(decide ((97:UInt8)≤c)&&decide ((if decide ((97:UInt8)≤c)=true then c else 0)≤122))=let1 c:=by
 unfold let1
 by_cases h:(97:UInt8)≤c
 ·rw [decide_eq_true h];rfl
 ·rw [decide_eq_false h];rfl
theorem gc_no' {α:Type} {z:α} {l:List α} {n:Int} {k:α→O}:gc false z l n k=k z:=rfl
theorem dig_no (a:UInt8):(decide (a < 48)||decide (57 < a))=!dig a:=by
 have:=u8_all (p:=fun a=>(decide (a < 48)||decide (57 < a)) == !dig a) (by kernel_rfl) a
 simpa using this
section
variable {N:Nat} {l0:List Int} {x1 x3 x4 s:Tx} {x2 y0 y1:Int} {y2:List Ex} {K:(List Int)×Tx×Int×Int×Int×(List Ex)→O} {k1 k2:Unit→O}
theorem w10_loop (hs60:s.length≤2 ^ 40):∀ (r pre:Tx) (a:UInt8) (n m:Nat),s=pre++r→(pre=[]∧a=40∨∃ p,pre=p++[a])→n+r.length≤2 ^ 41→r.length < m→
    w10l0 N m (l0,x1,x2,x3,x4,s,(n:Int),(pre.length:Int),y0,y1,y2) K k1 k2=K (l0,x4,((n+cntP a r:Nat):Int),y0,y1,y2)
 | _,_,_,_,0,_,_,_,h=>by omega
 | [],pre,a,n,m+1,hs,_,_,_=>by
   show w10F0 _ _ _ _ _ _ _ _ _ _ _ _ _ _=_
   unfold w10F0
   simp only []
   have h0:s.length=pre.length:=by rw [hs];simp
   rw [decide_eq_false (by omega),br_f]
   rfl
 | c::r,pre,a,n,m+1,hs,ha,hn,hm=>by
   have hlt:pre.length < s.length:=by rw [hs];simp
   have hg:s[pre.length]?=some c:=by rw [hs,List.getElem?_append_right (Nat.le_refl _)];simp
   simp only [List.length_cons] at hn hm
   have ih:=fun (n':Nat) (h1:n'+r.length≤2 ^ 41)=>w10_loop hs60 r (pre++[c]) c n' m (by rw [hs];simp) (.inr ⟨pre,rfl⟩) h1 (by omega)
   have hpl:((pre++[c]).length:Int)=(pre.length:Int)+1:=by simp
   rw [hpl] at ih
   have inc:IntKind.i64.wrap ((n:Int)+1)=((n+1:Nat):Int):=by rw [wr (by omega) (by omega)];omega
   have fin:∀ b:Bool,b=extP a c→br b (w10l0 N m (l0,x1,x2,x3,x4,s,IntKind.i64.wrap ((n:Int)+1),IntKind.i64.wrap ((pre.length:Int)+1),y0,y1,y2) K k1 k2) (w10l0 N m (l0,x1,x2,x3,x4,s,(n:Int),IntKind.i64.wrap ((pre.length:Int)+1),y0,y1,y2) K k1 k2)=K (l0,x4,((n+cntP a (c::r):Nat):Int),y0,y1,y2):=fun b hb=>by
    subst hb
    unfold cntP
    rw [wr (x:=(pre.length:Int)+1) (by omega) (by omega),inc]
    cases extP a c with
    | true=>
      rw [br_t]
      refine (ih (n+1) (by omega)).trans ?_
      simp only [if_true,Nat.add_assoc]
    | false=>
      rw [br_f]
      refine (ih n (by omega)).trans ?_
      simp
   show w10F0 _ _ _ _ _ _ _ _ _ _ _ _ _ _=_
   unfold w10F0
   simp only []
   rw [decide_eq_true (by omega),br_t,gx_at hg,gc_at hg,gx_at hg,gc_at hg]
   simp only [gc48,gc97]
   unfold extP at fin
   cases h1:let1 c with
   | true=>
     rw [Bool.not_true,Bool.false_and,Bool.false_and,gc_no',Bool.false_and,gc_no']
     exact fin _ (by rw [h1];rfl)
   | false=>
     cases h2:dig c with
     | false=>
       rw [Bool.and_false,Bool.false_and,gc_no',Bool.false_and,gc_no']
       exact fin _ (by rw [h1,h2];rfl)
     | true=>
       rcases ha with ⟨rfl,rfl⟩ | ⟨p,rfl⟩
       ·rw [decide_eq_true (show ((([]:Tx).length:Nat):Int)=0 from rfl),Bool.not_true,Bool.and_false,gc_no',Bool.true_or,Bool.not_true,Bool.and_false,gc_no']
        exact fin _ (by rw [h1,h2];rfl)
       ·have hl:(p++[a]).length=p.length+1:=by simp
        have hga:s[p.length]?=some a:=by rw [hs,List.append_assoc,List.getElem?_append_right (Nat.le_refl _)];simp
        rw [decide_eq_false (by rw [hl];omega)]
        rw [show IntKind.i64.wrap ((((p++[a]).length:Nat):Int) - 1)=(p.length:Int) by rw [hl,wr (by omega) (by omega)];omega]
        rw [show (!false&&true&&!false)=true from rfl,gc_t,gx_at hga,Bool.not_false,Bool.true_and,Bool.true_and,Bool.false_or,gc_at hga]
        refine fin _ ?_
        rw [h1,h2,← dig_no]
        cases decide (a < 48) <;> rfl
end
theorem law10 {N:Nat} (hN:70000≤N) {l:List Int} (hl:∀ x ∈ l,J64 x) (hlen:l.length < 2 ^ 60):w10z N l=some true:=by
 obtain ⟨e,p1,q1,q2,q3,ok,hs,hd,_⟩:=w12_py (N:=N) (by omega) hl hlen 4
 have g1:w39z N l=some (e.op,e.num,e.kids):=by
  unfold w39z w39 w39G
  rw [ck_of p1,q1,q2,q3];rfl
 have g0:w39p N l=true:=by unfold w39p;rw [g1];rfl
 have g2:w39y0 N l=e.op:=by unfold w39y0;rw [g1];rfl
 have g3:w39y1 N l=e.num:=by unfold w39y1;rw [g1];rfl
 have g4:w39y2 N l=e.kids:=by unfold w39y2;rw [g1];rfl
 have htl:=textE_len (e:=e)
 unfold w10z w10 w10G
 simp only [g2,g3,g4,Ex.eta,w40_y0 hN (show sizeE e≤8500 by omega),w40_y1 hN (show sizeE e≤8500 by omega),w17_y0 (N:=N) (e:=e) (by omega) (by omega),w14_y0 (N:=N) (e:=e) (by omega) (by omega)]
 rw [ck_of g0,ck_of (w40_p hN (by omega))]
 by_cases hv:validE e=0
 ·rw [decide_eq_false (by simpa using hv),br_f,ck_of (w14_p (by omega) (by omega)),wr (by omega) (by omega)]
  unfold w10n0
  refine (congrArg (fun z:O=>z.bind w10un) (w10_loop (N:=N) (l0:=l) (x1:=encE e) (x3:=encE e) (x4:=encE e) (s:=textE e) (x2:=validE e) (y0:=e.op) (y1:=e.num) (y2:=e.kids) (k1:=fun _=>none) (k2:=fun _=>none) (K:=fun y=>_) (by omega) (textE e) [] 40 ((textE e).length+1) N rfl (.inl ⟨rfl,rfl⟩) (by omega) (by omega))).trans ?_
  simp only [Ex.eta]
  have hlen:((encE e).length:Int)=(((textE e).length+1+cntP 40 (textE e):Nat):Int):=by
   rw [encE_v hv,List.length_append,code_cnt];simp;omega
  rw [w42_y0 hN (by omega),w42_p hN (by omega),decide_eq_true hlen]
  rfl
 ·rw [decide_eq_true hv,br_t,ck_of (w17_p (by omega) (by omega)),Bool.or_true,ck_t]
  simp
  rfl
end Go.Proofs
/- Numbers that came in. -/
namespace Go.Proofs
open Go Go.Ax
theorem j64_w {z:Int} (h:OkV (.i .i64) z):J64 z:=by
 have h:(Lit.int .i64 z).wf=true:=h
 simp [Lit.wf] at h
 have h1:IntKind.i64.min = -9223372036854775808:=by decide
 rw [h1] at h
 unfold J64
 omega
theorem jl_w {l:List Int} (h:OkV (.sl (.i .i64)) l):∀ x ∈ l,J64 x:=fun x hx=>j64_w (h x hx)
theorem len_s {l:List Int} (h:SzV (.sl (.i .i64)) l):l.length < 2 ^ 60:=by
 have h1:=h.1
 have h2:l.length * 8≤reachBytes:=h1
 have h3:reachBytes=0x7ffffffff000:=rfl
 omega
end Go.Proofs
