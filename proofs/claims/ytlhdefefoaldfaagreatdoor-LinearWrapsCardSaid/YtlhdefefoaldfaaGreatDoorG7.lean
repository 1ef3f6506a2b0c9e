/- Cells of texts. Conditions are in the theorems. -/
import Derived.Test.YtlhdefefoaldfaaGreatDoorG6
import Derived.KernelRfl
import Derived.Lib.Bytealg
import Derived.Test.YtlhdefefoaldfaaGreatDoorL1
import Derived.Test.YtlhdefefoaldfaaGreatDoorG2
import Derived.Test.YtlhdefefoaldfaaGreatDoorG1
import Derived.Test.YtlhdefefoaldfaaGreatDoorE7
import Derived.Test.YtlhdefefoaldfaaGreatDoorL3
/- The cells of a text, and the text of cells: plain. -/
namespace Go.Proofs
open Go Go.Ax Go.Ax.Alg
theorem u8_all {p:UInt8→Bool} (h:(List.range 256).all (fun n=>p (UInt8.ofNat n))=true) (c:UInt8):p c=true:=by
 have:=List.all_eq_true.1 h c.toNat (List.mem_range.2 c.toNat_lt)
 rwa [UInt8.ofNat_toNat] at this
abbrev sgL:Tx:=[43,45,42,47,94,61,60,82,40,41]
abbrev twoL:Tx:=[43,45,42,47,61,60]
abbrev digL:Tx:=[26,1,3,9,25,17,11,27,19,10]
abbrev lowL:Tx:=[1,3,9,25,17,11,27,19,10,26,5,7,13,29,21,15,31,23,14,30,37,39,58,45,61,53]
abbrev celL:Tx:=[22,36,33,12,24,54,42,28,55,62]
def ixB (l:Tx) (c:UInt8):Nat:=(Lib.indexByte l c).toNat
def okC (c:UInt8):Bool:=dig c||let1 c||sgL.contains c
def cellP (last c:UInt8):Tx:=if dig c then (if dig last then [] else [60])++[digL.getD (c.toNat - 48) 0] else if let1 c then [48,lowL.getD (c.toNat - 97) 0] else [celL.getD (ixB sgL c) 0]
def codeP:UInt8→Tx→Tx
 | _,[]=>[]
 | last,c::s=>cellP last c++codeP c s
def cutP (last c:UInt8):Bool:=twoL.contains c&&(dig last||let1 last||decide (last=41))
def brkP:UInt8→Nat→Tx→List Int
 | _,_,[]=>[]
 | last,n,c::s=>(if cutP last c then [((n+(cellP last c).length:Nat):Int)] else [])++brkP c (n+(cellP last c).length) s
def cellOk (c:UInt8):Bool:=
 if dig c then decide (c.toNat - 48 < 10)&&decide (digL.getD (c.toNat - 48) 0≠63)&&decide (digL.getD (c.toNat - 48) 0 < 64)&&decide (0≤Lib.indexByte digL (digL.getD (c.toNat - 48) 0))&&decide (UInt8.ofNat (48+ixB digL (digL.getD (c.toNat - 48) 0))=c)
 else if let1 c then decide (c.toNat - 97 < 26)&&decide (lowL.getD (c.toNat - 97) 0≠63)&&decide (lowL.getD (c.toNat - 97) 0 < 64)&&decide (0≤Lib.indexByte lowL (lowL.getD (c.toNat - 97) 0))&&decide (UInt8.ofNat (97+ixB lowL (lowL.getD (c.toNat - 97) 0))=c)
 else if sgL.contains c then decide (ixB sgL c < 10)&&decide (0≤Lib.indexByte sgL c)&&decide (celL.getD (ixB sgL c) 0≠63)&&decide (celL.getD (ixB sgL c) 0 < 64)&&decide (Lib.indexByte digL (celL.getD (ixB sgL c) 0) < 0)&&decide (celL.getD (ixB sgL c) 0≠60)&&decide (celL.getD (ixB sgL c) 0≠48)&&decide (0≤Lib.indexByte celL (celL.getD (ixB sgL c) 0))&&decide (sgL.getD (ixB celL (celL.getD (ixB sgL c) 0)) 0=c)
 else true
theorem cell_ok (c:UInt8):cellOk c=true:=u8_all (p:=cellOk) (by kernel_rfl) c
theorem ok_sg {c:UInt8} (h:okC c=true) (h1:dig c=false) (h2:let1 c=false):sgL.contains c=true:=by
 unfold okC at h;rw [h1,h2] at h;simpa using h
theorem ok_128 {c:UInt8} (h:okC c=true):c.toNat < 128:=by
 have:=u8_all (p:=fun c=>!okC c||decide (c.toNat < 128)) (by kernel_rfl) c
 rw [h] at this
 simpa using this
theorem cell_d {c:UInt8} (h1:dig c=true):c.toNat - 48 < 10∧digL.getD (c.toNat - 48) 0≠63∧digL.getD (c.toNat - 48) 0 < 64∧0≤Lib.indexByte digL (digL.getD (c.toNat - 48) 0)∧UInt8.ofNat (48+ixB digL (digL.getD (c.toNat - 48) 0))=c:=by
 have:=cell_ok c
 unfold cellOk at this
 rw [if_pos h1] at this
 simp only [Bool.and_eq_true,decide_eq_true_eq] at this
 exact ⟨this.1.1.1.1,this.1.1.1.2,this.1.1.2,this.1.2,this.2⟩
theorem cell_l {c:UInt8} (h1:dig c=false) (h2:let1 c=true):c.toNat - 97 < 26∧lowL.getD (c.toNat - 97) 0≠63∧lowL.getD (c.toNat - 97) 0 < 64∧0≤Lib.indexByte lowL (lowL.getD (c.toNat - 97) 0)∧UInt8.ofNat (97+ixB lowL (lowL.getD (c.toNat - 97) 0))=c:=by
 have:=cell_ok c
 unfold cellOk at this
 rw [if_neg (by rw [h1];decide),if_pos h2] at this
 simp only [Bool.and_eq_true,decide_eq_true_eq] at this
 exact ⟨this.1.1.1.1,this.1.1.1.2,this.1.1.2,this.1.2,this.2⟩
theorem cell_s {c:UInt8} (h1:dig c=false) (h2:let1 c=false) (h3:sgL.contains c=true):ixB sgL c < 10∧0≤Lib.indexByte sgL c∧celL.getD (ixB sgL c) 0≠63∧celL.getD (ixB sgL c) 0 < 64∧Lib.indexByte digL (celL.getD (ixB sgL c) 0) < 0∧celL.getD (ixB sgL c) 0≠60∧celL.getD (ixB sgL c) 0≠48∧0≤Lib.indexByte celL (celL.getD (ixB sgL c) 0)∧sgL.getD (ixB celL (celL.getD (ixB sgL c) 0)) 0=c:=by
 have:=cell_ok c
 unfold cellOk at this
 rw [if_neg (by rw [h1];decide),if_neg (by rw [h2];decide),if_pos h3] at this
 simp only [Bool.and_eq_true,decide_eq_true_eq] at this
 obtain ⟨⟨⟨⟨⟨⟨⟨⟨a1,a2⟩,a3⟩,a4⟩,a5⟩,a6⟩,a7⟩,a8⟩,a9⟩:=this
 exact ⟨a1,a2,a3,a4,a5,a6,a7,a8,a9⟩
theorem cell_len (last c:UInt8):1≤(cellP last c).length∧(cellP last c).length≤2:=by
 unfold cellP
 split
 ·split <;> simp
 ·split <;> simp
theorem code_len:∀ (s:Tx) (last:UInt8),s.length≤(codeP last s).length∧(codeP last s).length≤2 * s.length
 | [],_=>⟨Nat.le_refl _,Nat.le_refl _⟩
 | c::s,last=>by
   have:=code_len s c
   have h:=cell_len last c
   unfold codeP
   simp only [List.length_append,List.length_cons]
   omega
theorem at_ok {k:Nat} {e:Ex} (h:∀ c ∈ txE e,okC c=true):∀ c ∈ atE k e,okC c=true:=fun c hc=>by
 by_cases hk:lvlN e.op < k
 ·rw [atE_lo hk] at hc
  simp only [List.mem_cons,List.mem_append,List.not_mem_nil,or_false] at hc
  rcases hc with rfl | hc | rfl
  ·decide
  ·exact h c hc
  ·decide
 ·rw [atE_hi (by omega)] at hc;exact h c hc
theorem dec_ok (u:Nat):∀ c ∈ Lib.decDigits u,okC c=true:=fun c hc=>by
 unfold okC;rw [dec_dig u c hc];rfl
theorem txE_ok:∀ (n:Nat) (e:Ex) (root:Bool),sizeE e≤n→okE e root=true→∀ c ∈ txE e,okC c=true
 | 0,e,_,h,_=>by have:=size_pos e;omega
 | n+1,.mk o a ks,root,h,ok=>by
   rcases ok_shape ok with ⟨rfl,rfl,h0,h1⟩ | ⟨rfl,rfl,h0,h1⟩ | ⟨ho,k,rfl,hk⟩ | ⟨ho,k,k',rfl,hk,hk'⟩
   ·rw [txE_num];exact dec_ok _
   ·rw [txE_var]
    intro c hc
    rw [List.mem_singleton] at hc
    subst hc
    have key:∀ m:Nat,m < 26→okC (UInt8.ofNat (97+m))=true:=fun m hm=>by
     have:=List.all_eq_true.1 (by kernel_rfl:(List.range 26).all (fun m=>okC (UInt8.ofNat (97+m)))=true) m (List.mem_range.2 hm)
     exact this
    exact key _ (by omega)
   ·have hs:sizeE k≤n:=by simp only [sizeE,sizeL] at h;omega
    have ih:=txE_ok n k false hs hk
    rcases ho with rfl | rfl
    ·rw [txE_neg]
     intro c hc
     rcases List.mem_cons.1 hc with rfl | hc
     ·decide
     ·exact at_ok ih c hc
    ·rw [txE_root]
     intro c hc
     simp only [List.mem_cons,List.mem_append,List.not_mem_nil,or_false] at hc
     rcases hc with rfl | rfl | hc | rfl
     ·decide
     ·decide
     ·exact at_ok ih c hc
     ·decide
   ·have hs:sizeE k≤n∧sizeE k'≤n:=by simp only [sizeE,sizeL] at h;omega
    have i1:=txE_ok n k false hs.1 hk
    have i2:=txE_ok n k' false hs.2 hk'
    by_cases h7:o=7
    ·subst h7
     rw [txE_pow]
     intro c hc
     simp only [List.mem_cons,List.mem_append] at hc
     rcases hc with hc | rfl | hc
     ·exact at_ok i1 c hc
     ·decide
     ·exact at_ok i2 c hc
    ·have h6:o=3∨o=4∨o=5∨o=6∨o=9∨o=10:=by omega
     rw [txE_two h6]
     intro c hc
     simp only [List.mem_cons,List.mem_append] at hc
     rcases hc with hc | rfl | hc
     ·exact at_ok i1 c hc
     ·rcases h6 with rfl | rfl | rfl | rfl | rfl | rfl <;> decide
     ·exact at_ok i2 c hc
theorem textE_ok (e:Ex):∀ c ∈ textE e,okC c=true:=by
 unfold textE
 split
 ·rename_i h;exact txE_ok _ e true (Nat.le_refl _) (valid_rt h)
 ·intro c hc;cases hc
theorem textE_len {e:Ex}:(textE e).length≤2048:=by
 unfold textE
 split
 ·rename_i h
  have h1:=txE_len _ e true (Nat.le_refl _) (valid_rt h)
  have h2:sizeE e≤256:=by
   unfold validE at h
   split at h
   ·cases h
   ·rename_i h2;omega
  omega
 ·simp
end Go.Proofs
/- The loops of code and text. -/
namespace Go.Proofs
open Go Go.Ax Go.Ax.Alg
theorem getD_at {l:Tx} {i:Nat} (h:i < l.length):l[i]?=some (l.getD i 0):=by
 rw [List.getElem?_eq_getElem h,List.getD_eq_getElem?_getD,List.getElem?_eq_getElem h];rfl
theorem dig_i (c:UInt8):(decide ((48:Int)≤(c.toNat:Int))&&decide ((c.toNat:Int)≤57))=dig c:=by
 have:=u8_all (p:=fun c=>(decide ((48:Int)≤(c.toNat:Int))&&decide ((c.toNat:Int)≤57)) == dig c) (by kernel_rfl) c
 simpa using this
theorem let_i (c:UInt8):(decide ((97:Int)≤(c.toNat:Int))&&decide ((c.toNat:Int)≤122))=let1 c:=by
 have:=u8_all (p:=fun c=>(decide ((97:Int)≤(c.toNat:Int))&&decide ((c.toNat:Int)≤122)) == let1 c) (by kernel_rfl) c
 simpa using this
theorem w57_z {N:Nat} {c:UInt8}:w57z N (c.toNat:Int)=some (dig c):=by rw [← dig_i];rfl
theorem w57_p {N:Nat} {c:UInt8}:w57p N (c.toNat:Int)=true:=by unfold w57p;rw [w57_z];rfl
theorem w57_y0 {N:Nat} {c:UInt8}:w57y0 N (c.toNat:Int)=dig c:=by unfold w57y0;rw [w57_z];rfl
theorem w58_z {N:Nat} {c:UInt8}:w58z N (c.toNat:Int)=some (let1 c):=by rw [← let_i];rfl
theorem w58_p {N:Nat} {c:UInt8}:w58p N (c.toNat:Int)=true:=by unfold w58p;rw [w58_z];rfl
theorem w58_y0 {N:Nat} {c:UInt8}:w58y0 N (c.toNat:Int)=let1 c:=by unfold w58y0;rw [w58_z];rfl
theorem byte_i (c:UInt8):(Int.toNat (c.toNat:Int)).toUInt8=c:=by rw [Int.toNat_natCast];exact UInt8.ofNat_toNat
theorem ix_i {l:Tx} {c:UInt8} (h:0≤Lib.indexByte l c):Lib.indexByte l c=(ixB l c:Int):=by unfold ixB;omega
theorem w59_p {N:Nat} {s:Tx} {c:UInt8} (h:c.toNat < 128):w59p N s (c.toNat:Int)=true:=decide_eq_true (by omega)
theorem w59_y0 {N:Nat} {s:Tx} {c:UInt8}:w59y0 N s (c.toNat:Int)=Lib.indexByte s c:=by unfold w59y0;rw [byte_i]
theorem w60_p {N:Nat} {s:Tx} {c:UInt8} (h:c.toNat < 128):w60p N s (c.toNat:Int)=true:=decide_eq_true (by omega)
theorem w60_y0 {N:Nat} {c:UInt8}:w60y0 N twoL (c.toNat:Int)=twoL.contains c:=by
 unfold w60y0
 rw [byte_i]
 have:=u8_all (p:=fun c=>decide (0≤Lib.indexByte twoL c) == twoL.contains c) (by kernel_rfl) c
 simpa using this
theorem last_i (c:UInt8):decide ((c.toNat:Int)=41)=decide (c=41):=by
 have:=u8_all (p:=fun c=>decide ((c.toNat:Int)=41) == decide (c=41)) (by kernel_rfl) c
 simpa using this
theorem wrd {c:UInt8} (h:dig c=true):IntKind.i32.wrap ((c.toNat:Int) - 48)=((c.toNat - 48:Nat):Int):=by
 have h1:=c.toNat_lt
 unfold dig at h
 simp only [Bool.and_eq_true,decide_eq_true_eq] at h
 have h2:48≤c.toNat:=h.1
 rw [IntWalk.i32_in _ (by omega)];omega
theorem wrl {c:UInt8} (h:let1 c=true):IntKind.i32.wrap ((c.toNat:Int) - 97)=((c.toNat - 97:Nat):Int):=by
 have h1:=c.toNat_lt
 unfold let1 at h
 simp only [Bool.and_eq_true,decide_eq_true_eq] at h
 have h2:97≤c.toNat:=h.1
 rw [IntWalk.i32_in _ (by omega)];omega
theorem limb {n b:Nat} (h:n≤2 ^ 42) (hb:b≤8):lim n b=true:=by
 unfold lim
 refine decide_eq_true ⟨?_,by omega⟩
 have:=Nat.mul_le_mul h hb
 omega
theorem w34_loop {N:Nat} {s:Tx} {K:Tx×List Int→O} {k1 k2:Unit→O}:∀ (r pre:Tx) (a:UInt8) (out:Tx) (brk:List Int) (m:Nat),s=pre++r→(∀ c ∈ r,okC c=true)→out.length+2 * r.length≤2 ^ 40→brk.length+r.length≤2 ^ 40→r.length < m→
    w34l0 N m ((a.toNat:Int),s,out,brk,s,(pre.length:Int)) K k1 k2=K (out++codeP a r,brk++brkP a out.length r)
 | _,_,_,_,_,0,_,_,_,_,h=>by omega
 | [],pre,a,out,brk,m+1,hs,_,_,_,_=>by
   show w34F0 _ _ _ _ _ _ _ _ _=_
   unfold w34F0
   simp only []
   have h0:s.length=pre.length:=by rw [hs];simp
   rw [decide_eq_false (by omega),br_f,br_f]
   simp [codeP,brkP]
 | c::r,pre,a,out,brk,m+1,hs,hok,ho,hb,hm=>by
   have hc:=hok c (List.mem_cons_self ..)
   have hlt:pre.length < s.length:=by rw [hs];simp
   have hg:s[pre.length]?=some c:=by rw [hs,List.getElem?_append_right (Nat.le_refl _)];simp
   have h128:=ok_128 hc
   have ih:=fun (o':Tx) (b':List Int) (h1:o'.length+2 * r.length≤2 ^ 40) (h2:b'.length+r.length≤2 ^ 40)=>
    w34_loop (N:=N) (s:=s) (K:=K) (k1:=k1) (k2:=k2) r (pre++[c]) c o' b' m (by rw [hs];simp) (fun d hd=>hok d (List.mem_cons_of_mem _ hd)) h1 h2 (by simp at hm;omega)
   have hpl:((pre++[c]).length:Int)=(pre.length:Int)+1:=by simp
   rw [hpl] at ih
   simp only [List.length_cons] at ho hb
   show w34F0 _ _ _ _ _ _ _ _ _=_
   unfold w34F0
   simp only []
   rw [decide_eq_true (by omega),br_t,gx_at hg,ck_of (decide_eq_true h128),br_t,ck_of w57_p,w57_y0]
   unfold codeP brkP cellP
   by_cases h1:dig c=true
   ·have hcut:cutP a c=false:=by
     have:=u8_all (p:=fun c=>!dig c||!twoL.contains c) (by kernel_rfl) c
     rw [h1] at this
     unfold cutP
     simp only [Bool.not_true,Bool.false_or,Bool.not_eq_true'] at this
     rw [this];rfl
    have hx:=getD_at (l:=digL) (i:=c.toNat - 48) (cell_d h1).1
    rw [h1,br_t,ck_of w57_p,w57_y0,if_pos rfl,hcut]
    cases h2:dig a with
    | true=>
      rw [Bool.not_true,br_f,wrd h1,gx_at hx,ck_of (limb (by simp;omega) (by omega))]
      refine (ih _ _ (by simp;omega) (by omega)).trans ?_
      simp
    | false=>
      rw [Bool.not_false,br_t,ck_of (limb (by simp;omega) (by omega)),wrd h1,gx_at hx,ck_of (limb (by simp;omega) (by omega))]
      refine (ih _ _ (by simp;omega) (by omega)).trans ?_
      simp
   ·have h1:dig c=false:=by simpa using h1
    rw [h1,br_f,ck_of w58_p,w58_y0,if_neg (by decide)]
    by_cases h2:let1 c=true
    ·have hcut:cutP a c=false:=by
      have:=u8_all (p:=fun c=>!let1 c||!twoL.contains c) (by kernel_rfl) c
      rw [h2] at this
      unfold cutP
      simp only [Bool.not_true,Bool.false_or,Bool.not_eq_true'] at this
      rw [this];rfl
     have hx:=getD_at (l:=lowL) (i:=c.toNat - 97) (cell_l h1 h2).1
     rw [h2,br_t,wrl h2,gx_at hx,ck_of (limb (by simp;omega) (by omega)),if_pos rfl,hcut]
     refine (ih _ _ (by simp;omega) (by omega)).trans ?_
     simp
    ·have h2:let1 c=false:=by simpa using h2
     have hsg:=cell_s h1 h2 (ok_sg hc h1 h2)
     have hx:=getD_at (l:=celL) (i:=ixB sgL c) hsg.1
     rw [h2,br_f,ck_of (w59_p h128),w59_y0,ix_i hsg.2.1,gx_at hx,ck_of (limb (by simp;omega) (by omega)),ck_of (w60_p h128),w60_y0,w57_p,Bool.or_true,ck_t,w58_p,Bool.or_true,ck_t,w57_y0,w58_y0,last_i,if_neg (by decide)]
     have hcutd:(twoL.contains c&&(dig a||let1 a||decide (a=41)))=cutP a c:=rfl
     rw [hcutd]
     cases cutP a c with
     | true=>
       rw [br_t,ck_of (limb (by simp;omega) (by omega))]
       refine (ih _ _ (by simp;omega) (by simp;omega)).trans ?_
       simp
     | false=>
       rw [br_f]
       refine (ih _ _ (by simp;omega) (by omega)).trans ?_
       simp
theorem w34_z {N:Nat} {s:Tx} (hok:∀ c ∈ s,okC c=true) (h:s.length < N) (hB:s.length≤2 ^ 36):w34z N s=some (codeP 40 s++[63],brkP 40 0 s):=by
 unfold w34z w34 w34G w34n0
 refine (congrArg (fun z:O=>z.bind w34un) (w34_loop (N:=N) (s:=s) s [] 40 [] [] N rfl hok (by simp;omega) (by simp;omega) h)).trans ?_
 have:=(code_len s 40).2
 simp only [List.nil_append,List.length_nil]
 rw [ck_of (limb (by simp;omega) (by omega))]
 rfl
end Go.Proofs
/- Text of cells, Encode, Decode. -/
namespace Go.Proofs
open Go Go.Ax Go.Ax.Alg
theorem ix_lt {c:UInt8}:∀ {l:Tx},Lib.indexByte l c < (l.length:Int) ∧ -1≤Lib.indexByte l c
 | []=>by simp [Lib.indexByte]
 | x::l=>by
   have:=ix_lt (c:=c) (l:=l)
   unfold Lib.indexByte
   simp only [List.length_cons]
   split
   ·omega
   ·split
    ·omega
    ·rename_i h2
     have:Lib.indexByte l c ≠ -1:=by simpa using h2
     omega
section
variable {N:Nat} {l:Tx} (h:l.length < N) (hB:l.length≤2 ^ 36)
include h hB
end
def encE (e:Ex):Tx:=if validE e=0 then codeP 40 (txE e)++[63] else []
theorem textE_v {e:Ex} (h:validE e=0):textE e=txE e:=by unfold textE;rw [if_pos h]
theorem w34_text {N:Nat} {e:Ex} (hN:70000≤N):w34z N (textE e)=some (codeP 40 (textE e)++[63],brkP 40 0 (textE e)):=by
 have:=textE_len (e:=e)
 exact w34_z (textE_ok e) (by omega) (by omega)
section
variable {N:Nat} {e:Ex} (hN:70000≤N) (hs:sizeE e≤8500)
include hN hs
theorem w10_z:w10z N e.op e.num e.kids=some (encE e,validE e):=by
 have h1:=w29_p (N:=N) (e:=e) (by omega) (by omega)
 have h2:=w29_y0 (N:=N) (e:=e) (by omega) (by omega)
 have h3:=w35_p (N:=N) (e:=e) (by omega) (by omega)
 have h4:=w35_y0 (N:=N) (e:=e) (by omega) (by omega)
 have h5:=w34_text (e:=e) hN
 have h6:w34p N (textE e)=true:=by unfold w34p;rw [h5];rfl
 have h7:w34y0 N (textE e)=codeP 40 (textE e)++[63]:=by unfold w34y0;rw [h5];rfl
 unfold w10z w10 w10G encE
 simp only [Ex.eta]
 rw [ck_of h1,h2]
 by_cases hv:validE e=0
 ·rw [decide_eq_false (by simpa using hv),br_f,ck_of h3,h4,ck_of h6,h7,if_pos hv,hv,textE_v hv];rfl
 ·rw [decide_eq_true hv,br_t,if_neg hv];rfl
theorem w10_p:w10p N e.op e.num e.kids=true:=by unfold w10p;rw [w10_z hN hs];rfl
theorem w10_y0:w10y0 N e.op e.num e.kids=encE e:=by unfold w10y0;rw [w10_z hN hs];rfl
theorem w10_y1:w10y1 N e.op e.num e.kids=validE e:=by unfold w10y1;rw [w10_z hN hs];rfl
end
theorem encE_v {e:Ex} (h:validE e=0):encE e=codeP 40 (textE e)++[63]:=by unfold encE;rw [if_pos h,textE_v h]
theorem enc_len {e:Ex}:(encE e).length≤4097:=by
 unfold encE
 split
 ·rename_i h
  have h1:=(code_len (txE e) 40).2
  have h2:=textE_len (e:=e)
  rw [textE_v h] at h2
  simp;omega
 ·simp
end Go.Proofs
/- The law on decoding. -/
namespace Go.Proofs
open Go Go.Ax Go.Ax.Alg
theorem w14_loop {N:Nat} {a b:Tx} (hl:a.length≤2 ^ 40) {K:Bool→O} {k1 k2:Unit→O}:∀ (r r' pre pre':Tx) (m:Nat),a=pre++r→b=pre'++r'→pre.length=pre'.length→r.length=r'.length→r.length < m→
    w14l0 N m (a,b,(pre.length:Int)) K k1 k2=if r=r' then k1 () else K false
 | _,_,_,_,0,_,_,_,_,h=>by omega
 | [],r',pre,pre',m+1,ha,_,_,hr,_=>by
   show w14F0 _ _ _ _ _ _ _=_
   unfold w14F0
   simp only []
   have h0:a.length=pre.length:=by rw [ha];simp
   have h1:r'=[]:=List.eq_nil_of_length_eq_zero hr.symm
   rw [decide_eq_false (by omega),br_f,h1,if_pos rfl]
 | x::r,[],_,_,_,_,_,_,h,_=>by simp at h
 | x::r,y::r',pre,pre',m+1,ha,hb,hp,hr,hm=>by
   have hlt:pre.length < a.length:=by rw [ha];simp
   have hg:a[pre.length]?=some x:=by rw [ha,List.getElem?_append_right (Nat.le_refl _)];simp
   have hg':b[pre.length]?=some y:=by rw [hb,hp,List.getElem?_append_right (Nat.le_refl _)];simp
   show w14F0 _ _ _ _ _ _ _=_
   unfold w14F0
   simp only []
   rw [decide_eq_true (by omega),br_t,gx_at hg,gx_at hg']
   by_cases h:x=y
   ·subst h
    rw [decide_eq_false (by simp),br_f,wr (by omega) (by omega)]
    have ih:=w14_loop (N:=N) (a:=a) (b:=b) hl (K:=K) (k1:=k1) (k2:=k2) r r' (pre++[x]) (pre'++[x]) m (by rw [ha];simp) (by rw [hb];simp) (by simp [hp]) (by simpa using hr) (by simp at hm;omega)
    have hpl:((pre++[x]).length:Int)=(pre.length:Int)+1:=by simp
    rw [hpl] at ih
    refine ih.trans ?_
    simp
   ·rw [decide_eq_true h,br_t,if_neg (by simp [h])]
theorem w14_z {N:Nat} {a b:Tx} (hl:a.length≤2 ^ 40) (hN:a.length < N):w14z N a b=some (decide (a=b)):=by
 unfold w14z w14 w14G w14n0
 by_cases h:a.length=b.length
 ·rw [decide_eq_false (by simp [h]),br_f]
  refine (congrArg (fun z:O=>z.bind w14un) (w14_loop (N:=N) hl a b [] [] N rfl rfl rfl h hN)).trans ?_
  by_cases hab:a=b
  ·rw [if_pos hab,decide_eq_true hab];rfl
  ·rw [if_neg hab,decide_eq_false hab];rfl
 ·rw [decide_eq_true (by omega),br_t,decide_eq_false (fun e=>h (by rw [e]))];rfl
theorem w14_p {N:Nat} {a b:Tx} (hl:a.length≤2 ^ 40) (hN:a.length < N):w14p N a b=true:=by unfold w14p;rw [w14_z hl hN];rfl
theorem w14_y0 {N:Nat} {a b:Tx} (hl:a.length≤2 ^ 40) (hN:a.length < N):w14y0 N a b=decide (a=b):=by unfold w14y0;rw [w14_z hl hN];rfl
theorem w8_z {N:Nat} (hN:5≤N) {l:List Int} (hl:∀ x ∈ l,J64 x) (hlen:l.length < 2 ^ 60):∃ e,w8z N l=some (e.op,e.num,e.kids)∧sizeE e≤31:=by
 obtain ⟨e,p1,q1,q2,q3,ok,hs,hd,_⟩:=w33_py (N:=N) (by omega) hl hlen 4
 refine ⟨e,?_,hs⟩
 unfold w8z w8 w8G
 rw [ck_of p1,q1,q2,q3];rfl
end Go.Proofs
/- The reference's code: the same cells and the same breaks. -/
namespace Go.Proofs
open Go Go.Ax Go.Ax.Alg
theorem gc_no' {α:Type} {z:α} {l:List α} {n:Int} {k:α→O}:gc false z l n k=k z:=rfl
theorem w65_p {N:Nat} {c:UInt8}:w65p N c=true:=rfl
theorem w65_y0 {N:Nat} {c:UInt8}:w65y0 N c=dig c:=rfl
theorem w67_p {N:Nat} {c:UInt8}:w67p N c=true:=rfl
theorem w67_y0 {N:Nat} {c:UInt8}:w67y0 N c=let1 c:=rfl
theorem w66_p {N:Nat}:w66p N=true:=rfl
theorem w66_y0 {N:Nat}:w66y0 N=digL:=rfl
theorem w68_p {N:Nat}:w68p N=true:=rfl
theorem w68_y0 {N:Nat}:w68y0 N=lowL:=rfl
theorem ixB_cons (x:UInt8) (l:Tx) (c:UInt8) (h:c ∈ l∨c=x):ixB (x::l) c=if x=c then 0 else ixB l c+1:=by
 have h1:=ix_lt (c:=c) (l:=l)
 unfold ixB
 conv=>lhs;unfold Lib.indexByte
 by_cases h2:x=c
 ·subst h2;simp
 ·have h3:0≤Lib.indexByte l c:=by
   rcases h with h | h
   ·rcases Int.lt_or_le (Lib.indexByte l c) 0 with hn | hn
    ·exfalso
     have:∀ l:Tx,c ∈ l→0≤Lib.indexByte l c:=by
      intro l
      induction l with
      | nil=>intro h;cases h
      | cons y l ih=>
        intro h
        unfold Lib.indexByte
        by_cases hy:y=c
        ·subst hy;simp
        ·have hc:c ∈ l:=by rcases List.mem_cons.1 h with h | h;exact absurd h.symm hy;exact h
         have:=ih hc
         simp [hy]
         split <;> omega
     have:=this l h;omega
    ·exact hn
   ·exact absurd h.symm h2
  simp only [h2,if_false]
  simp [h2]
  split
  ·rename_i h4;omega
  ·omega
theorem w69_loop {N:Nat} {c:UInt8} {K:UInt8→O} {k1 k2:Unit→O}:∀ (r pre:Tx) (m:Nat),sgL=pre++r→c ∈ r→r.length < m→
    w69l0 N m (c,sgL,(pre.length:Int)) K k1 k2=K (celL.getD (pre.length+ixB r c) 0)
 | _,_,0,_,_,h=>by omega
 | [],_,_,_,h,_=>by cases h
 | x::r,pre,m+1,hs,hc,hm=>by
   have hl:sgL.length=pre.length+(r.length+1):=by rw [hs];simp
   have hl:10=pre.length+(r.length+1):=hl
   have hg:sgL[pre.length]?=some x:=by rw [hs,List.getElem?_append_right (Nat.le_refl _)];simp
   have hg2:celL[pre.length]?=some (celL.getD pre.length 0):=getD_at (l:=celL) (i:=pre.length) (show pre.length < 10 by omega)
   have hc':c ∈ r∨c=x:=(List.mem_cons.1 hc).symm
   show w69F0 _ _ _ _ _ _ _=_
   unfold w69F0
   simp only []
   rw [decide_eq_true (show (pre.length:Int) < (((sgL:Tx).length:Nat):Int) from (show (pre.length:Int) < ((10:Nat):Int) by omega)),br_t,gx_at hg,ixB_cons x r c hc']
   by_cases h:x=c
   ·rw [decide_eq_true h,br_t,gx_at hg2,if_pos h];rfl
   ·rw [decide_eq_false h,br_f,if_neg h,wr (by omega) (by omega)]
    have hcr:c ∈ r:=hc'.resolve_right (fun e=>h e.symm)
    have ih:=w69_loop (N:=N) (c:=c) (K:=K) (k1:=k1) (k2:=k2) r (pre++[x]) m (by rw [hs];simp) hcr (by simp at hm;omega)
    have hpl:((pre++[x]).length:Int)=(pre.length:Int)+1:=by simp
    rw [hpl] at ih
    refine ih.trans ?_
    rw [show (pre++[x]).length+ixB r c=pre.length+(ixB r c+1) by simp;omega]
theorem w69_z {N:Nat} (hN:10 < N) {c:UInt8} (h:sgL.contains c=true):w69z N c=some (celL.getD (ixB sgL c) 0):=by
 have hm:c ∈ sgL:=by simpa using h
 unfold w69z w69 w69G w69n0
 refine (congrArg (fun z:O=>z.bind w69un) (w69_loop (N:=N) (c:=c) sgL [] N rfl hm hN)).trans ?_
 simp only [List.length_nil,Nat.zero_add]
 rfl
def twC (c:UInt8):Bool:=
 let y1:=if decide (c≠43) then c else 0
 let y2:=if decide (c≠43)&&decide (y1≠45) then c else 0
 let y3:=if decide (c≠43)&&decide (y1≠45)&&decide (y2≠42) then c else 0
 let y4:=if decide (c≠43)&&decide (y1≠45)&&decide (y2≠42)&&decide (y3≠47) then c else 0
 let y5:=if decide (c≠43)&&decide (y1≠45)&&decide (y2≠42)&&decide (y3≠47)&&decide (y4≠61) then c else 0
 decide (c≠43)&&decide (y1≠45)&&decide (y2≠42)&&decide (y3≠47)&&decide (y4≠61)&&decide (y5≠60)
theorem twC_e (c:UInt8):twC c=!twoL.contains c:=by
 have:=u8_all (p:=fun c=>twC c == !twoL.contains c) (by kernel_rfl) c
 simpa using this
theorem laC_e (a:UInt8):(dig a||let1 (if !dig a then a else 0)||decide ((if !(dig a||let1 (if !dig a then a else 0)) then a else 0)=41))=(dig a||let1 a||decide (a=41)):=by
 have:=u8_all (p:=fun a=>(dig a||let1 (if !dig a then a else 0)||decide ((if !(dig a||let1 (if !dig a then a else 0)) then a else 0)=41)) == (dig a||let1 a||decide (a=41))) (by kernel_rfl) a
 simpa using this
theorem w70_0 {N:Nat} {s:Tx}:w70z N s 0=some false:=by
 unfold w70z w70 w70G
 simp only [decide_true,Bool.not_true,Bool.false_and,gc_no',Bool.true_or,br_t]
 rfl
theorem w70_s {N:Nat} {p r:Tx} {a c:UInt8} (hl:p.length < 2 ^ 40):w70z N (p++[a]++c::r) ((p.length:Int)+1)=some (cutP a c):=by
 have hg:(p++[a]++c::r)[p.length+1]?=some c:=by
  rw [List.getElem?_append_right (by simp)];simp
 have hga:(p++[a]++c::r)[p.length]?=some a:=by
  rw [List.append_assoc,List.getElem?_append_right (Nat.le_refl _)];simp
 have e1:(p.length:Int)+1=((p.length+1:Nat):Int):=by omega
 have e2:IntKind.i64.wrap ((p.length:Int)+1 - 1)=(p.length:Int):=by rw [wr (by omega) (by omega)];omega
 unfold w70z w70 w70G
 simp only [e2]
 rw [decide_eq_false (show ¬ ((p.length:Int)+1=0) by omega),e1]
 simp only [Bool.not_false,Bool.true_and,Bool.false_or,gc_at hg,if_true]
 have ht:=twC_e c
 unfold twC at ht
 simp only [] at ht
 rw [ht]
 unfold cutP
 cases hb:twoL.contains c with
 | false=>simp only [Bool.not_false,br_t];rfl
 | true=>
   simp only [Bool.not_true,br_f,gx_at hga,w65_p,w65_y0,w67_p,w67_y0,ck_t,gc_at hga,Bool.or_true,Bool.true_and,laC_e]
   rfl
theorem sub48 {c:UInt8} (h:dig c=true):(((c - 48:UInt8).toNat:Nat):Int)=((c.toNat - 48:Nat):Int):=by
 have:=u8_all (p:=fun c=>!dig c||(c - 48:UInt8).toNat == c.toNat - 48) (by kernel_rfl) c
 rw [h] at this
 simp at this
 rw [this]
theorem sub97 {c:UInt8} (h:let1 c=true):(((c - 97:UInt8).toNat:Nat):Int)=((c.toNat - 97:Nat):Int):=by
 have:=u8_all (p:=fun c=>!let1 c||(c - 97:UInt8).toNat == c.toNat - 97) (by kernel_rfl) c
 rw [h] at this
 simp at this
 rw [this]
theorem w37_one {N:Nat} (hN:10 < N) {s r pre:Tx} {a c:UInt8} {out:Tx} {brk:List Int} {K:Tx→Int→Tx→List Int→O} (hs:s=pre++c::r) (hok:okC c=true) (ha:pre=[]∧a=40∨∃ p,pre=p++[a]) (ho:out.length≤2 ^ 40) (hl:pre.length≤2 ^ 39):
    w37F0 N K s (pre.length:Int) c out brk=K s (pre.length:Int) (out++cellP a c) brk:=by
 unfold w37F0 cellP
 simp only [w65_p,w65_y0,w67_p,w67_y0,w66_p,w66_y0,w68_p,w68_y0,ck_t]
 by_cases h1:dig c=true
 ·have hx:=getD_at (l:=digL) (i:=c.toNat - 48) (cell_d h1).1
  rw [if_pos h1,h1,br_t,sub48 h1]
  simp only [gx_at hx]
  rcases ha with ⟨rfl,rfl⟩ | ⟨p,rfl⟩
  ·rw [decide_eq_true (show ((([]:Tx).length:Nat):Int)=0 from rfl)]
   simp only [Bool.not_true,gc_no',Bool.true_or,Bool.not_false,ck_t,br_t]
   rw [ck_of (limb (by simp;omega) (by omega)),ck_of (limb (by simp;omega) (by omega))]
   simp [show dig 40=false from rfl]
  ·have hlp:(p++[a]).length=p.length+1:=by simp
   have hga:s[p.length]?=some a:=by rw [hs,List.append_assoc,List.getElem?_append_right (Nat.le_refl _)];simp
   rw [decide_eq_false (by rw [hlp];omega)]
   rw [show IntKind.i64.wrap ((((p++[a]).length:Nat):Int) - 1)=(p.length:Int) by rw [hlp,wr (by omega) (by omega)];omega]
   simp only [Bool.not_false,gc_at hga,if_true,Bool.not_true,Bool.false_or,ck_t]
   cases h2:dig a with
   | true=>
     simp only [Bool.not_true,br_f]
     rw [ck_of (limb (by simp;omega) (by omega))]
     simp
   | false=>
     simp only [Bool.not_false,br_t]
     rw [ck_of (limb (by simp;omega) (by omega)),ck_of (limb (by simp;omega) (by omega))]
     simp
 ·have h1:dig c=false:=by simpa using h1
  rw [h1,br_f,if_neg (by decide)]
  by_cases h2:let1 c=true
  ·have hx:=getD_at (l:=lowL) (i:=c.toNat - 97) (cell_l h1 h2).1
   rw [if_pos h2,h2,br_t,sub97 h2,gx_at hx,ck_of (limb (by simp;omega) (by omega))]
  ·have h2:let1 c=false:=by simpa using h2
   have hz:=w69_z hN (ok_sg hok h1 h2)
   have hp:w69p N c=true:=by unfold w69p;rw [hz];rfl
   have hy:w69y0 N c=celL.getD (ixB sgL c) 0:=by unfold w69y0;rw [hz];rfl
   rw [h2,br_f,if_neg (by decide),ck_of hp,hy,ck_of (limb (by simp;omega) (by omega))]
theorem w37_loop {N:Nat} (hN:10 < N) {s:Tx} (hl:s.length≤2 ^ 39) {K:Tx×List Int→O} {k1 k2:Unit→O}:∀ (r pre:Tx) (a:UInt8) (out:Tx) (brk:List Int) (m:Nat),s=pre++r→(∀ c ∈ r,okC c=true)→(pre=[]∧a=40∨∃ p,pre=p++[a])→out.length+2 * r.length≤2 ^ 40→brk.length+r.length≤2 ^ 40→r.length < m→
    w37l2 N m (s,(pre.length:Int),out,brk) K k1 k2=K (out++codeP a r,brk++brkP a out.length r)
 | _,_,_,_,_,0,_,_,_,_,_,h=>by omega
 | [],pre,a,out,brk,m+1,hs,_,_,_,_,_=>by
   show w37F2 _ _ _ _ _ _ _ _ _=_
   unfold w37F2
   simp only []
   have h0:s.length=pre.length:=by rw [hs];simp
   rw [decide_eq_false (by omega),br_f]
   simp [codeP,brkP]
 | c::r,pre,a,out,brk,m+1,hs,hok,ha,ho,hb,hm=>by
   have hc:=hok c (List.mem_cons_self ..)
   have hlt:pre.length < s.length:=by rw [hs];simp
   have hg:s[pre.length]?=some c:=by rw [hs,List.getElem?_append_right (Nat.le_refl _)];simp
   simp only [List.length_cons] at ho hb hm
   have hce:=(code_len [c] a).2
   simp only [codeP,List.append_nil,List.length_cons,List.length_nil] at hce
   have ih:=fun (o':Tx) (b':List Int) (h1:o'.length+2 * r.length≤2 ^ 40) (h2:b'.length+r.length≤2 ^ 40)=>
    w37_loop hN (s:=s) hl (K:=K) (k1:=k1) (k2:=k2) r (pre++[c]) c o' b' m (by rw [hs];simp) (fun d hd=>hok d (List.mem_cons_of_mem _ hd)) (.inr ⟨pre,rfl⟩) h1 h2 (by omega)
   have hpl:((pre++[c]).length:Int)=(pre.length:Int)+1:=by simp
   rw [hpl] at ih
   have h70:w70z N s (pre.length:Int)=some (cutP a c):=by
    rcases ha with ⟨rfl,rfl⟩ | ⟨p,rfl⟩
    ·refine w70_0.trans ?_
     unfold cutP
     rw [show (dig 40||let1 40||decide ((40:UInt8)=41))=false from rfl,Bool.and_false]
    ·have:=w70_s (N:=N) (p:=p) (r:=r) (a:=a) (c:=c) (by simp at hlt;omega)
     rw [hs,show (((p++[a]).length:Nat):Int)=(p.length:Int)+1 by simp]
     exact this
   have p70:w70p N s (pre.length:Int)=true:=by unfold w70p;rw [h70];rfl
   have y70:w70y0 N s (pre.length:Int)=cutP a c:=by unfold w70y0;rw [h70];rfl
   show w37F2 _ _ _ _ _ _ _ _ _=_
   unfold w37F2
   simp only []
   rw [decide_eq_true (by omega),br_t]
   unfold w37n1 w37l1 w37F1
   simp only []
   rw [gx_at hg]
   unfold w37n0 w37l0
   simp only []
   rw [w37_one hN hs hc ha (by omega) (by omega),ck_of p70,y70,wr (by omega) (by omega)]
   unfold codeP brkP
   cases cutP a c with
   | true=>
     rw [br_t,ck_of (limb (by simp;omega) (by omega))]
     refine (ih _ _ (by simp;omega) (by simp;omega)).trans ?_
     simp
   | false=>
     rw [br_f]
     refine (ih _ _ (by simp;omega) (by omega)).trans ?_
     simp
theorem w37_z {N:Nat} (hN:10 < N) {s:Tx} (hok:∀ c ∈ s,okC c=true) (h:s.length < N) (hB:s.length≤2 ^ 36):w37z N s=some (codeP 40 s++[63],brkP 40 0 s):=by
 unfold w37z w37 w37G w37n2
 refine (congrArg (fun z:O=>z.bind w37un) (w37_loop (N:=N) hN (s:=s) (by omega) s [] 40 [] [] N rfl hok (.inl ⟨rfl,rfl⟩) (by simp;omega) (by simp;omega) h)).trans ?_
 have:=(code_len s 40).2
 simp only [List.nil_append,List.length_nil]
 rw [ck_of (limb (by simp;omega) (by omega))]
 rfl
def brkE (e:Ex):List Int:=if validE e=0 then brkP 40 0 (textE e) else []
section
variable {N:Nat} {e:Ex} (hN:70000≤N) (hs:sizeE e≤8500)
include hN
theorem w37_text:w37z N (textE e)=some (codeP 40 (textE e)++[63],brkP 40 0 (textE e)):=by
 have:=textE_len (e:=e)
 exact w37_z (by omega) (textE_ok e) (by omega) (by omega)
include hs
theorem w11_z:w11z N e.op e.num e.kids=some (encE e,validE e):=by
 have h1:=w36_p (N:=N) (e:=e) (by omega) (by omega)
 have h2:=w36_y0 (N:=N) (e:=e) (by omega) (by omega)
 have h3:=w38_p (N:=N) (e:=e) (by omega) (by omega) (by omega)
 have h4:=w38_y0 (N:=N) (e:=e) (by omega) (by omega) (by omega)
 have h5:=w37_text (e:=e) hN
 have h6:w37p N (textE e)=true:=by unfold w37p;rw [h5];rfl
 have h7:w37y0 N (textE e)=codeP 40 (textE e)++[63]:=by unfold w37y0;rw [h5];rfl
 unfold w11z w11 w11G encE
 simp only [Ex.eta]
 rw [ck_of h1,h2]
 by_cases hv:validE e=0
 ·rw [decide_eq_false (by simpa using hv),br_f,ck_of h3,h4,ck_of h6,h7,if_pos hv,hv,textE_v hv];rfl
 ·rw [decide_eq_true hv,br_t,if_neg hv];rfl
theorem w11_p:w11p N e.op e.num e.kids=true:=by unfold w11p;rw [w11_z hN hs];rfl
theorem w11_y0:w11y0 N e.op e.num e.kids=encE e:=by unfold w11y0;rw [w11_z hN hs];rfl
theorem w11_y1:w11y1 N e.op e.num e.kids=validE e:=by unfold w11y1;rw [w11_z hN hs];rfl
end
theorem brk_len:∀ (s:Tx) (a:UInt8) (n:Nat),(brkP a n s).length≤s.length
 | [],_,_=>Nat.le_refl _
 | c::s,a,n=>by
   have:=brk_len s c (n+(cellP a c).length)
   unfold brkP
   rw [List.length_append,List.length_cons]
   split <;> simp <;> omega
theorem brkE_len {e:Ex}:(brkE e).length≤17000:=by
 unfold brkE
 split
 ·have:=brk_len (textE e) 40 0
  have:=textE_len (e:=e)
  omega
 ·simp
end Go.Proofs
