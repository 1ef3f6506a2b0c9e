/- Cells of texts. Conditions are in the theorems. -/
import Derived.Test.YtlhdefefoaldfaaGreatDoorG6
import Derived.KernelRfl
import Derived.Lib.Bytealg
import Derived.Test.YtlhdefefoaldfaaGreatDoorL1
import Derived.Test.YtlhdefefoaldfaaGreatDoorG2
import Derived.Test.YtlhdefefoaldfaaGreatDoorG1
import Derived.Test.YtlhdefefoaldfaaGreatDoorE7
import Derived.Test.YtlhdefefoaldfaaGreatDoorL3
/- The cells of a text, and the text of cells: plain. -/
namespace Go.Proofs
open Go Go.Ax Go.Ax.Alg
theorem u8_all {p:UInt8->Bool} (h:(List.range 256).all (fun n=>p (UInt8.ofNat n))=true) (c:UInt8):p c=true:=by
 have:=List.all_eq_true.1 h c.toNat (List.mem_range.2 c.toNat_lt)
 rwa [UInt8.ofNat_toNat] at this
abbrev sgL:Tx:=[43,45,42,47,94,61,60,82,40,41]
abbrev twoL:Tx:=[43,45,42,47,61,60]
abbrev digL:Tx:=[26,1,3,9,25,17,11,27,19,10]
abbrev lowL:Tx:=[1,3,9,25,17,11,27,19,10,26,5,7,13,29,21,15,31,23,14,30,37,39,58,45,61,53]
abbrev celL:Tx:=[22,36,33,12,24,54,42,28,55,62]
def ixB (l:Tx) (c:UInt8):Nat:=(Lib.indexByte l c).toNat
def okC (c:UInt8):Bool:=dig c||let1 c||sgL.contains c
def cellP (last c:UInt8):Tx:=if dig c then (if dig last then [] else [60])++[digL.getD (c.toNat - 48) 0] else if let1 c then [48,lowL.getD (c.toNat - 97) 0] else [celL.getD (ixB sgL c) 0]
def codeP:UInt8->Tx->Tx
 | _,[]=>[]
 | last,c::s=>cellP last c++codeP c s
def cutP (last c:UInt8):Bool:=twoL.contains c&&(dig last||let1 last||decide (last=41))
def brkP:UInt8->Nat->Tx->List Int
 | _,_,[]=>[]
 | last,n,c::s=>(if cutP last c then [((n+(cellP last c).length:Nat):Int)] else [])++brkP c (n+(cellP last c).length) s
def decP:Bool->Tx->Option Tx
 | _,[]=>some []
 | num,c::l=>
   if num&&decide (0<=Lib.indexByte digL c) then (decP num l).map (UInt8.ofNat (48+ixB digL c) :: ·)
   else if c=60 then decP true l
   else if c=48 then (match l with
    | []=>none
    | d::l'=>if Lib.indexByte lowL d < 0 then none else (decP false l').map (UInt8.ofNat (97+ixB lowL d) :: ·))
   else if Lib.indexByte celL c < 0 then none else (decP false l).map (sgL.getD (ixB celL c) 0 :: ·)
def cellOk (c:UInt8):Bool:=
 if dig c then decide (c.toNat - 48 < 10)&&decide (digL.getD (c.toNat - 48) 0≠63)&&decide (digL.getD (c.toNat - 48) 0 < 64)&&decide (0<=Lib.indexByte digL (digL.getD (c.toNat - 48) 0))&&decide (UInt8.ofNat (48+ixB digL (digL.getD (c.toNat - 48) 0))=c)
 else if let1 c then decide (c.toNat - 97 < 26)&&decide (lowL.getD (c.toNat - 97) 0≠63)&&decide (lowL.getD (c.toNat - 97) 0 < 64)&&decide (0<=Lib.indexByte lowL (lowL.getD (c.toNat - 97) 0))&&decide (UInt8.ofNat (97+ixB lowL (lowL.getD (c.toNat - 97) 0))=c)
 else if sgL.contains c then decide (ixB sgL c < 10)&&decide (0<=Lib.indexByte sgL c)&&decide (celL.getD (ixB sgL c) 0≠63)&&decide (celL.getD (ixB sgL c) 0 < 64)&&decide (Lib.indexByte digL (celL.getD (ixB sgL c) 0) < 0)&&decide (celL.getD (ixB sgL c) 0≠60)&&decide (celL.getD (ixB sgL c) 0≠48)&&decide (0<=Lib.indexByte celL (celL.getD (ixB sgL c) 0))&&decide (sgL.getD (ixB celL (celL.getD (ixB sgL c) 0)) 0=c)
 else true
theorem cell_ok (c:UInt8):cellOk c=true:=u8_all (p:=cellOk) (by kernel_rfl) c
theorem ok_sg {c:UInt8} (h:okC c=true) (h1:dig c=false) (h2:let1 c=false):sgL.contains c=true:=by
 unfold okC at h;rw [h1,h2] at h;simpa using h
theorem ok_128 {c:UInt8} (h:okC c=true):c.toNat < 128:=by
 have:=u8_all (p:=fun c=>!okC c||decide (c.toNat < 128)) (by kernel_rfl) c
 rw [h] at this
 simpa using this
theorem cell_d {c:UInt8} (h1:dig c=true):c.toNat - 48 < 10/\digL.getD (c.toNat - 48) 0≠63/\digL.getD (c.toNat - 48) 0 < 64/\0<=Lib.indexByte digL (digL.getD (c.toNat - 48) 0)/\UInt8.ofNat (48+ixB digL (digL.getD (c.toNat - 48) 0))=c:=by
 have:=cell_ok c
 unfold cellOk at this
 rw [if_pos h1] at this
 simp only [Bool.and_eq_true,decide_eq_true_eq] at this
 exact ⟨this.1.1.1.1,this.1.1.1.2,this.1.1.2,this.1.2,this.2⟩
theorem cell_l {c:UInt8} (h1:dig c=false) (h2:let1 c=true):c.toNat - 97 < 26/\lowL.getD (c.toNat - 97) 0≠63/\lowL.getD (c.toNat - 97) 0 < 64/\0<=Lib.indexByte lowL (lowL.getD (c.toNat - 97) 0)/\UInt8.ofNat (97+ixB lowL (lowL.getD (c.toNat - 97) 0))=c:=by
 have:=cell_ok c
 unfold cellOk at this
 rw [if_neg (by rw [h1];decide),if_pos h2] at this
 simp only [Bool.and_eq_true,decide_eq_true_eq] at this
 exact ⟨this.1.1.1.1,this.1.1.1.2,this.1.1.2,this.1.2,this.2⟩
theorem cell_s {c:UInt8} (h1:dig c=false) (h2:let1 c=false) (h3:sgL.contains c=true):ixB sgL c < 10/\0<=Lib.indexByte sgL c/\celL.getD (ixB sgL c) 0≠63/\celL.getD (ixB sgL c) 0 < 64/\Lib.indexByte digL (celL.getD (ixB sgL c) 0) < 0/\celL.getD (ixB sgL c) 0≠60/\celL.getD (ixB sgL c) 0≠48/\0<=Lib.indexByte celL (celL.getD (ixB sgL c) 0)/\sgL.getD (ixB celL (celL.getD (ixB sgL c) 0)) 0=c:=by
 have:=cell_ok c
 unfold cellOk at this
 rw [if_neg (by rw [h1];decide),if_neg (by rw [h2];decide),if_pos h3] at this
 simp only [Bool.and_eq_true,decide_eq_true_eq] at this
 obtain ⟨⟨⟨⟨⟨⟨⟨⟨a1,a2⟩,a3⟩,a4⟩,a5⟩,a6⟩,a7⟩,a8⟩,a9⟩:=this
 exact ⟨a1,a2,a3,a4,a5,a6,a7,a8,a9⟩
theorem dec_code:∀ (s:Tx) (last:UInt8),(∀ c ∈ s,okC c=true)->decP (dig last) (codeP last s)=some s
 | [],last,_=>by cases h:dig last <;> rfl
 | c::s,last,h=>by
   have hc:=h c (List.mem_cons_self ..)
   have ih:=dec_code s c (fun d hd=>h d (List.mem_cons_of_mem _ hd))
   unfold codeP cellP
   by_cases h1:dig c=true
   ·obtain ⟨_,_,_,a4,a5⟩:=cell_d h1
    rw [h1] at ih
    have key:decP true (digL.getD (c.toNat - 48) 0::codeP c s)=some (c::s):=by
     unfold decP
     rw [decide_eq_true a4,Bool.true_and,if_pos rfl,ih,a5];rfl
    rw [if_pos h1]
    cases h2:dig last with
    | true=>exact key
    | false=>
      show decP false (60::digL.getD (c.toNat - 48) 0::codeP c s)=_
      unfold decP
      rw [Bool.false_and,if_neg (by decide),if_pos rfl]
      exact key
   ·have h1:dig c=false:=by simpa using h1
    rw [h1] at ih
    rw [if_neg (by rw [h1];decide)]
    by_cases h2:let1 c=true
    ·obtain ⟨_,_,_,a4,a5⟩:=cell_l h1 h2
     rw [if_pos h2]
     show decP (dig last) (48::lowL.getD (c.toNat - 97) 0::codeP c s)=_
     unfold decP
     rw [show decide (0<=Lib.indexByte digL 48)=false from rfl,Bool.and_false,if_neg (by decide),if_neg (by decide),if_pos rfl]
     simp only []
     rw [if_neg (by omega),ih,a5];rfl
    ·have h2:let1 c=false:=by simpa using h2
     obtain ⟨_,_,_,_,a5,a6,a7,a8,a9⟩:=cell_s h1 h2 (ok_sg hc h1 h2)
     rw [if_neg (by rw [h2];decide)]
     show decP (dig last) (celL.getD (ixB sgL c) 0::codeP c s)=_
     unfold decP
     rw [decide_eq_false (by omega),Bool.and_false,if_neg (by decide),if_neg a6,if_neg a7,if_neg (by omega),ih,a9];rfl
theorem code_63:∀ (s:Tx) (last:UInt8),(∀ c ∈ s,okC c=true)->∀ x ∈ codeP last s,x≠63/\x < 64
 | [],_,_=>fun x hx=>by cases hx
 | c::s,last,h=>fun x hx=>by
   have hc:=h c (List.mem_cons_self ..)
   unfold codeP at hx
   rcases List.mem_append.1 hx with hx | hx
   ·unfold cellP at hx
    split at hx
    ·rename_i h1
     obtain ⟨_,a2,a3,_⟩:=cell_d h1
     rcases List.mem_append.1 hx with hx | hx
     ·split at hx
      ·cases hx
      ·rw [List.mem_singleton] at hx;subst hx;exact ⟨by decide,by decide⟩
     ·rw [List.mem_singleton] at hx;subst hx;exact ⟨a2,a3⟩
    ·rename_i h1
     have h1:dig c=false:=by simpa using h1
     split at hx
     ·rename_i h2
      obtain ⟨_,a2,a3,_⟩:=cell_l h1 h2
      simp only [List.mem_cons,List.not_mem_nil,or_false] at hx
      rcases hx with rfl | rfl
      ·exact ⟨by decide,by decide⟩
      ·exact ⟨a2,a3⟩
     ·rename_i h2
      have h2:let1 c=false:=by simpa using h2
      obtain ⟨_,_,a3,a4,_⟩:=cell_s h1 h2 (ok_sg hc h1 h2)
      rw [List.mem_singleton] at hx;subst hx;exact ⟨a3,a4⟩
   ·exact code_63 s c (fun d hd=>h d (List.mem_cons_of_mem _ hd)) x hx
theorem cell_len (last c:UInt8):1<=(cellP last c).length/\(cellP last c).length<=2:=by
 unfold cellP
 split
 ·split <;> simp
 ·split <;> simp
theorem code_len:∀ (s:Tx) (last:UInt8),s.length<=(codeP last s).length/\(codeP last s).length<=2 * s.length
 | [],_=>⟨Nat.le_refl _,Nat.le_refl _⟩
 | c::s,last=>by
   have:=code_len s c
   have h:=cell_len last c
   unfold codeP
   simp only [List.length_append,List.length_cons]
   omega
theorem at_ok {k:Nat} {e:Ex} (h:∀ c ∈ txE e,okC c=true):∀ c ∈ atE k e,okC c=true:=fun c hc=>by
 by_cases hk:lvlN e.op < k
 ·rw [atE_lo hk] at hc
  simp only [List.mem_cons,List.mem_append,List.not_mem_nil,or_false] at hc
  rcases hc with rfl | hc | rfl
  ·decide
  ·exact h c hc
  ·decide
 ·rw [atE_hi (by omega)] at hc;exact h c hc
theorem dec_ok (u:Nat):∀ c ∈ Lib.decDigits u,okC c=true:=fun c hc=>by
 unfold okC;rw [dec_dig u c hc];rfl
theorem txE_ok:∀ (n:Nat) (e:Ex) (root:Bool),sizeE e<=n->okE e root=true->∀ c ∈ txE e,okC c=true
 | 0,e,_,h,_=>by have:=size_pos e;omega
 | n+1,.mk o a ks,root,h,ok=>by
   rcases ok_shape ok with ⟨rfl,rfl,h0,h1⟩ | ⟨rfl,rfl,h0,h1⟩ | ⟨ho,k,rfl,hk⟩ | ⟨ho,k,k',rfl,hk,hk'⟩
   ·rw [txE_num];exact dec_ok _
   ·rw [txE_var]
    intro c hc
    rw [List.mem_singleton] at hc
    subst hc
    have key:∀ m:Nat,m < 26->okC (UInt8.ofNat (97+m))=true:=fun m hm=>by
     have:=List.all_eq_true.1 (by kernel_rfl:(List.range 26).all (fun m=>okC (UInt8.ofNat (97+m)))=true) m (List.mem_range.2 hm)
     exact this
    exact key _ (by omega)
   ·have hs:sizeE k<=n:=by simp only [sizeE,sizeL] at h;omega
    have ih:=txE_ok n k false hs hk
    rcases ho with rfl | rfl
    ·rw [txE_neg]
     intro c hc
     rcases List.mem_cons.1 hc with rfl | hc
     ·decide
     ·exact at_ok ih c hc
    ·rw [txE_root]
     intro c hc
     simp only [List.mem_cons,List.mem_append,List.not_mem_nil,or_false] at hc
     rcases hc with rfl | rfl | hc | rfl
     ·decide
     ·decide
     ·exact at_ok ih c hc
     ·decide
   ·have hs:sizeE k<=n/\sizeE k'<=n:=by simp only [sizeE,sizeL] at h;omega
    have i1:=txE_ok n k false hs.1 hk
    have i2:=txE_ok n k' false hs.2 hk'
    by_cases h7:o=7
    ·subst h7
     rw [txE_pow]
     intro c hc
     simp only [List.mem_cons,List.mem_append] at hc
     rcases hc with hc | rfl | hc
     ·exact at_ok i1 c hc
     ·decide
     ·exact at_ok i2 c hc
    ·have h6:o=3\/o=4\/o=5\/o=6\/o=9\/o=10:=by omega
     rw [txE_two h6]
     intro c hc
     simp only [List.mem_cons,List.mem_append] at hc
     rcases hc with hc | rfl | hc
     ·exact at_ok i1 c hc
     ·rcases h6 with rfl | rfl | rfl | rfl | rfl | rfl <;> decide
     ·exact at_ok i2 c hc
theorem textE_ok (e:Ex):∀ c ∈ textE e,okC c=true:=by
 unfold textE
 split
 ·rename_i h;exact txE_ok _ e true (Nat.le_refl _) (valid_rt h)
 ·intro c hc;cases hc
theorem textE_len {e:Ex}:(textE e).length<=2048:=by
 unfold textE
 split
 ·rename_i h
  have h1:=txE_len _ e true (Nat.le_refl _) (valid_rt h)
  have h2:sizeE e<=256:=by
   unfold validE at h
   split at h
   ·cases h
   ·rename_i h2;omega
  omega
 ·simp
end Go.Proofs
/- The loops of code and text. -/
namespace Go.Proofs
open Go Go.Ax Go.Ax.Alg
theorem getD_at {l:Tx} {i:Nat} (h:i < l.length):l[i]?=some (l.getD i 0):=by
 rw [List.getElem?_eq_getElem h,List.getD_eq_getElem?_getD,List.getElem?_eq_getElem h];rfl
theorem dig_i (c:UInt8):(decide ((48:Int)<=(c.toNat:Int))&&decide ((c.toNat:Int)<=57))=dig c:=by
 have:=u8_all (p:=fun c=>(decide ((48:Int)<=(c.toNat:Int))&&decide ((c.toNat:Int)<=57)) == dig c) (by kernel_rfl) c
 simpa using this
theorem let_i (c:UInt8):(decide ((97:Int)<=(c.toNat:Int))&&decide ((c.toNat:Int)<=122))=let1 c:=by
 have:=u8_all (p:=fun c=>(decide ((97:Int)<=(c.toNat:Int))&&decide ((c.toNat:Int)<=122)) == let1 c) (by kernel_rfl) c
 simpa using this
theorem w57_z {N:Nat} {c:UInt8}:w57z N (c.toNat:Int)=some (dig c):=by rw [← dig_i];rfl
theorem w57_p {N:Nat} {c:UInt8}:w57p N (c.toNat:Int)=true:=by unfold w57p;rw [w57_z];rfl
theorem w57_y0 {N:Nat} {c:UInt8}:w57y0 N (c.toNat:Int)=dig c:=by unfold w57y0;rw [w57_z];rfl
theorem w58_z {N:Nat} {c:UInt8}:w58z N (c.toNat:Int)=some (let1 c):=by rw [← let_i];rfl
theorem w58_p {N:Nat} {c:UInt8}:w58p N (c.toNat:Int)=true:=by unfold w58p;rw [w58_z];rfl
theorem w58_y0 {N:Nat} {c:UInt8}:w58y0 N (c.toNat:Int)=let1 c:=by unfold w58y0;rw [w58_z];rfl
theorem byte_i (c:UInt8):(Int.toNat (c.toNat:Int)).toUInt8=c:=by rw [Int.toNat_natCast];exact UInt8.ofNat_toNat
theorem ix_i {l:Tx} {c:UInt8} (h:0<=Lib.indexByte l c):Lib.indexByte l c=(ixB l c:Int):=by unfold ixB;omega
theorem w59_p {N:Nat} {s:Tx} {c:UInt8} (h:c.toNat < 128):w59p N s (c.toNat:Int)=true:=decide_eq_true (by omega)
theorem w59_y0 {N:Nat} {s:Tx} {c:UInt8}:w59y0 N s (c.toNat:Int)=Lib.indexByte s c:=by unfold w59y0;rw [byte_i]
theorem w60_p {N:Nat} {s:Tx} {c:UInt8} (h:c.toNat < 128):w60p N s (c.toNat:Int)=true:=decide_eq_true (by omega)
theorem w60_y0 {N:Nat} {c:UInt8}:w60y0 N twoL (c.toNat:Int)=twoL.contains c:=by
 unfold w60y0
 rw [byte_i]
 have:=u8_all (p:=fun c=>decide (0<=Lib.indexByte twoL c) == twoL.contains c) (by kernel_rfl) c
 simpa using this
theorem last_i (c:UInt8):decide ((c.toNat:Int)=41)=decide (c=41):=by
 have:=u8_all (p:=fun c=>decide ((c.toNat:Int)=41) == decide (c=41)) (by kernel_rfl) c
 simpa using this
theorem wrd {c:UInt8} (h:dig c=true):IntKind.i32.wrap ((c.toNat:Int) - 48)=((c.toNat - 48:Nat):Int):=by
 have h1:=c.toNat_lt
 unfold dig at h
 simp only [Bool.and_eq_true,decide_eq_true_eq] at h
 have h2:48<=c.toNat:=h.1
 rw [IntWalk.i32_in _ (by omega)];omega
theorem wrl {c:UInt8} (h:let1 c=true):IntKind.i32.wrap ((c.toNat:Int) - 97)=((c.toNat - 97:Nat):Int):=by
 have h1:=c.toNat_lt
 unfold let1 at h
 simp only [Bool.and_eq_true,decide_eq_true_eq] at h
 have h2:97<=c.toNat:=h.1
 rw [IntWalk.i32_in _ (by omega)];omega
theorem limb {n b:Nat} (h:n<=2 ^ 42) (hb:b<=8):lim n b=true:=by
 unfold lim
 refine decide_eq_true ⟨?_,by omega⟩
 have:=Nat.mul_le_mul h hb
 omega
theorem w34_loop {N:Nat} {s:Tx} {K:Tx×List Int->O} {k1 k2:Unit->O}:∀ (r pre:Tx) (a:UInt8) (out:Tx) (brk:List Int) (m:Nat),s=pre++r->(∀ c ∈ r,okC c=true)->out.length+2 * r.length<=2 ^ 40->brk.length+r.length<=2 ^ 40->r.length < m->
    w34l0 N m ((a.toNat:Int),s,out,brk,s,(pre.length:Int)) K k1 k2=K (out++codeP a r,brk++brkP a out.length r)
 | _,_,_,_,_,0,_,_,_,_,h=>by omega
 | [],pre,a,out,brk,m+1,hs,_,_,_,_=>by
   show w34F0 _ _ _ _ _ _ _ _ _=_
   unfold w34F0
   simp only []
   have h0:s.length=pre.length:=by rw [hs];simp
   rw [decide_eq_false (by omega),br_f,br_f]
   simp [codeP,brkP]
 | c::r,pre,a,out,brk,m+1,hs,hok,ho,hb,hm=>by
   have hc:=hok c (List.mem_cons_self ..)
   have hlt:pre.length < s.length:=by rw [hs];simp
   have hg:s[pre.length]?=some c:=by rw [hs,List.getElem?_append_right (Nat.le_refl _)];simp
   have h128:=ok_128 hc
   have ih:=fun (o':Tx) (b':List Int) (h1:o'.length+2 * r.length<=2 ^ 40) (h2:b'.length+r.length<=2 ^ 40)=>
    w34_loop (N:=N) (s:=s) (K:=K) (k1:=k1) (k2:=k2) r (pre++[c]) c o' b' m (by rw [hs];simp) (fun d hd=>hok d (List.mem_cons_of_mem _ hd)) h1 h2 (by simp at hm;omega)
   have hpl:((pre++[c]).length:Int)=(pre.length:Int)+1:=by simp
   rw [hpl] at ih
   simp only [List.length_cons] at ho hb
   show w34F0 _ _ _ _ _ _ _ _ _=_
   unfold w34F0
   simp only []
   rw [decide_eq_true (by omega),br_t,gx_at hg,ck_of (decide_eq_true h128),br_t,ck_of w57_p,w57_y0]
   unfold codeP brkP cellP
   by_cases h1:dig c=true
   ·have hcut:cutP a c=false:=by
     have:=u8_all (p:=fun c=>!dig c||!twoL.contains c) (by kernel_rfl) c
     rw [h1] at this
     unfold cutP
     simp only [Bool.not_true,Bool.false_or,Bool.not_eq_true'] at this
     rw [this];rfl
    have hx:=getD_at (l:=digL) (i:=c.toNat - 48) (cell_d h1).1
    rw [h1,br_t,ck_of w57_p,w57_y0,if_pos rfl,hcut]
    cases h2:dig a with
    | true=>
      rw [Bool.not_true,br_f,wrd h1,gx_at hx,ck_of (limb (by simp;omega) (by omega))]
      refine (ih _ _ (by simp;omega) (by omega)).trans ?_
      simp
    | false=>
      rw [Bool.not_false,br_t,ck_of (limb (by simp;omega) (by omega)),wrd h1,gx_at hx,ck_of (limb (by simp;omega) (by omega))]
      refine (ih _ _ (by simp;omega) (by omega)).trans ?_
      simp
   ·have h1:dig c=false:=by simpa using h1
    rw [h1,br_f,ck_of w58_p,w58_y0,if_neg (by decide)]
    by_cases h2:let1 c=true
    ·have hcut:cutP a c=false:=by
      have:=u8_all (p:=fun c=>!let1 c||!twoL.contains c) (by kernel_rfl) c
      rw [h2] at this
      unfold cutP
      simp only [Bool.not_true,Bool.false_or,Bool.not_eq_true'] at this
      rw [this];rfl
     have hx:=getD_at (l:=lowL) (i:=c.toNat - 97) (cell_l h1 h2).1
     rw [h2,br_t,wrl h2,gx_at hx,ck_of (limb (by simp;omega) (by omega)),if_pos rfl,hcut]
     refine (ih _ _ (by simp;omega) (by omega)).trans ?_
     simp
    ·have h2:let1 c=false:=by simpa using h2
     have hsg:=cell_s h1 h2 (ok_sg hc h1 h2)
     have hx:=getD_at (l:=celL) (i:=ixB sgL c) hsg.1
     rw [h2,br_f,ck_of (w59_p h128),w59_y0,ix_i hsg.2.1,gx_at hx,ck_of (limb (by simp;omega) (by omega)),ck_of (w60_p h128),w60_y0,w57_p,Bool.or_true,ck_t,w58_p,Bool.or_true,ck_t,w57_y0,w58_y0,last_i,if_neg (by decide)]
     have hcutd:(twoL.contains c&&(dig a||let1 a||decide (a=41)))=cutP a c:=rfl
     rw [hcutd]
     cases cutP a c with
     | true=>
       rw [br_t,ck_of (limb (by simp;omega) (by omega))]
       refine (ih _ _ (by simp;omega) (by simp;omega)).trans ?_
       simp
     | false=>
       rw [br_f]
       refine (ih _ _ (by simp;omega) (by omega)).trans ?_
       simp
theorem w34_z {N:Nat} {s:Tx} (hok:∀ c ∈ s,okC c=true) (h:s.length < N) (hB:s.length<=2 ^ 36):w34z N s=some (codeP 40 s++[63],brkP 40 0 s):=by
 unfold w34z w34 w34G w34n0
 refine (congrArg (fun z:O=>z.bind w34un) (w34_loop (N:=N) (s:=s) s [] 40 [] [] N rfl hok (by simp;omega) (by simp;omega) h)).trans ?_
 have:=(code_len s 40).2
 simp only [List.nil_append,List.length_nil]
 rw [ck_of (limb (by simp;omega) (by omega))]
 rfl
end Go.Proofs
/- Text of cells, Encode, Decode. -/
namespace Go.Proofs
open Go Go.Ax Go.Ax.Alg
theorem ix_app {c:UInt8} {r:Tx}:∀ {l:Tx},(∀ x ∈ l,x≠c)->Lib.indexByte (l++c::r) c=(l.length:Int)
 | [],_=>by simp [Lib.indexByte]
 | x::l,h=>by
   rw [List.cons_append]
   unfold Lib.indexByte
   rw [if_neg (by simpa using h x (List.mem_cons_self ..)),ix_app (l:=l) (fun y hy=>h y (List.mem_cons_of_mem _ hy)),if_neg (by simp)]
   simp
theorem ix_lt {c:UInt8}:∀ {l:Tx},Lib.indexByte l c < (l.length:Int) /\ -1<=Lib.indexByte l c
 | []=>by simp [Lib.indexByte]
 | x::l=>by
   have:=ix_lt (c:=c) (l:=l)
   unfold Lib.indexByte
   simp only [List.length_cons]
   split
   ·omega
   ·split
    ·omega
    ·rename_i h2
     have:Lib.indexByte l c ≠ -1:=by simpa using h2
     omega
theorem w40_p {N:Nat} {l:Tx} {c:UInt8}:w40p N l c=true:=rfl
theorem w40_y0 {N:Nat} {l:Tx} {c:UInt8}:w40y0 N l c=Lib.indexByte l c:=rfl
theorem w73_z {N:Nat} {l:Tx} {c:UInt8} (h:l.length<=2 ^ 40):w73z N c l=some (l++[c]):=by
 unfold w73z w73 w73G
 rw [ck_t,ck_of (limb (by simp;omega) (by omega))];rfl
theorem w73_p {N:Nat} {l:Tx} {c:UInt8} (h:l.length<=2 ^ 40):w73p N c l=true:=by unfold w73p;rw [w73_z h];rfl
theorem w73_y0 {N:Nat} {l:Tx} {c:UInt8} (h:l.length<=2 ^ 40):w73y0 N c l=l++[c]:=by unfold w73y0;rw [w73_z h];rfl
theorem w74_z {N:Nat} {l:Tx}:w74z N l=some l:=by
 unfold w74z w74 w74G
 rw [ck_of (decide_eq_true rfl)];rfl
theorem w74_p {N:Nat} {l:Tx}:w74p N l=true:=by unfold w74p;rw [w74_z];rfl
theorem w74_y0 {N:Nat} {l:Tx}:w74y0 N l=l:=by unfold w74y0;rw [w74_z];rfl
theorem ch_of {b:Nat} {l:Tx} {c:UInt8} (hb:b<=100) (hl:l.length<=100) (h:0<=Lib.indexByte l c):u8of (IntKind.i64.wrap ((b:Int)+Lib.indexByte l c))=UInt8.ofNat (b+ixB l c):=by
 have h1:=ix_lt (c:=c) (l:=l)
 rw [ix_i h] at h1 ⊢
 rw [wr (by omega) (by omega)]
 unfold u8of
 congr 1
 omega
theorem w41_loop {N:Nat} {l:Tx} (hl:l.length<=2 ^ 36) {K:Tx×Bool->O} {k1:Tx->O} {k2:Unit->O}:∀ (n:Nat) (r pre:Tx) (num:Bool) (out:Tx) (m:Nat),r.length<=n->l=pre++r->out.length+r.length<=2 ^ 36->n < m->
    w41l0 N m (l,num,(pre.length:Int),out) K k1 k2=(match decP num r with | some t=>k1 (out++t) | none=>K ([],false))
 | _,_,_,_,_,0,_,_,_,h=>by omega
 | _,[],pre,num,out,m+1,_,hs,_,_=>by
   show w41F0 _ _ _ _ _ _ _ _=_
   unfold w41F0
   simp only []
   have h0:l.length=pre.length:=by rw [hs];simp
   rw [decide_eq_false (by omega),br_f]
   simp [decP]
 | 0,c::r,_,_,_,_,h,_,_,_=>by simp at h
 | n+1,c::r,pre,num,out,m+1,hn,hs,ho,hm=>by
   have hlt:pre.length < l.length:=by rw [hs];simp
   have hg:l[pre.length]?=some c:=by rw [hs,List.getElem?_append_right (Nat.le_refl _)];simp
   simp only [List.length_cons] at hn ho
   have ih:=fun (num':Bool) (out':Tx) (h1:out'.length+r.length<=2 ^ 36)=>
    w41_loop (N:=N) (l:=l) hl (K:=K) (k1:=k1) (k2:=k2) n r (pre++[c]) num' out' m (by omega) (by rw [hs];simp) h1 (by omega)
   have hpl:((pre++[c]).length:Int)=(pre.length:Int)+1:=by simp
   rw [hpl] at ih
   show w41F0 _ _ _ _ _ _ _ _=_
   unfold w41F0
   simp only []
   rw [decide_eq_true (by omega),br_t,gx_at hg,ck_of w40_p,wr (x:=(pre.length:Int)+1) (by omega) (by omega)]
   unfold decP
   by_cases h1:(num&&decide (0<=Lib.indexByte digL c))=true
   ·have h2:0<=Lib.indexByte digL c:=by
     rw [Bool.and_eq_true] at h1;exact of_decide_eq_true h1.2
    have e1:=ch_of (b:=48) (l:=digL) (c:=c) (by omega) (by decide) h2
    rw [if_pos h1]
    rw [w40_y0,h1,br_t]
    rw [show u8of (IntKind.i64.wrap ((48:Int)+Lib.indexByte digL c))=UInt8.ofNat (48+ixB digL c) from e1]
    rw [ck_of (w73_p (by omega)),w73_y0 (by omega)]
    refine (ih _ _ (by simp;omega)).trans ?_
    cases decP num r with
    | none=>rfl
    | some t=>simp
   ·have h1:(num&&decide (0<=Lib.indexByte digL c))=false:=by simpa using h1
    rw [w40_y0,h1,br_f,if_neg (by decide)]
    by_cases h3:c=60
    ·subst h3
     rw [decide_eq_true rfl,br_t,if_pos rfl]
     exact ih true out (by omega)
    ·rw [decide_eq_false h3,br_f,if_neg h3]
     by_cases h4:c=48
     ·subst h4
      rw [decide_eq_true rfl,br_t,if_pos rfl]
      cases r with
      | nil=>
        have:(l.length:Int)=(pre.length:Int)+1:=by rw [hs];simp
        rw [decide_eq_true (by omega),br_t]
      | cons d r'=>
        have hg2:l[pre.length+1]?=some d:=by
         rw [hs,List.getElem?_append_right (by omega),show pre.length+1 - pre.length=1 by omega];rfl
        have hl2:pre.length+2<=l.length:=by rw [hs];simp
        simp only [List.length_cons] at hn ho
        rw [decide_eq_false (by omega),br_f,show (pre.length:Int)+1=((pre.length+1:Nat):Int) by omega,gx_at hg2,ck_of w40_p,w40_y0]
        simp only []
        by_cases h5:Lib.indexByte lowL d < 0
        ·rw [decide_eq_true h5,br_t,if_pos h5]
        ·have e1:=ch_of (b:=97) (l:=lowL) (c:=d) (by omega) (by decide) (by omega)
         rw [decide_eq_false h5,br_f,if_neg h5]
         rw [show u8of (IntKind.i64.wrap ((97:Int)+Lib.indexByte lowL d))=UInt8.ofNat (97+ixB lowL d) from e1]
         rw [ck_of (w73_p (by omega)),w73_y0 (by omega),wr (x:=((pre.length+1:Nat):Int)+1) (by omega) (by omega)]
         have hp2:((pre++[(48:UInt8),d]).length:Int)=((pre.length+1:Nat):Int)+1:=by simp;omega
         rw [← hp2]
         refine (w41_loop (N:=N) (l:=l) hl (K:=K) (k1:=k1) (k2:=k2) n r' (pre++[48,d]) false (out++[UInt8.ofNat (97+ixB lowL d)]) m (by omega) (by rw [hs];simp) (by simp;omega) (by omega)).trans ?_
         cases decP false r' with
         | none=>rfl
         | some t=>simp
     ·rw [decide_eq_false h4,br_f,if_neg h4,ck_of w40_p,w40_y0]
      by_cases h5:Lib.indexByte celL c < 0
      ·rw [decide_eq_true h5,br_t,if_pos h5]
      ·have h6:=ix_lt (c:=c) (l:=celL)
       have hx:ixB celL c < 10:=by unfold ixB;have:(celL.length:Int)=10:=rfl;omega
       rw [decide_eq_false h5,br_f,if_neg h5]
       rw [ix_i (l:=celL) (Int.not_lt.1 h5),gx_at (getD_at (l:=sgL) hx),ck_of (w73_p (by omega)),w73_y0 (by omega)]
       refine (ih _ _ (by simp;omega)).trans ?_
       cases decP false r with
       | none=>rfl
       | some t=>simp
theorem w41_z {N:Nat} {l:Tx} (h:l.length < N) (hB:l.length<=2 ^ 36):w41z N l=some (match decP false l with | some t=>(t,true) | none=>([],false)):=by
 unfold w41z w41 w41G w41n0
 refine (congrArg (fun z:O=>z.bind w41un) (w41_loop (N:=N) (l:=l) hB l.length l [] false [] N (Nat.le_refl _) rfl (by simp;omega) h)).trans ?_
 cases decP false l with
 | none=>rfl
 | some t=>
   simp only [List.nil_append]
   rw [ck_of w74_p,w74_y0];rfl
section
variable {N:Nat} {l:Tx} (h:l.length < N) (hB:l.length<=2 ^ 36)
include h hB
theorem w41_p:w41p N l=true:=by unfold w41p;rw [w41_z h hB];rfl
theorem w41_y1:w41y1 N l=(decP false l).isSome:=by unfold w41y1;rw [w41_z h hB];cases decP false l <;> rfl
theorem w41_y0:w41y0 N l=(decP false l).getD []:=by unfold w41y0;rw [w41_z h hB];cases decP false l <;> rfl
end
def encE (e:Ex):Tx:=if validE e=0 then codeP 40 (txE e)++[63] else []
theorem textE_v {e:Ex} (h:validE e=0):textE e=txE e:=by unfold textE;rw [if_pos h]
theorem w34_text {N:Nat} {e:Ex} (hN:70000<=N):w34z N (textE e)=some (codeP 40 (textE e)++[63],brkP 40 0 (textE e)):=by
 have:=textE_len (e:=e)
 exact w34_z (textE_ok e) (by omega) (by omega)
section
variable {N:Nat} {e:Ex} (hN:70000<=N) (hs:sizeE e<=8500)
include hN hs
theorem w10_z:w10z N e.op e.num e.kids=some (encE e,validE e):=by
 have h1:=w29_p (N:=N) (e:=e) (by omega) (by omega)
 have h2:=w29_y0 (N:=N) (e:=e) (by omega) (by omega)
 have h3:=w35_p (N:=N) (e:=e) (by omega) (by omega)
 have h4:=w35_y0 (N:=N) (e:=e) (by omega) (by omega)
 have h5:=w34_text (e:=e) hN
 have h6:w34p N (textE e)=true:=by unfold w34p;rw [h5];rfl
 have h7:w34y0 N (textE e)=codeP 40 (textE e)++[63]:=by unfold w34y0;rw [h5];rfl
 unfold w10z w10 w10G encE
 simp only [Ex.eta]
 rw [ck_of h1,h2]
 by_cases hv:validE e=0
 ·rw [decide_eq_false (by simpa using hv),br_f,ck_of h3,h4,ck_of h6,h7,if_pos hv,hv,textE_v hv];rfl
 ·rw [decide_eq_true hv,br_t,if_neg hv];rfl
theorem w10_p:w10p N e.op e.num e.kids=true:=by unfold w10p;rw [w10_z hN hs];rfl
theorem w10_y0:w10y0 N e.op e.num e.kids=encE e:=by unfold w10y0;rw [w10_z hN hs];rfl
theorem w10_y1:w10y1 N e.op e.num e.kids=validE e:=by unfold w10y1;rw [w10_z hN hs];rfl
end
theorem w43_p {N:Nat} {a b:Tx}:w43p N a b=true:=rfl
theorem w43_y0 {N:Nat} {a b:Tx}:w43y0 N a b=decide (a=b):=rfl
theorem encE_v {e:Ex} (h:validE e=0):encE e=codeP 40 (textE e)++[63]:=by unfold encE;rw [if_pos h,textE_v h]
theorem size_v {e:Ex} (h:validE e=0):sizeE e<=256:=by
 unfold validE at h
 split at h
 ·cases h
 ·rename_i h2;omega
theorem enc_len {e:Ex}:(encE e).length<=4097:=by
 unfold encE
 split
 ·rename_i h
  have h1:=(code_len (txE e) 40).2
  have h2:=textE_len (e:=e)
  rw [textE_v h] at h2
  simp;omega
 ·simp
theorem w20_ok {N:Nat} (hN:70000<=N) {e:Ex} (hv:validE e=0) (more:Tx) (hm:more.length<=2 ^ 30):w20z N (encE e++more)=some (e.op,e.num,e.kids,((encE e).length:Int),0):=by
 have hsz:=size_v hv
 have hcl:=(code_len (textE e) 40).2
 have htl:=textE_len (e:=e)
 have he:=encE_v hv
 have hix:Lib.indexByte (encE e++more) 63=((codeP 40 (textE e)).length:Int):=by
  rw [he,List.append_assoc]
  exact ix_app (r:=more) (fun x hx=>(code_63 _ _ (textE_ok e) x hx).1)
 have hlen:(encE e++more).length=(codeP 40 (textE e)).length+1+more.length:=by rw [he];simp;omega
 have ht1:slc (encE e++more) none (some ((codeP 40 (textE e)).length:Int))=codeP 40 (textE e):=by
  show List.take _ _=_
  rw [Int.toNat_natCast,he,List.append_assoc]
  exact List.take_left
 have ht2:slc (encE e++more) none (some (((codeP 40 (textE e)).length:Int)+1))=encE e:=by
  show List.take _ _=_
  rw [show ((((codeP 40 (textE e)).length:Nat):Int)+1).toNat=(encE e).length by rw [he];simp]
  exact List.take_left
 have hd:decP false (codeP 40 (textE e))=some (textE e):=dec_code (textE e) 40 (textE_ok e)
 have q0:=w41_p (N:=N) (l:=codeP 40 (textE e)) (by omega) (by omega)
 have q1:=w41_y0 (N:=N) (l:=codeP 40 (textE e)) (by omega) (by omega)
 have q2:=w41_y1 (N:=N) (l:=codeP 40 (textE e)) (by omega) (by omega)
 rw [hd] at q1 q2
 have q1:w41y0 N (codeP 40 (textE e))=textE e:=q1
 have q2:w41y1 N (codeP 40 (textE e))=true:=q2
 have rd:=text_read hN (e:=e) (by omega) hv
 unfold w20z w20 w20G
 simp only [w40_y0,hix]
 rw [wr (x:=((codeP 40 (textE e)).length:Int)+1) (by omega) (by omega)]
 simp only [ht1,ht2,q1,q2,w42_y0 rd,w42_y1 rd,w42_y2 rd,w42_y4 rd,Ex.eta,w10_y0 hN (show sizeE e<=8500 by omega),w10_y1 hN (show sizeE e<=8500 by omega),w43_y0]
 rw [ck_of w40_p,decide_eq_false (by omega),br_f,ck_of (by unfold slcOk;exact decide_eq_true (by omega)),ck_of q0,Bool.not_true,br_f,ck_of (w42_p rd),ck_of (w10_p hN (by omega)),hv]
 rw [show (decide ((0:Int)≠0)||decide ((0:Int)≠0))=false from rfl]
 rw [ck_of (by unfold slcOk;rw [Bool.not_false,Bool.not_true,Bool.false_or];exact decide_eq_true (by omega)),ck_of (by rw [w43_p,Bool.or_true])]
 rw [show (false||!decide True)=false by decide,br_f]
 have hl2:(((codeP 40 (textE e)).length:Int)+1)=((encE e).length:Int):=by rw [he];simp
 rw [hl2]
 rfl
end Go.Proofs
/- The law on decoding. -/
namespace Go.Proofs
open Go Go.Ax Go.Ax.Alg
theorem w53_y0 {N:Nat} {c:UInt8}:w53y0 N c=decide (64<=c):=rfl
theorem w53_p {N:Nat} {c:UInt8}:w53p N c=true:=rfl
theorem w84_loop {N:Nat} {l:Tx} (hl:l.length<=2 ^ 40) (h:∀ x ∈ l,x < 64) {K:Int->O} {k1 k2:Unit->O}:∀ (r pre:Tx) (m:Nat),l=pre++r->r.length < m->
    w84l0 N m (l,(l.length:Int),(pre.length:Int)) K k1 k2=k1 ()
 | _,_,0,_,h=>by omega
 | [],pre,m+1,ha,_=>by
   show w84F0 _ _ _ _ _ _ _=_
   unfold w84F0
   simp only []
   have h0:l.length=pre.length:=by rw [ha];simp
   rw [decide_eq_false (by omega),br_f]
 | x::r,pre,m+1,ha,hm=>by
   have hlt:pre.length < l.length:=by rw [ha];simp
   have hg:l[pre.length]?=some x:=by rw [ha,List.getElem?_append_right (Nat.le_refl _)];simp
   have hx:x < 64:=h x (by rw [ha];simp)
   show w84F0 _ _ _ _ _ _ _=_
   unfold w84F0
   simp only []
   rw [decide_eq_true (by omega),br_t,gx_at hg,ck_of w53_p,w53_y0,decide_eq_false (UInt8.not_le.2 hx),br_f,wr (by omega) (by omega)]
   have ih:=w84_loop (N:=N) (l:=l) hl h (K:=K) (k1:=k1) (k2:=k2) r (pre++[x]) m (by rw [ha];simp) (by simp at hm;omega)
   have hpl:((pre++[x]).length:Int)=(pre.length:Int)+1:=by simp
   rw [hpl] at ih
   exact ih
theorem w31_z {N:Nat} {l:Tx} (hl:l.length<=2 ^ 40) (hN:l.length < N) (h:∀ x ∈ l,x < 64):w31z N l=some true:=by
 have e1:w84z N l=some (-1):=by
  unfold w84z w84 w84G w84n0
  exact (congrArg (fun z:O=>z.bind w84un) (w84_loop (N:=N) hl h l [] N rfl hN)).trans rfl
 have e2:w52z N l=some false:=by
  unfold w52z w52 w52G
  rw [ck_of (by unfold w84p;rw [e1];rfl)]
  unfold w84y0
  rw [e1];rfl
 unfold w31z w31 w31G
 rw [ck_of (by unfold w52p;rw [e2];rfl)]
 unfold w52y0
 rw [e2];rfl
theorem w8_z {N:Nat} (hN:5<=N) {l:List Int} (hl:∀ x ∈ l,J64 x) (hlen:l.length < 2 ^ 60):∃ e,w8z N l=some (e.op,e.num,e.kids)/\sizeE e<=31:=by
 obtain ⟨e,p1,q1,q2,q3,ok,hs,hd,_⟩:=w33_py (N:=N) (by omega) hl hlen 4
 refine ⟨e,?_,hs⟩
 unfold w8z w8 w8G
 rw [ck_of p1,q1,q2,q3];rfl
theorem enc_64 {e:Ex}:∀ x ∈ encE e,x < 64:=fun x hx=>by
 by_cases hv:validE e=0
 ·rw [encE_v hv] at hx
  rcases List.mem_append.1 hx with hx | hx
  ·exact (code_63 _ _ (textE_ok e) x hx).2
  ·rw [List.mem_singleton] at hx;subst hx;decide
 ·unfold encE at hx;rw [if_neg hv] at hx;cases hx
theorem enc_inj {N:Nat} (hN:70000<=N) {e f:Ex} (he:validE e=0) (hf:validE f=0) (h:encE e=encE f):e=f:=by
 have h1:=w20_ok hN he [] (by simp)
 have h2:=w20_ok hN hf [] (by simp)
 rw [h,h2] at h1
 have h3:=Option.some.inj h1
 simp only [Prod.mk.injEq] at h3
 rw [← Ex.eta e,← Ex.eta f,h3.1,h3.2.1,h3.2.2.1]
end Go.Proofs
/- The reference's code: the same cells and the same breaks. -/
namespace Go.Proofs
open Go Go.Ax Go.Ax.Alg
theorem gc_no' {α:Type} {z:α} {l:List α} {n:Int} {k:α->O}:gc false z l n k=k z:=rfl
def brkE (e:Ex):List Int:=if validE e=0 then brkP 40 0 (textE e) else []
section
variable {N:Nat} {e:Ex} (hN:70000<=N) (hs:sizeE e<=8500)
include hN
include hs
end
theorem brk_len:∀ (s:Tx) (a:UInt8) (n:Nat),(brkP a n s).length<=s.length
 | [],_,_=>Nat.le_refl _
 | c::s,a,n=>by
   have:=brk_len s c (n+(cellP a c).length)
   unfold brkP
   rw [List.length_append,List.length_cons]
   split <;> simp <;> omega
theorem brkE_len {e:Ex}:(brkE e).length<=17000:=by
 unfold brkE
 split
 ·have:=brk_len (textE e) 40 0
  have:=textE_len (e:=e)
  omega
 ·simp
end Go.Proofs
