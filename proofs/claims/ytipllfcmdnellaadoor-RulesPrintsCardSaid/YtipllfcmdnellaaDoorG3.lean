/- The listed variables of the rows; from contracts to calls; numbers that came in. Conditions are in the theorems. -/
import Derived.Test.YtipllfcmdnellaaDoorE7
import Derived.Test.YtipllfcmdnellaaDoorRows
import Derived.LaidMore
import Derived.ProofKit
import Derived.OpenShut
import Derived.Stop.Joined
import Derived.Test.YtipllfcmdnellaaDoorG1
/- The listed variables of the rows: what they give a walk; from a function's contract to its calls. -/
namespace Go.Ab
open Go.RowKit Go.Ax
theorem calls_of {P:Program} {f:FuncId} {ds:List D} {b:Bool} (h:Does P f ds [] (B b) []) {w:World} {vs:Array Value} (ht:Tab w fun _=>False) (htg:tabG (blkSize w)) (hl:vs.size=ds.length) (hd:∀ (i:Nat) (u:Value) (d:D),vs[i]?=some u->ds[i]?=some d->DR0 w (blkSize w) u d):
    Calls P f vs w fun e w'=>e = .returned (.bool b)/\Aft w w':=by
 refine (h ⟨vs.size,w,blkSize w,fun _=>False,fun _=>.nilFunc,ht,htg,[]⟩ w vs rfl rfl hl ⟨fun _=>.nilFunc,blkSize w,⟨rfl,rfl,rfl,Nat.le_refl _,fun _ _ _=>rfl⟩,fun _ _ _ h=>h,fun _ _ _=>rfl,fun _ _ _=>rfl,rfl,fun t d ht=>?_,fun k o h=>by simp [look] at h,fun k o k' o' h=>by simp [look] at h⟩).mono ?_
 ·have hlt:t < vs.size:=by rw [hl];exact (List.getElem?_eq_some_iff.1 ht).1
  exact ⟨vs[t],Array.getElem?_eq_getElem hlt,(hd t _ d (Array.getElem?_eq_getElem hlt) ht).mono (fun k hk=>by cases hk) (fun _ _ _ h=>h)⟩
 ·rintro e w' ⟨v,rfl,ν,G,I⟩
  obtain ⟨u,hu,hd⟩:=I.T 0 (B b) (by simp);simp at hu;subst hu;have:=bool_of hd;subst this;exact ⟨rfl,I.kept.os,I.kept.tape,I.kept.output,I.kept.size,fun k hk=>I.kept.block k hk (fun h=>h)⟩
theorem tabg (w:World):tabG (blkSize w):=fun g vs hg=>by cases hg
end Go.Ab
namespace Go.Proofs.YtipllfcmdnellaaDoor
open Go.ChangeShapes Go.WideShapes Go.ChangeAt Go.RowKit Go.Ab
theorem own:ownKnob Tryd.prog.godebug=none:=by kernel_rfl
theorem laidOut:laidOutB Tryd.prog=true:=by kernel_rfl
def laid5 : List (String × DataW Unit) := [("math/bits.deBruijn32tab", Rows.laid_math_bits_deBruijn32tab), ("math/bits.deBruijn64tab", Rows.laid_math_bits_deBruijn64tab), ("internal/strconv.uint64pow10", Rows.laid_internal_strconv_uint64pow10), ("strconv.ErrRange", Rows.laid_strconv_ErrRange), ("strconv.ErrSyntax", Rows.laid_strconv_ErrSyntax)]
theorem door_met (os:Os) (args:Array Value):laidMetH Tryd.prog laid5 ((World.doorLaid Tryd.prog 62 os).forCall (fun _ _=>0) ⟨#[],args,[]⟩).memory:=
 laidMetH_of_parts3 (fuel:=8) (laidMet_of_run' 8 (by kernel_rfl) (by kernel_rfl)) (by kernel_rfl) (by kernel_rfl)
theorem gPow : Tryd.prog.globalNamed "internal/strconv.uint64pow10" = some 0 := by kernel_rfl
theorem powData:(Rows.laid_internal_strconv_uint64pow10:DataW Unit)=Lib.tabData .u64 Lib.pow10Tab:=by kernel_rfl
theorem tab_of_laid {W:World} (h:laidMetH Tryd.prog laid5 W):tabPr W:=by
 rw [MakeChecks.laidMetH_plain _ _ _ (by kernel_rfl)] at h;obtain ⟨ps,⟨_,_,_,_,_,_,_,_,_,_,⟨_,_,_,_,_,_,_,_,_,_,⟨g,t,cs,fuel,p,q,hg,ht,hv,hd,_,_⟩,_⟩,_⟩,_⟩:=h;obtain rfl:=Option.some.inj (gPow.symm.trans hg);obtain rfl:=Option.some.inj ((show (Tryd.prog.globals[0]?).map (·.type)=some 123 by kernel_rfl).symm.trans ht);refine ⟨?_,fun g vs hg=>by cases hg⟩;unfold Lib.TabIs;rw [powData] at hd;rw [hv,← Lib.cells_of_tab (n:=20) Tryd.underlying123 Tryd.underlying116 (by kernel_rfl) (by kernel_rfl) hd]
theorem tabAll {W:World} (h:tabPr W):Tab W fun _=>False:=by
 intro w' hs hb;refine ⟨?_,fun g vs hg=>by cases hg⟩;have h1:=h.1;have hlt:0 < W.heap.size:=by
  unfold Lib.TabIs World.var? at h1;rw [gPow] at h1;simp only [Option.bind_some] at h1;split at h1
  ·rename_i hh
   exact (Array.getElem?_eq_some_iff.1 hh).1
  ·cases h1
 unfold Lib.TabIs World.var? at *
 rw [gPow] at *
 simp only [Option.bind_some] at *
 rw [hb 0 hlt (fun h=>h)];exact h1
end Go.Proofs.YtipllfcmdnellaaDoor
/- What is known of numbers that came in. -/
namespace Go.Proofs
open Go Go.Ax
theorem i64_w {z:Int} (h:OkV (.i .i64) z):I64 z:=by
 have h:(Lit.int .i64 z).wf=true:=h;simp [Lit.wf] at h;exact h
theorem okl_w {l:List Int} (h:OkV (.sl (.i .i64)) l):∀ x ∈ l,I64 x:=fun x hx=>i64_w (h x hx)
end Go.Proofs
