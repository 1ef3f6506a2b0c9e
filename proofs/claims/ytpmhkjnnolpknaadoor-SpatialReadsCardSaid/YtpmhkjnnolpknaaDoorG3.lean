/- The listed variables of the rows; from contracts to calls. Conditions are in the theorems. -/
import Derived.Test.YtpmhkjnnolpknaaDoorE7
import Derived.Test.YtpmhkjnnolpknaaDoorRows
import Derived.LaidMore
import Derived.ProofKit
import Derived.OpenShut
import Derived.Stop.Joined
open Array renaming getElem?_eq_getElem->j4
open Option renaming bind_some->a1S
open Option.some renaming inj->fI
/- The listed variables of the rows: what they give a walk; from a function's contract to its calls. -/
namespace Go.Ab
open Go.RowKit Go.Ax
theorem a0g{P:Program}{f:FuncId}{ds:List D}{b:Bool}(h:dO P f ds [] (B b) []){w:World}{vs:Array Value}(ht:BR w λ_=>False)(htg:Fq (l3 w))(hl:vs.size=ds.length)(hd:∀(i:Nat)(u:Value)(d:D),vs[i]?=some u->ds[i]?=some d->Ve w (l3 w) u d):
    Calls P f vs w λe w'=>e = .returned (.bool b)/\cG w w':=by
 refine(h ⟨vs.size,w,l3 w,λ_=>False,λ_=>.nilFunc,ht,htg,[]⟩ w vs rfl rfl hl ⟨λ_=>.nilFunc,l3 w,⟨rfl,rfl,rfl,Nat.le_refl _,λ_ _ _=>rfl⟩,λ_ _ _ h=>h,λ_ _ _=>rfl,λ_ _ _=>rfl,rfl,λt d ht=>?_,λk o h=>by simp[look]at h,λk o k' o' h=>by simp[look]at h⟩).mono ?_
 .have hlt:t<vs.size:=by rw[hl];exact(List.getElem?_eq_some_iff.1 ht).1
  exact⟨vs[t],j4 hlt,(hd t _ d (j4 hlt) ht).mono (λk hk=>by cases hk) (λ_ _ _ h=>h)⟩
 .rintro e w' ⟨v,rfl,ν,G,I⟩
  obtain⟨u,hu,hd⟩:=I.T 0 (B b) (by simp);simp at hu;subst hu;have:=cC hd;subst this;exact⟨rfl,I.kept.os,I.kept.tape,I.kept.output,I.kept.size,λk hk=>I.kept.block k hk (λh=>h)⟩
theorem aWK(w:World):Fq (l3 w):=λg vs hg=>by cases hg
end Go.Ab
namespace Go.Proofs.YtpmhkjnnolpknaaDoor
open Go.ChangeShapes Go.WideShapes Go.ChangeAt Go.RowKit Go.Ab
theorem own:ownKnob Tryd.prog.godebug=none:=by kernel_rfl
theorem laidOut:laidOutB Tryd.prog=true:=by kernel_rfl
def G3 : List (String × DataW Unit) := [("math/bits.deBruijn32tab", Rows.laid_math_bits_deBruijn32tab), ("math/bits.deBruijn64tab", Rows.laid_math_bits_deBruijn64tab), ("internal/strconv.uint64pow10", Rows.laid_internal_strconv_uint64pow10), ("strconv.ErrRange", Rows.laid_strconv_ErrRange), ("strconv.ErrSyntax", Rows.laid_strconv_ErrSyntax)]
theorem a0J(os:Os)(args:Array Value):laidMetH Tryd.prog G3 ((World.doorLaid Tryd.prog 62 os).forCall (λ_ _=>0) ⟨#[],args,[]⟩).memory:=
 laidMetH_of_parts3 (fuel:=8) (laidMet_of_run' 8 (by kernel_rfl) (by kernel_rfl)) (by kernel_rfl) (by kernel_rfl)
theorem Ua : Tryd.prog.globalNamed "internal/strconv.uint64pow10" = some 2 := by kernel_rfl
theorem aWu:(Rows.laid_internal_strconv_uint64pow10:DataW Unit)=Lib.tabData .u64 Lib.pow10Tab:=by kernel_rfl
theorem aWL{W:World}(h:laidMetH Tryd.prog G3 W):Fp W:=by
 rw[MakeChecks.laidMetH_plain _ _ _ (by kernel_rfl)]at h;obtain⟨ps,⟨_,_,_,_,_,_,_,_,_,_,⟨_,_,_,_,_,_,_,_,_,_,⟨g,t,cs,fuel,p,q,hg,ht,hv,hd,_,_⟩,_⟩,_⟩,_⟩:=h;obtain rfl:=fI (Ua.symm.trans hg);obtain rfl:=fI ((show(Tryd.prog.globals[2]?).map (·.type)=some 139 by kernel_rfl).symm.trans ht);refine⟨?_,λg vs hg=>by cases hg⟩;unfold Lib.TabIs;rw[aWu]at hd;rw[hv,<-Lib.cells_of_tab (n:=20) Tryd.underlying139 Tryd.underlying124 (by kernel_rfl) (by kernel_rfl) hd]
theorem aWM{W:World}(h:Fp W):BR W λ_=>False:=by
 intro w' hs hb;refine⟨?_,λg vs hg=>by cases hg⟩;have h1:=h.1;have hlt:2<W.heap.size:=by
  unfold Lib.TabIs World.var? at h1;rw[Ua]at h1;simp only[a1S]at h1;split at h1
  .rename_i hh
   exact(Array.getElem?_eq_some_iff.1 hh).1
  .cases h1
 unfold Lib.TabIs World.var? at *
 rw[Ua]at *
 simp only[a1S]at *
 rw[hb 2 hlt (λh=>h)];exact h1
end Go.Proofs.YtpmhkjnnolpknaaDoor
