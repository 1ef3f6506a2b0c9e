/- The listed variables of the rows; numbers that came in. Conditions are in the theorems. -/
import Derived.Test.YtihfefggdgiodaaGreatDoorE7
import Derived.Test.YtihfefggdgiodaaGreatDoorRows
import Derived.LaidMore
import Derived.ProofKit
import Derived.OpenShut
import Derived.Stop.Joined
import Derived.Lay
import Derived.Lib.LaidU8
import Derived.Test.YtihfefggdgiodaaGreatDoorG0
open Array renaming getElem?_eq_getElem->iM
open Option renaming bind_some->aDg
open Option.some renaming inj->eX
/- The listed variables of the rows: what they give a walk; from a function's contract to its calls. -/
namespace Go.Ab
open Go.RowKit Go.Ax
theorem aWY{P:Program}{f:FuncId}{ds:List D}{b:Bool}(h:cN P f ds [] (B b) []){w:World}{vs:Array Value}(ht:hM w λ_=>False)(htg:E8 (jC w))(hl:vs.size=ds.length)(hd:∀(i:Nat)(u:Value)(d:D),vs[i]?=some u->ds[i]?=some d->Tp w (jC w) u d):
    Calls P f vs w λe w'=>e = .returned (.bool b)/\bB w w':=by
 refine(h ⟨vs.size,w,jC w,λ_=>False,λ_=>.nilFunc,ht,htg,[]⟩ w vs rfl rfl hl ⟨λ_=>.nilFunc,jC w,⟨rfl,rfl,rfl,Nat.le_refl _,λ_ _ _=>rfl⟩,λ_ _ _ h=>h,λ_ _ _=>rfl,λ_ _ _=>rfl,rfl,λt d ht=>?_,λk o h=>by simp[look]at h,λk o k' o' h=>by simp[look]at h⟩).mono ?_
 .have hlt:t<vs.size:=by rw[hl];exact(List.getElem?_eq_some_iff.1 ht).1
  exact⟨vs[t],iM hlt,(hd t _ d (iM hlt) ht).mono (λk hk=>by cases hk) (λ_ _ _ h=>h)⟩
 .rintro e w' ⟨v,rfl,ν,G,I⟩
  obtain⟨u,hu,hd⟩:=I.T 0 (B b) (by simp);simp at hu;subst hu;have:=bY hd;subst this;exact⟨rfl,I.kept.os,I.kept.tape,I.kept.output,I.kept.size,λk hk=>I.kept.block k hk (λh=>h)⟩
theorem aQR{w:World}(_:CC w):E8 (jC w):=λg vs hg=>by cases hg
end Go.Ab
namespace Go.Proofs
open Go Go.Ax
theorem FQ{z:Int}(h:pS (.i .i64) z):iK z:=by
 have h:(Lit.int .i64 z).wf=true:=h;simp[Lit.wf]at h;exact h
theorem aR4{l:List Int}(h:pS (.sl (.i .i64)) l):∀x∈l,iK x:=λx hx=>FQ (h x hx)
end Go.Proofs
namespace Go.Proofs.YtihfefggdgiodaaGreatDoor
open Go.ChangeShapes Go.WideShapes Go.ChangeAt Go.RowKit Go.Ab
theorem own:ownKnob Tryz.prog.godebug=none:=by kernel_rfl
theorem laidOut:laidOutB Tryz.prog=true:=by kernel_rfl
def qT : List (String × DataW Unit) := [("math/bits.deBruijn32tab", Rows.laid_math_bits_deBruijn32tab), ("math/bits.deBruijn64tab", Rows.laid_math_bits_deBruijn64tab), ("internal/strconv.uint64pow10", Rows.laid_internal_strconv_uint64pow10), ("unicode/utf8.acceptRanges", Rows.laid_unicode_utf8_acceptRanges), ("strconv.ErrRange", Rows.laid_strconv_ErrRange), ("strconv.ErrSyntax", Rows.laid_strconv_ErrSyntax), ("unicode/utf8.first", Rows.laid_unicode_utf8_first)]
set_option maxRecDepth 1000000 in
theorem aVt(os:Os)(args:Array Value):laidMetH Tryz.prog qT ((World.laidAll Tryz.prog os qT).forCall (λ_ _=>0) ⟨#[],args,[]⟩).memory:=by
 rw[MakeChecks.laidMetH_plain _ _ _ (by kernel_rfl)];exact laidMet_laidAll args (by kernel_rfl) (by kernel_rfl)
theorem SV : Tryz.prog.globalNamed "internal/strconv.uint64pow10" = some 5 := by kernel_rfl
theorem aVJ : Tryz.prog.globalNamed "strconv.ErrSyntax" = some 1 := by kernel_rfl
theorem aVK : Tryz.prog.globalNamed "strconv.ErrRange" = some 2 := by kernel_rfl
theorem aRJ:(Rows.laid_internal_strconv_uint64pow10:DataW Unit)=Lib.tabData .u64 Lib.pow10Tab:=by kernel_rfl
theorem aUV{P:Program}{w:World}{fuel:Nat}{t:TypeId}{cs:List Value}{p:List MemPlace}{n:String}{d:DataW Unit}{ms:_}(hu:P.underlying t=some (.interface ms))(h:DataW.trod (λ_=>()) P w 0 (λ_=>true) false fuel t cs=some (.iface n d,p)):∃te pe,cs=[.iface te pe]:=by
 cases fuel with
 |zero=>simp[DataW.trod]at h
 |succ fuel=>
   match cs,h with
   |[.iface te pe],_=>exact⟨te,pe,rfl⟩
   |[],h=>simp[DataW.trod,hu]at h
   |[v],h=>cases v <;> simp[DataW.trod,hu]at h <;> exact⟨_,_,rfl⟩
   |a::b::l,h=>simp[DataW.trod,hu]at h
theorem aCp {W : World} {n : String} {g : Nat} {d : DataW Unit} (hg : Tryz.prog.globalNamed n = some g) (ht : (Tryz.prog.globals[g]?).map (·.type) = some 92) (h : Lib.VarReads Tryz.prog W n (.iface "*errors.errorString" d)) : ∃ te pe, W.cell? ⟨g, 0, none⟩ = some (.iface te pe) := by
 obtain⟨g',t,cs,fuel,p,hg',ht',hv,hd⟩:=h;obtain rfl:=eX (hg.symm.trans hg');obtain rfl:=eX (ht.symm.trans ht');obtain⟨ms,hu⟩:∃ms,Tryz.prog.underlying 92=some (.interface ms):=by
  have h:(match Tryz.prog.underlying 92 with|some (.interface _)=>true|_=>false)=true:=by kernel_rfl
  split at h
  .rename_i ms hu;exact⟨ms,hu⟩
  .cases h
 obtain⟨te,pe,hc⟩:=aUV hu hd;refine⟨te,pe,?_⟩;unfold World.var? at hv;rw[hg]at hv;simp only[aDg]at hv;split at hv
 .rename_i cs' e f hh
  cases hv;have:cs[0]?=some (.iface te pe):=by
   have:=aO (·[0]?) hc;simpa using this
  simp only[World.cell?];rw[hh];exact this
 .cases hv
theorem aAd{W:World}(h:laidMetH Tryz.prog qT W):CC W:=by
 rw [MakeChecks.laidMetH_plain _ _ _ (by kernel_rfl)] at h;refine ⟨?_, fun g vs hg => (by cases hg), aCp aVJ (by kernel_rfl) (Lib.laidMet.reads h (n := "strconv.ErrSyntax") (d := Rows.laid_strconv_ErrSyntax) (by simp [qT])), aCp aVK (by kernel_rfl) (Lib.laidMet.reads h (n := "strconv.ErrRange") (d := Rows.laid_strconv_ErrRange) (by simp [qT]))⟩
 obtain ⟨g, t, cs, fuel, p, hg, ht, hv, hd⟩ := Lib.laidMet.reads h (n := "internal/strconv.uint64pow10") (d := Rows.laid_internal_strconv_uint64pow10) (by simp [qT])
 obtain rfl:=eX (SV.symm.trans hg);obtain rfl:=eX ((show(Tryz.prog.globals[5]?).map (·.type)=some 164 by kernel_rfl).symm.trans ht);unfold Lib.TabIs;rw[aRJ]at hd;rw[hv,<-Lib.cells_of_tab (n:=20) Tryz.underlying164 Tryz.underlying132 (by kernel_rfl) (by kernel_rfl) hd]
theorem aQS{W:World}(h:CC W):hM W λ_=>False:=by
 intro w' hs hb;obtain⟨h1,h2,⟨te,pe,h3⟩,⟨te',pe',h4⟩⟩:=h;have hlt:5<W.heap.size:=by
  unfold Lib.TabIs World.var? at h1;rw[SV]at h1;simp only[aDg]at h1;split at h1
  .rename_i hh
   exact(Array.getElem?_eq_some_iff.1 hh).1
  .cases h1
 have same:∀g i,g<W.heap.size->w'.cell? ⟨g,i,none⟩=W.cell? ⟨g,i,none⟩:=λg i hg=>World.cell?_of_block (a:=⟨g,i,none⟩) (hb g hg λh=>h)
 refine⟨?_,λg vs hg=>(by cases hg),⟨te,pe,(same 1 0 (by omega)).trans h3⟩,te',pe',(same 2 0 (by omega)).trans h4⟩;unfold Lib.TabIs World.var? at *
 rw[SV]at *
 simp only[aDg]at *
 rw[hb 5 hlt (λh=>h)];exact h1
end Go.Proofs.YtihfefggdgiodaaGreatDoor
