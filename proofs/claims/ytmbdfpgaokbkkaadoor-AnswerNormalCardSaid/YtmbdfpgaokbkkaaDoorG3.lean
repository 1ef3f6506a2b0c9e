/- The listed variables of the rows; numbers that came in. Conditions are in the theorems. -/
import Derived.Test.YtmbdfpgaokbkkaaDoorE7
import Derived.Test.YtmbdfpgaokbkkaaDoorRows
import Derived.LaidMore
import Derived.ProofKit
import Derived.OpenShut
import Derived.Stop.Joined
import Derived.Lay
import Derived.Lib.LaidU8
import Derived.Test.YtmbdfpgaokbkkaaDoorG0
/- The listed variables of the rows: what they give a walk; from a function's contract to its calls. -/
namespace Go.Ab
open Go.RowKit Go.Ax
theorem calls_of {P:Program} {f:FuncId} {ds:List D} {b:Bool} (h:Does P f ds [] (B b) []) {w:World} {vs:Array Value} (ht:Tab w fun _=>False) (htg:tabG (blkSize w)) (hl:vs.size=ds.length) (hd:∀ (i:Nat) (u:Value) (d:D),vs[i]?=some u->ds[i]?=some d->DR0 w (blkSize w) u d):
    Calls P f vs w fun e w'=>e = .returned (.bool b)/\Aft w w':=by
 refine (h ⟨vs.size,w,blkSize w,fun _=>False,fun _=>.nilFunc,ht,htg,[]⟩ w vs rfl rfl hl ⟨fun _=>.nilFunc,blkSize w,⟨rfl,rfl,rfl,Nat.le_refl _,fun _ _ _=>rfl⟩,fun _ _ _ h=>h,fun _ _ _=>rfl,fun _ _ _=>rfl,rfl,fun t d ht=>?_,fun k o h=>by simp [look] at h,fun k o k' o' h=>by simp [look] at h⟩).mono ?_
 ·have hlt:t < vs.size:=by rw [hl];exact (List.getElem?_eq_some_iff.1 ht).1
  exact ⟨vs[t],Array.getElem?_eq_getElem hlt,(hd t _ d (Array.getElem?_eq_getElem hlt) ht).mono (fun k hk=>by cases hk) (fun _ _ _ h=>h)⟩
 ·rintro e w' ⟨v,rfl,ν,G,I⟩
  obtain ⟨u,hu,hd⟩:=I.T 0 (B b) (by simp);simp at hu;subst hu;have:=bool_of hd;subst this;exact ⟨rfl,I.kept.os,I.kept.tape,I.kept.output,I.kept.size,fun k hk=>I.kept.block k hk (fun h=>h)⟩
theorem tabG_of {w:World} (_:tabPr w):tabG (blkSize w):=fun g vs hg=>by cases hg
end Go.Ab
namespace Go.Proofs
open Go Go.Ax
theorem i64_w {z:Int} (h:OkV (.i .i64) z):I64 z:=by
 have h:(Lit.int .i64 z).wf=true:=h;simp [Lit.wf] at h;exact h
theorem okl_w {l:List Int} (h:OkV (.sl (.i .i64)) l):∀ x ∈ l,I64 x:=fun x hx=>i64_w (h x hx)
end Go.Proofs
namespace Go.Proofs.YtmbdfpgaokbkkaaDoor
open Go.ChangeShapes Go.WideShapes Go.ChangeAt Go.RowKit Go.Ab
theorem own:ownKnob Tryd.prog.godebug=none:=by kernel_rfl
theorem laidOut:laidOutB Tryd.prog=true:=by kernel_rfl
def laid5 : List (String × DataW Unit) := [("math/bits.deBruijn32tab", Rows.laid_math_bits_deBruijn32tab), ("math/bits.deBruijn64tab", Rows.laid_math_bits_deBruijn64tab), ("internal/strconv.uint64pow10", Rows.laid_internal_strconv_uint64pow10), ("strconv.ErrRange", Rows.laid_strconv_ErrRange), ("strconv.ErrSyntax", Rows.laid_strconv_ErrSyntax)]
set_option maxRecDepth 1000000 in
theorem door_met (os:Os) (args:Array Value):laidMetH Tryd.prog laid5 ((World.laidAll Tryd.prog os laid5).forCall (fun _ _=>0) ⟨#[],args,[]⟩).memory:=by
 rw [MakeChecks.laidMetH_plain _ _ _ (by kernel_rfl)];exact laidMet_laidAll args (by kernel_rfl) (by kernel_rfl)
theorem gPow : Tryd.prog.globalNamed "internal/strconv.uint64pow10" = some 2 := by kernel_rfl
theorem gSyn : Tryd.prog.globalNamed "strconv.ErrSyntax" = some 0 := by kernel_rfl
theorem gRan : Tryd.prog.globalNamed "strconv.ErrRange" = some 1 := by kernel_rfl
theorem powData:(Rows.laid_internal_strconv_uint64pow10:DataW Unit)=Lib.tabData .u64 Lib.pow10Tab:=by kernel_rfl
theorem iface_cells {P:Program} {w:World} {fuel:Nat} {t:TypeId} {cs:List Value} {p:List MemPlace} {n:String} {d:DataW Unit} {ms:_} (hu:P.underlying t=some (.interface ms)) (h:DataW.trod (fun _=>()) P w 0 (fun _=>true) false fuel t cs=some (.iface n d,p)):∃ te pe,cs=[.iface te pe]:=by
 cases fuel with
 | zero=>simp [DataW.trod] at h
 | succ fuel=>
   match cs,h with
   | [.iface te pe],_=>exact ⟨te,pe,rfl⟩
   | [],h=>simp [DataW.trod,hu] at h
   | [v],h=>cases v <;> simp [DataW.trod,hu] at h <;> exact ⟨_,_,rfl⟩
   | a::b::l,h=>simp [DataW.trod,hu] at h
theorem err_of {W : World} {n : String} {g : Nat} {d : DataW Unit} (hg : Tryd.prog.globalNamed n = some g) (ht : (Tryd.prog.globals[g]?).map (·.type) = some 50) (h : Lib.VarReads Tryd.prog W n (.iface "*errors.errorString" d)) : ∃ te pe, W.cell? ⟨g, 0, none⟩ = some (.iface te pe) := by
 obtain ⟨g',t,cs,fuel,p,hg',ht',hv,hd⟩:=h;obtain rfl:=Option.some.inj (hg.symm.trans hg');obtain rfl:=Option.some.inj (ht.symm.trans ht');obtain ⟨ms,hu⟩:∃ ms,Tryd.prog.underlying 50=some (.interface ms):=by
  have h:(match Tryd.prog.underlying 50 with | some (.interface _)=>true | _=>false)=true:=by kernel_rfl
  split at h
  ·rename_i ms hu;exact ⟨ms,hu⟩
  ·cases h
 obtain ⟨te,pe,hc⟩:=iface_cells hu hd;refine ⟨te,pe,?_⟩;unfold World.var? at hv;rw [hg] at hv;simp only [Option.bind_some] at hv;split at hv
 ·rename_i cs' e f hh
  cases hv;have:cs[0]?=some (.iface te pe):=by
   have:=congrArg (·[0]?) hc;simpa using this
  simp only [World.cell?];rw [hh];exact this
 ·cases hv
theorem tab_of_laid {W:World} (h:laidMetH Tryd.prog laid5 W):tabPr W:=by
 rw [MakeChecks.laidMetH_plain _ _ _ (by kernel_rfl)] at h;refine ⟨?_, fun g vs hg => (by cases hg), err_of gSyn (by kernel_rfl) (Lib.laidMet.reads h (n := "strconv.ErrSyntax") (d := Rows.laid_strconv_ErrSyntax) (by simp [laid5])), err_of gRan (by kernel_rfl) (Lib.laidMet.reads h (n := "strconv.ErrRange") (d := Rows.laid_strconv_ErrRange) (by simp [laid5]))⟩
 obtain ⟨g, t, cs, fuel, p, hg, ht, hv, hd⟩ := Lib.laidMet.reads h (n := "internal/strconv.uint64pow10") (d := Rows.laid_internal_strconv_uint64pow10) (by simp [laid5])
 obtain rfl:=Option.some.inj (gPow.symm.trans hg);obtain rfl:=Option.some.inj ((show (Tryd.prog.globals[2]?).map (·.type)=some 121 by kernel_rfl).symm.trans ht);unfold Lib.TabIs;rw [powData] at hd;rw [hv,← Lib.cells_of_tab (n:=20) Tryd.underlying121 Tryd.underlying101 (by kernel_rfl) (by kernel_rfl) hd]
theorem tabAll {W:World} (h:tabPr W):Tab W fun _=>False:=by
 intro w' hs hb;obtain ⟨h1,h2,⟨te,pe,h3⟩,⟨te',pe',h4⟩⟩:=h;have hlt:2 < W.heap.size:=by
  unfold Lib.TabIs World.var? at h1;rw [gPow] at h1;simp only [Option.bind_some] at h1;split at h1
  ·rename_i hh
   exact (Array.getElem?_eq_some_iff.1 hh).1
  ·cases h1
 have same:∀ g i,g < W.heap.size->w'.cell? ⟨g,i,none⟩=W.cell? ⟨g,i,none⟩:=fun g i hg=>World.cell?_of_block (a:=⟨g,i,none⟩) (hb g hg fun h=>h)
 refine ⟨?_,fun g vs hg=>(by cases hg),⟨te,pe,(same 0 0 (by omega)).trans h3⟩,te',pe',(same 1 0 (by omega)).trans h4⟩;unfold Lib.TabIs World.var? at *
 rw [gPow] at *
 simp only [Option.bind_some] at *
 rw [hb 2 hlt (fun h=>h)];exact h1
end Go.Proofs.YtmbdfpgaokbkkaaDoor
