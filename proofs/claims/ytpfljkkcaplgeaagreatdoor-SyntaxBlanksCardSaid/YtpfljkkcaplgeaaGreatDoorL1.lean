/- The listed variables of the row. Conditions are in the theorems. -/
import Derived.Test.YtpfljkkcaplgeaaGreatDoorE5
import Derived.Test.YtpfljkkcaplgeaaGreatDoorRows
import Derived.LaidMore
import Derived.ProofKit
import Derived.OpenShut
import Derived.Stop.Joined
import Derived.Lay
import Derived.Lib.LaidU8
import Derived.Test.YtpfljkkcaplgeaaGreatDoorG4
open Array renaming getElem?_eq_getElem->kL,getElem?_eq_some_iff->mP
open List renaming getElem?_eq_none->oC,getElem?_map->cZ
open Option renaming bind_some->aKU,map_eq_some_iff->cO
open Option.some renaming inj->gZ
/- The listed variables of the rows: what they give a walk; from a function's contract to its calls. -/
namespace Go.Ab
open Go.RowKit Go.Ax
theorem a0m{w:World}(h:D4 w):IA (oZ w):=λg vs hg=>by
  rcases Nat.eq_zero_or_pos vs.length with h0|h0
  . omega
  . have hc:=h.2.1 g vs hg (vs.length-1) _ (List.getElem?_eq_getElem (by omega));unfold oZ;simp only[World.cell?]at hc;split at hc
    . rename_i c t f hh;rw[hh];have:=(mP.1 hc).1;simp only;omega
    . cases hc
/-- From a contract told of data to one of values: where nothing is handed in to be changed. -/
theorem a71{P:Program}{f:FuncId}{ds:List D}{b:Bool}(h:jD P f ds [] (B b) []){w:World}{vs:Array Value}(ht:Bb w λ_=>False)(htg:IA (oZ w))(hl:vs.size=ds.length)(hd:∀(i:Nat)(u:Value)(d:D),vs[i]?=some u->ds[i]?=some d->Zx w (oZ w) u d):
    Calls P f vs w λe w'=>e = .returned (.bool b)/\cU w w':=by
  refine(h ⟨vs.size,w,oZ w,λ_=>False,λ_=>.nilFunc,ht,htg,[]⟩ w vs rfl rfl hl ⟨λ_=>.nilFunc,oZ w,⟨rfl,rfl,rfl,Nat.le_refl _,λ_ _ _=>rfl⟩,λ_ _ _ h=>h,λ_ _ _=>rfl,λ_ _ _=>rfl,rfl,λt d ht=>?_,λk o h=>by simp[look]at h,λk o k' o' h=>by simp[look]at h⟩).mono ?_
  . have hlt:t<vs.size:=by rw[hl];exact(List.getElem?_eq_some_iff.1 ht).1
    exact⟨vs[t],kL hlt,(hd t _ d (kL hlt) ht).mono (λk hk=>by cases hk) (λ_ _ _ h=>h)⟩
  . rintro e w' ⟨v,rfl,ν,G,I⟩;obtain⟨u,hu,hd⟩:=I.T 0 (B b) (by simp);simp at hu;subst hu;have:=bY hd;subst this;exact⟨rfl,I.kept.os,I.kept.tape,I.kept.output,I.kept.size,λk hk=>I.kept.block k hk (λh=>h)⟩
/-- An array of texts, as a row lists it. -/
theorem a7P{H:Type}{enc:TypeId×Value->H}{P:Program}{w:World}{base:Nat}{sp:Nat->Bool}{held:Bool}{fuel:Nat}{t e:TypeId}{n:Nat}{cs:List Value}{ss:List (List UInt8)}{p:List MemPlace}
    (ht:P.underlying t=some (.array n e)) (he:P.underlying e=some .string) (hce:P.cellsOf e=1) (hct:P.cellsOf t=n)
    (h:DataW.trod enc P w base sp held fuel t cs=some (.agg (ss.map λs=>.lit (.string s)),p)):cs=ss.map λs=>Value.string ⟨⟨s⟩⟩:=by
  cases fuel with
  |zero=>simp[DataW.trod]at h
  |succ fuel=>
    simp only[DataW.trod,ht,hce,hct,Nat.mul_one]at h;split at h
    case isFalse=>cases h
    rename_i hl;obtain⟨xs,hm,hx⟩:=cO.1 h;have hxs:xs.map (·.1)=ss.map λs=>(DataW.lit (.string s):DataW H):=by
      have:=aR Prod.fst hx;simpa using this
    have hxl:xs.length=n:=by simpa using Lib.mapM_length hm
    have hsl:ss.length=n:=by
      have:=aR List.length hxs;simp at this;omega
    apply List.ext_getElem?;intro i;by_cases hi:i<n
    . obtain⟨b,hb,hf⟩:=Lib.mapM_at hm i i (by simp[hi]);obtain⟨s,hc,hs,_⟩:=DataW.trod_string he hf;have h1:cs[i]?=some (.string s):=by
        have:=aR (·[0]?) hc;simpa[List.getElem?_take,List.getElem?_drop]using this
      have h2:(ss.map λs=>(DataW.lit (.string s):DataW H))[i]?=some (.lit (.string s.data.toList)):=by
        rw[<-hxs,cZ,hb,hs];rfl
      rw[cZ]at h2;obtain⟨l,hl1,hl2⟩:=cO.1 h2;have hl3:l=s.data.toList:=by
        have:=hl2;injection this with this;injection this
      rw[h1,cZ,hl1,hl3];rfl
    . rw[oC (by omega),oC (by rw[List.length_map];omega)]
end Go.Ab
namespace Go.Proofs
open Go Go.Ax
theorem aHy{l:List Int}(h:u9 (.sl (.i .i64)) l):Mk l:=λx hx=>by
  have h:(Lit.int .i64 x).wf=true:=h x hx;simp[Lit.wf]at h;exact h
end Go.Proofs
namespace Go.Proofs.YtpfljkkcaplgeaaGreatDoor
open Go.ChangeShapes Go.WideShapes Go.ChangeAt Go.RowKit Go.Ab
theorem own:ownKnob Tryz.prog.godebug=none:=by kernel_rfl
theorem laidOut:laidOutB Tryz.prog=true:=by kernel_rfl
def oS : List (String × DataW Unit) := [("math/bits.deBruijn32tab", Rows.laid_math_bits_deBruijn32tab), ("math/bits.deBruijn64tab", Rows.laid_math_bits_deBruijn64tab), ("internal/strconv.uint64pow10", Rows.laid_internal_strconv_uint64pow10), ("unicode/utf8.acceptRanges", Rows.laid_unicode_utf8_acceptRanges), ("strconv.ErrRange", Rows.laid_strconv_ErrRange), ("strconv.ErrSyntax", Rows.laid_strconv_ErrSyntax), ("dactyl/syntax.blocks", Rows.laid_dactyl_syntax_blocks), ("dactyl/syntax.operations", Rows.laid_dactyl_syntax_operations), ("dactyl/syntax.shapes", Rows.laid_dactyl_syntax_shapes), ("dactyl/syntax.facts", Rows.laid_dactyl_syntax_facts), ("dactyl/syntax.questions", Rows.laid_dactyl_syntax_questions), ("unicode/utf8.first", Rows.laid_unicode_utf8_first)]
set_option maxRecDepth 1000000 in
theorem a6s(os:Os)(args:Array Value):laidMetH Tryz.prog oS ((World.laidAll Tryz.prog os oS).forCall (λ_ _=>0) ⟨#[],args,[]⟩).memory:=by
  rw[MakeChecks.laidMetH_plain _ _ _ (by kernel_rfl)];exact laidMet_laidAll args (by kernel_rfl) (by kernel_rfl)
theorem YW : Tryz.prog.globalNamed "internal/strconv.uint64pow10" = some 8 := by kernel_rfl
theorem a6E : Tryz.prog.globalNamed "strconv.ErrSyntax" = some 6 := by kernel_rfl
theorem a6F : Tryz.prog.globalNamed "strconv.ErrRange" = some 7 := by kernel_rfl
theorem a2D:(Rows.laid_internal_strconv_uint64pow10:DataW Unit)=Lib.tabData .u64 Lib.pow10Tab:=by kernel_rfl
/-- What reads as an error is one. -/
theorem a5B{P:Program}{w:World}{fuel:Nat}{t:TypeId}{cs:List Value}{p:List MemPlace}{n:String}{d:DataW Unit}{ms:_}(hu:P.underlying t=some (.interface ms))(h:DataW.trod (λ_=>()) P w 0 (λ_=>true) false fuel t cs=some (.iface n d,p)):∃te pe,cs=[.iface te pe]:=by
  cases fuel with
  |zero=>simp[DataW.trod]at h
  |succ fuel=>
    match cs,h with
    |[.iface te pe],_=>exact⟨te,pe,rfl⟩
    |[],h=>simp[DataW.trod,hu]at h
    |[v],h=>cases v <;> simp[DataW.trod,hu]at h <;> exact⟨_,_,rfl⟩
    |a::b::l,h=>simp[DataW.trod,hu]at h
theorem aFu{w:World}{n:String}{g:Nat}{cs:Array Value}(hn:Tryz.prog.globalNamed n=some g)(h:w.var? Tryz.prog n=some cs):∀i u,cs[i]?=some u->w.cell? ⟨g,i,none⟩=some u:=λi u hu=>by
  unfold World.var? at h;rw[hn]at h;simp only[aKU]at h;split at h
  . rename_i hh;simp only[World.cell?,hh];cases h;exact hu
  . cases h
theorem aJB {W : World} {n : String} {g : Nat} {d : DataW Unit} (hg : Tryz.prog.globalNamed n = some g) (ht : (Tryz.prog.globals[g]?).map (·.type) = some 138) (h : Lib.VarReads Tryz.prog W n (.iface "*errors.errorString" d)) : ∃ te pe, W.cell? ⟨g, 0, none⟩ = some (.iface te pe) := by
  obtain⟨g',t,cs,fuel,p,hg',ht',hv,hd⟩:=h;obtain rfl:=gZ (hg.symm.trans hg');obtain rfl:=gZ (ht.symm.trans ht');obtain⟨ms,hu⟩:∃ms,Tryz.prog.underlying 138=some (.interface ms):=by
    have h:(match Tryz.prog.underlying 138 with|some (.interface _)=>true|_=>false)=true:=by kernel_rfl
    split at h
    . rename_i ms hu;exact⟨ms,hu⟩
    . cases h
  obtain⟨te,pe,hc⟩:=a5B hu hd;exact⟨te,pe,aFu hg hv 0 _ (by
    have:=aR (·[0]?) hc;simpa using this)⟩
theorem IB{W:World}{n:String}{g k ty:Nat}{ss:List (List UInt8)}(hg:Tryz.prog.globalNamed n=some g)(ht:(Tryz.prog.globals[g]?).map (·.type)=some ty)(hu:Tryz.prog.underlying ty=some (.array k 9))(hc:Tryz.prog.cellsOf ty=k)(h:Lib.VarReads Tryz.prog W n (.agg (ss.map λs=>.lit (.string s))))(i:Nat)(u:Value)(hi:(ss.map λs=>Value.string ⟨⟨s⟩⟩)[i]?=some u):W.cell? ⟨g,i,none⟩=some u:=by
  obtain⟨g',t,cs,fuel,p,hg',ht',hv,hd⟩:=h;obtain rfl:=gZ (hg.symm.trans hg');obtain rfl:=gZ (ht.symm.trans ht');have:=a7P hu (by kernel_rfl) (by kernel_rfl) hc hd;refine aFu hg hv i u ?_;rw[<-Array.getElem?_toList,this];exact hi
theorem aG3{W:World}(h:laidMetH Tryz.prog oS W):D4 W:=by
  rw [MakeChecks.laidMetH_plain _ _ _ (by kernel_rfl)] at h;refine ⟨?_, fun g vs hg i u hu => ?_, aJB a6E (by kernel_rfl) (Lib.laidMet.reads h (n := "strconv.ErrSyntax") (d := Rows.laid_strconv_ErrSyntax) (by simp [oS])), aJB a6F (by kernel_rfl) (Lib.laidMet.reads h (n := "strconv.ErrRange") (d := Rows.laid_strconv_ErrRange) (by simp [oS]))⟩
  · obtain ⟨g, t, cs, fuel, p, hg, ht, hv, hd⟩ := Lib.laidMet.reads h (n := "internal/strconv.uint64pow10") (d := Rows.laid_internal_strconv_uint64pow10) (by simp [oS])
    obtain rfl:=gZ (YW.symm.trans hg);obtain rfl:=gZ ((show(Tryz.prog.globals[8]?).map (·.type)=some 373 by kernel_rfl).symm.trans ht);unfold Lib.TabIs;rw[a2D]at hd;rw[hv,<-Lib.cells_of_tab (n:=20) (by kernel_rfl:Tryz.prog.underlying 373=some (.array 20 341)) (by kernel_rfl:Tryz.prog.underlying 341=some (.int .u64)) (by kernel_rfl) (by kernel_rfl) hd]
  . unfold wG at hg;split at hg
    . cases hg;exact IB (n := "dactyl/syntax.blocks") (ty := 141) (k := 7) (ss := [[116, 101, 120, 116], [102, 111, 114, 109, 117, 108, 97], [99, 111, 108, 117, 109, 110], [101, 110, 116, 114, 105, 101, 115], [100, 114, 97, 119, 105, 110, 103], [109, 117, 115, 105, 99], [108, 105, 115, 116, 105, 110, 103]]) (by kernel_rfl) (by kernel_rfl) (by kernel_rfl) (by kernel_rfl) (Lib.laidMet.reads h (by simp [oS, Rows.laid_dactyl_syntax_blocks])) i u hu
    . cases hg;exact IB (n := "dactyl/syntax.facts") (ty := 141) (k := 7) (ss := [[119, 104, 111, 108, 101], [101, 110, 116, 114, 121], [105, 110, 115, 105, 100, 101], [108, 101, 102, 116], [108, 111, 110, 103, 101, 114], [98, 97, 114], [114, 111, 119]]) (by kernel_rfl) (by kernel_rfl) (by kernel_rfl) (by kernel_rfl) (Lib.laidMet.reads h (by simp [oS, Rows.laid_dactyl_syntax_facts])) i u hu
    . cases hg;exact IB (n := "dactyl/syntax.questions") (ty := 203) (k := 3) (ss := [[99, 104, 111, 105, 99, 101], [99, 111, 117, 110, 116], [111, 112, 101, 110]]) (by kernel_rfl) (by kernel_rfl) (by kernel_rfl) (by kernel_rfl) (Lib.laidMet.reads h (by simp [oS, Rows.laid_dactyl_syntax_questions])) i u hu
    . cases hg;exact IB (n := "dactyl/syntax.operations") (ty := 219) (k := 11) (ss := [[], [], [110, 101, 103], [43], [45], [42], [47], [94], [114, 111, 111, 116], [61], [60]]) (by kernel_rfl) (by kernel_rfl) (by kernel_rfl) (by kernel_rfl) (Lib.laidMet.reads h (by simp [oS, Rows.laid_dactyl_syntax_operations])) i u hu
    . cases hg;exact IB (n := "dactyl/syntax.shapes") (ty := 203) (k := 3) (ss := [[100, 111, 116], [108, 105, 110, 101], [97, 114, 101, 97]]) (by kernel_rfl) (by kernel_rfl) (by kernel_rfl) (by kernel_rfl) (Lib.laidMet.reads h (by simp [oS, Rows.laid_dactyl_syntax_shapes])) i u hu
    . cases hg
theorem a0n{W:World}(h:D4 W):Bb W λ_=>False:=by
  intro w' hs hb;have hcell:∀g i u,W.cell? ⟨g,i,none⟩=some u->w'.cell? ⟨g,i,none⟩=some u:=λg i u hc=>by
    have hlt:g<W.heap.size:=World.block_lt_of_cell? W ⟨g,i,none⟩ hc;rw[World.cell?_of_block (a:=⟨g,i,none⟩) (hb g hlt (λh=>h))];exact hc
  obtain⟨h1,h2,⟨te,pe,h3⟩,⟨te',pe',h4⟩⟩:=h;refine⟨?_,λg vs hg i u hu=>hcell g i u (h2 g vs hg i u hu),⟨te,pe,hcell _ _ _ h3⟩,te',pe',hcell _ _ _ h4⟩;have hlt:8<W.heap.size:=by
    unfold Lib.TabIs World.var? at h1;rw[YW]at h1;simp only[aKU]at h1;split at h1
    . rename_i hh;exact(mP.1 hh).1
    . cases h1
  unfold Lib.TabIs World.var? at *
  rw[YW]at *
  simp only[aKU]at *
  rw[hb 8 hlt (λh=>h)];exact h1
end Go.Proofs.YtpfljkkcaplgeaaGreatDoor
