/- Contracts at small shapes, in a later world. -/
import Derived.Test.YtokdclbfjlnnjaaA5
namespace Go.Proofs.Ytokdclbfjlnnjaa
open Go.RowKit Go.BigFrame

/-- Contracts in a later world, the results by what is known. -/
theorem inside_lat {w : World} {x : Lat w} {ka kb ox oy ox' oy' : Int} {va vb : Value} {la lb : List Pt} {o : Bool} (hla : Prs w va la) (hlb : Prs w vb lb) (h : insideZ ka la kb lb = o) (ha : Sm ox oy ka la) (hb : Sm ox' oy' kb lb) :
    Calls Try.prog 40 #[.agg #[.int .i64 ka, va], .agg #[.int .i64 kb, vb]] x.W fun e w' => e = .returned (.bool o) ∧ ∃ y : Lat w, w' = y.W := Calls.lat (inside_sm h _ (hla.aft x.aft) (hlb.aft x.aft) ha hb)
theorem left_lat {w : World} {x : Lat w} {ka kb : Int} {va vb : Value} {la lb : List Pt} {o : Bool} (hla : Prs w va la) (hlb : Prs w vb lb) (h : leftZ la lb = o) :
    Calls Try.prog 34 #[.agg #[.int .i64 ka, va], .agg #[.int .i64 kb, vb]] x.W fun e w' => e = .returned (.bool o) ∧ ∃ y : Lat w, w' = y.W := Calls.lat (left_sm h _ (hla.aft x.aft) (hlb.aft x.aft))
theorem longer_lat {w : World} {x : Lat w} {ka kb ox oy ox' oy' : Int} {va vb : Value} {la lb : List Pt} {o : Bool} (hla : Prs w va la) (hlb : Prs w vb lb) (h : longerZ ka la kb lb = o) (ha : Sm ox oy ka la) (hb : Sm ox' oy' kb lb) :
    Calls Try.prog 43 #[.agg #[.int .i64 ka, va], .agg #[.int .i64 kb, vb]] x.W fun e w' => e = .returned (.bool o) ∧ ∃ y : Lat w, w' = y.W := Calls.lat (longer_sm h _ (hla.aft x.aft) (hlb.aft x.aft) ha hb)
theorem rinside_lat {w : World} {x : Lat w} {ka kb ox oy ox' oy' : Int} {va vb : Value} {la lb : List Pt} {o : Bool} (hla : Prs w va la) (hlb : Prs w vb lb) (h : rinsideZ ka la kb lb = o) (ha : Sm ox oy ka la) (hb : Sm ox' oy' kb lb) :
    Calls Try.prog 41 #[.agg #[.int .i64 ka, va], .agg #[.int .i64 kb, vb]] x.W fun e w' => e = .returned (.bool o) ∧ ∃ y : Lat w, w' = y.W := Calls.lat (rinside_sm h _ (hla.aft x.aft) (hlb.aft x.aft) ha hb)
theorem rleft_lat {w : World} {x : Lat w} {ka kb : Int} {va vb : Value} {la lb : List Pt} {o : Bool} (hla : Prs w va la) (hlb : Prs w vb lb) (h : rleftZ la lb = o) :
    Calls Try.prog 42 #[.agg #[.int .i64 ka, va], .agg #[.int .i64 kb, vb]] x.W fun e w' => e = .returned (.bool o) ∧ ∃ y : Lat w, w' = y.W := Calls.lat (rleft_sm h _ (hla.aft x.aft) (hlb.aft x.aft))
theorem rlonger_lat {w : World} {x : Lat w} {ka kb ox oy ox' oy' : Int} {va vb : Value} {la lb : List Pt} {o : Bool} (hla : Prs w va la) (hlb : Prs w vb lb) (h : longerZ ka la kb lb = o) (ha : Sm ox oy ka la) (hb : Sm ox' oy' kb lb) :
    Calls Try.prog 44 #[.agg #[.int .i64 ka, va], .agg #[.int .i64 kb, vb]] x.W fun e w' => e = .returned (.bool o) ∧ ∃ y : Lat w, w' = y.W := Calls.lat (rlonger_sm h _ (hla.aft x.aft) (hlb.aft x.aft) ha hb)
theorem length_lat {w : World} {x : Lat w} {ka ox oy n : Int} {va : Value} {la : List Pt} (hla : Prs w va la) (h : lengthZ ka la = n) (ha : Sm ox oy ka la) :
    Calls Try.prog 37 #[.agg #[.int .i64 ka, va]] x.W fun e w' => e = .returned (.int .i64 n) ∧ ∃ y : Lat w, w' = y.W := Calls.lat (length_sm h _ (hla.aft x.aft) ha)
theorem rlength_lat {w : World} {x : Lat w} {ka ox oy n : Int} {va : Value} {la : List Pt} (hla : Prs w va la) (h : lengthZ ka la = n) (ha : Sm ox oy ka la) :
    Calls Try.prog 38 #[.agg #[.int .i64 ka, va]] x.W fun e w' => e = .returned (.int .i64 n) ∧ ∃ y : Lat w, w' = y.W := Calls.lat (rlength_sm h _ (hla.aft x.aft) ha)
end Go.Proofs.Ytokdclbfjlnnjaa
