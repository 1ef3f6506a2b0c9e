/- The listed variables of the rows; from contracts to calls. Conditions are in the theorems. -/
import Derived.Test.YtlhdefefoaldfaaGreatDoorE7
import Derived.Test.YtlhdefefoaldfaaGreatDoorRows
import Derived.LaidMore
import Derived.ProofKit
import Derived.OpenShut
import Derived.Stop.Joined
open Array renaming getElem?_eq_getElem->p8,getElem?_eq_some_iff->lI,getElem?_toList->Fl
open List renaming getElem?_eq_some_iff->dC
open Option renaming bind_some->aMe,map_eq_some_iff->cV
open Option.some renaming inj->fV
/- The listed variables of the rows: what they give a walk; from a function's contract to its calls. -/
namespace Go.Ab
open Go.RowKit Go.Ax
theorem a4C{w:World}(h:Bq w):Iw (mD w):=λg vs hg=>by
 rcases Nat.eq_zero_or_pos vs.length with h0|h0
 .omega
 .have hc:=h.2 g vs hg (vs.length-1) _ (List.getElem?_eq_getElem (by omega))
  unfold mD;simp only[World.cell?]at hc;split at hc
  .rename_i c t f hh
   rw[hh];have:=(lI.1 hc).1;simp only;omega
  .cases hc
theorem a9O{P:Program}{f:FuncId}{ds:List D}{b:Bool}(h:cR P f ds [] (B b) []){w:World}{vs:Array Value}(ht:CR w λ_=>False)(htg:Iw (mD w))(hl:vs.size=ds.length)(hd:∀(i:Nat)(u:Value)(d:D),vs[i]?=some u->ds[i]?=some d->DR0 w (mD w) u d):
    Calls P f vs w λe w'=>e = .returned (.bool b)/\cS w w':=by
 refine(h ⟨vs.size,w,mD w,λ_=>False,λ_=>.nilFunc,ht,htg,[]⟩ w vs rfl rfl hl ⟨λ_=>.nilFunc,mD w,⟨rfl,rfl,rfl,Nat.le_refl _,λ_ _ _=>rfl⟩,λ_ _ _ h=>h,λ_ _ _=>rfl,λ_ _ _=>rfl,rfl,λt d ht=>?_,λk o h=>by simp[look]at h,λk o k' o' h=>by simp[look]at h⟩).mono ?_
 .have hlt:t<vs.size:=by rw[hl];exact(dC.1 ht).1
  exact⟨vs[t],p8 hlt,(hd t _ d (p8 hlt) ht).mono (λk hk=>by cases hk) (λ_ _ _ h=>h)⟩
 .rintro e w' ⟨v,rfl,ν,G,I⟩
  obtain⟨u,hu,hd⟩:=I.T 0 (B b) (by simp);simp at hu;subst hu;have:=cL hd;subst this;exact⟨rfl,I.kept.os,I.kept.tape,I.kept.output,I.kept.size,λk hk=>I.kept.block k hk (λh=>h)⟩
theorem chunks{α:Type}{k:Nat}:∀(ls:List (List α))(cs:List α),cs.length=ls.length*k->(∀(i:Nat)(c:List α),ls[i]?=some c->(cs.drop (i*k)).take k=c)->cs=ls.flatten
 |[],cs,h,_=>by simpa using h
 |l::ls,cs,h,hc=>by
   have h0:=hc 0 l rfl;simp only[Nat.zero_mul,List.drop_zero]at h0;have:=chunks (k:=k) ls (cs.drop k) (by rw[List.length_drop,h,List.length_cons,Nat.succ_mul];omega) (λi c hi=>by
    have:=hc (i+1) c hi;rw[List.drop_drop,show k+i*k=(i+1)*k by rw[Nat.succ_mul];omega];exact this)
   rw[List.flatten_cons,<-this,<-h0,List.take_append_drop]
end Go.Ab
namespace Go.Proofs.YtlhdefefoaldfaaGreatDoor
open Go.ChangeShapes Go.WideShapes Go.ChangeAt Go.RowKit Go.Ab
theorem own:ownKnob Tryz.prog.godebug=none:=by kernel_rfl
theorem laidOut:laidOutB Tryz.prog=true:=by kernel_rfl
def J4 : List (String × DataW Unit) := [("math/bits.deBruijn32tab", Rows.laid_math_bits_deBruijn32tab), ("math/bits.deBruijn64tab", Rows.laid_math_bits_deBruijn64tab), ("internal/strconv.uint64pow10", Rows.laid_internal_strconv_uint64pow10), ("strconv.ErrRange", Rows.laid_strconv_ErrRange), ("strconv.ErrSyntax", Rows.laid_strconv_ErrSyntax), ("dactyl/formula.operations", Rows.laid_dactyl_formula_operations), ("dactyl/linear.digits", Rows.laid_dactyl_linear_digits), ("dactyl/linear.letters", Rows.laid_dactyl_linear_letters), ("dactyl/linear.cells", Rows.laid_dactyl_linear_cells)]
theorem a8e(os:Os)(args:Array Value):laidMetH Tryz.prog J4 ((World.doorLaid Tryz.prog 93 os).forCall (λ_ _=>0) ⟨#[],args,[]⟩).memory:=
 laidMetH_of_parts3 (fuel:=8) (laidMet_of_run' 8 (by kernel_rfl) (by kernel_rfl)) (by kernel_rfl) (by kernel_rfl)
theorem Zm : Tryz.prog.globalNamed "internal/strconv.uint64pow10" = some 5 := by kernel_rfl
theorem aL8 : Tryz.prog.globalNamed "dactyl/formula.operations" = some 3 := by kernel_rfl
theorem a5C:(Rows.laid_internal_strconv_uint64pow10:DataW Unit)=Lib.tabData .u64 Lib.pow10Tab:=by kernel_rfl
theorem aLa : Tryz.prog.globalNamed "dactyl/linear.digits" = some 0 := by kernel_rfl
theorem a8u:(Rows.laid_dactyl_linear_digits:DataW Unit)=Lib.tabData .u8 [26,1,3,9,25,17,11,27,19,10]:=by kernel_rfl
theorem aL9 : Tryz.prog.globalNamed "dactyl/linear.letters" = some 1 := by kernel_rfl
theorem a8t:(Rows.laid_dactyl_linear_letters:DataW Unit)=Lib.tabData .u8 [1,3,9,25,17,11,27,19,10,26,5,7,13,29,21,15,31,23,14,30,37,39,58,45,61,53]:=by kernel_rfl
theorem aLb : Tryz.prog.globalNamed "dactyl/linear.cells" = some 2 := by kernel_rfl
theorem a8v:(Rows.laid_dactyl_linear_cells:DataW Unit)=Lib.tabData .u8 [22,36,33,12,24,54,42,28,55,62]:=by kernel_rfl
theorem a5P{P:Program}{w:World}{fuel:Nat}{t t1 t2 t3 t4:TypeId}{n1 n2 n3 n4:String}{b1 b2 b3 b4:Nat}{e1 e2 e3 e4:Bool}{g1 g2 g3 g4 p1 p2 p3 p4:String}{cs:List Value}{k1 k2 k3 k4:IntKind}{z1 z2 z3 z4:Int}{p:List MemPlace}
    (ht:P.underlying t=some (.struct #[⟨n1,t1,0,e1,g1,p1,b1⟩,⟨n2,t2,1,e2,g2,p2,b2⟩,⟨n3,t3,2,e3,g3,p3,b3⟩,⟨n4,t4,3,e4,g4,p4,b4⟩])) (hc:P.cellsOf t=4)
    (u1:P.underlying t1=some (.int k1)) (u2:P.underlying t2=some (.int k2)) (u3:P.underlying t3=some (.int k3)) (u4:P.underlying t4=some (.int k4)) (c1:P.cellsOf t1=1) (c2:P.cellsOf t2=1) (c3:P.cellsOf t3=1) (c4:P.cellsOf t4=1)
    (h:DataW.trod (λ_=>()) P w 0 (λ_=>true) false fuel t cs=some (.agg [.lit (.int k1 z1),.lit (.int k2 z2),.lit (.int k3 z3),.lit (.int k4 z4)],p)):cs=[.int k1 z1,.int k2 z2,.int k3 z3,.int k4 z4]:=by
 cases fuel with
 |zero=>simp[DataW.trod]at h
 |succ fuel=>
   simp only[DataW.trod,ht,hc]at h;split at h
   case isFalse=>cases h
   rename_i hl;obtain⟨xs,hm,hx⟩:=cV.1 h;have hxs:xs.map (·.1)=[.lit (.int k1 z1),.lit (.int k2 z2),.lit (.int k3 z3),.lit (.int k4 z4)]:=by
    have:=bE Prod.fst hx;simpa using this
   have get:∀(i:Nat)(f:Field)(k:IntKind)(z:Int),(#[(⟨n1,t1,0,e1,g1,p1,b1⟩:Field),⟨n2,t2,1,e2,g2,p2,b2⟩,⟨n3,t3,2,e3,g3,p3,b3⟩,⟨n4,t4,3,e4,g4,p4,b4⟩]:Array Field).toList[i]?=some f->f.offset=i->P.underlying f.type=some (.int k)->P.cellsOf f.type=1->(xs.map (·.1))[i]?=some (.lit (.int k z))->cs[i]?=some (.int k z):=by
    intro i f k z hf ho hu h1 hz;obtain⟨b,hb,hfb⟩:=Lib.mapM_at hm i f hf;rw[h1,ho]at hfb;obtain⟨z',hz',rfl,_⟩:=DataW.trod_int hu hfb;have hc1:cs[i]?=some (.int k z'):=by
     have:=bE (·[0]?) hz';simpa[List.getElem?_take,List.getElem?_drop]using this
    have:(xs.map (·.1))[i]?=some (DataW.lit (.int k z'):DataW Unit):=by simp[hb]
    rw[hz]at this;cases this;exact hc1
   have q1:=get 0 _ k1 z1 rfl rfl u1 c1 (by rw[hxs];rfl);have q2:=get 1 _ k2 z2 rfl rfl u2 c2 (by rw[hxs];rfl);have q3:=get 2 _ k3 z3 rfl rfl u3 c3 (by rw[hxs];rfl);have q4:=get 3 _ k4 z4 rfl rfl u4 c4 (by rw[hxs];rfl);obtain⟨a,b,c,d,rfl⟩:∃a b c d,cs=[a,b,c,d]:=by
    match cs,hl with
    |[a,b,c,d],_=>exact⟨a,b,c,d,rfl⟩
   simp only[List.getElem?_cons_zero,List.getElem?_cons_succ,Option.some.injEq]at q1 q2 q3 q4;rw[q1,q2,q3,q4]
def yE:List (List Value):=[[.int .i64 0,.int .i64 999999,.int .i64 4,.int .u8 0],[.int .i64 0,.int .i64 25,.int .i64 4,.int .u8 0],[.int .i64 1,.int .i64 0,.int .i64 3,.int .u8 45],[.int .i64 2,.int .i64 0,.int .i64 1,.int .u8 43],[.int .i64 2,.int .i64 0,.int .i64 1,.int .u8 45],[.int .i64 2,.int .i64 0,.int .i64 2,.int .u8 42],[.int .i64 2,.int .i64 0,.int .i64 2,.int .u8 47],[.int .i64 2,.int .i64 0,.int .i64 3,.int .u8 94],[.int .i64 1,.int .i64 0,.int .i64 4,.int .u8 82],[.int .i64 2,.int .i64 0,.int .i64 0,.int .u8 61],[.int .i64 2,.int .i64 0,.int .i64 0,.int .u8 60]]
def F2:List Value->DataW Unit
 |[.int k1 z1,.int k2 z2,.int k3 z3,.int k4 z4]=>.agg [.lit (.int k1 z1),.lit (.int k2 z2),.lit (.int k3 z3),.lit (.int k4 z4)]
 |_=>.nil
theorem a5O:(Rows.laid_dactyl_formula_operations:DataW Unit) = .agg (yE.map F2):=by kernel_rfl
theorem a5N{w:World}{fuel:Nat}{cs:List Value}{p:List MemPlace}(h:DataW.trod (λ_=>()) Tryz.prog w 0 (λ_=>true) false fuel 107 cs=some (.agg (yE.map F2),p)):cs=yE.flatten:=by
 cases fuel with
 |zero=>simp[DataW.trod]at h
 |succ fuel=>
   have hu:Tryz.prog.underlying 107=some (.array 11 106):=by kernel_rfl
   have hc:Tryz.prog.cellsOf 107=44:=by kernel_rfl
   have hc':Tryz.prog.cellsOf 106=4:=by kernel_rfl
   simp only[DataW.trod,hu,hc,hc']at h;split at h
   case isFalse=>cases h
   rename_i hl;obtain⟨xs,hm,hx⟩:=cV.1 h;have hxs:xs.map (·.1)=yE.map F2:=by
    have:=bE Prod.fst hx;simpa using this
   refine chunks (k:=4) yE cs hl λi c hi=>?_
   have hi11:i<11:=(dC.1 hi).1;obtain⟨b,hb,hfb⟩:=Lib.mapM_at hm i i (by simp[hi11]);have hd:some b.1=some (F2 c):=by
    have h1:(xs.map (·.1))[i]?=some b.1:=by simp[hb]
    have h2:(yE.map F2)[i]?=some (F2 c):=by rw[List.getElem?_map,hi];rfl
    rw[hxs]at h1;rw[<-h1,h2]
   have hd:=fV hd;have hmem:c∈yE:=List.mem_iff_getElem?.2 ⟨i,hi⟩;have hs:∃k1 z1 k2 z2 k3 z3 k4 z4,c=[.int k1 z1,.int k2 z2,.int k3 z3,.int k4 z4]/\k1 = .i64/\k2 = .i64/\k3 = .i64/\k4 = .u8:=by
    simp only[yE,List.mem_cons,List.not_mem_nil,or_false]at hmem;rcases hmem with rfl|rfl|rfl|rfl|rfl|rfl|rfl|rfl|rfl|rfl|rfl <;> exact⟨_,_,_,_,_,_,_,_,rfl,rfl,rfl,rfl,rfl⟩
   obtain ⟨k1,z1,k2,z2,k3,z3,k4,z4,rfl,rfl,rfl,rfl,rfl⟩:=hs;obtain ⟨b1,b2⟩:=b;simp only at hd;subst hd;have h105 : Tryz.prog.underlying 106 = some (.struct #[⟨"kids", 3, 0, false, "", "dactyl/formula", 0⟩, ⟨"most", 3, 1, false, "", "dactyl/formula", 8⟩, ⟨"level", 3, 2, false, "", "dactyl/formula", 16⟩, ⟨"sign", 5, 3, false, "", "dactyl/formula", 24⟩]) := by kernel_rfl
   exact a5P (t:=106) (t1:=3) (t2:=3) (t3:=3) (t4:=5) h105 (by kernel_rfl) (by kernel_rfl) (by kernel_rfl) (by kernel_rfl) (by kernel_rfl) (by kernel_rfl) (by kernel_rfl) (by kernel_rfl) (by kernel_rfl) hfb
theorem QJ{w:World}{n:String}{g:Nat}{cs:Array Value}(hn:Tryz.prog.globalNamed n=some g)(h:w.var? Tryz.prog n=some cs):∀i u,cs[i]?=some u->w.cell? ⟨g,i,none⟩=some u:=λi u hu=>by
 unfold World.var? at h;rw[hn]at h;simp only[aMe]at h;split at h
 .rename_i hh
  simp only[World.cell?,hh];cases h;exact hu
 .cases h
theorem aJv{W:World}(h:laidMetH Tryz.prog J4 W):Bq W:=by
 rw[MakeChecks.laidMetH_plain _ _ _ (by kernel_rfl)]at h;obtain⟨ps,⟨_,_,_,_,_,_,_,_,_,_,⟨_,_,_,_,_,_,_,_,_,_,⟨g,t,cs,fuel,p,q,hg,ht,hv,hd,⟨_,_,_,_,_,_,_,_,_,_,⟨_,_,_,_,_,_,_,_,_,_,⟨g2,t2,cs2,fuel2,p2,q2,hg2,ht2,hv2,hd2,⟨g3,t3,cs3,fuel3,p3,q3,hg3,ht3,hv3,hd3,⟨g4,t4,cs4,fuel4,p4,q4,hg4,ht4,hv4,hd4,⟨g5,t5,cs5,fuel5,p5,q5,hg5,ht5,hv5,hd5,_,_⟩,_⟩,_⟩,_⟩,_⟩,_⟩,_⟩,_⟩,_⟩,_⟩:=h;obtain rfl:=fV (Zm.symm.trans hg);obtain rfl:=fV (aL8.symm.trans hg2);obtain rfl:=fV (aLa.symm.trans hg3);obtain rfl:=fV (aL9.symm.trans hg4);obtain rfl:=fV (aLb.symm.trans hg5);refine⟨?_,λg vs hgv i u hu=>?_⟩
 .obtain rfl:=fV ((show(Tryz.prog.globals[5]?).map (·.type)=some 136 by kernel_rfl).symm.trans ht)
  unfold Lib.TabIs;rw[a5C]at hd;rw[hv,<-Lib.cells_of_tab (n:=20) (by kernel_rfl:Tryz.prog.underlying 136=some (.array 20 125)) (by kernel_rfl:Tryz.prog.underlying 125=some (.int .u64)) (by kernel_rfl) (by kernel_rfl) hd]
 .obtain rfl:=fV ((show(Tryz.prog.globals[3]?).map (·.type)=some 107 by kernel_rfl).symm.trans ht2)
  obtain rfl:=fV ((show(Tryz.prog.globals[0]?).map (·.type)=some 81 by kernel_rfl).symm.trans ht3);obtain rfl:=fV ((show(Tryz.prog.globals[1]?).map (·.type)=some 82 by kernel_rfl).symm.trans ht4);obtain rfl:=fV ((show(Tryz.prog.globals[2]?).map (·.type)=some 81 by kernel_rfl).symm.trans ht5);rw[a5O]at hd2;rw[a8u]at hd3;rw[a8t]at hd4;rw[a8v]at hd5;have hcs:=a5N hd2;have hc3:=Lib.cells_of_tab (n:=10) (by kernel_rfl:Tryz.prog.underlying 81=some (.array 10 5)) (by kernel_rfl:Tryz.prog.underlying 5=some (.int .u8)) (by kernel_rfl) (by kernel_rfl) hd3;have hc4:=Lib.cells_of_tab (n:=26) (by kernel_rfl:Tryz.prog.underlying 82=some (.array 26 5)) (by kernel_rfl:Tryz.prog.underlying 5=some (.int .u8)) (by kernel_rfl) (by kernel_rfl) hd4;have hc5:=Lib.cells_of_tab (n:=10) (by kernel_rfl:Tryz.prog.underlying 81=some (.array 10 5)) (by kernel_rfl:Tryz.prog.underlying 5=some (.int .u8)) (by kernel_rfl) (by kernel_rfl) hd5;unfold vI at hgv;split at hgv
  .cases hgv
   refine QJ aLa hv3 i u ?_;rw[<-Fl,hc3];exact hu
  .cases hgv
   refine QJ aL9 hv4 i u ?_;rw[<-Fl,hc4];exact hu
  .cases hgv
   refine QJ aLb hv5 i u ?_;rw[<-Fl,hc5];exact hu
  .cases hgv
   refine QJ aL8 hv2 i u ?_;rw[<-Fl,hcs];exact hu
  .cases hgv
theorem a4D{W:World}(h:Bq W):CR W λ_=>False:=by
 intro w' hs hb;have hcell:∀g i u,W.cell? ⟨g,i,none⟩=some u->w'.cell? ⟨g,i,none⟩=some u:=λg i u hc=>by
  have hlt:g<W.heap.size:=World.block_lt_of_cell? W ⟨g,i,none⟩ hc;rw[World.cell?_of_block (a:=⟨g,i,none⟩) (hb g hlt (λh=>h))];exact hc
 refine⟨?_,λg vs hg i u hu=>hcell g i u (h.2 g vs hg i u hu)⟩;have h1:=h.1;have hlt:5<W.heap.size:=by
  unfold Lib.TabIs World.var? at h1;rw[Zm]at h1;simp only[aMe]at h1;split at h1
  .rename_i hh
   exact(lI.1 hh).1
  .cases h1
 unfold Lib.TabIs World.var? at *
 rw[Zm]at *
 simp only[aMe]at *
 rw[hb 5 hlt (λh=>h)];exact h1
end Go.Proofs.YtlhdefefoaldfaaGreatDoor
