/- What the functions of spatial and of its reference reckon. Conditions are in the theorems. -/
import Derived.Test.YtpmhkjnnolpknaaDoorF2
import Derived.IntWalk
import Derived.Test.YtpmhkjnnolpknaaDoorF3
open Bool renaming and_eq_true->bM,false_or->Dz,or_eq_true->kX
open Go.IntKind renaming i64->aA
open Int renaming mul_le_mul->HJ,mul_nonneg->Dv,tdiv_le_self->OU,tdiv_nonneg->OT,tmod_lt_of_pos->V8,tmod_nonneg->V7
open List renaming any_eq_true->nC,drop_eq_nil_of_le->fK,drop_zero->kJ,findIdx?->HG,getElem?_eq_getElem->bJ,getElem_mem->lF,length_cons->iG,sum_cons->BW
/- Small laws for what a run leaves to be shown. -/
namespace Go.Proofs
open Go Go.Ax Go.Ax.aB
theorem aW(x y:O):br true x y=x:=rfl
theorem aT(x y:O):br false x y=y:=rfl
theorem e9(x:O):ck true x=x:=rfl
theorem aL{b:Bool}(h:b=true)(x:O):ck b x=x:=by rw[h];rfl
theorem D3{α:Type}{l:List α}{n:Int}{y:α}(h0:0<=n)(h:l[n.toNat]?=some y)(k:α->O):gx l n k=k y:=by
 show D4 l n k=_;unfold D4;rw[aH (by omega),h]
theorem dA{α:Type}{l:List α}{i:Nat}{y:α}(h:l[i]?=some y)(k:α->O):gx l (i:Int) k=k y:=D3 (by omega) (by rw[Int.toNat_natCast];exact h) k
theorem kF{α:Type}{l:List α}{n:Nat}{y:α}(h:l[n]?=some y)(k:α->O):gn l n k=k y:=by
 show G5 l n k=_;unfold G5;rw[h]
theorem gK{α:Type}(x:α)(l:List α)(k:α->O):gx (x::l) 0 k=k x:=rfl
theorem kT{α:Type}(x y:α)(l:List α)(k:α->O):gx (x::y::l) 1 k=k y:=rfl
theorem aFi{α:Type}(x:α)(l:List α)(k:α->O):gn (x::l) 0 k=k x:=rfl
theorem U5{α:Type}(x y:α)(l:List α)(k:α->O):gn (x::y::l) 1 k=k y:=rfl
theorem o5{α:Type}(z:α)(l:List α)(n:Int)(k:α->O):gc true z l n k=gx l n k:=rfl
theorem lY{α:Type}(z:α)(l:List α)(n:Int)(k:α->O):gc false z l n k=k z:=rfl
theorem aZb{α:Type}{c:Bool}{z:α}{l:List α}{i:Nat}{y:α}(h:l[i]?=some y)(k:α->O):gc c z l (i:Int) k=k (if c then y else z):=by
 cases c
 .rfl
 .rw[o5,dA h];rfl
theorem wr{x:Int}(h1:-9223372036854775808<=x)(h2:x<=9223372036854775807):aA.wrap x=x:=IntWalk.i64_in x ⟨h1,h2⟩
def iH(x:Int):Prop:=-9223372036854775808<=x/\x<=9223372036854775807
theorem iS{α:Type}{l:List α}{i:Nat}{y:α}(h:l[i]?=some y):l.drop i=y::l.drop (i+1):=by
 obtain⟨hi,rfl⟩:=List.getElem?_eq_some_iff.1 h;exact List.drop_eq_getElem_cons hi
theorem q9{α:Type}{o:Option α}{x:α}(h:o=some x):o.isSome=true:=by rw[h];rfl
end Go.Proofs
/- What is known of each function once its outcome is. -/
namespace Go.Proofs
noncomputable section
open Go Go.Ax Go.Ax.aB Go.RowKit Go.Ab
theorem aQj{N:Nat}{a0:Int}{d:Bool}(h:AV N a0=some d):LB N a0=true:=by unfold LB;rw[h];rfl
theorem aQi{N:Nat}{a0:Int}{d:Bool}(h:AV N a0=some d):Kz N a0=d:=by unfold Kz;rw[h];rfl
theorem aCb{N:Nat}{n0:Int}{most1:Int}{d:Int}(h:vY N n0 most1=some d):j8 N n0 most1=true:=by unfold j8;rw[h];rfl
theorem aCa{N:Nat}{n0:Int}{most1:Int}{d:Int}(h:vY N n0 most1=some d):bK N n0 most1=d:=by unfold bK;rw[h];rfl
theorem LS{N:Nat}{l0:(List Int)}{i1:Int}{most2:Int}{d:Int}(h:qG N l0 i1 most2=some d):kN N l0 i1 most2=true:=by unfold kN;rw[h];rfl
theorem FK{N:Nat}{l0:(List Int)}{i1:Int}{most2:Int}{d:Int}(h:qG N l0 i1 most2=some d):fE N l0 i1 most2=d:=by unfold fE;rw[h];rfl
theorem aRc{N:Nat}{n0:Int}{d:Int}(h:vP N n0=some d):LR N n0=true:=by unfold LR;rw[h];rfl
theorem aRa{N:Nat}{n0:Int}{d:Int}(h:vP N n0=some d):FF N n0=d:=by unfold FF;rw[h];rfl
theorem aV9{N:Nat}{l0:(List Int)}{d:Int×(List Int)}(h:oP N l0=some d):Fe N l0=true:=by unfold Fe;rw[h];rfl
theorem aV7{N:Nat}{l0:(List Int)}{d:Int×(List Int)}(h:oP N l0=some d):iD N l0=d.1:=by unfold iD;rw[h];rfl
theorem aV6{N:Nat}{l0:(List Int)}{d:Int×(List Int)}(h:oP N l0=some d):iC N l0=d.2:=by unfold iC;rw[h];rfl
theorem SY{N:Nat}{s0_0:Int}{s0_1:(List Int)}{d:Int}(h:v8 N s0_0 s0_1=some d):Cg N s0_0 s0_1=true:=by unfold Cg;rw[h];rfl
theorem SX{N:Nat}{s0_0:Int}{s0_1:(List Int)}{d:Int}(h:v8 N s0_0 s0_1=some d):wA N s0_0 s0_1=d:=by unfold wA;rw[h];rfl
theorem aUk{N:Nat}{s0_0:Int}{s0_1:(List Int)}{d:(List Int)×Int}(h:sW N s0_0 s0_1=some d):MP N s0_0 s0_1=true:=by unfold MP;rw[h];rfl
theorem aUj{N:Nat}{s0_0:Int}{s0_1:(List Int)}{d:(List Int)×Int}(h:sW N s0_0 s0_1=some d):MM N s0_0 s0_1=d.1:=by unfold MM;rw[h];rfl
theorem aLi{N:Nat}{s0:(List Int)}{d:Int}(h:uQ N s0=some d):Ix N s0=true:=by unfold Ix;rw[h];rfl
theorem aLh{N:Nat}{s0:(List Int)}{d:Int}(h:uQ N s0=some d):Iv N s0=d:=by unfold Iv;rw[h];rfl
theorem aQs{N:Nat}{s0:(List Int)}{d:Bool}(h:vL N s0=some d):C1 N s0=true:=by unfold C1;rw[h];rfl
theorem aQr{N:Nat}{s0:(List Int)}{d:Bool}(h:vL N s0=some d):kZ N s0=d:=by unfold kZ;rw[h];rfl
theorem aUW{N:Nat}{s0_0:Int}{s0_1:(List Int)}{d:Int}(h:wC N s0_0 s0_1=some d):F7 N s0_0 s0_1=true:=by unfold F7;rw[h];rfl
theorem aUV{N:Nat}{s0_0:Int}{s0_1:(List Int)}{d:Int}(h:wC N s0_0 s0_1=some d):Ah N s0_0 s0_1=d:=by unfold Ah;rw[h];rfl
theorem aMU{N:Nat}{x0:(List Int)}{d:Int}(h:uW N x0=some d):JL N x0=true:=by unfold JL;rw[h];rfl
theorem aMT{N:Nat}{x0:(List Int)}{d:Int}(h:uW N x0=some d):Ed N x0=d:=by unfold Ed;rw[h];rfl
theorem sF{N:Nat}{n0:Int}{d:Int}(h:uX N n0=some d):nN N n0=true:=by unfold nN;rw[h];rfl
theorem sE{N:Nat}{n0:Int}{d:Int}(h:uX N n0=some d):bO N n0=d:=by unfold bO;rw[h];rfl
theorem aRZ{N:Nat}{s0_0:Int}{s0_1:(List Int)}{d:(List Int)}(h:vM N s0_0 s0_1=some d):C4 N s0_0 s0_1=true:=by unfold C4;rw[h];rfl
theorem aRY{N:Nat}{s0_0:Int}{s0_1:(List Int)}{d:(List Int)}(h:vM N s0_0 s0_1=some d):vN N s0_0 s0_1=d:=by unfold vN;rw[h];rfl
theorem uU{N:Nat}{n0:Int}{column1:Int}{d:Int}(h:uS N n0 column1=some d):oM N n0 column1=true:=by unfold oM;rw[h];rfl
theorem uT{N:Nat}{n0:Int}{column1:Int}{d:Int}(h:uS N n0 column1=some d):dP N n0 column1=d:=by unfold dP;rw[h];rfl
theorem aTm{N:Nat}{a0:(List Int)}{b1:(List Int)}{d:Bool}(h:vZ N a0 b1=some d):Cf N a0 b1=true:=by unfold Cf;rw[h];rfl
theorem aTl{N:Nat}{a0:(List Int)}{b1:(List Int)}{d:Bool}(h:vZ N a0 b1=some d):v7 N a0 b1=d:=by unfold v7;rw[h];rfl
theorem aVC{N:Nat}{s0_0:Int}{s0_1:(List Int)}{d:(List Int)×Int}(h:qM N s0_0 s0_1=some d):MT N s0_0 s0_1=true:=by unfold MT;rw[h];rfl
theorem aVA{N:Nat}{s0_0:Int}{s0_1:(List Int)}{d:(List Int)×Int}(h:qM N s0_0 s0_1=some d):wD N s0_0 s0_1=d.1:=by unfold wD;rw[h];rfl
theorem aUz{N:Nat}{s0_0:Int}{s0_1:(List Int)}{d:(List Int)×Int}(h:qM N s0_0 s0_1=some d):Fb N s0_0 s0_1=d.2:=by unfold Fb;rw[h];rfl
theorem Yg{N:Nat}{h50_0:Int}{h51_0:(List (List UInt8))}{d:Int×(List (List UInt8))}(h:p9 N h50_0 h51_0=some d):E9 N h50_0 h51_0=true:=by unfold E9;rw[h];rfl
theorem Yf{N:Nat}{h50_0:Int}{h51_0:(List (List UInt8))}{d:Int×(List (List UInt8))}(h:p9 N h50_0 h51_0=some d):zB N h50_0 h51_0=d.1:=by unfold zB;rw[h];rfl
theorem Ye{N:Nat}{h50_0:Int}{h51_0:(List (List UInt8))}{d:Int×(List (List UInt8))}(h:p9 N h50_0 h51_0=some d):zA N h50_0 h51_0=d.2:=by unfold zA;rw[h];rfl
theorem aIg{N:Nat}{k0:Int}{c1:UInt8}{h51_0:Int}{h52_0:Int}{h53_0:(List (List UInt8))}{d:Int×Int×(List (List UInt8))}(h:nG N k0 c1 h51_0 h52_0 h53_0=some d):Ho N k0 c1 h51_0 h52_0 h53_0=true:=by unfold Ho;rw[h];rfl
theorem aIe{N:Nat}{k0:Int}{c1:UInt8}{h51_0:Int}{h52_0:Int}{h53_0:(List (List UInt8))}{d:Int×Int×(List (List UInt8))}(h:nG N k0 c1 h51_0 h52_0 h53_0=some d):Hm N k0 c1 h51_0 h52_0 h53_0=d.1:=by unfold Hm;rw[h];rfl
theorem aId{N:Nat}{k0:Int}{c1:UInt8}{h51_0:Int}{h52_0:Int}{h53_0:(List (List UInt8))}{d:Int×Int×(List (List UInt8))}(h:nG N k0 c1 h51_0 h52_0 h53_0=some d):Hl N k0 c1 h51_0 h52_0 h53_0=d.2.1:=by unfold Hl;rw[h];rfl
theorem aIc{N:Nat}{k0:Int}{c1:UInt8}{h51_0:Int}{h52_0:Int}{h53_0:(List (List UInt8))}{d:Int×Int×(List (List UInt8))}(h:nG N k0 c1 h51_0 h52_0 h53_0=some d):Hk N k0 c1 h51_0 h52_0 h53_0=d.2.2:=by unfold Hk;rw[h];rfl
theorem Wl{N:Nat}{d:UInt8×UInt8×UInt8×UInt8×UInt8×UInt8×UInt8×UInt8×UInt8×UInt8}(h:gG N  = some d):EO N  = true:=by unfold EO;rw[h];rfl
theorem Wk{N:Nat}{d:UInt8×UInt8×UInt8×UInt8×UInt8×UInt8×UInt8×UInt8×UInt8×UInt8}(h:gG N  = some d):Bq N  = d.1:=by unfold Bq;rw[h];rfl
theorem Wi{N:Nat}{d:UInt8×UInt8×UInt8×UInt8×UInt8×UInt8×UInt8×UInt8×UInt8×UInt8}(h:gG N  = some d):Bp N  = d.2.1:=by unfold Bp;rw[h];rfl
theorem Wh{N:Nat}{d:UInt8×UInt8×UInt8×UInt8×UInt8×UInt8×UInt8×UInt8×UInt8×UInt8}(h:gG N  = some d):Bo N  = d.2.2.1:=by unfold Bo;rw[h];rfl
theorem Wg{N:Nat}{d:UInt8×UInt8×UInt8×UInt8×UInt8×UInt8×UInt8×UInt8×UInt8×UInt8}(h:gG N  = some d):Bn N  = d.2.2.2.1:=by unfold Bn;rw[h];rfl
theorem Wf{N:Nat}{d:UInt8×UInt8×UInt8×UInt8×UInt8×UInt8×UInt8×UInt8×UInt8×UInt8}(h:gG N  = some d):Bm N  = d.2.2.2.2.1:=by unfold Bm;rw[h];rfl
theorem We{N:Nat}{d:UInt8×UInt8×UInt8×UInt8×UInt8×UInt8×UInt8×UInt8×UInt8×UInt8}(h:gG N  = some d):Bl N  = d.2.2.2.2.2.1:=by unfold Bl;rw[h];rfl
theorem Wd{N:Nat}{d:UInt8×UInt8×UInt8×UInt8×UInt8×UInt8×UInt8×UInt8×UInt8×UInt8}(h:gG N  = some d):Bk N  = d.2.2.2.2.2.2.1:=by unfold Bk;rw[h];rfl
theorem Wc{N:Nat}{d:UInt8×UInt8×UInt8×UInt8×UInt8×UInt8×UInt8×UInt8×UInt8×UInt8}(h:gG N  = some d):Bj N  = d.2.2.2.2.2.2.2.1:=by unfold Bj;rw[h];rfl
theorem Wb{N:Nat}{d:UInt8×UInt8×UInt8×UInt8×UInt8×UInt8×UInt8×UInt8×UInt8×UInt8}(h:gG N  = some d):Bi N  = d.2.2.2.2.2.2.2.2.1:=by unfold Bi;rw[h];rfl
theorem Wa{N:Nat}{d:UInt8×UInt8×UInt8×UInt8×UInt8×UInt8×UInt8×UInt8×UInt8×UInt8}(h:gG N  = some d):Bh N  = d.2.2.2.2.2.2.2.2.2:=by unfold Bh;rw[h];rfl
theorem Pz{N:Nat}{n1:Int}{left2:Int}{h50_0:Int}{h51_0:(List (List UInt8))}{d:Int×(List (List UInt8))}(h:p7 N n1 left2 h50_0 h51_0=some d):CE N n1 left2 h50_0 h51_0=true:=by unfold CE;rw[h];rfl
theorem Py{N:Nat}{n1:Int}{left2:Int}{h50_0:Int}{h51_0:(List (List UInt8))}{d:Int×(List (List UInt8))}(h:p7 N n1 left2 h50_0 h51_0=some d):CD N n1 left2 h50_0 h51_0=d.1:=by unfold CD;rw[h];rfl
theorem Px{N:Nat}{n1:Int}{left2:Int}{h50_0:Int}{h51_0:(List (List UInt8))}{d:Int×(List (List UInt8))}(h:p7 N n1 left2 h50_0 h51_0=some d):p8 N n1 left2 h50_0 h51_0=d.2:=by unfold p8;rw[h];rfl
theorem oK{N:Nat}{n1:Int}{left2:Int}{h50_0:Int}{h51_0:(List (List UInt8))}{d:Int×(List (List UInt8))}(h:oI N n1 left2 h50_0 h51_0=some d):kM N n1 left2 h50_0 h51_0=true:=by unfold kM;rw[h];rfl
theorem r9{N:Nat}{n1:Int}{left2:Int}{h50_0:Int}{h51_0:(List (List UInt8))}{d:Int×(List (List UInt8))}(h:oI N n1 left2 h50_0 h51_0=some d):cU N n1 left2 h50_0 h51_0=d.1:=by unfold cU;rw[h];rfl
theorem oJ{N:Nat}{n1:Int}{left2:Int}{h50_0:Int}{h51_0:(List (List UInt8))}{d:Int×(List (List UInt8))}(h:oI N n1 left2 h50_0 h51_0=some d):cO N n1 left2 h50_0 h51_0=d.2:=by unfold cO;rw[h];rfl
theorem YW{N:Nat}{c1:UInt8}{h50_0:Int}{h51_0:(List (List UInt8))}{d:Int×(List (List UInt8))}(h:p6 N c1 h50_0 h51_0=some d):yX N c1 h50_0 h51_0=true:=by unfold yX;rw[h];rfl
theorem YV{N:Nat}{c1:UInt8}{h50_0:Int}{h51_0:(List (List UInt8))}{d:Int×(List (List UInt8))}(h:p6 N c1 h50_0 h51_0=some d):iN N c1 h50_0 h51_0=d.1:=by unfold iN;rw[h];rfl
theorem YU{N:Nat}{c1:UInt8}{h50_0:Int}{h51_0:(List (List UInt8))}{d:Int×(List (List UInt8))}(h:p6 N c1 h50_0 h51_0=some d):iM N c1 h50_0 h51_0=d.2:=by unfold iM;rw[h];rfl
theorem aIS{N:Nat}{x0:(List UInt8)}{count1:Int}{d:(List UInt8)}(h:uG N x0 count1=some d):Hd N x0 count1=true:=by unfold Hd;rw[h];rfl
theorem aIR{N:Nat}{x0:(List UInt8)}{count1:Int}{d:(List UInt8)}(h:uG N x0 count1=some d):EM N x0 count1=d:=by unfold EM;rw[h];rfl
theorem Ph{N:Nat}{h50_0:Int}{h51_0:(List (List UInt8))}{d:Int×(List (List UInt8))}(h:pZ N h50_0 h51_0=some d):uP N h50_0 h51_0=true:=by unfold uP;rw[h];rfl
theorem Pg{N:Nat}{h50_0:Int}{h51_0:(List (List UInt8))}{d:Int×(List (List UInt8))}(h:pZ N h50_0 h51_0=some d):nK N h50_0 h51_0=d.1:=by unfold nK;rw[h];rfl
theorem Pf{N:Nat}{h50_0:Int}{h51_0:(List (List UInt8))}{d:Int×(List (List UInt8))}(h:pZ N h50_0 h51_0=some d):nJ N h50_0 h51_0=d.2:=by unfold nJ;rw[h];rfl
theorem aBO{N:Nat}{s0_0:Int}{s0_1:(List Int)}{result1:Int}{d:(List (List UInt8))}(h:sP N s0_0 s0_1 result1=some d):FA N s0_0 s0_1 result1=true:=by unfold FA;rw[h];rfl
theorem aBN{N:Nat}{s0_0:Int}{s0_1:(List Int)}{result1:Int}{d:(List (List UInt8))}(h:sP N s0_0 s0_1 result1=some d):Ez N s0_0 s0_1 result1=d:=by unfold Ez;rw[h];rfl
theorem aQH{N:Nat}{s0_0:Int}{s0_1:(List Int)}{result1:Int}{d:(List (List UInt8))}(h:vI N s0_0 s0_1 result1=some d):Kk N s0_0 s0_1 result1=true:=by unfold Kk;rw[h];rfl
theorem aQF{N:Nat}{s0_0:Int}{s0_1:(List Int)}{result1:Int}{d:(List (List UInt8))}(h:vI N s0_0 s0_1 result1=some d):Kh N s0_0 s0_1 result1=d:=by unfold Kh;rw[h];rfl
theorem aPl{N:Nat}{s0_0:Int}{s0_1:(List Int)}{quotient1:Int}{d:(List (List UInt8))}(h:vG N s0_0 s0_1 quotient1=some d):Ke N s0_0 s0_1 quotient1=true:=by unfold Ke;rw[h];rfl
theorem aPj{N:Nat}{s0_0:Int}{s0_1:(List Int)}{quotient1:Int}{d:(List (List UInt8))}(h:vG N s0_0 s0_1 quotient1=some d):Kc N s0_0 s0_1 quotient1=d:=by unfold Kc;rw[h];rfl
theorem aT2{N:Nat}{s0_0:Int}{s0_1:(List Int)}{d:(List (List UInt8))×Int}(h:qL N s0_0 s0_1=some d):Ad N s0_0 s0_1=true:=by unfold Ad;rw[h];rfl
theorem aT1{N:Nat}{s0_0:Int}{s0_1:(List Int)}{d:(List (List UInt8))×Int}(h:qL N s0_0 s0_1=some d):jM N s0_0 s0_1=d.1:=by unfold jM;rw[h];rfl
theorem aT0{N:Nat}{s0_0:Int}{s0_1:(List Int)}{d:(List (List UInt8))×Int}(h:qL N s0_0 s0_1=some d):nS N s0_0 s0_1=d.2:=by unfold nS;rw[h];rfl
theorem Rm{N:Nat}{c0:UInt8}{d:UInt8}(h:vR N c0=some d):qI N c0=true:=by unfold qI;rw[h];rfl
theorem Rl{N:Nat}{c0:UInt8}{d:UInt8}(h:vR N c0=some d):dZ N c0=d:=by unfold dZ;rw[h];rfl
theorem aAi{N:Nat}{lines0:(List (List UInt8))}{d:(List (List UInt8))}(h:vE N lines0=some d):CY N lines0=true:=by unfold CY;rw[h];rfl
theorem aAh{N:Nat}{lines0:(List (List UInt8))}{d:(List (List UInt8))}(h:vE N lines0=some d):vF N lines0=d:=by unfold vF;rw[h];rfl
theorem EJ{N:Nat}{c0:UInt8}{n1:Int}{d:(List UInt8)}(h:uC N c0 n1=some d):uD N c0 n1=true:=by unfold uD;rw[h];rfl
theorem EI{N:Nat}{c0:UInt8}{n1:Int}{d:(List UInt8)}(h:uC N c0 n1=some d):mA N c0 n1=d:=by unfold mA;rw[h];rfl
theorem pU{N:Nat}{s0:(List UInt8)}{width1:Int}{left2:Int}{d:(List UInt8)}(h:uF N s0 width1 left2=some d):mB N s0 width1 left2=true:=by unfold mB;rw[h];rfl
theorem pT{N:Nat}{s0:(List UInt8)}{width1:Int}{left2:Int}{d:(List UInt8)}(h:uF N s0 width1 left2=some d):gX N s0 width1 left2=d:=by unfold gX;rw[h];rfl
theorem Og{N:Nat}{line0:(List UInt8)}{sign1:(List UInt8)}{d:(List UInt8)}(h:uE N line0 sign1=some d):Bd N line0 sign1=true:=by unfold Bd;rw[h];rfl
theorem Of{N:Nat}{line0:(List UInt8)}{sign1:(List UInt8)}{d:(List UInt8)}(h:uE N line0 sign1=some d):yB N line0 sign1=d:=by unfold yB;rw[h];rfl
theorem aKl{N:Nat}{a0:Int}{b1:Int}{d:(List (List UInt8))}(h:uN N a0 b1=some d):Ie N a0 b1=true:=by unfold Ie;rw[h];rfl
theorem aKk{N:Nat}{a0:Int}{b1:Int}{d:(List (List UInt8))}(h:uN N a0 b1=some d):Ia N a0 b1=d:=by unfold Ia;rw[h];rfl
theorem aK1{N:Nat}{a0:Int}{b1:Int}{d:(List (List UInt8))}(h:uM N a0 b1=some d):I8 N a0 b1=true:=by unfold I8;rw[h];rfl
theorem aKZ{N:Nat}{a0:Int}{b1:Int}{d:(List (List UInt8))}(h:uM N a0 b1=some d):I6 N a0 b1=d:=by unfold I6;rw[h];rfl
theorem aKJ{N:Nat}{s0_0:Int}{s0_1:(List Int)}{result1:Int}{d:(List (List UInt8))}(h:rZ N s0_0 s0_1 result1=some d):IV N s0_0 s0_1 result1=true:=by unfold IV;rw[h];rfl
theorem aKH{N:Nat}{s0_0:Int}{s0_1:(List Int)}{result1:Int}{d:(List (List UInt8))}(h:rZ N s0_0 s0_1 result1=some d):IQ N s0_0 s0_1 result1=d:=by unfold IQ;rw[h];rfl
theorem aA7{N:Nat}{s0_0:Int}{s0_1:(List Int)}{d:(List (List UInt8))}(h:vC N s0_0 s0_1=some d):Et N s0_0 s0_1=true:=by unfold Et;rw[h];rfl
theorem aA6{N:Nat}{s0_0:Int}{s0_1:(List Int)}{d:(List (List UInt8))}(h:vC N s0_0 s0_1=some d):vD N s0_0 s0_1=d:=by unfold vD;rw[h];rfl
theorem aVV(N:Nat)(a0:(List Int))(a1:Int)(a2:Int)(a3:Int)(k0:(List Int)->Int->Int->Int->O):Sh N a0 a1 a2 a3 k0=M7 N  k0 a0 a1 a2 a3:=rfl
theorem aVU(N:Nat)(a0:Int)(a1:Int)(a2:(List Int))(k0:Int->Int->(List Int)->O):Cl N a0 a1 a2 k0=M5 N  k0 a0 a1 a2:=rfl
theorem aUN(N:Nat)(a0:Int)(a1:Int)(a2:Int)(a3:Int)(a4:(List Int))(k0:Int->Int->Bool->Int->(List Int)->O):F8 N a0 a1 a2 a3 a4 k0=ML N  k0 a0 a1 a2 a3 a4:=rfl
theorem aUM(N:Nat)(a0:Int)(a1:Int)(a2:Int)(a3:(List Int))(k0:Int->O)(k1:Int->Int->(List Int)->O):S2 N a0 a1 a2 a3 k0 k1=MK N (F8 N)  k0 k1 a0 a1 a2 a3:=rfl
theorem aMM(N:Nat)(a0:(List Int))(a1:Int)(k0:(List Int)->Int->O):QQ N a0 a1 k0=JR N  k0 a0 a1:=rfl
theorem aJz(N:Nat)(a0:Int)(a1:Int)(a2:Int)(a3:Int)(a4:(List Int))(a5:Int)(a6:Bool)(a7:(List Int))(a8:Int)(a9:Int)(a10:Int)(a11:(List UInt8))(a12:Int)(a13:(List UInt8))(a14:(List UInt8))(a15:Int)(a16:(List Int))(a17:(List (List UInt8)))(k0:Int->Int->Int->Int->(List Int)->Int->Bool->(List Int)->Int->Int->Int->(List UInt8)->Int->(List UInt8)->(List UInt8)->Int->(List Int)->Int->Int->Bool->Bool->Bool->Int->(List Int)->(List (List UInt8))->O):IW N a0 a1 a2 a3 a4 a5 a6 a7 a8 a9 a10 a11 a12 a13 a14 a15 a16 a17 k0=I4 N  k0 a0 a1 a2 a3 a4 a5 a6 a7 a8 a9 a10 a11 a12 a13 a14 a15 a16 a17:=rfl
end
end Go.Proofs
/- What the functions of spatial and of its reference reckon: valid calculations and results. -/
namespace Go.Proofs
open Go Go.Ax Go.Ax.aB
abbrev W:=aA.wrap
def pD(n m:Int):Int:=if m<1 then 0 else if n<0 then(-(n+1)).tmod m else n.tmod m
theorem Gu{n m:Int}(hm:1<=m):0<=pD n m/\pD n m<m:=by
 unfold pD;rw[aH (by omega)];split
 .exact⟨V7 _ (by omega),V8 _ (by omega)⟩
 .exact⟨V7 _ (by omega),V8 _ (by omega)⟩
theorem Lk(N:Nat){n m:Int}(hn:iH n):vY N n m=some (pD n m):=by
 obtain⟨h1,h2⟩:=hn;unfold vY w25 SE pD;by_cases hm:m<1
 .by_cases h0:n<0 <;> simp[hm,h0,aW,aT] <;> rfl
 .have hm0:m≠0:=by omega
  by_cases h0:n<0
  .have e1:aA.wrap (n+1)=n+1:=wr (by omega) (by omega)
   have e2:aA.wrap (-(n+1)) = -(n+1):=wr (by omega) (by omega);simp only[hm,h0,hm0,tI,decide_false,aW,aT,e1,e2,fY,lX,ne_eq,not_false_eq_true,e9];rfl
  .simp only[hm,h0,hm0,tI,decide_false,aT,lX,ne_eq,not_false_eq_true,e9]
   rfl
theorem Li(N:Nat){n m:Int}(hn:iH n):j8 N n m=true:=q9 (Lk N hn)
theorem Lh(N:Nat){n m:Int}(hn:iH n):bK N n m=pD n m:=by unfold bK;rw[Lk N hn];rfl
def bad(x:Int):Bool:=decide (x<0)||decide (999999<x)
theorem aBZ(N:Nat)(x:Int):AV N x=some (bad x):=rfl
theorem Yo(N:Nat)(s:List Int)(hs:s.length<4611686018427387904)(x1:Int)(k0 k1:Int->O)(k2:Unit->O):∀(n i:Nat),s.length-i<n->i<=s.length->
    uR N n (s,x1,s.length,i) k0 k1 k2=match(s.drop i).findIdx? bad with|some j=>k0 ((i+j:Nat):Int)|none=>k1 x1
 |0,i,h,_=>by omega
 |n+1,i,h,hi=>by
   show JA N _ _ _ s x1 s.length i=_;unfold JA;by_cases hlt:i<s.length
   .have hg:s[i]?=some s[i]:=bJ hlt
    have e:aA.wrap ((i:Int)+1)=((i+1:Nat):Int):=by rw[wr (by omega) (by omega)];omega
    have hd:decide ((i:Int)<(s.length:Int))=true:=aO (by omega);rw[hd,aW,dA hg,aL (aQj (aBZ N _)),iS hg,List.findIdx?_cons,aQi (aBZ N _)];cases hb:bad s[i]with
    |true=>rw[aW];rfl
    |false=>
      rw[aT,e];have:=Yo N s hs x1 k0 k1 k2 n (i+1) (by omega) (by omega);simp only[this];cases HG bad (List.drop (i+1) s)with
      |none=>rfl
      |some j=>simp only[Bool.false_eq_true,lX,Option.map_some];rw[show i+1+j=i+(j+1)by omega]
   .have hd:decide ((i:Int)<(s.length:Int))=false:=bA (by omega)
    rw[hd,aT,fK (by omega)];rfl
theorem aQt{N:Nat}{s:List Int}(hs:s.length<4611686018427387904)(hN:s.length<N):vL N s=some (s.any bad):=by
 have h:=Yo N s hs 0 (λz4=>some (sB z4)) (λ_=>some (sB (-1))) (λ_=>none) N 0 (by omega) (by omega);have h1:uQ N s=some (match s.findIdx? bad with|some j=>(j:Int)|none=>-1):=by
  unfold uQ;rw[show Yq N s=uR N N (s,0,s.length,(0:Nat)) (λz4=>some (sB z4)) (λ_=>some (sB (-1))) (λ_=>none)from rfl,h];rw[kJ];cases HG bad s with
  |none=>rfl
  |some j=>simp only[Nat.zero_add];rfl
 unfold vL w39 R4;rw[aL (aLi h1),aLh h1];have h3:(HG bad s).isSome=s.any bad:=List.findIdx?_isSome;rw[<-h3];cases hj:HG bad s with
 |none=>rfl
 |some j=>
   have:decide (0<=(j:Int))=true:=aO (by omega);simp only[this];rfl
def lU(op:Int)(a:List Int):Int:=if a.any bad||(decide (op=4)&&decide (a.getD 0 0<a.getD 1 0))||(decide (op=6)&&decide (a.getD 1 0=0))then 5 else 0
def fS(op:Int)(a:List Int):Int:=if op=3 then(if a.length<2\/8<a.length then 1 else lU op a)else if op=4\/op=5\/op=6 then(if a.length≠2 then 1 else lU op a)else 1
theorem jN{a:List Int}(h:2<=a.length):∃x y r,a=x::y::r:=by
 match a,h with
 |x::y::r,_=>exact⟨x,y,r,rfl⟩
theorem aDR{N:Nat}{op:Int}{a:List Int}(h2:2<=a.length)(hs:a.length<4611686018427387904)(hN:a.length<N):
    (ck (C1 N a)<|
     gc (!kZ N a&&decide (op=4)) (0) a (0) λy23=>
     gc (!kZ N a&&decide (op=4)) (0) a (1) λy24=>
     gc (!(kZ N a||decide (op=4)&&decide (y23<y24))&&decide (op=6)) (0) a (1) λy25=>
     br (kZ N a||decide (op=4)&&decide (y23<y24)||decide (op=6)&&decide (y25=0))
      (some (mD (5)))
      (some (mD (0))))=some (mD (lU op a)):=by
 obtain⟨x,y,r,rfl⟩:=jN h2;have h39:=aQt hs hN;rw[aL (aQs h39),aQr h39];unfold lU;cases(x::y::r).any bad
 .by_cases h4:op=4
  .subst h4
   simp only[Bool.not_false,tI,Bool.and_true,o5,gK,kT,Dz,Bool.true_and];by_cases hlt:x<y
   .simp[hlt,lY,aW]
   .simp[hlt,lY,aT]
  .by_cases h6:op=6
   .subst h6
    by_cases hy0:y=0
    .simp[hy0,lY,o5,kT,aW]
    .simp[hy0,lY,o5,kT,aT]
   .simp[h4,h6,lY,aT]
 .simp[lY,aW]
theorem aUX{N:Nat}{op:Int}{a:List Int}(hs:a.length<4611686018427387904)(hN:a.length<N):wC N op a=some (fS op a):=by
 unfold wC w17 S6;rw[aUM];unfold MK fS;by_cases h3:op=3
 .subst h3
  by_cases hl:a.length<2\/8<a.length
  .have:(decide ((a.length:Int)<2)||decide (8<(a.length:Int)))=true:=by simp;omega
   simp only[tI,aW,this,hl,fY];rfl
  .have:(decide ((a.length:Int)<2)||decide (8<(a.length:Int)))=false:=by simp;omega
   simp only[tI,aW,this,aT,hl,fY,lX];rw[aDR (by omega) hs hN];rfl
 .have hd:decide (op=3)=false:=bA h3
  rw[hd,aT,aH h3];have fin:∀(b:Bool),(br b (br (decide ((a.length:Int)≠2)) (some (mD 1)) (ck (C1 N a)<|
   gc (!kZ N a&&decide (op=4)) (0) a (0) λy23=>
   gc (!kZ N a&&decide (op=4)) (0) a (1) λy24=>
   gc (!(kZ N a||decide (op=4)&&decide (y23<y24))&&decide (op=6)) (0) a (1) λy25=>
   br (kZ N a||decide (op=4)&&decide (y23<y24)||decide (op=6)&&decide (y25=0))
    (some (mD (5)))
    (some (mD (0))))) (some (mD 1))).bind MB=some (if b then(if a.length≠2 then 1 else lU op a)else 1):=λb=>by
   cases b with
   |false=>rfl
   |true=>
     rw[aW];by_cases hl:a.length=2
     .have:decide ((a.length:Int)≠2)=false:=by simp;omega
      rw[this,aT,aDR (by omega) hs hN];simp[hl];rfl
     .have:decide ((a.length:Int)≠2)=true:=by simp;omega
      rw[this,aW];simp[hl];rfl
  rw[aUN];unfold ML;by_cases h4:op=4
  .rw[show decide (op=4)=true from aO h4,aW]
   rw[aJ (.inl h4)];exact fin true
  .rw[show decide (op=4)=false from bA h4,aT]
   by_cases h5:op=5
   .rw[show decide (op=5)=true from aO h5,aW,aJ (.inr (.inl h5))]
    exact fin true
   .rw[show decide (op=5)=false from bA h5,aT]
    by_cases h6:op=6
    .rw[show decide (op=6)=true from aO h6,aJ (.inr (.inr h6))]
     exact fin true
    .rw[show decide (op=6)=false from bA h6,aH (by omega)]
     rfl
end Go.Proofs
/- What the functions of spatial and of its reference reckon: results. -/
namespace Go.Proofs
open Go Go.Ax Go.Ax.aB
theorem aDK(N:Nat)(a:List Int)(hs:a.length<4611686018427387904)(x0 op:Int)(k0:Int->O)(k1:Int×Int×List Int->O)(k2:Unit->O):∀(n i:Nat),a.length-i<n->i<=a.length->
    wB N n (x0,a.length,i,op,a) k0 k1 k2=if(a.drop i).any bad then k0 5 else k1 (x0,op,a)
 |0,i,h,_=>by omega
 |n+1,i,h,hi=>by
   show MA N _ _ _ x0 a.length op a i=_;unfold MA;by_cases hlt:i<a.length
   .have hg:a[i]?=some a[i]:=bJ hlt
    have e:aA.wrap ((i:Int)+1)=((i+1:Nat):Int):=by rw[wr (by omega) (by omega)];omega
    have hd:decide ((i:Int)<(a.length:Int))=true:=aO (by omega);rw[hd,aW,dA hg,aZb hg,iS hg,List.any_cons];have hb:(decide (a[i]<0)||decide (999999<if(!decide (a[i]<0))=true then a[i]else 0))=bad a[i]:=by
     unfold bad;by_cases h0:a[i]<0 <;> simp[h0]
    rw[hb];cases bad a[i]with
    |true=>rw[aW];rfl
    |false=>
      rw[aT,e,Dz];exact aDK N a hs x0 op k0 k1 k2 n (i+1) (by omega) (by omega)
   .have hd:decide ((i:Int)<(a.length:Int))=false:=bA (by omega)
    rw[hd,aT,fK (by omega)];rfl
theorem SZ{N:Nat}{op:Int}{a:List Int}(hs:a.length<4611686018427387904)(hN:a.length<N):v8 N op a=some (fS op a):=by
 unfold v8 w18 S0 fS;by_cases hA:(op=3/\(a.length<2\/8<a.length))\/(op≠3/\a.length≠2)
 .have:(decide (op=3)&&(decide ((a.length:Int)<2)||decide (8<(a.length:Int)))||decide (op≠3)&&decide ((a.length:Int)≠2))=true:=by simp;omega
  rw[this,aW];rcases hA with⟨h1,h2⟩|⟨h1,h2⟩
  .rw[aJ h1,aJ h2];rfl
  .rw[aH h1,aJ h2]
   simp;rfl
 .have:(decide (op=3)&&(decide ((a.length:Int)<2)||decide (8<(a.length:Int)))||decide (op≠3)&&decide ((a.length:Int)≠2))=false:=by simp;omega
  rw[this,aT];by_cases hB:op≠3/\op≠4/\op≠5/\op≠6
  .have:(decide (op≠3)&&decide (op≠4)&&decide (op≠5)&&decide (op≠6))=true:=by simp;omega
   rw[this,aW,aH hB.1,aH (by omega)];rfl
  .have:(decide (op≠3)&&decide (op≠4)&&decide (op≠5)&&decide (op≠6))=false:=by simp;omega
   rw[this,aT];have hv:(if op=3 then(if a.length<2\/8<a.length then 1 else lU op a)else if op=4\/op=5\/op=6 then(if a.length≠2 then 1 else lU op a)else 1)=lU op a:=by
    by_cases h3:op=3
    .rw[aJ h3,aH (by omega)]
    .rw[aH h3,aJ (by omega),aH (by omega)]
   rw[hv];have h2:2<=a.length:=by omega
   have hl:=aDK N a hs 0 op (λz7=>some (lP z7)) (λy=>gc (decide (y.2.1=4)) 0 y.2.2 0 λy11=>gc (decide (y.2.1=4)) 0 y.2.2 1 λy12=>gc (!(decide (y.2.1=4)&&decide (y11<y12))&&decide (y.2.1=6)) 0 y.2.2 1 λy13=>
       br (decide (y.2.1=4)&&decide (y11<y12)||decide (y.2.1=6)&&decide (y13=0)) (some (lP 5)) (some (lP 0))) (λ_=>none) N 0 (by omega) (by omega)
   rw[kJ]at hl;show(wB N N (0,a.length,((0:Nat):Int),op,a) _ _ _).bind _=_;have key:∀z:O,z=(if a.any bad=true then some (lP 5)else gc (decide (op=4)) 0 a 0 λy11=>gc (decide (op=4)) 0 a 1 λy12=>gc (!(decide (op=4)&&decide (y11<y12))&&decide (op=6)) 0 a 1 λy13=>
       br (decide (op=4)&&decide (y11<y12)||decide (op=6)&&decide (y13=0)) (some (lP 5)) (some (lP 0)))->z.bind Lv=some (lU op a):=by
    rintro z rfl;unfold lU;obtain⟨x,y,r,rfl⟩:=jN h2;cases(x::y::r).any bad
    .by_cases h4:op=4
     .subst h4
      by_cases hlt:x<y
      .simp[hlt,lY,o5,gK,kT,aW];rfl
      .simp[hlt,lY,o5,gK,kT,aT];rfl
     .by_cases h6:op=6
      .subst h6
       by_cases hy0:y=0
       .simp[hy0,lY,o5,kT,aW];rfl
       .simp[hy0,lY,o5,kT,aT];rfl
      .simp[h4,h6,lY,aT];rfl
    .rfl
   exact key _ hl
def eW(op:Int)(a:List Int):List Int:=if op=3 then[a.sum]else if op=4 then[a.getD 0 0-a.getD 1 0]else if op=5 then[a.getD 0 0*a.getD 1 0]else[(a.getD 0 0).tdiv (a.getD 1 0),(a.getD 0 0).tmod (a.getD 1 0)]
def DD(op:Int)(a:List Int):List Int×Int:=if fS op a=0 then(eW op a,0)else([],fS op a)
structure gN(op:Int)(a:List Int):Prop where
 two:2<=a.length
 eight:a.length<=8
 pair:op≠3->a.length=2
 Av:op=3\/op=4\/op=5\/op=6
 all:∀x∈a,0<=x/\x<=999999
 sub:op=4->a.getD 1 0<=a.getD 0 0
 BE:op=6->a.getD 1 0≠0
theorem wF{op:Int}{a:List Int}(h:fS op a=0):gN op a:=by
 unfold fS at h;have hr:(op=3/\2<=a.length/\a.length<=8\/(op=4\/op=5\/op=6)/\a.length=2)/\lU op a=0:=by
  by_cases h3:op=3
  .rw[aJ h3]at h
   split at h
   .cases h
   .exact⟨.inl ⟨h3,by omega,by omega⟩,h⟩
  .rw[aH h3]at h
   split at h
   .rename_i h4
    split at h
    .cases h
    .exact⟨.inr ⟨h4,by omega⟩,h⟩
   .cases h
 obtain⟨hl,hr⟩:=hr;unfold lU at hr;split at hr
 .cases hr
 rename_i hb;simp only[kX,not_or,bM,hJ,not_and]at hb;obtain⟨⟨h1,h2⟩,h3⟩:=hb;refine⟨by omega,by omega,λh=>by omega,by omega,λx hx=>?_,λh=>Int.not_lt.1 (h2 h),λh=>h3 h⟩;have:bad x=false:=by
  cases hbx:bad x with
  |false=>rfl
  |true=>exact absurd (nC.2 ⟨x,hx,hbx⟩) h1
 unfold bad at this;simp at this;omega
theorem aFD{op:Int}{a:List Int}(h:gN op a):fS op a=0:=by
 have hr:lU op a=0:=by
  unfold lU;rw[aH];simp only[kX,not_or,bM,hJ,not_and];refine⟨⟨λhb=>?_,λh4=>Int.not_lt.2 (h.sub h4)⟩,λh6=>h.BE h6⟩;obtain⟨x,hx,hbx⟩:=nC.1 hb;have:=h.all x hx;unfold bad at hbx;simp at hbx;omega
 unfold fS;rw[hr];have h1:=h.two;have h2:=h.eight;by_cases h3:op=3
 .rw[aJ h3,aH (by omega)]
 .rw[aH h3,aJ (by have:=h.Av;omega),aH (by have:=h.pair h3;omega)]
theorem aEE:∀{a:List Int},(∀x∈a,0<=x/\x<=999999)->0<=a.sum/\a.sum<=999999*a.length
 |[],_=>by simp
 |x::a,h=>by
   have h1:=h x (by simp);have h2:=aEE (a:=a) λy hy=>h y (by simp[hy])
   rw[BW,iG];omega
theorem aD9(N:Nat)(l a:List Int)(h8:l.length<=100)(hall:∀x∈l,0<=x/\x<=999999)(x0:Int)(k0:Int×List Int->O)(k1:Int×Int->O)(k2:Unit->O):∀(n i:Nat)(acc:Int),l.length-i<n->i<=l.length->0<=acc->acc<=1000000000000-999999*((l.length-i:Nat):Int)->
    wE N n (x0,acc,l,l.length,i,3,a) k0 k1 k2=k1 (x0,acc+(l.drop i).sum)
 |0,i,_,h,_,_,_=>by omega
 |n+1,i,acc,h,hi,ha0,ha1=>by
   show Am N _ _ _ x0 l l.length 3 a acc i=_;unfold Am;by_cases hlt:i<l.length
   .have hg:l[i]?=some l[i]:=bJ hlt
    have hx:=hall l[i] (lF hlt);have e:aA.wrap ((i:Int)+1)=((i+1:Nat):Int):=by rw[wr (by omega) (by omega)];omega
    have e2:aA.wrap (acc+l[i])=acc+l[i]:=wr (by omega) (by omega);have hd:decide ((i:Int)<(l.length:Int))=true:=aO (by omega);rw[hd,aW,dA hg,show decide ((3:Int)=3)=true from rfl,aW,e,e2,iS hg,BW];have:=aD9 N l a h8 hall x0 k0 k1 k2 n (i+1) (acc+l[i]) (by omega) (by omega) (by omega) (by omega);rw[Int.add_assoc]at this;exact this
   .have hd:decide ((i:Int)<(l.length:Int))=false:=bA (by omega)
    rw[hd,aT,fK (by omega)];simp
theorem aVB(N n:Nat)(x0 x y:Int)(op:Int)(a:List Int)(hop:op=4\/op=5\/op=6)(hx:0<=x/\x<=999999)(hy:0<=y/\y<=999999)(h6:op=6->y≠0)(k0:Int×List Int->O)(k1:Int×Int->O)(k2:Unit->O):
    wE N (n+2) (x0,x,[y],1,0,op,a) k0 k1 k2=if op=4 then k1 (x0,x-y)else if op=5 then k1 (x0,x*y)else k0 (0,[x.tdiv y,x.tmod y]):=by
 show Am N (λv0 v1=>Am N _ _ _ x0 [y] 1 op a v0 v1) _ _ x0 [y] 1 op a x 0=_;unfold Am;have e1:aA.wrap (1:Int)=1:=by decide
 have hb:0<=x*y/\x*y<=999999*999999:=⟨Dv hx.1 hy.1,HJ hx.2 hy.2 hy.1 (by omega)⟩;have h1:¬ (1:Int)<1:=by omega
 rcases hop with rfl|rfl|rfl
 .have e2:aA.wrap (x-y)=x-y:=wr (by omega) (by omega)
  simp[aW,aT,gK,e1,e2]
 .have e2:aA.wrap (x*y)=x*y:=wr (by omega) (by omega)
  simp[aW,aT,gK,e1,e2]
 .have hy0:=h6 rfl
  have hq:0<=x.tdiv y/\x.tdiv y<=x:=⟨OT hx.1 hy.1,OU _ hx.1⟩;have e2:aA.wrap (x.tdiv y)=x.tdiv y:=wr (by omega) (by omega);simp[aW,aT,gK,e2,hy0,e9]
theorem aVD{N:Nat}{op:Int}{a:List Int}(hs:a.length<4611686018427387904)(hN:a.length+2<N):qM N op a=some (DD op a):=by
 unfold qM w13 Se DD;have h17:=aUX (N:=N) (op:=op) hs (by omega);rw[aL (aUW h17),aUV h17];by_cases hv:fS op a=0
 .have V:=wF hv
  rw[aJ hv,hv,show decide ((0:Int)≠0)=false from rfl,aT];obtain⟨x,y,r,rfl⟩:=jN V.two;have hx:=V.all x (by simp);have hy:=V.all y (by simp);have hr8:=V.eight;have hsl:bW (x::y::r) (some 1) none=y::r:=rfl;rw[gK,hsl];have hck:dX (x::y::r).length (some 1) none=true:=by
   show decide ((0:Int)<=1/\(1:Int)<=((x::y::r).length:Nat))=true;apply aO;simp only[iG];omega
  rw[aL hck];unfold eW;by_cases h3:op=3
  .subst h3
   have hl:=aD9 N (y::r) (x::y::r) (by simp at hr8 ⊢;omega) (λz hz=>V.all z (by simp at hz ⊢;exact .inr hz)) 0 (λy=>some (qN y.2 y.1)) (λy=>some (qN [y.2] 0)) (λ_=>none) N 0 x (by simp at hN ⊢;omega) (by omega) hx.1 (by simp at hr8 ⊢;omega);rw[aJ rfl];refine(aY (λz:O=>z.bind Fc) hl).trans ?_;rfl
  .obtain⟨m,rfl⟩:∃m,N=m+2:=⟨N-2,by omega⟩
   have hlen:=V.pair h3;have hr:r=[]:=by
    simp at hlen;exact hlen
   subst hr;have hop:op=4\/op=5\/op=6:=by have:=V.Av;omega
   have hl:=aVB (m+2) m 0 x y op [x,y] hop hx hy (λh=>V.BE h) (λy=>some (qN y.2 y.1)) (λy=>some (qN [y.2] 0)) (λ_=>none);refine(aY (λz:O=>z.bind Fc) hl).trans ?_;rw[aH h3];by_cases h4:op=4
   .rw[aJ h4,aJ h4];rfl
   .rw[aH h4,aH h4]
    by_cases h5:op=5
    .rw[aJ h5,aJ h5];rfl
    .rw[aH h5,aH h5];rfl
 .rw[aH hv,show decide (fS op a≠0)=true from aO hv,aW]
  rfl
theorem aD2(N:Nat)(a:List Int)(h8:a.length<=100)(hall:∀x∈a,0<=x/\x<=999999)(x0 op:Int)(k0:Int×Int×Int×List Int->O)(k1 k2:Unit->O):∀(n i:Nat)(acc:Int),a.length-i<n->i<=a.length->0<=acc->acc<=1000000000000-999999*((a.length-i:Nat):Int)->
    Aj N n (x0,acc,i,op,a) k0 k1 k2=k0 (x0,acc+(a.drop i).sum,op,a)
 |0,i,_,h,_,_,_=>by omega
 |n+1,i,acc,h,hi,ha0,ha1=>by
   show MR N _ _ x0 op a acc i=_;unfold MR;by_cases hlt:i<a.length
   .have hg:a[i]?=some a[i]:=bJ hlt
    have hx:=hall a[i] (lF hlt);have e:aA.wrap ((i:Int)+1)=((i+1:Nat):Int):=by rw[wr (by omega) (by omega)];omega
    have e2:aA.wrap (acc+a[i])=acc+a[i]:=wr (by omega) (by omega);have hd:decide ((i:Int)<(a.length:Int))=true:=aO (by omega);rw[hd,aW,dA hg,e,e2,iS hg,BW];have:=aD2 N a h8 hall x0 op k0 k1 k2 n (i+1) (acc+a[i]) (by omega) (by omega) (by omega) (by omega);rw[Int.add_assoc]at this;exact this
   .have hd:decide ((i:Int)<(a.length:Int))=false:=bA (by omega)
    rw[hd,aT,fK (by omega)];simp
theorem aUl{N:Nat}{op:Int}{a:List Int}(hs:a.length<4611686018427387904)(hN:a.length+2<N):sW N op a=some (DD op a):=by
 unfold sW w14 Sb DD;have h18:=SZ (N:=N) (op:=op) hs (by omega);rw[aL (SY h18),SX h18];by_cases hv:fS op a=0
 .have V:=wF hv
  rw[aJ hv,hv,show decide ((0:Int)≠0)=false from rfl,aT];unfold eW;by_cases h3:op=3
  .subst h3
   have hr8:=V.eight;have hl:=aD2 N a (by omega) V.all 0 3 (λy=>some (sX [y.2.1] 0)) (λ_=>none) (λ_=>none) N 0 0 (by omega) (by omega) (by omega) (by omega);rw[aJ rfl,show decide ((3:Int)=3)=true from rfl,aW];refine(aY (λz:O=>z.bind MN) hl).trans ?_;rw[Int.zero_add];rfl
  .obtain⟨x,y,r,rfl⟩:=jN V.two
   have hx:=V.all x (by simp);have hy:=V.all y (by simp);rw[aH h3,show decide (op=3)=false from bA h3,aT];have hb:0<=x*y/\x*y<=999999*999999:=⟨Dv hx.1 hy.1,HJ hx.2 hy.2 hy.1 (by omega)⟩;by_cases h4:op=4
   .rw[aJ h4,show decide (op=4)=true from aO h4,aW,gK,kT,wr (by omega) (by omega)];rfl
   .rw[aH h4,show decide (op=4)=false from bA h4,aT]
    by_cases h5:op=5
    .rw[aJ h5,show decide (op=5)=true from aO h5,aW,gK,kT,wr (by omega) (by omega)];rfl
    .have h6:op=6:=by have:=V.Av;omega
     have hy0:y≠0:=V.BE h6;have hq:0<=x.tdiv y/\x.tdiv y<=x:=⟨OT hx.1 hy.1,OU _ hx.1⟩;rw[aH h5,show decide (op=5)=false from bA h5,aT];simp only[gK,kT];rw[aL (aO hy0),aL (aO hy0),wr (by omega) (by omega)];rfl
 .rw[aH hv,show decide (fS op a≠0)=true from aO hv,aW]
  rfl
end Go.Proofs
/- What is known of the laws once their outcome is. -/
namespace Go.Proofs
noncomputable section
open Go Go.Ax Go.Ax.aB Go.RowKit Go.Ab
end
end Go.Proofs
