/- Lines and pages; additions and subtractions. Conditions are in the theorems. -/
import Derived.Test.YtpmhkjnnolpknaaDoorG2
open Bool renaming true_and->Dy
open Go.IntKind renaming i64->aA
open Int renaming emod_add_mul_ediv->a1y,emod_eq_of_lt->aHC,emod_lt_of_pos->aHB,emod_nonneg->aHA,mul_le_mul_of_nonneg_left->a1x,toNat_natCast->oE
open List renaming all_eq_true->eG,append_assoc->fU,cons_append->oD,exists_cons_of_ne_nil->a1o,ext_getElem->V5,getElem?_eq_getElem->bJ,getElem?_map->cY,getElem?_range->Dr,getElem_map->a1l,getElem_mem->lF,getElem_range->a1k,length_append->cP,length_cons->iG,length_map->cW,length_nil->HE,length_replicate->HD,length_set->gF,length_take->fJ,map_append->fO,map_congr_left->HC,map_cons->eX,map_nil->pM,map_replicate->aGv,mem_range->l6,nil_append->fR,range->gU,replicate->bY,take_add_one->OO,take_length->xQ
open Nat renaming add_le_add_right->aGp,lt_of_le_of_lt->a1W,one_le_pow->V2
open Option renaming toList->VZ
open UInt8 renaming ofNat->dV
/- Lines and pages: what the sheet of the program and the lines of the reference are. -/
namespace Go.Proofs
open Go Go.Ax Go.Ax.aB
def dG(c:UInt8):UInt8:=dZ 100 c
theorem aRy:((gU 256).all λn=>(vR 100 (dV n)).isSome)=true:=by decide +kernel
theorem Rn(c:UInt8):vR 100 c=some (dG c):=by
 have h:=eG.1 aRy c.toNat (l6.2 c.toNat_lt);rw[UInt8.ofNat_toNat]at h;obtain⟨d,hd⟩:=Option.isSome_iff_exists.1 h;rw[hd];unfold dG;rw[Rl hd]
theorem aGV:dG 95=0:=by decide +kernel
theorem a08:dG 61=18:=by decide +kernel
theorem a09:dG 43=44:=by decide +kernel
theorem a0a:dG 45=36:=by decide +kernel
theorem a06:dG 42=33:=by decide +kernel
theorem a0c:dG 91=63:=by decide +kernel
def BK:List UInt8:=[26,1,3,9,25,17,11,27,19,10]
theorem a0b{d:Nat}(h:d<10):BK[d]?=some (dG (dV (48+d))):=by
 rcases(show d=0\/d=1\/d=2\/d=3\/d=4\/d=5\/d=6\/d=7\/d=8\/d=9 by omega)with h|h|h|h|h|h|h|h|h|h <;> subst h <;> decide +kernel
def jI(n:Nat):List UInt8:=(Lib.decDigits n).map dG
def iR(n:Nat):Nat:=Lib.nDigits n
theorem aGM(n:Nat):(jI n).length=iR n:=by unfold jI;rw[cW,xC];rfl
theorem a0S{n:Nat}(h:n<10):jI n=[dG (dV (48+n))]:=by
 unfold jI;rw[Lib.decDigits,dif_pos h];rfl
theorem a0T{n:Nat}(h:¬ n<10):jI n=jI (n / 10)++[dG (dV (48+n%10))]:=by
 unfold jI;rw[Lib.decDigits,dif_neg h,fO];rfl
theorem aF3{n:Nat}(h:¬ n<10):iR n=iR (n / 10)+1:=Lib.nDigits_big h
theorem aF1{n:Nat}(h:n<10):iR n=1:=Lib.nDigits_small h
theorem aF2(n:Nat):1<=iR n:=Lib.nDigits_pos n
def put(L:List UInt8)(left n:Nat):List UInt8:=L.take (L.length-left-iR n)++jI n++L.drop (L.length-left)
theorem aE7{L:List UInt8}{left n:Nat}(h:left+iR n<=L.length):(put L left n).length=L.length:=by
 unfold put;rw[cP,cP,fJ,List.length_drop,aGM];omega
theorem aEQ{L:List UInt8}{p:Nat}(h:p<L.length)(c:UInt8):L.set p c=L.take p++c::L.drop (p+1):=by
 rw[List.set_eq_take_append_cons_drop,aJ h]
theorem aE6{L:List UInt8}{left n:Nat}(hn:n<10)(h:left+1<=L.length):L.set (L.length-1-left) (dG (dV (48+n)))=put L left n:=by
 unfold put;rw[aEQ (by omega),aF1 hn,a0S hn,show L.length-left-1=L.length-1-left by omega,show L.length-1-left+1=L.length-left by omega,fU];rfl
theorem aWp{L:List UInt8}{left n:Nat}(hn:¬ n<10)(h:left+iR n<=L.length):put (L.set (L.length-1-left) (dG (dV (48+n%10)))) (left+1) (n / 10)=put L left n:=by
 have h1:=aF3 hn;have h2:=aF2 (n / 10);unfold put;rw[gF,aEQ (by omega),a0T hn,h1,show L.length-1-left+1=L.length-left by omega];have ht:(List.take (L.length-1-left) L).length=L.length-(left+1):=by rw[fJ];omega
 rw[List.take_append_of_le_length (by omega),List.take_take,<-ht,List.drop_left,ht,show min (L.length-(left+1)-iR (n / 10)) (L.length-1-left)=L.length-left-(iR (n / 10)+1)by omega];simp only[fU,oD,fR]
def bX(width n left:Nat):List UInt8:=put (bY width 0) left n
theorem lC{width n left:Nat}(h:left+iR n<=width):(bX width n left).length=width:=by
 unfold bX;rw[aE7 (by simpa using h)];simp
theorem aFY{width n left:Nat}(h:left+iR n<=width):bX width n left=bY (width-left-iR n) 0++jI n++bY left 0:=by
 unfold bX put;rw[HD,List.take_replicate,List.drop_replicate,show min (width-left-iR n) width=width-left-iR n by omega,show width-(width-left)=left by omega]
theorem DO{α:Type}(pre:List α)(L:α):(pre++[L])[pre.length]?=some L:=by simp
theorem aEP{α:Type}(pre:List α)(L M:α):(pre++[L]).set pre.length M=pre++[M]:=by simp
theorem aIf(x y:Int)(z:List (List UInt8)):(some (ER x y z):O).bind Hn=some (x,y,z):=rfl
theorem aIh{k:Nat}{c:UInt8}{left:Nat}{pre:List (List UInt8)}{L:List UInt8}(hp:pre.length<1000)(hw:L.length<1000)(h:left+k+1<=L.length):
    nG 100 k c left L.length (pre++[L])=some ((left:Int),(L.length:Int),pre++[L.set (L.length-1-left-k) c]):=by
 unfold nG Ws Oy;have e1:aA.wrap (((pre++[L]).length:Int)-1)=pre.length:=by
  rw[cP,iG,HE,wr (by omega) (by omega)];omega
 have e2:aA.wrap (aA.wrap (aA.wrap ((L.length:Int)-1)-(left:Int))-(k:Int))=((L.length-1-left-k:Nat):Int):=by
  rw[wr (x:=(L.length:Int)-1) (by omega) (by omega),wr (x:=(L.length:Int)-1-left) (by omega) (by omega),wr (by omega) (by omega)];omega
 simp only[e1,e2,oE];rw[aL (aO ⟨by omega,by simp;omega⟩),kF (DO pre L),kF (DO pre L),aL (aO ⟨by omega,by omega⟩),kF (DO pre L),kF (bJ (show L.length-1-left-k<L.length by omega)),aEP];exact aIf _ _ _
theorem Wm:gG 100=some (26,1,3,9,25,17,11,27,19,10):=rfl
theorem Y9(pre:List (List UInt8))(hp:pre.length<1000)(left:Nat)(k0:Int×List (List UInt8)->O)(k1 k2:Unit->O):∀(m n k:Nat)(L:List UInt8),iR n<m->n<1000000000000000000->L.length<1000->left+k+iR n<=L.length->(k=0\/0<n)->
    yY 100 m (n,k,L.length,pre++[L],left) k0 k1 k2=k0 ((L.length:Int),pre++[put L (left+k) n])
 |0,n,k,L,h,_,_,_,_=>by omega
 |m+1,n,k,L,h,hn,hw,hl,hk=>by
   show CF 100 _ _ n k L.length (pre++[L]) left=_;unfold CF;have hb:(decide ((k:Int)=0)||decide (0<(n:Int)))=true:=by simp;omega
   have h81:gG 100=some (26,1,3,9,25,17,11,27,19,10):=Wm;have hlp:=aF2 n;have ed:(n:Int).tmod 10=((n%10:Nat):Int):=by rw[Int.tmod_eq_emod_of_nonneg (by omega)];omega
   have eq:aA.wrap ((n:Int).tdiv 10)=((n / 10:Nat):Int):=by rw[Int.tdiv_eq_ediv_of_nonneg (by omega),wr (by omega) (by omega)];omega
   have ek:aA.wrap ((k:Int)+1)=((k+1:Nat):Int):=by rw[wr (by omega) (by omega)];omega
   have h80:=aIh (k:=k) (c:=dG (dV (48+n%10))) (left:=left) (pre:=pre) (L:=L) hp hw (by omega);have hdig:[Bq 100,Bp 100,Bo 100,Bn 100,Bm 100,Bl 100,Bk 100,Bj 100,Bi 100,Bh 100][n%10]?=some (dG (dV (48+n%10))):=by
    rw[Wk h81,Wi h81,Wh h81,Wg h81,Wf h81,We h81,Wd h81,Wc h81,Wb h81,Wa h81];exact a0b (by omega)
   rw[hb,aW,aL (Wl h81),e9,ed,dA hdig,aL (aIg h80),e9,aIe h80,aId h80,aIc h80,eq,ek];simp only[];rw[show L.length-1-left-k=L.length-1-(left+k)by omega];by_cases h10:n<10
   .have hset:=aE6 (L:=L) (left:=left+k) h10 (by omega)
    rw[show n%10=n by omega,hset,show n / 10=0 by omega];cases m with
    |zero=>omega
    |succ m=>
      show CF 100 _ _ (0:Nat) (k+1:Nat) L.length (pre++[put L (left+k) n]) left=_;unfold CF;rw[show(decide (((k+1:Nat):Int)=0)||decide (0<((0:Nat):Int)))=false by simp;omega,aT]
   .have hln:=aF3 h10
    have ih:=Y9 pre hp left k0 k1 k2 m (n / 10) (k+1) (L.set (L.length-1-(left+k)) (dG (dV (48+n%10)))) (by omega) (by omega) (by rw[gF];omega) (by rw[gF];omega) (.inr (by omega));rw[gF,<-Nat.add_assoc,aWp h10 (by omega)]at ih;exact ih
theorem QA{n left:Nat}{pre:List (List UInt8)}{L:List UInt8}(hp:pre.length<1000)(hn:n<1000000000000000000)(hw:L.length<90)(h:left+iR n<=L.length):
    p7 100 n left L.length (pre++[L])=some ((L.length:Int),pre++[put L left n]):=by
 unfold p7 Ya QB;have:=Y9 pre hp left (λy=>some (E8 y.1 y.2)) (λ_=>none) (λ_=>none) 100 n 0 L (by omega) hn (by omega) (by omega) (.inl rfl);exact(aY (λz:O=>z.bind Iq) this).trans rfl
theorem Yh{width:Nat}{p:List (List UInt8)}(hw:width<1000)(hp:p.length<1000):p9 100 width p=some ((width:Int),p++[bY width 0]):=by
 unfold p9 Yi QF;rw[aL (aO (by omega)),aL (eJ (by omega) (by omega)),aL (eJ (by simp;omega) (by simp;omega)),oE];rfl
theorem aLM{width n left:Nat}{p:List (List UInt8)}(hp:p.length<1000)(hn:n<1000000000000000000)(hw:width<90)(h:left+iR n<=width):
    oI 100 n left width p=some ((width:Int),p++[bX width n left]):=by
 unfold oI Y4 Ps;have h62:=Yh (width:=width) (p:=p) (by omega) hp;have h63:=QA (n:=n) (left:=left) (pre:=p) (L:=bY width 0) hp hn (by simpa using hw) (by simpa using h);rw[HD]at h63;rw[aL (Yg h62),Yf h62,Ye h62];simp only[];rw[aL (Pz h63),Py h63,Px h63];rfl
theorem YX{width:Nat}{c:UInt8}{pre:List (List UInt8)}{L:List UInt8}(hp:pre.length<1000)(hw:0<L.length):p6 100 c width (pre++[L])=some ((width:Int),pre++[L.set 0 c]):=by
 unfold p6 YY Po;have e1:aA.wrap (((pre++[L]).length:Int)-1)=pre.length:=by
  rw[cP,iG,HE,wr (by omega) (by omega)];omega
 simp only[e1,oE];rw[aL (aO ⟨by omega,by simp;omega⟩),kF (DO pre L),kF (DO pre L),aL (aO ⟨by omega,by omega⟩),kF (DO pre L),kF (bJ hw),aEP];rfl
theorem aIU:((gU 90).all λw=>uG 100 [18] (w:Int) == some (bY w 18))=true:=by decide +kernel
theorem aIT{w:Nat}(h:w<90):uG 100 [18] w=some (bY w 18):=by
 have:=eG.1 aIU w (l6.2 h);exact eq_of_beq this
theorem Pj{width:Nat}{p:List (List UInt8)}(hw:width<90)(hp:p.length<1000):pZ 100 width p=some ((width:Int),p++[bY width 18]):=by
 unfold pZ YQ Pk;have h:=aIT hw;rw[aL (aIS h),aIR h,aL (eJ (by simp;omega) (by simp;omega))];rfl
theorem WH(c:UInt8)(n:Nat)(hn:n<1000)(x2:List UInt8)(k0:List UInt8×List UInt8->O)(k1 k2:Unit->O):∀(m i:Nat),n-i<m->i<=n->xZ 100 m (c,n,x2,i,bY i c) k0 k1 k2=k0 (x2,bY n c)
 |0,i,h,_=>by omega
 |m+1,i,h,hi=>by
   show H5 100 _ _ c n x2 i _=_;unfold H5;by_cases hlt:i<n
   .have e:aA.wrap ((i:Int)+1)=((i+1:Nat):Int):=by rw[wr (by omega) (by omega)];omega
    rw[aO (show(i:Int)<(n:Int)by omega),aW,aL (eJ (by simp;omega) (by simp;omega)),e,<-List.replicate_succ'];exact WH c n hn x2 k0 k1 k2 m (i+1) (by omega) (by omega)
   .rw[bA (show ¬ (i:Int)<(n:Int)by omega),aT,show i=n by omega]
theorem H0{c:UInt8}{n:Nat}(hn:n<90):uC 100 c n=some (bY n c):=by
 unfold uC WI Oc;have:=WH c n (by omega) [] (λy=>some (EH y.2)) (λ_=>none) (λ_=>none) 100 0 (by omega) (by omega);exact(aY (λz:O=>z.bind HX) this).trans rfl
def eU(s:List UInt8)(width left:Nat):List UInt8:=bY (width-left-s.length) 95++s++bY left 95
theorem pV{s:List UInt8}{width left:Nat}(hw:width<90)(h:left+s.length<=width):uF 100 s width left=some (eU s width left):=by
 unfold uF WQ Om eU;have e:aA.wrap (aA.wrap ((width:Int)-left)-(s.length:Int))=((width-left-s.length:Nat):Int):=by
  rw[wr (x:=(width:Int)-left) (by omega) (by omega),wr (by omega) (by omega)];omega
 have h1:=H0 (c:=95) (n:=width-left-s.length) (by omega);have h2:=H0 (c:=95) (n:=left) (by omega);rw[e,aL (EJ h1),EI h1,aL (aO (by simp;omega)),aL (EJ h2),EI h2,aL (aO (by simp;omega))];rfl
theorem Np{s:List UInt8}{width left:Nat}(h:left+s.length<=width):(eU s width left).length=width:=by
 unfold eU;simp;omega
theorem D8{width n left:Nat}(h:left+iR n<=width):(eU (Lib.decDigits n) width left).map dG=bX width n left:=by
 rw[aFY h];unfold eU jI;rw[fO,fO,aGv,aGv,aGV,xC];rfl
theorem Oh{l s:List UInt8}(h1:0<l.length)(h2:l.length<1000)(h3:s.length<1000):uE 100 l s=some (s++l.drop 1):=by
 unfold uE WM Oi;rw[show min (1:Int) (l.length:Int)=1 by omega];have e:bW l (some 1) none=l.drop 1:=rfl;rw[aL (show dX l.length (some 1) none=true from aO (by omega)),e,aL (aO (by simp;omega))];rfl
theorem aEO{l:List UInt8}(h:0<l.length)(c:UInt8):([c]++l.drop 1).map dG=(l.map dG).set 0 (dG c):=by
 cases l with
 |nil=>simp at h
 |cons x l=>rfl
theorem TY(width:Nat):(bY width (61:UInt8)).map dG=bY width 18:=by rw[aGv,a08]
theorem aAk(x0:List (List UInt8))(j:Nat)(l:List UInt8)(hj:x0[j]?=some l)(hl:l.length<1000)(x2:Int)(x3:List (List UInt8))(x4:Int)(x5:Bool)(x7:List (List UInt8))(k0:List (List UInt8)×Int×Int×List (List UInt8)×Int×Bool×Int×Int×List (List UInt8)×Int×List UInt8×List UInt8×Int×Bool×List (List UInt8)×List UInt8->O)(k1 k2:Unit->O):∀(m i:Nat),l.length-i<m->i<=l.length->
    AI 100 m (x0,j,x2,x3,x4,x5,i,x7,(l.take i).map dG) k0 k1 k2=k0 (x0,j,x2,x3,x4,x5,l.length,l.length,x0,j,l,l,l.length,false,x7,l.map dG)
 |0,i,h,_=>by omega
 |m+1,i,h,hi=>by
   show Kb 100 _ _ x0 j x2 x3 x4 x5 x7 i _=_;unfold Kb;rw[dA hj];by_cases hlt:i<l.length
   .have hg:l[i]?=some l[i]:=bJ hlt
    have e:aA.wrap ((i:Int)+1)=((i+1:Nat):Int):=by rw[wr (by omega) (by omega)];omega
    have h31:=Rn l[i];rw[aO (show(i:Int)<(l.length:Int)by omega),aW,dA hj,dA hg,aL (Rm h31),Rl h31,aL (eJ (by simp;omega) (by simp;omega)),e];have:=aAk x0 j l hj hl x2 x3 x4 x5 x7 k0 k1 k2 m (i+1) (by omega) (by omega);rw[OO,hg]at this;simp only[VZ,fO,eX,pM]at this;exact this
   .rw[bA (show ¬ (i:Int)<(l.length:Int)by omega),aT,show i=l.length by omega,xQ]
theorem aAj(x0:List (List UInt8))(hn:x0.length<1000)(hl:∀l∈x0,l.length<90)(k0:List (List UInt8)->O)(k1 k2:Unit->O):∀(m i:Nat),x0.length-i<m->i<=x0.length->
    AH 100 m (x0,i,(x0.take i).map (·.map dG)) k0 k1 k2=k0 (x0.map (·.map dG))
 |0,i,h,_=>by omega
 |m+1,i,h,hi=>by
   show Ka 100 _ _ _ x0 i _=_;unfold Ka;by_cases hlt:i<x0.length
   .have hg:x0[i]?=some x0[i]:=bJ hlt
    have hx:=hl x0[i] (lF hlt);have e:aA.wrap ((i:Int)+1)=((i+1:Nat):Int):=by rw[wr (by omega) (by omega)];omega
    rw[aO (show(i:Int)<(x0.length:Int)by omega),aW];refine(aAk x0 i x0[i] hg (by omega) i x0 x0.length _ _ _ _ _ 100 0 (by omega) (by omega)).trans ?_;simp only[];rw[aL (eJ (by simp;omega) (by simp;omega)),e];have:=aAj x0 hn hl k0 k1 k2 m (i+1) (by omega) (by omega);rw[OO,hg]at this;simp only[VZ,fO,eX,pM]at this;exact this
   .rw[bA (show ¬ (i:Int)<(x0.length:Int)by omega),aT,show i=x0.length by omega,xQ]
theorem aAl{x0:List (List UInt8)}(hn:x0.length<90)(hl:∀l∈x0,l.length<90):vE 100 x0=some (x0.map (·.map dG)):=by
 unfold vE w45 RO;have:=aAj x0 (by omega) hl (λy=>some (Ev y)) (λ_=>none) (λ_=>none) 100 0 (by omega) (by omega);exact(aY (λz:O=>z.bind K3) this).trans rfl
end Go.Proofs
/- The page of an addition or a subtraction: the program's and the reference's are one. -/
namespace Go.Proofs
open Go Go.Ax Go.Ax.aB
theorem oL{width left:Nat}{n:Int}{p:List (List UInt8)}(hp:p.length<1000)(h0:0<=n)(hn:n<1000000000000000000)(hw:width<90)(h:left+aD n<=width):
    oI 100 n left width p=some ((width:Int),p++[bX width n.toNat left]):=by
 obtain⟨u,rfl⟩:=Int.eq_ofNat_of_zero_le h0;exact aLM hp (by omega) hw h
theorem gE(n:Int):(Lib.decDigits n.toNat).length=aD n:=xC _
theorem N2{x:Int}(h0:0<=x){k:Nat}(h:aD x<=k):x<((10^k:Nat):Int):=by
 have h1:=Lib.lt_pow_nDigits x.toNat;have h2:10^Lib.nDigits x.toNat<=10^k:=Nat.pow_le_pow_right (by omega) h;have:x=(x.toNat:Int):=by omega
 omega
theorem aGJ{x:Int}(h0:0<=x){k:Nat}(h:aD x<=k):cN x k=0:=by
 unfold cN;rw[Int.ediv_eq_zero_of_lt h0 (N2 h0 h)];rfl
theorem aGE{k:Nat}:∀{a:List Int},(∀x∈a,0<=x/\aD x<=k)->gT k a=0
 |[],_=>rfl
 |x::a,h=>by
   have h1:=h x (by simp);have h2:=aGE (k:=k) (a:=a) λy hy=>h y (by simp[hy])
   have:gT k (x::a)=cN x k+gT k a:=by simp[gT]
   rw[this,h2,aGJ h1.1 h1.2];rfl
theorem Dd{op:Int}{a:List Int}(V:gN op a):∀x∈a,aD x<=fD a:=by
 obtain⟨x,y,r,rfl⟩:=jN V.two;intro z hz;rw[Gk];obtain⟨h1,h2⟩:=Uf (y::r) x;rcases List.mem_cons.1 hz with rfl|h
 .exact jW h1
 .exact jW (h2 z h)
theorem borrow{x y:Int}:∀k,dH 4 [x,y] k=if x%((10^k:Nat):Int)<y%((10^k:Nat):Int)then 1 else 0
 |0=>by
   show(0:Int)=_;rw[aH (by simp)]
 |k+1=>by
   have ih:=borrow (x:=x) (y:=y) k;show(if cN x k<cN y k+dH 4 [x,y] k then(1:Int)else 0)=_;rw[ih];have key:∀z:Int,z%((10^(k+1):Nat):Int)=z%((10^k:Nat):Int)+((10^k:Nat):Int)*cN z k:=by
    intro z;rw[Nat.pow_succ,Int.natCast_mul,show((10:Nat):Int)=10 from rfl];unfold cN;have hp:(0:Int)<((10^k:Nat):Int):=by have:=V2 k 10 (by omega);omega
    generalize((10^k:Nat):Int)=u at *
    have e1:=a1y z u;have e2:=a1y (z / u) 10;have b1:=aHA z (show u≠0 by omega);have b2:=aHB z hp;have b3:0<=z / u%10/\z / u%10<10:=by omega
    have e3:z=(z%u+u*(z / u%10))+(u*10)*(z / u / 10):=by
     rw[Int.mul_assoc,Int.add_assoc,<-Int.mul_add,e2,e1]
    have b4:0<=u*(z / u%10)/\u*(z / u%10)<=u*9:=⟨Int.mul_nonneg (by omega) b3.1,a1x (by omega) (by omega)⟩
    conv=>lhs;rw[e3]
    rw[Int.add_mul_emod_self_left,aHC (by omega) (by omega)]
   rw[key x,key y];have hp:(0:Int)<((10^k:Nat):Int):=by have:=V2 k 10 (by omega);omega
   have bx1:=aHA x (show((10^k:Nat):Int)≠0 by omega);have bx2:=aHB x hp;have by1:=aHA y (show((10^k:Nat):Int)≠0 by omega);have by2:=aHB y hp;generalize((10^k:Nat):Int)=u at *
   generalize cN x k=d at *
   generalize cN y k=e at *
   generalize x%u=p at *
   generalize y%u=q at *
   have hmul:∀c:Int,1<=c->u<=u*c:=λc hc=>by
    have:=a1x hc (show 0<=u by omega);omega
   by_cases h1:d<e
   .have:=hmul (e-d) (by omega)
    rw[Int.mul_sub]at this;rw[aJ (by split <;> omega),aJ (by omega)]
   .by_cases h2:e<d
    .have:=hmul (d-e) (by omega)
     rw[Int.mul_sub]at this;rw[aH (by split <;> omega),aH (by omega)]
    .have:d=e:=by omega
     subst this;by_cases h3:p<q
     .rw[aJ h3,aJ (by omega),aJ (by omega)]
     .rw[aH h3,aH (by omega),aH (by omega)]
theorem a0e{op:Int}{a:List Int}(V:gN op a)(ho:op=3\/op=4):∀k,fD a<k->dH op a k=0:=by
 have hall:∀k,fD a<=k->∀x∈a,0<=x/\aD x<=k:=λk hk x hx=>⟨(V.all x hx).1,Nat.le_trans (Dd V x hx) hk⟩
 rcases ho with rfl|rfl
 .intro k hk
  cases k with
  |zero=>omega
  |succ k=>
    show(dH 3 a k+gT k a) / 10=0;have:=Dg 3 V.eight k;rw[aGE (hall k (by omega))];omega
 .have hl:=V.pair (by omega)
  have hsub:=V.sub rfl;obtain⟨x,y,r,rfl⟩:=jN V.two;have hr:r=[]:=by simpa using hl
  subst hr;have hsub:y<=x:=hsub;intro k hk;have h1:=hall k (by omega) x (by simp);have h2:=hall k (by omega) y (by simp);rw[borrow,aHC h1.1 (N2 h1.1 h1.2),aHC h2.1 (N2 h2.1 h2.2),aH (by omega)]
def Dh(op:Int)(a:List Int)(i k:Nat):UInt8:=if k<=i/\0<dH op a k then dG (dV (48+(dH op a k).toNat))else 0
def kG(width:Nat)(op:Int)(a:List Int)(i:Nat):List UInt8:=(gU width).map λj=>Dh op a i (width-1-j)
theorem G9(width:Nat)(op:Int)(a:List Int)(i:Nat):(kG width op a i).length=width:=by simp[kG]
theorem aZh(width:Nat)(op:Int)(a:List Int):kG width op a 0=bY width 0:=by
 apply V5
 .simp[kG]
 .intro i h1 h2
  simp only[kG,a1l,a1k,List.getElem_replicate];unfold Dh;rw[aH];rintro⟨h,h0⟩;have:width-1-i=0:=by omega
  rw[this]at h0;exact absurd h0 (by show ¬ (0:Int)<0;omega)
theorem aZi{width:Nat}{op:Int}{a:List Int}{i:Nat}(hi:i+2<=width):kG width op a (i+1)=if 0<dH op a (i+1)then(kG width op a i).set (width-1-(i+1)) (dG (dV (48+(dH op a (i+1)).toNat)))else kG width op a i:=by
 split
 .rename_i hc
  apply V5
  .simp[kG]
  .intro j h1 h2
   have hj:j<width:=by simpa[kG]using h1
   rw[List.getElem_set];simp only[kG,a1l,a1k];by_cases he:width-1-(i+1)=j
   .rw[aJ he]
    unfold Dh;rw[show width-1-j=i+1 by omega,aJ ⟨Nat.le_refl _,hc⟩]
   .rw[aH he]
    unfold Dh;by_cases h3:width-1-j<=i
    .simp only[h3,show width-1-j<=i+1 by omega,true_and]
    .simp only[h3,show ¬ width-1-j<=i+1 by omega,false_and]
 .rename_i hc
  unfold kG;apply HC;intro j hj;unfold Dh;by_cases h3:width-1-j<=i
  .simp only[h3,show width-1-j<=i+1 by omega,true_and]
  .simp only[h3,false_and]
   by_cases h4:width-1-j<=i+1
   .rw[show width-1-j=i+1 by omega,aH (λh=>hc h.2),aH (λh=>h)]
   .rw[aH (λh=>h4 h.1),aH (λh=>h)]
def gL(width:Nat)(op:Int)(a:List Int):List UInt8:=(gU width).map λj=>if 0<dH op a (width-1-j)then dG (dV (48+(dH op a (width-1-j)).toNat))else 0
theorem aZj{width:Nat}{op:Int}{a:List Int}(V:gN op a)(ho:op=3\/op=4):kG width op a (fD a)=gL width op a:=by
 unfold kG gL;apply HC;intro j _;unfold Dh;by_cases h:width-1-j<=fD a
 .simp only[h,true_and]
 .rw[a0e V ho _ (by omega)]
  simp
theorem aBQ{op:Int}{a:List Int}(V:gN op a)(ho:op=3\/op=4){width:Nat}(hw:width<90)(hc:fD a+1<=width)(x0 x4:Int)(x5:List Int)(k0:Int×Int×List Int×Int×List (List UInt8)->O)(k1 k2:Unit->O):∀(m i:Nat),fD a-i<m->i<=fD a->
    AQ 100 m (x0,xG op a,fD a,i,x4,x5,width,[kG width op a i]) k0 k1 k2=k0 (x0,x4,x5,width,[gL width op a])
 |0,i,h,_=>by omega
 |m+1,i,h,hi=>by
   show Kw 100 _ _ x0 (xG op a) (fD a) x4 x5 i width [kG width op a i]=_;unfold Kw;by_cases hlt:i<fD a
   .have hg:(xG op a)[i]?=some (dH op a (i+1)):=by
     unfold xG;rw[cY,Dr hlt];rfl
    have e:aA.wrap ((i:Int)+1)=((i+1:Nat):Int):=by rw[wr (by omega) (by omega)];omega
    have hb:=Dg op V.eight (i+1);have ih:=aBQ V ho hw hc x0 x4 x5 k0 k1 k2 m (i+1) (by omega) (by omega);rw[aZi (by omega)]at ih;rw[aO (show(i:Int)<(fD a:Int)by omega),aW,dA hg,e];by_cases h0:0<dH op a (i+1)
    .rw[aJ h0]at ih
     have h63:=QA (n:=(dH op a (i+1)).toNat) (left:=i+1) (pre:=[]) (L:=kG width op a i) (by simp) (by omega) (by rw[G9];exact hw) (by rw[G9,aF1 (by omega)];omega);rw[show(((dH op a (i+1)).toNat:Nat):Int)=dH op a (i+1)by omega,fR,G9,<-aE6 (by omega) (by rw[G9];omega),G9]at h63;rw[aO h0,aW,aL (Pz h63),Py h63,Px h63];exact ih
    .rw[aH h0]at ih
     rw[bA h0,aT];exact ih
   .rw[bA (show ¬ (i:Int)<(fD a:Int)by omega),aT,show i=fD a by omega,aZj V ho]
theorem aBP{op:Int}(a:List Int)(hlen:a.length<=8){width:Nat}(hw:width<90)(hall:∀x∈a,0<=x/\x<1000000000000000000/\aD x<=width)(F:List UInt8)(x0:Int)(k0:Int×Int×List Int×Int×List (List UInt8)->O)(k1 k2:Unit->O):∀(m i:Nat),a.length-i<m->i<=a.length->
    AP 100 m (x0,a,a.length,i,op,a,width,F::(a.take i).map λx=>bX width x.toNat 0) k0 k1 k2=k0 (x0,op,a,width,F::a.map λx=>bX width x.toNat 0)
 |0,i,h,_=>by omega
 |m+1,i,h,hi=>by
   show Kv 100 _ _ x0 a a.length op a i width (F::(a.take i).map λx=>bX width x.toNat 0)=_;unfold Kv;by_cases hlt:i<a.length
   .have hg:a[i]?=some a[i]:=bJ hlt
    have hx:=hall a[i] (lF hlt);have e:aA.wrap ((i:Int)+1)=((i+1:Nat):Int):=by rw[wr (by omega) (by omega)];omega
    have h64:=oL (left:=0) (width:=width) (n:=a[i]) (p:=F::(a.take i).map λx=>bX width x.toNat 0) (by simp;omega) hx.1 hx.2.1 hw (by omega);rw[show((0:Nat):Int)=0 from rfl]at h64;rw[aO (show(i:Int)<(a.length:Int)by omega),aW,dA hg,aL (oK h64),r9 h64,oJ h64,e];have ih:=aBP a hlen hw hall F x0 k0 k1 k2 m (i+1) (by omega) (by omega) (op:=op);rw[OO,hg]at ih;simp only[VZ,fO,eX,pM]at ih;exact ih
   .rw[bA (show ¬ (i:Int)<(a.length:Int)by omega),aT,show i=a.length by omega,xQ]
def lS(op:Int)(ini:List Int)(z r:Int)(width:Nat):List (List UInt8):=
 gL width op (ini++[z])::(ini.map λx=>bX width x.toNat 0)++[(bX width z.toNat 0).set 0 (if op=3 then 44 else 36),bY width 18,bX width r.toNat 0]
theorem aQ2(x:List (List UInt8)):(some (AO x):O).bind qD=some x:=rfl
theorem aQ3{op:Int}{ini:List Int}{z r:Int}{width:Nat}(V:gN op (ini++[z]))(ho:op=3\/op=4)(hr:0<=r/\r<1000000000000000000)(hM:width=1+max (aD r) (aD ((ini++[z]).getD 0 0)))(hc:fD (ini++[z])+1<=width):
    sP 100 op (ini++[z]) r=some (lS op ini z r width):=by
 have hcols:=Dd V;have h8:=V.eight;have hin:ini≠[]:=by
  intro h;have:=V.two;subst h;simp at this
 obtain⟨x,ini',rfl⟩:=a1o hin;have hx:=V.all x (by simp);have hl1:=N7 (show x<1000000000000000000 by omega);have hl2:=N7 hr.2;have hM:width=1+max (aD r) (aD x):=hM;have h57r:=sG 100 (n:=r) ⟨by omega,by omega⟩ hr.1;have h57x:=sG 100 (n:=x) ⟨by omega,by omega⟩ hx.1;have h36:=aR1 V ho (N:=100) (by omega);have hcl:(xG op (x::ini'++[z])).length=fD (x::ini'++[z]):=by simp[xG]
 have eM:aA.wrap (1+max (aD r:Int) (aD x:Int))=(width:Int):=by rw[wr (by omega) (by omega)];omega
 have h62:=Yh (width:=width) (p:=[]) (by omega) (by simp);unfold sP w42 RZ;rw[aL (sF h57r),sE h57r];show(gx (x::(ini'++[z])) 0 _).bind qD=_;rw[gK,aL (sF h57x),sE h57x,eM,aL (Yg h62),Yf h62,Ye h62];show(ck (C4 100 op (x::ini'++[z])) _).bind qD=_;rw[aL (aRZ h36)];show(RW 100 r (vN 100 op (x::ini'++[z])) ((vN 100 op (x::ini'++[z])).length:Int) 0 op (x::ini'++[z]) width [bY width 0] _).bind qD=_;rw[aRY h36,hcl,<-aZh width op (x::ini'++[z])];refine(aY (λz:O=>z.bind qD) (aBQ V ho (by omega) hc r op (x::ini'++[z]) _ _ _ 100 0 (by have:=V.Uz;omega) (by omega))).trans ?_;simp only[];refine(aY (λz:O=>z.bind qD) (aBP (x::ini'++[z]) h8 (by omega) (λy hy=>⟨(V.all y hy).1,by have:=(V.all y hy).2;omega,by have:=hcols y hy;omega⟩) (gL width op (x::ini'++[z])) r _ _ _ 100 0 (by omega) (by omega))).trans ?_;simp only[];have hz:=V.all z (by simp);have hzl:=hcols z (by simp);have hlz:(bX width z.toNat 0).length=width:=lC (by show 0+aD z<=width;omega);have hpre:gL width op (x::ini'++[z])::((x::ini'++[z]).map λx=>bX width x.toNat 0)=(gL width op (x::ini'++[z])::(x::ini').map λx=>bX width x.toNat 0)++[bX width z.toNat 0]:=by
  rw[fO];rfl
 have hlp:(gL width op (x::ini'++[z])::(x::ini').map λx=>bX width x.toNat 0).length<=8:=by
  have h9:(x::ini'++[z]).length<=8:=h8;simp only[cP,iG,HE,cW]at h9 ⊢;omega
 have fin:∀c:UInt8,c=(if op=3 then 44 else 36)->(ck (yX 100 c width (gL width op (x::ini'++[z])::((x::ini'++[z]).map λx=>bX width x.toNat 0)))<|
           ck (uP 100 (iN 100 c width (gL width op (x::ini'++[z])::((x::ini'++[z]).map λx=>bX width x.toNat 0))) (iM 100 c width (gL width op (x::ini'++[z])::((x::ini'++[z]).map λx=>bX width x.toNat 0))))<|
           ck (kM 100 r 0 (nK 100 (iN 100 c width (gL width op (x::ini'++[z])::((x::ini'++[z]).map λx=>bX width x.toNat 0))) (iM 100 c width (gL width op (x::ini'++[z])::((x::ini'++[z]).map λx=>bX width x.toNat 0)))) (nJ 100 (iN 100 c width (gL width op (x::ini'++[z])::((x::ini'++[z]).map λx=>bX width x.toNat 0))) (iM 100 c width (gL width op (x::ini'++[z])::((x::ini'++[z]).map λx=>bX width x.toNat 0)))))<|
           some (AO (cO 100 r 0 (nK 100 (iN 100 c width (gL width op (x::ini'++[z])::((x::ini'++[z]).map λx=>bX width x.toNat 0))) (iM 100 c width (gL width op (x::ini'++[z])::((x::ini'++[z]).map λx=>bX width x.toNat 0)))) (nJ 100 (iN 100 c width (gL width op (x::ini'++[z])::((x::ini'++[z]).map λx=>bX width x.toNat 0))) (iM 100 c width (gL width op (x::ini'++[z])::((x::ini'++[z]).map λx=>bX width x.toNat 0))))))).bind qD=some (lS op (x::ini') z r width):=by
  intro c hcc;rw[hpre];have h65:=YX (width:=width) (c:=c) (pre:=gL width op (x::ini'++[z])::(x::ini').map λx=>bX width x.toNat 0) (L:=bX width z.toNat 0) (by omega) (by omega);have h66:=Pj (width:=width) (p:=(gL width op (x::ini'++[z])::(x::ini').map λx=>bX width x.toNat 0)++[(bX width z.toNat 0).set 0 c]) (by omega) (by rw[cP];exact a1W (aGp hlp 1) (by omega));have h64:=oL (left:=0) (width:=width) (n:=r) (p:=(gL width op (x::ini'++[z])::(x::ini').map λx=>bX width x.toNat 0)++[(bX width z.toNat 0).set 0 c]++[bY width 18]) (by rw[cP,cP];exact a1W (aGp (aGp hlp 1) 1) (by omega)) hr.1 hr.2 (by omega) (by omega);rw[aL (YW h65),YV h65,YU h65];simp only[];rw[aL (Ph h66),Pg h66,Pf h66];simp only[];rw[show(0:Int)=((0:Nat):Int)from rfl,aL (oK h64),oJ h64,aQ2];unfold lS;rw[hcc];simp only[fU,oD,fR]
 by_cases h3:op=3
 .rw[aO h3,aW]
  exact fin 44 (by rw[aJ h3])
 .rw[bA h3,aT]
  exact fin 36 (by rw[aH h3])
end Go.Proofs
/- The lines of an addition or a subtraction in the reference, and that their cells are the program's page. -/
namespace Go.Proofs
open Go Go.Ax Go.Ax.aB
def o6(width:Nat)(op:Int)(a:List Int):List UInt8:=(gU width).map λj=>if 0<dH op a (width-1-j)then dV (48+(dH op a (width-1-j)).toNat)else 95
theorem aZg(width:Nat)(op:Int)(a:List Int):(o6 width op a).map dG=gL width op a:=by
 unfold o6 gL;rw[List.map_map];apply HC;intro j _;simp only[Function.comp];by_cases h:0<dH op a (width-1-j)
 .rw[aJ h,aJ h]
 .rw[aH h,aH h,aGV]
theorem Xq{op:Int}{a:List Int}(V:gN op a){width:Nat}(hw:width<=15)(x0:Int)(k0:Int×Int×Int×List Int×List UInt8->O)(k1 k2:Unit->O):∀(m i:Nat),width-i<m->i<=width->
    yP 100 m (x0,width,(width:Int)-1-i,op,a,(o6 width op a).take i) k0 k1 k2=k0 (x0,width,op,a,o6 width op a)
 |0,i,h,_=>by omega
 |m+1,i,h,hi=>by
   show I5 100 _ _ x0 width op a ((width:Int)-1-i) ((o6 width op a).take i)=_;unfold I5;have hlen:(o6 width op a).length=width:=by simp[o6]
   by_cases hlt:i<width
   .have ek:(width:Int)-1-i=((width-1-i:Nat):Int):=by omega
    obtain⟨p38,y38⟩:=aRG V (N:=100) (by omega) (k:=width-1-i) (by omega);have e1:aA.wrap ((width:Int)-1-i-1)=((width-1-i:Nat):Int)-1:=by rw[wr (by omega) (by omega)];omega
    have hb:=Dg op V.eight (width-1-i);have ih:=Xq V hw x0 k0 k1 k2 m (i+1) (by omega) (by omega);have hg:(o6 width op a)[i]?=some (if 0<dH op a (width-1-i)then dV (48+(dH op a (width-1-i)).toNat)else 95):=by
     unfold o6;rw[cY,Dr hlt];rfl
    rw[OO,hg,show(width:Int)-1-(i+1:Nat)=((width-1-i:Nat):Int)-1 by omega]at ih;rw[aO (show(0:Int)<=(width:Int)-1-i by omega),aW,e1,aL p38,y38];by_cases h0:0<dH op a (width-1-i)
    .rw[aJ h0]at ih
     rw[aO h0,aW,Sq (by omega) (by omega),aL (eJ (by simp;omega) (by simp;omega))];exact ih
    .rw[aH h0]at ih
     rw[bA h0,aT,aL (eJ (by simp;omega) (by simp;omega))];exact ih
   .rw[bA (show ¬ (0:Int)<=(width:Int)-1-i by omega),aT,List.take_of_length_le (by omega)]
def Mo(op:Int):UInt8:=if op=3 then 43 else 45
theorem Xp{op:Int}(ho:op=3\/op=4)(ini:List Int)(z:Int)(hlen:ini.length<=7){width:Nat}(hw:width<90)(hw0:0<width)(hall:∀x∈ini++[z],0<=x/\x<1000000000000000000/\aD x<=width)(F:List UInt8)(x0:Int)(k0:Int×Int×List (List UInt8)->O)(k1 k2:Unit->O):∀(m i:Nat),ini.length+1-i<m->i<=ini.length->
    uL 100 m (x0,width,i,op,ini++[z],F::(ini.take i).map λx=>eU (Lib.decDigits x.toNat) width 0) k0 k1 k2=k0 (x0,width,(F::ini.map λx=>eU (Lib.decDigits x.toNat) width 0)++[[Mo op]++(eU (Lib.decDigits z.toNat) width 0).drop 1])
 |0,i,h,_=>by omega
 |m+1,i,h,hi=>by
   show Bw 100 _ _ _ x0 width i op (ini++[z]) (F::(ini.take i).map λx=>eU (Lib.decDigits x.toNat) width 0)=_;unfold Bw;have hL:(ini++[z]).length=ini.length+1:=by simp
   have e:aA.wrap ((i:Int)+1)=((i+1:Nat):Int):=by rw[wr (by omega) (by omega)];omega
   have eL:aA.wrap (((ini++[z]).length:Int)-1)=(ini.length:Int):=by rw[hL,wr (by omega) (by omega)];omega
   obtain⟨y,hg⟩:∃y,(ini++[z])[i]?=some y:=⟨_,bJ (by omega)⟩
   have hx:=hall y (List.mem_of_getElem? hg);obtain⟨p59,y59⟩:=lI (N:=100) (by omega) hx.1 hx.2.1;have h86:=pV (s:=Lib.decDigits y.toNat) (width:=width) (left:=0) hw (by rw[gE];omega);rw[show((0:Nat):Int)=0 from rfl]at h86;have hEl:(eU (Lib.decDigits y.toNat) width 0).length=width:=Np (by rw[gE];omega);rw[aO (show(i:Int)<((ini++[z]).length:Int)by omega),aW,dA hg,aL p59,y59,aL (pU h86),pT h86,aJz];unfold I4;simp only[eL];by_cases hlt:i<ini.length
   .have hd:decide ((i:Int)=(ini.length:Int))=false:=bA (by omega)
    simp only[hd,Bool.false_and,aT];rw[aL (eJ (by simp;omega) (by simp;omega)),e];have ih:=Xp ho ini z hlen hw hw0 hall F x0 k0 k1 k2 m (i+1) (by omega) (by omega);have hy:ini[i]?=some y:=by rw[List.getElem?_append_left hlt]at hg;exact hg
    rw[OO,hy]at ih;simp only[VZ,fO,eX,pM]at ih;exact ih
   .have hi':i=ini.length:=by omega
    subst hi';have hy:y=z:=by
     rw[List.getElem?_append_right (Nat.le_refl _),Nat.sub_self]at hg;cases hg;rfl
    subst hy;rw[xQ];have hlast:∀S:List UInt8,uL 100 m (x0,width,((ini.length+1:Nat):Int),op,ini++[y],(F::ini.map λx=>eU (Lib.decDigits x.toNat) width 0)++[S]) k0 k1 k2=k0 (x0,width,(F::ini.map λx=>eU (Lib.decDigits x.toNat) width 0)++[S]):=by
     intro S;cases m with
     |zero=>omega
     |succ m=>
       show Bw 100 _ _ _ x0 width ((ini.length+1:Nat):Int) op (ini++[y]) ((F::ini.map λx=>eU (Lib.decDigits x.toNat) width 0)++[S])=_;unfold Bw;rw[bA (show ¬ ((ini.length+1:Nat):Int)<((ini++[y]).length:Int)by omega),aT]
    rcases ho with h3|h4
    .subst h3
     have h87:=Oh (l:=eU (Lib.decDigits y.toNat) width 0) (s:=[43]) (by omega) (by omega) (by simp);simp only[tI,Dy,show decide ((3:Int)=4)=false from rfl,aW,aT];rw[aL (Og h87),Of h87,aL (eJ (by simp;omega) (by simp;omega)),e];exact hlast _
    .subst h4
     have h87:=Oh (l:=eU (Lib.decDigits y.toNat) width 0) (s:=[45]) (by omega) (by omega) (by simp);simp only[tI,Dy,show decide ((4:Int)=3)=false from rfl,aW,aT];rw[aL (Og h87),Of h87,aL (eJ (by simp;omega) (by simp;omega)),e];exact hlast _
def Fs(op:Int)(ini:List Int)(z r:Int)(width:Nat):List (List UInt8):=
 (o6 width op (ini++[z])::ini.map λx=>eU (Lib.decDigits x.toNat) width 0)++[[Mo op]++(eU (Lib.decDigits z.toNat) width 0).drop 1]++[bY width 61,eU (Lib.decDigits r.toNat) width 0]
theorem aKI(x:List (List UInt8)):(some (EX x):O).bind yO=some x:=rfl
theorem aKK{op:Int}{ini:List Int}{z r:Int}{width:Nat}(V:gN op (ini++[z]))(ho:op=3\/op=4)(hr:0<=r/\r<10000000000000)(hM:width=1+max (aD r) (aD ((ini++[z]).getD 0 0)))(hc:fD (ini++[z])+1<=width)(hw:width<=15):
    rZ 100 op (ini++[z]) r=some (Fs op ini z r width):=by
 have hcols:=Dd V;have h8:=V.eight;have hin:ini≠[]:=by
  intro h;have:=V.two;subst h;simp at this
 have hlen:ini.length<=7:=by simp at h8;omega
 obtain⟨x,ini',rfl⟩:=a1o hin;have hx:=V.all x (by simp);have hM:width=1+max (aD r) (aD x):=hM;obtain⟨pr,yr⟩:=lI (N:=100) (n:=r) (by omega) hr.1 (by omega);obtain⟨px,yx⟩:=lI (N:=100) (n:=x) (by omega) hx.1 (by omega);have eM:aA.wrap (1+max (aD r:Int) (aD x:Int))=(width:Int):=by rw[wr (by omega) (by omega)];omega
 have eM1:aA.wrap ((width:Int)-1)=(width:Int)-1-(0:Nat):=by rw[wr (by omega) (by omega)];omega
 unfold rZ Xr P3;rw[aL pr,yr];show(gx (x::(ini'++[z])) 0 _).bind yO=_;rw[gK,aL px,yx,gE,gE,eM,eM1];refine(aY (λz:O=>z.bind yO) (Xq V hw r _ _ _ 100 0 (by omega) (by omega))).trans ?_;simp only[];refine(aY (λz:O=>z.bind yO) (Xp ho (x::ini') z hlen (by omega) (by omega) (λy hy=>⟨(V.all y hy).1,by have:=(V.all y hy).2;omega,by have:=hcols y hy;omega⟩) (o6 width op (x::ini'++[z])) r _ _ _ 100 0 (by omega) (by omega))).trans ?_;simp only[];have h88:=H0 (c:=61) (n:=width) (by omega);have h86:=pV (s:=Lib.decDigits r.toNat) (width:=width) (left:=0) (by omega) (by rw[gE];omega);rw[show((0:Nat):Int)=0 from rfl]at h86;rw[aL (EJ h88),EI h88,aL pr,yr,aL (pU h86),pT h86,aL (eJ (by simp at hlen ⊢;omega) (by simp at hlen ⊢;omega)),aKI];rfl
theorem aWN{op:Int}{ini:List Int}{z r:Int}{width:Nat}(hw:0<width)(hall:∀x∈ini++[z],aD x<=width)(hr:aD r<=width):(Fs op ini z r width).map (·.map dG)=lS op ini z r width:=by
 have hE:∀x:Int,aD x<=width->(eU (Lib.decDigits x.toNat) width 0).map dG=bX width x.toNat 0:=λx hx=>D8 (by show 0+aD x<=width;omega)
 unfold Fs lS;simp only[fO,eX,pM,List.map_map];rw[aZg,TY,hE r hr];have h1:ini.map ((λl:List UInt8=>l.map dG) ∘ λx:Int=>eU (Lib.decDigits x.toNat) width 0)=ini.map λx=>bX width x.toNat 0:=by
  apply HC;intro x hx;exact hE x (hall x (by simp[hx]))
 rw[h1];have h2:(List.map dG [Mo op]++List.map dG (List.drop 1 (eU (Lib.decDigits z.toNat) width 0)))=(bX width z.toNat 0).set 0 (if op=3 then 44 else 36):=by
  rw[<-fO,aEO (by rw[Np (by rw[gE];have:=hall z (by simp);omega)];exact hw),hE z (hall z (by simp))]
  congr 1
  unfold Mo;split
  .exact a09
  .exact a0a
 simp only[eX,pM]at h2;rw[h2];simp only[fU,oD,fR]
end Go.Proofs
