/- Codes and lines in plain words; the examples. Conditions are in the theorems. -/
import Derived.Test.YtihfefggdgiodaaGreatDoorG1
import Derived.Test.YtihfefggdgiodaaGreatDoorF6
import Derived.KernelRfl
open Bool renaming false_or->jG,not_false->tX,not_true->oP,or_eq_false_iff->ML,true_and->lM,true_or->oO
open Go.IntKind renaming i64->aS
open Int renaming toNat_natCast->iT
open List renaming any_cons->rJ,any_eq_true->jN,append_assoc->fT,append_nil->kN,concat_eq_append->Fz,drop_eq_nil_of_le->fD,drop_zero->fV,eq_nil_or_concat->Tj,flatMap_append->Ad,flatMap_cons->fS,flatten_cons->fR,getElem?_eq_getElem->bM,getElem_mem->pV,length_append->bF,length_cons->dK,length_nil->iJ,mem_cons->eD,mem_cons_of_mem->gF,mem_cons_self->jF,mem_singleton->lL,nil_append->fK,range->fJ,take_of_length_le->iS,take_succ_cons->Th,take_succ_eq_append_getElem->Fv
open List.cons renaming inj->tU
open Nat renaming le_refl->bX,zero_le->dC
/- Rows, Encode and Lines: what the functions give. -/
namespace Go.Proofs
open Go Go.Ax Go.Ax.aA
theorem Gm(N:Nat)(c:List UInt8)(w r:Int)(a:List UInt8)(d:List (List UInt8)):wO N c w r a d=some (decide (aS.wrap (aS.wrap ((a.length:Int)+(c.length:Int))+r)<=w),a,d):=rfl
theorem aGD(N:Nat)(c:List UInt8)(w r:Int)(a:List UInt8)(d:List (List UInt8)):Gl N c w r a d=true/\Gj N c w r a d=decide (aS.wrap (aS.wrap ((a.length:Int)+(c.length:Int))+r)<=w)/\wQ N c w r a d=a/\wP N c w r a d=d:=by
 refine⟨?_,?_,?_,?_⟩
 .unfold Gl;rw[Gm];rfl
 .unfold Gj;rw[Gm];rfl
 .unfold wQ;rw[Gm];rfl
 .unfold wP;rw[Gm];rfl
theorem Um(N:Nat){c a:List UInt8}(d:List (List UInt8))(h:(a++c).length<=1000000):uD N c a d=true/\oU N c a d=d/\oT N c a d=a++c:=by
 have e:wN N c a d=some (d,a++c):=by
  unfold wN Un Mj;rw[aP (eT (by omega) (by omega))];rfl
 refine⟨?_,?_,?_⟩
 .unfold uD;rw[e];rfl
 .unfold oU;rw[e];rfl
 .unfold oT;rw[e];rfl
theorem Uh(N:Nat)(a:List UInt8){d:List (List UInt8)}(h:d.length<=1000000):rX N a d=true/\rW N a d=d++[a]:=by
 have e:wM N a d=some (a,d++[a]):=by
  unfold wM Ui Mg;rw[aP (eT (by simp;omega) (by simp;omega))];rfl
 refine⟨?_,?_⟩
 .unfold rX;rw[e];rfl
 .unfold rW;rw[e];rfl
theorem Nv(N:Nat)(k0:Int->List (List UInt8)->Int->Bool->List UInt8->List (List UInt8)->O)(k1 k2:Unit->O)(w room:Nat)(whole:Bool)(done:List (List UInt8))(hw:w<=1000)(hr:room<=w):∀(n:Nat)(l:List (List UInt8))(cells:List UInt8),l.length<n->iL l->l.length<=100000->cells.length<=w-room->
    sC N n ((w:Int),l,(l.flatten.length:Int),whole,(room:Int),cells,done) (λy=>k0 y.1 y.2.1 y.2.2.1 y.2.2.2.1 y.2.2.2.2.1 y.2.2.2.2.2) k1 k2=k0 w (dF (w-room) l cells).2 ((dF (w-room) l cells).2.flatten.length:Int) whole (dF (w-room) l cells).1 done
 |0,_,_,h,_,_,_=>by omega
 |n+1,l,cells,h,hl,hll,hcl=>by
   show IJ N _ _ (w:Int) whole (room:Int) l (l.flatten.length:Int) cells done=_;unfold IJ
   match l,h,hl,hll with
   |[],h,hl,hll=>rfl
   |c::l,h,hl,hll=>
     have hc:=hl c jF;have hl':iL l:=λx hx=>hl x (gF _ hx)
     have hf:=hl'.flat;rw[dK]at h hll;obtain⟨p1,p2,p3,p4⟩:=aGD N c w room cells done;rw[aL (show(0:Int)<((c::l).length:Int)by rw[dK];omega),bJ,tI,aP p1,p2,p3,p4,wr (x:=(cells.length:Int)+(c.length:Int)) (by omega) (by omega),wr (by omega) (by omega)];unfold dF;by_cases hfit:cells.length+c.length<=w-room
     .obtain⟨q1,q2,q3⟩:=Um N (c:=c) (a:=cells) done (by rw[bF];omega)
      have hsl:cA (c::l) (some (1:Int)) none=l:=rfl;have hlen:aS.wrap (((c::l).flatten.length:Int)-(c.length:Int))=(l.flatten.length:Int):=by
       rw[fR,bF,wr (by omega) (by omega)];omega
      rw[aL (show(cells.length:Int)+(c.length:Int)+(room:Int)<=(w:Int)by omega),bJ,tI,aP q1,tI,aP (show dJ (c::l).length (some (1:Int)) none=true from aL ⟨by omega,by rw[dK];omega⟩),q2,q3,hsl,hlen,aE hfit];exact Nv N k0 k1 k2 w room whole done hw hr n l (cells++c) (by omega) hl' (by omega) (by rw[bF];exact hfit)
     .rw[aZ (show ¬ (cells.length:Int)+(c.length:Int)+(room:Int)<=(w:Int)by omega),bL,aC hfit]
theorem Nu(N:Nat)(k0:List (List UInt8)->O)(k1 k2:Unit->O)(w:Nat)(hw:4<=w)(hw2:w<=1000):∀(n:Nat)(l:List (List UInt8))(done:List (List UInt8)),l.length+1<n->l.length<N->iL l->l.length<=100000->l.length+done.length<=200000->
    oY N n ((w:Int),l,(l.flatten.length:Int),done) k0 k1 k2=k0 (done++if l.flatten.length=0 then[]else iA w l)
 |0,_,_,h,_,_,_,_=>by omega
 |n+1,l,done,h,hN,hl,hll,hd=>by
   show II N (ID N) (IC N) _ _ (w:Int) l (l.flatten.length:Int) done=_;unfold II;have hf:=hl.flat;by_cases h0:l.flatten.length=0
   .rw[aZ (show ¬ (0:Int)<(l.flatten.length:Int)by omega),bL,aE h0,kN]
   .rw[aL (show(0:Int)<(l.flatten.length:Int)by omega),bJ,aC h0,u0 hw hl]
    by_cases hwh:l.flatten.length<=w
    .rw[aL (show(l.flatten.length:Int)<=(w:Int)by omega),aE hwh]
     show sC N N ((w:Int),l,(l.flatten.length:Int),true,0,[],done) _ _ _=_;have hi:=Nv N (λz85 z86 z87 z88 z89 z90=>br (!z88) (ck (uD N [63] z89 z90) <|ck (rX N (oT N [63] z89 z90) (oU N [63] z89 z90)) <|oY N n (z85,z86,z87,rW N (oT N [63] z89 z90) (oU N [63] z89 z90)) k0 k1 k2) (ck (rX N z89 z90) <|oY N n (z85,z86,z87,rW N z89 z90) k0 k1 k2)) (λ_=>none) (λ_=>none) w 0 true done hw2 (dC _) N l [] hN hl hll (by simp);refine hi.trans ?_;rw[aCj (by rw[iJ];omega)];obtain⟨q1,q2⟩:=Uh N ([]++l.flatten) (d:=done) (by omega);rw[oP,bL,aP q1,q2];have:=Nu N k0 k1 k2 w hw hw2 n [] (done++[[]++l.flatten]) (by simp;omega) (by simp;omega) (λc hc=>by cases hc) (by simp) (by simp;omega);refine this.trans ?_;rw[aE (by rfl),kN,fK]
    .rw[aZ (show ¬ (l.flatten.length:Int)<=(w:Int)by omega),aC hwh]
     show sC N N ((w:Int),l,(l.flatten.length:Int),false,((1:Nat):Int),[],done) _ _ _=_;have hi:=Nv N (λz85 z86 z87 z88 z89 z90=>br (!z88) (ck (uD N [63] z89 z90) <|ck (rX N (oT N [63] z89 z90) (oU N [63] z89 z90)) <|oY N n (z85,z86,z87,rW N (oT N [63] z89 z90) (oU N [63] z89 z90)) k0 k1 k2) (ck (rX N z89 z90) <|oY N n (z85,z86,z87,rW N z89 z90) k0 k1 k2)) (λ_=>none) (λ_=>none) w 1 false done hw2 (by omega) N l [] hN hl hll (by simp);refine hi.trans ?_;have hne:l≠[]:=λe=>by subst e;simp at h0
     obtain⟨s1,s2,_⟩:=tJ (w-1) l [] (by simp);have s3:=tK hl hne (m:=w-1) (by omega);obtain⟨s4,s5⟩:=tL (m:=w-1) (row:=[]) hl (by simp);obtain⟨q1,q2,q3⟩:=Um N (c:=[63]) (a:=(dF (w-1) l []).1) done (by simp;omega);obtain⟨q4,q5⟩:=Uh N ((dF (w-1) l []).1++[63]) (d:=done) (by omega);rw[tX,bJ,aP q1,q2,q3,aP q4,q5];have:=Nu N k0 k1 k2 w hw hw2 n (dF (w-1) l []).2 (done++[(dF (w-1) l []).1++[63]]) (by omega) (by omega) s4 (by omega) (by simp;omega);refine this.trans ?_;have s6:=aO List.length s2;rw[bF,fK]at s6;rw[aC (by omega),fT];rfl
theorem aTq(s:List UInt8):1<=(cB s).length:=by
 have hpos:1<=(Lib.itoa ((s.length-(cL s).length:Nat):Int)).length:=by
  rw[Lib.itoa_nonneg,Lib.decDigits];split <;> simp
 unfold cB;rw[bF,iF];omega
def dZ(w:Nat)(s:List UInt8):List (List UInt8):=iA w (cB s)
theorem Wl{N w:Nat}{s:List UInt8}(hN:s.length+40<N)(hs:s.length<=20000)(hw:4<=w)(hw2:w<=1000):BL N s (w:Int)=some (dZ w s):=by
 have hl:=qS s;have hlen:(cB s).length<=s.length+22:=by
  unfold cB;rw[bF,iF];have h1:=Lib.itoa_length_le ((s.length-(cL s).length:Nat):Int) (by omega) (by omega);have h2:=uX s;split
  .simp;omega
  .rw[dK,iF];omega
 have hf:=hl.flat;have hp:=aTq s;have e65:Ay N s=true/\k7 N s=s:=⟨rfl,rfl⟩;have e35:C1 N s=true/\oB N s=cB s:=⟨aL hs,rfl⟩;unfold BL Wp Nw Np;rw[e65.2,aP e65.1,aP e35.1,e35.2,aP (O3 (by omega) (by omega) (by omega)),O2 (by omega) (by omega) (by omega)];refine(aO (λz:O=>z.bind Hy) (Nu N (λz=>some (D4 z)) (λ_=>none) (λ_=>none) w hw hw2 N (cB s) [] (by omega) (by omega) hl (by omega) (by simp;omega))).trans ?_;rw[aC (by omega)];rfl
theorem Wn{N w:Nat}{s:List UInt8}(hN:s.length+40<N)(hs:s.length<=20000)(hw:4<=w)(hw2:w<=1000):D5 N s (w:Int)=true:=by unfold D5;rw[Wl hN hs hw hw2];rfl
theorem Wm{N w:Nat}{s:List UInt8}(hN:s.length+40<N)(hs:s.length<=20000)(hw:4<=w)(hw2:w<=1000):xJ N s (w:Int)=dZ w s:=by unfold xJ;rw[Wl hN hs hw hw2];rfl
theorem FP{s:List UInt8}(hs:s.length<=20000):(cB s).length<=s.length+22:=by
 unfold cB;rw[bF,iF];have h1:=Lib.itoa_length_le ((s.length-(cL s).length:Nat):Int) (by omega) (by omega);have h2:=uX s;split
 .simp;omega
 .rw[dK,iF];omega
theorem WU(N:Nat)(k0:Int->List (List UInt8)->List (List UInt8)->List UInt8->O)(k1 k2:Unit->O)(w:Nat)(hw2:w<=1000)(out:List (List UInt8)):∀(n:Nat)(l:List (List UInt8))(row:List UInt8),l.length<n->iL l->row.length<=w-1->w<=row.length+l.flatten.length->1<=w->
    xD N n ((w:Int),l,out,row) (λy=>k0 y.1 y.2.1 y.2.2.1 y.2.2.2) k1 k2=k0 w (dF (w-1) l row).2 out (dF (w-1) l row).1
 |0,_,_,h,_,_,_,_=>by omega
 |n+1,l,row,h,hl,hr,hf,hw=>by
   show Hn N _ _ (w:Int) out l row=_;unfold Hn
   match l,h,hl,hf with
   |[],h,hl,hf=>simp at hf;omega
   |c::l,h,hl,hf=>
     have hc:=hl c jF;have hl':iL l:=λx hx=>hl x (gF _ hx)
     rw[dK]at h;rw[fR,bF]at hf;rw[tI,wr (x:=(row.length:Int)+(c.length:Int)) (by omega) (by omega),wr (by omega) (by omega)];unfold dF;by_cases hfit:row.length+c.length<=w-1
     .have hsl:cA (c::l) (some (1:Int)) none=l:=rfl
      rw[aL (show(row.length:Int)+(c.length:Int)+1<=(w:Int)by omega),bJ,tI,aP (eT (by rw[bF];omega) (by rw[bF];omega)),aP (show dJ (c::l).length (some (1:Int)) none=true from aL ⟨by omega,by rw[dK];omega⟩),hsl,aE hfit];exact WU N k0 k1 k2 w hw2 out n l (row++c) (by omega) hl' (by rw[bF];exact hfit) (by rw[bF];omega) hw
     .rw[aZ (show ¬ (row.length:Int)+(c.length:Int)+1<=(w:Int)by omega),bL,aC hfit]
theorem WT(N:Nat)(k0:List (List UInt8)->List (List UInt8)->O)(k1 k2:Unit->O)(w:Nat)(hw:4<=w)(hw2:w<=1000):∀(n:Nat)(l out:List (List UInt8)),l.length<n->l.length<N->iL l->l.length<=100000->l.length+out.length<=200000->
    ∃l' out',qC N n ((w:Int),l,out) (λy=>k0 y.1 y.2) k1 k2=k0 l' out'/\out'++[l'.flatten]=out++iA w l/\iL l'/\l'.length<=100000/\l'.length<=l.length/\out'.length<=200000
 |0,_,_,h,_,_,_,_=>by omega
 |n+1,l,out,h,hN,hl,hll,hd=>by
   have e:qC N (n+1) ((w:Int),l,out) (λy=>k0 y.1 y.2) k1 k2=Hm N (Hi N) (λv0 v1 v2=>qC N n (v0,v1,v2) (λy=>k0 y.1 y.2) k1 k2) (λy0 y1=>k0 y0 y1) (w:Int) l out:=rfl;rw[e];unfold Hm;have hf:=hl.flat;rw[aP (IZ (by omega) (by omega) (by omega)),IY (by omega) (by omega) (by omega),u0 hw hl];by_cases hwh:l.flatten.length<=w
   .rw[aZ (show ¬ (w:Int)<(l.flatten.length:Int)by omega),bL,aE hwh]
    exact⟨l,out,rfl,rfl,hl,hll,bX _,by omega⟩
   .have hne:l≠[]:=λe=>by subst e;simp at hwh
    obtain⟨s1,s2,_⟩:=tJ (w-1) l [] (by simp);have s3:=tK hl hne (m:=w-1) (by omega);obtain⟨s4,s5⟩:=tL (m:=w-1) (row:=[]) hl (by simp);obtain⟨l',out',r1,r2,r3,r4,r5,r6⟩:=WT N k0 k1 k2 w hw hw2 n (dF (w-1) l []).2 (out++[(dF (w-1) l []).1++[63]]) (by omega) (by omega) s4 (by omega) (by simp;omega);have hi:=WU N (λz48 z49 z50 z51=>ck (b8 (z51++[63]).length 1) <|ck (b8 (z50++[z51++[63]]).length 24) <|qC N n (z48,z49,z50++[z51++[63]]) (λy=>k0 y.1 y.2) k1 k2) (λ_=>none) (λ_=>none) w hw2 out N l [] hN hl (by simp) (by rw[iJ];omega) (by omega);rw[aL (show(w:Int)<(l.flatten.length:Int)by omega),bJ,aC hwh];refine⟨l',out',(hi.trans ?_).trans r1,by rw[r2,fT];rfl,r3,r4,by omega,r6⟩;rw[aP (eT (by simp;omega) (by simp;omega)),aP (eT (by simp;omega) (by simp;omega))]
theorem WV{N w:Nat}{s:List UInt8}(hN:s.length+40<N)(hs:s.length<=20000)(hw:4<=w)(hw2:w<=1000):BJ N s (w:Int)=some (dZ w s):=by
 have hl:=qS s;have hlen:=FP hs;have hf:=hl.flat;obtain⟨l',out',r1,r2,r3,r4,r5,r6⟩:=WT N (λz52 z53=>ck (lB N z52) <|ck (b8 (z53++[gG N z52]).length 24) <|some (D0 (z53++[gG N z52]))) (λ_=>none) (λ_=>none) w hw hw2 N (cB s) [] (by omega) (by omega) hl (by omega) (by simp;omega);unfold BJ WW Ng Nb;rw[aP (YP (by omega) hs),YO (by omega) hs];refine(aO (λz:O=>z.bind He) r1).trans ?_;have hf':=r3.flat;rw[aP (IZ (by omega) (by omega) (by omega)),IY (by omega) (by omega) (by omega),aP (eT (by simp;omega) (by simp;omega)),r2];rfl
theorem aIi{N w:Nat}{s:List UInt8}(hN:s.length+40<N)(hs:s.length<=20000)(hw:4<=w)(hw2:w<=1000):Hh N s (w:Int)=true:=by unfold Hh;rw[WV hN hs hw hw2];rfl
theorem aIh{N w:Nat}{s:List UInt8}(hN:s.length+40<N)(hs:s.length<=20000)(hw:4<=w)(hw2:w<=1000):DZ N s (w:Int)=dZ w s:=by unfold DZ;rw[WV hN hs hw hw2];rfl
end Go.Proofs
/- Encode and Lines, in plain words. -/
namespace Go.Proofs
open Go Go.Ax Go.Ax.aA
def LQ(l:List (List UInt8)):Bool:=decide (64<(l.length:Int))||l.any λs=>decide (80<(s.length:Int))
def gO(l:List (List UInt8))(w:Int):Int:=if LQ l=true then 4 else if(l.any λs=>!dD s)=true then 1 else if(decide (w<4)||decide (40<w))=true then 5 else 0
theorem Wu{N:Nat}{l:List (List UInt8)}{w:Int}(hN2:l.length<N)(hl:l.length<=1000000)(hs:∀s∈l,s.length<=1000000/\s.length<N):BN N l w=some (gO l w):=by
 have key:∀(b:Bool)(x y:O),(br b x y).bind xN=if b=true then x.bind xN else y.bind xN:=λb x y=>by cases b <;> rfl
 have ur:∀x:Int,(some (uJ x):O).bind xN=some x:=λ_=>rfl
 have p1:=aG3 (N:=N) (s:=l) (b:=λs=>decide (80<(s.length:Int))) (λx _=>VC N x) hl hN2;have y1:=aG2 (N:=N) (s:=l) (b:=λs=>decide (80<(s.length:Int))) (λx _=>VC N x) hl hN2;have p2:=aP0 (N:=N) (s:=l) (b:=λs=>!dD s) (λx hx=>Uy (hs x hx).2 (hs x hx).1) hl hN2;have y2:=aPZ (N:=N) (s:=l) (b:=λs=>!dD s) (λx hx=>Uy (hs x hx).2 (hs x hx).1) hl hN2;unfold BN Wy Ny gO LQ;rw[p1,y1,aP (Bool.or_true _),aP p2,y2];simp only[key,ur]
 repeat' split
 all_goals rfl
theorem Ww{N:Nat}{l:List (List UInt8)}{w:Int}(hN2:l.length<N)(hl:l.length<=1000000)(hs:∀s∈l,s.length<=1000000/\s.length<N):D7 N l w=true:=by unfold D7;rw[Wu hN2 hl hs];rfl
theorem Wv{N:Nat}{l:List (List UInt8)}{w:Int}(hN2:l.length<N)(hl:l.length<=1000000)(hs:∀s∈l,s.length<=1000000/\s.length<N):xM N l w=gO l w:=by unfold xM;rw[Wu hN2 hl hs];rfl
theorem W8(N:Nat)(k0:Int->O)(k1:List (List UInt8)->Int->O)(k2:Unit->O)(l:List (List UInt8))(w:Int)(hl:l.length<=1000000):∀(n i:Nat),l.length-i<n->i<=l.length->xG N n (l,w,(i:Int)) k0 (λy=>k1 y.1 y.2) k2=if((l.drop i).any λs=>decide (80<(s.length:Int)))=true then k0 4 else k1 l w
 |0,i,h,_=>by omega
 |n+1,i,h,hi=>by
   show Hx N _ _ _ l w (i:Int)=_;unfold Hx;by_cases hlt:i<l.length
   .have g:=bM hlt
    rw[aL (show(i:Int)<(l.length:Int)by omega),bJ,cU g,fZ g,rJ];cases hc:decide (80<(l[i].length:Int))with
    |true=>rw[bJ,oO,aE rfl]
    |false=>
      rw[bL,wr (by omega) (by omega),jG];exact W8 N k0 k1 k2 l w hl n (i+1) (by omega) (by omega)
   .rw[aZ (show ¬ (i:Int)<(l.length:Int)by omega),bL,fD (by omega)]
    rfl
theorem W7(N:Nat)(k0:Int->O)(k1:Int->O)(k2:Unit->O)(l:List (List UInt8))(w:Int)(hl:l.length<=1000000)(hs:∀s∈l,s.length<=1000000/\s.length<N):∀(n i:Nat),l.length-i<n->i<=l.length->uI N n (l,w,(i:Int)) k0 k1 k2=if((l.drop i).any λs=>!dD s)=true then k0 1 else k1 w
 |0,i,h,_=>by omega
 |n+1,i,h,hi=>by
   show Hw N _ _ _ l w (i:Int)=_;unfold Hw;by_cases hlt:i<l.length
   .have g:=bM hlt
    have hx:=hs _ (pV hlt);rw[aL (show(i:Int)<(l.length:Int)by omega),bJ,cU g,aP (aKb hx.2 hx.1),aKa hx.2 hx.1,fZ g,rJ];cases hc:dD l[i]with
    |false=>rw[tX,bJ,oO,aE rfl]
    |true=>
      rw[oP,bL,wr (by omega) (by omega),jG];exact W7 N k0 k1 k2 l w hl hs n (i+1) (by omega) (by omega)
   .rw[aZ (show ¬ (i:Int)<(l.length:Int)by omega),bL,fD (by omega)]
    rfl
theorem W9{N:Nat}{l:List (List UInt8)}{w:Int}(hN2:l.length<N)(hl:l.length<=1000000)(hs:∀s∈l,s.length<=1000000/\s.length<N):BK N l w=some (gO l w):=by
 unfold BK Wa Nl Ni Nh gO LQ;by_cases h64:(64:Int)<(l.length:Int)
 .rw[aL h64,bJ,oO,aE rfl];rfl
 .rw[aZ h64,bL,jG]
  have h0:=W8 N (λz4=>some (lA z4)) (λz5 z6=>uI N N (z5,z6,0) (λz11=>some (lA z11)) (λz12=>br (decide (z12<4)||decide (40<z12)) (some (lA 5)) (some (lA 0))) (λ_=>none)) (λ_=>none) l w hl N 0 (by omega) (dC _);have h1:=W7 N (λz11=>some (lA z11)) (λz12=>br (decide (z12<4)||decide (40<z12)) (some (lA 5)) (some (lA 0))) (λ_=>none) l w hl hs N 0 (by omega) (dC _);refine(aO (λz:O=>z.bind D3) h0).trans ?_;rw[fV]at h1 ⊢;split
  .rfl
  .refine(aO (λz:O=>z.bind D3) h1).trans ?_
   split
   .rfl
   .cases(decide (w<4)||decide (40<w)) <;> rfl
theorem aJE{N:Nat}{l:List (List UInt8)}{w:Int}(hN2:l.length<N)(hl:l.length<=1000000)(hs:∀s∈l,s.length<=1000000/\s.length<N):Hq N l w=true:=by unfold Hq;rw[W9 hN2 hl hs];rfl
theorem aJD{N:Nat}{l:List (List UInt8)}{w:Int}(hN2:l.length<N)(hl:l.length<=1000000)(hs:∀s∈l,s.length<=1000000/\s.length<N):D1 N l w=gO l w:=by unfold D1;rw[W9 hN2 hl hs];rfl
theorem C6{l:List (List UInt8)}{w:Int}(h:gO l w=0):l.length<=64/\(∀s∈l,s.length<=80)/\(∀s∈l,dD s=true)/\4<=w/\w<=40:=by
 unfold gO at h;split at h
 .cases h
 rename_i h1;split at h
 .cases h
 rename_i h2;split at h
 .cases h
 rename_i h3;unfold LQ at h1;simp only[Bool.or_eq_true,eC,not_or,jN,not_exists,not_and]at h1 h2 h3;refine⟨by omega,λs hs=>by have:=h1.2 s hs;omega,λs hs=>?_,by omega,by omega⟩;have:=h2 s hs;simpa using this
def eW(l:List (List UInt8))(w:Int):List (List UInt8)×Int:=if gO l w=0 then(l.flatMap (dZ w.toNat),0)else([],gO l w)
def C0(l:List (List UInt8))(w:Int):List Int×Int:=if gO l w=0 then(l.flatMap (λs=>[((dZ w.toNat s).length:Int)]),0)else([],gO l w)
theorem aVu{w:Nat}(hw:4<=w){s:List UInt8}(hs:s.length<=20000):(dZ w s).length<=s.length+23:=by
 have:=aBD hw _ (qS s) (bX _);have:=FP hs;unfold dZ;omega
theorem Ey{w:Nat}(hw:4<=w)(l:List (List UInt8))(hs:∀s∈l,s.length<=80)(i:Nat):((l.take i).flatMap (dZ w)).length<=103*l.length:=by
 induction l generalizing i with
 |nil=>simp
 |cons s l ih=>
   cases i with
   |zero=>simp
   |succ i=>
     rw[Th,fS,bF,dK];have:=ih (λx hx=>hs x (gF _ hx)) i;have:=aVu hw (s:=s) (by have:=hs s jF;omega);have:=hs s jF;omega
theorem aBY{w:Nat}(_hw:4<=w)(l:List (List UInt8))(hs:∀s∈l,s.length<=80)(i:Nat):((l.take i).flatMap (λs=>[((dZ w s).length:Int)])).length<=103*l.length:=by
 induction l generalizing i with
 |nil=>simp
 |cons s l ih=>
   cases i with
   |zero=>simp
   |succ i=>
     rw[Th,fS,bF,dK];have:=ih (λx hx=>hs x (gF _ hx)) i;simp only[dK,iJ];omega
theorem ZV(N:Nat)(k0:List (List UInt8)->O)(k1 k2:Unit->O)(w:Nat)(hw:4<=w)(hw2:w<=1000)(l:List (List UInt8))(hl:l.length<=64)(hs:∀s∈l,s.length<=80)(hN:200<=N):∀(n i:Nat),l.length-i<n->i<=l.length->zB N n ((w:Int),l,(l.length:Int),(i:Int),(l.take i).flatMap (dZ w)) k0 k1 k2=k0 (l.flatMap (dZ w))
 |0,i,h,_=>by omega
 |n+1,i,h,hi=>by
   show Jn N _ _ (w:Int) l (l.length:Int) (i:Int) ((l.take i).flatMap (dZ w))=_;unfold Jn;by_cases hlt:i<l.length
   .have g:=bM hlt
    have hx:=hs _ (pV hlt);have hb:=Ey hw l hs i;have hb':=Ey hw l hs (i+1);have e:(l.take i).flatMap (dZ w)++dZ w l[i]=(l.take (i+1)).flatMap (dZ w):=by
     rw[Fv hlt,Ad];simp
    rw[aL (show(i:Int)<(l.length:Int)by omega),bJ,cU g,aP (Wn (by omega) (by omega) hw hw2),Wm (by omega) (by omega) hw hw2,e,aP (eT (by omega) (by omega)),wr (by omega) (by omega)];exact ZV N k0 k1 k2 w hw hw2 l hl hs hN n (i+1) (by omega) (by omega)
   .rw[aZ (show ¬ (i:Int)<(l.length:Int)by omega),bL,iS (by omega)]
theorem P9{N:Nat}{l:List (List UInt8)}{w:Int}(hN:200<=N)(hN2:l.length<N)(hl:l.length<=1000000)(hs:∀s∈l,s.length<=1000000/\s.length<N):zA N l w=some (eW l w):=by
 unfold zA ZW Pd P5 eW;rw[aP (Ww hN2 hl hs),Wv hN2 hl hs];by_cases h:gO l w=0
 .obtain⟨h1,h2,_,h4,h5⟩:=C6 h
  obtain⟨v,rfl⟩:∃v:Nat,w=v:=⟨w.toNat,by omega⟩
  rw[h,aZ (by decide),bL];refine(aO (λz:O=>z.bind Jk) (ZV N (λz=>some (Bg z 0)) (λ_=>none) (λ_=>none) v (by omega) (by omega) l h1 h2 hN N 0 (by omega) (dC _))).trans ?_;rw[aE rfl,iT];rfl
 .rw[aL h,bJ,aC h]
  rfl
theorem Pc{N:Nat}{l:List (List UInt8)}{w:Int}(hN:200<=N)(hN2:l.length<N)(hl:l.length<=1000000)(hs:∀s∈l,s.length<=1000000/\s.length<N):Bh N l w=true:=by unfold Bh;rw[P9 hN hN2 hl hs];rfl
theorem Pb{N:Nat}{l:List (List UInt8)}{w:Int}(hN:200<=N)(hN2:l.length<N)(hl:l.length<=1000000)(hs:∀s∈l,s.length<=1000000/\s.length<N):sS N l w=(eW l w).1:=by unfold sS;rw[P9 hN hN2 hl hs];rfl
theorem Pa{N:Nat}{l:List (List UInt8)}{w:Int}(hN:200<=N)(hN2:l.length<N)(hl:l.length<=1000000)(hs:∀s∈l,s.length<=1000000/\s.length<N):sR N l w=(eW l w).2:=by unfold sR;rw[P9 hN hN2 hl hs];rfl
theorem ZN(N:Nat)(k0:List (List UInt8)->O)(k1 k2:Unit->O)(w:Nat)(hw:4<=w)(hw2:w<=1000)(l:List (List UInt8))(hl:l.length<=64)(hs:∀s∈l,s.length<=80)(hN:200<=N):∀(n i:Nat),l.length-i<n->i<=l.length->yY N n (l,(w:Int),(i:Int),(l.take i).flatMap (dZ w)) k0 k1 k2=k0 (l.flatMap (dZ w))
 |0,i,h,_=>by omega
 |n+1,i,h,hi=>by
   show Jj N _ _ l (w:Int) (i:Int) ((l.take i).flatMap (dZ w))=_;unfold Jj;by_cases hlt:i<l.length
   .have g:=bM hlt
    have hx:=hs _ (pV hlt);have hb:=Ey hw l hs i;have hb':=Ey hw l hs (i+1);have e:(l.take i).flatMap (dZ w)++dZ w l[i]=(l.take (i+1)).flatMap (dZ w):=by
     rw[Fv hlt,Ad];simp
    rw[aL (show(i:Int)<(l.length:Int)by omega),bJ,cU g,aP (aIi (by omega) (by omega) hw hw2),aIh (by omega) (by omega) hw hw2,e,aP (eT (by omega) (by omega)),wr (by omega) (by omega)];exact ZN N k0 k1 k2 w hw hw2 l hl hs hN n (i+1) (by omega) (by omega)
   .rw[aZ (show ¬ (i:Int)<(l.length:Int)by omega),bL,iS (by omega)]
theorem P3{N:Nat}{l:List (List UInt8)}{w:Int}(hN:200<=N)(hN2:l.length<N)(hl:l.length<=1000000)(hs:∀s∈l,s.length<=1000000/\s.length<N):yX N l w=some (eW l w):=by
 unfold yX ZQ P4 PY eW;rw[aP (aJE hN2 hl hs),aJD hN2 hl hs];by_cases h:gO l w=0
 .obtain⟨h1,h2,_,h4,h5⟩:=C6 h
  obtain⟨v,rfl⟩:∃v:Nat,w=v:=⟨w.toNat,by omega⟩
  rw[h,aZ (by decide),bL];refine(aO (λz:O=>z.bind Jg) (ZN N (λz=>some (Bf z 0)) (λ_=>none) (λ_=>none) v (by omega) (by omega) l h1 h2 hN N 0 (by omega) (dC _))).trans ?_;rw[aE rfl,iT];rfl
 .rw[aL h,bJ,aC h]
  rfl
theorem ZP{N:Nat}{l:List (List UInt8)}{w:Int}(hN:200<=N)(hN2:l.length<N)(hl:l.length<=1000000)(hs:∀s∈l,s.length<=1000000/\s.length<N):EB N l w=true:=by unfold EB;rw[P3 hN hN2 hl hs];rfl
theorem ZO{N:Nat}{l:List (List UInt8)}{w:Int}(hN:200<=N)(hN2:l.length<N)(hl:l.length<=1000000)(hs:∀s∈l,s.length<=1000000/\s.length<N):uS N l w=(eW l w).1:=by unfold uS;rw[P3 hN hN2 hl hs];rfl
theorem aNU{N:Nat}{l:List (List UInt8)}{w:Int}(hN:200<=N)(hN2:l.length<N)(hl:l.length<=1000000)(hs:∀s∈l,s.length<=1000000/\s.length<N):EA N l w=(eW l w).2:=by unfold EA;rw[P3 hN hN2 hl hs];rfl
theorem ZH(N:Nat)(k0:List (Int)->O)(k1 k2:Unit->O)(w:Nat)(hw:4<=w)(hw2:w<=1000)(l:List (List UInt8))(hl:l.length<=64)(hs:∀s∈l,s.length<=80)(hN:200<=N):∀(n i:Nat),l.length-i<n->i<=l.length->yV N n ((w:Int),l,(l.length:Int),(i:Int),(l.take i).flatMap (λs=>[((dZ w s).length:Int)])) k0 k1 k2=k0 (l.flatMap (λs=>[((dZ w s).length:Int)]))
 |0,i,h,_=>by omega
 |n+1,i,h,hi=>by
   show Jf N _ _ (w:Int) l (l.length:Int) (i:Int) ((l.take i).flatMap (λs=>[((dZ w s).length:Int)]))=_;unfold Jf;by_cases hlt:i<l.length
   .have g:=bM hlt
    have hx:=hs _ (pV hlt);have hb:=aBY hw l hs i;have hb':=aBY hw l hs (i+1);have e:(l.take i).flatMap (λs=>[((dZ w s).length:Int)])++[((dZ w l[i]).length:Int)]=(l.take (i+1)).flatMap (λs=>[((dZ w s).length:Int)]):=by
     rw[Fv hlt,Ad];simp
    rw[aL (show(i:Int)<(l.length:Int)by omega),bJ,cU g,aP (Wn (by omega) (by omega) hw hw2),Wm (by omega) (by omega) hw hw2,e,aP (eT (by omega) (by omega)),wr (by omega) (by omega)];exact ZH N k0 k1 k2 w hw hw2 l hl hs hN n (i+1) (by omega) (by omega)
   .rw[aZ (show ¬ (i:Int)<(l.length:Int)by omega),bL,iS (by omega)]
theorem PW{N:Nat}{l:List (List UInt8)}{w:Int}(hN:200<=N)(hN2:l.length<N)(hl:l.length<=1000000)(hs:∀s∈l,s.length<=1000000/\s.length<N):yT N l w=some (C0 l w):=by
 unfold yT ZI PX PT C0;rw[aP (Ww hN2 hl hs),Wv hN2 hl hs];by_cases h:gO l w=0
 .obtain⟨h1,h2,_,h4,h5⟩:=C6 h
  obtain⟨v,rfl⟩:∃v:Nat,w=v:=⟨w.toNat,by omega⟩
  rw[h,aZ (by decide),bL];refine(aO (λz:O=>z.bind Jb) (ZH N (λz=>some (Be z 0)) (λ_=>none) (λ_=>none) v (by omega) (by omega) l h1 h2 hN N 0 (by omega) (dC _))).trans ?_;rw[aE rfl,iT];rfl
 .rw[aL h,bJ,aC h]
  rfl
theorem aNI{N:Nat}{l:List (List UInt8)}{w:Int}(hN:200<=N)(hN2:l.length<N)(hl:l.length<=1000000)(hs:∀s∈l,s.length<=1000000/\s.length<N):Jd N l w=true:=by unfold Jd;rw[PW hN hN2 hl hs];rfl
theorem aNH{N:Nat}{l:List (List UInt8)}{w:Int}(hN:200<=N)(hN2:l.length<N)(hl:l.length<=1000000)(hs:∀s∈l,s.length<=1000000/\s.length<N):yU N l w=(C0 l w).1:=by unfold yU;rw[PW hN hN2 hl hs];rfl
theorem aNG{N:Nat}{l:List (List UInt8)}{w:Int}(hN:200<=N)(hN2:l.length<N)(hl:l.length<=1000000)(hs:∀s∈l,s.length<=1000000/\s.length<N):Dz N l w=(C0 l w).2:=by unfold Dz;rw[PW hN hN2 hl hs];rfl
end Go.Proofs
/- Read, in plain words. -/
namespace Go.Proofs
open Go Go.Ax Go.Ax.aA
theorem WD(N:Nat)(k0:Bool->O)(k1 k2:Unit->O)(a b:List (List UInt8))(hab:a.length=b.length)(ha:a.length<=1000000):∀(n i:Nat),a.length-i<n->i<=a.length->w7 N n (b,a,(a.length:Int),(i:Int)) k0 k1 k2=if a.drop i=b.drop i then k1 ()else k0 false
 |0,i,h,_=>by omega
 |n+1,i,h,hi=>by
   show Hb N _ _ _ b a (a.length:Int) (i:Int)=_;unfold Hb;by_cases hlt:i<a.length
   .have ga:=bM hlt
    have gb:=bM (l:=b) (i:=i) (by omega);rw[aL (show(i:Int)<(a.length:Int)by omega),bJ,cU ga,cU gb,aP (qE N _ _).1,(qE N _ _).2,fZ ga,fZ gb];by_cases he:a[i]=b[i]
    .rw[aL he,oP,bL,wr (by omega) (by omega)]
     refine(WD N k0 k1 k2 a b hab ha n (i+1) (by omega) (by omega)).trans ?_;by_cases hd:a.drop (i+1)=b.drop (i+1)
     .rw[aE hd,aE (by rw[he,hd])]
     .rw[aC hd,aC (λh=>hd (tU h).2)]
    .rw[aZ he,tX,bJ,aC (λh=>he (tU h).1)]
   .rw[aZ (show ¬ (i:Int)<(a.length:Int)by omega),bL,fD (by omega),fD (by omega),aE rfl]
theorem WE{N:Nat}{a b:List (List UInt8)}(hN:a.length<N)(ha:a.length<=1000000):BI N a b=some (decide (a=b)):=by
 unfold BI WG N7 N4;by_cases hab:a.length=b.length
 .rw[aZ (show ¬ ((a.length:Int)≠(b.length:Int))by omega),bL]
  have:=WD N (λz=>some (uH z)) (λ_=>some (uH true)) (λ_=>none) a b hab ha N 0 (by omega) (dC _);refine(aO (λz:O=>z.bind H6) this).trans ?_;rw[fV,fV];by_cases h:a=b
  .rw[aE h,aL h];rfl
  .rw[aC h,aZ h];rfl
 .rw[aL (show(a.length:Int)≠(b.length:Int)by omega),bJ,aZ (λh=>hab (by rw[h]))]
  rfl
theorem aIQ{N:Nat}{a b:List (List UInt8)}(hN:a.length<N)(ha:a.length<=1000000):H8 N a b=true:=by unfold H8;rw[WE hN ha];rfl
theorem aIP{N:Nat}{a b:List (List UInt8)}(hN:a.length<N)(ha:a.length<=1000000):H5 N a b=decide (a=b):=by unfold H5;rw[WE hN ha];rfl
theorem Zj{N:Nat}{l:List UInt8}(hN:200<=N)(hN2:2*l.length<N)(hl:l.length<=20000):EI N l=true:=by unfold EI;rw[Ps hN hN2 hl];rfl
theorem Zi{N:Nat}{l:List UInt8}(hN:200<=N)(hN2:2*l.length<N)(hl:l.length<=20000):fM N l=(eP l).1:=by unfold fM;rw[Ps hN hN2 hl];rfl
theorem Zh{N:Nat}{l:List UInt8}(hN:200<=N)(hN2:2*l.length<N)(hl:l.length<=20000):EG N l=(eP l).2:=by unfold EG;rw[Ps hN hN2 hl];rfl
theorem aNr{N:Nat}{l:List UInt8}(hN2:2*l.length<N)(hl:l.length<=20000):EF N l=true:=by unfold EF;rw[Pk hN2 hl];rfl
theorem aNq{N:Nat}{l:List UInt8}(hN2:2*l.length<N)(hl:l.length<=20000):lC N l=(eP l).1:=by unfold lC;rw[Pk hN2 hl];rfl
theorem aNp{N:Nat}{l:List UInt8}(hN2:2*l.length<N)(hl:l.length<=20000):ED N l=(eP l).2:=by unfold ED;rw[Pk hN2 hl];rfl
theorem Fb(l:List UInt8):(eP l).1.length<=l.length:=by
 unfold eP;cases hd:fQ l with
 |none=>simp
 |some s=>
   have:=(Ll l.length (bX _) hd).2;show(if _ then _ else _:List UInt8×Int).1.length<=_;split
   .exact this
   .simp
def iD(l:List UInt8):List UInt8:=l.takeWhile (· != 0)
def l4(l:List UInt8):List UInt8:=(l.dropWhile (· != 0)).drop 1
def tP(l:List UInt8):Bool:=decide ((eP (iD l)).2≠0)||decide (lS 0 (eP (iD l)).1≠1)||decide (eA 0 (eP (iD l)).1<0)||decide (80<eA 0 (eP (iD l)).1)
def F9(l:List UInt8):List UInt8:=if l.contains 0=true then(eP (l4 l)).1 else[]
def vF(l:List UInt8):List UInt8:=Lib.repeatL [32] (eA 0 (eP (iD l)).1).toNat++F9 l
def iU(l:List UInt8):List UInt8×Bool:=if tP l=true then([],false)else if(l.contains 0&&decide ((eP (l4 l)).2≠0))=true then([],false)else(vF l,decide ((cB (vF l)).flatten=l))
theorem aBK(n:Nat):(Lib.repeatL [32] n).length=n:=by
 induction n with
 |zero=>rfl
 |succ n ih=>
   show([32]++Lib.repeatL [32] n).length=_;rw[bF,ih];simp;omega
theorem aC3(l:List UInt8):(iD l).length<=l.length/\(l4 l).length<=l.length:=by
 constructor
 .exact(List.takeWhile_sublist _).length_le
 .unfold l4
  rw[List.length_drop];have:=(List.dropWhile_sublist (l:=l) (· != 0)).length_le;omega
theorem N8{N:Nat}{l:List UInt8}(hN:60000<=N)(hl:l.length<=15000):xA N l=some (iU l):=by
 have key:∀(b:Bool)(x y:O),(br b x y).bind xB=if b=true then x.bind xB else y.bind xB:=λb x y=>by cases b <;> rfl
 have hh:=aC3 l;have y0:fY N l [0]=iD l:=rfl;have y1:lT N l [0]=l4 l:=rfl;have y2:DC N l [0]=l.contains 0:=rfl;have z0:∀s,eA N s=eA 0 s:=λ_=>rfl
 have z1:∀s,lS N s=lS 0 s:=λ_=>rfl
 have hch:=Fb (iD l);have hcr:=Fb (l4 l);unfold xA WK N9 iU;rw[aP (show Gg N l [0]=true from aL ⟨by omega,rfl⟩),y0,y1,y2,aP (Zj (by omega) (by omega) (by omega)),Zi (l:=iD l) (by omega) (by omega) (by omega),Zh (l:=iD l) (by omega) (by omega) (by omega),aP (show Gf N (eP (iD l)).1=true from aL (by omega)),z0,z1];show Option.bind (br (tP l) _ _) xB=_;rw[key];cases hb:tP l with
 |true=>rfl
 |false=>
   rw[aC (by decide),aC (by decide)];have hn:0<=eA 0 (eP (iD l)).1/\eA 0 (eP (iD l)).1<=80:=by
    unfold tP at hb;simp only[ML,Lk]at hb;omega
   have hp71:DB N [32] (eA 0 (eP (iD l)).1)=true:=aL ⟨hn.1,by omega,by decide⟩;have hy71:kP N [32] (eA 0 (eP (iD l)).1)=Lib.repeatL [32] (eA 0 (eP (iD l)).1).toNat:=rfl;have hrl:=aBK (eA 0 (eP (iD l)).1).toNat;have fin:∀s:List UInt8,s.length<=15080->Ay N s=true/\k7 N s=s/\C1 N s=true/\oB N s=cB s/\uK N (cB s)=true/\qF N (cB s)=(cB s).flatten:=λs hs=>by
    have h1:=FP (s:=s) (by omega);have h2:=(qS s).flat;exact⟨rfl,rfl,aL (by omega),rfl,O3 (by omega) (by omega) (by omega),O2 (by omega) (by omega) (by omega)⟩
   unfold vF F9;cases hm:l.contains 0 with
   |true=>
     rw[bJ,aP (Zj (by omega) (by omega) (by omega)),Zi (l:=l4 l) (by omega) (by omega) (by omega),Zh (l:=l4 l) (by omega) (by omega) (by omega),lM,key];by_cases he:(eP (l4 l)).2≠0
     .rw[aL he,aE rfl,aE rfl]
      rfl
     .rw[aZ he,aC (by decide),aC (by decide),aE rfl]
      obtain⟨f1,f2,f3,f4,f5,f6⟩:=fin (Lib.repeatL [32] (eA 0 (eP (iD l)).1).toNat++(eP (l4 l)).1) (by rw[bF];omega);rw[aP hp71,hy71,aP (aL (by omega)),aP f1,f2,aP f3,f4,aP f5,f6,aP (qE N _ _).1,(qE N _ _).2];rfl
   |false=>
     rw[bL,Bool.false_and,aC (by decide),aC (by decide)];obtain⟨f1,f2,f3,f4,f5,f6⟩:=fin (Lib.repeatL [32] (eA 0 (eP (iD l)).1).toNat++[]) (by rw[bF,iJ];omega);rw[aP hp71,hy71,aP (aL (by omega)),aP f1,f2,aP f3,f4,aP f5,f6,aP (qE N _ _).1,(qE N _ _).2];rfl
theorem aI0{N:Nat}{l:List UInt8}(hN:60000<=N)(hl:l.length<=15000):Hd N l=true:=by unfold Hd;rw[N8 hN hl];rfl
theorem aIZ{N:Nat}{l:List UInt8}(hN:60000<=N)(hl:l.length<=15000):DX N l=(iU l).1:=by unfold DX;rw[N8 hN hl];rfl
theorem aIY{N:Nat}{l:List UInt8}(hN:60000<=N)(hl:l.length<=15000):Hc N l=(iU l).2:=by unfold Hc;rw[N8 hN hl];rfl
theorem aEI(l:List UInt8):(iU l).1.length<=l.length+80:=by
 unfold iU;split
 .simp
 rename_i hb;split
 .simp
 .have hb:tP l=false:=by simpa using hb
  unfold tP at hb;simp only[ML,Lk]at hb;show(vF l).length<=_;unfold vF F9;have h1:=aBK (eA 0 (eP (iD l)).1).toNat;have h2:=Fb (l4 l);have h3:=aC3 l;rw[bF,h1];split
  .omega
  .simp;omega
end Go.Proofs
/- Read, in plain words: the rows. -/
namespace Go.Proofs
open Go Go.Ax Go.Ax.aA
def gN(r:List UInt8):Bool:=decide (r.getLast?=some 63)
def gU(r:List UInt8):List UInt8:=if gN r=true then r.dropLast else r
def jT:List (List UInt8)->List (List UInt8)->List UInt8->Option (List (List UInt8))
 |[],out,_=>some out
 |r::p,out,now=>if(gN r&&!p.isEmpty)=true then jT p out (now++gU r)else if(gN r||!(iU (now++gU r)).2)=true then none else jT p (out++[(iU (now++gU r)).1]) []
def j0(out p:List (List UInt8)):Bool:=(fJ 37).any λi=>decide (eW out ((4+i:Nat):Int)=(p,0))
def kU(p:List (List UInt8)):List (List UInt8)×Int:=match jT p [] []with
 |none=>([],2)
 |some out=>if j0 out p=true then(out,0)else([],2)
theorem K3(r:List UInt8):(gU r).length<=r.length:=by
 unfold gU;split
 .rw[List.length_dropLast];omega
 .exact bX _
theorem PD(N:Nat)(hN:60000<=N)(k0:Int->O)(k1:List (List UInt8)->List (List UInt8)->O)(k2:Unit->O)(p:List (List UInt8))(e:Int)(hp:p.length<=50000):∀(n i:Nat)(out:List (List UInt8))(now:List UInt8),p.length-i<n->i<=p.length->out.length<=i->now.length+(p.drop i).flatten.length<=15000->
    yK N n (p,e,p,(p.length:Int),(i:Int),out,now) k0 (λy=>k1 y.1 y.2) k2=match jT (p.drop i) out now with
     |none=>k0 2
     |some o=>k1 p o
  |0,i,_,_,h,_,_,_=>by omega
  |n+1,i,out,now,h,hi,ho,hf=>by
    show JX N (Du N) _ _ _ p e p (p.length:Int) (i:Int) out now=_;unfold JX;by_cases hlt:i<p.length
    .have g:=bM hlt
     have hd:=fZ g;rw[hd,fR,bF]at hf;have ei:aS.wrap ((i:Int)+1)=((i+1:Nat):Int):=by rw[wr (by omega) (by omega)];omega
     rw[aL (show(i:Int)<(p.length:Int)by omega),bJ,cU g,hd];generalize p[i]=r at hf ⊢;have hsl:=K3 r;have hgo:∀k:UInt8->O,gc (decide ((0:Int)<(r.length:Int))) (0:UInt8) r (aS.wrap ((r.length:Int)-1)) k=k (r.getLast?.getD 0):=λk=>by
      rcases Tj r with rfl|⟨t,c,rfl⟩
      .rfl
      .rw[Fz]at *
       have hl:((t++[c]).length:Int)=(t.length:Int)+1:=by simp
       rw[bF]at hf;have ew:aS.wrap ((t.length:Int)+1-1)=((t.length:Nat):Int):=by rw[wr (by omega) (by omega)];omega
       rw[hl,aL (by omega),vM,ew,cU (y:=c) (by simp)];simp
     have hgoes:(decide ((0:Int)<(r.length:Int))&&decide (r.getLast?.getD 0=63))=gN r:=by
      unfold gN;rcases Tj r with rfl|⟨t,c,rfl⟩
      .rfl
      .have hL:(t.concat c).getLast?=some c:=by rw[Fz];simp
       have hp:(0:Int)<((t.concat c).length:Int):=by rw[Fz,bF];simp
       rw[hL,aL hp,lM];simp
     rw[hgo,hgoes];have hstep:∀k:List (List UInt8)->Int->List (List UInt8)->Int->Int->Int->List UInt8->Bool->List (List UInt8)->List UInt8->O,Du N p e p (p.length:Int) (i:Int) (i:Int) r (gN r) out now k=k p e p (p.length:Int) (i:Int) (i:Int) (gU r) (gN r) out now:=λk=>by
      show JY N k p e p (p.length:Int) (i:Int) (i:Int) r (gN r) out now=_;unfold JY gU;cases hg:gN r with
      |false=>rfl
      |true=>
        have hpos:1<=r.length:=by
         unfold gN at hg;cases r with
         |nil=>cases hg
         |cons c t=>simp
        have ew:aS.wrap ((r.length:Int)-1)=((r.length-1:Nat):Int):=by rw[wr (by omega) (by omega)];omega
        have hsl:cA r none (some ((r.length-1:Nat):Int))=r.dropLast:=by
         show r.take (((r.length-1:Nat):Int)).toNat=_;rw[iT,List.dropLast_eq_take]
        rw[bJ,ew,aP (show dJ r.length none (some ((r.length-1:Nat):Int))=true from aL ⟨by omega,by omega⟩),hsl,aE rfl]
     rw[hstep,aP (eT (by rw[bF];omega) (by rw[bF];omega)),ei];have hemp:decide (((i+1:Nat):Int)<(p.length:Int))=!(p.drop (i+1)).isEmpty:=by
      by_cases h1:i+1<p.length
      .rw[aL (by omega)]
       cases hq:p.drop (i+1)with
       |nil=>rw[List.drop_eq_nil_iff]at hq;omega
       |cons _ _=>rfl
      .rw[aZ (by omega),fD (by omega)];rfl
     rw[hemp];show _=match(if(gN r&&!(p.drop (i+1)).isEmpty)=true then jT (p.drop (i+1)) out (now++gU r)else if(gN r||!(iU (now++gU r)).2)=true then none else jT (p.drop (i+1)) (out++[(iU (now++gU r)).1]) [])with
      |none=>k0 2
      |some o=>k1 p o
     cases hc:gN r&&!(p.drop (i+1)).isEmpty with
     |true=>
       rw[bJ,aE rfl];exact PD N hN k0 k1 k2 p e hp n (i+1) out (now++gU r) (by omega) (by omega) (by omega) (by rw[bF];omega)
     |false=>
       rw[bL,aC (by decide),aP (aI0 hN (by rw[bF];omega)),aIY hN (by rw[bF];omega),aIZ hN (by rw[bF];omega)];cases hw:gN r||!(iU (now++gU r)).2 with
       |true=>rw[bJ,aE rfl]
       |false=>
         rw[bL,aC (by decide),aP (eT (by simp;omega) (by simp;omega))];exact PD N hN k0 k1 k2 p e hp n (i+1) (out++[(iU (now++gU r)).1]) [] (by omega) (by omega) (by simp;omega) (by rw[iJ];omega)
    .rw[aZ (show ¬ (i:Int)<(p.length:Int)by omega),bL,fD (by omega)]
     rfl
theorem Ko:∀{p out:List (List UInt8)}{now:List UInt8}{o:List (List UInt8)},jT p out now=some o->(∀s∈out,s.length<=15080)->now.length+p.flatten.length<=15000->(∀s∈o,s.length<=15080)/\o.length<=out.length+p.length
 |[],out,now,o,h,ho,_=>by cases h;exact⟨ho,bX _⟩
 |r::p,out,now,o,h,ho,hf=>by
   rw[fR,bF]at hf;have hsl:=K3 r;unfold jT at h;split at h
   .obtain⟨h1,h2⟩:=Ko h ho (by rw[bF];omega)
    exact⟨h1,by rw[dK];omega⟩
   .split at h
    .cases h
    .have hw:=aEI (now++gU r)
     rw[bF]at hw;obtain⟨h1,h2⟩:=Ko h (λs hs=>by
      rcases List.mem_append.1 hs with h|h
      .exact ho s h
      .rw[lL.1 h];omega) (by rw[iJ];omega)
     exact⟨h1,by rw[bF,List.length_singleton]at h2;rw[dK];omega⟩
theorem Yh(N:Nat)(hN:60000<=N)(k0:Int->List (List UInt8)->O)(k1 k2:Unit->O)(p out:List (List UInt8))(hp:p.length<=50000)(ho:out.length<=50000)(hs:∀s∈out,s.length<=15080):∀(n i:Nat),37-i<n->i<=37->
    uP N n (p,((4+i:Nat):Int),out) (λy=>k0 y.1 y.2) k1 k2=if(((fJ 37).drop i).any λi=>decide (eW out ((4+i:Nat):Int)=(p,0)))=true then k0 0 out else k1 ()
 |0,i,h,_=>by omega
 |n+1,i,h,hi=>by
   show JW N _ _ _ p out ((4+i:Nat):Int)=_;unfold JW;have hs':∀s∈out,s.length<=1000000/\s.length<N:=λs h=>by have:=hs s h;omega
   by_cases hlt:i<37
   .have g:(fJ 37)[i]?=some i:=List.getElem?_range hlt
    rw[aL (show((4+i:Nat):Int)<=40 by omega),bJ,aP (Pc (by omega) (by omega) (by omega) hs'),Pa (by omega) (by omega) (by omega) hs',Pb (by omega) (by omega) (by omega) hs',aP (by rw[aIQ (by omega) (by omega),Bool.or_true]),aIP (by omega) (by omega),fZ g,rJ];have hc:(decide ((eW out ((4+i:Nat):Int)).2=0)&&decide (p=(eW out ((4+i:Nat):Int)).1))=decide (eW out ((4+i:Nat):Int)=(p,0)):=by
     rw[Bool.eq_iff_iff];simp only[Bool.and_eq_true,eC,Prod.ext_iff];exact⟨λh=>⟨h.2.symm,h.1⟩,λh=>⟨h.2,h.1.symm⟩⟩
    rw[hc];cases hd:decide (eW out ((4+i:Nat):Int)=(p,0))with
    |true=>rw[bJ,oO,aE rfl]
    |false=>
      rw[bL,jG,wr (by omega) (by omega),show((4+i:Nat):Int)+1=((4+(i+1):Nat):Int)by omega];exact Yh N hN k0 k1 k2 p out hp ho hs n (i+1) (by omega) (by omega)
   .have:i=37:=by omega
    subst this;rfl
theorem PE{N:Nat}{p:List (List UInt8)}(hN:60000<=N)(hp:p.length<=50000)(hf:p.flatten.length<=15000):yI N p=some (kU p):=by
 unfold yI Yl PF Oy Ox kU;have h0:=PD N hN (λz63=>some (o7 [] z63)) (λz64 z65=>uP N N (z64,4,z65) (λy=>some (o7 y.2 y.1)) (λ_=>some (o7 [] 2)) (λ_=>none)) (λ_=>none) p 0 hp N 0 [] [] (by omega) (dC _) (bX _) (by rw[iJ,fV];omega);refine(aO (λz:O=>z.bind Dr) h0).trans ?_;rw[fV];cases hr:jT p [] []with
 |none=>rfl
 |some out=>
   obtain⟨h1,h2⟩:=Ko hr (λs h=>by cases h) (by rw[iJ];omega);rw[iJ]at h2;have hw:=Yh N hN (λz67 z68=>some (o7 z68 z67)) (λ_=>some (o7 [] 2)) (λ_=>none) p out hp (by omega) h1 N 0 (by omega) (by omega);refine(aO (λz:O=>z.bind Dr) hw).trans ?_;rw[fV];show _=some (if j0 out p=true then(out,0)else([],2));unfold j0;split <;> rfl
theorem Yk{N:Nat}{p:List (List UInt8)}(hN:60000<=N)(hp:p.length<=50000)(hf:p.flatten.length<=15000):Dt N p=true:=by unfold Dt;rw[PE hN hp hf];rfl
theorem Yj{N:Nat}{p:List (List UInt8)}(hN:60000<=N)(hp:p.length<=50000)(hf:p.flatten.length<=15000):uO N p=(kU p).1:=by unfold uO;rw[PE hN hp hf];rfl
theorem Yi{N:Nat}{p:List (List UInt8)}(hN:60000<=N)(hp:p.length<=50000)(hf:p.flatten.length<=15000):yJ N p=(kU p).2:=by unfold yJ;rw[PE hN hp hf];rfl
end Go.Proofs
/- The example of the document. -/
namespace Go.Proofs
open Go Go.Ax Go.Ax.aA
theorem Le:cB [32,32,120,123]=[[18],[0],[56],[32,59]]:=by
 have h:Lib.itoa ((([32,32,120,123]:List UInt8).length-(cL [32,32,120,123]).length:Nat):Int)=[50]:=by
  show Lib.itoa ((2:Nat):Int)=_;rw[Lib.itoa_nonneg,Lib.decDigits_one (by decide)];rfl
 unfold cB;rw[h];rfl
theorem aCm:cB []=[[16]]:=by
 have h:Lib.itoa ((([]:List UInt8).length-(cL []).length:Nat):Int)=[48]:=by
  show Lib.itoa ((0:Nat):Int)=_;rw[Lib.itoa_nonneg,Lib.decDigits_one (by decide)];rfl
 unfold cB;rw[h];rfl
theorem aV2:eW [[32,32,120,123],[]] 5=([[18,0,56,32,59],[16]],0):=by
 unfold eW;rw[aE (show gO [[32,32,120,123],[]] 5=0 from by decide)];show((iA 5 (cB [32,32,120,123]))++(iA 5 (cB [])++[]),(0:Int))=_;rw[Le,aCm];rfl
theorem aCn:eW [[32,32,120,123]] 4=([[18,0,56,63],[32,59]],0):=by
 unfold eW;rw[aE (show gO [[32,32,120,123]] 4=0 from by decide)];show((iA 4 (cB [32,32,120,123]))++[],(0:Int))=_;rw[Le];rfl
theorem aV1:C0 [[32,32,120,123],[]] 4=([2,1],0):=by
 unfold C0;rw[aE (show gO [[32,32,120,123],[]] 4=0 from by decide)];show([((iA 4 (cB [32,32,120,123])).length:Int)]++([((iA 4 (cB [])).length:Int)]++[]),(0:Int))=_;rw[Le,aCm];rfl
theorem aVZ:iU [18,0,56,32,59]=([32,32,120,123],true):=by
 have h1:tP [18,0,56,32,59]=false:=by kernel_rfl
 have h2:(([18,0,56,32,59]:List UInt8).contains 0&&decide ((eP (l4 [18,0,56,32,59])).2≠0))=false:=by kernel_rfl
 have h3:vF [18,0,56,32,59]=[32,32,120,123]:=by kernel_rfl
 unfold iU;rw[h1,aC (by decide),h2,aC (by decide),h3,Le];rfl
theorem aV0:kU [[18,0,56,63],[32,59]]=([[32,32,120,123]],0):=by
 have h:jT [[18,0,56,63],[32,59]] [] []=some [[32,32,120,123]]:=by
  show(if(gN [32,59]||!(iU [18,0,56,32,59]).2)=true then none else some ([]++[(iU [18,0,56,32,59]).1]))=_;rw[aVZ];rfl
 have h2:j0 [[32,32,120,123]] [[18,0,56,63],[32,59]]=true:=by
  unfold j0;rw[jN];exact⟨0,by simp,aL aCn⟩
 unfold kU;rw[h];show(if j0 [[32,32,120,123]] [[18,0,56,63],[32,59]]=true then _ else _)=_;rw[h2,aE rfl]
theorem ZA(N:Nat)(k0:Bool->O)(k1 k2:Unit->O)(a b:List (List UInt8))(hab:a.length=b.length)(ha:a.length<=1000000)(hr:∀x∈a,x.length<N/\x.length<=1000000):∀(n i:Nat),a.length-i<n->i<=a.length->yR N n (a,b,(i:Int)) k0 k1 k2=if a.drop i=b.drop i then k1 ()else k0 false
 |0,i,h,_=>by omega
 |n+1,i,h,hi=>by
   show Ja N _ _ _ a b (i:Int)=_;unfold Ja;by_cases hlt:i<a.length
   .have ga:=bM hlt
    have gb:=bM (l:=b) (i:=i) (by omega);have hx:=hr _ (pV hlt);rw[aL (show(i:Int)<(a.length:Int)by omega),bJ,cU ga,cU gb,aP (QE hx.1 hx.2),QD hx.1 hx.2,fZ ga,fZ gb];by_cases he:a[i]=b[i]
    .rw[aL he,oP,bL,wr (by omega) (by omega)]
     refine(ZA N k0 k1 k2 a b hab ha hr n (i+1) (by omega) (by omega)).trans ?_;by_cases hd:a.drop (i+1)=b.drop (i+1)
     .rw[aE hd,aE (by rw[he,hd])]
     .rw[aC hd,aC (λh=>hd (tU h).2)]
    .rw[aZ he,tX,bJ,aC (λh=>he (tU h).1)]
   .rw[aZ (show ¬ (i:Int)<(a.length:Int)by omega),bL,fD (by omega),fD (by omega),aE rfl]
theorem ZB{N:Nat}{a b:List (List UInt8)}(hN:a.length<N)(ha:a.length<=1000000)(hr:∀x∈a,x.length<N/\x.length<=1000000):Bb N a b=some (decide (a=b)):=by
 unfold Bb ZC PS PL;by_cases hab:a.length=b.length
 .rw[aZ (show ¬ ((a.length:Int)≠(b.length:Int))by omega),bL]
  have:=ZA N (λz=>some (uR z)) (λ_=>some (uR true)) (λ_=>none) a b hab ha hr N 0 (by omega) (dC _);refine(aO (λz:O=>z.bind J6) this).trans ?_;rw[fV,fV];by_cases h:a=b
  .rw[aE h,aL h];rfl
  .rw[aC h,aZ h];rfl
 .rw[aL (show(a.length:Int)≠(b.length:Int)by omega),bJ,aZ (λh=>hab (by rw[h]))]
  rfl
theorem PR{N:Nat}{a b:List (List UInt8)}(hN:a.length<N)(ha:a.length<=1000000)(hr:∀x∈a,x.length<N/\x.length<=1000000):yQ N a b=true:=by unfold yQ;rw[ZB hN ha hr];rfl
theorem PQ{N:Nat}{a b:List (List UInt8)}(hN:a.length<N)(ha:a.length<=1000000)(hr:∀x∈a,x.length<N/\x.length<=1000000):Bc N a b=decide (a=b):=by unfold Bc;rw[ZB hN ha hr];rfl
theorem aNc{N:Nat}(hN:60000<=N):Pe N=some true:=by
 have b2:∀s∈([[32,32,120,123],[]]:List (List UInt8)),s.length<=1000000/\s.length<N:=λs hs=>by
  rcases eD.1 hs with rfl|hs
  .exact⟨by decide,by show 4<N;omega⟩
  .rw[lL.1 hs];exact⟨by decide,by show 0<N;omega⟩
 have b1:∀s∈([[32,32,120,123]]:List (List UInt8)),s.length<=1000000/\s.length<N:=λs hs=>by
  rw[lL.1 hs];exact⟨by decide,by show 4<N;omega⟩
 unfold Pe ZZ Pf;rw[aP (Pc (by omega) (by show 2<N;omega) (by decide) b2),aP (Pc (by omega) (by show 1<N;omega) (by decide) b1),aP (Yk hN (by decide) (by decide)),aP (aNI (by omega) (by show 2<N;omega) (by decide) b2),
  Pa (by omega) (by show 2<N;omega) (by decide) b2,Pb (by omega) (by show 2<N;omega) (by decide) b2,Pa (by omega) (by show 1<N;omega) (by decide) b1,Pb (by omega) (by show 1<N;omega) (by decide) b1,
  Yj hN (by decide) (by decide),Yi hN (by decide) (by decide),aNH (by omega) (by show 2<N;omega) (by decide) b2,aNG (by omega) (by show 2<N;omega) (by decide) b2,aV2,aCn,aV0,aV1]
 have r5:∀x∈([[18,0,56,32,59],[16]]:List (List UInt8)),x.length<N/\x.length<=1000000:=λs hs=>by
  rcases eD.1 hs with rfl|hs
  .exact⟨by show 5<N;omega,by decide⟩
  .rw[lL.1 hs];exact⟨by show 1<N;omega,by decide⟩
 have r4:∀x∈([[18,0,56,63],[32,59]]:List (List UInt8)),x.length<N/\x.length<=1000000:=λs hs=>by
  rcases eD.1 hs with rfl|hs
  .exact⟨by show 4<N;omega,by decide⟩
  .rw[lL.1 hs];exact⟨by show 2<N;omega,by decide⟩
 show(ck (yQ N [[18,0,56,32,59],[16]] [[18,0,56,32,59],[16]]) _).bind Jo=_;rw[aP (PR (by show 2<N;omega) (by decide) r5),PQ (by show 2<N;omega) (by decide) r5,aL rfl,bJ,aP (PR (by show 2<N;omega) (by decide) r4),PQ (by show 2<N;omega) (by decide) r4,aL rfl,bJ,aP (aMh (by show 2<N;omega) (by decide)),aMg (by show 2<N;omega) (by decide),aL rfl];rfl
theorem aUL(N:Nat):aV Tryz.prog 17 (aCV N):=aV.e0 λ_=>aNa (aNb 60000) (aNc (bX _))
end Go.Proofs
