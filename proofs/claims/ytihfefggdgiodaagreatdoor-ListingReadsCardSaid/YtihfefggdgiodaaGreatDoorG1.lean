/- What the functions reckon, in plain words. Conditions are in the theorems. -/
import Derived.Test.YtihfefggdgiodaaGreatDoorF3
import Derived.Test.YtihfefggdgiodaaGreatDoorG0
import Derived.Test.YtihfefggdgiodaaGreatDoorF1
import Derived.KernelRfl
import Derived.Test.YtihfefggdgiodaaGreatDoorF5
import Derived.Lib.ItoaMem
import Derived.Lib.ItoaLen
open Bool renaming and_eq_true->bA,and_self->Ts,eq_false_iff->rM,false_and->pZ,false_or->jG,not_false->tX,not_true->oP,or_true->aEB,true_and->lM,true_or->oO
open Go.IntKind renaming i64->aS
open Int renaming natCast_nonneg->aDx,tmod_lt_of_pos->aX1,tmod_nonneg->aX0,toNat_natCast->iT
open List renaming any_cons->rJ,append_assoc->fT,append_nil->kN,drop_eq_nil_of_le->fD,drop_left->aXT,drop_zero->fV,flatten_append->tT,flatten_cons->fR,getElem?_eq_getElem->bM,getElem?_eq_some_iff->bP,getElem_mem->pV,isPrefixOf_iff_prefix->Fx,length_append->bF,length_cons->dK,length_drop->jM,length_nil->iJ,length_take->fL,mem_append->nF,mem_cons_of_mem->gF,mem_cons_self->jF,nil_append->fK,takeWhile_append_dropWhile->aXG,take_of_length_le->iS,take_succ_eq_append_getElem->Fv
open List.cons renaming inj->tU
open Nat renaming le_refl->bX,zero_le->dC
open Option renaming map_eq_some_iff->b9,map_some->jE
open UInt8 renaming le_iff_toNat_le->T6,lt_iff_toNat_lt->Fo,ofNat->gP,toNat_inj->Cl,toNat_ofNat'->T5
/- Small laws of chapter 17. -/
namespace Go.Proofs
open Go Go.Ax Go.Ax.aA
theorem eT{n b:Nat}(h:n*b<=140737488355328)(h2:n<=140737488355327):b8 n b=true:=aL ⟨h,h2⟩
theorem Zy(N:Nat)(k0:Bool->O)(k1 k2:Unit->O)(a b:List (UInt8))(hab:a.length=b.length)(ha:a.length<=1000000):∀(n i:Nat),a.length-i<n->i<=a.length->zN N n (a,b,(i:Int)) k0 k1 k2=if a.drop i=b.drop i then k1 ()else k0 false
 |0,i,h,_=>by omega
 |n+1,i,h,hi=>by
   show KP N _ _ _ a b (i:Int)=_;unfold KP;by_cases hlt:i<a.length
   .have ga:=bM hlt
    have gb:=bM (l:=b) (i:=i) (by omega);rw[aL (show(i:Int)<(a.length:Int)by omega),bJ,cU ga,cU gb,fZ ga,fZ gb];by_cases he:a[i]=b[i]
    .rw[aZ (show ¬ (a[i]≠b[i])from λh=>h he),bL,wr (by omega) (by omega)]
     refine(Zy N k0 k1 k2 a b hab ha n (i+1) (by omega) (by omega)).trans ?_;by_cases hd:a.drop (i+1)=b.drop (i+1)
     .rw[aE hd,aE (by rw[he,hd])]
     .rw[aC hd,aC (λh=>hd (tU h).2)]
    .rw[aL he,bJ,aC (λh=>he (tU h).1)]
   .rw[aZ (show ¬ (i:Int)<(a.length:Int)by omega),bL,fD (by omega),fD (by omega),aE rfl]
theorem Zz{N:Nat}{a b:List (UInt8)}(hN:a.length<N)(ha:a.length<=1000000):Bk N a b=some (decide (a=b)):=by
 unfold Bk w12 QF QA;by_cases hab:a.length=b.length
 .rw[aZ (show ¬ ((a.length:Int)≠(b.length:Int))by omega),bL]
  have:=Zy N (λz=>some (uW z)) (λ_=>some (uW true)) (λ_=>none) a b hab ha N 0 (by omega) (dC _);refine(aO (λz:O=>z.bind KK) this).trans ?_;rw[fV,fV];by_cases h:a=b
  .rw[aE h,aL h];rfl
  .rw[aC h,aZ h];rfl
 .rw[aL (show(a.length:Int)≠(b.length:Int)by omega),bJ,aZ (λh=>hab (by rw[h]))]
  rfl
theorem QE{N:Nat}{a b:List (UInt8)}(hN:a.length<N)(ha:a.length<=1000000):mG N a b=true:=by unfold mG;rw[Zz hN ha];rfl
theorem QD{N:Nat}{a b:List (UInt8)}(hN:a.length<N)(ha:a.length<=1000000):mF N a b=decide (a=b):=by unfold mF;rw[Zz hN ha];rfl
theorem Yt(N:Nat)(k0:Bool->O)(k1 k2:Unit->O)(a b:List (Int))(hab:a.length=b.length)(ha:a.length<=1000000):∀(n i:Nat),a.length-i<n->i<=a.length->yO N n (a,b,(i:Int)) k0 k1 k2=if a.drop i=b.drop i then k1 ()else k0 false
 |0,i,h,_=>by omega
 |n+1,i,h,hi=>by
   show J5 N _ _ _ a b (i:Int)=_;unfold J5;by_cases hlt:i<a.length
   .have ga:=bM hlt
    have gb:=bM (l:=b) (i:=i) (by omega);rw[aL (show(i:Int)<(a.length:Int)by omega),bJ,cU ga,cU gb,fZ ga,fZ gb];by_cases he:a[i]=b[i]
    .rw[aZ (show ¬ (a[i]≠b[i])from λh=>h he),bL,wr (by omega) (by omega)]
     refine(Yt N k0 k1 k2 a b hab ha n (i+1) (by omega) (by omega)).trans ?_;by_cases hd:a.drop (i+1)=b.drop (i+1)
     .rw[aE hd,aE (by rw[he,hd])]
     .rw[aC hd,aC (λh=>hd (tU h).2)]
    .rw[aL he,bJ,aC (λh=>he (tU h).1)]
   .rw[aZ (show ¬ (i:Int)<(a.length:Int)by omega),bL,fD (by omega),fD (by omega),aE rfl]
theorem Yu{N:Nat}{a b:List (Int)}(hN:a.length<N)(ha:a.length<=1000000):Ba N a b=some (decide (a=b)):=by
 unfold Ba Yv PK PH;by_cases hab:a.length=b.length
 .rw[aZ (show ¬ ((a.length:Int)≠(b.length:Int))by omega),bL]
  have:=Yt N (λz=>some (uQ z)) (λ_=>some (uQ true)) (λ_=>none) a b hab ha N 0 (by omega) (dC _);refine(aO (λz:O=>z.bind J1) this).trans ?_;rw[fV,fV];by_cases h:a=b
  .rw[aE h,aL h];rfl
  .rw[aC h,aZ h];rfl
 .rw[aL (show(a.length:Int)≠(b.length:Int)by omega),bJ,aZ (λh=>hab (by rw[h]))]
  rfl
theorem aMh{N:Nat}{a b:List (Int)}(hN:a.length<N)(ha:a.length<=1000000):Dy N a b=true:=by unfold Dy;rw[Yu hN ha];rfl
theorem aMg{N:Nat}{a b:List (Int)}(hN:a.length<N)(ha:a.length<=1000000):Dx N a b=decide (a=b):=by unfold Dx;rw[Yu hN ha];rfl
theorem YV(N:Nat)(k0:Bool->O)(k1 k2:Unit->O)(a b:List (List UInt8))(hab:a.length=b.length)(ha:a.length<=1000000):∀(n i:Nat),a.length-i<n->i<=a.length->yC N n (a,b,(i:Int)) k0 k1 k2=if a.drop i=b.drop i then k1 ()else k0 false
 |0,i,h,_=>by omega
 |n+1,i,h,hi=>by
   show JC N _ _ _ a b (i:Int)=_;unfold JC;by_cases hlt:i<a.length
   .have ga:=bM hlt
    have gb:=bM (l:=b) (i:=i) (by omega);rw[aL (show(i:Int)<(a.length:Int)by omega),bJ,cU ga,cU gb,fZ ga,fZ gb];by_cases he:a[i]=b[i]
    .rw[aZ (show ¬ (a[i]≠b[i])from λh=>h he),bL,wr (by omega) (by omega)]
     refine(YV N k0 k1 k2 a b hab ha n (i+1) (by omega) (by omega)).trans ?_;by_cases hd:a.drop (i+1)=b.drop (i+1)
     .rw[aE hd,aE (by rw[he,hd])]
     .rw[aC hd,aC (λh=>hd (tU h).2)]
    .rw[aL he,bJ,aC (λh=>he (tU h).1)]
   .rw[aZ (show ¬ (i:Int)<(a.length:Int)by omega),bL,fD (by omega),fD (by omega),aE rfl]
theorem YW{N:Nat}{a b:List (List UInt8)}(hN:a.length<N)(ha:a.length<=1000000):B6 N a b=some (decide (a=b)):=by
 unfold B6 YX Oj Og;by_cases hab:a.length=b.length
 .rw[aZ (show ¬ ((a.length:Int)≠(b.length:Int))by omega),bL]
  have:=YV N (λz=>some (uM z)) (λ_=>some (uM true)) (λ_=>none) a b hab ha N 0 (by omega) (dC _);refine(aO (λz:O=>z.bind Ix) this).trans ?_;rw[fV,fV];by_cases h:a=b
  .rw[aE h,aL h];rfl
  .rw[aC h,aZ h];rfl
 .rw[aL (show(a.length:Int)≠(b.length:Int)by omega),bJ,aZ (λh=>hab (by rw[h]))]
  rfl
theorem aLa{N:Nat}{a b:List (List UInt8)}(hN:a.length<N)(ha:a.length<=1000000):Iz N a b=true:=by unfold Iz;rw[YW hN ha];rfl
theorem aL9{N:Nat}{a b:List (List UInt8)}(hN:a.length<N)(ha:a.length<=1000000):Iw N a b=decide (a=b):=by unfold Iw;rw[YW hN ha];rfl
def fO(n m:Int):Int:=if m<1 then 0 else if n<0 then(-(n+1)).tmod m else n.tmod m
theorem A4{n m:Int}(hm:1<=m):0<=fO n m/\fO n m<m:=by
 unfold fO;rw[aC (by omega)];split
 .exact⟨aX0 _ (by omega),aX1 _ (by omega)⟩
 .exact⟨aX0 _ (by omega),aX1 _ (by omega)⟩
theorem Pv(N:Nat){n m:Int}(hn:iK n):Bi N n m=some (fO n m):=by
 unfold Bi Zp Pw fO;have ur:∀x:Int,(some (uV x):O).bind KG=some x:=λ_=>rfl
 by_cases h0:n<0
 .rw[aL h0,bJ]
  by_cases hm:m<1
  .rw[aL hm,bJ,aE hm];rfl
  .rw[aZ hm,bL,aP (aL (show m≠0 by omega)),aC hm,aE h0,ur,wr (x:=n+1) (by have:=hn.1;omega) (by omega),wr (by have:=hn.1;omega) (by have:=hn.1;omega)]
 .rw[aZ h0,bL]
  by_cases hm:m<1
  .rw[aL hm,bJ,aE hm];rfl
  .rw[aZ hm,bL,aP (aL (show m≠0 by omega)),aC hm,aC h0,ur]
theorem EN(N:Nat){n m:Int}(hn:iK n):o8 N n m=true:=by unfold o8;rw[Pv N hn];rfl
theorem EM(N:Nat){n m:Int}(hn:iK n):cG N n m=fO n m:=by unfold cG;rw[Pv N hn];rfl
def vY(l:List Int):Prop:=∀x∈l,iK x
def pO(l:List Int)(i m:Int):Int:=if i<0 then 0 else match l[i.toNat]? with
 |some x=>fO x m
 |none=>0
theorem TO{l:List Int}{i m:Int}(hm:1<=m):0<=pO l i m/\pO l i m<m:=by
 unfold pO;split
 .omega
 .split
  .exact A4 hm
  .omega
theorem YG(N:Nat){l:List Int}(hl:vY l)(i m:Int):BZ N l i m=some (pO l i m):=by
 unfold BZ YH Oa pO;have ur:∀x:Int,(some (B3 x):O).bind Iq=some x:=λ_=>rfl
 by_cases h0:i<0
 .rw[aL h0,oO,bJ,aE h0];rfl
 .rw[aZ h0,jG,aC h0]
  by_cases h1:(l.length:Int)<=i
  .rw[aL h1,bJ,List.getElem?_eq_none (by omega)];rfl
  .have g:l[i.toNat]?=some l[i.toNat]:=bM (by omega)
   have hx:=hl _ (pV (l:=l) (n:=i.toNat) (by omega));rw[aZ h1,bL,aC4 (by omega) g,aP (EN N hx),EM N hx,g,ur]
theorem O9(N:Nat){l:List Int}(hl:vY l)(i m:Int):B4 N l i m=true:=by unfold B4;rw[YG N hl];rfl
theorem O8(N:Nat){l:List Int}(hl:vY l)(i m:Int):B0 N l i m=pO l i m:=by unfold B0;rw[YG N hl];rfl
theorem Bw{p:UInt8->Bool}(h:(List.range 256).all (λn=>p (gP n))=true)(c:UInt8):p c=true:=by
 have:=List.all_eq_true.1 h c.toNat (List.mem_range.2 c.toNat_lt);simpa using this
theorem VM(N:Nat)(c:UInt8):BB N c=some (dV c false):=by
 have key:∀(b:Bool)(x y:O),(br b x y).bind wS=if b=true then x.bind wS else y.bind wS:=λb x y=>by cases b <;> rfl
 have ur:∀x:List UInt8,(some (qB x):O).bind wS=some x:=λ_=>rfl
 have h:∀c:UInt8,(if(decide (97<=c)&&decide (c<=122))=true then some [c-64]else if(decide (64<=c)&&decide (c<=90))=true then some [32,c-32]else if decide (c=95)=true then some [32,1]else if decide (c=96)=true then some [32,3]else if decide (123<=c)=true then some [32,c-64]else some [c-32])=some (dV c false):=λc=>cH (Bw (p:=λc=>decide ((if(decide (97<=c)&&decide (c<=122))=true then some [c-64]else if(decide (64<=c)&&decide (c<=90))=true then some [32,c-32]else if decide (c=95)=true then some [32,1]else if decide (c=96)=true then some [32,3]else if decide (123<=c)=true then some [32,c-64]else some [c-32])=some (dV c false))) (by kernel_rfl) c)
 unfold BB VP Mx;simp only[key,ur];exact h c
theorem VO(N:Nat)(c:UInt8):DL N c=true:=by unfold DL;rw[VM];rfl
theorem VN(N:Nat)(c:UInt8):wR N c=dV c false:=by unfold wR;rw[VM];rfl
theorem VU(N:Nat)(k0:Int->O)(k1 k2:Unit->O)(s:List UInt8)(q:Int)(hl:s.length<=1000000):∀(n i:Nat),i<n->i<=s.length->wT N n (s,q,(i:Int)) k0 k1 k2=k0 (eV (s.take i):Nat)
 |0,i,h,_=>by omega
 |n+1,i,h,hi=>by
   show HC N _ _ s q (i:Int)=_;unfold HC
   match i,h,hi with
   |0,h,hi=>rfl
   |i+1,h,hi=>
     have hlt:i<s.length:=hi;have g:=bM hlt;have e:aS.wrap (((i+1:Nat):Int)-1)=((i:Nat):Int):=by rw[wr (by omega) (by omega)];omega
     rw[aL (show(0:Int)<((i+1:Nat):Int)by omega),e,vM,cU g,lM,Fv hlt,aCs];by_cases hc:s[i]=32
     .rw[aL hc,bJ,aE hc]
      exact VU N k0 k1 k2 s q hl n i (by omega) (by omega)
     .rw[aZ hc,bL,aC hc,fL,Nat.min_eq_left (by omega)]
theorem VV{N:Nat}{s:List UInt8}(hN:s.length<N)(hl:s.length<=1000000):BC N s=some (eV s:Nat):=by
 unfold BC VY ND My;have:=VU N (λz=>some (DO z)) (λ_=>none) (λ_=>none) s 0 hl N s.length hN (bX _);rw[List.take_length]at this;exact aO (λz:O=>z.bind Gy) this
theorem VX{N:Nat}{s:List UInt8}(hN:s.length<N)(hl:s.length<=1000000):DP N s=true:=by unfold DP;rw[VV hN hl];rfl
theorem VW{N:Nat}{s:List UInt8}(hN:s.length<N)(hl:s.length<=1000000):DN N s=(eV s:Nat):=by unfold DN;rw[VV hN hl];rfl
theorem aDI{s:List UInt8}{i:Nat}{c:UInt8}(h:s[i]?=some c):(bV s).take (i+1)=(bV s).take i++[dV c (decide (eV s<=i))]:=by
 have hi:=(bP.1 h).1;have hl:i<(bV s).length:=by unfold bV;simpa using hi
 rw[Fv hl]
 congr 2
 unfold bV;simp[List.getD,h]
theorem iF(s:List UInt8):(bV s).length=s.length:=by unfold bV;simp
theorem aDL(c:UInt8):dV c true=[32,2]:=rfl
theorem QQ(N:Nat)(k0:List (List UInt8)->O)(k1 k2:Unit->O)(s:List UInt8)(hN:s.length<N)(hl:s.length<=1000000):∀(n i:Nat),s.length-i<n->i<=s.length->s7 N n (s,(i:Int),(bV s).take i) k0 k1 k2=k0 (bV s)
 |0,i,h,_=>by omega
 |n+1,i,h,hi=>by
   show Bt N _ _ s (i:Int) ((bV s).take i)=_;unfold Bt;by_cases hlt:i<s.length
   .have g:=bM hlt
    have hk:=aDI g;have hlen:((bV s).take (i+1)).length<=1000000:=by rw[fL,iF];omega
    rw[aL (show(i:Int)<(s.length:Int)by omega),bJ,aP (VX hN hl),VW hN hl];by_cases he:eV s<=i
    .rw[aL he,aDL]at hk
     rw[aL (show((eV s:Nat):Int)<=(i:Int)by omega),bJ,<-hk,aP (eT (by omega) (by omega)),wr (by omega) (by omega)];exact QQ N k0 k1 k2 s hN hl n (i+1) (by omega) (by omega)
    .rw[aZ he]at hk
     rw[aZ (show ¬ ((eV s:Nat):Int)<=(i:Int)by omega),bL,cU g,aP (VO N _),VN,<-hk,aP (eT (by omega) (by omega)),wr (by omega) (by omega)];exact QQ N k0 k1 k2 s hN hl n (i+1) (by omega) (by omega)
   .rw[aZ (show ¬ (i:Int)<(s.length:Int)by omega),bL,iS (by rw[iF];omega)]
theorem aAT{N:Nat}{s:List UInt8}(hN:s.length<N)(hl:s.length<=1000000):zU N s=some (bV s):=by
 unfold zU QS QR QP;exact aO (λz:O=>z.bind KX) (QQ N (λz=>some (zV z)) (λ_=>none) (λ_=>none) s hN hl N 0 (by omega) (dC _))
theorem aAV{N:Nat}{s:List UInt8}(hN:s.length<N)(hl:s.length<=1000000):zW N s=true:=by unfold zW;rw[aAT hN hl];rfl
theorem aAU{N:Nat}{s:List UInt8}(hN:s.length<N)(hl:s.length<=1000000):kC N s=bV s:=by unfold kC;rw[aAT hN hl];rfl
end Go.Proofs
/- Texts, flat codes, Code, and what fits. -/
namespace Go.Proofs
open Go Go.Ax Go.Ax.aA
def oI(c:UInt8):Bool:=decide (c<32)||decide (126<c)
def dD(s:List UInt8):Bool:=!s.any oI
theorem U5(N:Nat)(k0:Int->O)(k1 k2:Unit->O)(s:List (UInt8))(b:(UInt8)->Bool)(hb:∀x∈s,sA N x=true/\oV N x=b x)(hs:s.length<=1000000):∀(n i:Nat),s.length-i<n->i<=s.length->
    (∃j:Nat,qA N n (s,(s.length:Int),(i:Int)) k0 k1 k2=k0 j/\(s.drop i).any b=true)\/(qA N n (s,(s.length:Int),(i:Int)) k0 k1 k2=k1 ()/\(s.drop i).any b=false)
 |0,i,h,_=>by omega
 |n+1,i,h,hi=>by
   have e:qA N (n+1) (s,(s.length:Int),(i:Int)) k0 k1 k2=Ge N (λv0=>qA N n (s,(s.length:Int),v0) k0 k1 k2) (λy0=>k0 y0) (λ(_:Unit)=>k1 ()) s (s.length:Int) (i:Int):=rfl;rw[e];unfold Ge;by_cases hlt:i<s.length
   .have g:=bM hlt
    obtain⟨h1,h2⟩:=hb _ (pV hlt);rw[aL (show(i:Int)<(s.length:Int)by omega),bJ,cU g,aP h1,h2,fZ g,rJ];cases hc:b s[i]with
    |true=>exact .inl ⟨i,bJ _ _,oO _⟩
    |false=>
      rw[bL,wr (by omega) (by omega),jG];exact U5 N k0 k1 k2 s b hb hs n (i+1) (by omega) (by omega)
   .rw[aZ (show ¬ (i:Int)<(s.length:Int)by omega),bL,fD (by omega)]
    exact .inr ⟨rfl,rfl⟩
theorem aF9{N:Nat}{s:List (UInt8)}{b:(UInt8)->Bool}(hb:∀x∈s,sA N x=true/\oV N x=b x)(hs:s.length<=1000000)(hN:s.length<N):∃v:Int,Aw N s=some v/\decide (0<=v)=s.any b:=by
 unfold Aw U6 Md Ma;rcases U5 N (λz=>some (wK z)) (λ_=>some (wK (-1))) (λ_=>none) s b hb hs N 0 (by omega) (dC _)with⟨j,h,ha⟩|⟨h,ha⟩
 .refine⟨j,aO (λz:O=>z.bind DA) h,?_⟩
  rw[fV]at ha;rw[ha,aL (aDx j)]
 .refine⟨-1,aO (λz:O=>z.bind DA) h,?_⟩
  rw[fV]at ha;rw[ha];rfl
theorem Vg{N:Nat}{s:List (UInt8)}{b:(UInt8)->Bool}(hb:∀x∈s,sA N x=true/\oV N x=b x)(hs:s.length<=1000000)(hN:s.length<N):BH N s=some (s.any b):=by
 obtain⟨v,h1,h2⟩:=aF9 hb hs hN;have hp:Ga N s=true:=by unfold Ga;rw[h1];rfl
 have hy:G8 N s=v:=by unfold G8;rw[h1];rfl
 unfold BH Vh NU;rw[aP hp,hy,h2];rfl
theorem aH8{N:Nat}{s:List (UInt8)}{b:(UInt8)->Bool}(hb:∀x∈s,sA N x=true/\oV N x=b x)(hs:s.length<=1000000)(hN:s.length<N):HR N s=true:=by unfold HR;rw[Vg hb hs hN];rfl
theorem aH7{N:Nat}{s:List (UInt8)}{b:(UInt8)->Bool}(hb:∀x∈s,sA N x=true/\oV N x=b x)(hs:s.length<=1000000)(hN:s.length<N):HP N s=s.any b:=by unfold HP;rw[Vg hb hs hN];rfl
theorem UU(N:Nat)(k0:Int->O)(k1 k2:Unit->O)(s:List (List UInt8))(b:(List UInt8)->Bool)(hb:∀x∈s,r8 N x=true/\r7 N x=b x)(hs:s.length<=1000000):∀(n i:Nat),s.length-i<n->i<=s.length->
    (∃j:Nat,p9 N n (s,(s.length:Int),(i:Int)) k0 k1 k2=k0 j/\(s.drop i).any b=true)\/(p9 N n (s,(s.length:Int),(i:Int)) k0 k1 k2=k1 ()/\(s.drop i).any b=false)
 |0,i,h,_=>by omega
 |n+1,i,h,hi=>by
   have e:p9 N (n+1) (s,(s.length:Int),(i:Int)) k0 k1 k2=G3 N (λv0=>p9 N n (s,(s.length:Int),v0) k0 k1 k2) (λy0=>k0 y0) (λ(_:Unit)=>k1 ()) s (s.length:Int) (i:Int):=rfl;rw[e];unfold G3;by_cases hlt:i<s.length
   .have g:=bM hlt
    obtain⟨h1,h2⟩:=hb _ (pV hlt);rw[aL (show(i:Int)<(s.length:Int)by omega),bJ,cU g,aP h1,h2,fZ g,rJ];cases hc:b s[i]with
    |true=>exact .inl ⟨i,bJ _ _,oO _⟩
    |false=>
      rw[bL,wr (by omega) (by omega),jG];exact UU N k0 k1 k2 s b hb hs n (i+1) (by omega) (by omega)
   .rw[aZ (show ¬ (i:Int)<(s.length:Int)by omega),bL,fD (by omega)]
    exact .inr ⟨rfl,rfl⟩
theorem aFF{N:Nat}{s:List (List UInt8)}{b:(List UInt8)->Bool}(hb:∀x∈s,r8 N x=true/\r7 N x=b x)(hs:s.length<=1000000)(hN:s.length<N):∃v:Int,At N s=some v/\decide (0<=v)=s.any b:=by
 unfold At UW M6 M3;rcases UU N (λz=>some (wG z)) (λ_=>some (wG (-1))) (λ_=>none) s b hb hs N 0 (by omega) (dC _)with⟨j,h,ha⟩|⟨h,ha⟩
 .refine⟨j,aO (λz:O=>z.bind Cv) h,?_⟩
  rw[fV]at ha;rw[ha,aL (aDx j)]
 .refine⟨-1,aO (λz:O=>z.bind Cv) h,?_⟩
  rw[fV]at ha;rw[ha];rfl
theorem VH{N:Nat}{s:List (List UInt8)}{b:(List UInt8)->Bool}(hb:∀x∈s,r8 N x=true/\r7 N x=b x)(hs:s.length<=1000000)(hN:s.length<N):BA N s=some (s.any b):=by
 obtain⟨v,h1,h2⟩:=aFF hb hs hN;have hp:GZ N s=true:=by unfold GZ;rw[h1];rfl
 have hy:GX N s=v:=by unfold GX;rw[h1];rfl
 unfold BA VI Mu;rw[aP hp,hy,h2];rfl
theorem aG3{N:Nat}{s:List (List UInt8)}{b:(List UInt8)->Bool}(hb:∀x∈s,r8 N x=true/\r7 N x=b x)(hs:s.length<=1000000)(hN:s.length<N):Gx N s=true:=by unfold Gx;rw[VH hb hs hN];rfl
theorem aG2{N:Nat}{s:List (List UInt8)}{b:(List UInt8)->Bool}(hb:∀x∈s,r8 N x=true/\r7 N x=b x)(hs:s.length<=1000000)(hN:s.length<N):Gv N s=s.any b:=by unfold Gv;rw[VH hb hs hN];rfl
theorem aAJ(N:Nat)(k0:Int->O)(k1 k2:Unit->O)(s:List (List UInt8))(b:(List UInt8)->Bool)(hb:∀x∈s,rZ N x=true/\rY N x=b x)(hs:s.length<=1000000):∀(n i:Nat),s.length-i<n->i<=s.length->
    (∃j:Nat,nS N n (s,(s.length:Int),(i:Int)) k0 k1 k2=k0 j/\(s.drop i).any b=true)\/(nS N n (s,(s.length:Int),(i:Int)) k0 k1 k2=k1 ()/\(s.drop i).any b=false)
 |0,i,h,_=>by omega
 |n+1,i,h,hi=>by
   have e:nS N (n+1) (s,(s.length:Int),(i:Int)) k0 k1 k2=Bo N (λv0=>nS N n (s,(s.length:Int),v0) k0 k1 k2) (λy0=>k0 y0) (λ(_:Unit)=>k1 ()) s (s.length:Int) (i:Int):=rfl;rw[e];unfold Bo;by_cases hlt:i<s.length
   .have g:=bM hlt
    obtain⟨h1,h2⟩:=hb _ (pV hlt);rw[aL (show(i:Int)<(s.length:Int)by omega),bJ,cU g,aP h1,h2,fZ g,rJ];cases hc:b s[i]with
    |true=>exact .inl ⟨i,bJ _ _,oO _⟩
    |false=>
      rw[bL,wr (by omega) (by omega),jG];exact aAJ N k0 k1 k2 s b hb hs n (i+1) (by omega) (by omega)
   .rw[aZ (show ¬ (i:Int)<(s.length:Int)by omega),bL,fD (by omega)]
    exact .inr ⟨rfl,rfl⟩
theorem aPI{N:Nat}{s:List (List UInt8)}{b:(List UInt8)->Bool}(hb:∀x∈s,rZ N x=true/\rY N x=b x)(hs:s.length<=1000000)(hN:s.length<N):∃v:Int,zS N s=some v/\decide (0<=v)=s.any b:=by
 unfold zS QK QJ QI;rcases aAJ N (λz=>some (sY z)) (λ_=>some (sY (-1))) (λ_=>none) s b hb hs N 0 (by omega) (dC _)with⟨j,h,ha⟩|⟨h,ha⟩
 .refine⟨j,aO (λz:O=>z.bind EU) h,?_⟩
  rw[fV]at ha;rw[ha,aL (aDx j)]
 .refine⟨-1,aO (λz:O=>z.bind EU) h,?_⟩
  rw[fV]at ha;rw[ha];rfl
theorem aAP{N:Nat}{s:List (List UInt8)}{b:(List UInt8)->Bool}(hb:∀x∈s,rZ N x=true/\rY N x=b x)(hs:s.length<=1000000)(hN:s.length<N):zT N s=some (s.any b):=by
 obtain⟨v,h1,h2⟩:=aPI hb hs hN;have hp:KT N s=true:=by unfold KT;rw[h1];rfl
 have hy:Bm N s=v:=by unfold Bm;rw[h1];rfl
 unfold zT QO QN;rw[aP hp,hy,h2];rfl
theorem aP0{N:Nat}{s:List (List UInt8)}{b:(List UInt8)->Bool}(hb:∀x∈s,rZ N x=true/\rY N x=b x)(hs:s.length<=1000000)(hN:s.length<N):KV N s=true:=by unfold KV;rw[aAP hb hs hN];rfl
theorem aPZ{N:Nat}{s:List (List UInt8)}{b:(List UInt8)->Bool}(hb:∀x∈s,rZ N x=true/\rY N x=b x)(hs:s.length<=1000000)(hN:s.length<N):Bp N s=s.any b:=by unfold Bp;rw[aAP hb hs hN];rfl
theorem V9(N:Nat)(c:UInt8):sA N c=true/\oV N c=oI c:=by
 have h:BF N c=some (oI c):=rfl;constructor
 .unfold sA;rw[h];rfl
 .unfold oV;rw[h];rfl
theorem VC(N:Nat)(s:List UInt8):r8 N s=true/\r7 N s=decide (80<(s.length:Int)):=by
 have h:DI N s=some (decide (80<(s.length:Int))):=rfl;constructor
 .unfold r8;rw[h];rfl
 .unfold r7;rw[h];rfl
theorem Xz{N:Nat}{s:List UInt8}(hN:s.length<N)(hs:s.length<=1000000):BY N s=some (dD s):=by
 unfold BY YC O7;rw[aP (aH8 (λx _=>V9 N x) hs hN),aH7 (λx _=>V9 N x) hs hN];rfl
theorem YB{N:Nat}{s:List UInt8}(hN:s.length<N)(hs:s.length<=1000000):Dk N s=true:=by unfold Dk;rw[Xz hN hs];rfl
theorem YA{N:Nat}{s:List UInt8}(hN:s.length<N)(hs:s.length<=1000000):Dj N s=dD s:=by unfold Dj;rw[Xz hN hs];rfl
theorem Uy{N:Nat}{s:List UInt8}(hN:s.length<N)(hs:s.length<=1000000):rZ N s=true/\rY N s=!dD s:=by
 have h:Az N s=some (!dD s):=by
  unfold Az Uz Mq;rw[aP (YB hN hs),YA hN hs];rfl
 constructor
 .unfold rZ;rw[h];rfl
 .unfold rY;rw[h];rfl
theorem Xf(N:Nat)(k0:Bool->O)(k1 k2:Unit->O)(s:List UInt8)(hs:s.length<=1000000):∀(n i:Nat),s.length-i<n->i<=s.length->xW N n (s,(i:Int)) k0 k1 k2=if(s.drop i).any oI=true then k0 false else k1 ()
 |0,i,h,_=>by omega
 |n+1,i,h,hi=>by
   show Ib N _ _ _ s (i:Int)=_;unfold Ib;by_cases hlt:i<s.length
   .have g:=bM hlt
    rw[aL (show(i:Int)<(s.length:Int)by omega),bJ,cU g,L8 g,fZ g,rJ];have hb:(decide (s[i]<32)||decide (126<(if(!decide (s[i]<32))=true then s[i]else 0)))=oI s[i]:=by
     unfold oI;by_cases h:s[i]<32
     .rw[aL h,oO,oO]
     .rw[aZ h];rfl
    rw[hb];cases hc:oI s[i]with
    |true=>rw[bJ,oO,aE rfl]
    |false=>
      rw[bL,wr (by omega) (by omega),jG];exact Xf N k0 k1 k2 s hs n (i+1) (by omega) (by omega)
   .rw[aZ (show ¬ (i:Int)<(s.length:Int)by omega),bL,fD (by omega)]
    rfl
theorem Xg{N:Nat}{s:List UInt8}(hN:s.length<N)(hs:s.length<=1000000):BW N s=some (dD s):=by
 unfold BW Xh OU OR dD;have:=Xf N (λz=>some (xV z)) (λ_=>some (xV true)) (λ_=>none) s hs N 0 (by omega) (dC _);refine(aO (λz:O=>z.bind I6) this).trans ?_;rw[fV];cases s.any oI <;> rfl
theorem aKb{N:Nat}{s:List UInt8}(hN:s.length<N)(hs:s.length<=1000000):I8 N s=true:=by unfold I8;rw[Xg hN hs];rfl
theorem aKa{N:Nat}{s:List UInt8}(hN:s.length<N)(hs:s.length<=1000000):I5 N s=dD s:=by unfold I5;rw[Xg hN hs];rfl
theorem pI{l:List (List UInt8)}{i:Nat}{y:List UInt8}(h:l[i]?=some y):(l.take i).flatten++y=(l.take (i+1)).flatten:=by
 obtain⟨hi,rfl⟩:=bP.1 h;rw[Fv hi,tT];simp
theorem SZ(l:List (List UInt8))(i:Nat):(l.take i).flatten.length<=l.flatten.length:=by
 have:l.flatten=(l.take i).flatten++(l.drop i).flatten:=by rw[<-tT,List.take_append_drop]
 rw[this,bF];omega
theorem X8(N:Nat)(k0:List UInt8->O)(k1 k2:Unit->O)(l:List (List UInt8))(hl:l.length<=1000000)(hf:l.flatten.length<=1000000):∀(n i:Nat),l.length-i<n->i<=l.length->xT N n (l,(i:Int),(l.take i).flatten) k0 k1 k2=k0 l.flatten
 |0,i,h,_=>by omega
 |n+1,i,h,hi=>by
   show I4 N _ _ l (i:Int) (l.take i).flatten=_;unfold I4;by_cases hlt:i<l.length
   .have g:=bM hlt
    have hk:=SZ l (i+1);rw[aL (show(i:Int)<(l.length:Int)by omega),bJ,cU g,pI g,aP (eT (by omega) (by omega)),wr (by omega) (by omega)];exact X8 N k0 k1 k2 l hl hf n (i+1) (by omega) (by omega)
   .rw[aZ (show ¬ (i:Int)<(l.length:Int)by omega),bL,iS (by omega)]
theorem X9{N:Nat}{l:List (List UInt8)}(hN:l.length<N)(hl:l.length<=1000000)(hf:l.flatten.length<=1000000):BV N l=some l.flatten:=by
 unfold BV Xa OQ ON;exact aO (λz:O=>z.bind IV) (X8 N (λz=>some (Dg z)) (λ_=>none) (λ_=>none) l hl hf N 0 (by omega) (dC _))
theorem IZ{N:Nat}{l:List (List UInt8)}(hN:l.length<N)(hl:l.length<=1000000)(hf:l.flatten.length<=1000000):lB N l=true:=by unfold lB;rw[X9 hN hl hf];rfl
theorem IY{N:Nat}{l:List (List UInt8)}(hN:l.length<N)(hl:l.length<=1000000)(hf:l.flatten.length<=1000000):gG N l=l.flatten:=by unfold gG;rw[X9 hN hl hf];rfl
theorem Xt(N:Nat)(k0:List (List UInt8)->Int->O)(k1 k2:Unit->O)(l:List (List UInt8))(hl:l.length<=1000000)(hf:l.flatten.length<=1000000):∀(n i:Nat),l.length-i<n->i<=l.length->xZ N n (l,((l.take i).flatten.length:Int),l,(l.length:Int),(i:Int)) (λy=>k0 y.1 y.2) k1 k2=k0 l (l.flatten.length:Int)
 |0,i,h,_=>by omega
 |n+1,i,h,hi=>by
   show Io N _ _ l l (l.length:Int) ((l.take i).flatten.length:Int) (i:Int)=_;unfold Io;by_cases hlt:i<l.length
   .have g:=bM hlt
    have hk:=SZ l (i+1);have hk2:=aO List.length (pI g);rw[bF]at hk2;have e:aS.wrap (((l.take i).flatten.length:Int)+(l[i].length:Int))=((l.take (i+1)).flatten.length:Int):=by rw[wr (by omega) (by omega)];omega
    rw[aL (show(i:Int)<(l.length:Int)by omega),bJ,cU g,e,aZ (by omega),bL,wr (x:=(i:Int)+1) (by omega) (by omega)];exact Xt N k0 k1 k2 l hl hf n (i+1) (by omega) (by omega)
   .rw[aZ (show ¬ (i:Int)<(l.length:Int)by omega),bL,iS (by omega)]
theorem Xs(N:Nat)(k0:List UInt8->O)(k1 k2:Unit->O)(l:List (List UInt8))(hl:l.length<=1000000)(hf:l.flatten.length<=1000000):∀(n i:Nat),l.length-i<n->i<=l.length->uL N n (l,(l.length:Int),(i:Int),(l.take i).flatten) k0 k1 k2=k0 l.flatten
 |0,i,h,_=>by omega
 |n+1,i,h,hi=>by
   show Im N _ _ l (l.length:Int) (i:Int) (l.take i).flatten=_;unfold Im;by_cases hlt:i<l.length
   .have g:=bM hlt
    have hk:=SZ l (i+1);rw[aL (show(i:Int)<(l.length:Int)by omega),bJ,cU g,pI g,aP (eT (by omega) (by omega)),wr (by omega) (by omega)];exact Xs N k0 k1 k2 l hl hf n (i+1) (by omega) (by omega)
   .rw[aZ (show ¬ (i:Int)<(l.length:Int)by omega),bL,iS (by omega)]
theorem Xu{N:Nat}{l:List (List UInt8)}(hN:l.length<N)(hl:l.length<=1000000)(hf:l.flatten.length<=1000000):BX N l=some l.flatten:=by
 unfold BX Xv O4 OZ OY;have h0:=Xt N (λz4 z5=>ck (DS N z5) <|uL N N (z4,(z4.length:Int),0,[]) (λy=>some (xY y)) (λ_=>none) (λ_=>none)) (λ_=>none) (λ_=>none) l hl hf N 0 (by omega) (dC _);have h1:=Xs N (λz=>some (xY z)) (λ_=>none) (λ_=>none) l hl hf N 0 (by omega) (dC _);refine(aO (λz:O=>z.bind If) (h0.trans (c:=some (xY l.flatten)) ?_)).trans rfl;rw[aP (show DS N (l.flatten.length:Int)=true from aL ⟨by omega,by omega⟩)];exact h1
theorem O3{N:Nat}{l:List (List UInt8)}(hN:l.length<N)(hl:l.length<=1000000)(hf:l.flatten.length<=1000000):uK N l=true:=by unfold uK;rw[Xu hN hl hf];rfl
theorem O2{N:Nat}{l:List (List UInt8)}(hN:l.length<N)(hl:l.length<=1000000)(hf:l.flatten.length<=1000000):qF N l=l.flatten:=by unfold qF;rw[Xu hN hl hf];rfl
theorem OK(N:Nat)(k0:List (List UInt8)->O)(k1 k2:Unit->O)(s:List UInt8)(hN:s.length<N)(hl:s.length<=1000000):∀(n i:Nat),s.length-i<n->i<=s.length->xR N n (s,(i:Int),(bV s).take i) k0 k1 k2=k0 (bV s)
 |0,i,h,_=>by omega
 |n+1,i,h,hi=>by
   show IU N _ _ s (i:Int) ((bV s).take i)=_;unfold IU;by_cases hlt:i<s.length
   .have g:=bM hlt
    have hk:=aDI g;have hlen:((bV s).take (i+1)).length<=1000000:=by rw[fL,iF];omega
    rw[aL (show(i:Int)<(s.length:Int)by omega),bJ,aP (VX hN hl),VW hN hl];by_cases he:eV s<=i
    .rw[aL he,aDL]at hk
     rw[aL (show((eV s:Nat):Int)<=(i:Int)by omega),bJ,<-hk,aP (eT (by omega) (by omega)),wr (by omega) (by omega)];exact OK N k0 k1 k2 s hN hl n (i+1) (by omega) (by omega)
    .rw[aZ he]at hk
     rw[aZ (show ¬ ((eV s:Nat):Int)<=(i:Int)by omega),bL,cU g,aP (VO N _),VN,<-hk,aP (eT (by omega) (by omega)),wr (by omega) (by omega)];exact OK N k0 k1 k2 s hN hl n (i+1) (by omega) (by omega)
   .rw[aZ (show ¬ (i:Int)<(s.length:Int)by omega),bL,iS (by rw[iF];omega)]
theorem X3{N:Nat}{s:List UInt8}(hN:s.length<N)(hl:s.length<=1000000):BT N s=some (bV s):=by
 unfold BT X4 OL OH;exact aO (λz:O=>z.bind IQ) (OK N (λz=>some (Df z)) (λ_=>none) (λ_=>none) s hN hl N 0 (by omega) (dC _))
theorem aKL{N:Nat}{s:List UInt8}(hN:s.length<N)(hl:s.length<=1000000):BU N s=true:=by unfold BU;rw[X3 hN hl];rfl
theorem aKK{N:Nat}{s:List UInt8}(hN:s.length<N)(hl:s.length<=1000000):sG N s=bV s:=by unfold sG;rw[X3 hN hl];rfl
theorem aWN(c:UInt8)(b:Bool):1<=(dV c b).length/\(dV c b).length<=2:=by
 unfold dV
 repeat' split
 all_goals simp
theorem aVS{l:List (List UInt8)}(h:∀x∈l,x.length<=2):l.flatten.length<=2*l.length:=by
 induction l with
 |nil=>simp
 |cons x l ih=>
   rw[fR,bF,dK];have:=ih λy hy=>h y (gF _ hy)
   have:=h x (jF);omega
theorem Ss{s x:List UInt8}(h:x∈bV s):1<=x.length/\x.length<=2:=by
 obtain⟨i,_,rfl⟩:=List.mem_map.1 h;exact aWN _ _
theorem aDJ(s:List UInt8):(bV s).flatten.length<=2*s.length:=by
 have:=aVS λx hx=>(Ss (s:=s) hx).2
 rwa [iF]at this
def Fa(s:List UInt8):List UInt8×Int:=if dD s=true then((bV s).flatten,0)else([],1)
theorem Xl(N:Nat)(s:List UInt8):OW N s=true/\Dh N s=s:=⟨rfl,rfl⟩
theorem aAE{N:Nat}{s:List UInt8}(hN:s.length<N)(hs:s.length<=20000):zP N s=some (Fa s):=by
 have hf:=aDJ s;unfold zP w10 QH Fa;rw[aP (YB hN (by omega)),YA hN (by omega)];cases ht:dD s with
 |false=>rfl
 |true=>
   have e:LV N s=bV s:=rfl;rw[(Xl N s).2,aP (Xl N s).1,aP (show SD N s=true from aL hs),e,aP (O3 (by rw[iF];omega) (by rw[iF];omega) (by omega)),O2 (by rw[iF];omega) (by rw[iF];omega) (by omega)];rfl
theorem aOr{N:Nat}{s:List UInt8}(hN:s.length<N)(hs:s.length<=20000):Bl N s=true:=by unfold Bl;rw[aAE hN hs];rfl
theorem aOq{N:Nat}{s:List UInt8}(hN:s.length<N)(hs:s.length<=20000):zQ N s=(Fa s).1:=by unfold zQ;rw[aAE hN hs];rfl
end Go.Proofs
/- Chars, in plain words. -/
namespace Go.Proofs
open Go Go.Ax Go.Ax.aA
def gH(c:UInt8):UInt8:=if(decide (32<=c)&&decide (c<=58))=true then c+32 else if(decide (59<=c)&&decide (c<=62))=true then c+64 else if c=3 then 96 else if c=1 then 95 else if c=2 then 32 else 0
def mX(b:UInt8):Option UInt8:=if(decide (33<=b)&&decide (b<=58))=true then some (b+64)else if b<=62 then some (b+32)else none
def kR:List UInt8->Option (UInt8×List UInt8)
 |[]=>none
 |b::t=>if b=32 then(match t with
     |[]=>none
     |b2::t'=>if gH b2=0 then none else some (gH b2,t'))else(mX b).map λc=>(c,t)
def fQ:List UInt8->Option (List UInt8)
 |[]=>some []
 |[b]=>if b=32 then none else(mX b).map λc=>[c]
 |b::b2::t=>if b=32 then(if gH b2=0 then none else(fQ t).map (gH b2 :: ·))else(mX b).bind λc=>(fQ (b2::t)).map (c :: ·)
theorem Ea(b2:UInt8)(t:List UInt8):kR (32::b2::t)=if gH b2=0 then none else some (gH b2,t):=rfl
theorem E9{b:UInt8}(h:b≠32)(t:List UInt8):kR (b::t)=(mX b).map λc=>(c,t):=aC h
theorem Sl(b2:UInt8)(t:List UInt8):fQ (32::b2::t)=if gH b2=0 then none else(fQ t).map (gH b2 :: ·):=by
 rw[fQ];exact aE rfl
theorem aCz{b:UInt8}(h:b≠32)(t:List UInt8):fQ (b::t)=(mX b).bind λc=>(fQ t).map (c :: ·):=by
 cases t with
 |nil=>
   show(if b=32 then none else(mX b).map λc=>[c])=_;rw[aC h];cases mX b <;> rfl
 |cons b2 t=>
   rw[fQ];exact aC h
theorem Sk{l:List UInt8}(h:l≠[]):fQ l=(kR l).bind λp=>(fQ p.2).map (p.1 :: ·):=by
 match l,h with
 |b::t,_=>
   by_cases hb:b=32
   .subst hb
    match t with
    |[]=>rfl
    |b2::t=>
      rw[Ea,Sl];by_cases h2:gH b2=0
      .rw[aE h2,aE h2];rfl
      .rw[aC h2,aC h2];rfl
   .rw[E9 hb,aCz hb]
    cases mX b <;> rfl
theorem aAh{l r:List UInt8}{c:UInt8}(h:kR l=some (c,r)):r.length<l.length:=by
 match l,h with
 |b::t,h=>
   by_cases hb:b=32
   .subst hb
    match t,h with
    |b2::t',h=>
      rw[Ea]at h;split at h
      .cases h
      .cases h
       simp;omega
   .rw[E9 hb]at h
    obtain⟨c',_,h'⟩:=b9.1 h;cases h';simp
theorem aDK(c:UInt8)(h:32<=c.toNat/\c.toNat<=126):(∃b,dV c false=[b]/\b≠32/\mX b=some c)\/∃b,dV c false=[32,b]/\gH b=c/\c≠0:=by
 have key:∀c:UInt8,(!(decide (32<=c.toNat)&&decide (c.toNat<=126))||(match dV c false with
     |[b]=>decide (b≠32)&&decide (mX b=some c)
     |[x,b]=>decide (x=32)&&decide (gH b=c)&&decide (c≠0)
     |_=>false))=true:=Bw (by kernel_rfl)
 have:=key c;rw[aL h.1,aL h.2,Ts,oP,jG]at this;split at this
 .rename_i b hb
  simp only[bA,eC]at this;exact .inl ⟨b,hb,this.1,this.2⟩
 .rename_i x b hb
  simp only[bA,eC]at this;obtain⟨⟨rfl,h2⟩,h3⟩:=this;exact .inr ⟨b,hb,h2,h3⟩
 .cases this
theorem aWS{b c:UInt8}(hb:b≠32)(h:mX b=some c):dV c false=[b]/\32<=c.toNat/\c.toNat<=126:=by
 have key:∀b:UInt8,(decide (b=32)||(match mX b with
     |some c=>decide (dV c false=[b])&&decide (32<=c.toNat)&&decide (c.toNat<=126)
     |none=>true))=true:=Bw (by kernel_rfl)
 have:=key b;rw[aZ hb,jG,h]at this;simp only[bA,eC]at this;exact⟨this.1.1,this.1.2,this.2⟩
theorem aQc{b:UInt8}(h:gH b≠0):(b=2/\gH b=32\/dV (gH b) false=[32,b])/\32<=(gH b).toNat/\(gH b).toNat<=126:=by
 have key:∀b:UInt8,(decide (gH b=0)||(((decide (b=2)&&decide (gH b=32))||decide (dV (gH b) false=[32,b]))&&decide (32<=(gH b).toNat)&&decide ((gH b).toNat<=126)))=true:=Bw (by kernel_rfl)
 have:=key b;rw[aZ h,jG]at this;simp only[bA,Bool.or_eq_true,eC]at this;exact⟨this.1.1,this.1.2,this.2⟩
theorem aQ0{c:UInt8}(h:32<=c.toNat/\c.toNat<=126)(t:List UInt8):kR (dV c false++t)=some (c,t):=by
 rcases aDK c h with⟨b,hb,h1,h2⟩|⟨b,hb,h1,h2⟩
 .rw[hb]
  show kR (b::t)=_;rw[E9 h1,h2];rfl
 .rw[hb]
  show kR (32::b::t)=_;rw[Ea,aC (by rw[h1];exact h2),h1]
theorem aQZ(t:List UInt8):kR (dV 32 true++t)=some (32,t):=rfl
theorem K6{l r:List UInt8}{c:UInt8}(h:kR l=some (c,r)):(32<=c.toNat/\c.toNat<=126)/\(l=dV c false++r\/(c=32/\l=dV 32 true++r)):=by
 match l,h with
 |b::t,h=>
   by_cases hb:b=32
   .subst hb
    match t,h with
    |b2::t',h=>
      rw[Ea]at h;split at h
      .cases h
      .rename_i h2
       cases h;obtain⟨h3,h4⟩:=aQc h2;refine⟨h4,?_⟩;rcases h3 with⟨rfl,h3⟩|h3
       .exact .inr ⟨h3,rfl⟩
       .exact .inl (by rw[h3];rfl)
   .rw[E9 hb]at h
    obtain⟨c',hc,h'⟩:=b9.1 h;cases h';obtain⟨h1,h2⟩:=aWS hb hc;exact⟨h2,.inl (by rw[h1];rfl)⟩
theorem Ll:∀(n:Nat){l s:List UInt8},l.length<=n->fQ l=some s->dD s=true/\s.length<=l.length
 |_,[],s,_,h=>by cases h;exact⟨rfl,bX _⟩
 |0,b::t,s,hn,_=>by simp at hn
 |n+1,b::t,s,hn,h=>by
   rw[Sk (by simp)]at h;obtain⟨⟨c,r⟩,hs,h⟩:=Option.bind_eq_some_iff.1 h;obtain⟨s',h',rfl⟩:=b9.1 h;have hl:r.length<(b::t).length:=aAh hs;have h':fQ r=some s':=h';obtain⟨h1,h2⟩:=Ll n (by omega) h';obtain⟨⟨h3,h4⟩,_⟩:=K6 hs;refine⟨?_,by rw[show((c,r).1::s').length=s'.length+1 from rfl];omega⟩;unfold dD at h1 ⊢;rw[rJ];have:oI c=false:=by
    unfold oI;rw[aZ (show ¬ c<32 from λh=>by have:=Fo.1 h;simp at this;omega),aZ (show ¬ 126<c from λh=>by have:=Fo.1 h;simp at this;omega)];rfl
   rw[this];exact h1
def eP(l:List UInt8):List UInt8×Int:=match fQ l with
 |none=>([],2)
 |some s=>if(bV s).flatten=l then(s,0)else([],2)
theorem XC(N:Nat)(c:UInt8):BO N c=some (gH c):=by
 have key:∀(b:Bool)(x y:O),(br b x y).bind xO=if b=true then x.bind xO else y.bind xO:=λb x y=>by cases b <;> rfl
 have ur:∀x:UInt8,(some (qD x):O).bind xO=some x:=λ_=>rfl
 unfold BO XF Nz gH;simp only[key,ur,eC]
 repeat' split
 all_goals first|rfl|(rename_i h;exact absurd h (by assumption))
theorem XE(N:Nat)(c:UInt8):D9 N c=true:=by unfold D9;rw[XC];rfl
theorem XD(N:Nat)(c:UInt8):BP N c=gH c:=by unfold BP;rw[XC];rfl
theorem Jq(N:Nat)(k0:List UInt8->Int->O)(k1:List UInt8->List UInt8->O)(k2:Unit->O)(l:List UInt8)(hl:l.length<=1000000):∀(n i:Nat)(out:List UInt8),l.length-i<n->i<=l.length->out.length<=i->
    zF N n (l,(i:Int),out) (λy=>k0 y.1 y.2) (λy=>k1 y.1 y.2) k2=match fQ (l.drop i)with
     |none=>k0 [] 2
     |some s=>k1 l (out++s)
  |0,i,_,h,_,_=>by omega
  |n+1,i,out,h,hi,ho=>by
    show Jt N _ _ _ l (i:Int) out=_;unfold Jt;by_cases hlt:i<l.length
    .have g:=bM hlt
     have hne:l.drop i≠[]:=λe=>by rw[fZ g]at e;cases e
     rw[aL (show(i:Int)<(l.length:Int)by omega),bJ,cU g,Sk hne,fZ g];have ei:aS.wrap ((i:Int)+1)=((i+1:Nat):Int):=by rw[wr (by omega) (by omega)];omega
     have hlm:∀x:UInt8,b8 (out++[x]).length 1=true:=λx=>eT (by simp;omega) (by simp;omega)
     have ur:∀(r:List UInt8)(c:UInt8),(match(some (c,r):Option (UInt8×List UInt8)).bind (λp=>(fQ p.2).map (p.1 :: ·))with
         |none=>k0 [] 2
         |some s=>k1 l (out++s))=match fQ r with
         |none=>k0 [] 2
         |some s=>k1 l ((out++[c])++s):=λr c=>by
       show(match(fQ r).map (c :: ·)with
        |none=>k0 [] 2
        |some s=>k1 l (out++s))=_
       cases fQ r with
       |none=>rfl
       |some s=>exact(aO (k1 l) (fT out [c] s)).symm
     by_cases hb:l[i]=32
     .rw[aL hb,bJ,ei,hb]
      by_cases h1:i+1<l.length
      .have g1:=bM h1
       rw[aZ (show ¬ (l.length:Int)<=((i+1:Nat):Int)by omega),L8 g1];simp only[tX,oP,jG,fH];rw[aP (XE N _),XD,fZ g1,Ea];by_cases h2:gH l[i+1]=0
       .rw[aL h2,bJ,aE h2];rfl
       .have ei2:aS.wrap (((i+1:Nat):Int)+1)=((i+2:Nat):Int):=by rw[wr (by omega) (by omega)];omega
        rw[aZ h2,bL,aC h2,cU g1,aP (XE N _),XD,aP (hlm _),ei2,ur];exact Jq N k0 k1 k2 l hl n (i+2) _ (by omega) (by omega) (by simp;omega)
      .rw[aL (show(l.length:Int)<=((i+1:Nat):Int)by omega),oP,C5,tX,oO,Sw,oO,bJ,fD (by omega)]
       rfl
     .rw[aZ hb,bL,cU g,L8 g,E9 hb]
      have hc:(decide (33<=l[i])&&decide ((if decide (33<=l[i])=true then l[i]else 0)<=58))=(decide (33<=l[i])&&decide (l[i]<=58)):=by
       by_cases h:33<=l[i]
       .rw[aL h];rfl
       .rw[aZ h,pZ,pZ]
      rw[hc,ei];unfold mX;cases h1:(decide (33<=l[i])&&decide (l[i]<=58))with
      |true=>
        rw[bJ,cU g,aP (hlm _),aE rfl,jE,ur];exact Jq N k0 k1 k2 l hl n (i+1) _ (by omega) (by omega) (by simp;omega)
      |false=>
        rw[bL,cU g,aC (by decide)];by_cases h2:l[i]<=62
        .rw[aL h2,bJ,cU g,aP (hlm _),aE h2,jE,ur]
         exact Jq N k0 k1 k2 l hl n (i+1) _ (by omega) (by omega) (by simp;omega)
        .rw[aZ h2,bL,aC h2]
         rfl
    .rw[aZ (show ¬ (i:Int)<(l.length:Int)by omega),bL,fD (by omega)]
     show _=k1 l (out++[]);rw[kN]
theorem Pk{N:Nat}{l:List UInt8}(hN:2*l.length<N)(hl:l.length<=20000):zE N l=some (eP l):=by
 unfold zE Z4 Pl Pg eP;have:=Jq N (λz33 z34=>some (sU z33 z34)) (λz35 z36=>ck (BU N z36) <|ck (lB N (sG N z36)) <|ck (mG N (gG N (sG N z36)) z35) <|br (!mF N (gG N (sG N z36)) z35) (some (sU [] 2)) (some (sU z36 0))) (λ_=>none) l (by omega) N 0 [] (by omega) (dC _) (bX _);refine(aO (λz:O=>z.bind EE) this).trans ?_;rw[fV];cases hd:fQ l with
 |none=>rfl
 |some s=>
   obtain⟨h1,h2⟩:=Ll l.length (bX _) hd;have hf:=aDJ s;show(ck (BU N ([]++s)) _).bind EE=_;rw[fK,aP (aKL (by omega) (by omega)),aKK (by omega) (by omega),aP (IZ (by rw[iF];omega) (by rw[iF];omega) (by omega)),IY (by rw[iF];omega) (by rw[iF];omega) (by omega),
    aP (QE (by omega) (by omega)),QD (by omega) (by omega)]
   show _=some (if(bV s).flatten=l then(s,0)else([],2));by_cases h:(bV s).flatten=l
   .rw[aL h,aE h];rfl
   .rw[aZ h,aC h];rfl
end Go.Proofs
/- Chars, in plain words: the program's. -/
namespace Go.Proofs
open Go Go.Ax Go.Ax.aA
theorem qE(N:Nat)(a b:List UInt8):sE N a b=true/\sD N a b=decide (a=b):=by
 have h:Db N a b=some (decide (a=b)):=rfl;constructor
 .unfold sE;rw[h];rfl
 .unfold sD;rw[h];rfl
theorem XY(N:Nat)(c:UInt8)(b:Bool):IP N c b=true:=by unfold IP;rw[OE];rfl
theorem XX(N:Nat)(c:UInt8)(b:Bool):sF N c b=dV c b:=by unfold sF;rw[OE];rfl
theorem XN(N:Nat)(s p:List UInt8)(_hs:s.length<=1000000):BR N s p=some (p.isPrefixOf s):=by
 unfold BR XR OC;by_cases h:p.length<=s.length
 .have hsl:cA s none (some (p.length:Int))=s.take p.length:=by
   show s.take ((p.length:Int)).toNat=_;rw[iT]
  rw[aL (show(p.length:Int)<=(s.length:Int)by omega),hsl,(qE N _ _).1,(qE N _ _).2];rw[aP (show(!true||dJ s.length none (some (p.length:Int)))=true from by rw[oP,jG];exact aL ⟨by omega,by omega⟩),aP (by rfl),lM];have:decide (s.take p.length=p)=p.isPrefixOf s:=by
   rw[Bool.eq_iff_iff,decide_eq_true_iff,Fx,List.prefix_iff_eq_take];exact eq_comm
  rw[this];rfl
 .rw[aZ (show ¬ (p.length:Int)<=(s.length:Int)by omega)]
  have:p.isPrefixOf s=false:=by
   rw[rM];intro hp;exact h (Fx.1 hp).length_le
  rw[this];rfl
theorem XQ(N:Nat)(s p:List UInt8)(hs:s.length<=1000000):IN N s p=true:=by unfold IN;rw[XN N s p hs];rfl
theorem XP(N:Nat)(s p:List UInt8)(hs:s.length<=1000000):IL N s p=p.isPrefixOf s:=by unfold IL;rw[XN N s p hs];rfl
abbrev K5:=List UInt8×List UInt8×List UInt8×UInt8×List UInt8->O
theorem aOS(N n:Nat)(k0 k1:K5)(k2:Unit->O)(l u rest out:List UInt8)(c:UInt8)(hc:32<=c.toNat/\c.toNat<=126)(hr:rest.length<=1000000)(ho:out.length<=1000000):
    zJ N (n+3) (l,u,rest,c,2,0,out,[false,true]) k0 k1 k2=match kR rest with
     |some (c',r)=>if c=c' then k0 (l,u,r,c,out++[c])else k1 (l,u,rest,c,out)
     |none=>k1 (l,u,rest,c,out):=by
  have hlm:b8 (out++[c]).length 1=true:=eT (by simp;omega) (by simp;omega);have drop:∀(p t:List UInt8),rest=p++t->dJ rest.length (some (p.length:Int)) none=true/\cA rest (some (p.length:Int)) none=t:=λp t h=>by
   subst h;constructor
   .exact aL ⟨by omega,by rw[bF];omega⟩
   .show(p++t).drop ((p.length:Int)).toNat=t
    rw[iT,aXT]
  show qG N _ _ _ l u rest c 2 out [false,true] 0=_;unfold qG;rw[aL (show(0:Int)<2 by decide),bJ,tI,aP (XY N c false),XX,XQ N _ _ hr,XP N _ _ hr,aP (by rw[aEB]),tX,aEB,lM];cases hp:(dV c false).isPrefixOf rest with
  |true=>
    obtain⟨t,ht⟩:=Fx.1 hp;obtain⟨d1,d2⟩:=drop _ t ht.symm;rw[bJ,aP hlm,aP d1,d2,<-ht,aQ0 hc];show _=if c=c then _ else _
    rw[aE rfl]
  |false=>
    have no1:∀r,rest≠dV c false++r:=λr h=>by
     have:(dV c false).isPrefixOf rest=true:=Fx.2 ⟨r,h.symm⟩;rw[hp]at this;cases this
    rw[bL,wr (x:=(0:Int)+1) (by decide) (by decide)];show qG N _ _ _ l u rest c 2 out [false,true] 1=_;unfold qG;rw[aL (show(1:Int)<2 by decide),bJ,aUY,aP (XY N c true),XX,XQ N _ _ hr,XP N _ _ hr,aP (by rw[aEB]),oP,Bool.or_false];have last:(∀r,¬ (c=32/\rest=dV 32 true++r))->k1 (l,u,rest,c,out)=match kR rest with
     |some (c',r)=>if c=c' then k0 (l,u,r,c,out++[c])else k1 (l,u,rest,c,out)
     |none=>k1 (l,u,rest,c,out):=λno2=>by
     cases hs:kR rest with
     |none=>rfl
     |some p=>
       obtain⟨c',r⟩:=p;show _=if c=c' then _ else _
       rw[aC];rintro rfl;rcases(K6 hs).2 with h|h
       .exact no1 r h
       .exact no2 r h
    by_cases h32:c=32
    .rw[aL h32,lM]
     cases hp2:(dV c true).isPrefixOf rest with
     |true=>
       obtain⟨t,ht⟩:=Fx.1 hp2;obtain⟨d1,d2⟩:=drop _ t ht.symm;rw[bJ,aP hlm,aP d1,d2,<-ht];subst h32;rw[aQZ];show _=if(32:UInt8)=32 then _ else _
       rw[aE rfl]
     |false=>
       rw[bL,wr (x:=(1:Int)+1) (by decide) (by decide)];show qG N _ _ _ l u rest c 2 out [false,true] 2=_;unfold qG;rw[aZ (show ¬ (2:Int)<2 by decide),bL];refine last λr h=>?_
       have:(dV c true).isPrefixOf rest=true:=Fx.2 ⟨r,by rw[h.2,h.1]⟩;rw[hp2]at this;cases this
    .rw[aZ h32,pZ,bL,wr (x:=(1:Int)+1) (by decide) (by decide)]
     show qG N _ _ _ l u rest c 2 out [false,true] 2=_;unfold qG;rw[aZ (show ¬ (2:Int)<2 by decide),bL];exact last λr h=>h32 h.1
abbrev K4:=List UInt8×List UInt8×List UInt8×List UInt8->O
theorem Zg(N:Nat)(hN:3<=N)(k0 k1:K4)(k2:Unit->O)(l u rest out:List UInt8)(hr:rest.length<=1000000)(ho:out.length<=1000000):∀(n m:Nat),127-m<n->32<=m->m<=127->
    uU N n (l,u,rest,gP m,out) k0 k1 k2=match kR rest with
     |some (c',r)=>if m<=c'.toNat then k0 (l,u,r,out++[c'])else k1 (l,u,rest,out)
     |none=>k1 (l,u,rest,out)
  |0,m,h,_,_=>by omega
  |n+1,m,h,h1,h2=>by
    obtain⟨N',rfl⟩:∃N',N=N'+3:=⟨N-3,by omega⟩
    show KF (N'+3) (zI (N'+3)) _ _ _ l u rest (gP m) out=_;unfold KF zI;have hm:(gP m).toNat=m:=by simp;omega
    by_cases hlt:m<=126
    .have hle:gP m<=126:=T6.2 (by rw[hm];exact hlt)
     have hs:gP m+1=gP (m+1):=by
      apply Cl.1;rw[UInt8.toNat_add,hm];simp
     rw[aL hle,bJ];refine(aOS (N'+3) N' _ _ (λ_=>none) l u rest out (gP m) (by rw[hm];omega) hr ho).trans ?_;have hrec:=Zg (N'+3) hN k0 k1 k2 l u rest out hr ho n (m+1) (by omega) (by omega) (by omega);rw[<-hs]at hrec;cases hst:kR rest with
     |none=>
       rw[hst]at hrec;exact hrec
     |some p=>
       obtain⟨c',r⟩:=p;rw[hst]at hrec;show(if gP m=c' then k0 (l,u,r,out++[gP m])else uU (N'+3) n (l,u,rest,gP m+1,out) k0 k1 k2)=if m<=c'.toNat then k0 (l,u,r,out++[c'])else k1 (l,u,rest,out)
       by_cases hc:gP m=c'
       .rw[aE hc,aE (by rw[<-hc,hm];exact bX _),hc]
       .have hne:m≠c'.toNat:=λe=>hc (Cl.1 (by rw[hm];exact e))
        rw[aC hc,hrec];show(if m+1<=c'.toNat then _ else _)=_;by_cases hk:m<=c'.toNat
        .rw[aE hk,aE (by omega)]
        .rw[aC hk,aC (by omega)]
    .have hle:¬ gP m<=126:=λh=>hlt (by have:=T6.1 h;rw[hm]at this;exact this)
     rw[aZ hle,bL];cases hst:kR rest with
     |none=>rfl
     |some p=>
       obtain⟨c',r⟩:=p;have:=(K6 hst).1.2;show _=if m<=c'.toNat then _ else _
       rw[aC (by omega)]
theorem Zf(N:Nat)(hN:200<=N)(k0:List UInt8->Int->O)(k1:List UInt8->List UInt8->O)(k2:Unit->O)(l u:List UInt8):∀(n:Nat)(rest out:List UInt8),rest.length<n->rest.length+out.length<=1000000->
    uT N n (l,u,rest,out) (λy=>k0 y.1 y.2) (λy=>k1 y.1 y.2) k2=match fQ rest with
     |none=>k0 [] 2
     |some s=>k1 l (out++s)
  |0,_,_,h,_=>by omega
  |n+1,rest,out,h,ho=>by
    show KE N (zI N) (EJ N) _ _ _ l u rest out=_;unfold KE EJ
    match rest,h,ho with
    |[],h,ho=>
      rw[aZ (by decide),bL];show _=k1 l (out++[]);rw[kN]
    |b::t,h,ho=>
      rw[aL (show(0:Int)<((b::t).length:Int)by rw[dK];omega),bJ,Sk (by simp)];refine(Zg N (by omega) _ _ (λ_=>none) l u (b::t) out (by omega) (by omega) N 32 (by omega) (by omega) (by omega)).trans ?_;cases hst:kR (b::t)with
      |none=>rfl
      |some p=>
        obtain⟨c',r⟩:=p;have hl:r.length<(b::t).length:=aAh hst;have hc:=(K6 hst).1;show(if 32<=c'.toNat then uT N n (l,u,r,out++[c']) _ _ k2 else _)=match(fQ r).map (c' :: ·)with
         |none=>k0 [] 2
         |some s=>k1 l (out++s)
        rw[aE hc.1,Zf N hN k0 k1 k2 l u n r (out++[c']) (by omega) (by rw[bF];simp only[dK,iJ];omega)];cases fQ r with
        |none=>rfl
        |some s=>exact aO (k1 l) (fT out [c'] s)
theorem Ps{N:Nat}{l:List UInt8}(hN:200<=N)(hN2:2*l.length<N)(hl:l.length<=20000):zH N l=some (eP l):=by
 unfold zH Zk Pt Pn eP;have:=Zf N hN (λz201 z202=>some (sW z201 z202)) (λz203 z204=>ck (Bl N z204) <|ck (sE N (zQ N z204) z203) <|br (!sD N (zQ N z204) z203) (some (sW [] 2)) (some (sW z204 0))) (λ_=>none) l [] N l [] (by omega) (by rw[iJ];omega);refine(aO (λz:O=>z.bind EH) this).trans ?_;cases hd:fQ l with
 |none=>rfl
 |some s=>
   obtain⟨h1,h2⟩:=Ll l.length (bX _) hd;show(ck (Bl N ([]++s)) _).bind EH=_;have hc:(Fa s).1=(bV s).flatten:=by unfold Fa;rw[aE h1]
   rw[fK,aP (aOr (by omega) (by omega)),aOq (by omega) (by omega),aP (qE N _ _).1,(qE N _ _).2,hc];show _=some (if(bV s).flatten=l then(s,0)else([],2));by_cases h:(bV s).flatten=l
   .rw[aL h,aE h];rfl
   .rw[aZ h,aC h];rfl
end Go.Proofs
/- Listings made of numbers. -/
namespace Go.Proofs
open Go Go.Ax Go.Ax.aA
def Tg(a:List (List UInt8)):Prop:=a.length<=4/\∀s∈a,s.length<=77/\dD s=true
def mN:List (List UInt8):=[[105,102],[32],[32,32],[120],[123],[125],[84,111,116,97,108],[95],[64],[61],[49,48],[34],[126],[97,91,105,93],[32,32,32,32,32,32,32,32],[96]]
theorem aQQ{s t:List UInt8}(h:dD s=true)(h':dD t=true):dD (s++t)=true:=by
 unfold dD at *
 rw[List.any_append,Bool.not_or,h,h'];rfl
theorem UK(N:Nat){l:List Int}(hl:vY l)(k0:List Int->Int->Int->Int->List UInt8->Int->List (List UInt8)->List (List UInt8)->O)(k1 k2:Unit->O)(a n i many:Int)(out:List (List UInt8))(hm:many<=9):∀(f:Nat)(s:List UInt8)(k:Nat),10-k<f->s.length<=77->dD s=true->(k:Int)<=10->
    ∃s':List UInt8,s'.length<=77/\dD s'=true/\rP N f (l,a,n,i,s,many,(k:Int),mN,out) (λy=>k0 y.1 y.2.1 y.2.2.1 y.2.2.2.1 y.2.2.2.2.1 y.2.2.2.2.2.1 y.2.2.2.2.2.2.1 y.2.2.2.2.2.2.2) k1 k2=k0 l a n i s' many mN out
 |0,s,k,h,_,_,_=>by omega
 |f+1,s,k,h,hs,ht,hk=>by
   have e:rP N (f+1) (l,a,n,i,s,many,(k:Int),mN,out) (λy=>k0 y.1 y.2.1 y.2.2.1 y.2.2.2.1 y.2.2.2.2.1 y.2.2.2.2.2.1 y.2.2.2.2.2.2.1 y.2.2.2.2.2.2.2) k1 k2=GQ N (λv0 v1=>rP N f (l,a,n,i,v0,many,v1,mN,out) (λy=>k0 y.1 y.2.1 y.2.2.1 y.2.2.2.1 y.2.2.2.2.1 y.2.2.2.2.2.1 y.2.2.2.2.2.2.1 y.2.2.2.2.2.2.2) k1 k2) (λy0 y1 y2 y3 y4 y5 y6 y7=>k0 y0 y1 y2 y3 y4 y5 y6 y7) l a n i many mN out s (k:Int):=rfl;rw[e];unfold GQ;by_cases hc:(k:Int)<many/\(s.length:Int)<70
   .rw[aL hc.1,aL hc.2,Ts,bJ,aP (O9 N hl _ _),O8 N hl]
    have hat:=TO (l:=l) (i:=aS.wrap (aS.wrap (a+1)+(k:Int))) (m:=16) (by omega);obtain⟨j,hj⟩:∃j:Nat,pO l (aS.wrap (aS.wrap (a+1)+(k:Int))) 16=j:=⟨(pO l (aS.wrap (aS.wrap (a+1)+(k:Int))) 16).toNat,by omega⟩
    rw[hj]at hat ⊢;have hj16:j<mN.length:=by show j<16;omega
    have g:=bM hj16;have hp:mN[j].length<=8/\dD mN[j]=true:=by
     have:∀p∈mN,p.length<=8/\dD p=true:=by decide
     exact this _ (pV hj16)
    rw[cU g,aP (aL (by omega)),wr (by omega) (by omega)];exact UK N hl k0 k1 k2 a n i many out hm f (s++mN[j]) (k+1) (by omega) (by rw[bF];omega) (aQQ ht hp.2) (by omega)
   .have:(decide ((k:Int)<many)&&decide ((s.length:Int)<70))=false:=by
     rw[rM];intro h;simp only[bA,eC]at h;exact hc h
    rw[this,bL];exact⟨s,hs,ht,rfl⟩
theorem UJ(N:Nat)(hN:20<=N){l:List Int}(hl:vY l)(k0:List (List UInt8)->O)(k1 k2:Unit->O)(n:Int)(hn:n<=4):∀(f:Nat)(a:Int)(i:Nat)(out:List (List UInt8)),5-i<f->(i:Int)<=5->out.length<=i->(i:Int)<=max n 0->(∀s∈out,s.length<=77/\dD s=true)->
    ∃out',Tg out'/\p8 N f (l,a,n,(i:Int),mN,out) k0 k1 k2=k0 out'
 |0,a,i,out,h,_,_,_,_=>by omega
 |f+1,a,i,out,h,hi,ho,hin,hs=>by
   have e:p8 N (f+1) (l,a,n,(i:Int),mN,out) k0 k1 k2=GP N (Cr N) (λv0 v1 v2 v3 v4 v5=>p8 N f (v0,v1,v2,v3,v4,v5) k0 k1 k2) (λy0=>k0 y0) l a n (i:Int) mN out:=rfl;rw[e];unfold GP;by_cases hc:(i:Int)<n
   .have hat:=TO (l:=l) (i:=a) (m:=9) (by omega)
    rw[aL hc,bJ,aP (O9 N hl _ _),O8 N hl];unfold Cr;obtain⟨s',h1,h2,h3⟩:=UK N hl (λz40 z41 z42 z43 z44 z45 z46 z47=>ck (b8 (z47++[z44]).length 16) <|p8 N f (z40,aS.wrap (aS.wrap (z41+1)+z45),z42,aS.wrap (z43+1),z46,z47++[z44]) k0 k1 k2) (λ_=>none) (λ_=>none) a n (i:Int) (pO l a 9) out (by omega) N [] 0 (by omega) (by simp) rfl (by omega);obtain⟨out',h4,h5⟩:=UJ N hN hl k0 k1 k2 n hn f (aS.wrap (aS.wrap (a+1)+pO l a 9)) (i+1) (out++[s']) (by omega) (by omega) (by simp;omega) (by omega) (λs hs'=>by
     rcases nF.1 hs' with h|h
     .exact hs s h
     .rw[List.mem_singleton.1 h];exact⟨h1,h2⟩)
    refine⟨out',h4,h3.trans ?_⟩;rw[aP (eT (by simp;omega) (by simp;omega)),wr (x:=(i:Int)+1) (by omega) (by omega)];exact h5
   .rw[aZ hc,bL]
    exact⟨out,⟨by omega,hs⟩,rfl⟩
theorem aE1(N:Nat)(hN:20<=N){l:List Int}(hl:vY l):∃a,Ao N l=some a/\Tg a:=by
 have hat:=TO (l:=l) (i:=0) (m:=5) (by omega);obtain⟨out',h1,h2⟩:=UJ N hN hl (λz=>some (Cq z)) (λ_=>none) (λ_=>none) (pO l 0 5) (by omega) N 1 0 [] (by omega) (by omega) (by simp) (by omega) (λs hs=>by cases hs);refine⟨out',?_,h1⟩;unfold Ao w9 MU MR;rw[aP (O9 N hl _ _),O8 N hl];exact aO (λz:O=>z.bind GI) h2
end Go.Proofs
/- Lines and rows, in plain words. -/
namespace Go.Proofs
open Go Go.Ax Go.Ax.aA
theorem aA2(n:Nat):nU (n:Int)=gP n:=by
 unfold nU;apply Cl.1;rw[T5,T5];omega
theorem NW(N:Nat):∀(f u:Nat),u<f->u<=1000000->mE N f (u:Int)=some (Lib.decDigits u)
 |0,u,h,_=>by omega
 |f+1,u,h,hu=>by
   show HS (N,mE N f) (u:Int)=_;unfold HS Vm NX;rw[Lib.decDigits];by_cases h10:u<10
   .rw[dif_pos h10,aL (show(u:Int)<10 by omega),bJ,wr (by omega) (by omega),show(48:Int)+(u:Int)=((48+u:Nat):Int)by omega,aA2]
    rfl
   .have e1:(u:Int).tdiv 10=((u / 10:Nat):Int):=by
     rw[Int.tdiv_eq_ediv_of_nonneg (by omega)];omega
    have e2:(u:Int).tmod 10=((u%10:Nat):Int):=by
     rw[Int.tmod_eq_emod_of_nonneg (by omega)];omega
    have hrec:=NW N f (u / 10) (by omega) (by omega);rw[dif_neg h10,aZ (show ¬ (u:Int)<10 by omega),bL];simp only[e1,e2,wr (x:=((u / 10:Nat):Int)) (by omega) (by omega),wr (x:=(48:Int)+((u%10:Nat):Int)) (by omega) (by omega),hrec];rw[show(48:Int)+((u%10:Nat):Int)=((48+u%10:Nat):Int)by omega,aA2];have hl:(Lib.decDigits (u / 10)).length<=21:=by
     have:=Lib.itoa_length_le ((u / 10:Nat):Int) (by omega) (by omega)
     rwa [Lib.itoa_nonneg]at this
    rw[aP (by rfl),aP (aL (by simp;omega))];rfl
theorem aHg{N u:Nat}(hN:u<N)(hu:u<=1000000):DU N (u:Int)=true:=by unfold DU;rw[NW N N u hN hu];rfl
theorem aHf{N u:Nat}(hN:u<N)(hu:u<=1000000):mD N (u:Int)=Lib.itoa (u:Int):=by unfold mD;rw[NW N N u hN hu,Lib.itoa_nonneg];rfl
theorem aQM(s:List UInt8):cL s=s.drop (s.length-(cL s).length):=by
 unfold cL;have h:s=s.takeWhile (· == 32)++s.dropWhile (· == 32):=(aXG).symm;have hl:=aO List.length h;rw[bF]at hl;rw[show s.length-(s.dropWhile (· == 32)).length=(s.takeWhile (· == 32)).length by omega];have:=aXT (l₁:=s.takeWhile (· == 32)) (l₂:=s.dropWhile (· == 32));rw[aXG]at this;exact this.symm
theorem YM(N:Nat)(k0:List UInt8->Int->O)(k1 k2:Unit->O)(s:List UInt8)(hs:s.length<=1000000):∀(n i:Nat),s.length-i<n->i<=s.length->yA N n (s,(i:Int)) (λy=>k0 y.1 y.2) k1 k2=k0 s ((s.length-(cL (s.drop i)).length:Nat):Int)
 |0,i,h,_=>by omega
 |n+1,i,h,hi=>by
   show Iv N _ _ s (i:Int)=_;unfold Iv;by_cases hlt:i<s.length
   .have g:=bM hlt
    rw[aL (show(i:Int)<(s.length:Int)by omega),vM,cU g,lM];have hd:cL (s.drop i)=if s[i]=32 then cL (s.drop (i+1))else s.drop i:=by
     rw[fZ g];unfold cL;rw[List.dropWhile_cons];by_cases h:s[i]=32
     .rw[aE (by simpa using h),aE h]
     .rw[aC (by simpa using h),aC h]
    rw[hd];by_cases hc:s[i]=32
    .rw[aL hc,bJ,wr (by omega) (by omega),aE hc]
     exact YM N k0 k1 k2 s hs n (i+1) (by omega) (by omega)
    .rw[aZ hc,bL,aC hc,jM]
     show k0 s (i:Int)=_;rw[show s.length-(s.length-i)=i by omega]
   .rw[aZ (show ¬ (i:Int)<(s.length:Int)by omega),C5,pZ,bL,fD (by omega)]
    show k0 s (i:Int)=_;rw[show(cL []).length=0 from rfl,show s.length-0=i by omega]
theorem YN{N:Nat}{s:List UInt8}(hN:s.length+30<N)(hs:s.length<=20000):B5 N s=some (cB s):=by
 have hle:=uX s;unfold B5 YQ Of Ob;have h0:=YM N (λz4 z5=>ck (DU N z5) <|ck (zW N (mD N z5)) <|br (decide (z5=(z4.length:Int))) (some (x9 (kC N (mD N z5)))) (ck (b8 (kC N (mD N z5)++[[0]]).length 24) <|ck (dJ z4.length (some z5) none) <|ck (zW N (cA z4 (some z5) none)) <|ck (b8 (kC N (mD N z5)++[[0]]++kC N (cA z4 (some z5) none)).length 24) <|some (x9 (kC N (mD N z5)++[[0]]++kC N (cA z4 (some z5) none))))) (λ_=>none) (λ_=>none) s (by omega) N 0 (by omega) (dC _);refine(aO (λz:O=>z.bind Ir) h0).trans ?_;rw[fV];obtain⟨n,hn⟩:∃n,n=s.length-(cL s).length:=⟨_,rfl⟩
 have hdl:=Lib.itoa_length_le (n:Int) (by omega) (by omega);have hct:=aQM s;rw[<-hn]at hct ⊢;have e:cB s=bV (Lib.itoa (n:Int))++(if cL s=[]then[]else[0]::bV (cL s)):=by
  unfold cB;rw[<-hn]
 rw[e,aP (aHg (by omega) (by omega)),aHf (by omega) (by omega),aP (aAV (by omega) (by omega)),aAU (by omega) (by omega)];by_cases h:(n:Int)=(s.length:Int)
 .have h0:cL s=[]:=List.length_eq_zero_iff.1 (by omega)
  rw[aL h,bJ,aE h0,kN];rfl
 .have h0:cL s≠[]:=λh0=>h (by rw[h0]at hn;simp at hn;omega)
  have hsl:cA s (some (n:Int)) none=cL s:=by
   show s.drop ((n:Int)).toNat=_;rw[iT];exact hct.symm
  rw[aZ h,bL,aC h0,aP (eT (by simp[iF];omega) (by simp[iF];omega)),aP (show dJ s.length (some (n:Int)) none=true from aL ⟨by omega,by omega⟩),hsl,aP (aAV (by omega) (by omega)),aAU (by omega) (by omega),aP (eT (by simp[iF];omega) (by simp[iF];omega)),fT];rfl
theorem YP{N:Nat}{s:List UInt8}(hN:s.length+30<N)(hs:s.length<=20000):oZ N s=true:=by unfold oZ;rw[YN hN hs];rfl
theorem YO{N:Nat}{s:List UInt8}(hN:s.length+30<N)(hs:s.length<=20000):gR N s=cB s:=by unfold gR;rw[YN hN hs];rfl
def iL(l:List (List UInt8)):Prop:=∀c∈l,1<=c.length/\c.length<=2
theorem qS(s:List UInt8):iL (cB s):=λc hc=>by
 rcases nF.1 hc with h|h
 .exact Ss h
 .split at h
  .cases h
  .rcases List.mem_cons.1 h with rfl|h
   .exact⟨by decide,by decide⟩
   .exact Ss h
theorem iL.flat{l:List (List UInt8)}(h:iL l):l.length<=l.flatten.length/\l.flatten.length<=2*l.length:=by
 induction l with
 |nil=>simp
 |cons x l ih=>
   rw[fR,bF,dK];have:=ih λy hy=>h y (gF _ hy)
   have:=h x (jF);omega
def dF(m:Nat):List (List UInt8)->List UInt8->List UInt8×List (List UInt8)
 |[],row=>(row,[])
 |c::l,row=>if row.length+c.length<=m then dF m l (row++c)else(row,c::l)
theorem tJ(m:Nat):∀(l:List (List UInt8))(row:List UInt8),row.length<=m->(dF m l row).1.length<=m/\(dF m l row).1++(dF m l row).2.flatten=row++l.flatten/\∃k,k<=l.length/\(dF m l row).2=l.drop k/\(dF m l row).1=row++(l.take k).flatten
 |[],row,h=>⟨h,rfl,0,bX _,rfl,by simp[dF]⟩
 |c::l,row,h=>by
   unfold dF;split
   .rename_i hc
    obtain⟨h1,h2,k,h3,h4,h5⟩:=tJ m l (row++c) (by rw[bF];exact hc);refine⟨h1,by rw[h2,fR,fT],k+1,by simp;omega,h4,?_⟩;rw[h5,List.take_succ_cons,fR,fT]
   .exact⟨h,rfl,0,dC _,rfl,by simp⟩
theorem aCj{m:Nat}:∀{l:List (List UInt8)}{row:List UInt8},row.length+l.flatten.length<=m->dF m l row=(row++l.flatten,[])
 |[],row,_=>by simp[dF]
 |c::l,row,h=>by
   rw[fR,bF]at h;unfold dF;rw[aE (by omega),aCj (by rw[bF];omega),fR,fT]
theorem tK{m:Nat}{l:List (List UInt8)}(hl:iL l)(hne:l≠[])(hm:2<=m):(dF m l []).2.length<l.length:=by
 match l,hne with
 |c::l,_=>
   have hc:=hl c jF;unfold dF;rw[aE (by simp;omega)];obtain⟨_,_,k,h3,h4,_⟩:=tJ m l ([]++c) (by simp;omega);rw[h4,jM,dK];omega
theorem tL{m:Nat}{l:List (List UInt8)}{row:List UInt8}(hl:iL l)(hr:row.length<=m):iL (dF m l row).2/\(dF m l row).2.length<=l.length:=by
 obtain⟨_,_,k,_,h4,_⟩:=tJ m l row hr;rw[h4];exact⟨λc hc=>hl c (List.mem_of_mem_drop hc),by rw[jM];omega⟩
def CK(w:Nat):Nat->List (List UInt8)->List (List UInt8)
 |0,_=>[]
 |n+1,l=>if l.flatten.length<=w then[l.flatten]else((dF (w-1) l []).1++[63])::CK w n (dF (w-1) l []).2
def iA(w:Nat)(l:List (List UInt8)):List (List UInt8):=CK w (l.length+1) l
theorem aBF{w:Nat}(hw:4<=w):∀(n m:Nat){l:List (List UInt8)},iL l->l.length<n->l.length<m->CK w n l=CK w m l
 |0,_,_,_,h,_=>by omega
 |_,0,_,_,_,h=>by omega
 |n+1,m+1,l,hl,h1,h2=>by
   unfold CK;split
   .rfl
   .rename_i hf
    have hne:l≠[]:=λe=>by subst e;simp at hf
    have:=tK hl hne (m:=w-1) (by omega);rw[aBF hw n m (tL hl (by simp)).1 (by omega) (by omega)]
theorem u0{w:Nat}(hw:4<=w){l:List (List UInt8)}(hl:iL l):iA w l=if l.flatten.length<=w then[l.flatten]else((dF (w-1) l []).1++[63])::iA w (dF (w-1) l []).2:=by
 unfold iA
 conv=>lhs;unfold CK
 split
 .rfl
 .rename_i hf
  have hne:l≠[]:=λe=>by subst e;simp at hf
  have:=tK hl hne (m:=w-1) (by omega);rw[aBF hw l.length ((dF (w-1) l []).2.length+1) (tL hl (by simp)).1 (by omega) (by omega)]
theorem aBD{w:Nat}(hw:4<=w):∀(n:Nat){l:List (List UInt8)},iL l->l.length<=n->(iA w l).length<=l.length+1
 |n,l,hl,hn=>by
   rw[u0 hw hl];split
   .simp
   .rename_i hf
    have hne:l≠[]:=λe=>by subst e;simp at hf
    have h1:=tK hl hne (m:=w-1) (by omega)
    match n,hn with
    |n+1,hn=>
      have:=aBD hw n (tL (m:=w-1) (row:=[]) hl (by simp)).1 (by omega);rw[dK];omega
    |0,hn=>omega
end Go.Proofs
