/- Multiplications. Conditions are in the theorems. -/
import Derived.Test.YtpmhkjnnolpknaaDoorG6
open Go.IntKind renaming i64->aA
open Int renaming mul_le_mul->HJ,mul_nonneg->Dv
open List renaming append_assoc->fU,append_nil->nB,cons_append->oD,map_append->fO,map_cons->eX,nil_append->fR,range->gU,range_succ->OP,replicate->bY
/- The page of a multiplication: the program's and the reference's are one. -/
namespace Go.Proofs
open Go Go.Ax Go.Ax.aB
theorem aWt:∀(u i:Nat),1<=i->i<Lib.nDigits u->10^i<=u:=by
 intro u
 induction u using Nat.strongRecOn with
 |_ u ih=>
   intro i h1 h2;by_cases hu:u<10
   .rw[Lib.nDigits_small hu]at h2;omega
   .rw[Lib.nDigits_big hu]at h2
    cases i with
    |zero=>omega
    |succ j=>
      cases j with
      |zero=>simp;omega
      |succ j=>
        have:=ih (u / 10) (by omega) (j+1) (by omega) (by omega);rw[Nat.pow_succ];omega
theorem aW2{b:Int}(h0:0<=b){i:Nat}(h1:1<=i)(h:i<aD b):0<b / ((10^i:Nat):Int):=by
 have h2:=aWt b.toNat i h1 h;have h3:=Nat.one_le_pow i 10 (by omega);have h4:0<b / ((10^i:Nat):Int):=by
  have h5:b=(b.toNat:Int):=by omega
  rw[h5,<-Int.natCast_ediv];have:=Nat.div_pos h2 (by omega);omega
 exact h4
theorem TO{b:Int}(h0:0<=b){i:Nat}(h:aD b<=i):b / ((10^i:Nat):Int)=0:=Int.ediv_eq_zero_of_lt h0 (N2 h0 h)
def eB(a b:Int)(k:Nat):Int:=a*cN b k
theorem GO{a b:Int}(ha:0<=a/\a<=999999)(k:Nat):0<=eB a b k/\eB a b k<=8999991:=by
 have h:=kU b k;unfold eB;exact⟨Dv ha.1 h.1,by have:=HJ ha.2 h.2 h.1 (show(0:Int)<=999999 by omega);omega⟩
theorem N6{a:Int}(h:a<=8999991):aD a<=7:=by
 have h1:=jW h;have:aD 8999991=7:=Lib.nDigits_unique 6 8999991 (by decide) (by decide);omega
theorem aYe{a:Int}(h:a<=999998000001):aD a<=12:=by
 have h1:=jW h;have:aD 999998000001=12:=Lib.nDigits_unique 11 999998000001 (by decide) (by decide);omega
def eH(a b:Int):Nat->Nat
 |0=>max (max (aD a) (aD b)) (aD (a*b))
 |i+1=>max (eH a b i) (aD (eB a b i)+i)
theorem O3(a b:Int):∀(i j:Nat),i<=j->eH a b i<=eH a b j
 |i,0,h=>by
  cases(show i=0 by omega);exact Nat.le_refl _
 |i,j+1,h=>by
   by_cases he:i=j+1
   .subst he;exact Nat.le_refl _
   .have:=O3 a b i j (by omega)
    show _<=max (eH a b j) _;omega
theorem ED(a b:Int){i j:Nat}(h:i<j):aD (eB a b i)+i<=eH a b j:=by
 have:=O3 a b (i+1) j h;have:aD (eB a b i)+i<=eH a b (i+1):=by
  show _<=max (eH a b i) (aD (eB a b i)+i);omega
 omega
theorem EE(a b:Int)(j:Nat):aD a<=eH a b j/\aD b<=eH a b j/\aD (a*b)<=eH a b j:=by
 have h:=O3 a b 0 j (by omega);have:eH a b 0=max (max (aD a) (aD b)) (aD (a*b)):=rfl;omega
theorem xX{a b:Int}(ha:0<=a/\a<=999999)(hb:0<=b/\b<=999999):∀i,i<=7->eH a b i<=14
 |0,_=>by
   have h1:=gJ ha.2;have h2:=gJ hb.2;have h3:a*b<=999999*999999:=HJ ha.2 hb.2 hb.1 (by omega);have h4:=aYe (a:=a*b) (by omega);show max (max (aD a) (aD b)) (aD (a*b))<=14;omega
 |i+1,h=>by
   have h1:=xX ha hb i (by omega);have h2:=N6 (GO (b:=b) ha i).2;show max (eH a b i) (aD (eB a b i)+i)<=14;omega
def kQ(a b:Int)(i:Nat):List Int:=(gU i).map (eB a b)
theorem aWy(a b:Int)(i:Nat):kQ a b (i+1)=kQ a b i++[eB a b i]:=by unfold kQ;rw[OP,fO];rfl
theorem NN(a b:Int)(i:Nat):(kQ a b i).length=i:=by simp[kQ]
theorem aBD{a b:Int}(ha:0<=a/\a<=999999)(hb:0<=b/\b<=999999)(x0:Int)(k0:Int×Int×Int×Int×List Int->O)(k1 k2:Unit->O):∀(m i:Nat),aD b-i<m->i<=aD b->
    vK 100 m (x0,a,b,eH a b i,i,b / ((10^i:Nat):Int),kQ a b i) k0 k1 k2=k0 (x0,a,b,eH a b (aD b),kQ a b (aD b))
 |0,i,h,_=>by omega
 |m+1,i,h,hi=>by
   show Kp 100 _ _ x0 a b (eH a b i) i (b / ((10^i:Nat):Int)) (kQ a b i)=_;unfold Kp;have h6:=gJ hb.2;have hsh:=oS hb.1 i;by_cases hlt:i<aD b
   .have hbr:(decide ((i:Int)=0)||decide (0<b / ((10^i:Nat):Int)))=true:=by
     cases i with
     |zero=>rfl
     |succ i=>rw[aO (aW2 hb.1 (by omega) hlt),Bool.or_true]
    have hp:=GO (b:=b) ha i;have hl7:=N6 hp.2;have ew:=xX ha hb i (by omega);have e1:aA.wrap (a*(b / ((10^i:Nat):Int)).tmod 10)=eB a b i:=by
     rw[Int.tmod_eq_emod_of_nonneg hsh.1];exact wr (show _<=eB a b i by omega) (show eB a b i<=_ by omega)
    have h57:=sG 100 (n:=eB a b i) ⟨by omega,by omega⟩ hp.1;have e2:max (eH a b i:Int) (aA.wrap ((aD (eB a b i):Int)+i))=((eH a b (i+1):Nat):Int):=by
     rw[wr (by omega) (by omega)];show _=((max (eH a b i) (aD (eB a b i)+i):Nat):Int);omega
    have e3:aA.wrap ((b / ((10^i:Nat):Int)).tdiv 10)=b / ((10^(i+1):Nat):Int):=by
     rw[Int.tdiv_eq_ediv_of_nonneg hsh.1,wr (by omega) (by omega),TP]
    have e:aA.wrap ((i:Int)+1)=((i+1:Nat):Int):=by rw[wr (by omega) (by omega)];omega
    rw[hbr,aW,e9,e1,aL (eJ (by simp[NN];omega) (by simp[NN];omega)),e9,aL (sF h57),e9,sE h57,e2,e3,e,<-aWy];exact aBD ha hb x0 k0 k1 k2 m (i+1) (by omega) (by omega)
   .have hl:=UQ b
    have hbr:(decide ((i:Int)=0)||decide (0<b / ((10^i:Nat):Int)))=false:=by
     rw[TO hb.1 (by omega)];simp;omega
    rw[hbr,aT,show i=aD b by omega]
theorem aQG{a b:Int}(ha:0<=a/\a<=999999)(hb:0<=b/\b<=999999)(x0:Int)(k0:Int×Int×Int×Int×List Int->O)(k1 k2:Unit->O):
    vK 100 100 (x0,a,b,(eH a b 0:Nat),0,b,[]) k0 k1 k2=k0 (x0,a,b,eH a b (aD b),kQ a b (aD b)):=by
 have h:=aBD ha hb x0 k0 k1 k2 100 0 (by have:=gJ hb.2;omega) (by omega);rw[show b / ((10^0:Nat):Int)=b by simp]at h;exact h
def jQ(a b:Int)(width i:Nat):List (List UInt8):=(gU i).map λk=>bX width (eB a b k).toNat k
theorem aXB(a b:Int)(width i:Nat):jQ a b width (i+1)=jQ a b width i++[bX width (eB a b i).toNat i]:=by unfold jQ;rw[OP,fO];rfl
theorem GP(a b:Int)(width i:Nat):(jQ a b width i).length=i:=by simp[jQ]
theorem aBE{a b:Int}(ha:0<=a/\a<=999999){width n:Nat}(hw:width<90)(hn:n<=7)(hfit:∀k,k<n->aD (eB a b k)+k<=width)(x0:Int)(F:List (List UInt8))(hF:F.length<=10)(k0:Int×List Int×Int×List (List UInt8)->O)(k1 k2:Unit->O):∀(m i:Nat),n-i<m->i<=n->
    vJ 100 m (x0,n,i,kQ a b n,width,F++jQ a b width i) k0 k1 k2=k0 (x0,kQ a b n,width,F++jQ a b width n)
 |0,i,h,_=>by omega
 |m+1,i,h,hi=>by
   show Ko 100 _ _ x0 n (kQ a b n) i width (F++jQ a b width i)=_;unfold Ko;by_cases hlt:i<n
   .have hg:(kQ a b n)[i]?=some (eB a b i):=by
     unfold kQ;rw[List.getElem?_map,List.getElem?_range hlt];rfl
    have hp:=GO (b:=b) ha i;have e:aA.wrap ((i:Int)+1)=((i+1:Nat):Int):=by rw[wr (by omega) (by omega)];omega
    have h64:=oL (left:=i) (width:=width) (n:=eB a b i) (p:=F++jQ a b width i) (by rw[List.length_append,GP];omega) hp.1 (by omega) hw (by have:=hfit i hlt;omega);rw[aO (show(i:Int)<(n:Int)by omega),aW,dA hg,aL (oK h64),r9 h64,oJ h64,e];simp only[];rw[fU,<-aXB];exact aBE ha hw hn hfit x0 F hF k0 k1 k2 m (i+1) (by omega) (by omega)
   .rw[bA (show ¬ (i:Int)<(n:Int)by omega),aT,show i=n by omega]
theorem aQI{a b:Int}(ha:0<=a/\a<=999999){width n:Nat}(hw:width<90)(hn:n<=7)(hfit:∀k,k<n->aD (eB a b k)+k<=width)(x0:Int)(F:List (List UInt8))(hF:F.length<=10)(k0:Int×List Int×Int×List (List UInt8)->O)(k1 k2:Unit->O):
    vJ 100 100 (x0,n,0,kQ a b n,width,F) k0 k1 k2=k0 (x0,kQ a b n,width,F++jQ a b width n):=by
 have h:=aBE ha hw hn hfit x0 F hF k0 k1 k2 100 0 (by omega) (by omega);rw[show jQ a b width 0=[]from rfl,nB]at h;exact h
def qU(a b:Int)(width:Nat):List (List UInt8):=
 [bX width a.toNat 0,(bX width b.toNat 0).set 0 33,bY width 18]++jQ a b width (aD b)++(if 1<aD b then[bY width 18,bX width (a*b).toNat 0]else[])
theorem aBC(x:List (List UInt8)):(some (C0 x):O).bind CZ=some x:=rfl
theorem aQJ{a b:Int}(ha:0<=a/\a<=999999)(hb:0<=b/\b<=999999)(op:Int):vI 100 op [a,b] (a*b)=some (qU a b (1+eH a b (aD b))):=by
 have h6a:=gJ ha.2;have h6:=gJ hb.2;have hab:0<=a*b/\a*b<=999999*999999:=⟨Dv ha.1 hb.1,HJ ha.2 hb.2 hb.1 (by omega)⟩;have h57a:=sG 100 (n:=a) ⟨by omega,by omega⟩ ha.1;have h57b:=sG 100 (n:=b) ⟨by omega,by omega⟩ hb.1;have h57r:=sG 100 (n:=a*b) ⟨by omega,by omega⟩ hab.1;have hW:=xX ha hb (aD b) (by omega);obtain⟨wa,wb,wab⟩:=EE a b (aD b);unfold vI w43 RU;rw[gK];simp only[kT];rw[aL (sF h57a),aL (sF h57b),aL (sF h57r),sE h57a,sE h57b,sE h57r];have e0:max (max (aD a:Int) (aD b:Int)) (aD (a*b):Int)=((eH a b 0:Nat):Int):=by
  show _=((max (max (aD a) (aD b)) (aD (a*b)):Nat):Int);omega
 rw[e0];refine(aY (λz:O=>z.bind CZ) (aQG ha hb (a*b) _ _ _)).trans ?_;simp only[];generalize hwd:eH a b (aD b)=wd at *
 have ew:aA.wrap (1+(wd:Int))=((1+wd:Nat):Int):=by rw[wr (by omega) (by omega)];omega
 rw[ew];have hA:=oL (left:=0) (width:=1+wd) (n:=a) (p:=[]) (by simp) ha.1 (by omega) (by omega) (by omega);have hB:=oL (left:=0) (width:=1+wd) (n:=b) (p:=[]++[bX (1+wd) a.toNat 0]) (by simp) hb.1 (by omega) (by omega) (by omega);rw[show((0:Nat):Int)=0 from rfl]at hA hB;simp only[oK hA,r9 hA,oJ hA,oK hB,r9 hB,oJ hB,e9];have hlb:(bX (1+wd) b.toNat 0).length=1+wd:=lC (by show 0+aD b<=_;omega);have h65:=YX (width:=1+wd) (c:=33) (pre:=[]++[bX (1+wd) a.toNat 0]) (L:=bX (1+wd) b.toNat 0) (by simp) (by omega);rw[aL (YW h65),YV h65,YU h65];simp only[];have h66:=Pj (width:=1+wd) (p:=[]++[bX (1+wd) a.toNat 0]++[(bX (1+wd) b.toNat 0).set 0 33]) (by omega) (by simp);rw[aL (Ph h66),Pg h66,Pf h66];simp only[];rw[NN];refine(aY (λz:O=>z.bind CZ) (aQI ha (b:=b) (width:=1+wd) (n:=aD b) (by omega) (by omega) (λk hk=>by have:=ED a b hk;omega) (a*b) ([]++[bX (1+wd) a.toNat 0]++[(bX (1+wd) b.toNat 0).set 0 33]++[bY (1+wd) 18]) (by simp) _ _ _)).trans ?_;simp only[NN];unfold qU;by_cases h1:1<aD b
 .rw[aO (show 1<((aD b:Nat):Int)by omega),aW,aJ h1]
  have h66':=Pj (width:=1+wd) (p:=[]++[bX (1+wd) a.toNat 0]++[(bX (1+wd) b.toNat 0).set 0 33]++[bY (1+wd) 18]++jQ a b (1+wd) (aD b)) (by omega) (by simp[GP];omega);have h64':=oL (left:=0) (width:=1+wd) (n:=a*b) (p:=[]++[bX (1+wd) a.toNat 0]++[(bX (1+wd) b.toNat 0).set 0 33]++[bY (1+wd) 18]++jQ a b (1+wd) (aD b)++[bY (1+wd) 18]) (by simp[GP];omega) hab.1 (by omega) (by omega) (by omega);rw[show((0:Nat):Int)=0 from rfl]at h64';rw[aL (Ph h66'),Pg h66',Pf h66'];simp only[];rw[aL (oK h64'),oJ h64',aBC];simp only[fU,oD,fR]
 .rw[bA (show ¬ 1<((aD b:Nat):Int)by omega),aT,aH h1,aBC]
  simp only[oD,fR,nB]
end Go.Proofs
/- The lines of a multiplication in the reference, and that their cells are the program's page. -/
namespace Go.Proofs
open Go Go.Ax Go.Ax.aB
theorem YH{a b:Int}(ha:0<=a/\a<=999999)(hb:0<=b/\b<=999999)(k0:Int×Int×Int×Int->O)(k1 k2:Unit->O):∀(m i:Nat),aD b-i<m->i<=aD b->
    yU 100 m (a,b,aD b,eH a b i,i) k0 k1 k2=k0 (a,b,aD b,eH a b (aD b))
 |0,i,h,_=>by omega
 |m+1,i,h,hi=>by
   show Ij 100 _ _ a b (aD b) (eH a b i) i=_;unfold Ij;have h6:=gJ hb.2;by_cases hlt:i<aD b
   .have hp:=GO (b:=b) ha i
    have hl7:=N6 hp.2;have ew:=xX ha hb i (by omega);have h60:=uV (N:=100) (m:=b) (c:=i) hb.1 (by omega) (by omega) (by omega);have e1:aA.wrap (a*cN b i)=eB a b i:=wr (show _<=eB a b i by omega) (show eB a b i<=_ by omega);obtain⟨p59,y59⟩:=lI (N:=100) (n:=eB a b i) (by omega) hp.1 (by omega);have e2:max (eH a b i:Int) (aA.wrap ((aD (eB a b i):Int)+i))=((eH a b (i+1):Nat):Int):=by
     rw[wr (by omega) (by omega)];show _=((max (eH a b i) (aD (eB a b i)+i):Nat):Int);omega
    have e:aA.wrap ((i:Int)+1)=((i+1:Nat):Int):=by rw[wr (by omega) (by omega)];omega
    rw[aO (show(i:Int)<(aD b:Int)by omega),aW,aL (uU h60),uT h60,e1,aL p59,y59,gE,e2,e];exact YH ha hb k0 k1 k2 m (i+1) (by omega) (by omega)
   .rw[bA (show ¬ (i:Int)<(aD b:Int)by omega),aT,show i=aD b by omega]
def mJ(a b:Int)(width i:Nat):List (List UInt8):=(gU i).map λk=>eU (Lib.decDigits (eB a b k).toNat) width k
theorem aXA(a b:Int)(width i:Nat):mJ a b width (i+1)=mJ a b width i++[eU (Lib.decDigits (eB a b i).toNat) width i]:=by unfold mJ;rw[OP,fO];rfl
theorem NO(a b:Int)(width i:Nat):(mJ a b width i).length=i:=by simp[mJ]
theorem YJ{a b:Int}(ha:0<=a/\a<=999999)(hb:0<=b/\b<=999999){width:Nat}(hw:width<90)(hfit:∀k,k<aD b->aD (eB a b k)+k<=width)(F:List (List UInt8))(hF:F.length<=10)(k0:Int×Int×Int×Int×List (List UInt8)->O)(k1 k2:Unit->O):∀(m i:Nat),aD b-i<m->i<=aD b->
    uO 100 m (a,b,aD b,width,i,F++mJ a b width i) k0 k1 k2=k0 (a,b,aD b,width,F++mJ a b width (aD b))
 |0,i,h,_=>by omega
 |m+1,i,h,hi=>by
   show Ii 100 _ _ a b (aD b) width i (F++mJ a b width i)=_;unfold Ii;have h6:=gJ hb.2;by_cases hlt:i<aD b
   .have hp:=GO (b:=b) ha i
    have h60:=uV (N:=100) (m:=b) (c:=i) hb.1 (by omega) (by omega) (by omega);have e1:aA.wrap (a*cN b i)=eB a b i:=wr (show _<=eB a b i by omega) (show eB a b i<=_ by omega);obtain⟨p59,y59⟩:=lI (N:=100) (n:=eB a b i) (by omega) hp.1 (by omega);have e:aA.wrap ((i:Int)+1)=((i+1:Nat):Int):=by rw[wr (by omega) (by omega)];omega
    have h86:=pV (s:=Lib.decDigits (eB a b i).toNat) (width:=width) (left:=i) hw (by rw[gE];have:=hfit i hlt;omega);rw[aO (show(i:Int)<(aD b:Int)by omega),aW,aL (uU h60),uT h60,e1,aL p59,y59,aL (pU h86),pT h86,aL (eJ (by simp[NO];omega) (by simp[NO];omega)),e,fU,<-aXA];exact YJ ha hb hw hfit F hF k0 k1 k2 m (i+1) (by omega) (by omega)
   .rw[bA (show ¬ (i:Int)<(aD b:Int)by omega),aT,show i=aD b by omega]
theorem aKm{a b:Int}(ha:0<=a/\a<=999999)(hb:0<=b/\b<=999999){width:Nat}(hw:width<90)(hfit:∀k,k<aD b->aD (eB a b k)+k<=width)(F:List (List UInt8))(hF:F.length<=10)(k0:Int×Int×Int×Int×List (List UInt8)->O)(k1 k2:Unit->O):
    uO 100 100 (a,b,aD b,width,0,F) k0 k1 k2=k0 (a,b,aD b,width,F++mJ a b width (aD b)):=by
 have h:=YJ ha hb hw hfit F hF k0 k1 k2 100 0 (by have:=gJ hb.2;omega) (by omega);rw[show mJ a b width 0=[]from rfl,nB]at h;exact h
def NL(a b:Int)(width:Nat):List (List UInt8):=
 [eU (Lib.decDigits a.toNat) width 0,[42]++(eU (Lib.decDigits b.toNat) width 0).drop 1,bY width 61]++mJ a b width (aD b)++(if 1<aD b then[bY width 61,eU (Lib.decDigits (a*b).toNat) width 0]else[])
theorem YI(x:List (List UInt8)):(some (CA x):O).bind Bz=some x:=rfl
theorem aKn{a b:Int}(ha:0<=a/\a<=999999)(hb:0<=b/\b<=999999):uN 100 a b=some (NL a b (1+eH a b (aD b))):=by
 have h6a:=gJ ha.2;have h6:=gJ hb.2;have hab:0<=a*b/\a*b<=999999*999999:=⟨Dv ha.1 hb.1,HJ ha.2 hb.2 hb.1 (by omega)⟩;obtain⟨pa,ya⟩:=lI (N:=100) (n:=a) (by omega) ha.1 (by omega);obtain⟨pb,yb⟩:=lI (N:=100) (n:=b) (by omega) hb.1 (by omega);obtain⟨pr,yr⟩:=lI (N:=100) (n:=a*b) (by omega) hab.1 (by omega);have hW:=xX ha hb (aD b) (by omega);obtain⟨wa,wb,wab⟩:=EE a b (aD b);have er:aA.wrap (a*b)=a*b:=wr (by omega) (by omega);unfold uN YK P9;rw[aL pb,aL pa,er,aL pr,yb,ya,yr,gE,gE,gE];have e0:max (max (aD a:Int) (aD b:Int)) (aD (a*b):Int)=((eH a b 0:Nat):Int):=by
  show _=((max (max (aD a) (aD b)) (aD (a*b)):Nat):Int);omega
 rw[e0];refine(aY (λz:O=>z.bind Bz) (YH ha hb _ _ _ 100 0 (by omega) (by omega))).trans ?_;simp only[];generalize hwd:eH a b (aD b)=wd at *
 have ew:aA.wrap ((wd:Int)+1)=((1+wd:Nat):Int):=by rw[wr (by omega) (by omega)];omega
 have hA:=pV (s:=Lib.decDigits a.toNat) (width:=1+wd) (left:=0) (by omega) (by rw[gE];omega);have hB:=pV (s:=Lib.decDigits b.toNat) (width:=1+wd) (left:=0) (by omega) (by rw[gE];omega);have hR:=pV (s:=Lib.decDigits (a*b).toNat) (width:=1+wd) (left:=0) (by omega) (by rw[gE];omega);rw[show((0:Nat):Int)=0 from rfl]at hA hB hR;have hEb:(eU (Lib.decDigits b.toNat) (1+wd) 0).length=1+wd:=Np (by rw[gE];omega);have h87:=Oh (l:=eU (Lib.decDigits b.toNat) (1+wd) 0) (s:=[42]) (by omega) (by omega) (by simp);have h88:=H0 (c:=61) (n:=1+wd) (by omega);rw[ew,aL pa,ya,aL (pU hA),pT hA,aL pb,yb,aL (pU hB),pT hB,aL (Og h87),Of h87,aL (EJ h88),EI h88];refine(aY (λz:O=>z.bind Bz) (aKm ha hb (width:=1+wd) (by omega) (λk hk=>by have:=ED a b hk;omega) _ (by simp) _ _ _)).trans ?_;simp only[];unfold NL;by_cases h1:1<aD b
 .rw[aO (show 1<((aD b:Nat):Int)by omega),aW,aJ h1,aL (EJ h88),EI h88,er,aL pr,yr,aL (pU hR),pT hR,aL (eJ (by simp[NO];omega) (by simp[NO];omega)),YI]
 .rw[bA (show ¬ 1<((aD b:Nat):Int)by omega),aT,aH h1,YI,nB]
theorem aWs{a b:Int}{width:Nat}(hw:0<width)(h1:aD a<=width)(h2:aD b<=width)(h3:aD (a*b)<=width)(hfit:∀k,k<aD b->aD (eB a b k)+k<=width):(NL a b width).map (·.map dG)=qU a b width:=by
 have hE:∀x:Int,aD x<=width->(eU (Lib.decDigits x.toNat) width 0).map dG=bX width x.toNat 0:=λx hx=>D8 (by show 0+aD x<=width;omega)
 unfold NL qU;have hp:(mJ a b width (aD b)).map (·.map dG)=jQ a b width (aD b):=by
  unfold mJ jQ;rw[List.map_map];apply List.map_congr_left;intro k hk;exact D8 (by show k+aD (eB a b k)<=width;have:=hfit k (List.mem_range.1 hk);omega)
 have hs:([42]++List.drop 1 (eU (Lib.decDigits b.toNat) width 0)).map dG=(bX width b.toNat 0).set 0 33:=by
  rw[aEO (by rw[Np (by rw[gE];omega)];exact hw),hE b h2,a06]
 rw[fO,fO,hp];simp only[eX,List.map_nil];rw[hE a h1,hs,TY];by_cases h:1<aD b
 .rw[aJ h,aJ h]
  simp only[eX,List.map_nil];rw[TY,hE (a*b) h3]
 .rw[aH h,aH h]
  rfl
end Go.Proofs
