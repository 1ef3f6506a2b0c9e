/- Divisions. Conditions are in the theorems. -/
import Derived.Test.YtpmhkjnnolpknaaDoorG7
import Derived.Lib.Atoi
open Go.IntKind renaming i64->aA
open Int renaming ediv_ediv_of_nonneg->a1z,ediv_le_self->HK,ediv_nonneg->BZ,eq_ofNat_of_zero_le->Va,mul_nonneg->Dv,natCast_ediv->aGz,tdiv_eq_ediv_of_nonneg->BY,toNat_natCast->oE
open List renaming append_assoc->fU,append_nil->nB,cons_append->oD,flatMap_append->Du,flatMap_cons->gO,length_append->cP,map_append->fO,map_cons->eX,nil_append->fR,range_succ->OP,replicate->bY,take_of_length_le->oB
open Nat renaming div_div_eq_div_mul->a1Z,sub_zero->aGi
open UInt8 renaming ofNat->dV
/- Digits as text: one by one, from the left; what of them is read back. -/
namespace Go.Proofs
open Go Go.Ax Go.Ax.aB
theorem Uu{u t:Nat}(h:t<Lib.nDigits u):(Lib.decDigits u)[t]?=some (dV (48+u / 10^(Lib.nDigits u-1-t)%10)):=by
 rw[Lib.decDigits_eq,List.getElem?_map,List.getElem?_range h];rfl
theorem aFN:∀(c u:Nat),c<Lib.nDigits u->Lib.nDigits (u / 10^c)+c=Lib.nDigits u
 |0,u,_=>by simp
 |c+1,u,h=>by
   by_cases hu:u<10
   .rw[Lib.nDigits_small hu]at h;omega
   .rw[Lib.nDigits_big hu]at h ⊢
    have:=aFN c (u / 10) (by omega);rw[Nat.pow_succ,Nat.mul_comm,<-a1Z];omega
theorem aGK:∀(c u:Nat),c<Lib.nDigits u->(Lib.decDigits u).take (Lib.nDigits u-c)=Lib.decDigits (u / 10^c)
 |0,u,_=>by
   rw[aGi,oB (by rw[xC];omega),Nat.pow_zero,Nat.div_one]
 |c+1,u,h=>by
   by_cases hu:u<10
   .rw[Lib.nDigits_small hu]at h;omega
   .rw[Lib.nDigits_big hu]at h ⊢
    have ih:=aGK c (u / 10) (by omega);rw[Lib.decDigits,dif_neg hu,Nat.pow_succ,Nat.mul_comm,<-a1Z,<-ih,List.take_append_of_le_length (by rw[xC];omega)]
    congr 1
    omega
theorem aGH{d:Nat}(h:d<10):Lib.digitVal (dV (48+d))=some d:=by
 rcases(show d=0\/d=1\/d=2\/d=3\/d=4\/d=5\/d=6\/d=7\/d=8\/d=9 by omega)with h|h|h|h|h|h|h|h|h|h <;> subst h <;> decide
theorem aGI{d:Nat}(h:d<10):(dV (48+d)-48).toNat=d:=by
 rcases(show d=0\/d=1\/d=2\/d=3\/d=4\/d=5\/d=6\/d=7\/d=8\/d=9 by omega)with h|h|h|h|h|h|h|h|h|h <;> subst h <;> decide
theorem a0L{d:Nat}(h:d<10):(dV (48+d) == 45)=false/\(dV (48+d) == 43)=false:=by
 rcases(show d=0\/d=1\/d=2\/d=3\/d=4\/d=5\/d=6\/d=7\/d=8\/d=9 by omega)with h|h|h|h|h|h|h|h|h|h <;> subst h <;> decide
theorem a0N(u:Nat):Lib.decFrom 0 (Lib.decDigits u)=some u:=by
 induction u using Nat.strongRecOn with
 |_ u ih=>
   by_cases hu:u<10
   .rw[Lib.decDigits,dif_pos hu]
    have:=Lib.decFrom_take [dV (48+u)] 0 0 0 (dV (48+u)) u rfl rfl (aGH hu);simpa using this
   .have h:=ih (u / 10) (by omega)
    have hd:Lib.decDigits u=Lib.decDigits (u / 10)++[dV (48+u%10)]:=by rw[Lib.decDigits,dif_neg hu]
    have:=Lib.decFrom_take (Lib.decDigits u) (Lib.decDigits (u / 10)).length 0 (u / 10) (dV (48+u%10)) (u%10) (by rw[hd,List.take_left];exact h) (by rw[hd];simp) (aGH (by omega));rw[oB (by rw[hd];simp)]at this;rw[this]
    congr 1
    omega
theorem a1A(u:Nat):Lib.atoi (Lib.decDigits u)=some (u:Int):=by
 have h0:=Uu (u:=u) (t:=0) (Lib.nDigits_pos u);have hf:=a0N u;generalize Lib.decDigits u=l at *
 cases l with
 |nil=>cases h0
 |cons b r=>
   have hb:b=dV (48+u / 10^(Lib.nDigits u-1-0)%10):=by simpa using h0
   obtain⟨s1,s2⟩:=a0L (d:=u / 10^(Lib.nDigits u-1-0)%10) (by omega);rw[<-hb]at s1 s2;simp only[Lib.atoi,s1,s2,Bool.false_eq_true,lX];have:Lib.decNat (b::r)=some u:=hf;rw[this];rfl
theorem aKs(N:Nat){u:Nat}(h:Lib.nDigits u<=18):CB N (Lib.decDigits u)=true/\Ik N (Lib.decDigits u)=(u:Int):=by
 unfold CB Ik;rw[a1A,xC,aO h];exact⟨rfl,rfl⟩
end Go.Proofs
/- Long division: what stands under each other. -/
namespace Go.Proofs
open Go Go.Ax Go.Ax.aB
def fM(a b:Int)(c:Nat):Int:=a / ((10^c:Nat):Int)%b
def fW(a b:Int)(c:Nat):Int:=b*cN (a / b) c
def gQ(a b:Int)(c:Nat):Int:=10*fM a b (c+1)+cN a c
theorem Mp(x:Int)(c:Nat):x / ((10^c:Nat):Int)=10*(x / ((10^(c+1):Nat):Int))+cN x c:=by
 rw[<-TP];unfold cN;omega
theorem aW3{a b:Int}(hb:0<b)(c:Nat):a / b / ((10^c:Nat):Int)=a / ((10^c:Nat):Int) / b:=by
 rw[a1z (by omega),a1z (Int.natCast_nonneg _),Int.mul_comm]
theorem ND{a b:Int}(hb:0<b)(c:Nat):fM a b c=a / ((10^c:Nat):Int)-b*(a / b / ((10^c:Nat):Int)):=by
 unfold fM;rw[aW3 hb];have:=Int.emod_add_mul_ediv (a / ((10^c:Nat):Int)) b;omega
theorem Mj{a b:Int}(hb:0<b)(c:Nat):gQ a b c-fW a b c=fM a b c:=by
 unfold gQ fW;rw[ND hb (c+1),ND hb c,Mp a c,Mp (a / b) c,Int.mul_add,Int.mul_sub];have:b*(10*(a / b / ((10^(c+1):Nat):Int)))=10*(b*(a / b / ((10^(c+1):Nat):Int))):=by rw[Int.mul_left_comm]
 omega
theorem DF{a b:Int}(hb:0<b)(c:Nat):0<=fM a b c/\fM a b c<b:=⟨Int.emod_nonneg _ (by omega),Int.emod_lt_of_pos _ hb⟩
theorem NB{a b:Int}(ha:0<=a)(hb:0<b)(c:Nat):fM a b c<=a / ((10^c:Nat):Int):=by
 rw[ND hb];have h1:=(oS (BZ ha (show 0<=b by omega)) c).1;have:=Dv (show 0<=b by omega) h1;omega
theorem OG{a b:Int}(ha:0<=a)(hb:0<b)(c:Nat):0<=gQ a b c/\gQ a b c<=a / ((10^c:Nat):Int):=by
 have h1:=NB ha hb (c+1);have h2:=(DF (a:=a) hb (c+1)).1;have h3:=kU a c;unfold gQ;rw[Mp a c];omega
theorem GN{a b:Int}(ha:0<=a)(hb:0<b)(c:Nat):0<=fW a b c/\fW a b c<=a / ((10^c:Nat):Int):=by
 have h1:=OG ha hb c;have h2:=Mj (a:=a) hb c;have h3:=(DF (a:=a) hb c).1;have h4:=kU (a / b) c;have h5:0<=fW a b c:=Dv (by omega) h4.1;omega
theorem aYf{a:Int}(ha:0<=a){c:Nat}(hc:c<aD a):aD (a / ((10^c:Nat):Int))+c=aD a:=by
 have h:=aFN c a.toNat hc;unfold aD;have e:(a / ((10^c:Nat):Int)).toNat=a.toNat / 10^c:=by
  obtain⟨u,rfl⟩:=Va ha;rw[<-aGz,oE,oE]
 rw[e];exact h
theorem n8{a y:Int}(ha:0<=a){c:Nat}(hc:c<aD a)(hy:y<=a / ((10^c:Nat):Int)):aD y+c<=aD a:=by
 have h1:=jW hy;have h2:=aYf ha hc;omega
theorem aWk{a b:Int}(ha:0<=a){c:Nat}(h:aD a<=c):fM a b c=0:=by
 unfold fM;rw[TO ha h];simp
theorem a1J{a b:Int}(ha:0<=a)(hb:0<b){c:Nat}(h:aD (a / b)<=c):gQ a b c=fM a b c:=by
 have h1:=Mj (a:=a) hb c;have h2:fW a b c=0:=by
  unfold fW;rw[aGJ (BZ ha (by omega)) h];simp
 omega
theorem a1I{a b:Int}(ha:0<=a)(hb:0<b)(c:Nat)(h:aD (a / b)<=c+1):gQ a b c=a / ((10^c:Nat):Int):=by
 unfold gQ;rw[ND hb (c+1),TO (BZ ha (by omega)) h,Mp a c];omega
def jT(a b:Int)(c:Nat):Int:=if 0<c then gQ a b (c-1)else fM a b 0
theorem GU{a b:Int}(ha:0<=a)(hb:0<b)(c:Nat):0<=jT a b c/\jT a b c<=a / ((10^(c-1):Nat):Int):=by
 unfold jT;split
 .exact OG ha hb (c-1)
 .have h0:c=0:=by omega
  subst h0;exact⟨(DF hb 0).1,NB ha hb 0⟩
def kB(a b:Int)(width L i:Nat):List (List UInt8):=(List.range i).flatMap λj=>[bX width (fW a b (L-1-j)).toNat (L-1-j),bX width (jT a b (L-1-j)).toNat (L-1-j-1)]
theorem aEG(a b:Int)(width L i:Nat):kB a b width L (i+1)=kB a b width L i++[bX width (fW a b (L-1-i)).toNat (L-1-i),bX width (jT a b (L-1-i)).toNat (L-1-i-1)]:=by
 unfold kB;rw[OP,Du];simp
theorem Mi(a b:Int)(width L:Nat):∀i,(kB a b width L i).length=2*i
 |0=>rfl
 |i+1=>by rw[aEG,cP,Mi a b width L i];simp;omega
theorem aFC{z:Int}(k:Nat)(h0:0<=z):z.toNat / 10^k%10=(cN z k).toNat:=by
 obtain⟨u,rfl⟩:=Va h0;unfold cN;rw[<-aGz];generalize h:u / 10^k=v;have:(Int.ofNat u).toNat=u:=rfl;simp only[oE,h];omega
theorem aAs{a b:Int}(ha:0<=a/\a<=999999)(hb:1<=b/\b<=999999){width:Nat}(hw:width<90)(hfit:aD a<=width)(F:List (List UInt8))(hF:F.length<=10)(k0:Int×List (List UInt8)->O)(k1 k2:Unit->O):∀(m i:Nat),aD (a / b)-i<m->i<=aD (a / b)->
    ∀ab:Int,(i<aD (a / b)->ab=gQ a b (aD (a / b)-1-i))->
    vH 100 m (b,aD a,Lib.decDigits a.toNat,Lib.decDigits (a / b).toNat,ab,aD (a / b),i,width,F++kB a b width (aD (a / b)) i) k0 k1 k2=k0 (width,F++kB a b width (aD (a / b)) (aD (a / b)))
 |0,i,h,_,_,_=>by omega
 |m+1,i,h,hi,ab,hab=>by
   show Kg 100 _ _ b (aD a) (Lib.decDigits a.toNat) (Lib.decDigits (a / b).toNat) (aD (a / b)) ab i width (F++kB a b width (aD (a / b)) i)=_;unfold Kg;have hq0:0<=a / b:=BZ ha.1 (by omega);have hqa:a / b<=a:=HK _ ha.1;have h6a:=gJ ha.2;have hLa:aD (a / b)<=aD a:=jW hqa;generalize hL:aD (a / b)=L at *
   by_cases hlt:i<L
   .have hab:=hab hlt
    obtain⟨c,hc⟩:∃c,L-1-i=c:=⟨_,rfl⟩
    have hq:(Lib.decDigits (a / b).toNat)[i]?=some (dV (48+(cN (a / b) c).toNat)):=by
     rw[Uu (show i<Lib.nDigits (a / b).toNat from by have:Lib.nDigits (a / b).toNat=L:=hL;omega)];rw[show Lib.nDigits (a / b).toNat=L from hL,hc,aFC c hq0]
    have hdb:=kU (a / b) c;have hpl:=GN ha.1 (show 0<b by omega) c;have hal:=OG ha.1 (show 0<b by omega) c;have hnl:=GU ha.1 (show 0<b by omega) c;have hsc:=oS ha.1 c;have hsc1:=oS ha.1 (c-1);have hrem:=Mj (a:=a) (show 0<b by omega) c;have hrb:=DF (a:=a) (show 0<b by omega) c;have e1:aA.wrap (((dV (48+(cN (a / b) c).toNat)-48).toNat:Nat):Int)=cN (a / b) c:=by
     rw[aGI (by omega),wr (by omega) (by omega)];omega
    have e2:aA.wrap (b*cN (a / b) c)=fW a b c:=wr (show _<=fW a b c by omega) (show fW a b c<=_ by omega);have e3:aA.wrap (aA.wrap (((Lib.decDigits (a / b).toNat).length:Int)-1)-(i:Int))=(c:Int):=by
     rw[gE,hL,wr (x:=(L:Int)-1) (by omega) (by omega),wr (by omega) (by omega)];omega
    have e4:aA.wrap (ab-fW a b c)=fM a b c:=by
     rw[hab,hc,hrem,wr (by omega) (by omega)]
    have e:aA.wrap ((i:Int)+1)=((i+1:Nat):Int):=by rw[wr (by omega) (by omega)];omega
    have hslen:=Mi a b width L i;have h64:=oL (left:=c) (width:=width) (n:=fW a b c) (p:=F++kB a b width L i) (by rw[cP];omega) hpl.1 (by omega) hw (by have:=n8 ha.1 (c:=c) (by omega) hpl.2;omega);have ih:=aAs ha hb hw hfit F hF k0 k1 k2 m (i+1) (by omega) (by omega);rw[hL]at ih;rw[aEG,hc]at ih;rw[aO (show(i:Int)<(L:Int)by omega),aW,dA hq,e1,e2,e3,aL (oK h64),r9 h64,oJ h64,e4,e];simp only[];by_cases h0:0<c
    .have hnx:jT a b c=gQ a b (c-1):=by unfold jT;rw[aJ h0]
     have hcc:c-1+1=c:=by omega
     have hd2:=kU a (c-1);have ht:(Lib.decDigits a.toNat)[aD a-c]?=some (dV (48+(cN a (c-1)).toNat)):=by
      rw[Uu (show aD a-c<Lib.nDigits a.toNat from by have:Lib.nDigits a.toNat=aD a:=rfl;omega),show Lib.nDigits a.toNat-1-(aD a-c)=c-1 from by have:Lib.nDigits a.toNat=aD a:=rfl;omega,aFC (c-1) ha.1]
     have e5:aA.wrap ((aD a:Int)-(c:Int))=((aD a-c:Nat):Int):=by rw[wr (by omega) (by omega)];omega
     have e6:aA.wrap (((dV (48+(cN a (c-1)).toNat)-48).toNat:Nat):Int)=cN a (c-1):=by
      rw[aGI (by omega),wr (by omega) (by omega)];omega
     have hab':gQ a b (c-1)=10*fM a b c+cN a (c-1):=by unfold gQ;rw[hcc]
     have e7:aA.wrap (aA.wrap (10*fM a b c)+cN a (c-1))=gQ a b (c-1):=by
      rw[wr (x:=10*fM a b c) (by omega) (by omega),wr (by omega) (by omega),hab']
     have e8:aA.wrap ((c:Int)-1)=((c-1:Nat):Int):=by rw[wr (by omega) (by omega)];omega
     rw[hnx]at hnl ih;have h64':=oL (left:=c-1) (width:=width) (n:=gQ a b (c-1)) (p:=F++kB a b width L i++[bX width (fW a b c).toNat c]) (by rw[cP,cP];simp;omega) hnl.1 (by omega) hw (by have:=n8 ha.1 (c:=c-1) (by omega) hnl.2;omega);rw[aO (show 0<(c:Int)by omega),aW,e5,dA ht,e6,e7,e8,aL (oK h64'),r9 h64',oJ h64'];simp only[];have:=ih (gQ a b (c-1)) (λhlt2=>by rw[show L-1-(i+1)=c-1 by omega]);simp only[fU,oD,fR]at this ⊢;exact this
    .have hc0:c=0:=by omega
     subst hc0;have hnx:jT a b 0=fM a b 0:=by unfold jT;rw[aH (by omega)]
     rw[hnx]at hnl ih;have h64':=oL (left:=0) (width:=width) (n:=fM a b 0) (p:=F++kB a b width L i++[bX width (fW a b 0).toNat 0]) (by rw[cP,cP];simp;omega) hnl.1 (by omega) hw (by have:=n8 ha.1 (c:=0) (by omega) (NB (a:=a) (b:=b) ha.1 (by omega) 0);omega);rw[bA (show ¬ 0<((0:Nat):Int)by omega),aT,aL (oK h64'),r9 h64',oJ h64'];simp only[];have:=ih (fM a b 0) (λhlt2=>by omega);simp only[fU,oD,fR]at this ⊢;exact this
   .rw[bA (show ¬ (i:Int)<(L:Int)by omega),aT,show i=L by omega]
end Go.Proofs
/- The page of a division: the program's and the reference's are one. -/
namespace Go.Proofs
open Go Go.Ax Go.Ax.aB
def rF(a b:Int):List (List UInt8):=
 [bX (aD a+1+aD b) (a / b).toNat 0,jI b.toNat++[63]++jI a.toNat]++kB a b (aD a+1+aD b) (aD (a / b)) (aD (a / b))
theorem Dc(x:Int):(jI x.toNat).length=aD x:=aGM _
theorem aW5(a b:Int):(put (bX (aD a+1+aD b) a.toNat 0) (aD a+1) b.toNat).set (aD b) 63=jI b.toNat++[63]++jI a.toNat:=by
 have h1:bX (aD a+1+aD b) a.toNat 0=bY (aD b+1) 0++jI a.toNat:=by
  rw[aFY (by show 0+aD a<=_;omega)];show bY (aD a+1+aD b-0-aD a) 0++jI a.toNat++[]=_;rw[nB,show aD a+1+aD b-0-aD a=aD b+1 by omega]
 have hl:(bY (aD b+1) (0:UInt8)++jI a.toNat).length=aD a+1+aD b:=by
  rw[cP,List.length_replicate,Dc];omega
 rw[h1];unfold put;rw[hl,show aD a+1+aD b-(aD a+1)-iR b.toNat=0 from by show _-aD b=0;omega,List.take_zero,fR,show aD a+1+aD b-(aD a+1)=aD b by omega,List.drop_append_of_le_length (by simp),List.drop_replicate,show aD b+1-aD b=1 by omega];have hb:=Dc b;generalize jI b.toNat=l at *
 rw[<-hb];simp
theorem aPk(x:List (List UInt8)):(some (Ey x):O).bind Ew=some x:=rfl
theorem aPm{a b:Int}(ha:0<=a/\a<=999999)(hb:1<=b/\b<=999999){width:Nat}(hw:width<90)(hfit:aD a<=width)(F:List (List UInt8))(hF:F.length<=10)(k0:Int×List (List UInt8)->O)(k1 k2:Unit->O)(ab:Int)(hab:ab=gQ a b (aD (a / b)-1)):
    vH 100 100 (b,aD a,Lib.decDigits a.toNat,Lib.decDigits (a / b).toNat,ab,aD (a / b),0,width,F) k0 k1 k2=k0 (width,F++kB a b width (aD (a / b)) (aD (a / b))):=by
 have hqa:a / b<=a:=HK _ ha.1;have:=gJ (show a / b<=999999 by omega);have h:=aAs ha hb hw hfit F hF k0 k1 k2 100 0 (by omega) (by omega) ab (λ_=>by rw[hab,aGi]);rw[show kB a b width (aD (a / b)) 0=[]from rfl,nB]at h;exact h
theorem aPn{a b:Int}(ha:0<=a/\a<=999999)(hb:1<=b/\b<=999999)(op:Int):vG 100 op [a,b] (a / b)=some (rF a b):=by
 have hq0:0<=a / b:=BZ ha.1 (by omega);have hqa:a / b<=a:=HK _ ha.1;have h6a:=gJ ha.2;have h6b:=gJ hb.2;have hLa:aD (a / b)<=aD a:=jW hqa;have hL0:=UQ (a / b);have h57a:=sG 100 (n:=a) ⟨by omega,by omega⟩ ha.1;have h57b:=sG 100 (n:=b) ⟨by omega,by omega⟩ (by omega);obtain⟨p67a,y67a⟩:=Pb 100 (n:=a) ⟨by omega,by omega⟩ ha.1;obtain⟨p67q,y67q⟩:=Pb 100 (n:=a / b) ⟨by omega,by omega⟩ hq0;obtain⟨w,hw⟩:∃w,aD a+1+aD b=w:=⟨_,rfl⟩
 have ew:aA.wrap (aA.wrap ((aD a:Int)+1)+(aD b:Int))=(w:Int):=by
  rw[wr (x:=(aD a:Int)+1) (by omega) (by omega),wr (by omega) (by omega)];omega
 have ew1:aA.wrap ((aD a:Int)+1)=((aD a+1:Nat):Int):=by rw[wr (by omega) (by omega)];omega
 unfold vG w44 RR;rw[gK];simp only[kT];rw[aL (sF h57a),aL (sF h57b),sE h57a,sE h57b];rw[ew,ew1];have hA:=oL (left:=0) (width:=w) (n:=a / b) (p:=[]) (by simp) hq0 (by omega) (by omega) (by omega);have hB:=oL (left:=0) (width:=w) (n:=a) (p:=[]++[bX w (a / b).toNat 0]) (by simp) ha.1 (by omega) (by omega) (by omega);rw[show((0:Nat):Int)=0 from rfl]at hA hB;rw[aL (oK hA),r9 hA,oJ hA];simp only[];rw[aL (oK hB),r9 hB,oJ hB];simp only[];have hlA:(bX w a.toNat 0).length=w:=lC (by show 0+aD a<=_;omega);have h63:=QA (n:=b.toNat) (left:=aD a+1) (pre:=[]++[bX w (a / b).toNat 0]) (L:=bX w a.toNat 0) (by simp) (by omega) (by omega) (by rw[hlA];show aD a+1+aD b<=w;omega);rw[hlA,show((b.toNat:Nat):Int)=b by omega]at h63;rw[aL (Pz h63),Py h63,Px h63];simp only[];have hg1:([]++[bX w (a / b).toNat 0]++[put (bX w a.toNat 0) (aD a+1) b.toNat])[1]?=some (put (bX w a.toNat 0) (aD a+1) b.toNat):=rfl;have hpl:(put (bX w a.toNat 0) (aD a+1) b.toNat).length=w:=by
  rw[aE7 (by rw[hlA];show aD a+1+aD b<=w;omega)];exact hlA
 rw[aL (aO ⟨by omega,by simp⟩),kF hg1,kF hg1,aL (aO ⟨by omega,by rw[hpl];omega⟩),kF hg1,oE,kF (List.getElem?_eq_getElem (by rw[hpl];omega)),aL p67a,aL p67q,y67a,y67q];have eK:aA.wrap (aA.wrap ((aD a:Int)-((Lib.decDigits (a / b).toNat).length:Int))+1)=((aD a-(aD (a / b)-1):Nat):Int):=by
  rw[gE,wr (x:=(aD a:Int)-aD (a / b)) (by omega) (by omega),wr (by omega) (by omega)];omega
 have hslc:bW (Lib.decDigits a.toNat) none (some ((aD a-(aD (a / b)-1):Nat):Int))=Lib.decDigits (a.toNat / 10^(aD (a / b)-1)):=by
  show(Lib.decDigits a.toNat).take (((aD a-(aD (a / b)-1):Nat):Int)).toNat=_;rw[oE];exact aGK (aD (a / b)-1) a.toNat (show aD (a / b)-1<aD a by omega)
 have hok:dX (Lib.decDigits a.toNat).length none (some ((aD a-(aD (a / b)-1):Nat):Int))=true:=by
  rw[gE];exact aO ⟨by omega,by omega⟩
 have hat:((a.toNat / 10^(aD (a / b)-1):Nat):Int)=a / ((10^(aD (a / b)-1):Nat):Int):=by
  rw[aGz,show((a.toNat:Nat):Int)=a by omega]
 have hsb:=oS ha.1 (aD (a / b)-1);obtain⟨p68,y68⟩:=aKs 100 (u:=a.toNat / 10^(aD (a / b)-1)) (by
  have h:Lib.nDigits (a.toNat / 10^(aD (a / b)-1))<=6:=gJ (show((a.toNat / 10^(aD (a / b)-1):Nat):Int)<=999999 by omega);omega)
 rw[eK,aL hok,hslc,aL p68,y68,gE (a / b)];refine(aY (λz:O=>z.bind Ew) (aPm ha hb (width:=w) (by omega) (by omega) _ (by simp) _ _ _ _ (by rw[hat,a1I ha.1 (by omega) _ (by omega)]))).trans ?_;simp only[];rw[aPk];unfold rF;rw[hw,<-aW5,hw];rfl
end Go.Proofs
/- The lines of a division in the reference, and that their cells are the program's page. -/
namespace Go.Proofs
open Go Go.Ax Go.Ax.aB
def oR(a b:Int)(width L i:Nat):List (List UInt8):=(List.range i).flatMap λj=>[eU (Lib.decDigits (fW a b (L-1-j)).toNat) width (L-1-j),eU (Lib.decDigits (jT a b (L-1-j)).toNat) width (L-1-j-1)]
theorem aEH(a b:Int)(width L i:Nat):oR a b width L (i+1)=oR a b width L i++[eU (Lib.decDigits (fW a b (L-1-i)).toNat) width (L-1-i),eU (Lib.decDigits (jT a b (L-1-i)).toNat) width (L-1-i-1)]:=by
 unfold oR;rw[OP,Du];simp
theorem aEI(a b:Int)(width L:Nat):∀i,(oR a b width L i).length=2*i
 |0=>rfl
 |i+1=>by rw[aEH,cP,aEI a b width L i];simp;omega
theorem Xx{a b:Int}(ha:0<=a/\a<=999999)(hb:1<=b/\b<=999999){width:Nat}(hw:width<90)(hfit:aD a<=width)(F:List (List UInt8))(hF:F.length<=10)(k0:List (List UInt8)->O)(k1 k2:Unit->O):∀(m j:Nat),j<m->j<=aD a->
    yS 100 m (a,b,width,Lib.decDigits (a / b).toNat,fM a b j,(j:Int)-1,F++oR a b width (aD (a / b)) (aD (a / b)-j)) k0 k1 k2=k0 (F++oR a b width (aD (a / b)) (aD (a / b)))
 |0,j,h,_=>by omega
 |m+1,0,h,hj=>by
   show By 100 _ _ a b width (Lib.decDigits (a / b).toNat) (fM a b 0) (((0:Nat):Int)-1) (F++oR a b width (aD (a / b)) (aD (a / b)-0))=_;unfold By;rw[bA (show ¬ (0:Int)<=((0:Nat):Int)-1 by omega),aT,aGi]
 |m+1,c+1,h,hj=>by
   show By 100 _ _ a b width (Lib.decDigits (a / b).toNat) (fM a b (c+1)) (((c+1:Nat):Int)-1) (F++oR a b width (aD (a / b)) (aD (a / b)-(c+1)))=_;unfold By;have hq0:0<=a / b:=BZ ha.1 (by omega);have hqa:a / b<=a:=HK _ ha.1;have h6a:=gJ ha.2;have hLa:aD (a / b)<=aD a:=jW hqa;have hb0:0<b:=by omega
   have hdb:=kU a c;have hrb:=DF (a:=a) hb0 (c+1);have hrb':=DF (a:=a) hb0 c;have h60:=uV (N:=100) (m:=a) (c:=c) ha.1 (by omega) (by omega) (by omega);have ec:((c+1:Nat):Int)-1=(c:Int):=by omega
   have eab:aA.wrap (aA.wrap (10*fM a b (c+1))+cN a c)=gQ a b c:=by
    rw[wr (x:=10*fM a b (c+1)) (by omega) (by omega),wr (by omega) (by omega)];rfl
   have ecm:aA.wrap ((c:Int)-1)=(c:Int)-1:=wr (by omega) (by omega);have ih:=Xx ha hb hw hfit F hF k0 k1 k2 m c (by omega) (by omega);rw[ec,aO (show(0:Int)<=(c:Int)by omega),aW,aL (uU h60),uT h60,eab,ecm,gE];by_cases hcL:aD (a / b)<=c
   .rw[aO (show((aD (a / b):Nat):Int)<=(c:Int)by omega),aW,a1J ha.1 hb0 hcL,show aD (a / b)-(c+1)=aD (a / b)-c by omega]
    exact ih
   .obtain⟨i,hi⟩:∃i,aD (a / b)-(c+1)=i:=⟨_,rfl⟩
    have hLi:aD (a / b)-c=i+1:=by omega
    have hci:aD (a / b)-1-i=c:=by omega
    rw[hLi,aEH,hci]at ih;have hpl:=GN ha.1 hb0 c;have hal:=OG ha.1 hb0 c;have hnl:=GU ha.1 hb0 c;have hsc:=oS ha.1 c;have hsc1:=oS ha.1 (c-1);have hrem:=Mj (a:=a) hb0 c;have hdq:=kU (a / b) c;have h60q:=uV (N:=100) (m:=a / b) (c:=c) hq0 (by omega) (by omega) (by omega);have eq:aA.wrap (a.tdiv b)=a / b:=by rw[BY ha.1,wr (by omega) (by omega)]
    have ep:aA.wrap (b*cN (a / b) c)=fW a b c:=wr (show _<=fW a b c by omega) (show fW a b c<=_ by omega);have er:aA.wrap (gQ a b c-fW a b c)=fM a b c:=by rw[hrem,wr (by omega) (by omega)]
    obtain⟨p59,y59⟩:=lI (N:=100) (n:=fW a b c) (by omega) hpl.1 (by omega);have h86:=pV (s:=Lib.decDigits (fW a b c).toNat) (width:=width) (left:=c) hw (by rw[gE];have:=n8 ha.1 (c:=c) (by omega) hpl.2;omega);have hslen:=aEI a b width (aD (a / b)) i;rw[bA (show ¬ ((aD (a / b):Nat):Int)<=(c:Int)by omega),aT,aL (aO (show b≠0 by omega)),eq,aL (uU h60q),uT h60q,ep,aL p59,y59,aL (pU h86),pT h86,hi,aL (eJ (by rw[cP,cP];simp;omega) (by rw[cP,cP];simp;omega)),er];by_cases h0:0<c
    .have hnx:jT a b c=gQ a b (c-1):=by unfold jT;rw[aJ h0]
     have hcc:c-1+1=c:=by omega
     have hd2:=kU a (c-1);have hab':gQ a b (c-1)=10*fM a b c+cN a (c-1):=by unfold gQ;rw[hcc]
     rw[hnx]at hnl ih;have h60':=uV (N:=100) (m:=a) (c:=c-1) ha.1 (by omega) (by omega) (by omega);have ec1:(c:Int)-1=((c-1:Nat):Int):=by omega
     have ea:aA.wrap (aA.wrap (10*fM a b c)+cN a (c-1))=gQ a b (c-1):=by
      rw[wr (x:=10*fM a b c) (by omega) (by omega),wr (by omega) (by omega),hab']
     obtain⟨p59',y59'⟩:=lI (N:=100) (n:=gQ a b (c-1)) (by omega) hnl.1 (by omega);have h86':=pV (s:=Lib.decDigits (gQ a b (c-1)).toNat) (width:=width) (left:=c-1) hw (by rw[gE];have:=n8 ha.1 (c:=c-1) (by omega) hnl.2;omega);rw[aO (show 0<(c:Int)by omega),aW];rw[ec1]at ih ⊢;rw[aL (uU h60'),uT h60',ea,aL p59',y59',aL (pU h86'),pT h86',aL (eJ (by simp[hslen];omega) (by simp[hslen];omega))];simp only[fU,oD,fR]at ih ⊢;exact ih
    .have hc0:c=0:=by omega
     subst hc0;have hnx:jT a b 0=fM a b 0:=by unfold jT;rw[aH (by omega)]
     rw[hnx]at hnl ih;obtain⟨p59',y59'⟩:=lI (N:=100) (n:=fM a b 0) (by omega) hnl.1 (by omega);have h86':=pV (s:=Lib.decDigits (fM a b 0).toNat) (width:=width) (left:=0) hw (by rw[gE];have:=n8 ha.1 (c:=0) (by omega) (NB (a:=a) (b:=b) ha.1 (by omega) 0);omega);rw[show((0:Nat):Int)=0 from rfl]at h86';rw[bA (show ¬ 0<((0:Nat):Int)by omega),aT,aL p59',y59',aL (pU h86'),pT h86',aL (eJ (by simp[hslen];omega) (by simp[hslen];omega))];simp only[fU,oD,fR]at ih ⊢;exact ih
def Ur(a b:Int):List (List UInt8):=
 [eU (Lib.decDigits (a / b).toNat) (aD a+1+aD b) 0,Lib.decDigits b.toNat++[91]++Lib.decDigits a.toNat]++oR a b (aD a+1+aD b) (aD (a / b)) (aD (a / b))
theorem aK0(x:List (List UInt8)):(some (Bx x):O).bind EZ=some x:=rfl
theorem aK2{a b:Int}(ha:0<=a/\a<=999999)(hb:1<=b/\b<=999999):uM 100 a b=some (Ur a b):=by
 have hq0:0<=a / b:=BZ ha.1 (by omega);have hqa:a / b<=a:=HK _ ha.1;have h6a:=gJ ha.2;have h6b:=gJ hb.2;have hLa:aD (a / b)<=aD a:=jW hqa;obtain⟨pa,ya⟩:=lI (N:=100) (n:=a) (by omega) ha.1 (by omega);obtain⟨pb,yb⟩:=lI (N:=100) (n:=b) (by omega) (by omega) (by omega);obtain⟨pq,yq⟩:=lI (N:=100) (n:=a / b) (by omega) hq0 (by omega);have eq:aA.wrap (a.tdiv b)=a / b:=by rw[BY ha.1,wr (by omega) (by omega)]
 have ew:aA.wrap (aA.wrap ((aD b:Int)+1)+(aD a:Int))=((aD a+1+aD b:Nat):Int):=by
  rw[wr (x:=(aD b:Int)+1) (by omega) (by omega),wr (by omega) (by omega)];omega
 have en:aA.wrap ((aD a:Int)-1)=(aD a:Int)-1:=wr (by omega) (by omega);unfold uM Xy P6;rw[aL pa,aL pb,aL (aO (show b≠0 by omega)),eq,aL pq,yq,yb,ya];simp only[gE];rw[ew];have h86:=pV (s:=Lib.decDigits (a / b).toNat) (width:=aD a+1+aD b) (left:=0) (by omega) (by rw[gE];omega);rw[show((0:Nat):Int)=0 from rfl]at h86;rw[aL (pU h86),pT h86,aL pb,aL (aO (by omega)),aL pa,aL (aO (by rw[cP,gE];simp;omega)),en];have hl:=Xx ha hb (width:=aD a+1+aD b) (by omega) (by omega) [eU (Lib.decDigits (a / b).toNat) (aD a+1+aD b) 0,Lib.decDigits b.toNat++[91]++Lib.decDigits a.toNat] (by simp) (λy=>some (Bx y)) (λ_=>none) (λ_=>none) 100 (aD a) (by omega) (Nat.le_refl _);rw[aWk ha.1 (Nat.le_refl _),show aD (a / b)-aD a=0 by omega]at hl;exact(aY (λz:O=>z.bind EZ) hl).trans (aK0 _)
theorem aFs{α β:Type}{f g:α->List β}:∀{l:List α},(∀x∈l,f x=g x)->l.flatMap f=l.flatMap g
 |[],_=>rfl
 |x::l,h=>by rw[gO,gO,h x (by simp),aFs λy hy=>h y (by simp[hy])]
theorem a0K{a b:Int}(ha:0<=a/\a<=999999)(hb:1<=b/\b<=999999):(Ur a b).map (·.map dG)=rF a b:=by
 have hq0:0<=a / b:=BZ ha.1 (by omega);have hqa:a / b<=a:=HK _ ha.1;have hLa:aD (a / b)<=aD a:=jW hqa;unfold Ur rF;have hs:(oR a b (aD a+1+aD b) (aD (a / b)) (aD (a / b))).map (·.map dG)=kB a b (aD a+1+aD b) (aD (a / b)) (aD (a / b)):=by
  unfold oR kB;rw[List.map_flatMap];refine aFs λj hj=>?_
  have hj:=List.mem_range.1 hj;have h1:=n8 ha.1 (c:=aD (a / b)-1-j) (by omega) (GN ha.1 (show 0<b by omega) (aD (a / b)-1-j)).2;have h2:=n8 ha.1 (c:=aD (a / b)-1-j-1) (by omega) (GU ha.1 (show 0<b by omega) (aD (a / b)-1-j)).2;simp only[eX,List.map_nil];rw[D8 (by show _+aD (fW a b _)<=_;omega),D8 (by show _+aD (jT a b _)<=_;omega)]
 rw[fO,hs];simp only[eX,List.map_nil,fO];rw[D8 (by show 0+aD (a / b)<=_;omega),a0c];rfl
end Go.Proofs
