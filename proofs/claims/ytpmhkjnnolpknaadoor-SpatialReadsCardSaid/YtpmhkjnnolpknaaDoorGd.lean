/- SpatialReads in plain words. Conditions are in the theorems. -/
import Derived.Test.YtpmhkjnnolpknaaDoorGc
import Derived.Test.YtpmhkjnnolpknaaDoorF6
open Bool renaming not_true->B6
open Go.IntKind renaming i64->aA
open List renaming map->Dq,mem_append->jF,mem_cons->dT,not_mem_nil->mX
/- The other reader does what the program's does; a page made of numbers. -/
namespace Go.Proofs
open Go Go.Ax Go.Ax.aB
theorem Rq(x:Int)(y:List Int)(z:Int):(some (A2 x y z):O).bind LZ=some (x,y,z):=rfl
theorem aWo{p:List (List UInt8)}(h:EB (fZ p)):fX p=(0,[],2):=by
 unfold fX;by_cases h1:(fZ p).2.2=true
 .rw[aJ h1,aH (λe=>h ⟨h1,e.1⟩)]
 .rw[aH h1]
theorem aSO{p:List (List UInt8)}(hp:Small p):vS 100 p=some (fX p):=by
 obtain⟨g,hg,hge,hgl⟩:=aO3 hp;have g0:Qn 100 p=true:=q9 hg;have g1:qB 100 p=g.1:=by unfold qB;rw[hg];rfl
 have g2:qA 100 p=g.2.1:=by unfold qA;rw[hg];rfl
 have g3:Ep 100 p=g.2.2:=by unfold Ep;rw[hg];rfl
 have h18:=SZ (N:=100) (op:=g.1) (a:=g.2.1) (by omega) (by omega);unfold vS w29 Rr;rw[aL g0,g1,g2,g3,SY h18,SX h18,Bool.or_true,e9];by_cases hgood:g.2.2=true/\fS g.1 g.2.1=0
 .have he:g=fZ p:=by
   rcases hge with h|h
   .exact h
   .exact absurd hgood h.1
  obtain⟨h1,h2⟩:=hgood;have V:=wF h2;obtain⟨q,h46,hq⟩:=aA8 V;have hs:=aEM hq (NQ V);have h45:=aAl hs.1 hs.2;rw[hq]at h45;have h50:=aNp (NQ V) hp;have p50:Qe 100 (gI g.1 g.2.1) p=true:=q9 h50;have y50:Jd 100 (gI g.1 g.2.1) p=decide (fP (gI g.1 g.2.1)=fP p):=by unfold Jd;rw[h50];rfl
  rw[h1,bA (show ¬ fS g.1 g.2.1≠0 from λh=>h h2),B6,Bool.false_or,aT,aL (aA7 h46),aA6 h46,aL (aAi h45),aAh h45,aL p50,y50];unfold fX;rw[<-he,aJ h1];by_cases hc:fP (gI g.1 g.2.1)=fP p
  .rw[aO hc,B6,aT,aJ ⟨h2,hc.symm⟩]
   exact Rq _ _ _
  .rw[bA hc,Bool.not_false,aW,aH (λe=>hc e.2.symm)]
   exact Rq _ _ _
 .have hb:EB (fZ p):=by
   rcases hge with h|h
   .rw[<-h];exact hgood
   .exact h.2
  have hd:(!g.2.2||decide (fS g.1 g.2.1≠0))=true:=by
   cases h1:g.2.2 with
   |false=>rfl
   |true=>
     rw[aO (show fS g.1 g.2.1≠0 from λh2=>hgood ⟨h1,h2⟩)];rfl
  rw[hd,aW,aWo hb];exact Rq _ _ _
theorem aWn(p:List (List UInt8)):(fX p).2.1.length<90:=by
 unfold fX;split
 .split
  .rename_i h
   have:=(wF h.1).eight;simp only[];omega
  .simp
 .simp
theorem FL{l:List Int}(hl:pH l)(i:Int){m:Int}(hm:1<=m):kN 100 l i m=true/\0<=fE 100 l i m/\fE 100 l i m<m:=by
 obtain⟨v,hv,h0,h1⟩:=LU 100 hl (i:=i) hm;exact⟨LS hv,by rw[FK hv];exact h0,by rw[FK hv];exact h1⟩
theorem aC0{l:List Int}(hl:pH l)(n i:Int){wide:Int}(hw:wide<=10)(p:List (List UInt8×Unit))(k0:List Int×Int×Int×List (List UInt8×Unit)×List UInt8->O)(k1 k2:Unit->O):∀(f k:Nat)(line:List UInt8),wide.toNat-k<f->k<=11->line.length<=k->line.length<=10->
    ∃line',line'.length<=10/\vW 100 f (l,n,i,wide,(k:Int),p,line) k0 k1 k2=k0 (l,n,i,p,line')
 |0,k,line,h,_,_,_=>by omega
 |f+1,k,line,h,hk,hln,hl10=>by
   show ∃line',_/\Lb 100 _ _ l n i wide p (k:Int) line=_
   unfold Lb;by_cases hlt:(k:Int)<wide
   .have e:aA.wrap ((k:Int)+1)=((k+1:Nat):Int):=by rw[wr (by omega) (by omega)];omega
    obtain⟨a1,a2,a3⟩:=FL hl (aA.wrap (aA.wrap (6+aA.wrap (9*i))+(k:Int))) (m:=80) (by omega);rw[aO hlt,aW,aL a1,e];have st:∀c:UInt8,∃line',line'.length<=10/\(ck (b9 (line++[c]).length 1) <|vW 100 f (l,n,i,wide,((k+1:Nat):Int),p,line++[c]) k0 k1 k2)=k0 (l,n,i,p,line'):=λc=>by
     rw[aL (eJ (by simp;omega) (by simp;omega))];exact aC0 hl n i hw p k0 k1 k2 f (k+1) (line++[c]) (by omega) (by omega) (by simp;omega) (by simp;omega)
    by_cases h64:64<=fE 100 l (aA.wrap (aA.wrap (6+aA.wrap (9*i))+(k:Int))) 80
    .rw[aO h64,aW]
     exact st _
    .rw[bA h64,aT]
     exact st _
   .rw[bA hlt,aT]
    exact⟨line,hl10,rfl⟩
theorem aCZ{l:List Int}(hl:pH l){n:Int}(hn:n<=6)(k0:List Int×Int×List (List UInt8×Unit)->O)(k1 k2:Unit->O):∀(f i:Nat)(p:List (List UInt8×Unit)),n.toNat-i<f->(i:Int)<=n->p.length=i->(∀x∈p,x.1.length<=10)->
    ∃p',(p'.length:Int)=n/\(∀x∈p',x.1.length<=10)/\vV 100 f (l,n,(i:Int),p) k0 k1 k2=k0 (l,n,p')
 |0,i,p,h,_,_,_=>by omega
 |f+1,i,p,h,hi,hp,hx=>by
   show ∃p',_/\_/\La 100 _ _ _ l n (i:Int) p=_
   unfold La;by_cases hlt:(i:Int)<n
   .have e:aA.wrap ((i:Int)+1)=((i+1:Nat):Int):=by rw[wr (by omega) (by omega)];omega
    obtain⟨a1,a2,a3⟩:=FL hl (aA.wrap (1+(i:Int))) (m:=10) (by omega);rw[aO hlt,aW,aL a1];obtain⟨line,b1,b2⟩:=aC0 hl n (i:Int) (wide:=fE 100 l (aA.wrap (1+(i:Int))) 10) (by omega) p (λy=>ck (b9 (y.2.2.2.1.length+[(y.2.2.2.2,())].length) 24) <|vV 100 f (y.1,y.2.1,aA.wrap (y.2.2.1+1),y.2.2.2.1++[(y.2.2.2.2,())]) k0 k1 k2) (λ_=>none) (λ_=>none) 100 0 [] (by omega) (by omega) (by simp) (by simp);obtain⟨p',c1,c2,c3⟩:=aCZ hl hn k0 k1 k2 f (i+1) (p++[(line,())]) (by omega) (by omega) (by simp;omega) (λx h=>by
     rcases jF.1 h with h|h
     .exact hx x h
     .rw[List.mem_singleton.1 h];exact b1)
    refine⟨p',c1,c2,?_⟩;unfold L6;refine b2.trans ?_;simp only[];rw[aL (eJ (by simp;omega) (by simp;omega)),e];exact c3
   .rw[bA hlt,aT]
    exact⟨p,by omega,hx,rfl⟩
theorem aCY(x:List (List UInt8)):(some (qJ x):O).bind A4=some x:=rfl
theorem aSd{l:List Int}(hl:pH l):∃q,C8 100 l=some q/\gV 6 11 q:=by
 unfold C8 w27 SA Rw;obtain⟨a1,a2,a3⟩:=FL hl 0 (m:=6) (by omega);obtain⟨b1,b2,b3⟩:=FL hl 51 (m:=12) (by omega);obtain⟨d1,d2,d3⟩:=FL hl 52 (m:=192) (by omega);rw[aL a1];generalize fE 100 l 0 6=n at a2 a3 ⊢;have hmap:∀p':List (List UInt8×Unit),(p'.length:Int)=n->(∀x∈p',x.1.length<=11)->gV 6 11 (p'.map λx=>x.1):=λp' h1 h2=>⟨by rw[List.length_map];omega,λx hx=>by
  obtain⟨y,hy,rfl⟩:=List.mem_map.1 hx;exact h2 y hy⟩
 obtain⟨p',c1,c2,c3⟩:=aCZ hl (n:=n) (by omega) (λy=>ck (kN 100 y.1 51 12) <|br (decide (fE 100 y.1 51 12=0)&&decide (0<y.2.1))
       (gx y.2.2 (kE 1004 y.2.1) λy27=>
       ck (decide ((0:Int)<=aA.wrap (y.2.1-1)/\aA.wrap (y.2.1-1)<(y.2.2.length:Int)))<|
       ck (decide ((aA.wrap (y.2.1-1)).toNat=(kE 1004 y.2.1).toNat))<|
       gn y.2.2 ((aA.wrap (y.2.1-1)).toNat) λ_=>
       ck (kN 100 y.1 52 192)<|
       ck (b9 (y27.1++[gH (aA.wrap (64+fE 100 y.1 52 192))]).length 1)<|
       ck (decide ((0:Int)<=aA.wrap (y.2.1-1)/\aA.wrap (y.2.1-1)<(y.2.2.length:Int)))<|
       ck (decide ((aA.wrap (y.2.1-1)).toNat=(kE 1004 y.2.1).toNat))<|
       gn y.2.2 ((aA.wrap (y.2.1-1)).toNat) λ_=>
       gx y.2.2 (kE 1004 y.2.1) λy30=>
       some (qJ (Dq (λx=>x.fst) (y.2.2.set (kE 1004 y.2.1).toNat (y27.1++[gH (aA.wrap (64+fE 100 y.1 52 192))],y30.2)))))
       (some (qJ (Dq (λx=>x.fst) y.2.2)))) (λ_=>none) (λ_=>none) 100 0 [] (by omega) (by omega) rfl (λx h=>by cases h)
 have c3:=aY (λz:O=>z.bind A4) c3;have fin:∃q,((br (decide (fE 100 l 51 12=0)&&decide (0<n))
       (gx p' (kE 1004 n) λy27=>
       ck (decide ((0:Int)<=aA.wrap (n-1)/\aA.wrap (n-1)<(p'.length:Int)))<|
       ck (decide ((aA.wrap (n-1)).toNat=(kE 1004 n).toNat))<|
       gn p' ((aA.wrap (n-1)).toNat) λ_=>
       ck (kN 100 l 52 192)<|
       ck (b9 (y27.1++[gH (aA.wrap (64+fE 100 l 52 192))]).length 1)<|
       ck (decide ((0:Int)<=aA.wrap (n-1)/\aA.wrap (n-1)<(p'.length:Int)))<|
       ck (decide ((aA.wrap (n-1)).toNat=(kE 1004 n).toNat))<|
       gn p' ((aA.wrap (n-1)).toNat) λ_=>
       gx p' (kE 1004 n) λy30=>
       some (qJ (Dq (λx=>x.fst) (p'.set (kE 1004 n).toNat (y27.1++[gH (aA.wrap (64+fE 100 l 52 192))],y30.2)))))
       (some (qJ (Dq (λx=>x.fst) p')))):O).bind A4=some q/\gV 6 11 q:=by
  by_cases hc:fE 100 l 51 12=0/\0<n
  .rw[aO hc.1,aO hc.2,Bool.true_and,aW]
   have e1:aA.wrap (n-1)=n-1:=wr (by omega) (by omega);have e2:kE 1004 n=n-1:=rfl;rw[e1,e2];obtain⟨y,hy⟩:=OE (l:=p') (v:=n-1) (by omega) (by omega);have hyl:=c2 y (List.mem_of_getElem? hy);have hd:decide ((0:Int)<=n-1/\n-1<(p'.length:Int))=true:=aO ⟨by omega,by omega⟩;rw[D3 (by omega) hy,aL hd,aL (aO rfl),kF hy,aL d1,aL (eJ (by simp;omega) (by simp;omega)),aL hd,aL (aO rfl),kF hy,D3 (by omega) hy];refine⟨_,aCY _,hmap _ (by rw[List.length_set];exact c1) (λx hx=>?_)⟩;rcases List.mem_or_eq_of_mem_set hx with h1|h1
   .have:=c2 x h1;omega
   .rw[h1];simp;omega
  .have hf:(decide (fE 100 l 51 12=0)&&decide (0<n))=false:=by
    rw[Bool.and_eq_false_iff];by_cases h1:fE 100 l 51 12=0
    .exact .inr (bA λh2=>hc ⟨h1,h2⟩)
    .exact .inl (bA h1)
   rw[hf,aT];exact⟨_,aCY _,hmap _ c1 λx hx=>by have:=c2 x hx;omega⟩
 obtain⟨q,h1,h2⟩:=fin;refine⟨q,c3.trans ?_,h2⟩;show(ck (kN 100 l 51 12) _).bind A4=some q;rw[aL b1];exact h1
end Go.Proofs
/- SpatialReads in plain words: the law. -/
namespace Go.Proofs
open Go Go.Ax Go.Ax.aB
theorem Ww{L:List (List (List UInt8))}(hL:∀p∈L,Small p)(hn:L.length<90)(b:Int)(k0:Bool->O)(k1 k2:Unit->O):∀(f i:Nat),L.length-i<f->i<=L.length->yE 100 f (b,(i:Int),L) k0 k1 k2=k1 ()
 |0,i,h,_=>by omega
 |f+1,i,h,hi=>by
   show Hs 100 _ _ _ b L (i:Int)=_;unfold Hs;by_cases hlt:i<L.length
   .have hg:=List.getElem?_eq_getElem hlt
    have hs:=hL _ (List.getElem_mem hlt);have e:aA.wrap ((i:Int)+1)=((i+1:Nat):Int):=by rw[wr (by omega) (by omega)];omega
    have h28:=aSV hs;have h29:=aSO hs;have a0:L1 100 L[i]=true:=q9 h28;have a1:lO 100 L[i]=(fX L[i]).1:=by unfold lO;rw[h28];rfl
    have a2:lN 100 L[i]=(fX L[i]).2.1:=by unfold lN;rw[h28];rfl
    have a3:vU 100 L[i]=(fX L[i]).2.2:=by unfold vU;rw[h28];rfl
    have b0:Rp 100 L[i]=true:=q9 h29;have b1:FX 100 L[i]=(fX L[i]).1:=by unfold FX;rw[h29];rfl
    have b2:FW 100 L[i]=(fX L[i]).2.1:=by unfold FW;rw[h29];rfl
    have b3:FU 100 L[i]=(fX L[i]).2.2:=by unfold FU;rw[h29];rfl
    have h30:=aSH (op:=(fX L[i]).1) (op':=(fX L[i]).1) (b:=(fX L[i]).2.1) (aWn L[i]);have c0:LY 100 (fX L[i]).1 (fX L[i]).2.1 (fX L[i]).1 (fX L[i]).2.1=true:=q9 h30;have c1:FQ 100 (fX L[i]).1 (fX L[i]).2.1 (fX L[i]).1 (fX L[i]).2.1=true:=by
     unfold FQ;rw[h30];exact aO ⟨rfl,rfl⟩
    rw[aO (show(i:Int)<(L.length:Int)by omega),aW,dA hg,aL a0,dA hg,aL b0,a1,a2,a3,b1,b2,b3,c0,c1,Bool.or_true,e9,bA (show ¬ (fX L[i]).2.2≠(fX L[i]).2.2 from λh=>h rfl),B6,Bool.or_false,aT,e];exact Ww hL hn b k0 k1 k2 f (i+1) (by omega) (by omega)
   .rw[bA (show ¬ (i:Int)<(L.length:Int)by omega),aT]
theorem aIt(x:Bool):(some (yD x):O).bind ET=some x:=rfl
theorem aWm{l k:List Int}(hl:pH l)(hk:pH k){a h b:Int}(h1:iH a)(h2:iH h)(h3:iH b):Oz 100 l a h b k=some true:=by
 obtain⟨op,s,h10,V⟩:=aVb (N:=100) hl (by omega);have h8:=V.eight;have h22:=aTU (op:=op) (a:=s) (by omega);rw[show tD op s=(gI op s,0)by unfold tD;rw[aJ (aFD V)]]at h22;have p22:SI 100 op s=true:=q9 h22;have y22:oN 100 op s=gI op s:=by unfold oN;rw[h22];rfl
 obtain⟨f1,f2⟩:=aXE V;have B0:gV 25 40 (gI op s):=⟨f1,f2⟩;obtain⟨q1,B1⟩:=aF8 B0 (by omega) (by omega) h1 h2 h3;have hh:iH (aA.wrap (h.tdiv 6)):=aFg _;obtain⟨q2,B2⟩:=aF8 B1 (by omega) (by omega) h3 hh h1;obtain⟨q,h27,B3⟩:=aSd hk;have p27:Rv 100 k=true:=q9 h27;have y27:L3 100 k=q:=by unfold L3;rw[h27];rfl
 unfold Oz w7 PD;rw[aL (aV9 h10),aV7 h10,aV6 h10,aL p22,y22,aL q1,e9,aL q2,aL (eJ (by simp;omega) (by simp;omega)),aL (eJ (by simp;omega) (by simp;omega)),aL p27,y27];generalize mO 100 (mO 100 (gI op s) a h b) b (aA.wrap (h.tdiv 6)) a=P2 at B2 ⊢;generalize mO 100 (gI op s) a h b=P1 at B1 ⊢;generalize gI op s=P0 at B0 ⊢;have B4:gV 27 40 ([]++P0++[[],[(0:UInt8)]]):=by
  refine⟨by have:=B0.1;simp;omega,λx hx=>?_⟩;simp only[List.nil_append,jF,dT,mX,lW]at hx;rcases hx with h|rfl|rfl
  .exact B0.2 x h
  .simp
  .simp
 have hL:∀p∈[P0,P1,P2,[]++P0++[[],[(0:UInt8)]],q,[]],Small p:=λp hp=>by
  simp only[dT,mX,lW]at hp;rcases hp with rfl|rfl|rfl|rfl|rfl|rfl
  .exact B0.small (by omega) (by omega)
  .exact B1.small (by omega) (by omega)
  .exact B2.small (by omega) (by omega)
  .exact B4.small (by omega) (by omega)
  .exact B3.small (by omega) (by omega)
  .exact⟨by simp,λl hl=>by cases hl⟩
 have h7:=Ww hL (by simp) b (λy=>some (yD y)) (λ_=>ck true <|some (yD true)) (λ_=>none) 100 0 (by simp) (by simp);unfold PA;exact(aY (λz:O=>z.bind ET) h7).trans (aIt true)
end Go.Proofs
