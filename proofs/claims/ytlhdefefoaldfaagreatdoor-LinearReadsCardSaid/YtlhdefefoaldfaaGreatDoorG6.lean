/- Texts of trees. Conditions are in the theorems. -/
import Derived.Test.YtlhdefefoaldfaaGreatDoorG1
import Derived.Test.YtlhdefefoaldfaaGreatDoorG5
import Derived.Test.YtlhdefefoaldfaaGreatDoorF2
open Bool renaming and_eq_true->bM,and_true->a4p
open Go.IntKind renaming i64->aB
open List renaming length_append->dO,length_cons->eB,length_nil->lG,length_singleton->kZ
open Nat renaming le_refl->cE,not_lt->aIl,zero_le->uT
open UInt8 renaming ofNat->eW
/- Values of trees: what the reference gives. -/
namespace Go.Proofs
open Go Go.Ax Go.Ax.aA
theorem xA{o a:Int}{ks:List Ex}{root:Bool}(h:dE (.mk o a ks) root=true):
    (o=0/\ks=[]/\0<=a/\a<=999999)\/(o=1/\ks=[]/\0<=a/\a<=25)\/((o=2\/o=8)/\∃k,ks=[k]/\dE k false=true) \/
    ((o=3\/o=4\/o=5\/o=6\/o=7\/o=9\/o=10)/\∃k k',ks=[k,k']/\dE k false=true/\dE k' false=true):=by
 simp only[dE,here,bM,fU]at h;obtain⟨⟨⟨⟨h1,_⟩,h3⟩,h4⟩,h5⟩:=h;unfold nP at h1;unfold jN at h4;split at h1
 .rename_i ho
  have:ks=[]:=List.eq_nil_of_length_eq_zero (by omega);subst this;rcases ho with rfl|rfl
  .exact .inl ⟨rfl,rfl,h3,by simpa using h4⟩
  .exact .inr (.inl ⟨rfl,rfl,h3,by simpa using h4⟩)
 .split at h1
  .rename_i ho
   match ks,h1,h5 with
   |[k],_,h5=>
     simp only[gU,a4p]at h5;exact .inr (.inr (.inl ⟨ho,k,rfl,h5⟩))
   |[],h1,_=>simp at h1
   |_::_::_,h1,_=>simp at h1;omega
  .split at h1
   .rename_i ho
    match ks,h1,h5 with
    |[k,k'],_,h5=>
      simp only[gU,a4p,bM]at h5;exact .inr (.inr (.inr ⟨ho,k,k',rfl,h5.1,h5.2⟩))
    |[],h1,_=>simp at h1
    |[_],h1,_=>simp at h1
    |_::_::_::_,h1,_=>simp at h1;omega
   .omega
end Go.Proofs
/- Texts of trees: what both print. -/
namespace Go.Proofs
open Go Go.Ax Go.Ax.aA
theorem B8:∀(n:Nat)(e:Ex),aR e<=n->dE e false=true->Wf e
 |0,e,h,_=>by have:=size_pos e;omega
 |n+1,.mk o a ks,h,ok=>by
   have hh:=ok;simp only[dE,here,bM,fU,Bool.false_or]at hh;have hroot:o<9:=hh.1.1.1.2;have ha:0<=a/\a<=jN o:=⟨hh.1.1.2,hh.1.2⟩;rcases xA ok with⟨rfl,rfl,h0,h1⟩|⟨rfl,rfl,h0,h1⟩|⟨ho,k,rfl,hk⟩|⟨ho,k,k',rfl,hk,hk'⟩
   .exact .num h0 h1
   .exact .var h0 h1
   .have hm:jN o=0:=by unfold jN;rw[aF (by omega),aF (by omega)]
    have a0:a=0:=by omega
    subst a0;have hs:aR k<=n:=by simp only[aR,c9]at h;omega
    have w:=B8 n k hs hk;rcases ho with rfl|rfl
    .exact .neg w
    .exact .root w
   .have hm:jN o=0:=by unfold jN;rw[aF (by omega),aF (by omega)]
    have a0:a=0:=by omega
    subst a0;have hs:aR k<=n/\aR k'<=n:=by simp only[aR,c9]at h;omega
    have w:=B8 n k hs.1 hk;have w':=B8 n k' hs.2 hk';by_cases h7:o=7
    .subst h7;exact .pow w w'
    .exact .two (by omega) w w'
theorem aJN{e:Ex}(ok:dE e true=true):Ov e:=by
 cases h:dE e false with
 |true=>exact .tree (B8 _ e (cE _) h)
 |false=>
   obtain⟨o,a,ks⟩:=e;have h9:¬ o<9:=λh9=>by
    simp only[dE,here]at ok h;rw[aU h9]at ok h;simp only[Bool.or_true]at ok h;rw[ok]at h;cases h
   have hh:=ok;simp only[dE,here,bM,fU]at hh;have ha:0<=a/\a<=jN o:=⟨hh.1.1.2,hh.1.2⟩;rcases xA ok with⟨rfl,rfl,h0,h1⟩|⟨rfl,rfl,h0,h1⟩|⟨ho,k,rfl,hk⟩|⟨ho,k,k',rfl,hk,hk'⟩
   .omega
   .omega
   .omega
   .have hm:jN o=0:=by unfold jN;rw[aF (by omega),aF (by omega)]
    have a0:a=0:=by omega
    subst a0;exact .rel (by omega) (B8 _ k (cE _) hk) (B8 _ k' (cE _) hk')
theorem lT{k:Nat}{e:Ex}:(cJ k e).length<=(fV e).length+2:=by
 by_cases h:bV e.op<k
 .rw[o9 h];simp
 .rw[iJ (by omega)];omega
theorem nJ:∀(n:Nat)(e:Ex)(root:Bool),aR e<=n->dE e root=true->(fV e).length+2<=8*aR e
 |0,e,_,h,_=>by have:=size_pos e;omega
 |n+1,.mk o a ks,root,h,ok=>by
   rcases xA ok with⟨rfl,rfl,h0,h1⟩|⟨rfl,rfl,h0,h1⟩|⟨ho,k,rfl,hk⟩|⟨ho,k,k',rfl,hk,hk'⟩
   .have:=aIM (u:=a.toNat) (by omega)
    rw[D6];simp only[aR,c9];omega
   .rw[D4];simp[aR,c9]
   .have hs:aR k<=n:=by simp only[aR,c9]at h;omega
    have ih:=nJ n k false hs hk;rcases ho with rfl|rfl
    .have:=lT (k:=3) (e:=k)
     rw[HE];simp only[aR,c9,eB];omega
    .have:=lT (k:=1) (e:=k)
     rw[HC];simp only[aR,c9,eB,dO,lG];omega
   .have hs:aR k<=n/\aR k'<=n:=by simp only[aR,c9]at h;omega
    have ih:=nJ n k false hs.1 hk;have ih':=nJ n k' false hs.2 hk';by_cases h7:o=7
    .subst h7
     have a:=lT (k:=4) (e:=k);have b:=lT (k:=3) (e:=k');rw[HD];simp only[aR,c9,eB,dO];omega
    .have a:=lT (k:=max 1 (bV o)) (e:=k)
     have b:=lT (k:=bV o+1) (e:=k');rw[D5 (by omega)];simp only[aR,c9,eB,dO];omega
theorem aLN{N:Nat}{a:Int}{g:Tx}(h0:0<=a)(h1:a<=999999)(hg:g.length<=2^42):JG N a 10 g=true/\JD N a 10 g=g++Lib.decDigits a.toNat:=by
 have hu:IntKind.u64.wrap a=a:=by
  show a%18446744073709551616=a;omega
 have p:Al N a 10 g=true:=by
  unfold Al;rw[aU rfl,aU (by omega),aU (by omega)];rfl
 have z6:Gq N a 10 g=some (g++Lib.decDigits a.toNat):=by
  show(NO _ _ _ _:O).bind NM=_;unfold NO;rw[aX (by omega),aM,hu,aG p];rfl
 have z:Em N a 10 g=some (g++Lib.decDigits a.toNat):=by
  show(JH _ _ _ _:O).bind JE=_;unfold JH;rw[aG (show NN N a 10 g=true by unfold NN;rw[z6];rfl),show NL N a 10 g=g++Lib.decDigits a.toNat by unfold NL;rw[z6];rfl];rfl
 unfold JG JD;rw[z];exact⟨rfl,rfl⟩
theorem aFu{a:Int}(h0:0<=a)(h1:a<=25):dV (aB.wrap (97+a))=eW (97+a.toNat):=by
 rw[wr (by omega) (by omega)];show eW ((97+a)%256).toNat=_
 congr 1
 omega
theorem xJ{n:Nat}(h:n<=2^46):cZ n 1=true:=aU (by omega)
abbrev V3(o:Int):Int×(Int×(Int×UInt8)):=opsL.getD o.toNat (0,0,0,0)
theorem zR(x:Tx):(some (mV x):O).bind F3=some x:=rfl
theorem vP{N:Nat}:∀(n:Nat)(e:Ex)(root:Bool)(k:Nat)(g:Tx),dE e root=true->((2*aR e<=n/\g.length+16*aR e<=2^41)\/(2*aR e<=n+1/\k<=bV e.op/\g.length+16*aR e<=2^41+1))->l6 N n e.op e.num e.kids (k:Int) g=some (g++cJ k e)
 |0,e,_,_,_,_,h=>by have:=size_pos e;omega
 |n+1,.mk o a ks,root,k,g,ok,h=>by
   have sz:=size_pos (.mk o a ks);have tl:=nJ _ _ root (cE _) ok;show(K4 (N,l6 N n) o a ks (k:Int) g:O).bind F3=_;unfold K4;simp only[];have hop:(0<=o/\o<=10):=by rcases xA ok with⟨rfl,_⟩|⟨rfl,_⟩|⟨ho,_⟩|⟨ho,_⟩ <;> omega
   have row:opsL[o.toNat]?=some (V3 o)/\(V3 o).2.2.1=(bV o:Int)/\((o=3\/o=4\/o=5\/o=6\/o=9\/o=10)->(V3 o).2.2.2=lM o):=by
    have:o=0\/o=1\/o=2\/o=3\/o=4\/o=5\/o=6\/o=7\/o=8\/o=9\/o=10:=by omega
    rcases this with rfl|rfl|rfl|rfl|rfl|rfl|rfl|rfl|rfl|rfl|rfl <;> exact⟨rfl,rfl,λh=>by first|rfl|(exfalso;revert h;decide)⟩
   rw[OY hop.1 row.1,row.2.1];have hgl:g.length+16*aR (.mk o a ks)<=2^41+1:=by omega
   by_cases hl:bV o<k
   .have hf:2*aR (.mk o a ks)<=n+1/\g.length+16*aR (.mk o a ks)<=2^41:=by
     rcases h with h|⟨_,h,_⟩
     .exact h
     .exact absurd hl (aIl.2 h)
    have ih:l6 N n o a ks 0 (g++[40])=some (g++[40]++cJ 0 (.mk o a ks)):=vP (N:=N) n (.mk o a ks) root 0 (g++[40]) ok (.inr ⟨hf.1,uT _,by rw[dO,kZ];omega⟩);have l0:(cJ 0 (.mk o a ks)).length=(fV (.mk o a ks)).length:=by rw[iJ (uT _)]
    rw[aU (by omega),bA,aG (xJ (by rw[dO,kZ];omega)),ih,aG sm,sg,aG (xJ (by simp only[dO,kZ];omega)),zR];rw[o9 (show bV (Ex.op (.mk o a ks))<k from hl),iJ (uT _)];simp
   .rw[aX (by omega),aM,iJ (show k<=bV (Ex.op (.mk o a ks))from aIl.1 hl)]
    have f1:2*aR (.mk o a ks)<=n+2:=by omega
    rcases xA ok with⟨rfl,rfl,h0,h1⟩|⟨rfl,rfl,h0,h1⟩|⟨ho,q,rfl,hk⟩|⟨ho,q,q',rfl,hk,hk'⟩
    .have z:=aLN (N:=N) (a:=a) (g:=g) h0 h1 (by omega)
     rw[aU rfl,bA,aG z.1,z.2,zR,D6]
    .rw[aX (by decide),aM,aU rfl,bA,aFu h0 h1,aG (xJ (by rw[dO,kZ];omega)),zR,D4]
    .have hs:aR (.mk o a [q])=1+aR q:=by simp[aR,c9]
     have hq:=nJ _ q false (cE _) hk;rcases ho with rfl|rfl
     .have ih:l6 N n q.op q.num q.kids 3 (g++[45])=some (g++[45]++cJ 3 q):=vP (N:=N) n q false 3 (g++[45]) hk (.inl ⟨by omega,by rw[dO,kZ];omega⟩)
      rw[aX (by decide),aM,aX (by decide),aM,aU rfl,bA,aG (xJ (by rw[dO,kZ];omega)),rU,ih,aG sm,sg,zR,HE];simp
     .have ih:l6 N n q.op q.num q.kids 1 (g++[82,40])=some (g++[82,40]++cJ 1 q):=vP (N:=N) n q false 1 (g++[82,40]) hk (.inl ⟨by omega,by simp only[dO,eB,lG];omega⟩)
      have ql:=lT (k:=1) (e:=q);rw[aX (by decide),aM,aX (by decide),aM,aX (by decide),aM,aU rfl,bA,aG (xJ (by simp only[dO,eB,lG];omega)),rU,ih,aG sm,sg,aG (xJ (by simp only[dO,eB,lG];omega)),zR,HC];simp
    .have hs:aR (.mk o a [q,q'])=1+(aR q+aR q'):=by simp[aR,c9]
     have hq:=nJ _ q false (cE _) hk;have hq':=nJ _ q' false (cE _) hk';by_cases h7:o=7
     .subst h7
      have ql:=lT (k:=4) (e:=q);have ih:l6 N n q.op q.num q.kids 4 g=some (g++cJ 4 q):=vP (N:=N) n q false 4 g hk (.inl ⟨by omega,by omega⟩);have ih':l6 N n q'.op q'.num q'.kids 3 (g++cJ 4 q++[94])=some (g++cJ 4 q++[94]++cJ 3 q'):=vP (N:=N) n q' false 3 _ hk' (.inl ⟨by omega,by simp only[dO,kZ];omega⟩);rw[aX (by decide),aM,aX (by decide),aM,aX (by decide),aM,aX (by decide),aM,aU rfl,bA,rU,ih,aG sm,sg,aG (xJ (by simp only[dO,kZ];omega)),OZ,ih',aG sm,sg,zR,HD];simp
     .have ho':o=3\/o=4\/o=5\/o=6\/o=9\/o=10:=by omega
      have ql:=lT (k:=max 1 (bV o)) (e:=q);have hmx:max (1:Int) ((bV o:Nat):Int)=((max 1 (bV o):Nat):Int):=by omega
      have hl3:bV o<=2:=by rcases ho' with rfl|rfl|rfl|rfl|rfl|rfl <;> decide
      have hw:aB.wrap (((bV o:Nat):Int)+1)=((bV o+1:Nat):Int):=by rw[wr (by omega) (by omega)];omega
      have ih:=vP (N:=N) n q false (max 1 (bV o)) g hk (.inl ⟨by omega,by omega⟩);have ih':=vP (N:=N) n q' false (bV o+1) (g++cJ (max 1 (bV o)) q++[lM o]) hk' (.inl ⟨by omega,by simp only[dO,kZ];omega⟩);rw[aX (by omega),aM,aX (by omega),aM,aX (by omega),aM,aX (by omega),aM,aX (by omega),aM,rU,hmx,ih,aG sm,sg,row.2.2 ho',aG (xJ (by simp only[dO,kZ];omega)),OZ,hw,ih',aG sm,sg,zR,D5 ho'];simp
def cY(e:Ex):Tx:=if dJ e=0 then fV e else[]
theorem D2{e:Ex}(h:dJ e=0):dE e true=true:=by
 unfold dJ at h;split at h
 .cases h
 .split at h
  .assumption
  .cases h
theorem aDW{N:Nat}{e:Ex}(h:4*aR e<N)(hB:aR e<2^36):MN N e.op e.num e.kids=some (cY e):=by
 show(MP _ _ _ _:O).bind MO=_;unfold MP cY;rw[aG (Sx h (by omega)),Sw h (by omega)];by_cases hv:dJ e=0
 .have ih:l6 N N e.op e.num e.kids 0 []=some ([]++cJ 0 e):=vP (N:=N) N e true 0 [] (D2 hv) (.inl ⟨by omega,by simp only[lG];omega⟩)
  rw[aX (λh=>h hv),aM,aN hv,aG (show KY N e.op e.num e.kids 0 []=true by unfold KY;rw[ih];rfl),show KX N e.op e.num e.kids 0 []=cJ 0 e by unfold KX;rw[ih];rfl,iJ (uT _)];rfl
 .rw[aU hv,bA,aF hv];rfl
section
variable{N:Nat}{e:Ex}(h:4*aR e<N)(hB:aR e<2^36)
include h hB
theorem aTl:GG N e.op e.num e.kids=true:=by unfold GG;rw[aDW h hB];rfl
theorem aTk:AR N e.op e.num e.kids=cY e:=by unfold AR;rw[aDW h hB];rfl
end
end Go.Proofs
/- Texts of trees: what the reference prints. -/
namespace Go.Proofs
open Go Go.Ax Go.Ax.aA
theorem aFt{d:Int}(h0:0<=d)(h1:d<=9):dV (aB.wrap (48+d))=eW (48+d.toNat):=by
 rw[wr (by omega) (by omega)];show eW ((48+d)%256).toNat=_
 congr 1
 omega
theorem Ye(N:Nat):∀(m:Nat)(n:Int),0<=n->n<10^m->m<=18->1<=m->∀k,m<=k->lV N k n=some (Lib.decDigits n.toNat)
 |0,n,_,_,_,h,_,_=>by omega
 |m+1,n,h0,hb,hm,_,k,hk=>by
   match k,hk with
   |k+1,hk=>
     show(Io (N,lV N k) n:O).bind Il=_;unfold Io;by_cases h10:n<10
     .rw[aU h10,bA,aFt h0 (by omega),Lib.decDigits,dif_pos (by omega)]
      rfl
     .have hd:n.tdiv 10=n / 10:=Int.tdiv_eq_ediv_of_nonneg h0
      have hmo:n.tmod 10=n%10:=Int.tmod_eq_emod_of_nonneg h0;have hp:(10:Int)^(m+1)=10^m*10:=Int.pow_succ ..;have hp18:(10:Int)^m<=10^17:=by
       have:=Nat.pow_le_pow_right (n:=10) (by omega) (show m<=17 by omega)
       exact_mod_cast this
      have hm1:1<=m:=by
       rcases Nat.eq_zero_or_pos m with rfl|h
       .simp at hb;omega
       .exact h
      have h17:(10:Int)^17=100000000000000000:=by decide
      rw[aX h10,aM,dH,hd,hmo,wr (by omega) (by omega)];have ih:=Ye N m (n / 10) (by omega) (by omega) (by omega) hm1 k (by omega);have hlen:(Lib.decDigits (n / 10).toNat).length<=m:=by
       rw[Lib.decDigits_length];refine aHN hm1 ?_;have:((n / 10).toNat:Int)<((10^m:Nat):Int):=by rw[Int.toNat_of_nonneg (by omega)];push_cast;omega
       exact_mod_cast this
      have ih':(N,lV N k).2 (n / 10)=some (Lib.decDigits (n / 10).toNat):=ih;rw[ih',aFt (by omega) (by omega),aG sm,sg,dH,aG (aU (by simp only[kZ];omega))];rw[Lib.decDigits.eq_def n.toNat,dif_neg (by omega),show n.toNat / 10=(n / 10).toNat by omega,show n.toNat%10=(n%10).toNat by omega];rfl
theorem aK4{N:Nat}(hN:7<=N){n:Int}(h0:0<=n)(h1:n<=999999):Im N n=true/\Ik N n=Lib.decDigits n.toNat:=by
 have:=Ye N 6 n h0 (by omega) (by omega) (by omega) N (by omega);unfold Im Ik;rw[this];exact⟨rfl,rfl⟩
theorem aKN{N:Nat}{o:Int}(h:0<=o/\o<=10):Ia N o=true/\E8 N o=(bV o:Int):=by
 have:o=0\/o=1\/o=2\/o=3\/o=4\/o=5\/o=6\/o=7\/o=8\/o=9\/o=10:=by omega
 rcases this with rfl|rfl|rfl|rfl|rfl|rfl|rfl|rfl|rfl|rfl|rfl <;> exact⟨rfl,rfl⟩
theorem aJo{N:Nat}{o:Int}(h:o=3\/o=4\/o=5\/o=6\/o=9\/o=10):I5 N o=true/\vD N o=[lM o]:=by
 rcases h with rfl|rfl|rfl|rfl|rfl|rfl <;> exact⟨rfl,rfl⟩
theorem CJ(x:Tx):(some (mS x):O).bind CI=some x:=rfl
theorem Y9(x:Tx):(some (yR x):O).bind Eb=some x:=rfl
theorem uG{x:Int}(h:x<=2^60):decide (x<=9223372036854775807)=true:=aU (by omega)
theorem FI{N:Nat}(hN:7<=N):∀(n:Nat)(e:Ex)(root:Bool),dE e root=true->aR e<=2^50->
    (2*aR e<=n+1->(gH N n).1 e.op e.num e.kids=some (fV e))/\(2*aR e<=n->∀k:Nat,(gH N n).2 e.op e.num e.kids (k:Int)=some (cJ k e))
 |0,e,_,_,_=>by have:=size_pos e;exact⟨λh=>by omega,λh=>by omega⟩
 |n+1,.mk o a ks,root,ok,hB=>by
   have sz:=size_pos (.mk o a ks);have tl:=nJ _ _ root (cE _) ok;have hop:(0<=o/\o<=10):=by rcases xA ok with⟨rfl,_⟩|⟨rfl,_⟩|⟨ho,_⟩|⟨ho,_⟩ <;> omega
   have l83:=aKN (N:=N) hop;refine⟨λh=>?_,λh k=>?_⟩
   .show(Jk (N,gH N n) _ o a ks:O).bind CI=_
    unfold Jk;simp only[];rcases xA ok with⟨rfl,rfl,h0,h1⟩|⟨rfl,rfl,h0,h1⟩|⟨ho,q,rfl,hk⟩|⟨ho,q,q',rfl,hk,hk'⟩
    .have z:=aK4 (N:=N) hN h0 h1
     rw[aU rfl,bA,aG z.1,z.2,CJ,D6]
    .rw[aX (by decide),aM,aU rfl,bA,aFu h0 h1,CJ,D4]
    .have hs:aR (.mk o a [q])=1+aR q:=by simp[aR,c9]
     have hq:=nJ _ q false (cE _) hk;have ih:=(FI hN n q false hk (by omega)).2 (by omega);rcases ho with rfl|rfl
     .have ih:(gH N n).2 q.op q.num q.kids 3=some (cJ 3 q):=ih 3
      have ql:=lT (k:=3) (e:=q);rw[aX (by decide),aM,aX (by decide),aM,aU rfl,bA,rU,ih,aG sm,sg,aG (uG (by omega)),CJ,HE];rfl
     .have ih:(gH N n).2 q.op q.num q.kids 1=some (cJ 1 q):=ih 1
      have ql:=lT (k:=1) (e:=q);rw[aX (by decide),aM,aX (by decide),aM,aX (by decide),aM,aU rfl,bA,rU,ih,aG sm,sg,aG (uG (by omega)),aG (uG (by simp only[dO,eB,lG];omega)),CJ,HC];rfl
    .have hs:aR (.mk o a [q,q'])=1+(aR q+aR q'):=by simp[aR,c9]
     have hq:=nJ _ q false (cE _) hk;have hq':=nJ _ q' false (cE _) hk';have ih:=(FI hN n q false hk (by omega)).2 (by omega);have ih':=(FI hN n q' false hk' (by omega)).2 (by omega);by_cases h7:o=7
     .subst h7
      have ih:(gH N n).2 q.op q.num q.kids 4=some (cJ 4 q):=ih 4;have ih':(gH N n).2 q'.op q'.num q'.kids 3=some (cJ 3 q'):=ih' 3;have ql:=lT (k:=4) (e:=q);have ql':=lT (k:=3) (e:=q');rw[aX (by decide),aM,aX (by decide),aM,aX (by decide),aM,aX (by decide),aM,aU rfl,bA,rU,ih,aG sm,sg,aG (uG (by omega)),OZ,ih',aG sm,sg,aG (uG (by simp only[dO,eB,lG];omega)),CJ,HD];simp
     .have ho':o=3\/o=4\/o=5\/o=6\/o=9\/o=10:=by omega
      have ih:=ih (max 1 (bV o));have ih':=ih' (bV o+1);have ql:=lT (k:=max 1 (bV o)) (e:=q);have ql':=lT (k:=bV o+1) (e:=q');have s84:=aJo (N:=N) ho';have hl3:bV o<=2:=by rcases ho' with rfl|rfl|rfl|rfl|rfl|rfl <;> decide
      have hw:aB.wrap (((bV o:Nat):Int)+1)=((bV o+1:Nat):Int):=by rw[wr (by omega) (by omega)];omega
      rw[aX (by omega),aM,aX (by omega),aM,aX (by omega),aM,aX (by omega),aM,aX (by omega),aM,aG l83.1,l83.2];unfold Q3 FH Q6;simp only[];have fin:∀L:Int,L=((max 1 (bV o):Nat):Int)->((gx [q,q'] 0 λy10=>ck ((gH N n).2 y10.op y10.num y10.kids L).isSome <|ck (I5 N o) <|ck (decide (((((gH N n).2 y10.op y10.num y10.kids L).getD []).length:Int)+((vD N o).length:Int)<=9223372036854775807))<|
          gx [q,q'] 1 λy11=>ck ((gH N n).2 y11.op y11.num y11.kids (aB.wrap (((bV o:Nat):Int)+1))).isSome <|ck (decide (((((gH N n).2 y10.op y10.num y10.kids L).getD []++vD N o).length:Int)+((((gH N n).2 y11.op y11.num y11.kids (aB.wrap (((bV o:Nat):Int)+1))).getD []).length:Int)<=9223372036854775807))<|
          some (mS (((gH N n).2 y10.op y10.num y10.kids L).getD []++vD N o++((gH N n).2 y11.op y11.num y11.kids (aB.wrap (((bV o:Nat):Int)+1))).getD [])):O)).bind CI=some (fV (.mk o a [q,q'])):=λL hL=>by
       subst hL;rw[rU,ih,aG sm,sg,aG s84.1,s84.2,aG (uG (by simp only[kZ];omega)),OZ,hw,ih',aG sm,sg,aG (uG (by simp only[dO,kZ];omega)),CJ,D5 ho'];simp
      by_cases hl0:bV o=0
      .rw[aU (by omega),bA]
       exact fin 1 (by omega)
      .rw[aX (by omega),aM]
       exact fin _ (by omega)
   .have ih:(gH N n).1 o a ks=some (fV (.mk o a ks)):=(FI hN n (.mk o a ks) root ok hB).1 (by omega)
    show(Ij (N,gH N n) o a ks (k:Int):O).bind Eb=_;unfold Ij;simp only[];rw[ih,aG sm,sg,aG l83.1,l83.2];by_cases hl:bV o<k
    .rw[aU (by omega),bA,aG (uG (by omega)),aG (uG (by simp only[dO,kZ];omega)),Y9,o9 (show bV (Ex.op (.mk o a ks))<k from hl)]
     rfl
    .rw[aX (by omega),aM,Y9,iJ (show k<=bV (Ex.op (.mk o a ks))from aIl.1 hl)]
theorem aDF{N:Nat}{e:Ex}(hN:7<=N)(h:4*aR e<N)(hB:aR e<2^36):Lv N e.op e.num e.kids=some (cY e):=by
 show(Ly _ _ _ _:O).bind Lw=_;unfold Ly cY;rw[aG (Sj (by omega) (by omega)),Si (by omega) (by omega)];by_cases hv:dJ e=0
 .have ih:(gH N N).1 e.op e.num e.kids=some (fV e):=(FI hN N e true (D2 hv) (by omega)).1 (by omega)
  rw[aX (λh=>h hv),aM,aN hv,aG (show Jh N e.op e.num e.kids=true by unfold Jh;rw[ih];rfl),show Jf N e.op e.num e.kids=fV e by unfold Jf;rw[ih];rfl];rfl
 .rw[aU hv,bA,aF hv];rfl
section
variable{N:Nat}{e:Ex}(hN:7<=N)(h:4*aR e<N)(hB:aR e<2^36)
include hN h hB
theorem aTE:Lx N e.op e.num e.kids=true:=by unfold Lx;rw[aDF hN h hB];rfl
theorem aTD:Fv N e.op e.num e.kids=cY e:=by unfold Fv;rw[aDF hN h hB];rfl
end
theorem aGF{N:Nat}(hN:70000<=N){e:Ex}(hs:aR e<=1000)(hv:dJ e=0):jU N (cY e)=some (e.op,e.num,e.kids,0,0):=by
 have tl:=nJ _ e true (cE _) (D2 hv);unfold cY;rw[aN hv];exact aZ1 hN (by omega) (aZR (aJN (D2 hv))) rfl hv
end Go.Proofs
