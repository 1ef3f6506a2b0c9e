/- Texts of trees. Conditions are in the theorems. -/
import Derived.Test.YtlhdefefoaldfaaGreatDoorG1
import Derived.Test.YtlhdefefoaldfaaGreatDoorG5
import Derived.Test.YtlhdefefoaldfaaGreatDoorF2
open Bool renaming and_eq_true->bM,and_true->bA6
open Go.IntKind renaming i64->aC
open List renaming length_append->dK,length_cons->dD,length_nil->j9,length_singleton->j8
open Nat renaming le_refl->bZ,not_lt->aMj,zero_le->vU
open UInt8 renaming ofNat->fF
/- Values of trees: what the reference gives. -/
namespace Go.Proofs
open Go Go.Ax Go.Ax.aA
theorem yG{o a:Int}{ks:List Ex}{root:Bool}(h:dN (.mk o a ks) root=true):
    (o=0/\ks=[]/\0<=a/\a<=999999)\/(o=1/\ks=[]/\0<=a/\a<=25)\/((o=2\/o=8)/\∃k,ks=[k]/\dN k false=true) \/
    ((o=3\/o=4\/o=5\/o=6\/o=7\/o=9\/o=10)/\∃k k',ks=[k,k']/\dN k false=true/\dN k' false=true):=by
 simp only[dN,here,bM,gG]at h;obtain⟨⟨⟨⟨h1,_⟩,h3⟩,h4⟩,h5⟩:=h;unfold oC at h1;unfold jS at h4;split at h1
 .rename_i ho
  have:ks=[]:=List.eq_nil_of_length_eq_zero (by omega);subst this;rcases ho with rfl|rfl
  .exact .inl ⟨rfl,rfl,h3,by simpa using h4⟩
  .exact .inr (.inl ⟨rfl,rfl,h3,by simpa using h4⟩)
 .split at h1
  .rename_i ho
   match ks,h1,h5 with
   |[k],_,h5=>
     simp only[hZ,bA6]at h5;exact .inr (.inr (.inl ⟨ho,k,rfl,h5⟩))
   |[],h1,_=>simp at h1
   |_::_::_,h1,_=>simp at h1;omega
  .split at h1
   .rename_i ho
    match ks,h1,h5 with
    |[k,k'],_,h5=>
      simp only[hZ,bA6,bM]at h5;exact .inr (.inr (.inr ⟨ho,k,k',rfl,h5.1,h5.2⟩))
    |[],h1,_=>simp at h1
    |[_],h1,_=>simp at h1
    |_::_::_::_,h1,_=>simp at h1;omega
   .omega
end Go.Proofs
/- Texts of trees: what both print. -/
namespace Go.Proofs
open Go Go.Ax Go.Ax.aA
theorem C0:∀(n:Nat)(e:Ex),aT e<=n->dN e false=true->Wf e
 |0,e,h,_=>by have:=size_pos e;omega
 |n+1,.mk o a ks,h,ok=>by
   have hh:=ok;simp only[dN,here,bM,gG,Bool.false_or]at hh;have hroot:o<9:=hh.1.1.1.2;have ha:0<=a/\a<=jS o:=⟨hh.1.1.2,hh.1.2⟩;rcases yG ok with⟨rfl,rfl,h0,h1⟩|⟨rfl,rfl,h0,h1⟩|⟨ho,k,rfl,hk⟩|⟨ho,k,k',rfl,hk,hk'⟩
   .exact .num h0 h1
   .exact .var h0 h1
   .have hm:jS o=0:=by unfold jS;rw[aD (by omega),aD (by omega)]
    have a0:a=0:=by omega
    subst a0;have hs:aT k<=n:=by simp only[aT,dH]at h;omega
    have w:=C0 n k hs hk;rcases ho with rfl|rfl
    .exact .neg w
    .exact .root w
   .have hm:jS o=0:=by unfold jS;rw[aD (by omega),aD (by omega)]
    have a0:a=0:=by omega
    subst a0;have hs:aT k<=n/\aT k'<=n:=by simp only[aT,dH]at h;omega
    have w:=C0 n k hs.1 hk;have w':=C0 n k' hs.2 hk';by_cases h7:o=7
    .subst h7;exact .pow w w'
    .exact .two (by omega) w w'
theorem aNO{e:Ex}(ok:dN e true=true):Rm e:=by
 cases h:dN e false with
 |true=>exact .tree (C0 _ e (bZ _) h)
 |false=>
   obtain⟨o,a,ks⟩:=e;have h9:¬ o<9:=λh9=>by
    simp only[dN,here]at ok h;rw[aQ h9]at ok h;simp only[Bool.or_true]at ok h;rw[ok]at h;cases h
   have hh:=ok;simp only[dN,here,bM,gG]at hh;have ha:0<=a/\a<=jS o:=⟨hh.1.1.2,hh.1.2⟩;rcases yG ok with⟨rfl,rfl,h0,h1⟩|⟨rfl,rfl,h0,h1⟩|⟨ho,k,rfl,hk⟩|⟨ho,k,k',rfl,hk,hk'⟩
   .omega
   .omega
   .omega
   .have hm:jS o=0:=by unfold jS;rw[aD (by omega),aD (by omega)]
    have a0:a=0:=by omega
    subst a0;exact .rel (by omega) (C0 _ k (bZ _) hk) (C0 _ k' (bZ _) hk')
theorem mE{k:Nat}{e:Ex}:(cQ k e).length<=(gH e).length+2:=by
 by_cases h:bW e.op<k
 .rw[pU h];simp
 .rw[iT (by omega)];omega
theorem nZ:∀(n:Nat)(e:Ex)(root:Bool),aT e<=n->dN e root=true->(gH e).length+2<=8*aT e
 |0,e,_,h,_=>by have:=size_pos e;omega
 |n+1,.mk o a ks,root,h,ok=>by
   rcases yG ok with⟨rfl,rfl,h0,h1⟩|⟨rfl,rfl,h0,h1⟩|⟨ho,k,rfl,hk⟩|⟨ho,k,k',rfl,hk,hk'⟩
   .have:=aMH (u:=a.toNat) (by omega)
    rw[En];simp only[aT,dH];omega
   .rw[El];simp[aT,dH]
   .have hs:aT k<=n:=by simp only[aT,dH]at h;omega
    have ih:=nZ n k false hs hk;rcases ho with rfl|rfl
    .have:=mE (k:=3) (e:=k)
     rw[Is];simp only[aT,dH,dD];omega
    .have:=mE (k:=1) (e:=k)
     rw[Iq];simp only[aT,dH,dD,dK,j9];omega
   .have hs:aT k<=n/\aT k'<=n:=by simp only[aT,dH]at h;omega
    have ih:=nZ n k false hs.1 hk;have ih':=nZ n k' false hs.2 hk';by_cases h7:o=7
    .subst h7
     have a:=mE (k:=4) (e:=k);have b:=mE (k:=3) (e:=k');rw[Ir];simp only[aT,dH,dD,dK];omega
    .have a:=mE (k:=max 1 (bW o)) (e:=k)
     have b:=mE (k:=bW o+1) (e:=k');rw[Em (by omega)];simp only[aT,dH,dD,dK];omega
theorem aPO{N:Nat}{a:Int}{g:Tx}(h0:0<=a)(h1:a<=999999)(hg:g.length<=2^42):Km N a 10 g=true/\Kj N a 10 g=g++Lib.decDigits a.toNat:=by
 have hu:IntKind.u64.wrap a=a:=by
  show a%18446744073709551616=a;omega
 have p:Bd N a 10 g=true:=by
  unfold Bd;rw[aQ rfl,aQ (by omega),aQ (by omega)];rfl
 have z6:Ic N a 10 g=some (g++Lib.decDigits a.toNat):=by
  show(Pw _ _ _ _:O).bind Pu=_;unfold Pw;rw[aR (by omega),aK,hu,aI p];rfl
 have z:GG N a 10 g=some (g++Lib.decDigits a.toNat):=by
  show(Kn _ _ _ _:O).bind Kk=_;unfold Kn;rw[aI (show Pv N a 10 g=true by unfold Pv;rw[z6];rfl),show Pt N a 10 g=g++Lib.decDigits a.toNat by unfold Pt;rw[z6];rfl];rfl
 unfold Km Kj;rw[z];exact⟨rfl,rfl⟩
theorem aJj{a:Int}(h0:0<=a)(h1:a<=25):eD (aC.wrap (97+a))=fF (97+a.toNat):=by
 rw[wr (by omega) (by omega)];show fF ((97+a)%256).toNat=_
 congr 1
 omega
theorem yP{n:Nat}(h:n<=2^46):cF n 1=true:=aQ (by omega)
abbrev Yv(o:Int):Int×(Int×(Int×UInt8)):=opsL.getD o.toNat (0,0,0,0)
theorem A6(x:Tx):(some (nL x):O).bind Gr=some x:=rfl
theorem wW{N:Nat}:∀(n:Nat)(e:Ex)(root:Bool)(k:Nat)(g:Tx),dN e root=true->((2*aT e<=n/\g.length+16*aT e<=2^41)\/(2*aT e<=n+1/\k<=bW e.op/\g.length+16*aT e<=2^41+1))->mK N n e.op e.num e.kids (k:Int) g=some (g++cQ k e)
 |0,e,_,_,_,_,h=>by have:=size_pos e;omega
 |n+1,.mk o a ks,root,k,g,ok,h=>by
   have sz:=size_pos (.mk o a ks);have tl:=nZ _ _ root (bZ _) ok;show(MR (N,mK N n) o a ks (k:Int) g:O).bind Gr=_;unfold MR;simp only[];have hop:(0<=o/\o<=10):=by rcases yG ok with⟨rfl,_⟩|⟨rfl,_⟩|⟨ho,_⟩|⟨ho,_⟩ <;> omega
   have row:opsL[o.toNat]?=some (Yv o)/\(Yv o).2.2.1=(bW o:Int)/\((o=3\/o=4\/o=5\/o=6\/o=9\/o=10)->(Yv o).2.2.2=l7 o):=by
    have:o=0\/o=1\/o=2\/o=3\/o=4\/o=5\/o=6\/o=7\/o=8\/o=9\/o=10:=by omega
    rcases this with rfl|rfl|rfl|rfl|rfl|rfl|rfl|rfl|rfl|rfl|rfl <;> exact⟨rfl,rfl,λh=>by first|rfl|(exfalso;revert h;decide)⟩
   rw[RH hop.1 row.1,row.2.1];have hgl:g.length+16*aT (.mk o a ks)<=2^41+1:=by omega
   by_cases hl:bW o<k
   .have hf:2*aT (.mk o a ks)<=n+1/\g.length+16*aT (.mk o a ks)<=2^41:=by
     rcases h with h|⟨_,h,_⟩
     .exact h
     .exact absurd hl (aMj.2 h)
    have ih:mK N n o a ks 0 (g++[40])=some (g++[40]++cQ 0 (.mk o a ks)):=wW (N:=N) n (.mk o a ks) root 0 (g++[40]) ok (.inr ⟨hf.1,vU _,by rw[dK,j8];omega⟩);have l0:(cQ 0 (.mk o a ks)).length=(gH (.mk o a ks)).length:=by rw[iT (vU _)]
    rw[aQ (by omega),aX,aI (yP (by rw[dK,j8];omega)),ih,aI sm,sg,aI (yP (by simp only[dK,j8];omega)),A6];rw[pU (show bW (Ex.op (.mk o a ks))<k from hl),iT (vU _)];simp
   .rw[aR (by omega),aK,iT (show k<=bW (Ex.op (.mk o a ks))from aMj.1 hl)]
    have f1:2*aT (.mk o a ks)<=n+2:=by omega
    rcases yG ok with⟨rfl,rfl,h0,h1⟩|⟨rfl,rfl,h0,h1⟩|⟨ho,q,rfl,hk⟩|⟨ho,q,q',rfl,hk,hk'⟩
    .have z:=aPO (N:=N) (a:=a) (g:=g) h0 h1 (by omega)
     rw[aQ rfl,aX,aI z.1,z.2,A6,En]
    .rw[aR (by decide),aK,aQ rfl,aX,aJj h0 h1,aI (yP (by rw[dK,j8];omega)),A6,El]
    .have hs:aT (.mk o a [q])=1+aT q:=by simp[aT,dH]
     have hq:=nZ _ q false (bZ _) hk;rcases ho with rfl|rfl
     .have ih:mK N n q.op q.num q.kids 3 (g++[45])=some (g++[45]++cQ 3 q):=wW (N:=N) n q false 3 (g++[45]) hk (.inl ⟨by omega,by rw[dK,j8];omega⟩)
      rw[aR (by decide),aK,aR (by decide),aK,aQ rfl,aX,aI (yP (by rw[dK,j8];omega)),sR,ih,aI sm,sg,A6,Is];simp
     .have ih:mK N n q.op q.num q.kids 1 (g++[82,40])=some (g++[82,40]++cQ 1 q):=wW (N:=N) n q false 1 (g++[82,40]) hk (.inl ⟨by omega,by simp only[dK,dD,j9];omega⟩)
      have ql:=mE (k:=1) (e:=q);rw[aR (by decide),aK,aR (by decide),aK,aR (by decide),aK,aQ rfl,aX,aI (yP (by simp only[dK,dD,j9];omega)),sR,ih,aI sm,sg,aI (yP (by simp only[dK,dD,j9];omega)),A6,Iq];simp
    .have hs:aT (.mk o a [q,q'])=1+(aT q+aT q'):=by simp[aT,dH]
     have hq:=nZ _ q false (bZ _) hk;have hq':=nZ _ q' false (bZ _) hk';by_cases h7:o=7
     .subst h7
      have ql:=mE (k:=4) (e:=q);have ih:mK N n q.op q.num q.kids 4 g=some (g++cQ 4 q):=wW (N:=N) n q false 4 g hk (.inl ⟨by omega,by omega⟩);have ih':mK N n q'.op q'.num q'.kids 3 (g++cQ 4 q++[94])=some (g++cQ 4 q++[94]++cQ 3 q'):=wW (N:=N) n q' false 3 _ hk' (.inl ⟨by omega,by simp only[dK,j8];omega⟩);rw[aR (by decide),aK,aR (by decide),aK,aR (by decide),aK,aR (by decide),aK,aQ rfl,aX,sR,ih,aI sm,sg,aI (yP (by simp only[dK,j8];omega)),RI,ih',aI sm,sg,A6,Ir];simp
     .have ho':o=3\/o=4\/o=5\/o=6\/o=9\/o=10:=by omega
      have ql:=mE (k:=max 1 (bW o)) (e:=q);have hmx:max (1:Int) ((bW o:Nat):Int)=((max 1 (bW o):Nat):Int):=by omega
      have hl3:bW o<=2:=by rcases ho' with rfl|rfl|rfl|rfl|rfl|rfl <;> decide
      have hw:aC.wrap (((bW o:Nat):Int)+1)=((bW o+1:Nat):Int):=by rw[wr (by omega) (by omega)];omega
      have ih:=wW (N:=N) n q false (max 1 (bW o)) g hk (.inl ⟨by omega,by omega⟩);have ih':=wW (N:=N) n q' false (bW o+1) (g++cQ (max 1 (bW o)) q++[l7 o]) hk' (.inl ⟨by omega,by simp only[dK,j8];omega⟩);rw[aR (by omega),aK,aR (by omega),aK,aR (by omega),aK,aR (by omega),aK,aR (by omega),aK,sR,hmx,ih,aI sm,sg,row.2.2 ho',aI (yP (by simp only[dK,j8];omega)),RI,hw,ih',aI sm,sg,A6,Em ho'];simp
def c7(e:Ex):Tx:=if c9 e=0 then gH e else[]
theorem Ej{e:Ex}(h:c9 e=0):dN e true=true:=by
 unfold c9 at h;split at h
 .cases h
 .split at h
  .assumption
  .cases h
theorem aGc{N:Nat}{e:Ex}(h:4*aT e<N)(hB:aT e<2^36):OQ N e.op e.num e.kids=some (c7 e):=by
 show(OS _ _ _ _:O).bind OR=_;unfold OS c7;rw[aI (O2 h (by omega)),O1 h (by omega)];by_cases hv:c9 e=0
 .have ih:mK N N e.op e.num e.kids 0 []=some ([]++cQ 0 e):=wW (N:=N) N e true 0 [] (Ej hv) (.inl ⟨by omega,by simp only[j9];omega⟩)
  rw[aR (λh=>h hv),aK,aJ hv,aI (show MO N e.op e.num e.kids 0 []=true by unfold MO;rw[ih];rfl),show MN N e.op e.num e.kids 0 []=cQ 0 e by unfold MN;rw[ih];rfl,iT (vU _)];rfl
 .rw[aQ hv,aX,aD hv];rfl
section
variable{N:Nat}{e:Ex}(h:4*aT e<N)(hB:aT e<2^36)
include h hB
theorem aGe:H8 N e.op e.num e.kids=true:=by unfold H8;rw[aGc h hB];rfl
theorem aGd:Az N e.op e.num e.kids=c7 e:=by unfold Az;rw[aGc h hB];rfl
end
end Go.Proofs
/- Texts of trees: what the reference prints. -/
namespace Go.Proofs
open Go Go.Ax Go.Ax.aA
theorem aJi{d:Int}(h0:0<=d)(h1:d<=9):eD (aC.wrap (48+d))=fF (48+d.toNat):=by
 rw[wr (by omega) (by omega)];show fF ((48+d)%256).toNat=_
 congr 1
 omega
theorem aBs(N:Nat):∀(m:Nat)(n:Int),0<=n->n<10^m->m<=18->1<=m->∀k,m<=k->mF N k n=some (Lib.decDigits n.toNat)
 |0,n,_,_,_,h,_,_=>by omega
 |m+1,n,h0,hb,hm,_,k,hk=>by
   match k,hk with
   |k+1,hk=>
     show(K3 (N,mF N k) n:O).bind KY=_;unfold K3;by_cases h10:n<10
     .rw[aQ h10,aX,aJi h0 (by omega),Lib.decDigits,dif_pos (by omega)]
      rfl
     .have hd:n.tdiv 10=n / 10:=Int.tdiv_eq_ediv_of_nonneg h0
      have hmo:n.tmod 10=n%10:=Int.tmod_eq_emod_of_nonneg h0;have hp:(10:Int)^(m+1)=10^m*10:=Int.pow_succ ..;have hp18:(10:Int)^m<=10^17:=by
       have:=Nat.pow_le_pow_right (n:=10) (by omega) (show m<=17 by omega)
       exact_mod_cast this
      have hm1:1<=m:=by
       rcases Nat.eq_zero_or_pos m with rfl|h
       .simp at hb;omega
       .exact h
      have h17:(10:Int)^17=100000000000000000:=by decide
      rw[aR h10,aK,cP,hd,hmo,wr (by omega) (by omega)];have ih:=aBs N m (n / 10) (by omega) (by omega) (by omega) hm1 k (by omega);have hlen:(Lib.decDigits (n / 10).toNat).length<=m:=by
       rw[Lib.decDigits_length];refine aLE hm1 ?_;have:((n / 10).toNat:Int)<((10^m:Nat):Int):=by rw[Int.toNat_of_nonneg (by omega)];push_cast;omega
       exact_mod_cast this
      have ih':(N,mF N k).2 (n / 10)=some (Lib.decDigits (n / 10).toNat):=ih;rw[ih',aJi (by omega) (by omega),aI sm,sg,cP,aI (aQ (by simp only[j8];omega))];rw[Lib.decDigits.eq_def n.toNat,dif_neg (by omega),show n.toNat / 10=(n / 10).toNat by omega,show n.toNat%10=(n%10).toNat by omega];rfl
theorem aO5{N:Nat}(hN:7<=N){n:Int}(h0:0<=n)(h1:n<=999999):KZ N n=true/\KX N n=Lib.decDigits n.toNat:=by
 have:=aBs N 6 n h0 (by omega) (by omega) (by omega) N (by omega);unfold KZ KX;rw[this];exact⟨rfl,rfl⟩
theorem aOO{N:Nat}{o:Int}(h:0<=o/\o<=10):KO N o=true/\Fq N o=(bW o:Int):=by
 have:o=0\/o=1\/o=2\/o=3\/o=4\/o=5\/o=6\/o=7\/o=8\/o=9\/o=10:=by omega
 rcases this with rfl|rfl|rfl|rfl|rfl|rfl|rfl|rfl|rfl|rfl|rfl <;> exact⟨rfl,rfl⟩
theorem aNp{N:Nat}{o:Int}(h:o=3\/o=4\/o=5\/o=6\/o=9\/o=10):KJ N o=true/\wI N o=[l7 o]:=by
 rcases h with rfl|rfl|rfl|rfl|rfl|rfl <;> exact⟨rfl,rfl⟩
theorem DC(x:Tx):(some (nI x):O).bind DB=some x:=rfl
theorem aBn(x:Tx):(some (AA x):O).bind Fu=some x:=rfl
theorem vG{x:Int}(h:x<=2^60):decide (x<=9223372036854775807)=true:=aQ (by omega)
theorem G2{N:Nat}(hN:7<=N):∀(n:Nat)(e:Ex)(root:Bool),dN e root=true->aT e<=2^50->
    (2*aT e<=n+1->(gP N n).1 e.op e.num e.kids=some (gH e))/\(2*aT e<=n->∀k:Nat,(gP N n).2 e.op e.num e.kids (k:Int)=some (cQ k e))
 |0,e,_,_,_=>by have:=size_pos e;exact⟨λh=>by omega,λh=>by omega⟩
 |n+1,.mk o a ks,root,ok,hB=>by
   have sz:=size_pos (.mk o a ks);have tl:=nZ _ _ root (bZ _) ok;have hop:(0<=o/\o<=10):=by rcases yG ok with⟨rfl,_⟩|⟨rfl,_⟩|⟨ho,_⟩|⟨ho,_⟩ <;> omega
   have l83:=aOO (N:=N) hop;refine⟨λh=>?_,λh k=>?_⟩
   .show(L2 (N,gP N n) _ o a ks:O).bind DB=_
    unfold L2;simp only[];rcases yG ok with⟨rfl,rfl,h0,h1⟩|⟨rfl,rfl,h0,h1⟩|⟨ho,q,rfl,hk⟩|⟨ho,q,q',rfl,hk,hk'⟩
    .have z:=aO5 (N:=N) hN h0 h1
     rw[aQ rfl,aX,aI z.1,z.2,DC,En]
    .rw[aR (by decide),aK,aQ rfl,aX,aJj h0 h1,DC,El]
    .have hs:aT (.mk o a [q])=1+aT q:=by simp[aT,dH]
     have hq:=nZ _ q false (bZ _) hk;have ih:=(G2 hN n q false hk (by omega)).2 (by omega);rcases ho with rfl|rfl
     .have ih:(gP N n).2 q.op q.num q.kids 3=some (cQ 3 q):=ih 3
      have ql:=mE (k:=3) (e:=q);rw[aR (by decide),aK,aR (by decide),aK,aQ rfl,aX,sR,ih,aI sm,sg,aI (vG (by omega)),DC,Is];rfl
     .have ih:(gP N n).2 q.op q.num q.kids 1=some (cQ 1 q):=ih 1
      have ql:=mE (k:=1) (e:=q);rw[aR (by decide),aK,aR (by decide),aK,aR (by decide),aK,aQ rfl,aX,sR,ih,aI sm,sg,aI (vG (by omega)),aI (vG (by simp only[dK,dD,j9];omega)),DC,Iq];rfl
    .have hs:aT (.mk o a [q,q'])=1+(aT q+aT q'):=by simp[aT,dH]
     have hq:=nZ _ q false (bZ _) hk;have hq':=nZ _ q' false (bZ _) hk';have ih:=(G2 hN n q false hk (by omega)).2 (by omega);have ih':=(G2 hN n q' false hk' (by omega)).2 (by omega);by_cases h7:o=7
     .subst h7
      have ih:(gP N n).2 q.op q.num q.kids 4=some (cQ 4 q):=ih 4;have ih':(gP N n).2 q'.op q'.num q'.kids 3=some (cQ 3 q'):=ih' 3;have ql:=mE (k:=4) (e:=q);have ql':=mE (k:=3) (e:=q');rw[aR (by decide),aK,aR (by decide),aK,aR (by decide),aK,aR (by decide),aK,aQ rfl,aX,sR,ih,aI sm,sg,aI (vG (by omega)),RI,ih',aI sm,sg,aI (vG (by simp only[dK,dD,j9];omega)),DC,Ir];simp
     .have ho':o=3\/o=4\/o=5\/o=6\/o=9\/o=10:=by omega
      have ih:=ih (max 1 (bW o));have ih':=ih' (bW o+1);have ql:=mE (k:=max 1 (bW o)) (e:=q);have ql':=mE (k:=bW o+1) (e:=q');have s84:=aNp (N:=N) ho';have hl3:bW o<=2:=by rcases ho' with rfl|rfl|rfl|rfl|rfl|rfl <;> decide
      have hw:aC.wrap (((bW o:Nat):Int)+1)=((bW o+1:Nat):Int):=by rw[wr (by omega) (by omega)];omega
      rw[aR (by omega),aK,aR (by omega),aK,aR (by omega),aK,aR (by omega),aK,aR (by omega),aK,aI l83.1,l83.2];unfold T5 G1 T9;simp only[];have fin:∀L:Int,L=((max 1 (bW o):Nat):Int)->((gx [q,q'] 0 λy10=>ck ((gP N n).2 y10.op y10.num y10.kids L).isSome <|ck (KJ N o) <|ck (decide (((((gP N n).2 y10.op y10.num y10.kids L).getD []).length:Int)+((wI N o).length:Int)<=9223372036854775807))<|
          gx [q,q'] 1 λy11=>ck ((gP N n).2 y11.op y11.num y11.kids (aC.wrap (((bW o:Nat):Int)+1))).isSome <|ck (decide (((((gP N n).2 y10.op y10.num y10.kids L).getD []++wI N o).length:Int)+((((gP N n).2 y11.op y11.num y11.kids (aC.wrap (((bW o:Nat):Int)+1))).getD []).length:Int)<=9223372036854775807))<|
          some (nI (((gP N n).2 y10.op y10.num y10.kids L).getD []++wI N o++((gP N n).2 y11.op y11.num y11.kids (aC.wrap (((bW o:Nat):Int)+1))).getD [])):O)).bind DB=some (gH (.mk o a [q,q'])):=λL hL=>by
       subst hL;rw[sR,ih,aI sm,sg,aI s84.1,s84.2,aI (vG (by simp only[j8];omega)),RI,hw,ih',aI sm,sg,aI (vG (by simp only[dK,j8];omega)),DC,Em ho'];simp
      by_cases hl0:bW o=0
      .rw[aQ (by omega),aX]
       exact fin 1 (by omega)
      .rw[aR (by omega),aK]
       exact fin _ (by omega)
   .have ih:(gP N n).1 o a ks=some (gH (.mk o a ks)):=(G2 hN n (.mk o a ks) root ok hB).1 (by omega)
    show(KW (N,gP N n) o a ks (k:Int):O).bind Fu=_;unfold KW;simp only[];rw[ih,aI sm,sg,aI l83.1,l83.2];by_cases hl:bW o<k
    .rw[aQ (by omega),aX,aI (vG (by omega)),aI (vG (by simp only[dK,j8];omega)),aBn,pU (show bW (Ex.op (.mk o a ks))<k from hl)]
     rfl
    .rw[aR (by omega),aK,aBn,iT (show k<=bW (Ex.op (.mk o a ks))from aMj.1 hl)]
theorem aGS{N:Nat}{e:Ex}(hN:7<=N)(h:4*aT e<N)(hB:aT e<2^36):Nx N e.op e.num e.kids=some (c7 e):=by
 show(Nz _ _ _ _:O).bind Ny=_;unfold Nz c7;rw[aI (OP (by omega) (by omega)),OO (by omega) (by omega)];by_cases hv:c9 e=0
 .have ih:(gP N N).1 e.op e.num e.kids=some (gH e):=(G2 hN N e true (Ej hv) (by omega)).1 (by omega)
  rw[aR (λh=>h hv),aK,aJ hv,aI (show LZ N e.op e.num e.kids=true by unfold LZ;rw[ih];rfl),show LX N e.op e.num e.kids=gH e by unfold LX;rw[ih];rfl];rfl
 .rw[aQ hv,aX,aD hv];rfl
section
variable{N:Nat}{e:Ex}(hN:7<=N)(h:4*aT e<N)(hB:aT e<2^36)
include hN h hB
theorem aGU:HV N e.op e.num e.kids=true:=by unfold HV;rw[aGS hN h hB];rfl
theorem aGT:Au N e.op e.num e.kids=c7 e:=by unfold Au;rw[aGS hN h hB];rfl
end
theorem aJu{N:Nat}(hN:70000<=N){e:Ex}(hs:aT e<=1000)(hv:c9 e=0):jZ N (c7 e)=some (e.op,e.num,e.kids,0,0):=by
 have tl:=nZ _ e true (bZ _) (Ej hv);unfold c7;rw[aJ hv];exact a5G hN (by omega) (a4v (aNO (Ej hv))) rfl hv
end Go.Proofs
