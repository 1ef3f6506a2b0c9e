/- The other reader; changed pages. Conditions are in the theorems. -/
import Derived.Test.YtpmhkjnnolpknaaDoorF5
import Derived.Test.YtpmhkjnnolpknaaDoorG6
import Derived.Test.YtpmhkjnnolpknaaDoorG9
import Derived.Test.YtpmhkjnnolpknaaDoorGb
open Bool renaming false_or->Dz,not_false->OY,not_true->B6
open Go.IntKind renaming i64->aA
open List renaming drop_eq_nil_of_le->fK,drop_zero->kJ,ext_getElem->V5,getElem?_eq_getElem->bJ,getElem?_eq_none->iV,getElem?_eq_some_iff->bU,getElem?_take->eN,getElem_mem->lF,length_set->gF,length_take->fJ,mem_append->jF,mem_of_getElem?->Dn,mem_of_mem_take->V4,nil_append->fR,take_length->xQ,take_of_length_le->oB
open Nat renaming le_antisymm->a1Y,le_of_not_lt->a1X,le_refl->cQ,le_trans->pK,min_eq_left->Dm
open Option renaming isSome_iff_exists->BU,map_some->iT
open UInt8 renaming ofNat->dV
/- A page with something changed is a page that is hardly larger. -/
namespace Go.Proofs
open Go Go.Ax Go.Ax.aB Go.RowKit Go.Ab
def gV(m n:Nat)(p:List (List UInt8)):Prop:=p.length<=m/\∀l∈p,l.length<=n
theorem gV.small{m n:Nat}{p:List (List UInt8)}(h:gV m n p)(hm:m<90)(hn:n<90):Small p:=⟨by have:=h.1;omega,λl hl=>by have:=h.2 l hl;omega⟩
theorem gV.mono{m n m' n':Nat}{p:List (List UInt8)}(h:gV m n p)(hm:m<=m')(hn:n<=n'):gV m' n' p:=⟨pK h.1 hm,λl hl=>pK (h.2 l hl) hn⟩
theorem gV.set{m n k:Nat}{p:List (List UInt8)}{l:List UInt8}(h:gV m n p)(hl:l.length<=n):gV m n (p.set k l):=⟨by rw[gF];exact h.1,λl' hl'=>by
 rcases List.mem_or_eq_of_mem_set hl' with h1|h1
 .exact h.2 l' h1
 .rw[h1];exact hl⟩
theorem gV.app{m n m':Nat}{p q:List (List UInt8)}(h:gV m n p)(h':gV m' n q):gV (m+m') n (p++q):=⟨by rw[List.length_append];have:=h.1;have:=h'.1;omega,λl hl=>by
 rcases jF.1 hl with h1|h1
 .exact h.2 l h1
 .exact h'.2 l h1⟩
theorem aEC{p:List (List UInt8)}{i:Nat}{y:List UInt8}(h:p[i]?=some y):p.take i++[[]++y]=p.take (i+1):=by
 obtain⟨hi,rfl⟩:=bU.1 h;rw[fR,List.take_succ_eq_append_getElem hi]
theorem aC7{m n:Nat}{p:List (List UInt8)}(hp:gV m n p)(hm:m<=88)(hn:n<=88)(a h b:Int)(k0:Int×Int×Int×List (List UInt8)->O)(k1 k2:Unit->O):∀(f i:Nat),p.length-i<f->i<=p.length->A7 100 f (p,a,h,b,(i:Int),p.take i) k0 k1 k2=k0 (a,h,b,p)
 |0,i,h,_=>by omega
 |f+1,i,hf,hi=>by
   show Lg 100 _ _ p a h b (i:Int) (p.take i)=_;unfold Lg;have hl:=hp.1;by_cases hlt:i<p.length
   .have hg:=bJ hlt
    have hr:=hp.2 _ (lF hlt);rw[aO (show(i:Int)<(p.length:Int)by omega),aW,dA hg,aL (eJ (by simp;omega) (by simp;omega)),aL (eJ (by simp;omega) (by simp;omega)),aEC hg,wr (by omega) (by omega)];exact aC7 hp hm hn a h b k0 k1 k2 f (i+1) (by omega) (by omega)
   .rw[bA (show ¬ (i:Int)<(p.length:Int)by omega),aT,oB (by omega)]
theorem aDo{m n:Nat}{p:List (List UInt8)}(hp:gV m n p)(hm:m<=88)(hn:n<=88)(a h b:Int)(k0:Int×Int×Int×List (List UInt8)->O)(k1 k2:Unit->O):∀(f i:Nat),p.length-i<f->i<=p.length->s7 100 f (p,a,h,b,(i:Int),p.take i) k0 k1 k2=k0 (a,h,b,p)
 |0,i,h,_=>by omega
 |f+1,i,hf,hi=>by
   show Cs 100 _ _ p a h b (i:Int) (p.take i)=_;unfold Cs;have hl:=hp.1;by_cases hlt:i<p.length
   .have hg:=bJ hlt
    have hr:=hp.2 _ (lF hlt);rw[aO (show(i:Int)<(p.length:Int)by omega),aW,dA hg,aL (eJ (by simp;omega) (by simp;omega)),aL (eJ (by simp;omega) (by simp;omega)),aEC hg,wr (by omega) (by omega)];exact aDo hp hm hn a h b k0 k1 k2 f (i+1) (by omega) (by omega)
   .rw[bA (show ¬ (i:Int)<(p.length:Int)by omega),aT,oB (by omega)]
theorem Cb(x:List (List UInt8)):(some (sQ x):O).bind Ca=some x:=rfl
theorem aVs(x:List (List UInt8)):(some (Cq x):O).bind Cp=some x:=rfl
theorem aWZ{l:List UInt8}{j:Int}(h0:0<=j)(h1:j<=l.length):dX l.length none (some j)=true/\(bW l none (some j)).length<=l.length:=by
 constructor
 .exact aO ⟨h0,h1⟩
 .show(l.take j.toNat).length<=_
  rw[fJ];exact Nat.min_le_right _ _
theorem OE{α:Type}{l:List α}{v:Int}(h0:0<=v)(h1:v<l.length):∃y,l[v.toNat]?=some y:=⟨_,bJ (by omega)⟩
theorem aFg(x:Int):iH (aA.wrap x):=by
 unfold iH;rw[IntKind.wrap_i64];omega
theorem aSr{m n:Nat}{p:List (List UInt8)}(hp:gV m n p)(hm:m<=87)(hn:n<=87)(a h b:Int):C9 100 p a h b=(Lf 100 (λ_ a h b _ _ k=>k a h b p) p a h b).bind Ca:=
 aY (λz:O=>z.bind Ca) (aC7 hp (by omega) (by omega) a h b _ _ _ 100 0 (by have:=hp.1;omega) (by omega))
theorem aVt{m n:Nat}{p:List (List UInt8)}(hp:gV m n p)(hm:m<=87)(hn:n<=87)(a h b:Int):Fh 100 p a h b=(Mc 100 (λ_ a h b _ _ k=>k a h b p) p a h b).bind Cp:=
 aY (λz:O=>z.bind Cp) (aDo hp (by omega) (by omega) a h b _ _ _ 100 0 (by have:=hp.1;omega) (by omega))
theorem chg{m n:Nat}{p:List (List UInt8)}(hp:gV m n p)(hm:m<=87)(hn:n<=87){a h b:Int}(ha:iH a)(hh:iH h)(hb:iH b):∃q,(C9 100 p a h b=some q\/(C9 100 p a h b=none/\Fh 100 p a h b=some q))/\gV (m+1) (n+1) q:=by
 rw[aSr hp hm hn,aVt hp hm hn];have hl:=hp.1;have hq:=hp.mono (Nat.le_succ m) (Nat.le_succ n);unfold Lf Mc;simp only[];by_cases h0:p.length=0
 .rw[aO (show(p.length:Int)=0 by omega),aW]
  exact⟨p,.inl (Cb p),hq⟩
 rw[bA (show ¬ (p.length:Int)=0 by omega),aT,aT];have hi:=aFg (a.tdiv 16);simp only[aL (Li 100 ha),aL (Li 100 hh),aL (Li 100 hb),aL (Li 100 hi),Lh 100 ha,Lh 100 hh,Lh 100 hb,Lh 100 hi,e9];obtain⟨v0,v1⟩:=Gu (n:=a) (m:=(p.length:Int)) (by omega);generalize pD a (p.length:Int)=v at v0 v1 ⊢;have hv:decide ((0:Int)<=v/\v<(p.length:Int))=true:=aO ⟨v0,v1⟩;obtain⟨l,hg⟩:=OE v0 v1;have hll:l.length<=n:=hp.2 l (Dn hg);simp only[aL hv,kF hg];obtain⟨j0,j1⟩:=Gu (n:=aA.wrap (a.tdiv 16)) (m:=max (l.length:Int) 1) (by omega);generalize pD (aA.wrap (a.tdiv 16)) (max (l.length:Int) 1)=j at j0 j1 ⊢;generalize pD h 6=c;by_cases c0:c=0
 .rw[aO c0,aW,aW]
  have e1:aA.wrap (v+1)=v+1:=wr (by omega) (by omega);rw[e1];have s1:dX p.length none (some v)=true:=aO ⟨v0,by omega⟩;have s2:dX p.length (some (v+1)) none=true:=aO ⟨by omega,by omega⟩;have e2:jX p.length (some v)-0=v.toNat:=rfl;have e3:jX p.length none-jV (some (v+1))=p.length-(v+1).toNat:=rfl;have e4:jV (some (v+1))=(v+1).toNat:=rfl;rw[aL s1,aL s2,e2,e3,e4,aL (aO (by omega)),aL (aO (by omega)),aL (eJ (by simp;omega) (by simp;omega))];refine⟨_,.inl (Cb _),?_⟩;refine⟨by simp;omega,λx hx=>?_⟩;rcases jF.1 hx with h1|h1
  .exact hq.2 x (V4 h1)
  .exact hq.2 x (List.mem_of_mem_drop (V4 h1))
 rw[bA c0,aT,aT];by_cases c1:c=1
 .rw[aO c1,aW,aW,aL (eJ (by simp;omega) (by simp;omega))]
  exact⟨_,.inl (Cb _),(hp.app (m':=1) (q:=[l]) ⟨by simp,λx hx=>by rw[List.mem_singleton.1 hx];exact hll⟩).mono (by omega) (by omega)⟩
 rw[bA c1,aT,aT];by_cases c2:c=2
 .rw[aO c2,aW,aW]
  obtain⟨s1,s2⟩:=aWZ (l:=l) (j:=min j (l.length:Int)) (by omega) (by omega);rw[aL s1];exact⟨_,.inl (Cb _),hq.set (by omega)⟩
 rw[bA c2,aT,aT];by_cases c3:c=3
 .rw[aO c3,aW,aW,aL (eJ (by simp;omega) (by simp;omega))]
  exact⟨_,.inl (Cb _),hq.set (by simp;omega)⟩
 rw[bA c3,aT,aT];by_cases cj:j<(l.length:Int)
 .rw[aO cj,aW,aW]
  obtain⟨b0,b1⟩:=Gu (n:=b) (m:=16) (by omega);generalize pD b 16=d at b0 b1 ⊢;obtain⟨y,hy⟩:=OE (l:=[(48:UInt8),(49:UInt8),(50:UInt8),(51:UInt8),(52:UInt8),(53:UInt8),(54:UInt8),(55:UInt8),(56:UInt8),(57:UInt8),(95:UInt8),(43:UInt8),(45:UInt8),(42:UInt8),(61:UInt8),(91:UInt8)]) b0 b1;obtain⟨z,hz⟩:=OE j0 cj;simp only[D3 b0 hy,aL (Rm (Rn y)),D3 j0 hz,kF hz,aL (aO (show(0:Int)<=j/\j<(l.length:Int)from⟨j0,cj⟩))];exact⟨_,.inr ⟨rfl,aVs _⟩,hq.set (by rw[gF];omega)⟩
 .rw[bA cj,aT,aT]
  exact⟨p,.inl (Cb p),hq⟩
def DZ(N:Nat)(p:List (List UInt8))(a h b:Int):Bool:=vX N p a h b||Fi N p a h b
def mO(N:Nat)(p:List (List UInt8))(a h b:Int):List (List UInt8):=if vX N p a h b=true then Lc N p a h b else M8 N p a h b
def aF7(N:Nat):bR:=E4 (.sl (.sl .u8)) (.i .i64) (.i .i64) (.i .i64) λp a h b=>(DZ N p a h b,(.e (.sl (.sl .u8)) (mO N p a h b),[]))
theorem aYo(N:Nat):aX Tryd.prog 26 (aF7 N):=aX.e4 (λp a h b hp=>by
 have hp:(vX N p a h b||Fi N p a h b)=true:=hp;show dO Tryd.prog 26 _ _ (X.D (.e (.sl (.sl .u8)) (mO N p a h b))) (HA []);unfold mO;by_cases hw:vX N p a h b=true
 .rw[aJ hw]
  obtain⟨d,hd⟩:=BU.1 hw;have e:Lc N p a h b=d:=by unfold Lc;rw[hd];rfl
  rw[e];exact aSo (aSq N) hd
 .rw[aH hw]
  have hv:Fi N p a h b=true:=by
   rcases Bool.or_eq_true_iff.1 hp with h1|h1
   .exact absurd h1 hw
   .exact h1
  obtain⟨d,hd⟩:=BU.1 hv;have e:M8 N p a h b=d:=by unfold M8;rw[hd];rfl
  rw[e];exact aVo (aVr N) hd)
theorem aF8{m n:Nat}{p:List (List UInt8)}(hp:gV m n p)(hm:m<=87)(hn:n<=87){a h b:Int}(ha:iH a)(hh:iH h)(hb:iH b):DZ 100 p a h b=true/\gV (m+1) (n+1) (mO 100 p a h b):=by
 obtain⟨q,h1|⟨h1,h2⟩,hq⟩:=chg hp hm hn ha hh hb
 .have hw:vX 100 p a h b=true:=by unfold vX;rw[h1];rfl
  unfold DZ mO;rw[hw,aJ rfl];refine⟨rfl,?_⟩;unfold Lc;rw[h1];exact hq
 .have hw:vX 100 p a h b=false:=by unfold vX;rw[h1];rfl
  have hv:Fi 100 p a h b=true:=by unfold Fi;rw[h2];rfl
  unfold DZ mO;rw[hw,hv,aH (by simp)];refine⟨rfl,?_⟩;unfold M8;rw[h2];exact hq
end Go.Proofs
/- The other reader's numbers. -/
namespace Go.Proofs
open Go Go.Ax Go.Ax.aB
def findD(c:UInt8):Nat->Nat->Option Nat
 |0,_=>none
 |k+1,d=>if c=dG (dV (48+d))then some d else findD c k (d+1)
theorem aZl:((List.range 256).all λn=>decide (findD (dV n) 10 0=tJ (dV n)))=true:=by decide +kernel
theorem aZk(c:UInt8):findD c 10 0=tJ c:=by
 have h:=List.all_eq_true.1 aZl c.toNat (List.mem_range.2 c.toNat_lt);rw[UInt8.ofNat_toNat]at h;exact cT h
theorem XN{l:List UInt8}{i:Nat}{c:UInt8}(hg:l[i]?=some c)(to n m:Int)(k0:List UInt8×Int×Int×Int×Int×Bool->O)(k1 k2:Unit->O):∀(f d:Nat),10-d<f->d<=10->
    uI 100 f (l,to,n,m,(i:Int),true,(d:Int)) k0 k1 k2=k0 (l,to,n,m,(i:Int),true)
 |0,d,h,_=>by omega
 |f+1,d,h,hd=>by
   show Bt 100 _ _ l to (i:Int) n m true (d:Int)=_;unfold Bt;by_cases hlt:d<10
   .rw[aO (show(d:Int)<10 by omega),aW]
    show(gc false 0 l (i:Int) λy27=>ck true <|br false _ _)=_;rw[lY,e9,aT,wr (by omega) (by omega)];exact XN hg to n m k0 k1 k2 f (d+1) (by omega) (by omega)
   .rw[bA (show ¬ (d:Int)<10 by omega),aT]
theorem XP{l:List UInt8}{i:Nat}{c:UInt8}(hg:l[i]?=some c)(to:Int){n m:Int}(hn0:0<=n)(hn:n<=10000000)(hm0:0<=m)(hm:m<=100)(k0:List UInt8×Int×Int×Int×Int×Bool->O)(k1 k2:Unit->O):∀(f d:Nat),10-d<f->d<=10->
    uI 100 f (l,to,n,m,(i:Int),false,(d:Int)) k0 k1 k2=match findD c (10-d) d with|none=>k0 (l,to,n,m,(i:Int),false)|some v=>k0 (l,to,10*n+v,m+1,(i:Int),true)
 |0,d,h,_=>by omega
 |f+1,d,h,hd=>by
   show Bt 100 _ _ l to (i:Int) n m false (d:Int)=_;unfold Bt;by_cases hlt:d<10
   .have hu:=aWA hlt
    have h31:=Rn (dV (48+d));have e10:10-d=(10-(d+1))+1:=by omega
    rw[aO (show(d:Int)<10 by omega),aW,hu];show(gc true 0 l (i:Int) λy27=>ck (qI 100 (dV (48+d))) <|br (decide (y27=dZ 100 (dV (48+d)))) _ _)=_;rw[o5,dA hg,aL (Rm h31),Rl h31,e10];unfold findD;by_cases hc:c=dG (dV (48+d))
    .rw[aO hc,aW,aJ hc]
     have e1:aA.wrap (aA.wrap (10*n)+(d:Int))=10*n+d:=by rw[wr (x:=10*n) (by omega) (by omega),wr (by omega) (by omega)]
     have e2:aA.wrap (m+1)=m+1:=wr (by omega) (by omega);have e3:aA.wrap ((d:Int)+1)=((d+1:Nat):Int):=by rw[wr (by omega) (by omega)];omega
     rw[e1,e2,e3];exact XN hg to _ _ k0 k1 k2 f (d+1) (by omega) (by omega)
    .rw[bA hc,aT,aH hc]
     have e3:aA.wrap ((d:Int)+1)=((d+1:Nat):Int):=by rw[wr (by omega) (by omega)];omega
     rw[e3];exact XP hg to hn0 hn hm0 hm k0 k1 k2 f (d+1) (by omega) (by omega)
   .rw[bA (show ¬ (d:Int)<10 by omega),aT,show 10-d=0 by omega]
    rfl
theorem PK{l:List UInt8}{to:Nat}(ht:to<=l.length)(hl:l.length<95)(k0:Int×Bool->O)(k1:Int×Int->O)(k2:Unit->O):∀(f i:Nat)(n:Int)(m:Nat),to-i<f->i<200->m<=6->0<=n->n<((10^m:Nat):Int)->
    rR 100 f (l,(to:Int),n,(m:Int),(i:Int)) k0 k1 k2=match nT ((l.take to).drop i) n m with|none=>k0 (0,false)|some r=>k1 (r.1,(r.2:Int))
 |0,i,n,m,h,_,_,_,_=>by omega
 |f+1,i,n,m,h,hi,hm,h0,h1=>by
   show IF 100 _ _ _ _ l (to:Int) n (m:Int) (i:Int)=_;unfold IF;by_cases hlt:i<to
   .have hli:i<l.length:=by omega
    have hg:l[i]?=some l[i]:=bJ hli;have hg':(l.take to)[i]?=some l[i]:=by rw[eN,aJ hlt];exact hg
    have e:aA.wrap ((i:Int)+1)=((i+1:Nat):Int):=by rw[wr (by omega) (by omega)];omega
    rw[aO (show(i:Int)<(to:Int)by omega),aW,dA hg,iS hg',e];show br (decide (l[i]=0)) _ _=match(if l[i]=0 then nT ((l.take to).drop (i+1)) n m else match tJ l[i]with|none=>none|some d=>if m=6 then none else nT ((l.take to).drop (i+1)) (10*n+d) (m+1))with|none=>k0 (0,false)|some r=>k1 (r.1,(r.2:Int))
    by_cases hz:l[i]=0
    .rw[aO hz,aW,aJ hz]
     exact PK ht hl k0 k1 k2 f (i+1) n m (by omega) (by omega) hm h0 h1
    .rw[bA hz,aT,aH hz]
     have hp:10^m<=10^6:=Nat.pow_le_pow_right (by omega) (by omega);have h6e:10^6=1000000:=rfl;have hs:10^(m+1)=10^m*10:=Nat.pow_succ 10 m;have hb:n<=10000000:=by omega
     unfold Hx;have hd:=XP hg (to:Int) h0 hb (m:=(m:Int)) (by omega) (by omega) (λy=>br (!y.2.2.2.2.2||decide (6<y.2.2.2.1)) (k0 (0,false)) (rR 100 f (y.1,y.2.1,y.2.2.1,y.2.2.2.1,aA.wrap (y.2.2.2.2.1+1)) k0 k1 k2)) (λ_=>none) (λ_=>none) 100 0 (by omega) (by omega);refine hd.trans ?_;rw[show 10-0=10 from rfl,aZk];cases hc:tJ l[i]with
     |none=>rfl
     |some d=>
       have hd9:=aGW hc;show br (false||decide (6<(m:Int)+1)) (k0 (0,false)) (rR 100 f (l,(to:Int),10*n+(d:Int),(m:Int)+1,aA.wrap ((i:Int)+1)) k0 k1 k2)=match(if m=6 then none else nT ((l.take to).drop (i+1)) (10*n+d) (m+1))with |none=>k0 (0,false) |some r=>k1 (r.1,(r.2:Int))
       rw[Dz];by_cases h6:m=6
       .rw[aO (by omega),aW,aJ h6]
       .rw[bA (by omega),aT,aH h6,e]
        exact PK ht hl k0 k1 k2 f (i+1) (10*n+d) (m+1) (by omega) (by omega) (by omega) (by omega) (by omega)
   .rw[bA (show ¬ (i:Int)<(to:Int)by omega),aT,fK (by rw[fJ];omega)]
    rfl
theorem PL{l:List UInt8}{fr to:Nat}(hf:fr<200)(ht:to<=l.length)(hl:l.length<95):yG 100 l (fr:Int) (to:Int)=some (eI ((l.take to).drop fr)):=by
 unfold yG XQ PM PH eI;have h:=PK ht hl (λy=>some (yH y.1 y.2)) (λy=>some (yH y.1 (decide ((0:Int)<y.2)))) (λ_=>none) 100 fr 0 0 (by omega) hf (by omega) (by omega) (by decide);refine(aY (λz:O=>z.bind Hu) h).trans ?_;cases nT ((l.take to).drop fr) 0 0 with
 |none=>rfl
 |some r=>rfl
end Go.Proofs
/- The other reader's pages: the same apart from blanks at the ends of lines and blank lines at the end. -/
namespace Go.Proofs
open Go Go.Ax Go.Ax.aB
def cellAt(p:List (List UInt8))(i j:Nat):UInt8:=(((p[i]?).getD [])[j]?).getD 0
theorem aDy(l:List UInt8):∀n i,iX l n<=i->i<n->l[i]?=some 0
 |0,i,_,h=>by omega
 |n+1,i,h1,h2=>by
   unfold iX at h1;split at h1
   .rename_i h
    by_cases hi:i=n
    .rw[hi];exact h
    .exact aDy l n i h1 (by omega)
   .omega
theorem Fm(l:List UInt8)(j:Nat):((eV l)[j]?).getD 0=(l[j]?).getD 0:=by
 unfold eV;rw[eN];split
 .rfl
 .rename_i h
  by_cases hj:j<l.length
  .rw[aDy l l.length j (by omega) hj];rfl
  .rw[iV (by omega)]
theorem aDz(l:List UInt8):∀n,iX l n≠0->l[iX l n-1]?≠some 0
 |0,h=>absurd rfl h
 |n+1,h=>by
   unfold iX at h ⊢;split
   .rename_i h1
    rw[aJ h1]at h;exact aDz l n h
   .rename_i h1
    exact h1
theorem aWG(l:List UInt8):(eV l).length=iX l l.length:=by
 unfold eV;rw[fJ];exact Dm (Mh l _)
theorem aDx{l l':List UInt8}(h:∀j:Nat,(l[j]?).getD 0=(l'[j]?).getD 0):(eV l).length<=(eV l').length:=by
 refine a1X λhlt=>?_
 have hl:=aWG l;have hk:=aDz l l.length (by omega);have h1:=h (iX l l.length-1);rw[<-Fm l',iV (l:=eV l') (by omega)]at h1;have hb:iX l l.length-1<l.length:=by have:=Mh l l.length;omega
 rw[bJ hb]at h1 hk;exact hk (aY some h1)
theorem aWH{l l':List UInt8}(h:∀j:Nat,(l[j]?).getD 0=(l'[j]?).getD 0):eV l=eV l':=by
 have hn:(eV l).length=(eV l').length:=a1Y (aDx h) (aDx (l:=l') (l':=l) λj=>(h j).symm);apply V5 hn;intro j h1 h2;have e:=h j;rw[<-Fm l,<-Fm l',bJ h1,bJ h2]at e;exact e
theorem aGG(q:List (List UInt8)):∀n,lZ q n≠0->q[lZ q n-1]?≠some []
 |0,h=>absurd rfl h
 |n+1,h=>by
   unfold lZ at h ⊢;split
   .rename_i h1
    rw[aJ h1]at h;exact aGG q n h
   .rename_i h1
    exact h1
theorem aWw(p:List (List UInt8)):(fP p).length=lZ (p.map eV) p.length:=by
 unfold fP;rw[fJ,List.length_map];exact Dm (Uq _ _)
theorem aE9{a b:List (List UInt8)}(h:∀i:Nat,eV ((a[i]?).getD [])=eV ((b[i]?).getD [])):(fP a).length<=(fP b).length:=by
 refine a1X λhlt=>?_
 have hl:=aWw a;have hk:=aGG (a.map eV) a.length (by omega);have h1:=h (lZ (a.map eV) a.length-1);rw[<-GK b,iV (l:=fP b) (by omega)]at h1;have hb:lZ (a.map eV) a.length-1<a.length:=by have:=Uq (a.map eV) a.length;omega
 rw[List.getElem?_map]at hk;rw[bJ hb]at h1 hk;exact hk (aY some h1)
theorem aWx{a b:List (List UInt8)}(h:∀i:Nat,eV ((a[i]?).getD [])=eV ((b[i]?).getD [])):fP a=fP b:=by
 have hn:(fP a).length=(fP b).length:=a1Y (aE9 h) (aE9 (a:=b) (b:=a) λi=>(h i).symm);apply V5 hn;intro j h1 h2;have e:=h j;rw[<-GK a,<-GK b,bJ h1,bJ h2]at e;exact e
theorem aEa{a b:List (List UInt8)}:fP a=fP b ↔ ∀i j,cellAt a i j=cellAt b i j:=by
 constructor
 .intro h i j
  have e:=GK a i;rw[h,GK b i]at e;unfold cellAt;rw[<-Fm,<-Fm ((b[i]?).getD []),e]
 .intro h
  exact aWx λi=>aWH (l:=(a[i]?).getD []) (l':=(b[i]?).getD []) λj=>h i j
theorem XD(N:Nat)(p:List (List UInt8))(i j:Nat):Br N p (i:Int) (j:Int)=some (cellAt p i j):=by
 unfold Br XE PF cellAt;rw[bA (show ¬ (i:Int)<0 by omega),bA (show ¬ (j:Int)<0 by omega),Dz,Bool.or_false];by_cases hi:i<p.length
 .have hg:=bJ hi
  rw[bA (show ¬ (p.length:Int)<=(i:Int)by omega),aT,dA hg,hg];by_cases hj:j<p[i].length
  .have hg2:=bJ hj
   rw[bA (show ¬ (p[i].length:Int)<=(j:Int)by omega),aT,dA hg2];show _=some (((p[i])[j]?).getD 0);rw[hg2];rfl
  .rw[aO (show(p[i].length:Int)<=(j:Int)by omega),aW]
   show _=some (((p[i])[j]?).getD 0);rw[iV (by omega)];rfl
 .rw[aO (show(p.length:Int)<=(i:Int)by omega),aW,iV (l:=p) (i:=i) (by omega)]
  rfl
theorem XC{N:Nat}{p:List (List UInt8)}{i j:Nat}:Ht N p (i:Int) (j:Int)=true:=q9 (XD N p i j)
theorem XB{N:Nat}{p:List (List UInt8)}{i j:Nat}:EU N p (i:Int) (j:Int)=cellAt p i j:=by unfold EU;rw[XD];rfl
theorem Zt(a b:List (List UInt8))(x2:Bool)(i n:Nat)(hn:n<95)(k0:Bool->O)(k1:List (List UInt8)×List (List UInt8)×Bool×Int->O)(k2:Unit->O):∀(f j:Nat),n-j<f->j<=n->
    ((∀j',j<=j'->j'<n->cellAt a i j'=cellAt b i j')->u7 100 f (a,b,x2,(i:Int),(n:Int),(j:Int)) k0 k1 k2=k1 (a,b,x2,(i:Int)))/\((¬ ∀j',j<=j'->j'<n->cellAt a i j'=cellAt b i j')->u7 100 f (a,b,x2,(i:Int),(n:Int),(j:Int)) k0 k1 k2=k0 false)
 |0,j,h,_=>by omega
 |f+1,j,h,hj=>by
   show(_->Eo 100 _ _ _ a b x2 (i:Int) (n:Int) (j:Int)=_)/\(_->Eo 100 _ _ _ a b x2 (i:Int) (n:Int) (j:Int)=_);unfold Eo;by_cases hlt:j<n
   .have e:aA.wrap ((j:Int)+1)=((j+1:Nat):Int):=by rw[wr (by omega) (by omega)];omega
    have ih:=Zt a b x2 i n hn k0 k1 k2 f (j+1) (by omega) (by omega);rw[aO (show(j:Int)<(n:Int)by omega),aW,aL XC,aL XC,XB,XB,e];by_cases hc:cellAt a i j=cellAt b i j
    .rw[bA (show ¬ cellAt a i j≠cellAt b i j from λh=>h hc),aT]
     refine⟨λhall=>ih.1 λj' h1 h2=>hall j' (by omega) h2,λhnot=>ih.2 λhall=>hnot λj' h1 h2=>?_⟩;by_cases hj':j'=j
     .rw[hj'];exact hc
     .exact hall j' (by omega) h2
    .rw[aO (show cellAt a i j≠cellAt b i j from hc),aW]
     exact⟨λhall=>absurd (hall j (cQ _) hlt) hc,λ_=>rfl⟩
   .rw[bA (show ¬ (j:Int)<(n:Int)by omega),aT]
    exact⟨λ_=>rfl,λhnot=>absurd (λj' h1 h2=>absurd h2 (by omega)) hnot⟩
theorem Nz{p:List (List UInt8)}{i j:Nat}(h:∀l,p[i]?=some l->l.length<=j):cellAt p i j=0:=by
 unfold cellAt;cases hp:p[i]? with
 |none=>rfl
 |some l=>
   show(l[j]?).getD 0=0;rw[iV (h l hp)];rfl
theorem Zs{a b:List (List UInt8)}(ha:Small a)(hb:Small b)(x2:Bool)(k0:Bool->O)(k1 k2:Unit->O):∀(f i:Nat),92-i<f->i<=92->
    ((∀i' j,i<=i'->cellAt a i' j=cellAt b i' j)->nO 100 f (a,b,x2,(i:Int)) k0 k1 k2=k1 ())/\((¬ ∀i' j,i<=i'->cellAt a i' j=cellAt b i' j)->nO 100 f (a,b,x2,(i:Int)) k0 k1 k2=k0 false)
 |0,i,h,_=>by omega
 |f+1,i,h,hi=>by
   show(_->En 100 _ _ _ _ _ _ a b x2 (i:Int)=_)/\(_->En 100 _ _ _ _ _ _ a b x2 (i:Int)=_);unfold En;have la:=ha.1;have lb:=hb.1;by_cases hlt:i<a.length\/i<b.length
   .have hd:(decide ((i:Int)<(a.length:Int))||decide ((i:Int)<(b.length:Int)))=true:=by
     rcases hlt with h1|h1
     .rw[aO (by omega),Bool.true_or]
     .rw[aO (show(i:Int)<(b.length:Int)by omega),Bool.or_true]
    rw[hd,aW];have e:aA.wrap ((i:Int)+1)=((i+1:Nat):Int):=by rw[wr (by omega) (by omega)];omega
    -- the width of both lines
    obtain⟨n1,hn1,hw1,e1⟩:∃n1:Nat,n1<90/\(∀l,a[i]?=some l->l.length<=n1)/\∀(k:List (List UInt8)->List (List UInt8)->Bool->Int->Int->O),Jj 100 a b x2 (i:Int) 0 k=k a b x2 (i:Int) (n1:Int):=by
     by_cases h1:i<a.length
     .have hg:=bJ h1
      refine⟨a[i].length,ha.2 _ (lF h1),λl hl=>(by rw[hg]at hl;cases hl;exact cQ _),λk=>?_⟩;show CQ 100 _ a b x2 (i:Int) 0=_;unfold CQ;rw[aO (by omega),aW,dA hg]
     .refine⟨0,by omega,λl hl=>(by rw[iV (by omega)]at hl;cases hl),λk=>?_⟩
      show CQ 100 _ a b x2 (i:Int) 0=_;unfold CQ;rw[bA (by omega),aT];rfl
    obtain⟨n2,hn2,hw2,hw3,e2⟩:∃n2:Nat,n2<90/\n1<=n2/\(∀l,b[i]?=some l->l.length<=n2)/\∀(k:List (List UInt8)->List (List UInt8)->Bool->Int->Int->O),Ji 100 a b x2 (i:Int) (n1:Int) k=k a b x2 (i:Int) (n2:Int):=by
     by_cases h1:i<b.length
     .have hg:=bJ h1
      have hs:=hb.2 _ (lF h1);refine⟨max n1 b[i].length,by omega,by omega,λl hl=>(by rw[hg]at hl;cases hl;omega),λk=>?_⟩;show CP 100 _ a b x2 (i:Int) (n1:Int)=_;unfold CP;rw[aO (by omega),aW,dA hg,show max (n1:Int) (b[i].length:Int)=((max n1 b[i].length:Nat):Int)by omega]
     .refine⟨n1,hn1,cQ _,λl hl=>(by rw[iV (by omega)]at hl;cases hl),λk=>?_⟩
      show CP 100 _ a b x2 (i:Int) (n1:Int)=_;unfold CP;rw[bA (by omega),aT]
    rw[e1,e2];have hout:∀j,n2<=j->cellAt a i j=cellAt b i j:=λj hj=>by
     rw[Nz λl hl=>pK (hw1 l hl) (by omega),Nz λl hl=>pK (hw3 l hl) (by omega)]
    have hin:=Zt a b x2 i n2 (by omega) (λy=>k0 y) (λy=>nO 100 f (y.1,y.2.1,y.2.2.1,aA.wrap (y.2.2.2+1)) k0 k1 k2) (λ_=>none) 100 0 (by omega) (by omega);have ih:=Zs ha hb x2 k0 k1 k2 f (i+1) (by omega) (by omega);by_cases hrow:∀j',0<=j'->j'<n2->cellAt a i j'=cellAt b i j'
    .have hr:=hin.1 hrow
     rw[e]at hr;have hr2:Em 100 a b x2 (i:Int) (n2:Int) 0 (λz68=>k0 z68) (λz69 z70 z71 z72=>nO 100 f (z69,z70,z71,aA.wrap (z72+1)) k0 k1 k2)=nO 100 f (a,b,x2,((i+1:Nat):Int)) k0 k1 k2:=hr;refine⟨λhall=>hr2.trans (ih.1 λi' j h1=>hall i' j (by omega)),λhnot=>hr2.trans (ih.2 λhall=>hnot λi' j h1=>?_)⟩;by_cases hi':i'=i
     .rw[hi']
      by_cases hj:j<n2
      .exact hrow j (by omega) hj
      .exact hout j (by omega)
     .exact hall i' j (by omega)
    .have hr:=hin.2 hrow
     have hr2:Em 100 a b x2 (i:Int) (n2:Int) 0 (λz68=>k0 z68) (λz69 z70 z71 z72=>nO 100 f (z69,z70,z71,aA.wrap (z72+1)) k0 k1 k2)=k0 false:=hr;exact⟨λhall=>absurd (λj' _ _=>hall i j' (cQ _)) hrow,λ_=>hr2⟩
   .rw[bA (by omega),bA (by omega),Dz,aT]
    refine⟨λ_=>rfl,λhnot=>absurd (λi' j h1=>?_) hnot⟩;rw[Nz λl hl=>(by rw[iV (by omega)]at hl;cases hl),Nz λl hl=>(by rw[iV (by omega)]at hl;cases hl)]
theorem aNp{a b:List (List UInt8)}(ha:Small a)(hb:Small b):CL 100 a b=some (decide (fP a=fP b)):=by
 unfold CL Zu Qk Qf;have h:=Zs ha hb false (λy=>some (zS y)) (λ_=>some (zS true)) (λ_=>none) 100 0 (by omega) (by omega);by_cases hc:∀i' j,0<=i'->cellAt a i' j=cellAt b i' j
 .refine(aY (λz:O=>z.bind El) (h.1 hc)).trans ?_
  rw[aO (aEa.2 λi j=>hc i j (Nat.zero_le _))];rfl
 .refine(aY (λz:O=>z.bind El) (h.2 hc)).trans ?_
  rw[bA (λe=>hc λi j _=>aEa.1 e i j)];rfl
end Go.Proofs
/- The other reader's guess: that of the program, or neither is a calculation. -/
namespace Go.Proofs
open Go Go.Ax Go.Ax.aB
def EB(g:Int×List Int×Bool):Prop:=¬ (g.2.2=true/\fS g.1 g.2.1=0)
def GE(g g':Int×List Int×Bool):Prop:=g=g'\/(EB g/\EB g')
theorem BO(op:Int)(a:List Int):EB (op,a,false):=λh=>by cases h.1
theorem a0n(op:Int)(b:Bool):EB (op,[],b):=λh=>by have:=(wF h.2).two;simp at this
theorem IB{l:List UInt8}{fr to:Nat}(hf:fr<200)(ht:to<=l.length)(hl:l.length<95):uH 100 l (fr:Int) (to:Int)=true:=q9 (PL hf ht hl)
theorem IA{l:List UInt8}{fr to:Nat}(hf:fr<200)(ht:to<=l.length)(hl:l.length<95):pX 100 l (fr:Int) (to:Int)=(eI ((l.take to).drop fr)).1:=by unfold pX;rw[PL hf ht hl];rfl
theorem Hz{l:List UInt8}{fr to:Nat}(hf:fr<200)(ht:to<=l.length)(hl:l.length<95):rQ 100 l (fr:Int) (to:Int)=(eI ((l.take to).drop fr)).2:=by unfold rQ;rw[PL hf ht hl];rfl
theorem aAI(p:List (List UInt8)){s:List UInt8}(hs:s.length<90)(c:Int)(k0:Bool×Int×List Int->O)(k1:List (List UInt8)×Int->O)(k2:Unit->O):∀(f i:Nat),s.length-i<f->i<=s.length->
    zX 100 f (p,s,(i:Int),c) k0 k1 k2=match(s.drop i).findIdx? (λy=>decide ((63:UInt8)=y))with|none=>k1 (p,c)|some j=>k0 ((eI (s.drop (i+j+1))).2&&(eI (s.take (i+j))).2,6,[(eI (s.drop (i+j+1))).1,(eI (s.take (i+j))).1])
 |0,i,h,_=>by omega
 |f+1,i,h,hi=>by
   show KM 100 _ _ _ p s c (i:Int)=_;unfold KM;by_cases hlt:i<s.length
   .have hg:=bJ hlt
    have e:aA.wrap ((i:Int)+1)=((i+1:Nat):Int):=by rw[wr (by omega) (by omega)];omega
    rw[aO (show(i:Int)<(s.length:Int)by omega),aW,dA hg,iS hg,e,List.findIdx?_cons];by_cases hc:s[i]=63
    .rw[aO hc,aW,aO hc.symm,aJ rfl,aL (IB (by omega) (cQ _) (by omega))]
     have p0:=IB (l:=s) (fr:=0) (to:=i) (by omega) (by omega) (by omega);have y0:=IA (l:=s) (fr:=0) (to:=i) (by omega) (by omega) (by omega);have y1:=Hz (l:=s) (fr:=0) (to:=i) (by omega) (by omega) (by omega);have q0:=IA (l:=s) (fr:=i+1) (to:=s.length) (by omega) (cQ _) (by omega);have q1:=Hz (l:=s) (fr:=i+1) (to:=s.length) (by omega) (cQ _) (by omega);rw[xQ]at q0 q1;have p0:uH 100 s 0 (i:Int)=true:=p0;have y0:pX 100 s 0 (i:Int)=(eI (s.take i)).1:=y0;have y1:rQ 100 s 0 (i:Int)=(eI (s.take i)).2:=y1;rw[aL p0,y0,y1,q0,q1];rfl
    .rw[bA hc,aT,bA (λh=>hc h.symm),aH (by simp)]
     refine(aAI p hs c k0 k1 k2 f (i+1) (by omega) (by omega)).trans ?_;cases hf:(s.drop (i+1)).findIdx? λy=>decide ((63:UInt8)=y)with
     |none=>rfl
     |some j=>
       simp only[iT];rw[show i+1+j=i+(j+1)by omega]
   .rw[bA (show ¬ (i:Int)<(s.length:Int)by omega),aT,fK (by omega)]
    rfl
theorem aAH{p:List (List UInt8)}(hp:Small p){i:Nat}{ln:List UInt8}(hl:p[i]?=some ln)(hn:ln≠[])(a b:Int)(k0:Bool×Int->O)(k1:Int×Int×List Int->O)(k2:Unit->O):∀(f k:Nat)(acc:List Int),i-k<f->k<=i->acc.length<=k->
    zW 100 (f+1) (p,(i:Int),(k:Int),a,b,acc) k0 k1 k2=match iI ((p.take i).drop k++[ln.drop 1])with|none=>k0 (false,0)|some r=>k1 (a,b,acc++r)
 |0,k,acc,h,_,_=>by omega
 |f+1,k,acc,h,hk,ha=>by
   show vB 100 _ _ _ _ p (i:Int) (k:Int) a b acc=_;unfold vB;have hi:i<p.length:=(bU.1 hl).1;have hpl:=hp.1;have e:aA.wrap ((k:Int)+1)=((k+1:Nat):Int):=by rw[wr (by omega) (by omega)];omega
   rw[aO (show(k:Int)<=(i:Int)by omega),aW];by_cases hki:k=i
   .subst hki
    have hll:=hp.2 _ (Dn hl);have e2:∀(K:List (List UInt8)->Int->Int->Int->Int->Int->List Int->O),CR 100 p (k:Int) (k:Int) 0 a b acc K=K p (k:Int) (k:Int) 1 a b acc:=λK=>by
     show CU 100 _ p (k:Int) (k:Int) 0 a b acc=_;unfold CU;rw[aO rfl,aW]
    have p0:=IB (l:=ln) (fr:=1) (to:=ln.length) (by omega) (cQ _) (by omega);have y0:=IA (l:=ln) (fr:=1) (to:=ln.length) (by omega) (cQ _) (by omega);have y1:=Hz (l:=ln) (fr:=1) (to:=ln.length) (by omega) (cQ _) (by omega);rw[xQ]at y0 y1;have p0:uH 100 ln 1 (ln.length:Int)=true:=p0;have y0:pX 100 ln 1 (ln.length:Int)=(eI (ln.drop 1)).1:=y0;have y1:rQ 100 ln 1 (ln.length:Int)=(eI (ln.drop 1)).2:=y1;have ed:(p.take k).drop k=[]:=fK (by rw[fJ];omega);rw[e2,dA hl,dA hl,aL p0,y0,y1,ed,fR];show _=match(if(eI (ln.drop 1)).2 then(iI []).map ((eI (ln.drop 1)).1 :: ·)else none)with|none=>k0 (false,0)|some r=>k1 (a,b,acc++r)
    cases hv:(eI (ln.drop 1)).2 with
    |false=>rw[OY,aW];rfl
    |true=>
      rw[B6,aT,aL (eJ (by simp;omega) (by simp;omega)),e];show vB 100 _ _ _ _ p (k:Int) ((k+1:Nat):Int) a b (acc++[(eI (ln.drop 1)).1])=k1 (a,b,acc++[(eI (ln.drop 1)).1]);unfold vB;rw[bA (by omega),aT]
   .have hkp:k<p.length:=by omega
    have hg:=bJ hkp;have hll:=hp.2 _ (lF hkp);have hg':(p.take i)[k]?=some p[k]:=by rw[eN,aJ (by omega)];exact hg
    have e2:∀(K:List (List UInt8)->Int->Int->Int->Int->Int->List Int->O),CR 100 p (i:Int) (k:Int) 0 a b acc K=K p (i:Int) (k:Int) 0 a b acc:=λK=>by
     show CU 100 _ p (i:Int) (k:Int) 0 a b acc=_;unfold CU;rw[bA (by omega),aT]
    have p0:=IB (l:=p[k]) (fr:=0) (to:=p[k].length) (by omega) (cQ _) (by omega);have y0:=IA (l:=p[k]) (fr:=0) (to:=p[k].length) (by omega) (cQ _) (by omega);have y1:=Hz (l:=p[k]) (fr:=0) (to:=p[k].length) (by omega) (cQ _) (by omega);rw[xQ]at y0 y1;have p0:uH 100 p[k] 0 (p[k].length:Int)=true:=p0;have y0:pX 100 p[k] 0 (p[k].length:Int)=(eI p[k]).1:=y0;have y1:rQ 100 p[k] 0 (p[k].length:Int)=(eI p[k]).2:=y1;rw[e2,dA hg,dA hg,aL p0,y0,y1,iS hg',List.cons_append];show _=match(if(eI p[k]).2 then(iI ((p.take i).drop (k+1)++[ln.drop 1])).map ((eI p[k]).1 :: ·)else none)with|none=>k0 (false,0)|some r=>k1 (a,b,acc++r)
    cases hv:(eI p[k]).2 with
    |false=>rw[OY,aW];rfl
    |true=>
      rw[B6,aT,aL (eJ (by simp;omega) (by simp;omega)),e,aJ rfl];refine(aAH hp hl hn a b k0 k1 k2 f (k+1) (acc++[(eI p[k]).1]) (by omega) (by omega) (by simp;omega)).trans ?_;cases iI ((p.take i).drop (k+1)++[ln.drop 1])with
      |none=>rfl
      |some r=>
        simp only[iT];rw[List.append_assoc];rfl
theorem aAG{p:List (List UInt8)}(hp:Small p)(c:Int)(k0:Bool×Int×List Int->O)(k1:Int->O)(k2:Unit->O):∀(f i:Nat),p.length-i<f->i<=p.length->
    (∃g:Int×List Int×Bool,vA 100 f (p,(i:Int),c) k0 k1 k2=k0 (g.2.2,g.1,g.2.1)/\GE g (lA p (p.drop i) i)/\g.2.1.length<=91)\/(vA 100 f (p,(i:Int),c) k0 k1 k2=k1 c/\lA p (p.drop i) i=(0,[],false))
 |0,i,h,_=>by omega
 |f+1,i,h,hi=>by
   have hpl:=hp.1;show(∃g:Int×List Int×Bool,Er 100 _ _ _ _ _ _ p (i:Int) c=_/\_)\/(Er 100 _ _ _ _ _ _ p (i:Int) c=_/\_);unfold Er;by_cases hlt:i<p.length
   .have hg:=bJ hlt
    have e:aA.wrap ((i:Int)+1)=((i+1:Nat):Int):=by rw[wr (by omega) (by omega)];omega
    have ih:=aAG hp c k0 k1 k2 f (i+1) (by omega) (by omega);rw[aO (show(i:Int)<(p.length:Int)by omega),aW,dA hg,iS hg];cases hln:p[i]with
    |nil=>
      rw[e];exact ih
    |cons x t=>
      rw[hln]at hg;rw[bA (show ¬ ((x::t).length:Int)=0 by simp;omega),aT];have e1:∀(K:List (List UInt8)->Int->Int->Int->Int->O),Jz 100 p (i:Int) (-1) 1 c K=match jS x with|none=>K p (i:Int) (-1) 1 c|some op=>K p (i:Int) op (jH op) c:=λK=>by
       show KL 100 _ p (i:Int) (-1) 1 c=_;unfold KL jS;rw[dA hg,gK];by_cases h1:x=44
       .rw[aO h1,aW,aJ h1.symm];rfl
       rw[bA h1,aT,aH (λh=>h1 h.symm)];by_cases h2:x=36
       .rw[aO h2,aW,aJ h2.symm];rfl
       rw[bA h2,aT,aH (λh=>h2 h.symm)];by_cases h3:x=33
       .rw[aO h3,aW,aJ h3.symm];rfl
       rw[bA h3,aT,aH (λh=>h3 h.symm)]
      rw[e1];cases ho:jS x with
      |none=>
        rw[TV ho];simp only[];rw[aO (by decide),aW,e];exact ih
      |some op=>
        rw[Fy ho];simp only[];have hop:0<=op/\(jH op=0\/jH op=1):=by
         unfold jS at ho;split at ho
         .cases ho;exact⟨by decide,.inr rfl⟩
         .split at ho
          .cases ho;exact⟨by decide,.inr rfl⟩
          .split at ho
           .cases ho;exact⟨by decide,.inl rfl⟩
           .cases ho
        rw[bA (by omega),aT];refine .inl ?_;unfold Jy;by_cases hfr:(i:Int)<jH op
        .rw[aJ hfr]
         refine⟨(op,[],true),?_,.inr ⟨a0n _ _,BO _ _⟩,by simp⟩;show vB 100 _ _ _ _ p (i:Int) (jH op) c op []=_;unfold vB;rw[bA (by omega),aT]
        .rw[aH hfr]
         obtain⟨k,hk,hki⟩:∃k:Nat,jH op=(k:Int)/\k<=i:=⟨(jH op).toNat,by omega,by omega⟩
         have hl:=aAH hp hg (by simp) c op (λy=>k0 (y.1,y.2,[])) (λy=>k0 (true,y.2.1,y.2.2)) (λ_=>none) 99 k [] (by omega) hki (by simp);rw[hk,Int.toNat_natCast];refine⟨match iI ((p.take i).drop k++[t])with|none=>(0,[],false)|some r=>(op,r,true),?_,?_,?_⟩
         .refine hl.trans ?_
          show(match iI ((p.take i).drop k++[t])with|none=>k0 (false,0,[])|some r=>k0 (true,op,[]++r))=_;cases iI ((p.take i).drop k++[t])with
          |none=>rfl
          |some r=>rfl
         .unfold lG
          cases iI ((p.take i).drop k++[t])with
          |none=>exact .inr ⟨BO _ _,BO _ _⟩
          |some r=>exact .inl rfl
         .cases hv:iI ((p.take i).drop k++[t])with
          |none=>simp
          |some r=>
            have:=Sm hv;simp only[];rw[this];simp;omega
   .rw[bA (show ¬ (i:Int)<(p.length:Int)by omega),aT,fK (by omega)]
    exact .inr ⟨rfl,rfl⟩
theorem KC(x:Int)(y:List Int)(z:Bool):(some (mC x y z):O).bind zV=some (x,y,z):=rfl
theorem aO3{p:List (List UInt8)}(hp:Small p):∃g,u9 100 p=some g/\GE g (fZ p)/\g.2.1.length<=91:=by
 unfold u9 w49 Qw fZ;have hpl:=hp.1;by_cases h2:p.length<2
 .rw[aO (show(p.length:Int)<2 by omega),aW,aJ h2]
  exact⟨_,KC _ _ _,.inl rfl,by simp⟩
 .rw[bA (show ¬ (p.length:Int)<2 by omega),aT,aH h2]
  have hg:=bJ (show 1<p.length by omega);have hd:p.getD 1 []=p[1]:=by rw[List.getD_eq_getElem?_getD,hg];rfl
  have hs:=hp.2 _ (lF (show 1<p.length by omega));rw[show(1:Int)=((1:Nat):Int)from rfl,dA hg,hd];generalize p[1]=s at hs;unfold Qp;have h:=aAI p hs 0 (λy=>some (mC y.2.1 y.2.2 y.1)) (λy=>Qo 100 y.1 0 y.2 (λz243 z244 z245=>some (mC z244 z245 z243)) (λ_=>some (mC 0 [] false))) (λ_=>none) 100 0 (by omega) (by omega);rw[kJ]at h;cases hf:s.findIdx? λy=>decide ((63:UInt8)=y)with
  |some j=>
    rw[hf]at h;refine⟨_,(aY (λz:O=>z.bind zV) h).trans (KC _ _ _),?_,by simp⟩;simp only[Nat.zero_add];unfold lG;show GE _ (match(if(eI (s.drop (j+1))).2 then(if(eI (s.take j)).2 then(iI []).map ((eI (s.take j)).1 :: ·)else none).map ((eI (s.drop (j+1))).1 :: ·)else none)with|none=>(6,[],false)|some r=>(6,r,true));cases(eI (s.drop (j+1))).2 with
    |false=>exact .inr ⟨BO _ _,BO _ _⟩
    |true=>
      cases(eI (s.take j)).2 with
      |false=>exact .inr ⟨BO _ _,BO _ _⟩
      |true=>exact .inl rfl
  |none=>
    rw[hf]at h;have h4:=aAG hp 0 (λy=>some (mC y.2.1 y.2.2 y.1)) (λ_=>some (mC 0 [] false)) (λ_=>none) 100 0 (by omega) (by omega);rw[kJ]at h4;rcases h4 with⟨g,h5,h6,h7⟩|⟨h5,h6⟩
    .exact⟨g,((aY (λz:O=>z.bind zV) (h.trans h5))).trans (KC _ _ _),h6,h7⟩
    .exact⟨_,((aY (λz:O=>z.bind zV) (h.trans h5))).trans (KC _ _ _),.inl h6.symm,by simp⟩
end Go.Proofs
