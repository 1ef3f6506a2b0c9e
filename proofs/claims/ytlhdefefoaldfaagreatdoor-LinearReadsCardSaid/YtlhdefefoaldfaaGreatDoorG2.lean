/- Trees: which are the same. Conditions are in the theorems. -/
import Derived.Test.YtlhdefefoaldfaaGreatDoorG1
open Bool renaming and_eq_true->bM,true_and->gX
open List renaming mem_cons_of_mem->fM,mem_cons_self->iA
/- A tree with one node changed. -/
namespace Go.Proofs
open Go Go.Ax Go.Ax.aA
end Go.Proofs
/- Trees: which are the same. -/
namespace Go.Proofs
open Go Go.Ax Go.Ax.aA
mutual
def rG:Ex->Ex->Bool
 |.mk o a ks,.mk p b ls=>decide (o=p)&&decide (a=b)&&mC ks ls
def mC:List Ex->List Ex->Bool
 |[],[]=>true
 |k::l,k'::l'=>rG k k'&&mC l l'
 |_,_=>false
end
mutual
theorem aGV:∀e:Ex,rG e e=true
 |.mk o a ks=>by simp only[rG,aGU ks];simp
theorem aGU:∀l:List Ex,mC l l=true
 |[]=>rfl
 |k::l=>by simp only[mC,aGV k,aGU l];rfl
end
mutual
theorem aYm:∀{e f:Ex},rG e f=true->e=f
 |.mk o a ks,.mk p b ls,h=>by
   simp only[rG,bM,fU]at h;rw[h.1.1,h.1.2,VL h.2]
theorem VL:∀{l m:List Ex},mC l m=true->l=m
 |[],[],_=>rfl
 |k::l,k'::l',h=>by
   simp only[mC,bM]at h;rw[aYm h.1,VL h.2]
 |[],_::_,h=>by simp[mC]at h
 |_::_,[],h=>by simp[mC]at h
end
theorem aYl:∀{l m:List Ex},l.length≠m.length->mC l m=false:=λ{l m} h=>by
 cases hb:mC l m with
 |false=>rfl
 |true=>exact absurd (bG List.length (VL hb)) h
theorem aDz{N:Nat}{rc:_}{o a p b:Int}{K:Bool->O}{k1 k2:Unit->O}:∀(l l' pre pre' ks ls:List Ex)(m:Nat),ks=pre++l->ls=pre'++l'->pre.length=pre'.length->l.length=l'.length->l.length<m->(∀k∈l,∀k'∈l',rc k.op k.num k.kids k'.op k'.num k'.kids=some (rG k k'))->ks.length<2^62->
    A0 (N,rc) m ((pre.length:Int),o,a,ks,p,b,ls) K k1 k2=br (mC l l') (k1 ()) (K false)
 |_,_,_,_,_,_,0,_,_,_,_,h,_,_=>by omega
 |[],l',pre,pre',ks,ls,m+1,hk,_,_,hl,_,_,_=>by
   have:l'=[]:=List.eq_nil_of_length_eq_zero hl.symm;subst this;show DE _ _ _ _ _ _ _ _ _ _ _=_;unfold DE;simp only[];subst hk;rw[aX (by simp),aM];rfl
 |k::l,[],pre,pre',ks,ls,m+1,hk,hk',hp,hl,hm,hr,h2=>by simp at hl
 |k::l,k'::l',pre,pre',ks,ls,m+1,hk,hk',hp,hl,hm,hr,h2=>by
   have hlk:ks.length=pre.length+(l.length+1):=by rw[hk];simp
   have ih:=aDz (N:=N) (rc:=rc) (o:=o) (a:=a) (p:=p) (b:=b) (K:=K) (k1:=k1) (k2:=k2) l l' (pre++[k]) (pre'++[k']) ks ls m (by rw[hk];simp) (by rw[hk'];simp) (by simp[hp]) (by simpa using hl) (by simp at hm;omega) (λx hx y hy=>hr x (fM _ hx) y (fM _ hy)) h2;rw[show((pre++[k]).length:Int)=(pre.length:Int)+1 by simp]at ih;show DE _ _ _ _ _ _ _ _ _ _ _=_;unfold DE;simp only[];rw[aU (by omega),bA,eN (y:=k) (by rw[hk];exact xR),eN (y:=k') (by rw[hk',hp];exact xR)];simp only[hr k (iA ..) k' (iA ..)];simp only[Option.isSome_some,dH,Option.getD_some];rw[wr (x:=(pre.length:Int)+1) (by omega) (by omega)];cases hb:rG k k' with
   |true=>
     simp only[mC,hb,gX,Bool.not_true,aM];exact ih
   |false=>
     simp only[mC,hb,Bool.false_and,Bool.not_false,bA,aM]
theorem TN{N:Nat}:∀(n:Nat)(e f:Ex),aR e<=n->aR e<N->aR e<2^60->aR f<2^60->nC N n e.op e.num e.kids f.op f.num f.kids=some (rG e f)
 |0,e,_,h,_,_,_=>by have:=size_pos e;omega
 |n+1,.mk o a ks,.mk p b ls,h,hN,hB,hB'=>by
   simp only[aR]at h hN hB hB';have hlen:=xK ks;show M7 (N,nC N n) o a ks p b ls=_;unfold M7 w22 TO;simp only[rG];by_cases h1:o=p
   case neg=>rw[aU h1,aX h1];rfl
   by_cases h2:a=b
   case neg=>rw[aX (show ¬ (o≠p)by simpa using h1),aU (p:=a≠b) h2,aX h2,aU h1];rfl
   by_cases hl:ks.length=ls.length
   .rw[aX (show ¬ (o≠p)by simpa using h1),aX (show ¬ (a≠b)by simpa using h2),aX (show ¬ ((ks.length:Int)≠(ls.length:Int))by simp[hl]),aU h1,aU h2]
    simp only[Bool.or_false,aM,gX];unfold TJ;refine(bG (λz:O=>z.bind M9) (aDz (o:=o) (a:=a) (p:=p) (b:=b) ks ls [] [] ks ls N rfl rfl rfl hl (by omega) (λk hk k' hk'=>?_) (by omega))).trans ?_
    .have:=uA hk
     have:=uA hk';exact TN n k k' (by omega) (by omega) (by omega) (by omega)
    .cases mC ks ls <;> rfl
   .rw[aU (show((ks.length:Int)≠(ls.length:Int))by omega),Bool.or_true,bA,aYl hl,Bool.and_false]
    rfl
section
variable{N:Nat}{e f:Ex}(h:2*aR e<=N)(hB:aR e<2^58)(hB':aR f<2^58)
include h hB hB'
theorem aVB:Mb N e.op e.num e.kids f.op f.num f.kids=true:=by have:=size_pos e;unfold Mb;rw[TN N e f (by omega) (by omega) (by omega) (by omega)];rfl
theorem aVA:M8 N e.op e.num e.kids f.op f.num f.kids=rG e f:=by have:=size_pos e;unfold M8;rw[TN N e f (by omega) (by omega) (by omega) (by omega)];rfl
end
end Go.Proofs
