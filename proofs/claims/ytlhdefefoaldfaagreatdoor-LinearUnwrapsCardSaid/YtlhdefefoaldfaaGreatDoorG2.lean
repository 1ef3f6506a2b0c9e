/- Trees: which are the same. Conditions are in the theorems. -/
import Derived.Test.YtlhdefefoaldfaaGreatDoorG1
open Bool renaming and_eq_true->bM,true_and->iE
open List renaming mem_cons_of_mem->eY,mem_cons_self->gN
/- A tree with one node changed. -/
namespace Go.Proofs
open Go Go.Ax Go.Ax.aA
end Go.Proofs
/- Trees: which are the same. -/
namespace Go.Proofs
open Go Go.Ax Go.Ax.aA
mutual
def sD:Ex->Ex->Bool
 |.mk o a ks,.mk p b ls=>decide (o=p)&&decide (a=b)&&mQ ks ls
def mQ:List Ex->List Ex->Bool
 |[],[]=>true
 |k::l,k'::l'=>sD k k'&&mQ l l'
 |_,_=>false
end
mutual
theorem aKK:∀e:Ex,sD e e=true
 |.mk o a ks=>by simp only[sD,aKJ ks];simp
theorem aKJ:∀l:List Ex,mQ l l=true
 |[]=>rfl
 |k::l=>by simp only[mQ,aKK k,aKJ l];rfl
end
mutual
theorem a4X:∀{e f:Ex},sD e f=true->e=f
 |.mk o a ks,.mk p b ls,h=>by
   simp only[sD,bM,gG]at h;rw[h.1.1,h.1.2,Yb h.2]
theorem Yb:∀{l m:List Ex},mQ l m=true->l=m
 |[],[],_=>rfl
 |k::l,k'::l',h=>by
   simp only[mQ,bM]at h;rw[a4X h.1,Yb h.2]
 |[],_::_,h=>by simp[mQ]at h
 |_::_,[],h=>by simp[mQ]at h
end
theorem a4W:∀{l m:List Ex},l.length≠m.length->mQ l m=false:=λ{l m} h=>by
 cases hb:mQ l m with
 |false=>rfl
 |true=>exact absurd (bE List.length (Yb hb)) h
theorem aHk{N:Nat}{rc:_}{o a p b:Int}{K:Bool->O}{k1 k2:Unit->O}:∀(l l' pre pre' ks ls:List Ex)(m:Nat),ks=pre++l->ls=pre'++l'->pre.length=pre'.length->l.length=l'.length->l.length<m->(∀k∈l,∀k'∈l',rc k.op k.num k.kids k'.op k'.num k'.kids=some (sD k k'))->ks.length<2^62->
    BU (N,rc) m ((pre.length:Int),o,a,ks,p,b,ls) K k1 k2=br (mQ l l') (k1 ()) (K false)
 |_,_,_,_,_,_,0,_,_,_,_,h,_,_=>by omega
 |[],l',pre,pre',ks,ls,m+1,hk,_,_,hl,_,_,_=>by
   have:l'=[]:=List.eq_nil_of_length_eq_zero hl.symm;subst this;show EN _ _ _ _ _ _ _ _ _ _ _=_;unfold EN;simp only[];subst hk;rw[aR (by simp),aK];rfl
 |k::l,[],pre,pre',ks,ls,m+1,hk,hk',hp,hl,hm,hr,h2=>by simp at hl
 |k::l,k'::l',pre,pre',ks,ls,m+1,hk,hk',hp,hl,hm,hr,h2=>by
   have hlk:ks.length=pre.length+(l.length+1):=by rw[hk];simp
   have ih:=aHk (N:=N) (rc:=rc) (o:=o) (a:=a) (p:=p) (b:=b) (K:=K) (k1:=k1) (k2:=k2) l l' (pre++[k]) (pre'++[k']) ks ls m (by rw[hk];simp) (by rw[hk'];simp) (by simp[hp]) (by simpa using hl) (by simp at hm;omega) (λx hx y hy=>hr x (eY _ hx) y (eY _ hy)) h2;rw[show((pre++[k]).length:Int)=(pre.length:Int)+1 by simp]at ih;show EN _ _ _ _ _ _ _ _ _ _ _=_;unfold EN;simp only[];rw[aQ (by omega),aX,dO (y:=k) (by rw[hk];exact yX),dO (y:=k') (by rw[hk',hp];exact yX)];simp only[hr k (gN ..) k' (gN ..)];simp only[Option.isSome_some,cP,Option.getD_some];rw[wr (x:=(pre.length:Int)+1) (by omega) (by omega)];cases hb:sD k k' with
   |true=>
     simp only[mQ,hb,iE,Bool.not_true,aK];exact ih
   |false=>
     simp only[mQ,hb,Bool.false_and,Bool.not_false,aX,aK]
theorem Wb{N:Nat}:∀(n:Nat)(e f:Ex),aT e<=n->aT e<N->aT e<2^60->aT f<2^60->nS N n e.op e.num e.kids f.op f.num f.kids=some (sD e f)
 |0,e,_,h,_,_,_=>by have:=size_pos e;omega
 |n+1,.mk o a ks,.mk p b ls,h,hN,hB,hB'=>by
   simp only[aT]at h hN hB hB';have hlen:=yQ ks;show PM (N,nS N n) o a ks p b ls=_;unfold PM w22 Wc;simp only[sD];by_cases h1:o=p
   case neg=>rw[aQ h1,aR h1];rfl
   by_cases h2:a=b
   case neg=>rw[aR (show ¬ (o≠p)by simpa using h1),aQ (p:=a≠b) h2,aR h2,aQ h1];rfl
   by_cases hl:ks.length=ls.length
   .rw[aR (show ¬ (o≠p)by simpa using h1),aR (show ¬ (a≠b)by simpa using h2),aR (show ¬ ((ks.length:Int)≠(ls.length:Int))by simp[hl]),aQ h1,aQ h2]
    simp only[Bool.or_false,aK,iE];unfold W7;refine(bE (λz:O=>z.bind PO) (aHk (o:=o) (a:=a) (p:=p) (b:=b) ks ls [] [] ks ls N rfl rfl rfl hl (by omega) (λk hk k' hk'=>?_) (by omega))).trans ?_
    .have:=vA hk
     have:=vA hk';exact Wb n k k' (by omega) (by omega) (by omega) (by omega)
    .cases mQ ks ls <;> rfl
   .rw[aQ (show((ks.length:Int)≠(ls.length:Int))by omega),Bool.or_true,aX,a4W hl,Bool.and_false]
    rfl
section
variable{N:Nat}{e f:Ex}(h:2*aT e<=N)(hB:aT e<2^58)(hB':aT f<2^58)
include h hB hB'
theorem a0W:PR N e.op e.num e.kids f.op f.num f.kids=true:=by have:=size_pos e;unfold PR;rw[Wb N e f (by omega) (by omega) (by omega) (by omega)];rfl
theorem a0V:PN N e.op e.num e.kids f.op f.num f.kids=sD e f:=by have:=size_pos e;unfold PN;rw[Wb N e f (by omega) (by omega) (by omega) (by omega)];rfl
end
end Go.Proofs
