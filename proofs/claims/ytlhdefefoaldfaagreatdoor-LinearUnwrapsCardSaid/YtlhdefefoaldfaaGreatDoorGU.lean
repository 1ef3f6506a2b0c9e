/- Unwrapping; the law in plain words. Conditions are in the theorems. -/
import Derived.Test.YtlhdefefoaldfaaGreatDoorG8
import Derived.Test.YtlhdefefoaldfaaGreatDoorG9
import Derived.Test.YtlhdefefoaldfaaGreatDoorG2
import Derived.Test.YtlhdefefoaldfaaGreatDoorF6
import Derived.Test.YtlhdefefoaldfaaGreatDoorG1
import Derived.Test.YtlhdefefoaldfaaGreatDoorE7
open Bool renaming and_self->SI,decide_and->aNG,decide_or->aAx,false_and->iU,not_false->gX,not_true->kU,or_true->tE
open Go.IntKind renaming i64->aC
open Int renaming lt_or_eq_of_le->bA2,toNat_natCast->nC
open List renaming append_assoc->iC,append_nil->rI,drop_eq_nil_of_le->oP,flatten_cons->vW,getElem?_append_right->dW,getElem?_eq_getElem->dE,length_append->dK,length_cons->dD,length_drop->Ff,length_nil->j9,length_singleton->j8,length_take->kS,map_cons->iB,mem_cons->eP,mem_cons_of_mem->eY,mem_cons_self->gN,nil_append->kR,take_append_drop->SC
open Nat renaming le_refl->bZ
open Option renaming bind->a9w
open Prod renaming snd->s7
/- Unwrapping: what both do. -/
namespace Go.Proofs
open Go Go.Ax Go.Ax.aA
def dJ:List Tx->Tx
 |[]=>[]
 |r::p=>r++(p.map (List.drop 2)).flatten
def n7(p:List Tx):Tx:=(p.map (List.drop 2)).flatten
def aV:List Tx->Nat
 |[]=>0
 |r::p=>r.length+aV p
theorem QR:∀(p q:List Tx),aV (p++q)=aV p+aV q
 |[],q=>by simp[aV]
 |r::p,q=>by simp[aV,QR p q];omega
theorem aKS:∀(p:List Tx),(n7 p).length<=aV p
 |[]=>bZ _
 |r::p=>by
   have:=aKS p;unfold n7 at *
   simp only[iB,vW,dK,Ff,aV];omega
theorem aLV(p:List Tx):(dJ p).length<=aV p:=by
 cases p with
 |nil=>exact bZ _
 |cons r p=>
   have:=aKS p;unfold n7 at this;unfold dJ;rw[dK];simp only[aV];omega
def mU(r:Tx):Bool:=decide (r.take 2=[0,0])
theorem aL1{r:Tx}(h:mU r=true):2<=r.length:=by
 have h1:=bE List.length (cU h);rw[kS]at h1;simp at h1;omega
theorem drop_take{l:Tx}{f t:Nat}(h1:f<=t):(l.take t).drop f++l.drop t=l.drop f:=by
 conv=>rhs;rw[<-SC t l]
 by_cases h:t<=l.length
 .rw[List.drop_append_of_le_length (by rw[kS];omega)]
 .rw[oP (show l.length<=t by omega),rI,rI]
theorem aBI{l:Tx}{ps:List Int}{w:Int}(hp:∀p∈ps,p<=(l.length:Int)):∀(n f:Nat)(out p:List Tx),0<f->f<=l.length->l.length-f<=n->kV l ps w n f out=some p->
    ∃q,p=out++q/\n7 q=l.drop f/\(∀r∈q,mU r=true/\(r.length:Int)<=w)/\aV q<=l.length-f+2*n
 |0,f,out,p,h0,hf,hn,h=>by
   unfold kV at h;cases h;exact⟨[],by simp,by rw[oP (by omega)];rfl,by simp,by simp[aV]⟩
 |n+1,f,out,p,h0,hf,hn,h=>by
   unfold kV at h;by_cases hlt:f<l.length
   .rw[aJ hlt]at h
    have hge:=ZJ (ps:=ps) (w:=w) (f:=f);have hle:=JZ (ps:=ps) (w:=w) hf hp;by_cases h2:fM ps w f<=f
    .rw[aJ h2]at h;cases h
    .rw[aD h2]at h
     obtain⟨q,e1,e2,e3,e4⟩:=aBI hp n _ _ p (by omega) hle (by omega) h;have hi:=FI (ps:=ps) (w:=w) (f:=f);have hx:=Bp (w:=w) (ll:=((j6 f).length:Int)) (f:=(f:Int)) ps f;have hind:j6 f=[0,0]:=by unfold j6;rw[aJ h0]
     have hll:(sM l f (fM ps w f)).length=2+(fM ps w f-f):=by
      unfold sM;rw[hind];simp only[dK,dD,j9,Ff,kS];omega
     refine⟨sM l f (fM ps w f)::q,by rw[e1];simp,?_,?_,?_⟩
     .unfold n7 at *
      rw[iB,vW,e2];unfold sM;rw[hind];show(l.take _).drop f++_=_;exact drop_take hge
     .intro r hr
      rcases eP.1 hr with rfl|hr
      .refine⟨by unfold sM;rw[hind];rfl,?_⟩
       rw[hll];rw[hind]at hi hx;rcases hx with hx|⟨_,_,hx⟩
       .omega
       .simp only[dD,j9]at hx hi
        omega
      .exact e3 r hr
     .simp only[aV]
      omega
   .rw[aD hlt]at h
    cases h;exact⟨[],by simp,by rw[oP (by omega)];rfl,by simp,by simp[aV]⟩
theorem aNJ{l:Tx}{ps:List Int}{w:Int}(hp:∀p∈ps,p<=(l.length:Int))(hl:0<l.length){p:List Tx}(h:kV l ps w l.length 0 []=some p):
    ∃r q,p=r::q/\dJ p=l/\(r.length:Int)<=w/\(∀x∈q,mU x=true/\(x.length:Int)<=w)/\aV p<=3*l.length:=by
 obtain⟨n,hn⟩:∃n,l.length=n+1:=⟨l.length-1,by omega⟩
 rw[hn]at h;unfold kV at h;rw[aJ (by omega)]at h;have hle:=JZ (ps:=ps) (w:=w) (f:=0) (Nat.zero_le _) hp;by_cases h2:fM ps w 0<=0
 .rw[aJ h2]at h;cases h
 .rw[aD h2]at h
  obtain⟨q,e1,e2,e3,e4⟩:=aBI hp n _ _ p (by omega) hle (by omega) h;have hi:=FI (ps:=ps) (w:=w) (f:=0);have hx:=Bp (w:=w) (ll:=((j6 0).length:Int)) (f:=((0:Nat):Int)) ps ((0:Nat):Int);have hli:sM l 0 (fM ps w 0)=l.take (fM ps w 0):=rfl;have hll:(l.take (fM ps w 0)).length=fM ps w 0:=by rw[kS];omega
  rw[hli]at e1;refine⟨l.take (fM ps w 0),q,by rw[e1];rfl,?_,?_,e3,?_⟩
  .rw[e1]
   show l.take _++n7 q=l;rw[e2,SC]
  .rw[hll]
   have h0:((j6 0).length:Int)=0:=rfl;rw[h0]at hi hx;rcases hx with hx|⟨_,_,hx⟩
   .omega
   .omega
  .rw[e1]
   simp only[kR,List.singleton_append,aV];omega
theorem a5D{e:Ex}:∀p∈n9 e,p<=((cH e).length:Int):=λp h=>(Yo p h).2
theorem wE{e:Ex}{w:Int}{p:List Tx}(h:fA e w=(p,0)):c9 e=0/\4<=w/\w<=40/\∃r q,p=r::q/\dJ p=cH e/\(r.length:Int)<=w/\(∀x∈q,mU x=true/\(x.length:Int)<=w)/\aV p<=3*(cH e).length:=by
 unfold fA at h;by_cases hv:c9 e=0
 .rw[aJ hv]at h
  by_cases hw:w<4\/40<w
  .rw[aJ hw]at h
   have:=bE s7 h;exact absurd (show(5:Int)=0 from this) (by decide)
  .rw[aD hw]at h
   have hl:0<(cH e).length:=by rw[Jg hv];simp
   cases hq:kV (cH e) (n9 e) w (cH e).length 0 []with
   |none=>
     rw[hq]at h;have:=bE s7 h;exact absurd (show(14:Int)=0 from this) (by decide)
   |some p'=>
     rw[hq]at h;have:p'=p:=bE Prod.fst h;subst this;exact⟨hv,by omega,by omega,aNJ a5D hl hq⟩
 .rw[aD hv]at h
  exact absurd (bE s7 h) hv
theorem aNK{e:Ex}{w:Int}:aV (fA e w).1<=12300:=by
 have hel:=F0 (e:=e);by_cases h:(fA e w).2=0
 .obtain⟨_,_,_,r,q,_,_,_,_,hs⟩:=wE (e:=e) (w:=w) (p:=(fA e w).1) (by rw[<-h])
  omega
 .unfold fA at h ⊢
  split
  .rename_i hv
   rw[aJ hv]at h;split
   .simp[aV]
   .rename_i hw
    rw[aD hw]at h;split
    .rename_i p hq
     rw[hq]at h;exact absurd rfl h
    .simp[aV]
  .simp[aV]
def qU(p:List Tx)(e:Ex):Prop:=∃w:Int,fA e w=(p,0)
theorem a7X{p:List Tx}{e f:Ex}(h1:qU p e)(h2:qU p f):e=f:=by
 obtain⟨w,h1⟩:=h1;obtain⟨w',h2⟩:=h2;obtain⟨v1,_,_,_,_,_,j1,_⟩:=wE h1;obtain⟨v2,_,_,_,_,_,j2,_⟩:=wE h2;exact aLz (N:=70000) (by omega) v1 v2 (j1.symm.trans j2)
theorem aFV{N:Nat}{a b:List Tx}(hl:a.length<=2^40){K:Bool->O}{k1 k2:Unit->O}:∀(r r' pre pre':List Tx)(m:Nat),a=pre++r->b=pre'++r'->pre.length=pre'.length->r.length=r'.length->r.length<m->
    Ag N m (b,a,(a.length:Int),(pre.length:Int)) K k1 k2=if r=r' then k1 ()else K false
 |_,_,_,_,0,_,_,_,_,h=>by omega
 |[],r',pre,pre',m+1,ha,_,_,hq,_=>by
   show D5 _ _ _ _ _ _ _ _=_;unfold D5;simp only[];have h0:a.length=pre.length:=by rw[ha];simp
   have h1:r'=[]:=List.eq_nil_of_length_eq_zero hq.symm;rw[aR (by omega),aK,h1,aJ rfl]
 |x::r,[],_,_,_,_,_,_,h,_=>by simp at h
 |x::r,y::r',pre,pre',m+1,ha,hb,hp,hq,hm=>by
   have hlt:pre.length<a.length:=by rw[ha];simp
   have hg:a[pre.length]?=some x:=by rw[ha,dW (bZ _)];simp
   have hg':b[pre.length]?=some y:=by rw[hb,hp,dW (bZ _)];simp
   show D5 _ _ _ _ _ _ _ _=_;unfold D5;simp only[];rw[aQ (by omega),aX,dO hg,dO hg',aI VX,VW];by_cases h:x=y
   .subst h
    rw[aQ rfl,kU,aK,wr (by omega) (by omega)];have ih:=aFV (N:=N) (a:=a) (b:=b) hl (K:=K) (k1:=k1) (k2:=k2) r r' (pre++[x]) (pre'++[x]) m (by rw[ha];simp) (by rw[hb];simp) (by simp[hp]) (by simpa using hq) (by simp at hm;omega);have hpl:((pre++[x]).length:Int)=(pre.length:Int)+1:=by simp
    rw[hpl]at ih;refine ih.trans ?_;simp
   .rw[aR h,gX,aX,aD (by simp[h])]
theorem aFU{N:Nat}{a b:List Tx}(hl:a.length<=2^40)(hN:a.length<N):D3 N a b=some (decide (a=b)):=by
 unfold D3 w48 Uw Ut;by_cases h:a.length=b.length
 .rw[aR (by simp[h]),aK]
  refine(bE (λz:O=>z.bind Mr) (aFV (N:=N) hl a b [] [] N rfl rfl rfl h hN)).trans ?_;by_cases hab:a=b
  .rw[aJ hab,aQ hab];rfl
  .rw[aD hab,aR hab];rfl
 .rw[aQ (by omega),aX,aR (λe=>h (by rw[e]))];rfl
theorem aVX{N:Nat}{a b:List Tx}(hl:a.length<=2^40)(hN:a.length<N):Mt N a b=true:=by unfold Mt;rw[aFU hl hN];rfl
theorem aVW{N:Nat}{a b:List Tx}(hl:a.length<=2^40)(hN:a.length<N):Mq N a b=decide (a=b):=by unfold Mq;rw[aFU hl hN];rfl
section
variable{N:Nat}(hN:70000<=N){p:List Tx}(hl:p.length<=60000)(hr:∀r∈p,r.length<=60000){e:Ex}(hs:aT e<=8500)
include hN hl hs
open Classical in
theorem aHJ{a b:Int}{K:Int×Int×Int×(List Ex)->O}{k1:Int×Int->O}{k2:Unit->O}:∀(n:Nat)(w:Int)(m:Nat),w+n=41->4<=w->n<m->
    BG N m (p,w,a,b,e.op,e.num,e.kids) K k1 k2=if(∃v:Int,w<=v/\fA e v=(p,0))then K (0,e.op,e.num,e.kids)else k1 (a,b)
 |_,_,0,_,_,h=>by omega
 |0,w,m+1,hw,_,_=>by
   have:w=41:=by omega
   subst this;show EA _ _ _ _ _ _ _ _ _ _ _=_;unfold EA;simp only[];rw[aR (by omega),aK,aD (λ⟨v,h1,h2⟩=>by have:=(wE h2).2.2.1;omega)]
 |n+1,w,m+1,hw,h4,hm=>by
   have p48:=aVX (N:=N) (a:=p) (b:=(fA e w).1) (by omega) (by omega);have y48:=aVW (N:=N) (a:=p) (b:=(fA e w).1) (by omega) (by omega);have ih:=aHJ (a:=a) (b:=b) (K:=K) (k1:=k1) (k2:=k2) n (w+1) m (by omega) (by omega) (by omega);show EA _ _ _ _ _ _ _ _ _ _ _=_;unfold EA;simp only[Ex.eta,a0D hN hs,a0C hN hs,a0B hN hs,p48,y48,cP,tE];rw[aQ (by omega),aX];by_cases h:fA e w=(p,0)
   .rw[h]
    simp only[decide_true,SI,aX];rw[aJ ⟨w,Int.le_refl _,h⟩]
   .have hc:(decide ((fA e w).2=0)&&decide (p=(fA e w).1))=false:=by
     rw[<-aNG];exact aR (λhh=>h (by rw[hh.2,<-hh.1]))
    rw[hc,aK,wr (by omega) (by omega),ih];by_cases hx:∃v:Int,w+1<=v/\fA e v=(p,0)
    .rw[aJ hx,aJ (by obtain⟨v,h1,h2⟩:=hx;exact⟨v,by omega,h2⟩)]
    .rw[aD hx,aD (λ⟨v,h1,h2⟩=>by
      rcases bA2 h1 with h3|h3
      .exact hx ⟨v,by omega,h2⟩
      .subst h3;exact h h2)]
include hr
open Classical in
theorem aHA{a b:Int}{K:Int×Int×Int×(List Ex)->O}{k1:Int×Int->O}{k2:Unit->O}:∀(n:Nat)(w:Int)(m:Nat),w+n=41->4<=w->n<m->
    BD N m (p,w,a,b,e.op,e.num,e.kids) K k1 k2=if(∃v:Int,w<=v/\fA e v=(p,0))then K (0,e.op,e.num,e.kids)else k1 (a,b)
 |_,_,0,_,_,h=>by omega
 |0,w,m+1,hw,_,_=>by
   have:w=41:=by omega
   subst this;show Dz _ _ _ _ _ _ _ _ _ _ _=_;unfold Dz;simp only[];rw[aR (by omega),aK,aD (λ⟨v,h1,h2⟩=>by have:=(wE h2).2.2.1;omega)]
 |n+1,w,m+1,hw,h4,hm=>by
   have p26:=aZZ (N:=N) (a:=p) (b:=(fA e w).1) (by omega) (by omega) (λr h=>by have:=hr r h;omega);have y26:=aZY (N:=N) (a:=p) (b:=(fA e w).1) (by omega) (by omega) (λr h=>by have:=hr r h;omega);have ih:=aHA (a:=a) (b:=b) (K:=K) (k1:=k1) (k2:=k2) n (w+1) m (by omega) (by omega) (by omega);show Dz _ _ _ _ _ _ _ _ _ _ _=_;unfold Dz;simp only[Ex.eta,aH2 hN hs,aH1 hN hs,aZm hN hs,p26,y26,cP,tE];rw[aQ (by omega),aX];by_cases h:fA e w=(p,0)
   .rw[h]
    simp only[decide_true,SI,aX];rw[aJ ⟨w,Int.le_refl _,h⟩]
   .have hc:(decide ((fA e w).2=0)&&decide (p=(fA e w).1))=false:=by
     rw[<-aNG];exact aR (λhh=>h (by rw[hh.2,<-hh.1]))
    rw[hc,aK,wr (by omega) (by omega),ih];by_cases hx:∃v:Int,w+1<=v/\fA e v=(p,0)
    .rw[aJ hx,aJ (by obtain⟨v,h1,h2⟩:=hx;exact⟨v,by omega,h2⟩)]
    .rw[aD hx,aD (λ⟨v,h1,h2⟩=>by
      rcases bA2 h1 with h3|h3
      .exact hx ⟨v,by omega,h2⟩
      .subst h3;exact h h2)]
end
end Go.Proofs
/- Unwrapping; the law on it. -/
namespace Go.Proofs
open Go Go.Ax Go.Ax.aA
open Classical in
noncomputable def qK(p:List Tx):Int×Int×List Ex×Int:=if h:∃e,qU p e then(h.choose.op,h.choose.num,h.choose.kids,0)else(0,0,[],2)
theorem Ip{p:List Tx}{e:Ex}(h:qU p e):qK p=(e.op,e.num,e.kids,0):=by
 have hx:∃e,qU p e:=⟨e,h⟩
 unfold qK;rw[dif_pos hx,a7X hx.choose_spec h]
theorem u6{p:List Tx}(h:¬ ∃e,qU p e):qK p=(0,0,[],2):=by unfold qK;rw[dif_neg h]
theorem a8s{e:Ex}(hv:c9 e=0):fU (cH e)=(e.op,e.num,e.kids,((cH e).length:Int),0):=by
 have hel:=F0 (e:=e);have h1:=PV (N:=70000) (by omega) hv [] (by simp);rw[rI]at h1;exact Option.some.inj ((aHt (N:=70000) (by omega) (l:=cH e) (by omega)).symm.trans h1)
theorem FC{p:List Tx}{e:Ex}(h:qU p e):c9 e=0/\fU (dJ p)=(e.op,e.num,e.kids,((dJ p).length:Int),0)/\∃r q,p=r::q/\(∀x∈q,mU x=true)/\∀x∈p,x.length<=40:=by
 obtain⟨w,h⟩:=h;obtain⟨hv,_,hw,r,q,hp,hj,h1,h2,_⟩:=wE h;refine⟨hv,by rw[hj];exact a8s hv,r,q,hp,λx hx=>(h2 x hx).1,λx hx=>?_⟩;rw[hp]at hx;rcases eP.1 hx with rfl|hx
 .omega
 .have:=(h2 x hx).2;omega
def FL:Int->List Tx->Int
 |m,[]=>m
 |m,r::p=>FL (max m (r.length:Int)) p
theorem aLF{B:Int}:∀(p:List Tx)(m:Int),m<=B->(∀r∈p,(r.length:Int)<=B)->FL m p<=B
 |[],_,h,_=>h
 |r::p,m,h,hp=>by
   unfold FL;exact aLF p _ (by have:=hp r (gN ..);omega) (λx hx=>hp x (eY _ hx))
theorem aKT(r:Tx)(p:List Tx):n7 (r::p)=r.drop 2++n7 p:=by unfold n7;rw[iB,vW]
theorem a77(r:Tx){k:Bool->O}:(gc (!decide ((r.length:Int)<2)) 0 r 0 λy11=>gc (!(decide ((r.length:Int)<2)||decide (y11≠0))) 0 r 1 λy12=>k (decide ((r.length:Int)<2)||decide (y11≠0)||decide (y12≠0)))=k (!mU r):=by
 match r with
 |[]=>rfl
 |[a]=>
   rw[aQ (show(([a]:Tx).length:Int)<2 by simp)];rw[show mU [a]=false from aR (by simp)];rfl
 |a::b::t=>
   have g0:(a::b::t)[0]?=some a:=rfl;have g1:(a::b::t)[1]?=some b:=rfl;have e0:((0:Nat):Int)=0:=rfl;have e1:((1:Nat):Int)=1:=rfl;rw[aR (show ¬ (((a::b::t:Tx)).length:Int)<2 by simp;omega)];have q0:=λ(c:Bool)(z:UInt8)(k:UInt8->O)=>vJ (c:=c) (z:=z) g0 k
   have q1:=λ(c:Bool)(z:UInt8)(k:UInt8->O)=>vJ (c:=c) (z:=z) g1 k
   rw[e0]at q0;rw[e1]at q1;rw[q0,q1];have:mU (a::b::t)=(decide (a=0)&&decide (b=0)):=by
    unfold mU;rw[<-aNG]
    congr 1
    simp
   rw[this];by_cases ha:a=0
   .subst ha
    by_cases hb:b=0
    .subst hb;rfl
    .simp[hb]
   .simp[ha]
section
variable{N:Nat}{p:List Tx}(hl:p.length<=60000)(hr:aV p<=60000)(hN:70000<=N)
include hl hr
omit hr in
theorem aHK{z:Int}{K:Int×Int×Int->O}{k1:(List Tx)×Int×Int×Int×Tx->O}{k2:Unit->O}:∀(q pre:List Tx)(most:Int)(acc:Tx)(m:Nat),p=pre++q->0<pre.length->acc.length+aV q<=60000->q.length<m->
    uH N m (p,z,most,p,(p.length:Int),(pre.length:Int),0,0,acc) K k1 k2=if(∀r∈q,mU r=true)then k1 (p,FL most q,0,0,acc++n7 q)else K (2,0,0)
 |_,_,_,_,0,_,_,_,h=>by omega
 |[],pre,most,acc,m+1,hp,_,_,_=>by
   show xJ _ _ _ _ _ _ _ _ _ _ _ _ _=_;unfold xJ;simp only[];have h0:p.length=pre.length:=by rw[hp];simp
   rw[aR (by omega),aK,aJ (by simp)];unfold n7 FL;simp
 |r::q,pre,most,acc,m+1,hp,h0,ha,hm=>by
   have hlt:pre.length<p.length:=by rw[hp];simp
   have hg:p[pre.length]?=some r:=by rw[hp,dW (bZ _)];simp
   simp only[aV]at ha;show xJ _ _ _ _ _ _ _ _ _ _ _ _ _=_;unfold xJ;simp only[];rw[aQ (by omega),aX,dO hg,aQ (show(0:Int)<(pre.length:Int)by omega),aX];refine(a77 r (k:=λb=>br b _ _)).trans ?_;by_cases h:mU r=true
   .have h2:=aL1 h
    have hs:c8 r (some 2) none=r.drop 2:=rfl;rw[h,kU,aK,aI (QX (by omega) (by omega)),hs,aI (gV (by simp;omega) (by omega)),wr (by omega) (by omega)];have ih:=aHK (z:=z) (K:=K) (k1:=k1) (k2:=k2) q (pre++[r]) (max most (r.length:Int)) (acc++r.drop 2) m (by rw[hp];simp) (by simp) (by simp;omega) (by simp at hm;omega);have hpl:((pre++[r]).length:Int)=(pre.length:Int)+1:=by simp
    rw[hpl]at ih;refine ih.trans ?_;rw[aKT,iC];by_cases hq:∀x∈q,mU x=true
    .rw[aJ hq,aJ (λx hx=>by
      rcases eP.1 hx with rfl|hx
      .exact h
      .exact hq x hx)]
     rfl
    .rw[aD hq,aD (λhh=>hq (λx hx=>hh x (eY _ hx)))]
   .have hf:mU r=false:=by simpa using h
    rw[hf,gX,aX,aD (λhh=>h (hh r (gN ..)))]
include hN
theorem aZK:uG N p=some (qK p):=by
 have hjl:=aLV p;have z20:=aHt hN (l:=dJ p) (by omega);have p20:IC N (dJ p)=true:=by unfold IC;rw[z20];rfl
 have y3:Hy N (dJ p)=(fU (dJ p)).2.2.2.1:=by unfold Hy;rw[z20];rfl
 have y4:Hx N (dJ p)=(fU (dJ p)).2.2.2.2:=by unfold Hx;rw[z20];rfl
 obtain⟨e,e1,e2,e3,hsz,hok⟩:=aML (dJ p);have y0:IB N (dJ p)=e.op:=by unfold IB;rw[z20];exact e1
 have y1:IA N (dJ p)=e.num:=by unfold IA;rw[z20];exact e2
 have y2:Hz N (dJ p)=e.kids:=by unfold Hz;rw[z20];exact e3
 have pgE:∀f,qU p f->f=e/\(fU (dJ p)).2.2.2.2=0/\(fU (dJ p)).2.2.2.1=((dJ p).length:Int):=λf hf=>by
  obtain⟨_,hd,_⟩:=FC hf;rw[hd]at e1 e2 e3 ⊢;exact⟨by rw[<-Ex.eta f,<-Ex.eta e,<-e1,<-e2,<-e3],rfl,rfl⟩
 obtain⟨M,rfl⟩:∃M,N=M+1:=⟨N-1,by omega⟩
 unfold uG w27 WE WB;have key:∀(mo:Int),((∃f,qU p f)->mo<=40)->a9w (ck (IC (M+1) (dJ p))<|
     br (decide (Hx (M+1) (dJ p)≠(0:Int))||decide (Hy (M+1) (dJ p)≠((dJ p).length:Int))||decide ((40:Int)<mo))
      (some (rZ ((0:Int)) ((0:Int)) [] ((2:Int))))
      (Of (M+1) p ((4:Int)) 0 0 (IB (M+1) (dJ p)) (IA (M+1) (dJ p)) (Hz (M+1) (dJ p))
       (λz22 z23 z24 kB=>
        some (rZ ((Ex.mk z23 z24 kB).op) ((Ex.mk z23 z24 kB).num) ((Ex.mk z23 z24 kB).kids) z22))
       (λ_ _=>
        some (rZ ((0:Int)) ((0:Int)) [] ((2:Int)))))) Hi=some (qK p):=λmo hmo=>by
  rw[aI p20,y0,y1,y2,y3,y4];by_cases hc:(fU (dJ p)).2.2.2.2=0/\(fU (dJ p)).2.2.2.1=((dJ p).length:Int)/\mo<=40
  .obtain⟨c1,c2,c3⟩:=hc
   rw[c1,c2,aR (show ¬ 40<mo by omega)];simp only[ne_eq,not_true_eq_false,decide_false,Bool.or_self,aK];unfold Of;rw[aHJ hN hl (by omega) 37 4 (M+1) rfl (by omega) (by omega)];by_cases hx:∃v:Int,4<=v/\fA e v=(p,0)
   .rw[aJ hx]
    obtain⟨v,_,hx⟩:=hx;rw[Ip ⟨v,hx⟩];rfl
   .rw[aD hx,u6 (λ⟨f,hf⟩=>by
     have:=(pgE f hf).1;subst this;obtain⟨v,hv⟩:=hf;exact hx ⟨v,(wE hv).2.1,hv⟩)]
    rfl
  .have hcb:(decide ((fU (dJ p)).2.2.2.2≠0)||decide ((fU (dJ p)).2.2.2.1≠((dJ p).length:Int))||decide (40<mo))=true:=by
    rw[<-aAx,<-aAx];refine aQ ?_;by_cases c1:(fU (dJ p)).2.2.2.2=0
    .by_cases c2:(fU (dJ p)).2.2.2.1=((dJ p).length:Int)
     .refine .inr ?_
      have:¬ mo<=40:=λh=>hc ⟨c1,c2,h⟩
      omega
     .exact .inl (.inr c2)
    .exact .inl (.inl c1)
   rw[hcb,aX,u6 (λ⟨f,hf⟩=>hc ⟨(pgE f hf).2.1,(pgE f hf).2.2,hmo ⟨f,hf⟩⟩)];rfl
 cases p with
 |nil=>
   unfold uH;simp only[];unfold xJ;exact key 0 (λ_=>by omega)
 |cons r q=>
   unfold uH;simp only[];unfold xJ;simp only[aV,dD]at hr hl;rw[aQ (by simp only[dD];omega),aX,show((0:Int))=((0:Nat):Int)from rfl,dO (l:=r::q) (i:=0) rfl];rw[aR (by omega),aK,kR,aI (gV (by omega) (by omega)),wr (by omega) (by omega)];rw[show((0:Nat):Int)+1=(([r]:List Tx).length:Int)from rfl];refine(bE (λz:O=>z.bind Hi) (aHK (N:=M+1) (p:=r::q) (by simp only[dD];omega) q [r] (max 0 (r.length:Int)) r M rfl (by simp) (by omega) (by omega))).trans ?_;by_cases hq:∀x∈q,mU x=true
   .rw[aJ hq]
    refine key (FL (max 0 (r.length:Int)) q) (λ⟨f,hf⟩=>?_);obtain⟨_,_,_,_,_,_,h40⟩:=FC hf;have h40':=λx hx=>h40 x hx
    exact aLF _ _ (by have:=h40 r (gN ..);omega) (λx hx=>by have:=h40 x (eY _ hx);omega)
   .rw[aD hq,u6 (λ⟨f,hf⟩=>by
     obtain⟨_,_,r',q',hpq,hi,_⟩:=FC hf;cases hpq;exact hq hi)]
    rfl
end
end Go.Proofs
/- The law on unwrapping. -/
namespace Go.Proofs
open Go Go.Ax Go.Ax.aA
section
variable{N:Nat}{p:List Tx}(hl:p.length<=60000)
include hl
theorem aHB{K:Int×Int×Int->O}{k1:(List Tx)×Int×Int×Tx->O}{k2:Unit->O}:∀(q pre:List Tx)(acc:Tx)(m:Nat),p=pre++q->0<pre.length->acc.length+aV q<=60000->q.length<m->
    uF N m (p,(pre.length:Int),0,0,acc) K k1 k2=if(∀r∈q,2<=r.length)then k1 (p,0,0,acc++n7 q)else K (2,0,0)
 |_,_,_,0,_,_,_,h=>by omega
 |[],pre,acc,m+1,hp,_,_,_=>by
   show xI _ _ _ _ _ _ _ _ _=_;unfold xI;simp only[];have h0:p.length=pre.length:=by rw[hp];simp
   rw[aR (by omega),aK,aJ (by simp)];unfold n7;simp
 |r::q,pre,acc,m+1,hp,h0,ha,hm=>by
   have hlt:pre.length<p.length:=by rw[hp];simp
   have hg:p[pre.length]?=some r:=by rw[hp,dW (bZ _)];simp
   simp only[aV]at ha;show xI _ _ _ _ _ _ _ _ _=_;unfold xI;simp only[];rw[aQ (show(pre.length:Int)<(p.length:Int)by omega),aX,aQ (show(0:Int)<(pre.length:Int)by omega),vJ hg,aJ rfl,Bool.true_and,aX,dO hg];by_cases h:2<=r.length
   .have hs:c8 r (some 2) none=r.drop 2:=rfl
    rw[aR (by omega),aK,aI (QX (by omega) (by omega)),hs,aI (gV (by simp;omega) (by omega)),wr (by omega) (by omega)];have ih:=aHB (K:=K) (k1:=k1) (k2:=k2) q (pre++[r]) (acc++r.drop 2) m (by rw[hp];simp) (by simp) (by simp;omega) (by simp at hm;omega);have hpl:((pre++[r]).length:Int)=(pre.length:Int)+1:=by simp
    rw[hpl]at ih;refine ih.trans ?_;rw[aKT,iC];by_cases hq:∀x∈q,2<=x.length
    .rw[aJ hq,aJ (λx hx=>by
      rcases eP.1 hx with rfl|hx
      .exact h
      .exact hq x hx)]
    .rw[aD hq,aD (λhh=>hq (λx hx=>hh x (eY _ hx)))]
   .rw[aQ (by omega),aX,aD (λhh=>h (hh r (gN ..)))]
end
theorem Yf:∀(p:List Tx),∀r∈p,r.length<=aV p
 |[],_,h=>by cases h
 |x::p,r,h=>by
   simp only[aV];rcases eP.1 h with rfl|h
   .omega
   .have:=Yf p r h;omega
section
variable{N:Nat}{p:List Tx}(hl:p.length<=60000)(hr:aV p<=60000)(hN:70000<=N)
include hl hr hN
theorem aYp:uE N p=some (qK p):=by
 have hjl:=aLV p;have z21:=a05 hN (l:=dJ p) (by omega);have p21:Hv N (dJ p)=true:=by unfold Hv;rw[z21];rfl
 have y4:Hr N (dJ p)=(fU (dJ p)).2.2.2.2:=by unfold Hr;rw[z21];rfl
 obtain⟨e,e1,e2,e3,hsz,hok⟩:=aML (dJ p);have y0:Hu N (dJ p)=e.op:=by unfold Hu;rw[z21];exact e1
 have y1:Ht N (dJ p)=e.num:=by unfold Ht;rw[z21];exact e2
 have y2:Hs N (dJ p)=e.kids:=by unfold Hs;rw[z21];exact e3
 have pgE:∀f,qU p f->f=e/\(fU (dJ p)).2.2.2.2=0:=λf hf=>by
  obtain⟨_,hd,_⟩:=FC hf;rw[hd]at e1 e2 e3 ⊢;exact⟨by rw[<-Ex.eta f,<-Ex.eta e,<-e1,<-e2,<-e3],rfl⟩
 have hrow:∀r∈p,r.length<=60000:=λr h=>by have:=Yf p r h;omega
 obtain⟨M,rfl⟩:∃M,N=M+1:=⟨N-1,by omega⟩
 unfold uE w28 Vz Vv;have key:a9w (ck (Hv (M+1) (dJ p))<|
     br (decide (Hr (M+1) (dJ p)≠(0:Int)))
      (some (rY ((0:Int)) ((0:Int)) [] ((2:Int))))
      (O6 (M+1) p ((4:Int)) 0 0 (Hu (M+1) (dJ p)) (Ht (M+1) (dJ p)) (Hs (M+1) (dJ p))
       (λz21 z22 z23 z24=>
        some (rY ((Ex.mk z22 z23 z24).op) ((Ex.mk z22 z23 z24).num) ((Ex.mk z22 z23 z24).kids) z21))
       (λ_ _=>
        some (rY ((0:Int)) ((0:Int)) [] ((2:Int)))))) Hg=some (qK p):=by
  rw[aI p21,y0,y1,y2,y4];by_cases c1:(fU (dJ p)).2.2.2.2=0
  .rw[c1,aR (by decide),aK]
   unfold O6;rw[aHA hN hl hrow (by omega) 37 4 (M+1) rfl (by omega) (by omega)];by_cases hx:∃v:Int,4<=v/\fA e v=(p,0)
   .rw[aJ hx]
    obtain⟨v,_,hx⟩:=hx;rw[Ip ⟨v,hx⟩];rfl
   .rw[aD hx,u6 (λ⟨f,hf⟩=>by
     have:=(pgE f hf).1;subst this;obtain⟨v,hv⟩:=hf;exact hx ⟨v,(wE hv).2.1,hv⟩)]
    rfl
  .rw[aQ c1,aX,u6 (λ⟨f,hf⟩=>c1 (pgE f hf).2)]
   rfl
 cases p with
 |nil=>
   unfold uF;simp only[];unfold xI;exact key
 |cons r q=>
   unfold uF;simp only[];unfold xI;simp only[aV,dD]at hr hl;rw[aQ (show(0:Int)<(((r::q:List Tx).length:Nat):Int)by simp only[dD];omega),aX];rw[aR (show ¬ ((0:Int)<0)by omega),RO,iU,aK,aK,show((0:Int))=((0:Nat):Int)from rfl,dO (l:=r::q) (i:=0) rfl];rw[kR,aI (gV (by omega) (by omega)),wr (by omega) (by omega)];rw[show((0:Nat):Int)+1=(([r]:List Tx).length:Int)from rfl];refine(bE (λz:O=>z.bind Hg) (aHB (N:=M+1) (p:=r::q) (by simp only[dD];omega) q [r] r M rfl (by simp) (by omega) (by omega))).trans ?_;by_cases hq:∀x∈q,2<=x.length
   .rw[aJ hq]
    exact key
   .rw[aD hq,u6 (λ⟨f,hf⟩=>by
     obtain⟨_,_,r',q',hpq,hi,_⟩:=FC hf;cases hpq;exact hq (λx hx=>aL1 (hi x hx)))]
    rfl
end
theorem a3v(p:List Tx):∃e:Ex,(qK p).1=e.op/\(qK p).2.1=e.num/\(qK p).2.2.1=e.kids/\aT e<=256:=by
 by_cases h:∃e,qU p e
 .obtain⟨e,h⟩:=h
  exact⟨e,by rw[Ip h],by rw[Ip h],by rw[Ip h],QY (FC h).1⟩
 .exact⟨Ex.mk 0 0 [],by rw[u6 h];rfl,by rw[u6 h];rfl,by rw[u6 h];rfl,by decide⟩
theorem aD1{N:Nat}(hN:70000<=N){a:Int}{L:List (List Tx)}(hL:∀p∈L,p.length<=60000/\aV p<=60000)(hl:L.length<=100){K:Bool->O}{k1 k2:Unit->O}:∀(r pre:List (List Tx))(m:Nat),L=pre++r->r.length<m->
    AS N m (a,(pre.length:Int),L) K k1 k2=k1 ()
 |_,_,0,_,h=>by omega
 |[],pre,m+1,hs,_=>by
   show DG _ _ _ _ _ _ _=_;unfold DG;simp only[];have h0:L.length=pre.length:=by rw[hs];simp
   rw[aR (by omega),aK]
 |x::r,pre,m+1,hs,hm=>by
   have hlt:pre.length<L.length:=by rw[hs];simp
   have hg:L[pre.length]?=some x:=by rw[hs,dW (bZ _)];simp
   have hx:=hL x (by rw[hs];simp);have z20:=aZK hx.1 hx.2 hN;have z21:=aYp hx.1 hx.2 hN;obtain⟨e,e1,e2,e3,hsz⟩:=a3v x;have p20:Oe N x=true:=by unfold Oe;rw[z20];rfl
   have y20:jE N x=e.op:=by unfold jE;rw[z20];exact e1
   have y20':jD N x=e.num:=by unfold jD;rw[z20];exact e2
   have y20'':jC N x=e.kids:=by unfold jC;rw[z20];exact e3
   have p21:O5 N x=true:=by unfold O5;rw[z21];rfl
   have y21:jB N x=e.op:=by unfold jB;rw[z21];exact e1
   have y21':jA N x=e.num:=by unfold jA;rw[z21];exact e2
   have y21'':iZ N x=e.kids:=by unfold iZ;rw[z21];exact e3
   have y3:Hh N x=Hf N x:=by unfold Hh Hf;rw[z20,z21]
   show DG _ _ _ _ _ _ _=_;unfold DG;simp only[dO hg,y20,y20',y20'',y21,y21',y21'',y3,p20,p21,Ex.eta,cP,a0W (N:=N) (e:=e) (f:=e) (by omega) (by omega) (by omega),a0V (N:=N) (e:=e) (f:=e) (by omega) (by omega) (by omega),aKK,ne_eq,not_true_eq_false,decide_false,Bool.or_self,kU,gX,tE,aK];rw[aQ (by omega),aX,wr (by omega) (by omega)];have ih:=aD1 hN (a:=a) hL hl (K:=K) (k1:=k1) (k2:=k2) r (pre++[x]) m (by rw[hs];simp) (by simp at hm;omega);have hpl:((pre++[x]).length:Int)=(pre.length:Int)+1:=by simp
   rw[hpl]at ih;exact ih
theorem aD2{N:Nat}{a b c:Int}{raw p q:List Tx}{K:Int×Int×Int×List Tx×List Tx×List Tx->O}{k1 k2:Unit->O}:∀(n i:Nat)(few:List Tx)(m:Nat),i+n=4->few.length=i->aV few<=20*i->n<m->
    ∃few',AU N m (a,b,c,raw,p,(i:Int),q,few) K k1 k2=K (a,b,c,p,q,few')/\few'.length<=4/\aV few'<=80
 |_,_,_,0,_,_,_,h=>by omega
 |0,i,few,m+1,hi,hf,hs,_=>by
   refine⟨few,?_,by omega,by omega⟩;show wR _ _ _ _ _ _ _ _ _ _ _=_;unfold wR;simp only[];rw[aR (show ¬ ((i:Int)<4)by omega),Bool.and_false,aK]
 |n+1,i,few,m+1,hi,hf,hs,hm=>by
   by_cases h:i<raw.length
   .have hg:raw[i]?=some raw[i]:=dE h
    have f1:=aHz (N:=N) (l:=raw[i]) (m:=20) (by omega) (by omega);have f2:=aHy (N:=N) (l:=raw[i]) (m:=20) (by omega) (by omega);have t1:(raw[i].take (20:Int).toNat).length<=20:=by rw[kS];omega
    obtain⟨few',h1,h2,h3⟩:=aD2 (N:=N) (a:=a) (b:=b) (c:=c) (raw:=raw) (p:=p) (q:=q) (K:=K) (k1:=k1) (k2:=k2) n (i+1) (few++[raw[i].take (20:Int).toNat]) m (by omega) (by rw[dK,j8];omega) (by rw[QR];simp only[aV];omega) (by omega);refine⟨few',?_,h2,h3⟩;refine Eq.trans ?_ h1;show wR _ _ _ _ _ _ _ _ _ _ _=_;unfold wR;simp only[];rw[aQ (show(i:Int)<(raw.length:Int)by omega),aQ (show(i:Int)<4 by omega),SI,aX,dO hg,aI f1,f2,aI (show cF (few++[raw[i].take (20:Int).toNat]).length 24=true by unfold cF;rw[dK,j8];exact aQ ⟨by omega,by omega⟩),wr (by omega) (by omega)];rfl
   .refine⟨few,?_,by omega,by omega⟩
    show wR _ _ _ _ _ _ _ _ _ _ _=_;unfold wR;simp only[];rw[aR (show ¬ ((i:Int)<(raw.length:Int))by omega),iU,aK]
theorem a4E(n:Nat)(p:List Tx):aV (p.take n)<=aV p:=by
 have:=QR (p.take n) (p.drop n);rw[SC]at this;omega
theorem aJx:∀(p:List Tx)(n:Nat)(r:Tx),aV (p.set n r)<=aV p+r.length
 |[],_,_=>by simp[aV]
 |x::p,0,r=>by simp[aV];omega
 |x::p,n+1,r=>by
   have:=aJx p n r;simp[aV];omega
theorem RD{n:Nat}(h:n<=2^20):cF n 24=true:=by unfold cF;exact aQ ⟨by omega,by omega⟩
theorem a7O{N:Nat}(hN:70000<=N){l:List Int}{w at1 how by3:Int}{raw:List Tx}(hl:∀x∈l,iD x)(hlen:l.length<2^60)(hw:iD w)(ha:iD at1)(hh:iD how)(hb:iD by3):Tc N l w at1 how by3 raw=some true:=by
 obtain⟨e,g1,hs⟩:=aPW (N:=N) (by omega) hl hlen;have a0:Ks N l=true:=by unfold Ks;rw[g1];rfl
 have a1:Kq N l=e.op:=by unfold Kq;rw[g1];rfl
 have a2:Kp N l=e.num:=by unfold Kp;rw[g1];rfl
 have a3:Ko N l=e.kids:=by unfold Ko;rw[g1];rfl
 have c1:=EL (N:=N) hw (show(1:Int)<=20 by omega);unfold Tc w6 Th;simp only[a0,a1,a2,a3,Ex.eta,c1,aH2 hN (show aT e<=8500 by omega),aH1 hN (show aT e<=8500 by omega),cP];generalize aC.wrap (4+k8 N w 20)=v;have hrw:=aNL (e:=e) (w:=v);have hsm:=aNK (e:=e) (w:=v);generalize(fA e v).1=p at hrw hsm;rw[kR,RD (by omega),cP];unfold Td;obtain⟨few,hf,hf1,hf2⟩:=aD2 (N:=N) (a:=at1) (b:=how) (c:=by3) (raw:=raw) (p:=p) (q:=p) (k1:=λ_=>none) (k2:=λ_=>none) (K:=λy=>(λz5 z6 z7 z8 z9 z10=>
     ck (cF ([]++z8).length (24:Nat))<|
     ck (cF ([]++z8++[[]]).length (24:Nat))<|
     ck true <|
     ck (dX z8.length none (some (aC.wrap ((↑z8.length:Int).tdiv (2:Int)))))<|
     L9 N z5 z6 z7 z9 ([z8,z10,[]++z8++[[]],c8 z8 none (some (aC.wrap ((↑z8.length:Int).tdiv (2:Int))))])
      (λz18 z19=>
       G6 N z18 ((0:Int)) z19
        (λz27=>
         some (wQ z27))
        (λ(_:Unit)=>
         ck true <|
         some (wQ true)))) y.1 y.2.1 y.2.2.1 y.2.2.2.1 y.2.2.2.2.1 y.2.2.2.2.2) 4 0 [] N rfl rfl (by simp[aV]) (by omega)
 refine(bE (λz:O=>z.bind DE) hf).trans ?_;simp only[kR,cP];have e2:aC.wrap (((p.length:Nat):Int).tdiv 2)=((p.length / 2:Nat):Int):=by
  have:((p.length:Nat):Int).tdiv 2=((p.length / 2:Nat):Int):=rfl;rw[this,wr (by omega) (by omega)]
 have e3:c8 p none (some ((p.length / 2:Nat):Int))=p.take (p.length / 2):=by
  show List.take _ _=_;rw[nC]
 rw[e2,e3,RD (by omega),cP,RD (by rw[dK,j8];omega),cP,aI (by unfold dX;exact aQ (by omega))];have fin:∀(z:Int)(L:List (List Tx)),(∀p∈L,p.length<=60000/\aV p<=60000)->L.length<=100->(G6 N z ((0:Int)) L (λz27=>some (wQ z27)) (λ(_:Unit)=>some (wQ true)):O).bind DE=some true:=λz L h1 h2=>by
  unfold G6;exact(bE (λz:O=>z.bind DE) (aD1 (N:=N) hN (a:=z) h1 h2 L [] N rfl (by omega))).trans rfl
 have h4:∀x∈([p,few,p++[[]],p.take (p.length / 2)]:List (List Tx)),x.length<=60000/\aV x<=60000:=λx hx=>by
  have:=a4E (p.length / 2) p;simp only[eP,List.not_mem_nil,or_false]at hx;rcases hx with rfl|rfl|rfl|rfl
  .omega
  .omega
  .rw[dK,QR,j8]
   simp only[aV,j9];omega
  .rw[kS];omega
 unfold L9 G7 Ti;simp only[];by_cases hp0:0<p.length
 .have d1:=EL (N:=N) ha (show(1:Int)<=(p.length:Int)by omega)
  have d2:=PL (N:=N) ha (show(1:Int)<=(p.length:Int)by omega);obtain⟨k1,k2⟩:=aA5 (x:=at1) (m:=(p.length:Int)) (by omega);rw[d2,d1];generalize pV at1 (p.length:Int)=k at k1 k2;obtain⟨i,rfl⟩:∃i:Nat,k=(i:Int):=⟨k.toNat,by omega⟩
  rw[nC];have hi:i<p.length:=by omega
  have hg:p[i]?=some p[i]:=dE hi;have hpi:=Yf p p[i] (List.getElem_mem hi);obtain⟨r,hr,hrl⟩:=a0m (N:=N) (l:=p[i]) (by omega) hb hh ha;have q18:PY N p[i] by3 how at1=true:=by unfold PY;rw[hr];rfl
  have y18:II N p[i] by3 how at1=r:=by unfold II;rw[hr];rfl
  rw[aQ (show(0:Int)<(p.length:Int)by omega),aX,cP,aI (aQ (by omega)),aL4 hg,q18,cP,aI (aQ (by omega)),aL4 hg,y18];rw[aI (show cF ([p,few,p++[[]],p.take (p.length / 2)]++[p.set i r]:List (List Tx)).length 24=true from RD (show(5:Nat)<=_ by omega))];refine fin _ _ (λx hx=>?_) (show(5:Nat)<=100 by omega);rcases List.mem_append.1 hx with hx|hx
  .exact h4 x hx
  .rw[List.mem_singleton]at hx
   subst hx;have:=aJx p i r;rw[List.length_set];omega
 .rw[aR (by omega),aK]
  exact fin _ _ h4 (show(4:Nat)<=100 by omega)
end Go.Proofs
/- Numbers that came in. -/
namespace Go.Proofs
open Go Go.Ax
theorem J5{z:Int}(h:rD (.i .i64) z):iD z:=by
 have h:(Lit.int .i64 z).wf=true:=h;simp[Lit.wf]at h;have h1:aC.min = -9223372036854775808:=by decide
 rw[h1]at h;unfold iD;omega
theorem a7U{l:List Int}(h:rD (.sl (.i .i64)) l):∀x∈l,iD x:=λx hx=>J5 (h x hx)
theorem a6z{l:List Int}(h:sY (.sl (.i .i64)) l):l.length<2^60:=by
 have h1:=h.1;have h2:l.length*8<=reachBytes:=h1;have h3:reachBytes=0x7ffffffff000:=rfl;omega
end Go.Proofs
