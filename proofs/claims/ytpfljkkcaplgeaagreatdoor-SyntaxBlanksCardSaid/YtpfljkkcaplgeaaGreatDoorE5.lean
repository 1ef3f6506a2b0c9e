/- The abstract machine. Conditions are in the theorems. -/
import Derived.Test.YtpfljkkcaplgeaaGreatDoorE4
import Derived.ChangeKeysEq
import Derived.Lib.AppendStr
import Derived.Lib.OthersKept
import Derived.Lib.UnsafeStr
import Derived.OpenShut
import Derived.SizedLaws
import Derived.Lib.LaidTab
import Derived.KernelRfl
open Array renaming ext'->wX,getElem?_extract->a9h,getElem?_modify->J8,getElem?_setIfInBounds_ne->tJ,getElem?_toList->Bm,length_toList->nJ,size_append->a9f,toList_append->a9e
open Bool renaming and_eq_true->aT,and_eq_true_iff->Bk,and_true->a99,false_eq_true->E9,not_eq_true'->wW
open Go.IntKind renaming i64->aH
open Int renaming natCast_mul->Zq,toNat->OZ,toNat_of_nonneg->J0
open List renaming all_eq_true->fG,append_nil->e9,drop_drop->a9V,drop_eq_nil_of_le->rR,drop_zero->a9T,eq_nil_of_length_eq_zero->AH,flatMap->bR,flatMap_append->OW,flatMap_cons->fV,flatten_cons->E5,getElem?_append_left->dV,getElem?_append_right->dN,getElem?_drop->qQ,getElem?_eq_getElem->dC,getElem?_eq_some_iff->bZ,getElem?_map->cZ,getElem?_range->OV,getElem?_take->fU,length->dR,length_append->aL,length_drop->lI,length_map->cP,length_replicate->wT,length_take->iT,map->wS,map_append->gH,map_cons->iH,map_drop->OU,map_map->qN,map_nil->vF,map_replicate->a9M,map_take->OT,mem_append->wR,mem_cons->eZ,mem_iff_getElem?->iS,mem_map->gU,nil_append->k7,replicate->cI,replicate_succ->pN,size_toArray->a9G,take_append_drop->Zi,take_left->OS,take_of_length_le->vD,take_zero->E4
open Nat renaming add_mul->kK,beq->aY,eq_of_beq_eq_true->bB,le_add_right->Zf,le_of_ble_eq_true->iA,le_refl->cE,le_trans->AF,lt_of_lt_of_le->tD,min_eq_left->OP,mul_le_mul_right->mM,mul_one->lP,sub_self->kZ,zero_add->eC,zero_le->o7,zero_mul->vA
open Ne renaming symm->eN
open Option renaming bind_eq_some_iff->wP,isSome_iff_exists->E2,map_eq_some_iff->cO,map_none->rP,map_some->lH
open Option.some renaming inj->gZ
open UInt8 renaming ofNat->s7,toNat->wM,toNat_inj->B9
/- Arrays in variables at places that are not known; rows cut at their ends; nil slices. -/
namespace Go.Ax
open aA
open Go.RowKit Go.Ab
theorem Xu{τ:Ty}:∀{xs:List X}{l:List τ.V},Ii τ xs=some l->xs=l.map (X.e τ)
 |[],l,h=>by cases h;rfl
 |x::r,l,h=>by
   cases x with
   |e τ' y=>
     unfold Ii at h;generalize eV τ' τ=p at h;cases p with
     |none=>cases h
     |some q=>
       obtain⟨q⟩:=q;subst q;simp only at h;split at h
       .rename_i l' hl
        cases h;rw[Xu hl];rfl
       .cases h
   |_=>cases h
theorem aGe(τ:Ty)(off:Nat)(z:τ.V):∀(l:List τ.V)(i:Nat),xQ τ (off+i) z i l=(l.set off z).map (X.e τ)
 |[],i=>by simp[xQ]
 |y::l,i=>by
   unfold xQ;cases off with
   |zero=>
     have h0:aY (0+i) i=true:=by rw[eC];exact Nat.beq_refl i
     rw[h0];have:∀(l:List τ.V)(j:Nat),0+i<j->xQ τ (0+i) z j l=l.map (X.e τ):=by
      intro l
      induction l with
      |nil=>intro j _;rfl
      |cons y l ih=>
        intro j hj;unfold xQ;have hb:aY (0+i) j=false:=by
         cases hb:aY (0+i) j with
         |false=>rfl
         |true=>have:=bB hb;omega
        rw[hb,ih (j+1) (by omega)];rfl
     rw[this l (i+1) (by omega)];rfl
   |succ off=>
     have hb:aY (off+1+i) i=false:=by
      cases hb:aY (off+1+i) i with
      |false=>rfl
      |true=>have:=bB hb;omega
     have ih:=aGe τ off z l (i+1);rw[show off+(i+1)=off+1+i by omega]at ih;rw[hb,ih];rfl
section
variable{c:Cx}{σ:Vw}{κ:Nat->Bool}{fr:Nat}{o:Oper}{r:aF}
theorem a4y{t:TypeId}{a x:X}{k:X->O}(h:YF c σ t a x k=some r):∃y,k y=some r/\y.pl=true/\(σ.On->∀{xa xn:Operand},o.op = .indexAddr t xa xn->σ.den.ev xa=some a.D->σ.den.ev xn=some x.D->aW c.P o σ.den fr y.D []):=by
 unfold YF at h;replace h:=B7 h;obtain⟨ik,n,hx,h⟩:=h;split at h
 .rename_i q off
  split at h
  .rename_i m s hs
   obtain⟨h1,h2⟩:=pK h;refine⟨_,h1,rfl,λhon xa xn ho ha hn=>?_⟩;obtain⟨g1,g2⟩:=bK (h2 hon.g);rw[hx]at hn;exact XW (P:=c.P) (fr:=fr) ho hs ha hn g1 g2
  .cases h
 .cases h
theorem aG5{n len:Nat}{k:X->O}{r:aF}:∀(l:List X)(i:Nat),xL n len k i l=some r->(∃y,i<=n/\l[n-i]?=some y/\y.pl=true/\k y=some r)\/(k .bW=some r/\n<len/\(i<=n->n<i+l.length->l[n-i]?=some .bW))
 |[],i,h=>by
   obtain⟨h1,h2⟩:=eL h;exact .inr ⟨h2,bK h1,λh3 h4=>by simp at h4;omega⟩
 |x::l,i,h=>by
   have step:xL n len k (i+1) l=some r->(∃y,i<=n/\(x::l)[n-i]?=some y/\y.pl=true/\k y=some r)\/(k .bW=some r/\n<len/\(i+1<=n->n<i+1+l.length->(x::l)[n-i]?=some .bW)):=λh=>by
    rcases aG5 l (i+1) h with⟨y,h1,h2,h3⟩|⟨h1,h2,h3⟩
    .exact .inl ⟨y,by omega,by rw[show n-i=(n-(i+1))+1 by omega];simpa using h2,h3⟩
    .exact .inr ⟨h1,h2,λa b=>by rw[show n-i=(n-(i+1))+1 by omega];simpa using h3 a b⟩
   have fin:∀(hx:n=i->(x::l)[n-i]?=some .bW),xL n len k (i+1) l=some r->(∃y,i<=n/\(x::l)[n-i]?=some y/\y.pl=true/\k y=some r)\/(k .bW=some r/\n<len/\(i<=n->n<i+(x::l).length->(x::l)[n-i]?=some .bW)):=λhx h=>by
    rcases step h with h|⟨h1,h2,h3⟩
    .exact .inl h
    .refine .inr ⟨h1,h2,λa b=>?_⟩
     by_cases e:n=i
     .exact hx e
     .exact h3 (by omega) (by simp at b;omega)
   unfold xL at h;split at h
   .exact fin (λe=>by subst e;simp) h
   .obtain⟨hb,h⟩:=eL h
    exact fin (λe=>by rw[aX e]at hb;cases hb) h
   .split at h
    .rename_i hp
     rcases wJ h with⟨hb,h'⟩|⟨hb,h'⟩
     .have hb:=bK hb
      subst hb;exact .inl ⟨x,cE _,by simp,hp,h'⟩
     .exact fin (λe=>absurd e (nS hb)) h'
    .cases h
theorem a4N{t:TypeId}{a:X}{k:X->O}(h:Xq c σ t a k=some r):∃y,k y=some r/\y.pl=true/\(σ.On->∀{x:Operand},o.op = .load t x->σ.den.ev x=some a.D->aW c.P o σ.den fr y.D []):=by
 unfold Xq at h;split at h
 .rename_i q off hrw
  split at h
  .rename_i e τ y xs hq
   split at h
   .rename_i h1
    obtain⟨l,hl,h⟩:=bF h;obtain⟨z,h3,h4⟩:=BM h;refine⟨_,h3,rfl,λhon x ho hx=>?_⟩;obtain⟨_,g2⟩:=h4 hon.g;rw[Int.toNat_natCast]at g2;refine yI hrw ho hx (dI hq) ?_;have e1:=Xu hl;show((X.e τ y::xs).map X.D)[off]?=_;rw[e1,qN,cZ,g2];rfl
   .cases h
  .rename_i e xs hq
   rcases aG5 _ 0 h with⟨y,_,h2,h3,h4⟩|⟨h1,h2,h3⟩
   .refine⟨y,h4,h3,λhon x ho hx=>yI hrw ho hx (dI hq) ?_⟩
    show((X.bW::xs).map X.D)[off]?=_;rw[Nat.sub_zero]at h2;rw[cZ,h2];rfl
   .refine⟨.bW,h1,rfl,λhon x ho hx=>yI hrw ho hx (dI hq) ?_⟩
    have h3:=h3 (o7 _) (by simp;omega);show((X.bW::xs).map X.D)[off]?=_;rw[Nat.sub_zero]at h3;rw[cZ,h3];rfl
  .cases h
 .cases h
theorem a0v{t:TypeId}{a y:X}{k:X->Wx->O}(h:W3 c σ t a y k=some r):∃W,k (.aS []) W=some r/\∀{x z:Operand},o.op = .store t x z->σ.den.ev x=some a.D->σ.den.ev z=some y.D->y.val=true->aW c.P o σ.den fr (.aS []) (WA W):=by
 unfold W3 at h;split at h
 .rename_i q off τ z hm
  split at h
  .rename_i h1
   split at h
   .rename_i e xs hq
    obtain⟨l,hl,h⟩:=bF h;obtain⟨hlt,h⟩:=eL h;have hlt:=bK hlt;refine⟨_,h,λho hx hz hv=>?_⟩;have e1:=Xu hl;have e2:=aGe τ off z l 0;rw[Nat.add_zero]at e2;have hc:=JF hv;have hcl:(X.e τ z).cells=[X.e τ z]:=rfl;refine Dl (d:=(X.e τ z).D) (ob':=(XO.box e (xQ τ off z 0 l)).A) ho ?_ hx (.ev hz) (DW hv) (dI hq) ?_ ?_
    .rw[hc,hcl];exact hm
    .show(if off+(X.e τ z).D.cells.length<=(xs.map X.D).length then _ else none)=_
     rw[hc,hcl,e1,aI (by simp;omega),e2];simp only[XO.A]
     congr 2
     show dL ((l.map (X.e τ)).map X.D) off [(X.e τ z).D]=((l.set off z).map (X.e τ)).map X.D;rw[qN,qN,List.map_set,List.set_eq_take_append_cons_drop,aI (by simpa using hlt)];simp[dL]
    .rw[hc,hcl];exact Nat.one_pos
   .cases h
  .cases h
 .cases h
end
section
variable{P:Program}{o:Oper}{s:St}{fr:Nat}
theorem a3W{t e e0:TypeId}{x:Operand}{hi:Option Operand}{sz N q:Nat}{ts:List Tree}{n:Int}(hu:P.underlying t=some (.slice e))(hs:fP P e=some sz)(ho:o.op = .slice t x none hi none)(hx:s.ev x=some (.own q))(hq:s.H q=some (.row e0 sz N ts false))
    (hhi:pS s hi (some n)) (h0:0<=n) (hn:n<=N):aW P o s fr (.own fr) [(fr,some (.row e0 sz n.toNat (ts.take (n.toNat*sz)) false)),(q,none)]:=by
 intro E σ₁ a w hT hH h100 hf hd ⟨ν,G,I⟩ Q;obtain⟨hv,hk⟩:=uO (I.ev (St.dE hT hx));obtain⟨kh,e2⟩:=hhi.run (ρ:=a.eval) (λx d h=>bY (I.ev (St.dE hT h)));obtain⟨inf,hinf,hsz⟩:=cO.1 hs;have hqq:=hH q _ hq;have hob:=(I.H q _ hqq).2;obtain⟨xs,r1,r2,r3,r4⟩:=id hob;have key:∃v',(execOp a.eval o).run P w = .ok (.value v') w/\w.ownsRow 0 e0 sz v' n.toNat (xs.take (n.toNat*sz))/\(∀g,aU v'=some g->aU (ν q)=some g):=by
  have hxl:=r1.1;rcases r1.2 with⟨hz,h00⟩|⟨g,cap,cur,hz,q1,q2,q3,q4,q5,q6⟩
  .subst h00
   have hb:=zC (P:=P) (w:=w) (isS:=true) (n:=0) (cap:=0) (lo:=none) (hi:=some n) (kl:=.i64) (kh:=kh) (by simp[eI,fD]) (by simp[fD];omega) (λ_ h=>by cases h) (λb h=>by cases h;exact h0);have z1:n.toNat=0:=by omega
   simp only[fD,eI,z1]at hb;refine⟨.slice none 0 0,?_,?_,λg hg=>by cases hg⟩
   .unfold execOp
    rw[ho];simp only[hv,hz,e2,rP,lH]at hb ⊢;simp[Instr.sliceAt,Instr.slice,run_underlying hu,hb,sizeOf,typeInfo,hinf]
   .rw[z1]
    have:xs.take (0*sz)=[]:=by simp
    rw[this];exact World.ownsRow_nil w 0 e0 sz
  .have hb:=zC (P:=P) (w:=w) (isS:=true) (n:=N) (cap:=cap) (lo:=none) (hi:=some n) (kl:=.i64) (kh:=kh) (by simp[eI,fD]) (by simp only[fD];omega) (λ_ h=>by cases h) (λb h=>by cases h;exact h0)
   simp only[fD,eI]at hb;refine⟨.slice (some ⟨g,0,none⟩) n.toNat cap,?_,⟨?_,.inr ⟨g,cap,cur,rfl,q1,q2,by omega,q4,q5,?_⟩⟩,λg' hg=>by rw[hz];exact hg⟩
   .unfold execOp
    rw[ho];simp only[hv,hz,e2,rP,lH]at hb ⊢;have hadd0:(⟨g,0,none⟩:Addr).add 0=⟨g,0,none⟩:=by rw[Addr.add_mid]
    simp[Instr.sliceAt,Instr.slice,run_underlying hu,hb,sizeOf,typeInfo,hinf,hsz,hadd0]
   .rw[iT,hxl]
    exact OP (mM _ (by omega))
   .rw[<-q6,List.take_take,OP (mM _ (by omega))]
 obtain⟨v',he,r2',hblk⟩:=key;unfold Oper.wp;rw[he,Oper.upon_value];have hG0:∀g,aU (ν q)=some g->E.may g/\G g=0:=λg hg=>by simpa using r4 g hg
 refine⟨put_defers ..,cD ν fr v',_,I.new (G':=G) h100 hf hd (some q) (o:=.row e0 sz n.toNat (ts.take (n.toNat*sz)) false) (λk=>?_) rfl rfl rfl (cE _) (λb hb hnk=>⟨rfl,rfl⟩) (λ_ _ _ h=>h) (λk hk=>by cases hk;exact⟨_,hqq⟩) (x:=v') (λg hg=>.inr ⟨q,rfl,hblk g hg⟩) ?_ ?_⟩
 .by_cases h:k=fr
  .subst h;simp[Ab.look]
  .by_cases h':k=q
   .subst h';simp[Ab.look,h,eN h]
   .simp[Ab.look,h,eN h,h',eN h']
 .refine⟨xs.take (n.toNat*sz),by rw[cB];exact r2',by simp[r2],λi u t hu ht=>?_,λg hg=>?_⟩
  .rw[fU]at hu ht
   split at hu
   .rename_i hi
    rw[aI hi]at ht;exact r3 i u t hu ht
   .cases hu
  .rw[cB]at hg
   simpa using hG0 g (hblk g hg)
 .have:DR (cD ν fr v') (σ₁.aP o.dst .any [(fr,some (.row e0 sz n.toNat (ts.take (n.toNat*sz)) false)),(q,none)] fr).nm w G (cD ν fr v' fr) (.own fr):=.own (kN ..) (by rw[cB];exact pF r2')
  rw[cB]at this;exact this
theorem a2h{t e:TypeId}{x:Operand}{lo hi:Option Operand}{a b:Option Int}{sz:Nat}(hu:P.underlying t=some (.slice e))(hs:fP P e=some sz)(ho:o.op = .slice t x lo hi none)(hx:s.ev x=some (.t (.v (.slice none 0 0))))(hlo:pS s lo a)(hhi:pS s hi b)(hz:(Bp a&&Bp b)=true):aW P o s fr (.t (.v (.slice none 0 0))) []:=
 dM λE σ₁ ν G w ac hH I hev=>by
  have hd:=bY (hev x _ hx);obtain⟨kl,e1⟩:=hlo.run (ρ:=ac.eval) (λx d h=>bY (hev x _ h));obtain⟨kh,e2⟩:=hhi.run (ρ:=ac.eval) (λx d h=>bY (hev x _ h));obtain⟨inf,hinf,hsz⟩:=cO.1 hs;rw[aT]at hz;have za:eI a=0/\∀x,a=some x->0<=x:=by
   cases a with
   |none=>exact⟨rfl,λx h=>by cases h⟩
   |some x=>have:=bK hz.1;subst this;exact⟨rfl,λx h=>by cases h;exact Int.le_refl _⟩
  have zb:fD 0 b=0/\∀x,b=some x->0<=x:=by
   cases b with
   |none=>exact⟨rfl,λx h=>by cases h⟩
   |some x=>have:=bK hz.2;subst this;exact⟨rfl,λx h=>by cases h;exact Int.le_refl _⟩
  have hb:=zC (P:=P) (w:=w) (isS:=true) (n:=0) (cap:=0) (lo:=a) (hi:=b) (kl:=kl) (kh:=kh) (by omega) (by omega) za.2 zb.2;rw[za.1,zb.1]at hb;refine⟨.slice none 0 0,?_,.t (.v _ rfl)⟩;unfold execOp;rw[ho];simp only[hd,e1,e2,rP];simp[Instr.sliceAt,Instr.slice,run_underlying hu,hb,sizeOf,typeInfo,hinf]
theorem a3Z{t e:TypeId}{x:Operand}(hu:P.underlying t=some (.slice e))(ho:o.op = .call { callee:=.builtin .cap,args:=#[x],argTypes:=#[t] })(hx:s.ev x=some (.t (.v (.slice none 0 0)))):aW P o s fr (I 0) []:=
 dM λE σ₁ ν G w ac hH I hev=>by
  have hd:=bY (hev x _ hx);refine⟨.int .i64 0,?_,.t (.v _ rfl)⟩;unfold execOp;rw[ho];simp[resolve,invoke,builtin,hd,Builtin.cap_,run_underlying hu,goInt]
end
section
variable{c:Cx}{σ:Vw}{κ:Nat->Bool}{fr:Nat}{o:Oper}{k:X->Wx->O}{r:aF}
theorem a5l(hσ:σ.Ok κ){t:TypeId}{x:Operand}{hi:Option Operand}{q:Nat}(ho:o.op = .slice t x none hi none)(hx:σ.ev x=some (.own q))(h:σ.nA hi (λhi=>Ys c σ fr t q hi k)=some r):dG c σ fr o k r:=by
 obtain⟨b,h,hb⟩:=xZ hσ h;unfold Ys at h;split at h
 .rename_i e e' τ l n hu hq
  split at h
  .rename_i m hm
   split at h
   .rename_i hs
    have hs:=bB hs;subst hs;obtain⟨hd,h⟩:=eL h;obtain⟨h0,hn⟩:=bK hd;refine⟨_,_,h,rfl,λhon=>?_⟩;have:=a3W (P:=c.P) (fr:=fr) hu hm ho (aV hσ hon hx) (dI hq) (hb hon) h0 hn;unfold WA;simp only[iH,vF,lH,rP,XO.A,iT];rw[BN (λx=>dJ τ x)]at this;rw[show min n.toNat l.length=n.toNat by omega];exact this
   .cases h
  .cases h
 .cases h
theorem a5X(hσ:σ.Ok κ){t:TypeId}{x:Operand}{lo hi:Option Operand}(ho:o.op = .slice t x lo hi none)(hx:σ.ev x=some .bW) (h:σ.nA lo (λlo=>σ.nA hi λhi=>match c.P.underlying t with
        |some (.slice e)=>match fP c.P e with
          |some _=>nF (σ.g.map (·.2)) (Bp lo&&Bp hi) (k .bW [])
          |none=>none
        |_=>none)=some r):dG c σ fr o k r:=by
  obtain⟨a,h,ha⟩:=xZ hσ h;obtain⟨b,h,hb⟩:=xZ hσ h;split at h
  .rename_i e hu
   split at h
   .rename_i m hm
    obtain⟨h,hz⟩:=pK h;exact⟨_,_,h,rfl,λhon=>a2h (P:=c.P) (fr:=fr) hu hm ho (aV hσ hon hx) (ha hon) (hb hon) (hz hon.g)⟩
   .cases h
  .cases h
end
theorem aGt{P:Program}{t t' ty e:TypeId}{z:Value}{s bytes:Nat}(hT:mQ P t e z s bytes)(ht':P.underlying t'=some (.int .i64)){n:Nat}(hm:n<=maxLen)(hb:n*bytes<=140737488355328)(w:World):
    ∃v' w',(Builtin.append_ #[t,t'] ty #[.slice none 0 0,.int .i64 n]).run P w = .ok v' w'/\w'.ownsRow 0 e s v' n (cI n z.cells.toList).flatten/\cU w w'/\∀g,aU v'=some g->w.heap.size<=g:=by
 obtain⟨i,hi,hz,h2,h3⟩:=info_parts hT.i;have hmx:n<=9223372036854775807:=by simp only[maxLen]at hm;omega
 have hw:aH.wrap (n:Int)=n:=IntWalk.i64_in _ ⟨by omega,by omega⟩;have hneg:¬ ((n:Int)<0):=by omega
 have hby:¬ (281474976710656<(n:Int)*(i.bytes:Int)):=by
  rw[h3];have:((n*bytes:Nat):Int)<=281474976710656:=by omega
  rw[Zq]at this;omega
 by_cases hn:n=0
 .subst hn
  refine⟨.slice none 0 0,w,?_,by simpa using World.ownsRow_nil w 0 e s,cU.refl w,λg hg=>by cases hg⟩;simp[Builtin.append_,run_underlying hT.u,run_underlying ht',sizeOf,typeInfo,hi,Go.asInt,asIntOf,(show aH.wrap 0=0 by decide)]
 .have hs0:=hT.s
  have h63:¬ (9223372036854775807<(n:Int)):=by omega
  have h48:¬ (281474976710656<Builtin.nextslicecap n 0*i.bytes):=by rw[nextslicecap_zero (by omega),h3];omega
  have hnz:¬ (n*i.size=0):=by rw[h2];exact Nat.ne_of_gt (Nat.mul_pos (by omega) hs0)
  have hnz':¬ (n=0\/i.size=0):=by rw[h2];omega
  have hge:=grownCap_ge w n 0 e;have hcm:grownCap w n 0 e<=maxLen:=grownCap_le_maxLen w n 0 e hm;have hzc:(Builtin.zeroCells z.cells n).toList=(cI n z.cells.toList).flatten:=by
   have:=Xh hT.z hT.s n;rw[<-hT.z]at this;exact this
  have hzl:(Builtin.zeroCells z.cells n).size=n*s:=by rw[size_zeroCells,hT.z]
  refine⟨.slice (some ⟨w.heap.size,0,none⟩) n (grownCap w n 0 e),w.drew.alloc (.cells (Builtin.zeroCells z.cells n++Builtin.zeroCells z.cells (grownCap w n 0 e-n)) e),?_,⟨?_,.inr ⟨w.heap.size,_,_,rfl,o7 _,heap_alloc_new w.drew _,hge,hcm,?_,?_⟩⟩,⟨rfl,rfl,rfl,by simp,λb hb=>heap_alloc_old w.drew _ hb⟩,λg hg=>by cases hg;exact cE _⟩
  .simp[Builtin.append_,run_underlying hT.u,run_underlying ht',sizeOf,typeInfo,zeroValue,hi,hz,Go.asInt,asIntOf,hw,hneg,hby,hn,h63,h48,Question.forced,run_firstCells_none,newRow,grownCap]
   exact λh=>absurd h hnz
  .rw[<-hzc,nJ,hzl]
  .rw[a9f,hzl,size_zeroCells,hT.z,<-kK]
   congr 1
   omega
  .rw[a9e,<-hzc,<-hzl,<-nJ]
   exact OS
theorem a35{P:Program}{o:Oper}{σ:St}{fr:Nat}{t t' e:TypeId}{z:Value}{s bytes:Nat}(st:Bool){x y:Operand}{n:Nat}{zt:List Tree}(hT:mQ P t e z s bytes)(hz:jT z.cells.toList zt)(ht':P.underlying t'=some (.int .i64))(ho:o.op = .call { callee:=.builtin .append,args:=#[x,y],argTypes:=#[t,t'] })
    (hx:σ.ev x=some (.t (.v (.slice none 0 0)))) (hy:σ.ev y=some (I n)) (hb:n*bytes<=140737488355328/\n<=maxLen):aW P o σ fr (.own fr) [(fr,some (.row e s n (cI n zt).flatten st))]:=by
 intro E σ₁ a w hTT hHH h100 hf hd ⟨ν,G,I⟩ Q;have hxv:=bY (I.ev (St.dE hTT hx));have hyv:=bY (I.ev (St.dE hTT hy));obtain⟨v',w',hr,r1,hA,hbk⟩:=aGt (ty:=o.type) hT ht' hb.2 hb.1 w;have he:(execOp a.eval o).run P w = .ok (.value v') w':=by
  unfold execOp;rw[ho];simp[resolve,invoke,builtin,hxv,hyv,hr]
 unfold Oper.wp;rw[he,Oper.upon_value]
 let G':bV:=λb=>if aU v'=some b then(if st then n*s else 0)else G b
 have hG:∀b,b<w.heap.size->G' b=G b:=λb hb'=>aE (λe=>by have:=hbk b e;omega)
 have hzr:=(hz.IP n).rel w' G';refine⟨put_defers ..,_,_,I.fresh (G':=G') h100 hf hd hA hG (x:=v') (λg hg=>hbk g hg) ?_ ?_⟩
 .refine⟨_,by rw[cB];exact r1,hzr.1,hzr.2,λg hg=>?_⟩
  rw[cB]at hg;exact⟨.inl (AF I.kept.size (hbk g hg)),aI hg⟩
 .have:DR (cD ν fr v') (σ₁.aP o.dst .any [(fr,some (.row e s n (cI n zt).flatten st))] fr).nm w' G' (cD ν fr v' fr) (.own fr):=.own (kN ..) (by rw[cB];exact pF r1)
  rw[cB]at this;exact this
theorem a17{P:Program}{t t' ty e:TypeId}{z:Value}{s bytes:Nat}(hT:mQ P t e z s bytes)(ht':P.underlying t'=some (.int .i64)){w:World}{v:Value}{n:Nat}{xs:List Value}(hown:w.ownsRow 0 e s v n xs){m:Nat}
    (h1:∀u∈(cI m z.cells.toList).flatten,u.oneCell'=true) (h63:n+m<=maxLen) (hbytes:(n+m)*bytes<=140737488355328):
    ∃v' w',(Builtin.append_ #[t,t'] ty #[v,.int .i64 m]).run P w = .ok v' w'/\w'.ownsRow 0 e s v' (n+m) (xs++(cI m z.cells.toList).flatten)/\w'.os=w.os/\w'.tape=w.tape/\w'.output=w.output/\w.heap.size<=w'.heap.size /\
     (∀b,b<w.heap.size->v.ownBlock≠some b->w'.heap[b]?=w.heap[b]?)/\(∀g i,v.ownBlock=some g->i<n*s->w'.cell? ⟨g,i,none⟩=w.cell? ⟨g,i,none⟩)/\∀g,v'.ownBlock=some g->w.heap.size<=g\/v.ownBlock=some g:=by
 obtain⟨i,hi,hz,h2,h3⟩:=info_parts hT.i;have hs0:=hT.s;have hmx:m<=9223372036854775807:=by simp only[maxLen]at h63;omega
 have hw:aH.wrap (m:Int)=m:=IntWalk.i64_in _ ⟨by omega,by omega⟩;have hneg:¬ ((m:Int)<0):=by omega
 have hmb:m*bytes<=(n+m)*bytes:=mM _ (Nat.le_add_left _ _);have hby:¬ (281474976710656<(m:Int)*(i.bytes:Int)):=by
  rw[h3];have:((m*bytes:Nat):Int)<=281474976710656:=by omega
  rw[Zq]at this;omega
 have hzc:(Builtin.zeroCells z.cells m).toList=(cI m z.cells.toList).flatten:=by
  have:=Xh hT.z hT.s m;rw[<-hT.z]at this;exact this
 have hzl:(Builtin.zeroCells z.cells m).size=m*s:=by rw[size_zeroCells,hT.z]
 generalize hnews:(cI m z.cells.toList).flatten=news at *
 have hnl:news.length=m*s:=by rw[<-hzc,nJ,hzl]
 have hza:Builtin.zeroCells z.cells m=news.toArray:=by rw[<-hzc]
 have hlen:(xs++news).length=(n+m)*s:=by rw[aL,hown.1,hnl,kK]
 rcases hown.2 with⟨rfl,rfl⟩|⟨g,cap,cur,rfl,_,hg,hnc,hcm,hcs,htake⟩
 .have hx:xs=[]:=AH (by simpa using hown.1)
  subst hx;obtain⟨v',w',hr,r1,hA,hbk⟩:=aGt (ty:=ty) hT ht' (n:=m) (by omega) (by omega) w;refine⟨v',w',hr,?_,hA.os,hA.tape,hA.output,hA.size,λb hb _=>hA.block b hb,(λg i hg _=>by cases hg),λg hg=>.inl (hbk g (by rw[kR r1];exact hg))⟩;rw[eC,k7,<-hnews];exact r1
 .by_cases hm:m=0
  .subst hm
   have:news=[]:=AH (by simpa using hnl);subst this;refine⟨_,w,?_,by simpa using hown,rfl,rfl,rfl,cE _,λ_ _ _=>rfl,λ_ _ _ _=>rfl,λg hg=>.inr hg⟩;simp[Builtin.append_,run_underlying hT.u,run_underlying ht',sizeOf,typeInfo,hi,Go.asInt,asIntOf,(show aH.wrap 0=0 by decide),hnc,storeCells]
  .have hnz:¬ (m*i.size=0):=by rw[h2];exact Nat.ne_of_gt (Nat.mul_pos (by omega) hs0)
   by_cases hroom:n+m<=cap
   .have hfit:n*i.size+news.length<=cur.size:=by rw[hnl,hcs,h2,<-kK];exact mM _ hroom
    have hst:=run_storeCells_at P g (n*i.size) e news 0 cur w hg (by simpa using hfit) h1;simp only[Nat.add_zero]at hst;have hr:(Builtin.append_ #[t,t'] ty #[.slice (some ⟨g,0,none⟩) n cap,.int .i64 m]).run P w = .ok (.slice (some ⟨g,0,none⟩) (n+m) cap) (w.setRow g (cur.toList.take (n*i.size)++news++cur.toList.drop (n*i.size+news.length)).toArray):=by
     simp[Builtin.append_,run_underlying hT.u,run_underlying ht',sizeOf,typeInfo,zeroValue,hi,hz,Go.asInt,asIntOf,hw,hneg,hby,hroom,hza,Addr.add_lit,hst];exact λh=>absurd h hnz
    have r2:(w.setRow g (cur.toList.take (n*i.size)++news++cur.toList.drop (n*i.size+news.length)).toArray).ownsRow 0 e s (.slice (some ⟨g,0,none⟩) (n+m) cap) (n+m) (xs++news):=by
     refine⟨hlen,.inr ⟨g,cap,_,rfl,o7 _,setRow_heap w g cur _ e _ hg,hroom,hcm,?_,?_⟩⟩
     .simp only[a9G,aL,iT,lI,nJ]
      rw[hnl,hcs,h2];have:(n+m)*s<=cap*s:=mM _ hroom;rw[kK]at this;omega
     .rw[h2,htake,<-hlen]
      exact OS
    refine⟨_,_,hr,r2,rfl,rfl,rfl,by simp,λb _ hb=>setRow_other w g b _ (λe=>hb (by simp[Value.ownBlock,e])),λg' j hg' hj=>?_,λg' hg'=>.inr hg'⟩;have e1:g'=g:=by simpa[Value.ownBlock]using hg'.symm
    subst e1;have hx:xs[j]?=some (xs[j]'(by rw[hown.1];exact hj)):=dC _;have c1:=hown.cells (g:=g') rfl j _ hx;have c2:=r2.cells (g:=g') rfl j _ (by rw[dV (by rw[hown.1];exact hj)];exact hx);rw[Addr.add_mid,eC]at c1 c2;rw[c1,c2]
   .have holds:∀j u,xs[j]?=some u->w.cell? ((⟨g,0,none⟩:Addr).add j)=some u:=hown.cells (g:=g) rfl
    have hfo:=run_firstCells_some (P:=P) w.drew i.size n ⟨g,0,none⟩ n cap xs (by rw[h2];exact hown.1) (by simpa using holds);have h48':¬ (281474976710656<Builtin.nextslicecap (n+m) cap*i.bytes):=by
     have:=growslice_fits (need:=n+m) (old:=cap) (bytes:=bytes) (by omega) hbytes;rw[h3];omega
    have h63':¬ (9223372036854775807<((n:Int)+(m:Int))):=by simp only[maxLen]at h63;omega
    have hr:(Builtin.append_ #[t,t'] ty #[.slice (some ⟨g,0,none⟩) n cap,.int .i64 m]).run P w =
        .ok (.slice (some ⟨w.heap.size,0,none⟩) (n+m) (grownCap w (n+m) cap e)) (w.drew.alloc (.cells ((xs++news).toArray++Builtin.zeroCells z.cells (grownCap w (n+m) cap e-(n+m))) e)):=by
     simp[Builtin.append_,run_underlying hT.u,run_underlying ht',sizeOf,typeInfo,zeroValue,hi,hz,Go.asInt,asIntOf,hw,hneg,hby,hroom,h63',h48',Question.forced,hza,hfo,newRow,grownCap];rw[aE hnz]
     congr 3
     apply wX;simp
    have hge:=grownCap_ge w (n+m) cap e;have hcm':grownCap w (n+m) cap e<=maxLen:=grownCap_le_maxLen w (n+m) cap e h63;refine⟨_,_,hr,⟨hlen,.inr ⟨w.heap.size,_,_,rfl,o7 _,heap_alloc_new w.drew _,hge,hcm',?_,?_⟩⟩,rfl,rfl,rfl,by simp,λb hb _=>heap_alloc_old w.drew _ hb,λg' j hg' hj=>?_,λg' hg'=>?_⟩
    .simp only[a9f,a9G,size_zeroCells,hT.z,hlen,<-kK]
     congr 1
     omega
    .simp only[a9e]
     rw[<-hlen];exact OS
    .have e1:g'=g:=by simpa[Value.ownBlock]using hg'.symm
     subst e1;exact World.cell?_of_block (a:=⟨g',j,none⟩) (heap_alloc_old w.drew _ (hown.lt g' rfl).2)
    .simp only[Value.ownBlock,Option.some.injEq]at hg'
     exact .inl (by omega)
theorem a18{P:Program}{t u ty e:TypeId}{i:TypeInfo}(ht:P.underlying t=some (.slice e))(hu:P.underlying u=some .string)(hi:P.info? e=some i)(hz:i.zero=some (.int .u8 0))(hsize:i.size=1)(hby:i.bytes=1)
    {w:World} {v:Value} {n:Nat} {xs:List Value} (hown:w.ownsRow 0 e 1 v n xs) (s:ByteArray) (h63:n+s.size<=maxLen) (hbytes:n+s.size<=140737488355328):
    ∃v' w',(Builtin.append_ #[t,u] ty #[v,.string s]).run P w = .ok v' w'/\w'.ownsRow 0 e 1 v' (n+s.size) (xs++Lib.strCells s)/\w'.os=w.os/\w'.tape=w.tape/\w'.output=w.output/\w.heap.size<=w'.heap.size /\
     (∀b,b<w.heap.size->v.ownBlock≠some b->w'.heap[b]?=w.heap[b]?)/\(∀g i,v.ownBlock=some g->i<n*1->w'.cell? ⟨g,i,none⟩=w.cell? ⟨g,i,none⟩)/\∀g,v'.ownBlock=some g->w.heap.size<=g\/v.ownBlock=some g:=by
 obtain⟨v',w',hr,r2,r3,r4⟩:=Lib.run_append_own_string (P:=P) w 0 t u ty e i ht hu hi hz hsize hby v n xs hown s h63 hbytes (o7 _);have hxl:xs.length=n:=by simpa using hown.1
 have key:(v'.ownBlock=v.ownBlock/\(s.size=0\/v'.ownBlock≠none))\/(v'.ownBlock=some w.heap.size/\∀b,b<w.heap.size->w'.heap[b]?=w.heap[b]?):=by
  rcases hown.2 with⟨rfl,rfl⟩|⟨g,cap,cur,rfl,_,hg,hnc,hcm,hcs,htake⟩
  .by_cases hm:s.size=0
   .left
    rw[r4.2 ⟨rfl,hm⟩];exact⟨rfl,.inl hm⟩
   .right
    have hr':=run_append_nil_string (P:=P) w t u ty e i (.int .u8 0) ht hu hi hz s (by omega) (by simp only[maxLen]at h63;omega) (by rw[hby];omega);rw[hr']at hr;cases hr;exact⟨rfl,λb hb=>heap_alloc_old _ _ hb⟩
  .by_cases hroom:n+s.size<=cap
   .left
    have hcs':cur.size=cap:=by simpa using hcs
    have hr':=Lib.run_append_room_string (P:=P) w t u ty e i ht hu hi hsize g n cap cur hg s hroom (by omega);rw[hr']at hr;cases hr;exact⟨rfl,.inr (by simp[Value.ownBlock])⟩
   .right
    have holds:∀j u,xs[j]?=some u->w.cell? ((⟨g,0,none⟩:Addr).add j)=some u:=hown.cells (g:=g) rfl
    have hr':=Lib.run_append_grow_string (P:=P) w t u ty e i (.int .u8 0) ht hu hi hz ⟨g,0,none⟩ n cap xs (by rw[hsize];simpa using hxl) holds s (by omega) (by simp only[maxLen]at h63;omega) (by rw[hby];exact growslice_fits (by omega) (by omega));rw[hr']at hr;cases hr;exact⟨rfl,λb hb=>heap_alloc_old _ _ hb⟩
 refine⟨v',w',hr,r2,r3.os,r3.tape,r3.output,r3.size,λb hb hne=>r3.block b hb (λe=>hne e.symm),λg j hg hj=>?_,λg hg=>?_⟩
 .have hgl:g<w.heap.size:=(hown.lt g hg).2
  rcases key with⟨k1,_⟩|⟨_,k2⟩
  .have hx:xs[j]?=some (xs[j]'(by rw[hown.1];exact hj)):=dC _
   have c1:=hown.cells hg j _ hx;have c2:=r2.cells (g:=g) (by rw[k1];exact hg) j _ (by rw[dV (by rw[hown.1];exact hj)];exact hx);rw[Addr.add_mid,eC]at c1 c2;rw[c1,c2]
  .exact World.cell?_of_block (a:=⟨g,j,none⟩) (k2 g hgl)
 .rcases key with⟨k1,_⟩|⟨k1,_⟩
  .exact .inr (by rw[<-k1];exact hg)
  .rw[k1]at hg;cases hg;exact .inl (cE _)
theorem ZA{P:Program}{e:TypeId}(h:JL P e=true):∃i,P.info? e=some i/\i.zero=some (.int .u8 0)/\i.size=1/\i.bytes=1:=by
 unfold JL at h;split at h
 .rename_i i hi
  split at h
  .rename_i hz
   rw[aT]at h;exact⟨i,hi,hz,bB h.1,bB h.2⟩
  .cases h
 .cases h
theorem a34{P:Program}{o:Oper}{σ:St}{fr:Nat}{t t' e:TypeId}{z:Value}{size bytes:Nat}(st:Bool){s x:Operand}{k n m:Nat}{ts zt:List Tree}(hT:mQ P t e z size bytes)(hz:jT z.cells.toList zt)(ht':P.underlying t'=some (.int .i64))(ho:o.op = .call { callee:=.builtin .append,args:=#[s,x],argTypes:=#[t,t'] })
    (hs:σ.ev s=some (.own k)) (hk:σ.H k=some (.row e size n ts st)) (hx:σ.ev x=some (I m)) (hb:(n+m)*bytes<=140737488355328/\n+m<=maxLen):aW P o σ fr (.own fr) (jB (some k) fr (.row e size (n+m) (ts++(cI m zt).flatten) st)):=by
 intro E σ₁ a w hTT hHH h100 hf hd ⟨ν,G,I⟩ Q;have hxv:=bY (I.ev (St.dE hTT hx));have hzr:=(hz.IP m).rel w G;have hone:∀u∈(cI m z.cells.toList).flatten,u.oneCell'=true:=λu hu=>by
  obtain⟨i,hi⟩:=iS.1 hu;have hlt:i<((cI m zt).flatten).length:=by rw[<-hzr.1];exact(bZ.1 hi).1
  exact(hzr.2 i u _ hi (dC hlt)).one
 have hrow:∃v xs,a.eval s=v/\w.ownsRow 0 e size v n xs/\xs.length=ts.length/\(∀(i:Nat)(u:Value)(t:Tree),xs[i]?=some u->ts[i]?=some t->TR w G u t)/\(∀k',some k'=some k->ν k'=v/\∃ob,σ₁.H k'=some ob)/\(some k=none->v.ownBlock=none) /\
     (∀g,v.ownBlock=some g->E.may g/\G g=if st then n*size else 0):=by
  have hv:=I.ev (St.dE hTT hs);obtain⟨v,he⟩:∃v,a.eval s=v:=⟨_,rfl⟩
  rw[he]at hv;cases hv with
  |own _ _=>
    obtain⟨xs,r1,r2,r3,r4⟩:=(I.H _ _ (hHH _ _ hk)).2;exact⟨_,xs,he,r1,r2,r3,(λk' hk'=>by cases hk';exact⟨rfl,_,hHH _ _ hk⟩),(λe=>by cases e),λg hg=>r4 g (ZC hg)⟩
 obtain⟨v,xs,hsv,hown,hxl,hxt,hk0,hk0n,hmay⟩:=hrow;obtain⟨v',w',hr,r2,q1,q2,q3,q4,q5,q6,q7⟩:=a17 (ty:=o.type) hT ht' hown (m:=m) hone hb.2 hb.1;generalize hus:(cI m z.cells.toList).flatten=us at *
 generalize hys:(cI m zt).flatten=ys at *
 have hul:=hzr.1;have htr:=hzr.2;have hk0o:∃k0,k0=some k:=⟨_,rfl⟩
 obtain⟨k0,hk0e⟩:=hk0o;rw[<-hk0e]at hk0 hk0n ⊢;unfold Oper.wp;have he:(execOp a.eval o).run P w = .ok (.value v') w':=by
  unfold execOp;rw[ho];simp[resolve,invoke,builtin,hsv,hxv,hr]
 rw[he,Oper.upon_value];have hcell:∀b i u,Cell w G b i u->Cell w' (λb=>if v'.ownBlock=some b then(if st then(n+m)*size else 0)else G b) b i u:=λb i u h=>by
  by_cases hb':v.ownBlock=some b
  .have hG:=(hmay b hb').2
   have h2:=h.2;rw[hG]at h2;cases st with
   |false=>simp at h2
   |true=>
     simp only[iO]at h2 hG;refine⟨(q6 b i hb' h2).trans h.1,?_⟩;show i<if v'.ownBlock=some b then(if true=true then(n+m)*size else 0)else G b
     split
     .simp only[iO]
      exact tD h2 (mM _ (Zf _ _))
     .rw[hG];exact h2
  .refine⟨(World.cell?_of_block (a:=⟨b,i,none⟩) (q5 b h.lt hb')).trans h.1,?_⟩
   have:v'.ownBlock≠some b:=λe=>by
    rcases q7 b e with h'|h'
    .have:=h.lt;omega
    .exact hb' h'
   simp only[aE this];exact h.2
 have hblkv:∀g,aU v'=some g->v'.ownBlock=some g:=λg hg=>by rw[<-kR r2];exact hg
 refine⟨put_defers ..,cD ν fr v',_,I.new h100 hf hd k0 (o:=.row e size (n+m) (ts++ys) st) (λk=>?_) q1 q2 q3 q4 (λb hb hnk=>?_) hcell (λk hk=>(hk0 k hk).2) (x:=v') (λg hg=>?_) ?_ ?_⟩
 .cases k0 with
  |none=>
    by_cases h:k=fr
    .subst h;simp[jB,Ab.look]
    .simp[jB,Ab.look,h,eN h]
  |some j=>
    by_cases h:k=fr
    .subst h;simp[jB,Ab.look]
    .by_cases h':k=j
     .subst h';simp[jB,Ab.look,h,eN h]
     .simp[jB,Ab.look,h,eN h,h',eN h']
 .have hne:v.ownBlock≠some b:=λe=>by
   cases k0 with
   |none=>rw[hk0n rfl]at e;cases e
   |some j=>exact hnk j rfl (by rw[(hk0 j rfl).1,kR hown];exact e)
  refine⟨q5 b hb hne,aE (λe=>?_)⟩;rcases q7 b e with h|h
  .omega
  .exact hne h
 .rcases q7 g (hblkv g hg)with h|h
  .exact .inl h
  .cases k0 with
   |none=>rw[hk0n rfl]at h;cases h
   |some j=>exact .inr ⟨j,rfl,by rw[(hk0 j rfl).1,kR hown];exact h⟩
 .refine⟨xs++us,by rw[cB];exact r2,by simp[hxl,hul],λi u t hu ht=>?_,λg hg=>?_⟩
  .by_cases hi:i<xs.length
   .rw[dV hi]at hu
    rw[dV (by omega)]at ht;exact(hxt i u t hu ht).mono hcell
   .rw[dN (by omega)]at hu
    rw[dN (by omega)]at ht;exact(htr _ u t hu (by rw[hxl];exact ht)).mono hcell
  .rw[cB]at hg
   have hg':=hblkv g hg;refine⟨?_,aI hg'⟩;rcases q7 g hg' with h|h
   .exact .inl (AF I.kept.size h)
   .exact(hmay g h).1
 .have:DR (cD ν fr v') (σ₁.aP o.dst .any (jB k0 fr (.row e size (n+m) (ts++ys) st)) fr).nm w' (λb=>if v'.ownBlock=some b then(if st then(n+m)*size else 0)else G b) (cD ν fr v' fr) (.own fr):=.own (kN ..) (by rw[cB];exact pF r2)
  rw[cB]at this;exact this
theorem aHb{P:Program}{o:Oper}{σ:St}{fr:Nat}{t t' e:TypeId}{z:Value}{bytes:Nat}(st:Bool){s x:Operand}{k0:Option Nat}{n:Nat}{ts:List Tree}{tx:List UInt8}(hT:mQ P t e z 1 bytes)(hB:JL P e=true)(ht':P.underlying t'=some .string)(ho:o.op = .call { callee:=.builtin .append,args:=#[s,x],argTypes:=#[t,t'] })
    (hs:J3 σ s e 1 st k0 n ts) (hx:σ.ev x=some (.t (.v (.string ⟨⟨tx⟩⟩)))) (hb:n+tx.length<=140737488355327):aW P o σ fr (.own fr) (jB k0 fr (.row e 1 (n+tx.length) (ts++tx.map λb=>Tree.v (.int .u8 b.toNat)) st)):=by
 intro E σ₁ a w hTT hHH h100 hf hd ⟨ν,G,I⟩ Q;have hxv:=bY (I.ev (St.dE hTT hx));obtain⟨i,hi,hiz,his,hib⟩:=ZA hB;have hst:P.underlying t=some (.slice e):=hT.u;have hrow:∃v xs,a.eval s=v/\w.ownsRow 0 e 1 v n xs/\xs.length=ts.length/\(∀(i:Nat)(u:Value)(t:Tree),xs[i]?=some u->ts[i]?=some t->TR w G u t)/\(∀k',some k'=k0->ν k'=v/\∃ob,σ₁.H k'=some ob)/\(k0=none->v.ownBlock=none) /\
     (∀g,v.ownBlock=some g->E.may g/\G g=if st then n*1 else 0):=by
  cases hs with
  | @own k _ _ h hk=>
    have hv:=I.ev (St.dE hTT h);obtain⟨v,he⟩:∃v,a.eval s=v:=⟨_,rfl⟩
    rw[he]at hv;cases hv with
    |own _ _=>
      obtain⟨xs,r1,r2,r3,r4⟩:=(I.H _ _ (hHH _ _ hk)).2;exact⟨_,xs,he,r1,r2,r3,(λk' hk'=>by cases hk';exact⟨rfl,_,hHH _ _ hk⟩),(λe=>by cases e),λg hg=>r4 g (ZC hg)⟩
  |nil h=>
    have hv:=bY (I.ev (St.dE hTT h));exact⟨_,[],hv,World.ownsRow_nil w 0 e 1,rfl,(λi u t h=>by simp at h),(λk h=>by cases h),(λ_=>rfl),(λg hg=>by cases hg)⟩
  |aHt h hn=>exact hn.elim
 obtain⟨v,xs,hsv,hown,hxl,hxt,hk0,hk0n,hmay⟩:=hrow;obtain⟨v',w',hr,r2,q1,q2,q3,q4,q5,q6,q7⟩:=a18 (ty:=o.type) hst ht' hi hiz his hib hown ⟨⟨tx⟩⟩ (by show n+tx.length<=maxLen;simp only[maxLen];omega) (by show n+tx.length<=_;omega);have hsz:(⟨⟨tx⟩⟩:ByteArray).size=tx.length:=rfl;rw[hsz]at r2;obtain⟨m,hm⟩:∃m,tx.length=m:=⟨_,rfl⟩
 have hul:(Lib.strCells ⟨⟨tx⟩⟩).length=(tx.map λb=>Tree.v (.int .u8 b.toNat)).length:=by simp[Lib.strCells]
 have htr:∀(i:Nat)(u:Value)(t:Tree),(Lib.strCells ⟨⟨tx⟩⟩)[i]?=some u->(tx.map λb=>Tree.v (.int .u8 b.toNat))[i]?=some t->TR w G u t:=λi u t hu ht=>by
  simp only[Lib.strCells,cZ]at hu ht;cases hb':tx[i]? with
  |none=>rw[hb']at ht;cases ht
  |some b=>rw[hb']at hu ht;cases hu;cases ht;exact .v _ rfl
 rw[hm]at r2 ⊢;generalize hus:Lib.strCells ⟨⟨tx⟩⟩=us at *
 generalize hys:(tx.map λb=>Tree.v (.int .u8 b.toNat))=ys at *
 unfold Oper.wp;have he:(execOp a.eval o).run P w = .ok (.value v') w':=by
  unfold execOp;rw[ho];simp[resolve,invoke,builtin,hsv,hxv,hr]
 rw[he,Oper.upon_value];have hcell:∀b i u,Cell w G b i u->Cell w' (λb=>if v'.ownBlock=some b then(if st then(n+m)*1 else 0)else G b) b i u:=λb i u h=>by
  by_cases hb':v.ownBlock=some b
  .have hG:=(hmay b hb').2
   have h2:=h.2;rw[hG]at h2;cases st with
   |false=>simp at h2
   |true=>
     simp only[iO]at h2 hG;refine⟨(q6 b i hb' h2).trans h.1,?_⟩;show i<if v'.ownBlock=some b then(if true=true then(n+m)*1 else 0)else G b
     split
     .simp only[iO]
      exact tD h2 (mM _ (Zf _ _))
     .rw[hG];exact h2
  .refine⟨(World.cell?_of_block (a:=⟨b,i,none⟩) (q5 b h.lt hb')).trans h.1,?_⟩
   have:v'.ownBlock≠some b:=λe=>by
    rcases q7 b e with h'|h'
    .have:=h.lt;omega
    .exact hb' h'
   simp only[aE this];exact h.2
 have hblkv:∀g,aU v'=some g->v'.ownBlock=some g:=λg hg=>by rw[<-kR r2];exact hg
 refine⟨put_defers ..,cD ν fr v',_,I.new h100 hf hd k0 (o:=.row e 1 (n+m) (ts++ys) st) (λk=>?_) q1 q2 q3 q4 (λb hb hnk=>?_) hcell (λk hk=>(hk0 k hk).2) (x:=v') (λg hg=>?_) ?_ ?_⟩
 .cases k0 with
  |none=>
    by_cases h:k=fr
    .subst h;simp[jB,Ab.look]
    .simp[jB,Ab.look,h,eN h]
  |some j=>
    by_cases h:k=fr
    .subst h;simp[jB,Ab.look]
    .by_cases h':k=j
     .subst h';simp[jB,Ab.look,h,eN h]
     .simp[jB,Ab.look,h,eN h,h',eN h']
 .have hne:v.ownBlock≠some b:=λe=>by
   cases k0 with
   |none=>rw[hk0n rfl]at e;cases e
   |some j=>exact hnk j rfl (by rw[(hk0 j rfl).1,kR hown];exact e)
  refine⟨q5 b hb hne,aE (λe=>?_)⟩;rcases q7 b e with h|h
  .omega
  .exact hne h
 .rcases q7 g (hblkv g hg)with h|h
  .exact .inl h
  .cases k0 with
   |none=>rw[hk0n rfl]at h;cases h
   |some j=>exact .inr ⟨j,rfl,by rw[(hk0 j rfl).1,kR hown];exact h⟩
 .refine⟨xs++us,by rw[cB];exact r2,by simp[hxl,hul],λi u t hu ht=>?_,λg hg=>?_⟩
  .by_cases hi:i<xs.length
   .rw[dV hi]at hu
    rw[dV (by omega)]at ht;exact(hxt i u t hu ht).mono hcell
   .rw[dN (by omega)]at hu
    rw[dN (by omega)]at ht;exact(htr _ u t hu (by rw[hxl];exact ht)).mono hcell
  .rw[cB]at hg
   have hg':=hblkv g hg;refine⟨?_,aI hg'⟩;rcases q7 g hg' with h|h
   .exact .inl (AF I.kept.size h)
   .exact(hmay g h).1
 .have:DR (cD ν fr v') (σ₁.aP o.dst .any (jB k0 fr (.row e 1 (n+m) (ts++ys) st)) fr).nm w' (λb=>if v'.ownBlock=some b then(if st then(n+m)*1 else 0)else G b) (cD ν fr v' fr) (.own fr):=.own (kN ..) (by rw[cB];exact pF r2)
  rw[cB]at this;exact this
section
variable{c:Cx}{σ:Vw}{κ:Nat->Bool}{fr:Nat}{o:Oper}{k:X->Wx->O}{r:aF}
theorem WT:∀l:List UInt8,bR (aM .u8) l=l.map λb=>Tree.v (.int .u8 b.toNat)
 |[]=>rfl
 |b::l=>aR (λts=>Tree.v (.int .u8 b.toNat)::ts) (WT l)
theorem aI2(e:TypeId)(l s:List UInt8)(st:Bool):(XO.row e .u8 (l++s) st).A = .row e 1 (dR l+dR s) (bR (aM .u8) l++s.map λb=>Tree.v (.int .u8 b.toNat)) st:=by
 have e1:(XO.row e .u8 (l++s) st).A = .row e 1 (dR (l++s)) (bR (aM .u8) (l++s:List UInt8)) st:=rfl;rw[e1,WT (l++s),WT l,aL,gH]
theorem a5y(hσ:σ.Ok κ){t t':TypeId}{x y:Operand}{st:Bool}(ho:o.op = .call { callee:=.builtin .append,args:=#[x,y],argTypes:=#[t,t'] })(h:ZR c σ fr st t t' x y k=some r):dG c σ fr o k r:=by
 unfold ZR at h;obtain⟨⟨e,τ,b⟩,hE,h⟩:=bF h;simp only at h;obtain⟨v,hv,h2⟩:=bF h;clear h;obtain⟨w,hw,h⟩:=bF h2;clear h2;split at h
 .rename_i n ht
  unfold If at h;obtain⟨h0,h⟩:=eL h;obtain⟨hb,h⟩:=eL h;refine⟨_,_,h,rfl,λhon=>?_⟩;obtain⟨z,hA,hz⟩:=o4 hE;have h0:(0:Int)<=(n:Int):=bK (p:=(0:Int)<=(show Int from n)) h0;unfold bE at hb;have hb:=bK hb;have hn:((OZ n:Nat):Int)=n:=J0 h0;have hy1:σ.den.ev y=some (I (OZ n:Nat)):=by
   rw[hn];exact aV hσ hon hw
  have:=a35 (P:=c.P) (fr:=fr) st hA hz ht ho (aV hσ hon hv) hy1 ⟨hb.1,by simp only[maxLen];have:=hb.2;omega⟩;have hfl:∀m:Nat,(cI m τ.zero).flatMap (aM τ)=(cI m (aM τ τ.zero)).flatten:=λm=>by
   induction m with
   |zero=>rfl
   |succ m ih=>rw[pN,pN,fV,E5,ih]
  unfold WA;simp only[iH,vF,lH,XO.A,wT,hfl];exact this
 .rename_i q n ht
  split at h
  .rename_i e' τ' l st' hq
   generalize eV τ' τ=p at h;cases p with
   |none=>cases h
   |some g=>
     obtain⟨g⟩:=g;subst g;simp only at h;split at h
     .rename_i hb
      have hb:=bB hb;subst hb;have h:YP τ' e' fr b q st' l n k=some r:=h;unfold YP at h;obtain⟨h0,h⟩:=eL h;obtain⟨hb,h⟩:=eL h;refine⟨_,_,h,rfl,λhon=>?_⟩;obtain⟨z,hA,hz⟩:=o4 hE;have h0:(0:Int)<=(n:Int):=bK (p:=(0:Int)<=(show Int from n)) h0;unfold bE at hb;have hb:=bK hb;have hn:((OZ n:Nat):Int)=n:=J0 h0;have hy1:σ.den.ev y=some (I (OZ n:Nat)):=by
       rw[hn];exact aV hσ hon hw
      have:=a34 (P:=c.P) (fr:=fr) st' hA hz ht ho (k:=q) (n:=dR l) (m:=OZ n) (ts:=bR (aM τ') l) (aV hσ hon hv) (by rw[dI hq];rfl) hy1 ⟨hb.1,by simp only[maxLen];have:=hb.2;omega⟩;have hfl:∀m:Nat,(cI m τ'.zero).flatMap (aM τ')=(cI m (aM τ' τ'.zero)).flatten:=λm=>by
       induction m with
       |zero=>rfl
       |succ m ih=>rw[pN,pN,fV,E5,ih]
      unfold WA;simp only[iH,vF,lH,rP,XO.A];rw[aL,wT,OW,hfl];exact this
     .cases h
  .cases h
 .rename_i s ht
  split at h
  .rename_i hb
   obtain⟨hl,h⟩:=eL h;refine⟨_,_,h,rfl,λhon=>?_⟩;obtain⟨z,hA,hz⟩:=o4 hE;unfold bE at hl;have hl:=(bK hl).2;have hA1:mQ c.P t e z 1 b:=by
    obtain⟨i,hi,_,his,_⟩:=ZA hb;have hs:τ.size=1:=by
     have:=hA.i;rw[hi]at this;have h2:=aR (λp=>p.2.1) (gZ this);simp only at h2;omega
    rw[<-hs];exact hA
   have:=aHb (P:=c.P) (fr:=fr) st hA1 hb ht ho (n:=0) (ts:=[]) (tx:=s) (.nil (aV hσ hon hv)) (aV hσ hon hw) (by omega);unfold WA;simp only[iH,vF,lH];have e1:(XO.row e .u8 s st).A = .row e 1 (0+dR s) ([]++s.map λb=>Tree.v (.int .u8 b.toNat)) st:=aI2 e [] s st;rw[e1];exact this
  .cases h
 .rename_i q s ht
  split at h
  .rename_i e' l st' hq
   split at h
   .rename_i hb
    rw[aT]at hb;have hbe:=bB hb.1;subst hbe;have h:YQ e' fr q st' l s k=some r:=h;unfold YQ at h;obtain⟨hl,h⟩:=eL h;refine⟨_,_,h,rfl,λhon=>?_⟩;obtain⟨z,hA,hz⟩:=o4 hE;unfold bE at hl;have hl:=(bK hl).2;have hA1:mQ c.P t e' z 1 b:=by
     obtain⟨i,hi,_,his,_⟩:=ZA hb.2;have hs:τ.size=1:=by
      have:=hA.i;rw[hi]at this;have h2:=aR (λp=>p.2.1) (gZ this);simp only at h2;omega
     rw[<-hs];exact hA
    have:=aHb (P:=c.P) (fr:=fr) st' hA1 hb.2 ht ho (n:=dR l) (ts:=bR (aM .u8) l) (tx:=s) (.own (aV hσ hon hv) (by rw[dI hq];rfl)) (aV hσ hon hw) hl;unfold WA;simp only[iH,vF,lH,rP];rw[aI2 e' l s st'];exact this
   .cases h
  .cases h
 .cases h
end
section
variable{c:Cx}{σ:Vw}{κ:Nat->Bool}{fr:Nat}{o:Oper}{k:X->Wx->O}{r:aF}
theorem Wt{P:Program}{t:TypeId}{ms:_}(hu:P.underlying t=some (.interface ms))(w:World):(Op.equal t .nilIface .nilIface).run P w = .ok true w:=by
 obtain⟨d,hd⟩:∃d,Op.maxDepth=d+1:=⟨9999,rfl⟩
 unfold Op.equal;rw[hd];simp[Op.equalIn,run_underlying hu]
theorem a1Z{P:Program}{t te:TypeId}{pe:Value}{ms:_}(hu:P.underlying t=some (.interface ms))(w:World):(Op.equal t (.iface te pe) .nilIface).run P w = .ok false w:=by
 obtain⟨d,hd⟩:∃d,Op.maxDepth=d+1:=⟨9999,rfl⟩
 unfold Op.equal;rw[hd];simp[Op.equalIn,run_underlying hu]
theorem aHR{P:Program}{s:St}{fr:Nat}{o:Oper}{op:BinOp}{xt yt:TypeId}{x:Operand}{cv:Value}{q j:Nat}{ms:_}{b:Bool}(hu:P.underlying xt=some (.interface ms))(ho:o.op = .binOp op xt x (.const cv) yt)(hx:s.ev x=some (.via q (iN (j+2))))(hy:s.ev (.const cv)=some (.t (.v .nilIface)))(hop:(op = .eql/\b=decide (j=1))\/(op = .neq/\b=decide (j≠1))):aW P o s fr (.t (.v (.bool b))) []:=
 dM λ_ _ _ _ w a _ _ hev=>by
  have h2:=bY (hev (.const cv) _ hy);refine⟨.bool b,?_,.t (.v _ rfl)⟩;have hv:(j=1/\a.eval x = .nilIface)\/(j≠1/\∃te pe,a.eval x = .iface te pe):=by
   have:=hev x _ hx;generalize a.eval x=v at this ⊢;cases this with|via hk h h1=>exact h
  have:=Wt hu w;have g:∀(te:TypeId)(pe:Value),eqGuard op xt x (.const cv) (.iface te pe) .nilIface=pure ():=λte pe=>by cases op <;> rfl
  unfold execOp;rw[ho];simp only[h2];rcases hv with⟨hj,hv⟩|⟨hj,te,pe,hv⟩
  .rw[hv,eqGuard_nil_constR]
   rcases hop with⟨rfl,rfl⟩|⟨rfl,rfl⟩ <;> simp[binOp,this,hj]
  .rw[hv,g]
   have:=a1Z (te:=te) (pe:=pe) hu w;rcases hop with⟨rfl,rfl⟩|⟨rfl,rfl⟩ <;> simp[binOp,this,hj]
theorem aGp{P:Program}{t e:TypeId}(hu:P.underlying t=some (.slice e))(w:World):(Op.equal t (.slice none 0 0) (.slice none 0 0)).run P w = .ok true w:=by
 obtain⟨d,hd⟩:∃d,Op.maxDepth=d+1:=⟨9999,rfl⟩
 unfold Op.equal;rw[hd];simp[Op.equalIn,run_underlying hu]
theorem a1Y{P:Program}{t e:TypeId}(hu:P.underlying t=some (.slice e)){a:Addr}{n c:Nat}(w:World):(Op.equal t (.slice (some a) n c) (.slice none 0 0)).run P w = .ok false w:=by
 obtain⟨d,hd⟩:∃d,Op.maxDepth=d+1:=⟨9999,rfl⟩
 unfold Op.equal;rw[hd];simp[Op.equalIn,run_underlying hu]
theorem YN{op:BinOp}{t:TypeId}{x y:Operand}{a b:Option Addr}{n c n' c':Nat}:eqGuard op t x y (.slice a n c) (.slice b n' c')=pure ():=by cases op <;> rfl
theorem aHU{P:Program}{s:St}{fr:Nat}{o:Oper}{op:BinOp}{xt yt e:TypeId}{x y:Operand}{ts:List Tree}{n:Nat}(hn:0<n){b:Bool}(hu:P.underlying xt=some (.slice e))(ho:o.op = .binOp op xt x y yt)(hx:s.ev x=some (.t (.sl n ts)))(hy:s.ev y=some (.t (.v (.slice none 0 0))))(hop:(op = .eql/\b=false)\/(op = .neq/\b=true)):aW P o s fr (.t (.v (.bool b))) []:=
 dM λ_ _ _ _ w a _ _ hev=>by
  have h2:=bY (hev y _ hy);refine⟨.bool b,?_,.t (.v _ rfl)⟩;obtain⟨ad,c,hv⟩:∃ad c,a.eval x = .slice (some ad) n c:=by
   have:=hev x _ hx;generalize a.eval x=v at this ⊢;cases this with
   |t h=>
     cases h with
     |nil=>omega
     |sl b o n c us ts=>exact⟨_,_,rfl⟩
  unfold execOp;rw[ho];simp only[h2,hv,YN];have:=a1Y (a:=ad) (n:=n) (c:=c) hu w;rcases hop with⟨rfl,rfl⟩|⟨rfl,rfl⟩ <;> simp[binOp,this]
theorem a5T(hσ:σ.Ok κ){op:BinOp}{xt yt:TypeId}{x y:Operand}{v w:X}{els:O}(ho:o.op = .binOp op xt x y yt)(hx:σ.ev x=some v)(hy:σ.ev y=some w)(h:Wm c.P xt op v w y (λr=>k r []) els=some r):els=some r\/dG c σ fr o k r:=by
 unfold Wm at h;split at h
 .rename_i cv e hu
  split at h
  .refine ?_
   split at h
   .refine .inr ⟨_,_,h,rfl,λhon=>iY (vr:=.bool true) ho (aV hσ hon hx) (aV hσ hon hy) (λw=>?_) rfl⟩
    rw[YN];have:=aGp hu w;simp[binOp,this]
   .refine .inr ⟨_,_,h,rfl,λhon=>iY (vr:=.bool false) ho (aV hσ hon hx) (aV hσ hon hy) (λw=>?_) rfl⟩
    rw[YN];have:=aGp hu w;simp[binOp,this]
   .exact .inl h
  .obtain⟨hl,h⟩:=eL h
   have hl:=bK hl;split at h
   .exact .inr ⟨_,_,h,rfl,λhon=>aHU hl hu ho (aV hσ hon hx) (aV hσ hon hy) (.inl ⟨rfl,rfl⟩)⟩
   .exact .inr ⟨_,_,h,rfl,λhon=>aHU hl hu ho (aV hσ hon hx) (aV hσ hon hy) (.inr ⟨rfl,rfl⟩)⟩
   .cases h
  .exact .inl h
 .exact .inl h
theorem a5Y(hσ:σ.Ok κ){op:BinOp}{xt yt:TypeId}{x y:Operand}{v w:X}{b:Bool}(ho:o.op = .binOp op xt x y yt)(hx:σ.ev x=some v)(hy:σ.ev y=some w)(hn:X5 c.P xt op v w y=some b)(h:k (.e .bo b) []=some r):dG c σ fr o k r:=by
 unfold X5 at hn;split at hn
 .split at hn
  .rename_i cv ms hu
   split at hn
   .cases hn
    refine⟨_,_,h,rfl,λhon=>iY (vr:=.bool true) ho (aV hσ hon hx) (aV hσ hon hy) (λw=>?_) rfl⟩;rw[eqGuard_nil_constR];have:=Wt hu w;simp[binOp,this]
   .cases hn
    refine⟨_,_,h,rfl,λhon=>iY (vr:=.bool false) ho (aV hσ hon hx) (aV hσ hon hy) (λw=>?_) rfl⟩;rw[eqGuard_nil_constR];have:=Wt hu w;simp[binOp,this]
   .cases hn
  .cases hn
 .split at hn
  .rename_i cv ms hu
   split at hn
   .cases hn
    exact⟨_,_,h,rfl,λhon=>aHR hu ho (aV hσ hon hx) (aV hσ hon hy) (.inl ⟨rfl,rfl⟩)⟩
   .cases hn
    exact⟨_,_,h,rfl,λhon=>aHR hu ho (aV hσ hon hx) (aV hσ hon hy) (.inr ⟨rfl,rfl⟩)⟩
   .cases hn
  .cases hn
 .cases hn
end
def EX(P:Program)(t:TypeId)(vs:List Value)(v:Value):Prop:=∃dsc,P.underlying t=some dsc/\if dsc.isRow=true then v = .agg vs.toArray else vs=[v]
theorem aGq{P:Program}{t:TypeId}{s off:Nat}{vs:List Value}{dsc:TypeDesc}(hu:P.underlying t=some dsc)(hs:fP P t=some s)(h1:dsc.isRow=false->s=1)(hl:((vs.drop off).take s).length=s)(w:World):∃v,(part t vs.toArray off).run P w = .ok v w/\EX P t ((vs.drop off).take s) v:=by
 obtain⟨inf,hinf,hsz⟩:=cO.1 hs;cases hr:dsc.isRow with
 |true=>
   refine⟨.agg ((vs.drop off).take s).toArray,?_,dsc,hu,by rw[aI hr]⟩;have hagg:(isAgg t).run P w = .ok true w:=by
    unfold isAgg;rw[Sem.run_bind,run_underlying hu w];cases dsc <;> simp_all [TypeDesc.isRow]
   simp[part,hagg,sizeOf,typeInfo,hinf,hsz]
 |false=>
   have h1:=h1 hr;subst h1;have hlt:off<vs.length:=by rw[iT,lI]at hl;omega
   have hagg:(isAgg t).run P w = .ok false w:=by
    unfold isAgg;rw[Sem.run_bind,run_underlying hu w];cases dsc <;> simp_all [TypeDesc.isRow]
   refine⟨vs[off],?_,dsc,hu,?_⟩
   .simp[part,hagg,hlt]
   .rw[hr]
    simp only[E9,if_false];rw[List.drop_eq_getElem_cons hlt,List.take_succ_cons,E4]
def tI(xs:List X)(vs:List Value):Prop:=xs.length=vs.length/\∀(i:Nat)(x:X)(v:Value)(b:Value),xs[i]?=some x->vs[i]?=some v->x.D = .t (.v b)->v=b
theorem tI.chunk{xs:List X}{vs:List Value}(h:tI xs vs)(off s:Nat):tI ((xs.drop off).take s) ((vs.drop off).take s):=by
 refine⟨by simp[h.1],λi x v b hx hv hb=>?_⟩;rw[fU]at hx hv;split at hx
 .rename_i hi
  rw[aI hi]at hv;rw[qQ]at hx hv;exact h.2 _ x v b hx hv hb
 .cases hx
theorem a67{P:Program}{n:Nat}{t:TypeId}{xs ys:List X}{r:Bool}(h:qC P n t xs ys=some r):∃dsc,P.underlying t=some dsc/\(dsc.isRow=false->xs.length=1):=by
 cases n with
 |zero=>cases h
 |succ n=>
   unfold qC at h;split at h
   .rename_i hu;refine⟨_,hu,λ_=>?_⟩;split at h <;> first|rfl|cases h
   .rename_i hu;refine⟨_,hu,λ_=>?_⟩;split at h <;> first|rfl|cases h
   .rename_i hu;refine⟨_,hu,λ_=>?_⟩;split at h <;> first|rfl|cases h
   .rename_i hu;exact⟨_,hu,λh=>by cases h⟩
   .rename_i hu;exact⟨_,hu,λh=>by cases h⟩
   .cases h
theorem aJU{P:Program}{n s off:Nat}{t:TypeId}{xs ys:List X}{r:Bool}(hs:fP P t=some s)(h:EP s off xs ys (qC P n t)=some r){vs us:List Value}(hv:tI xs vs)(hu:tI ys us)
    (ih:∀{xs ys:List X}{r:Bool}{vs us:List Value}{v u:Value},qC P n t xs ys=some r->tI xs vs->tI ys us->EX P t vs v->EX P t us u->∀d w,(Op.equalIn (d+n) t v u).run P w = .ok r w) (d:Nat) (w:World):
    ∃v u,(part t vs.toArray off).run P w = .ok v w/\(part t us.toArray off).run P w = .ok u w/\(Op.equalIn (d+n) t v u).run P w = .ok r w:=by
 unfold EP at h;split at h
 .rename_i hb
  rw[aT]at hb;have hb1:=bB hb.1;have hb2:=bB hb.2;rw[Hz,Iz]at hb1 hb2;simp only[Hz,Iz]at h;obtain⟨dsc,hd,h1⟩:=a67 h;have c1:=hv.chunk off s;have c2:=hu.chunk off s;have hs1:dsc.isRow=false->s=1:=λhr=>by rw[<-hb1];exact h1 hr
  obtain⟨v,e1,v1⟩:=aGq (vs:=vs) hd hs hs1 (by rw[<-c1.1];exact hb1) w;obtain⟨u,e2,u1⟩:=aGq (vs:=us) hd hs hs1 (by rw[<-c2.1];exact hb2) w;exact⟨v,u,e1,e2,ih h c1 c2 v1 u1 d w⟩
 .cases h
theorem a7l(a b:List UInt8):(a == b)=decide (a=b):=by by_cases h:a=b <;> simp[h]
theorem Yk{P:Program}:∀(n:Nat)(t:TypeId){xs ys:List X}{r:Bool}{vs us:List Value}{v u:Value},qC P n t xs ys=some r->tI xs vs->tI ys us->EX P t vs v->EX P t us u->∀d w,(Op.equalIn (d+n) t v u).run P w = .ok r w
 |0,t,xs,ys,r,vs,us,v,u,h,_,_,_,_=>by cases h
 |n+1,t,xs,ys,r,vs,us,v,u,h,hv,hu,⟨d1,e1,f1⟩,⟨d2,e2,f2⟩=>λd w=>by
   have e12:d1=d2:=gZ (e1.symm.trans e2);subst e12;have one:∀{x:X}{vs:List Value}{v b:Value},tI [x] vs->vs=[v]->x.D = .t (.v b)->v=b:=λhc hv hd=>by
    subst hv;exact hc.2 0 _ _ _ rfl rfl hd
   unfold qC at h;rw[show d+(n+1)=(d+n)+1 from rfl];split at h
   .rename_i ki hui
    obtain rfl:=gZ (e1.symm.trans hui);simp only[TypeDesc.isRow,E9,if_false]at f1 f2;split at h
    .rename_i k a k' b
     split at h
     .rename_i hk
      have hk:=bK hk;subst hk;cases h;rw[one hv f1 rfl,one hu f2 rfl,run_equalIn_int w (d+n) t k ki a b hui];rfl
     .cases h
    .rename_i a b
     cases h;rw[one (b:=.int .u8 (wM a:Int)) hv f1 rfl,one (b:=.int .u8 (wM b:Int)) hu f2 rfl,run_equalIn_int w (d+n) t .u8 ki _ _ hui]
     congr 1
     have:((wM a:Int) == (wM b:Int))=decide ((wM a:Int)=(wM b:Int)):=rfl;rw[this];unfold JB;rw[qD];exact⟨λh=>B9.1 (by exact_mod_cast h),λh=>by rw[h]⟩
    .cases h
   .rename_i hui
    obtain rfl:=gZ (e1.symm.trans hui);simp only[TypeDesc.isRow,E9,if_false]at f1 f2;split at h
    .rename_i a b
     cases h;rw[one hv f1 rfl,one hu f2 rfl,run_equalIn_bool' w (d+n) t a b hui];rfl
    .cases h
   .rename_i hui
    obtain rfl:=gZ (e1.symm.trans hui);simp only[TypeDesc.isRow,E9,if_false]at f1 f2;split at h
    .rename_i a b
     cases h;rw[one (b:=.string ⟨⟨a⟩⟩) hv f1 rfl,one (b:=.string ⟨⟨b⟩⟩) hu f2 rfl,run_equalIn_string w (d+n) t _ _ hui]
     congr 1
     rw[ByteArray.toList_eq,ByteArray.toList_eq];exact a7l a b
    .cases h
   .rename_i m e hui
    obtain rfl:=gZ (e1.symm.trans hui);simp only[TypeDesc.isRow,iO]at f1 f2;subst f1 f2;split at h
    .rename_i s hs
     obtain⟨inf,hinf,hsz⟩:=cO.1 hs;rw[run_equalIn_array w (d+n) _ _ hui hinf];have hcell:P.cellsOf e=s:=by simp[Program.cellsOf,hinf,hsz]
     rw[hcell]
     revert h
     generalize List.range m=is;intro h
     induction is generalizing r with
     |nil=>cases h;simp[Op.eqItems]
     |cons i is ih=>
       have step:∀{r1:Bool},EP s (i*s) xs ys (qC P n e)=some r1->∀{r2:Bool},(Op.eqItems (d+n) e s vs.toArray us.toArray is).run P w = .ok r2 w->(Op.eqItems (d+n) e s vs.toArray us.toArray (i::is)).run P w = .ok (r1&&r2) w:=λ{r1} h1 {r2} h2=>by
        obtain⟨v,u,p1,p2,p3⟩:=aJU hs h1 hv hu (λh1 h2 h3 h4 h5=>Yk n e h1 h2 h3 h4 h5) d w;simp only[Op.eqItems,Sem.run_bind,p1,p2,p3,Result.andThen_ok];cases r1
        .simp
        .simpa using h2
       cases is with
       |nil=>
         have:=step h (r2:=true) (by simp[Op.eqItems])
         rwa [a99]at this
       |cons i' is'=>
         unfold JR at h;split at h
         .rename_i a ha
          split at h
          .rename_i b hb
           cases h;exact step ha (ih b hb)
          .cases h
         .cases h
    .cases h
   .rename_i fs hui
    obtain rfl:=gZ (e1.symm.trans hui);simp only[TypeDesc.isRow,iO]at f1 f2;subst f1 f2;split at h
    .cases h
    .rename_i hst
     have hfs:P.fieldsOf t=fs:=by simp[Program.fieldsOf,hui]
     rw[run_equalIn_struct w (d+n) t _ _ (by rw[hfs];exact hui) hst,hfs]
     revert h
     generalize fs.toList=l;intro h
     induction l generalizing r with
     |nil=>cases h;simp[Op.eqFields]
     |cons f l ih=>
       have step : ∀ {r1 : Bool}, (match fP P f.type with | some s => (match f.name == "_" with | true => none | false => EP s f.offset xs ys (qC P n f.type)) | none => none) = some r1 → ∀ {r2 : Bool}, (Op.eqFields (d + n) vs.toArray us.toArray l).run P w = .ok r2 w → (Op.eqFields (d + n) vs.toArray us.toArray (f :: l)).run P w = .ok (r1 && r2) w := fun {r1} h1 {r2} h2 => by
        split at h1
        .rename_i s hs
         split at h1
         .cases h1
         .rename_i hnm
          have hne : f.name ≠ "_" := by simpa using hnm
          obtain⟨v,u,p1,p2,p3⟩:=aJU hs h1 hv hu (λh1 h2 h3 h4 h5=>Yk n f.type h1 h2 h3 h4 h5) d w;simp only[Op.eqFields,hne,ne_eq,not_false_eq_true,iO,Sem.run_bind,p1,p2,p3,Result.andThen_ok];cases r1
          .simp
          .simpa using h2
        .cases h1
       cases l with
       |nil=>
         have:=step h (r2:=true) (by simp[Op.eqFields])
         rwa [a99]at this
       |cons f' l'=>
         unfold JR at h;split at h
         .rename_i a ha
          split at h
          .rename_i b hb
           cases h;exact step ha (ih b hb)
          .cases h
         .cases h
   .cases h
section
variable{c:Cx}{σ:Vw}{κ:Nat->Bool}{fr:Nat}{o:Oper}{k:X->Wx->O}{r:aF}
theorem aJx{ν:Nat->Value}{nm:Nat->Bool}{w:World}{G:bV}{v:Value}{xs:List X}(h:DR ν nm w G v (X.agg xs).D):∃vs:Array Value,v = .agg vs/\tI xs vs.toList:=by
 unfold X.D at h;rw[hY]at h;cases h with
 | @agg vs _ hl hr h1=>
   refine⟨vs,rfl,by simpa using hl.symm,λi x v b hx hv hb=>?_⟩;have:=hr i v x.D (by simpa using hv) (by rw[cZ,hx];rfl);rw[hb]at this;exact bY this
theorem a5k(hσ:σ.Ok κ){op:BinOp}{xt yt:TypeId}{x y:Operand}{v w:X}{b:Bool}(ho:o.op = .binOp op xt x y yt)(hx:σ.ev x=some v)(hy:σ.ev y=some w)(hn:Yl c.P op xt v w=some b)(h:k (.e .bo b) []=some r):dG c σ fr o k r:=by
 refine⟨_,_,h,rfl,λhon=>?_⟩;unfold Yl at hn;split at hn
 case h_2=>cases hn
 split at hn
 case h_2=>cases hn
 rename_i xs _ ys;split at hn
 case h_2=>cases hn
 rename_i hrow hg;refine dM λE σ₁ ν G w a hH I hev=>⟨.bool b,?_,.t (.v _ rfl)⟩
 obtain⟨vs,hvs,c1⟩:=aJx (hev x _ (aV hσ hon hx));obtain⟨us,hus,c2⟩:=aJx (hev y _ (aV hσ hon hy));obtain⟨dsc,g1,g2⟩:=pD hrow;have hV:∀zs:Array Value,EX c.P xt zs.toList (.agg zs):=λzs=>⟨dsc,g1,by rw[aI g2]⟩
 have hrun:∀r0,qC c.P 12 xt xs ys=some r0->(Op.equalIn 10000 xt (.agg vs) (.agg us)).run c.P w = .ok r0 w:=λr0 h0=>Yk 12 xt h0 c1 c2 (hV vs) (hV us) 9988 w
 have hgd:=run_eqGuard_agg (P:=c.P) w op xt x y vs us hg;unfold execOp;rw[ho];simp only[hvs,hus,Sem.run_bind,hgd,Result.andThen_ok];split at hn
 .rw[run_eql_struct,hrun b hn]
  rfl
 .split at hn
  .rename_i b0 h0
   cases hn;rw[run_neq_struct,hrun b0 h0];rfl
  .cases hn
 .cases hn
end
end Go.Ax
/- A string's iterator; a builder's bytes as a string. -/
namespace Go.Ax
open aA
open Go.RowKit Go.Ab
section
variable{P:Program}{o:Oper}{σ:St}{fr:Nat}
theorem a2e{t:TypeId}{x:Operand}{s:ByteArray}(hu:P.underlying t=some .string)(ho:o.op = .range t x)(hx:σ.ev x=some (.t (.v (.string s)))):aW P o σ fr (.own fr) [(fr,some (.it s 0))]:=by
 intro E σ₁ a w hT hH h100 hf hd ⟨ν,G,I⟩ Q;have hvx:=bY (I.ev (St.dE hT hx));unfold Oper.wp;have hr:(execOp a.eval o).run P w = .ok (.value (.pointer (some ⟨w.heap.size,0,none⟩))) (w.alloc (.stringIter s 0)):=by
  unfold execOp;rw[ho];simp[hvx,run_range_string w t s hu,World.iter]
 rw[hr,Oper.upon_value];have hA:cU w (w.alloc (.stringIter s 0)):=(cU.refl w).alloc _;refine⟨put_defers ..,_,_,I.fresh (G':=λb=>if b=w.heap.size then 0 else G b) h100 hf hd hA (λb hb=>aE (by omega)) (x:=.pointer (some ⟨w.heap.size,0,none⟩)) (λg hg=>by cases hg;exact cE _) ?_ ?_⟩
 .exact⟨w.heap.size,cB,.inl I.kept.size,heap_alloc_new w _,aI rfl⟩
 .have:DR (cD ν fr (.pointer (some ⟨w.heap.size,0,none⟩))) (σ₁.aP o.dst .any [(fr,some (.it s 0))] fr).nm (w.alloc (.stringIter s 0)) (λb=>if b=w.heap.size then 0 else G b) (cD ν fr (.pointer (some ⟨w.heap.size,0,none⟩)) fr) (.own fr):=.own (kN ..) (by rw[cB];rfl)
  rw[cB]at this;exact this
theorem a2j{x:Operand}{s:ByteArray}{pos q:Nat}(ho:o.op = .next x true)(hx:σ.ev x=some (.own q))(hq:σ.H q=some (.it s pos))(h:¬ pos<s.size):aW P o σ fr (.aS [.t (.v (.bool false))]) []:=
 dM λE σ₁ ν G w ac hH I hev=>by
  obtain⟨hv,hk⟩:=uO (hev x _ hx);obtain⟨g,h1,h2,h3,h4⟩:=(I.H q _ (hH q _ hq)).2;refine⟨.tuple #[.bool false],?_,.aS rfl λi u d hu hd=>?_⟩
  .unfold execOp
   rw[ho];simp[hv,h1,Lib.run_next_end_at w g s pos o.type h3 h]
  .match i,hu,hd with
   |0,hu,hd=>cases hu;cases hd;exact .t (.v _ rfl)
   |i+1,hu,hd=>simp at hd
theorem a2i{x:Operand}{s:ByteArray}{pos q:Nat}(ho:o.op = .next x true)(hx:σ.ev x=some (.own q))(hq:σ.H q=some (.it s pos))(h:pos<s.size)(ha:(s[pos]'h).toNat<128):
    aW P o σ fr (.aS [.t (.v (.bool true)),.t (.v (.int .i64 pos)),.t (.v (.int .i32 (s[pos]'h).toNat))]) [(q,some (.it s (pos+1)))]:=by
 intro E σ₁ a w hT hH h100 hf hd ⟨ν,G,I⟩ Q;obtain⟨hv,hk⟩:=uO (I.ev (St.dE hT hx));obtain⟨g,h1,h2,h3,h4⟩:=(I.H q _ (hH q _ hq)).2;unfold Oper.wp;have hr:(execOp a.eval o).run P w = .ok (.value (.tuple #[.bool true,.int .i64 pos,.int .i32 (s[pos]'h).toNat])) (w.iterAt g s (pos+1)):=by
  unfold execOp;rw[ho];simp[hv,h1,Lib.run_next_ascii_at w g s pos o.type h3 h ha]
 rw[hr,Oper.upon_value];have s5:∀b,b≠g->(w.iterAt g s (pos+1)).heap[b]?=w.heap[b]?:=λb hb=>by
  simp only[World.iterAt];rw[tJ (eN hb)]
 have hcell:∀b i u,Cell w G b i u->Cell (w.iterAt g s (pos+1)) G b i u:=λb i u h=>by
  have hne:b≠g:=λe=>by have:=h.2;rw[e,h4]at this;omega
  exact⟨(World.cell?_of_block (a:=⟨b,i,none⟩) (s5 b hne)).trans h.1,h.2⟩
 refine⟨put_defers ..,ν,G,M8 (w':=w.iterAt g s (pos+1)) (ob':=.it s (pos+1)) I (hH q _ hq) (by rw[h1];rfl) h4 (λ_ _ _=>Iff.rfl) (λ_ _ _=>Iff.rfl) rfl rfl rfl (by simp[World.iterAt]) s5 hcell ⟨g,h1,h2,Lib.iterAt_heap w g s pos _ h3,h4⟩ hd (.aS rfl λi u d hu hd'=>?_)⟩
 match i,hu,hd' with
 |0,hu,hd'=>cases hu;cases hd';exact .t (.v _ rfl)
 |1,hu,hd'=>cases hu;cases hd';exact .t (.v _ rfl)
 |2,hu,hd'=>cases hu;cases hd';exact .t (.v _ rfl)
 |i+3,hu,hd'=>simp at hd'
theorem a1h{E:Env}{σ₁:St}{ν:Nat->Value}{G:bV}{w w':World}{a:Act}(I:Inv E σ₁ ν G w a.tmps){k g:Nat}{ob:aO}(hk:σ₁.H k=some ob)(hg:aU (ν k)=some g)
    (s1:w'.os=w.os) (s2:w'.tape=w.tape) (s3:w'.output=w.output) (s4:w'.heap.size=w.heap.size) (s5:∀b,b≠g->w'.heap[b]?=w.heap[b]?) (hcell:∀b i u,Cell w G b i u->Cell w' G b i u)
    {dst:Option Tmp} {v:Value} {d:D} (hd:∀t,dst=some t->t<E.m) (hv:DR ν σ₁.nm w' G v d):Inv E (σ₁.aP dst d [(k,none)] fr) ν G w' (a.put dst v).tmps:=by
 have hmay:E.may g:=(I.H k ob hk).2.Xe hg;have hnm:∀j,σ₁.nm j=true->(σ₁.aP dst d [(k,none)] fr).nm j=true/\ν j=ν j:=λj hj=>⟨by simp[St.aP,hj],rfl⟩
 have back:∀j oj,(σ₁.aP dst d [(k,none)] fr).H j=some oj->j≠k/\σ₁.H j=some oj:=λj oj h=>by
  by_cases hj:j=k
  .subst hj;simp[St.aP,Ab.look]at h
  .exact⟨hj,by simpa[St.aP,Ab.look,eN hj]using h⟩
 refine⟨⟨s1.trans I.kept.os,s2.trans I.kept.tape,s3.trans I.kept.output,by rw[s4];exact I.kept.size,λb hb hX=>?_⟩,λb i u h=>hcell b i u (I.eJ b i u h),I.fJ,I.g0,?_,λt' d' h=>?_,λj oj h=>?_,λj1 o1 j2 o2 h1 h2 hne=>?_⟩
 .refine(s5 b (λe=>?_)).trans (I.kept.block b hb hX)
  subst e;rcases hmay with h|h
  .omega
  .exact hX h
 .cases dst <;> simp[Act.put,I.sz]
 .simp only[St.aP]at h
  split at h
  .rename_i he'
   cases h;have:=hd t' he';exact⟨v,by simp[he',Act.put,I.sz,this],hv.mono hnm (λ_ _ _ h=>h)⟩
  .rename_i he'
   obtain⟨u,hu,hdu⟩:=I.T t' d' h;refine⟨u,?_,hdu.mono hnm hcell⟩;cases dst with
   |none=>simpa[Act.put]using hu
   |some t''=>
     have hne:t''≠t':=λe=>he' (by rw[e])
     simp only[Act.put];rw[tJ hne];exact hu
 .obtain⟨hj,h'⟩:=back j oj h
  obtain⟨h1,h2⟩:=I.H j oj h';refine⟨(hnm j h1).1,h2.mono h1 hnm hcell (λg' hg'=>⟨s5 g' (λe=>?_),rfl⟩)⟩;subst e;exact I.cW j oj k ob h' hk hj g' hg' (eK hg)
 .obtain⟨n1,e1⟩:=back j1 o1 h1
  obtain⟨n2,e2⟩:=back j2 o2 h2;have f:∀j oj,j≠k->σ₁.H j=some oj->∀g',bO w' (ν j) oj g'->bO w (ν j) oj g':=λj oj hj h g' hg'=>(uT λb hb=>s5 b λe=>by
   subst e;exact I.cW j oj k ob h hk hj b (eK hb) (eK hg)).1 hg'
  exact λg' hg1 hg2=>I.cW j1 o1 j2 o2 e1 e2 hne g' (f j1 o1 n1 e1 g' hg1) (f j2 o2 n2 e2 g' hg2)
theorem a6H(w:World)(g n:Nat):(w.freeze ⟨g,0,none⟩ n).os=w.os/\(w.freeze ⟨g,0,none⟩ n).tape=w.tape/\(w.freeze ⟨g,0,none⟩ n).output=w.output/\(w.freeze ⟨g,0,none⟩ n).heap.size=w.heap.size/\(∀b,b≠g->(w.freeze ⟨g,0,none⟩ n).heap[b]?=w.heap[b]?) /\
    ∀b i,(w.freeze ⟨g,0,none⟩ n).cell? ⟨b,i,none⟩=w.cell? ⟨b,i,none⟩:=by
 unfold World.freeze;split
 .exact⟨rfl,rfl,rfl,rfl,λ_ _=>rfl,λ_ _=>rfl⟩
 .refine⟨rfl,rfl,rfl,by simp,λb hb=>by simp[J8,eN hb],λb i=>?_⟩
  simp only[World.cell?,J8];by_cases h:g=b
  .subst h
   rw[aI rfl];cases w.heap[g]? with
   |none=>rfl
   |some o=>
     cases o with
     |cells c e fz=>obtain⟨lo,hi⟩:=fz;rfl
     |_=>rfl
  .rw[aE h]
theorem Vo{ν:Nat->Value}{nm:Nat->Bool}{w:World}{G:bV}{v:Value}{k:Nat}{r:Value->Value->Prop}(h:DR ν nm w G v (.via k r)):r (ν k) v:=by
 cases h with|via hk h h1=>exact h
theorem a0c{w:World}{G:bV}{u x:Value}(h:TR w G u (.v x)):u=x:=by
 cases h with|v _ _=>rfl
theorem a2b{t e' e:TypeId}{x:Operand}{q s n:Nat}{ts:List Tree}{st:Bool}(hu:P.underlying o.type=some (.pointer e'))(ho:o.op = .call { callee:=.builtin .unsafeSliceData,args:=#[x],argTypes:=#[t] })
    (hx:σ.ev x=some (.own q)) (hq:σ.H q=some (.row e s n ts st)):aW P o σ fr (.via q (iN 1)) []:=by
 intro E σ₁ a w hT hH h100 hf hd ⟨ν,G,I⟩ Q;obtain⟨hv,hk⟩:=uO (I.ev (St.dE hT hx));obtain⟨xs,r1,_⟩:=(I.H q _ (hH q _ hq)).2;have fin:∀(p:Option Addr)(w':World),cU w w'->(Builtin.unsafeSliceData_ #[t] o.type #[ν q]).run P w = .ok (.pointer p) w'->iN 1 (ν q) (.pointer p)->o.wp P a w (λa' w'=>a'.defers=a.defers/\R E (σ₁.aP o.dst (.via q (iN 1)) [] fr) a'.tmps w') Q:=λp w' hA hr hR=>by
  unfold Oper.wp;have he:(execOp a.eval o).run P w = .ok (.value (.pointer p)) w':=by
   unfold execOp;rw[ho];simp[resolve,invoke,builtin,hv,hr]
  rw[he,Oper.upon_value];exact⟨put_defers ..,ν,G,(I.iG hA λ_ _=>rfl).put (.via hk hR rfl) hd fr a rfl⟩
 rcases r1.2 with⟨hz,h0⟩|⟨g,cap,cur,hz,_,r2,r3,r4,r5,_⟩
 .exact fin none w (cU.refl w) (by rw[hz];exact Lib.run_unsafeSliceData_nil ..) ⟨_,rfl,λa' n' c' he hn'=>by rw[hz]at he;cases he;omega⟩
 .by_cases hc:cap=0
  .subst hc
   refine fin _ _ ((cU.refl w).alloc _) (by rw[hz,Nat.le_zero.1 r3];exact Lib.run_unsafeSliceData_zero w _ _ e' hu ⟨g,0,none⟩ 0 (e,cur.size) (by simp[World.shape?,r2])) ⟨_,rfl,λa' n' c' he hn'=>?_⟩;rw[hz]at he;cases he;omega
  .exact fin (some ⟨g,0,none⟩) w (cU.refl w) (by rw[hz];exact Lib.run_unsafeSliceData_row _ _ _ _ _ _ hc) ⟨_,rfl,λa' n' c' he hn'=>by rw[hz]at he;cases he;rfl⟩
theorem a2a{t:TypeId}{x:Operand}(ho:o.op = .call { callee:=.builtin .unsafeSliceData,args:=#[x],argTypes:=#[t] })(hx:σ.ev x=some (.t (.v (.slice none 0 0)))):aW P o σ fr (.t (.v (.pointer none))) []:=
 dM λE σ₁ ν G w a hH I hev=>by
  have hv:=bY (hev x _ hx);refine⟨_,?_,.t (.v _ rfl)⟩;unfold execOp;rw[ho];simp[resolve,invoke,builtin,hv,Lib.run_unsafeSliceData_nil]
theorem a22{pt it e:TypeId}{x y:Operand}{q:Nat}{l:List UInt8}{st:Bool}(hp:P.underlying pt=some (.pointer e))(hc:P.cellsOf e=1)(ho:o.op = .call { callee:=.builtin .unsafeString,args:=#[x,y],argTypes:=#[pt,it] })
    (hx:σ.ev x=some (.via q (iN 1))) (hy:σ.ev y=some (.t (.v (.int .i64 l.length)))) (hq:σ.H q=some (.row e 1 l.length (l.map λb=>.v (.int .u8 b.toNat)) st)):aW P o σ fr (.t (.v (.string ⟨l.toArray⟩))) [(q,none)]:=by
 intro E σ₁ a w hT hH h100 hf hd ⟨ν,G,I⟩ Q;have hvy:=bY (I.ev (St.dE hT hy));have hvx:=I.ev (St.dE hT hx);have hqn:=hH q _ hq;obtain⟨xs,r1,r2,r3,r4⟩:=(I.H q _ hqn).2;obtain⟨p,hpv,hpr⟩:∃p,a.eval x = .pointer p/\∀a' n' c',ν q = .slice a' n' c'->0<n'->p=a':=by
  exact Vo hvx
 have hr0:xs.length=l.length:=by rw[r2,cP]
 have fin:∀w',(Builtin.unsafeString_ #[pt,it] o.type #[.pointer p,.int .i64 l.length]).run P w = .ok (.string ⟨l.toArray⟩) w'->(∀v',ν q=v'->(∃(g:Nat),aU v'=some g/\w'=w.freeze ⟨g,0,none⟩ l.length)\/w'=w)->o.wp P a w (λa' w'=>a'.defers=a.defers/\R E (σ₁.aP o.dst (.t (.v (.string ⟨l.toArray⟩))) [(q,none)] fr) a'.tmps w') Q:=λw' hr hw'=>by
  unfold Oper.wp;have he:(execOp a.eval o).run P w = .ok (.value (.string ⟨l.toArray⟩)) w':=by
   unfold execOp;rw[ho];simp[resolve,invoke,builtin,hpv,hvy,hr]
  rw[he,Oper.upon_value];rcases hw' _ rfl with⟨g,hg,rfl⟩|rfl
  .obtain⟨s1,s2,s3,s4,s5,s6⟩:=a6H w g l.length
   exact⟨put_defers ..,ν,G,a1h I hqn hg s1 s2 s3 s4 s5 (λb i u h=>⟨(s6 b i).trans h.1,h.2⟩) hd (.t (.v _ rfl))⟩
  .have:=I.put (dst:=o.dst) (v:=.string ⟨l.toArray⟩) (d:=.t (.v (.string ⟨l.toArray⟩))) (.t (.v _ rfl)) hd fr a rfl
   have back:∀j oj,(σ₁.aP o.dst (.t (.v (.string ⟨l.toArray⟩))) [(q,none)] fr).H j=some oj->(σ₁.aP o.dst (.t (.v (.string ⟨l.toArray⟩))) [] fr).H j=some oj:=λj oj h=>by
    by_cases hj:j=q
    .subst hj;simp[St.aP,Ab.look]at h
    .simpa[St.aP,Ab.look,eN hj]using h
   exact⟨put_defers ..,ν,G,this.kept,this.eJ,this.fJ,this.g0,this.sz,this.T,λj oj h=>this.H j oj (back j oj h),λj1 o1 j2 o2 h1 h2=>this.cW j1 o1 j2 o2 (back j1 o1 h1) (back j2 o2 h2)⟩
 rcases Nat.eq_zero_or_pos l.length with h0|h0
 .have:l=[]:=AH h0
  subst this;refine fin w ?_ (λ_ _=>.inr rfl);exact Lib.run_unsafeString_none w pt it o.type p
 .rcases r1.2 with⟨hz,hn⟩|⟨g,cap,cur,hz,_,q2,q3,q4,q5,q6⟩
  .omega
  .have hpe:=hpr _ _ _ hz h0
   subst hpe;refine fin _ (Lib.run_unsafeString_row w pt it o.type e hp hc g cur.size (by simp[World.shape?,q2]) l (λe=>by subst e;simp at h0) (by omega) (by simp only[maxLen]at q4;omega) λj b hb=>?_) (λv' hv'=>.inl ⟨g,by rw[<-hv',hz];rfl,rfl⟩);have hj:j<l.length:=(bZ.1 hb).1;have hxj:xs[j]?=some xs[j]:=dC (by omega);have ht:=r3 j _ _ hxj (by rw[cZ,hb];rfl);have hcell:=mY r1 (by rw[hz];rfl) (i:=j) (by omega);rw[Addr.add_mid,eC,hcell,hxj];rw[a0c ht]
theorem a2Z{pt it:TypeId}{x y:Operand}(ho:o.op = .call { callee:=.builtin .unsafeString,args:=#[x,y],argTypes:=#[pt,it] })(hx:σ.ev x=some (.t (.v (.pointer none))))(hy:σ.ev y=some (.t (.v (.int .i64 0)))):aW P o σ fr (.t (.v (.string ⟨#[]⟩))) []:=
 dM λE σ₁ ν G w a hH I hev=>by
  have hv:=bY (hev x _ hx);have hvy:=bY (hev y _ hy);refine⟨_,?_,.t (.v _ rfl)⟩;unfold execOp;rw[ho];have hr:=Lib.run_unsafeString_none (P:=P) w pt it o.type none;simp[resolve,invoke,builtin,hv,hvy,hr];rfl
end
section
variable{c:Cx}{σ:Vw}{κ:Nat->Bool}{fr:Nat}{o:Oper}{k:X->Wx->O}{r:aF}
theorem a5V(hσ:σ.Ok κ){t:TypeId}{x:Operand}{s:List UInt8}(ho:o.op = .range t x)(hu:c.P.underlying t=some .string)(hx:σ.ev x=some (.e .tx s))(h:k (.own fr) [(fr,some (.it s 0))]=some r):dG c σ fr o k r:=
 ⟨_,_,h,rfl,λhon=>a2e hu ho (aV hσ hon hx)⟩
theorem a50(hσ:σ.Ok κ){x:Operand}{q:Nat}{s:List UInt8}{pos:Int}(ho:o.op = .next x true)(hx:σ.ev x=some (.own q))(hq:σ.H q=some (.it s pos))(h:X6 s pos q k=some r):dG c σ fr o k r:=by
 unfold X6 at h;rcases wJ h with⟨_,h⟩|⟨hb,h⟩
 .obtain⟨b,h0,hb,h⟩:=Im h
  obtain⟨ha,h⟩:=eL h;have ha:=bK ha;have hlt:pos.toNat<(⟨s.toArray⟩:ByteArray).size:=by
   have:=(bZ.1 hb).1;exact this
  have hbv:(⟨s.toArray⟩:ByteArray)[pos.toNat]'hlt=b:=by
   have:=(bZ.1 hb).2;exact this
  refine⟨_,_,h,rfl,λhon=>?_⟩;have:=a2i (P:=c.P) (fr:=fr) ho (aV hσ hon hx) (dI hq) hlt (by rw[hbv];exact ha);rw[hbv]at this;have e1:(pos.toNat:Int)=pos:=by omega
  have e2:(pos+1).toNat=pos.toNat+1:=by omega
  rw[e1]at this;unfold WA;simp only[iH,vF,lH,XO.A,e2];exact this
 .have hb:=nS hb
  exact⟨_,_,h,rfl,λhon=>a2j (P:=c.P) (fr:=fr) ho (aV hσ hon hx) (dI hq) (λhc=>hb (by have:pos.toNat<s.length:=hc;omega))⟩
theorem aGS:∀l:List UInt8,bR (aM .u8) l=wS (λb:UInt8=>Tree.v (.int .u8 b.toNat)) l
 |[]=>rfl
 |b::l=>aR (λts=>Tree.v (.int .u8 b.toNat)::ts) (aGS l)
theorem aJO{a b:Int}(h:yZ a b=true):a=b:=bK h
theorem a5U(hσ:σ.Ok κ){t:TypeId}{x:Operand}{v:X}(ho:o.op = .call { callee:=.builtin .unsafeSliceData,args:=#[x],argTypes:=#[t] })(hx:σ.ev x=some v)(h:Wq c σ o.type v k=some r):dG c σ fr o k r:=by
 unfold Wq at h;split at h
 .rename_i e' hu
  split at h
  .rename_i q
   split at h
   .rename_i e τ l st hq
    exact⟨_,_,h,rfl,λhon=>a2b (P:=c.P) (fr:=fr) hu ho (aV hσ hon hx) (dI hq)⟩
   .cases h
  .exact⟨_,_,h,rfl,λhon=>a2a (P:=c.P) (fr:=fr) ho (aV hσ hon hx)⟩
  .cases h
 .cases h
theorem a5O(hσ:σ.Ok κ){pt it:TypeId}{x y:Operand}{v w:X}(ho:o.op = .call { callee:=.builtin .unsafeString,args:=#[x,y],argTypes:=#[pt,it] })(hx:σ.ev x=some v)(hy:σ.ev y=some w)(h:WQ c σ pt v w k=some r):dG c σ fr o k r:=by
 unfold WQ at h;split at h
 .rename_i e hu
  split at h
  .rename_i q n
   split at h
   .rename_i e0 l st hq
    split at h
    .rename_i hc
     rw[aT]at hc;obtain⟨hn,h2⟩:=eL h;clear h;have hn:n=(dR (α:=UInt8) l:Int):=aJO hn;subst hn;have he:e0=e:=bB hc.1;subst he;refine⟨_,_,h2,rfl,λhon=>?_⟩;have:σ.den.H q=some (.row e0 1 (dR (α:=UInt8) l) (bR (aM .u8) l) st):=dI hq;have this:=this.trans (aR (λts=>some (aO.row e0 1 (dR (α:=UInt8) l) ts st)) (aGS l));exact a22 (P:=c.P) (fr:=fr) hu (bB hc.2) ho (aV hσ hon hx) (aV hσ hon hy) this
    .cases h
   .cases h
  .rename_i n
   obtain⟨hn,h⟩:=eL h;have hn:n=(0:Int):=aJO hn;subst hn;exact⟨_,_,h,rfl,λhon=>a2Z (P:=c.P) (fr:=fr) ho (aV hσ hon hx) (aV hσ hon hy)⟩
  .cases h
 .cases h
end
end Go.Ax
/- Arrays: values and variables of many cells of one kind. -/
namespace Go.Ax
open aA
open Go.RowKit Go.Ab
theorem nY{τ:Ty}(h:τ.one=true)(l:List τ.V):(bR (aM τ) l).map D.t=l.map λy=>D.t (nD τ y):=by
 induction l with
 |nil=>rfl
 |cons x l ih=>rw[fV,gH,EJ h,ih];rfl
theorem ZP{σ:Vw}{v:X}{q off:Nat}{e:TypeId}{τ:Ty}{l:List τ.V}(h:zI σ v=some (q,off,e,⟨τ,l⟩)):v = .ref q off/\σ.H q=some (.arr e τ l):=by
 unfold zI at h;split at h
 .split at h
  .rename_i hq
   cases h;exact⟨rfl,hq⟩
  .cases h
 .cases h
theorem aIo{P:Program}{e:TypeId}{τ:Ty}{n:Nat}(h:EE P e=some (τ,n)):∃cs:Array Value,(P.info? e).bind (·.zero)=some (.agg cs)/\rI (.agg cs)=true/\(oO (.agg cs)) = .agg ((bR (aM τ) (cI n τ.zero)).map .t)/\cs.toList=cI n (match(nD τ τ.zero)with|.v u=>u|_=>.nilFunc)/\cs.size=n/\τ.one=true:=by
 unfold EE at h;split at h
 case h_2=>cases h
 rename_i cs hz;split at h
 case h_2=>cases h
 split at h
 case h_2=>cases h
 rename_i z r hcs;split at h
 case h_2=>cases h
 rename_i τ' hb hr;cases h;have hrep:r=cI r.length z:=by
  refine List.eq_replicate_iff.2 ⟨rfl,λv hv=>?_⟩;have:=fG.1 hr v hv;unfold aGj at this;split at this
  .rename_i a b;rw[sY]at this;rw[this]
  .rename_i k a k' b
   rw[aT,kJ,kJ]at this;rw[this.1,this.2]
  .cases this
 have hn:cs.size=r.length+1:=by rw[<-nJ,hcs];rfl
 have hall:cs.toList=cI cs.size z:=by rw[hcs,hn,pN,<-hrep]
 have key:τ.one=true/\nD τ τ.zero = .v z/\z.oneCell'=true:=by
  unfold aJa at hb;split at hb <;> cases hb <;> exact⟨rfl,rfl,rfl⟩
 refine⟨cs,hz,?_,?_,by rw[key.2.1];exact hall,rfl,key.1⟩
 .show(cs.toList.all λx=>x.oneCell')=true
  rw[hall];exact fG.2 λv hv=>by rw[List.eq_of_mem_replicate hv];exact key.2.2
 .rw[nY key.1]
  show D.agg (cs.toList.map λc=>D.t (.v c))=_;rw[hall,a9M,a9M,key.2.1]
section
variable{c:Cx}{σ:Vw}{κ:Nat->Bool}{fr:Nat}{o:Oper}{k:X->Wx->O}{r:aF}
theorem a6C{e:TypeId}{τ:Ty}{n:Nat}(ho:o.op = .alloc e)(hf:EE c.P e=some (τ,n))(h:k (.ref fr 0) [(fr,some (.arr e τ (cI n τ.zero)))]=some r):dG c σ fr o k r:=by
 obtain⟨cs,hz,h1,h2,_⟩:=aIo hf;refine⟨_,_,h,rfl,λ_=>?_⟩;have:=aHd (σ:=σ.den) (fr:=fr) ho hz h1;rw[h2]at this;exact this
theorem a5t{t:TypeId}{ps:Array (Nat×Operand)}{τ:Ty}{n:Nat}{pl:List (Nat×Nat)}(ho:o.op = .build t ps)(hps:ps.toList=[])(hf:EE c.P t=some (τ,n))(hp:places c.P t=some pl)(h:k (.ag τ (cI n τ.zero)) []=some r):dG c σ fr o k r:=by
 obtain⟨cs,hz,h1,h2,_⟩:=aIo hf;refine⟨_,_,h,rfl,λ_=>?_⟩;have hB:=aJ0 hz (λu hu=>fG.1 h1 u hu) hp;have:=aH8 (σ:=σ.den) (fr:=fr) (out:=cs.toList.map λu=>.t (.v u)) hB ho (by rw[hps];exact .nil) rfl;have h2:D.agg (cs.toList.map λu=>.t (.v u))=_:=h2;rw[h2]at this;unfold X.D;exact this
theorem a5v(hσ:σ.Ok κ){e:TypeId}{x:Operand}{τ:Ty}{l:List τ.V}(ho:o.op = .box e x)(hx:σ.ev x=some (.ag τ l))(h:k (.ref fr 0) [(fr,some (.arr e τ l))]=some r):dG c σ fr o k r:=by
 refine⟨_,_,h,rfl,λhon=>?_⟩;have hd:=aV hσ hon hx;unfold X.D at hd;exact XX (P:=c.P) (fr:=fr) ho hd rfl
theorem a58(hσ:σ.Ok κ){t e:TypeId}{x:Operand}{v:X}{q off:Nat}{τ:Ty}{l:List τ.V}(ho:o.op = .load t x)(hx:σ.ev x=some v)(ha:zI σ v=some (q,off,e,⟨τ,l⟩))(h:Xr c t off τ l k=some r):dG c σ fr o k r:=by
 obtain⟨rfl,hq⟩:=ZP ha;unfold Xr at h;split at h
 .rename_i h1 hrw hs
  obtain⟨y,hy,h⟩:=oX h;refine⟨_,_,h,rfl,λhon=>?_⟩;have hd:=aV hσ hon hx;rw[pJ h1];refine yI (P:=c.P) (fr:=fr) hrw ho hd (dI hq) ?_;show((bR (aM τ) l).map D.t)[off]?=_;rw[nY h1,cZ,hy];rfl
 .rename_i m h1 hrw hs
  obtain⟨hb,h⟩:=eL h;have hb:=bK hb;refine⟨_,_,h,rfl,λhon=>?_⟩;have hd:=aV hσ hon hx;obtain⟨dsc,g1,g2⟩:=pD hrw;unfold X.D;refine aHZ (P:=c.P) (fr:=fr) ho g1 g2 hs hd (dI hq) ?_ ?_
  .show(((bR (aM τ) l).map D.t).drop off).take _=_
   rw[nY h1,nY h1,OT,OU]
  .rw[nY h1,cP,iT,lI]
   omega
 .cases h
theorem a5Q(hσ:σ.Ok κ){t e:TypeId}{x y:Operand}{v w:X}{q off:Nat}{τ:Ty}{l:List τ.V}(ho:o.op = .store t x y)(hx:σ.ev x=some v)(hy:σ.ev y=some w)(ha:zI σ v=some (q,off,e,⟨τ,l⟩))(h:W4 c t q off e τ l w k=some r):dG c σ fr o k r:=by
 obtain⟨rfl,hq⟩:=ZP ha;unfold W4 at h;split at h
 .rename_i τ' y' h1 hs
  split at h
  case h_2=>cases h
  rename_i hτ _;have hτ':=hτ;subst hτ';obtain⟨z,hz,h⟩:=oX h;have hlt:=(bZ.1 hz).1;refine⟨_,_,h,rfl,λhon=>?_⟩;have hd:=aV hσ hon hx;have hdy:=aV hσ hon hy;rw[pJ h1]at hdy;refine Dl (P:=c.P) (fr:=fr) (ob':=(XO.arr e τ' (l.set off y')).A) ho (by rw[show(D.t (nD τ' y')).cells.length=1 from rfl];exact hs) hd (.ev hdy) rfl (dI hq) ?_ (Nat.succ_pos _);show(if off+1<=((bR (aM τ') l).map D.t).length then some (aO.box e (dL _ off [D.t (nD τ' y')]))else none)=_;rw[aI (by rw[nY h1,cP];omega)];show _=some (aO.box e _);rw[nY h1,nY h1,aGa (by rw[cP];exact hlt),List.map_set]
 .rename_i m τ' l' h1 hs
  split at h
  case h_2=>cases h
  rename_i hτ _;have hτ':=hτ;subst hτ';have main:∀(h9:0<m/\dR l'=m/\off+m<=l.length),σ.On->aW c.P o σ.den fr (.aS []) [(q,some (XO.arr e τ' (l.take off++l'++l.drop (off+m))).A)]:=λhb hon=>by
   have hd:=aV hσ hon hx;have hdy:=aV hσ hon hy;unfold X.D at hdy;have hlen:(wS D.t (bR (aM τ') l')).length=m:=by rw[nY h1,cP];exact hb.2.1
   refine Dl (P:=c.P) (fr:=fr) (ob':=(XO.arr e τ' (l.take off++l'++l.drop (off+m))).A) ho (by rw[show(D.agg (wS D.t (bR (aM τ') l'))).cells.length=m from hlen];exact hs) hd (.ev hdy) rfl (dI hq) ?_ (by rw[show(D.agg (wS D.t (bR (aM τ') l'))).cells.length=m from hlen];exact hb.1);show(if off+(wS D.t (bR (aM τ') l')).length<=((bR (aM τ') l).map D.t).length then some (aO.box e (dL _ off (wS D.t (bR (aM τ') l'))))else none)=_;rw[aI (by rw[hlen,nY h1,cP];omega)];show _=some (aO.box e _);unfold dL;rw[hlen,nY h1,nY h1,nY h1,gH,gH,OT,OU]
  split at h
  .rename_i h0 _
   have h0:=bB h0;subst h0;split at h
   .obtain⟨hb,h⟩:=eL h
    have hb:=bK hb;refine⟨_,_,h,rfl,λhon=>?_⟩;have:=main ⟨hb.1,hb.2.1,by omega⟩ hon;rw[E4,k7,rR (by omega),e9]at this;exact this
   .cases h
  .obtain⟨hb,h⟩:=eL h
   exact⟨_,_,h,rfl,λhon=>main (bK hb) hon⟩
 .cases h
theorem a5h(hσ:σ.Ok κ){t e:TypeId}{x y:Operand}{v w:X}{q off:Nat}{τ:Ty}{l:List τ.V}(ho:o.op = .indexAddr t x y)(hx:σ.ev x=some v)(hy:σ.ev y=some w)(ha:zI σ v=some (q,off,e,⟨τ,l⟩))(h:YK c (σ.g.map (·.2)) t q off w k=some r):dG c σ fr o k r:=by
 obtain⟨rfl,hq⟩:=ZP ha;unfold YK at h;obtain⟨ik,n,hn,h⟩:=B7 h;split at h
 .rename_i m s hs
  obtain⟨h,hb⟩:=pK h;refine⟨_,_,h,rfl,λhon=>?_⟩;have hb:=bK (hb hon.g);have hd:=aV hσ hon hx;have hdy:=aV hσ hon hy;rw[hn]at hdy;exact XW (P:=c.P) (fr:=fr) ho hs hd hdy hb.1 hb.2
 .cases h
theorem a3K{P:Program}{s:St}{t e:TypeId}{x y:Operand}{m sz:Nat}{ds:List D}{ik:IntKind}{n:Int}(hu:P.underlying t=some (.array m e))(he:kF P e=some true)(hs:fP P e=some sz)(ho:o.op = .index t x y)(hx:s.ev x=some (.agg ds))(hy:s.ev y=some (.t (.v (.int ik n))))(hl:ds.length=m*sz)(h0:0<=n)(hn:n<m):
    aW P o s fr (.agg ((ds.drop (n.toNat*sz)).take sz)) []:=
 dM λ_ _ _ _ w a _ _ hev=>by
  have h1:=hev x _ hx;have h2:=bY (hev y _ hy);obtain⟨v,hv⟩:∃v,a.eval x=v:=⟨_,rfl⟩
  rw[hv]at h1;cases h1 with
  | @agg vs _ hsz hr h1c=>
    obtain⟨dsc,g1,g2⟩:=pD he;obtain⟨inf,hinf,hsz1⟩:=cO.1 hs;have hagg:(isAgg e).run P w = .ok true w:=by
     unfold isAgg;rw[Sem.run_bind,run_underlying g1 w];cases dsc <;> simp_all [TypeDesc.isRow]
    have hle:n.toNat*sz+sz<=ds.length:=by
     rw[hl,<-Nat.succ_mul];exact mM _ (by omega)
    refine⟨.agg (vs.extract (n.toNat*sz) (n.toNat*sz+sz)),?_,.agg (by simp;omega) (λi u d hu hd=>?_) (λu hu=>?_)⟩
    .unfold execOp
     rw[ho];simp[hv,h2,Instr.index,asIntOf,run_underlying hu,h0,hn,sizeOf,typeInfo,hinf,hsz1,part,hagg]
    .rw[fU]at hd
     split at hd
     .rename_i hi
      rw[qQ]at hd;rw[a9h,aI (by omega)]at hu;exact hr _ _ _ hu hd
     .cases hd
    .obtain⟨i,hi⟩:=iS.1 hu
     rw[Bm,a9h]at hi;split at hi
     .exact h1c u (iS.2 ⟨_,by rw[Bm];exact hi⟩)
     .cases hi
theorem a5g(hσ:σ.Ok κ){t:TypeId}{x y:Operand}{w:X}{τ:Ty}{l:List τ.V}(ho:o.op = .index t x y)(hx:σ.ev x=some (.ag τ l))(hy:σ.ev y=some w)(h:YH c (σ.g.map (·.2)) t τ l w k=some r):dG c σ fr o k r:=by
 unfold YH at h;obtain⟨ik,n,hn,h⟩:=B7 h;split at h
 case h_2=>cases h
 rename_i m0 e m s h1 hu hs;obtain⟨hl',h9⟩:=eL h;have hl:=bK hl';clear hl' h;have hms:m0=m/\fP c.P e=some s:=by
  unfold u0 at hs;rw[hu]at hs;obtain⟨i,hi,e1⟩:=cO.1 hs;cases e1;exact⟨rfl,by unfold fP;rw[hi];rfl⟩
 obtain⟨rfl,hsz⟩:=hms;split at h9
 .rename_i he
  obtain⟨y',h,hg⟩:=BM h9;refine⟨_,_,h,rfl,λhon=>?_⟩;obtain⟨g1,g2⟩:=hg hon.g;have hd:=aV hσ hon hx;have hdy:=aV hσ hon hy;rw[hn]at hdy;unfold X.D at hd;rw[nY h1]at hd;rw[pJ h1];exact aH2 (P:=c.P) (fr:=fr) hu he hsz ho hd hdy (by rw[cP];omega) g1 (by rw[cZ,g2];rfl)
 .rename_i he
  obtain⟨h,hb⟩:=pK h9;refine⟨_,_,h,rfl,λhon=>?_⟩;have hb:=bK (hb hon.g);have hd:=aV hσ hon hx;have hdy:=aV hσ hon hy;rw[hn]at hdy;unfold X.D at hd;rw[nY h1]at hd;have:=a3K (P:=c.P) (fr:=fr) hu he hsz ho hd hdy (by rw[cP];omega) hb.1 hb.2;rw[<-OU,<-OT,<-nY h1]at this;unfold X.D;exact this
 .cases h9
end
end Go.Ax
/- Every operation. -/
namespace Go.Ax
open aA
open Go.RowKit Go.Ab
theorem IX{x:X}{k:X->Wx->O}{r:aF}(h:xX x k=some r):x.pl=true/\k x []=some r:=by
 unfold xX at h;split at h
 .rename_i hp;exact⟨hp,h⟩
 .cases h
theorem wK{α:Type}{a:Array α}{x:α}(h:a.toList=[x]):a = #[x]:=wX h
theorem zJ{α:Type}{a:Array α}{x y:α}(h:a.toList=[x,y]):a = #[x,y]:=wX h
theorem a8N{α:Type}{a:Array α}{x y z:α}(h:a.toList=[x,y,z]):a = #[x,y,z]:=wX h
theorem aJl{α:Type}{a:Array α}(h:a.toList=[]):a = #[]:=wX h
section
variable{c:Cx}{σ:Vw}{κ:Nat->Bool}{fr:Nat}{o:Oper}{k:X->Wx->O}{r:aF}
theorem a5Z(hσ:σ.Ok κ){x:Operand}(ho:o.op = .nilCheck x) (h:(ob (σ.ev x) λv=>match v with
    |.ref ..=>k v []
    |.rr ..=>k v []
    |.pt ..=>k v []
    |.fn ..=>k v []
    |_=>none)=some r):dG c σ fr o k r:=by
  obtain⟨v,hv,h⟩:=bF h;have hp:=yT hv;cases v with
  |ref q off=>exact⟨_,_,h,rfl,λhon=>Mq ho (aV hσ hon hv) (.inl ⟨_,_,rfl⟩)⟩
  |rr q i j s=>exact⟨_,_,h,rfl,λhon=>Mq ho (aV hσ hon hv) (.inl ⟨_,_,rfl⟩)⟩
  |pt τ y j=>exact⟨_,_,h,rfl,λhon=>Mq ho (aV hσ hon hv) (.inr (.inl ⟨_,_,rfl⟩))⟩
  |fn f xs=>exact⟨_,_,h,rfl,λhon=>Mq ho (aV hσ hon hv) (.inr (.inr ⟨_,_,rfl⟩))⟩
  |_=>cases h
theorem a5i(hσ:σ.Ok κ){f:FuncId}{first caps:Array Operand}(ho:o.op = .makeFunc (.func f) first caps) (h:(match Nat.blt f 1000000 with
    |true=>match first.toList with
      |[]=>σ.nC caps.toList λxs=>k (.fn f xs) []
      |fs=>match caps.toList with
        |[]=>σ.nC fs λxs=>k (.fn (f+1000000) xs) []
        |_=>none
    |false=>none)=some r):dG c σ fr o k r:=by
  split at h
  case h_2=>cases h
  rename_i hlt;have hlt:f<1000000:=iA hlt;split at h
  .rename_i hf
   obtain⟨xs,h,hl,hev⟩:=EG h;rw[aJl hf]at ho;refine⟨_,_,h,rfl,λhon=>?_⟩;unfold X.D;rw[hY];refine a2x hlt ho (by rw[cP,hl,nJ]) (λi x d hx hd=>?_);rw[cZ]at hd;obtain⟨y,hy,rfl⟩:=cO.1 hd;obtain⟨p,hp,hpv⟩:=hev i y hy;rw[Bm,hx]at hp;cases hp;exact aV hσ hon hpv
  .split at h
   .rename_i hf
    obtain⟨xs,h,hl,hev⟩:=EG h;rw[aJl hf]at ho;refine⟨_,_,h,rfl,λhon=>?_⟩;unfold X.D;rw[hY];refine a2w ho (by rw[cP,hl,nJ]) (λi x d hx hd=>?_);rw[cZ]at hd;obtain⟨y,hy,rfl⟩:=cO.1 hd;obtain⟨p,hp,hpv⟩:=hev i y hy;rw[Bm,hx]at hp;cases hp;exact aV hσ hon hpv
   .cases h
theorem a5n(hσ:σ.Ok κ){s d:TypeId}{x:Operand}(ho:o.op = .convert s d x) (h:(ob (σ.ev x) λv=>match c.P.underlying s,c.P.underlying d,v with
    |some (.slice e),some .string,v=>match c.P.underlying e with
      |some (.int .u8)=>ob (σ.src .u8 v) λl=>k (.e .tx l) []
      |_=>none
    |some .string,some (.slice e),.e .tx l=>match c.P.underlying e with
      |some (.int .u8)=>k (.e (.sl .u8) l) []
      |_=>none
    |_,_,v=>Nt c.P s d v λr=>k r [])=some r):dG c σ fr o k r:=by
  obtain⟨v,hv,h⟩:=bF h;split at h
  .rename_i hs hd
   split at h
   .rename_i he
    obtain⟨l,hl,h⟩:=bF h;exact a5r hσ hs he hd ho hv hl h
   .cases h
  .rename_i hs hd
   split at h
   .rename_i he
    exact a5P hσ hs hd he ho hv h
   .cases h
  .exact a5o hσ ho hv h
theorem a5j(hσ:σ.Ok κ){x:Operand}{n:Nat}(ho:o.op = .extract x n) (h:(ob (σ.ev x) λv=>match v with
    |.aS xs=>ob xs[n]? λr=>xX r k
    |_=>none)=some r):dG c σ fr o k r:=by
  obtain⟨v,hv,h⟩:=bF h;split at h
  .rename_i xs
   obtain⟨y,hy,h⟩:=bF h;obtain⟨hp,h⟩:=IX h;refine⟨_,_,h,hp,λhon=>?_⟩;have hD:=aV hσ hon hv;unfold X.D at hD;rw[hY]at hD;exact a3U ho hD (by rw[cZ,hy];rfl)
  .cases h
theorem a5c(hσ:σ.Ok κ){t e e':TypeId}{n b q:Nat}{τ τ':Ty}{l:List τ'.V}{ps:Array (Nat×Operand)}(ho:o.op = .buildSlice t n ps)(hE:mJ c t=some (e,τ,b))(hp:Ib σ n ps.toList=some (q,e',⟨τ',l⟩))(hτ:τ = .sl τ')
    (h:k (.own fr) [(fr,some (.nest e e' τ' [l])),(q,none)]=some r):dG c σ fr o k r:=by
 subst hτ;obtain⟨z,hA,hz⟩:=o4 hE;unfold Ib at hp;split at hp
 case h_2=>cases hp
 rename_i x hps;split at hp
 case h_2=>cases hp
 rename_i hn;have hn:=bB hn;subst hn;split at hp
 case h_2=>cases hp
 rename_i q' hx;split at hp
 case h_2=>cases hp
 rename_i e1 τ1 l1 hq;cases hp;rw[wK hps]at ho;refine⟨_,_,h,rfl,λhon=>?_⟩;have h1:∀u∈z.cells.toList,u.oneCell'=true:=by
  clear ho hps h hA;generalize z.cells.toList=l at hz;generalize aM (.sl τ') (Ty.zero (.sl τ'))=m at hz
  induction hz with
  |nil=>intro u hu;cases hu
  |v h r ih=>
    intro u hu;rcases eZ.1 hu with rfl|hu
    .exact h
    .exact ih u hu
  |sl r ih=>
    intro u hu;rcases eZ.1 hu with rfl|hu
    .rfl
    .exact ih u hu
 have hs1:z.cells.toList.length=1:=by rw[nJ];exact hA.z
 obtain⟨zv,hzv⟩:∃zv,z.cells.toList=[zv]:=by
  match z.cells.toList,hs1 with
  |[zv],_=>exact⟨zv,rfl⟩
 have hL:=AG.of hA h1 1 (by show 1*1<=2^24;decide);rw[hzv]at hL;exact a3C (P:=c.P) (fr:=fr) hL ho (aV hσ hon hx) (dI hq)
theorem a5a(hσ:σ.Ok κ){t e e':TypeId}{n b q:Nat}{τ τ':Ty}{l:List τ'.V}{ps:Array (Nat×Operand)}(ho:o.op = .buildSlice t n ps)(hE:mJ c t=some (e,τ,b))(hp:Ib σ n ps.toList=some (q,e',⟨τ',l⟩))(hτ:τ = .sl τ')
    (h:k (.own fr) [(fr,some (.bC e e' τ' .un [((),l)] none)),(q,none)]=some r):dG c σ fr o k r:=by
 subst hτ;obtain⟨z,hA,hz⟩:=o4 hE;unfold Ib at hp;split at hp
 case h_2=>cases hp
 rename_i x hps;split at hp
 case h_2=>cases hp
 rename_i hn;have hn:=bB hn;subst hn;split at hp
 case h_2=>cases hp
 rename_i q' hx;split at hp
 case h_2=>cases hp
 rename_i e1 τ1 l1 hq;cases hp;rw[wK hps]at ho;refine⟨_,_,h,rfl,λhon=>?_⟩;have h1:∀u∈z.cells.toList,u.oneCell'=true:=by
  clear ho hps h hA;generalize z.cells.toList=l at hz;generalize aM (.sl τ') (Ty.zero (.sl τ'))=m at hz
  induction hz with
  |nil=>intro u hu;cases hu
  |v h r ih=>
    intro u hu;rcases eZ.1 hu with rfl|hu
    .exact h
    .exact ih u hu
  |sl r ih=>
    intro u hu;rcases eZ.1 hu with rfl|hu
    .rfl
    .exact ih u hu
 have hs1:z.cells.toList.length=1:=by rw[nJ];exact hA.z
 obtain⟨zv,hzv⟩:∃zv,z.cells.toList=[zv]:=by
  match z.cells.toList,hs1 with
  |[zv],_=>exact⟨zv,rfl⟩
 have hL:=AG.of hA h1 1 (by show 1*1<=2^24;decide);rw[hzv]at hL;have hp1:tA σ.den (#[(0,x)]:Array (Nat×Operand)).toList [(0,X.D (.own q))]:=.cons (aV hσ hon hx) cJ.refl .nil;have:=aH0 (P:=c.P) (fr:=fr) (i0:=0) (out:=[X.D (.own q)]) hL ho hp1 rfl rfl (λi d hi hd=>by
  obtain⟨i',rfl⟩:∃i',i=i'+1:=⟨i-1,by omega⟩
  simp at hd) (dI hq)
 exact this
theorem a3e{τ κ ρ:Ty}(h:X2 τ=some (κ,ρ)):τ.size=ρ.size+1:=by
 unfold X2 at h;split at h
 .cases h;rfl
 .cases h;rfl
 .cases h
theorem a8U{l:List Value}{m:List Tree}(hz:jT l m):∀u∈l,u.oneCell'=true:=by
 induction hz with
 |nil=>intro u hu;cases hu
 |v h r ih=>
   intro u hu;rcases eZ.1 hu with rfl|hu
   .exact h
   .exact ih u hu
 |sl r ih=>
   intro u hu;rcases eZ.1 hu with rfl|hu
   .rfl
   .exact ih u hu
theorem aIQ:∀{xs ys:List X}{q:Nat},Ij xs=some (ys,q)->xs=ys++[.own q]
 |[],ys,q,h=>by cases h
 |[x],ys,q,h=>by
   unfold Ij at h;simp only at h;split at h
   .cases h;rfl
   .cases h
 |x::y::l,ys,q,h=>by
   unfold Ij at h;simp only at h;split at h
   .rename_i r q' hr
    cases h;rw[List.cons_append,<-aIQ hr]
   .cases h
theorem a5b(hσ:σ.Ok κ){t e e':TypeId}{n b q:Nat}{τ κ':Ty}{l:List κ'.V}{ys:List X}{ps:Array (Nat×Operand)}(ho:o.op = .buildSlice t n ps)(hE:mJ c t=some (e,τ,b))(hp:X1 σ n ps.toList=some (q,e',⟨κ',l⟩,ys))
    (h:Xs σ fr e e' q κ' l ys k τ=some r):dG c σ fr o k r:=by
 unfold Xs at h;split at h
 case h_2=>cases h
 rename_i ρ κ1;split at h
 case h_2=>cases h
 rename_i hκ _;have hκ':=hκ.down;subst hκ';split at h
 case h_2=>cases h
 rename_i hle;have hle:=iA hle;split at h
 case h_2=>cases h
 rename_i rr hj;obtain⟨z,hA,hz⟩:=o4 hE;change mQ c.P t e z (ρ.size+1) b at hA;unfold X1 at hp;split at hp
 case h_2=>cases hp
 rename_i x hps;split at hp
 case h_2=>cases hp
 rename_i hn;have hn:=bB hn;subst hn;split at hp
 case h_2=>cases hp
 rename_i xs hx;split at hp
 case h_2=>cases hp
 rename_i ys' q' hlo;split at hp
 case h_2=>cases hp
 rename_i e1 τ1 l1 hq;cases hp;have hxs:=aIQ hlo;subst hxs;rw[wK hps]at ho;refine⟨_,_,h,rfl,λhon=>?_⟩;have h1:=a8U hz;have hs1:z.cells.toList.length=ρ.size+1:=by rw[nJ];exact hA.z
 have hL:=AG.of hA h1 1 (by omega);have hzs:(cI 1 z.cells.toList).flatten=z.cells.toList:=by simp
 rw[hzs]at hL;have hev:=aV hσ hon hx;unfold X.D at hev;rw[hY,gH]at hev;have hw:eE σ.den.H (ys.map X.D) ((aM ρ rr).map .t):=by
  have h2:eE σ.den.H (ys.map X.D) ((ys.map σ.kI).map X.D):=by
   rw[qN];exact eE.of_map (f:=X.D) (g:=X.D ∘ σ.kI) λx _=>yN σ x
  exact h2.trans (sN hj)
 have hel:(aM ρ rr).length=ρ.size:=dJ ρ rr;have hpw:tA σ.den (#[(0,x)]:Array (Nat×Operand)).toList [(0,.agg ((aM ρ rr).map .t++[X.D (.own q)]))]:=.cons hev (cJ.agg (hw.app (.cons cJ.refl .nil))) .nil;have hol:((aM ρ rr).map D.t++[X.D (.own q)]).length=ρ.size+1:=by rw[aL,cP,hel];rfl
 have hf:lE ((List.range 1).map λi=>(i*(ρ.size+1),ρ.size+1)) (z.cells.toList.map λu=>.t (.v u)) [(0,.agg ((aM ρ rr).map .t++[X.D (.own q)]))]=some ((aM ρ rr).map .t++[X.D (.own q)]):=by
  show lE [(0*(ρ.size+1),ρ.size+1)] _ _=_;unfold lE;show(if(D.agg _).val&&((D.agg ((aM ρ rr).map D.t++[X.D (.own q)])).cells.length == ρ.size+1)&&decide (0*(ρ.size+1)+(D.agg ((aM ρ rr).map D.t++[X.D (.own q)])).cells.length<=(z.cells.toList.map λu=>D.t (.v u)).length)then _ else _)=_;have hc:(D.agg ((aM ρ rr).map D.t++[X.D (.own q)])).cells=(aM ρ rr).map D.t++[X.D (.own q)]:=rfl;rw[hc,hol,cP,hs1,aI (by simp[D.val])];unfold lE
  congr 1
  rw[vA];show(z.cells.toList.map λu=>D.t (.v u)).take 0++_++(z.cells.toList.map λu=>D.t (.v u)).drop (0+_)=_;rw[E4,k7,rR (by rw[hol,cP,hs1];omega),e9]
 have hmid:((aM ρ rr).map D.t++[X.D (.own q)])[ρ.size]?=some (.own q):=by
  rw[dN (by rw[cP,hel];exact cE _),cP,hel,kZ];rfl
 have:=aH0 (P:=c.P) (fr:=fr) (i0:=ρ.size) hL ho hpw hf hmid (λi d hi hd=>by
  have hlt:=(bZ.1 hd).1;rw[hol]at hlt;rw[dV (by rw[cP,hel];omega),cZ]at hd;obtain⟨t,_,rfl⟩:=cO.1 hd;exact⟨t,rfl⟩) (dI hq)
 have hcell:((((aM ρ rr).map D.t++[X.D (.own q)]).map NC.fK).set ρ.size (.cX (dR l) (bR (aM κ') l)))=mC (ρ.size+1) (bR dY [(rr,l)]) none:=by
  show _=(dY (rr,l)++[]);unfold dY;rw[e9,gH,List.set_append_right _ _ (by rw[cP,cP,hel];exact cE _),cP,cP,hel,kZ,qN];rfl
 rw[hcell]at this;exact this
theorem aHk{w:X}{q:Nat}{e1 e1':TypeId}{κ' ρ:Ty}{l:List (ρ.V×List κ'.V)}(h:I8 σ w=some (q,e1,e1',⟨κ',ρ,l⟩)):w = .own q/\σ.H q=some (.bC e1 e1' κ' ρ l none):=by
 unfold I8 at h;split at h
 .split at h
  .rename_i q' e e' κ'' ρ' l' hq
   cases h;exact⟨rfl,hq⟩
  .cases h
 .cases h
theorem a6A(hσ:σ.Ok κ){t e e1 e1':TypeId}{x y:Operand}{v w:X}{bt q:Nat}{τ0 κ' ρ:Ty}{l':List (ρ.V×List κ'.V)}(ho:o.op = .call { callee:=.builtin .append,args:=#[x,y],argTypes:=#[t,t] })(hE:mJ c t=some (e,τ0,bt))
    (hx:σ.ev x=some v) (hy:σ.ev y=some w) (hw:I8 σ w=some (q,e1,e1',⟨κ',ρ,l'⟩)) (h:ZV σ e fr bt v q e1 e1' κ' ρ l' k τ0=some r):dG c σ fr o k r:=by
 unfold ZV at h;split at h
 case h_2=>cases h
 rename_i κ1 ρ1 hns;have hsz:=a3e hns;split at h
 case h_2=>cases h
 rename_i hκ _;have hκ':=hκ.down;subst hκ';split at h
 case h_2=>cases h
 rename_i hρ _;have hρ':=hρ.down;subst hρ';split at h
 case h_2=>cases h
 rename_i he;have he:=bB he;subst he;obtain⟨z,hA,_⟩:=o4 hE;rw[hsz]at hA;obtain⟨rfl,hq⟩:=aHk hw;split at h
 .obtain⟨hb,h⟩:=eL h
  refine⟨_,_,h,rfl,λhon=>?_⟩;unfold bE at hb;have hb:=bK hb;have:=aHa (P:=c.P) (fr:=fr) (ls:=[]) hA ho (.nil (aV hσ hon hx)) (aV hσ hon hy) (dI hq) (by simp) (λi d h=>by simp at h) (Yw l') ⟨by rw[eC];exact hb.1,by simp only[maxLen];omega⟩;rw[eC]at this;exact this
 .split at h
  case h_2=>cases h
  rename_i q0 e0 e0' κ0 ρ0 l hv;obtain⟨rfl,hq0⟩:=aHk hv;split at h
  case h_2=>cases h
  rename_i hκ0 _;split at h
  case h_2=>cases h
  rename_i hρ0 _;have h0:=hκ0;have h0':=hρ0;subst h0 h0';split at h
  case h_2=>cases h
  rename_i hc;simp only[aT,wW]at hc;obtain⟨⟨c1,c2⟩,c3⟩:=hc;have c1:=bB c1;have c2:=bB c2;have c3:=qF c3;subst c1 c2;obtain⟨hb,h⟩:=eL h;refine⟨_,_,h,rfl,λhon=>?_⟩;unfold bE at hb;have hb:=bK hb;have:=aHa (P:=c.P) (fr:=fr) hA ho (.own (aV hσ hon hx) (dI hq0)) (aV hσ hon hy) (dI hq) (λe=>c3 (gZ e)) (Yw l) (Yw l') ⟨hb.1,by simp only[maxLen];omega⟩;have e1:mC (ρ0.size+1) (bR dY l) none++mC (ρ0.size+1) (bR dY l') none=mC (ρ0.size+1) (bR dY (l++l')) none:=by
   show bR dY l++bR dY l'=bR dY (l++l');rw[OW]
  rw[e1,<-aL]at this;exact this
theorem aHu{w:X}{q:Nat}{e1 e1':TypeId}{τ:Ty}{l:List (List τ.V)}(h:Ia σ w=some (q,e1,e1',⟨τ,l⟩)):w = .own q/\σ.H q=some (.nest e1 e1' τ l):=by
 unfold Ia at h;split at h
 .split at h
  .rename_i q' e e' τ' l' hq
   cases h;exact⟨rfl,hq⟩
  .cases h
 .cases h
theorem a6B(hσ:σ.Ok κ){t e e1 e1':TypeId}{x y:Operand}{v w:X}{bt q:Nat}{τ0 τ:Ty}{l':List (List τ.V)}(ho:o.op = .call { callee:=.builtin .append,args:=#[x,y],argTypes:=#[t,t] })(hE:mJ c t=some (e,τ0,bt))(hτ:τ0 = .sl τ)
    (hx:σ.ev x=some v) (hy:σ.ev y=some w) (hw:Ia σ w=some (q,e1,e1',⟨τ,l'⟩)) (h:ZW σ e fr bt v q e1 e1' τ l' k=some r):dG c σ fr o k r:=by
 subst hτ;obtain⟨z,hA,_⟩:=o4 hE;obtain⟨rfl,hq⟩:=aHu hw;unfold ZW at h;split at h
 case h_2=>cases h
 rename_i he;have he:=bB he;subst he;split at h
 .obtain⟨hb,h⟩:=eL h
  refine⟨_,_,h,rfl,λhon=>?_⟩;unfold bE at hb;have hb:=bK hb;have:=aHc (P:=c.P) (fr:=fr) hA ho (.nil (aV hσ hon hx)) (aV hσ hon hy) (dI hq) (by simp) (by rw[cP,List.length_nil];exact⟨by rw[eC];exact hb.1,by simp only[maxLen];omega⟩);exact this
 .split at h
  case h_2=>cases h
  rename_i q0 e0 e0' τ0 l hv;obtain⟨rfl,hq0⟩:=aHu hv;split at h
  case h_2=>cases h
  rename_i hτ _;have hτ':=hτ;subst hτ';split at h
  case h_2=>cases h
  rename_i hc;simp only[aT,wW]at hc;obtain⟨⟨c1,c2⟩,c3⟩:=hc;have c1:=bB c1;have c2:=bB c2;have c3:=qF c3;subst c1 c2;obtain⟨hb,h⟩:=eL h;refine⟨_,_,h,rfl,λhon=>?_⟩;unfold bE at hb;have hb:=bK hb;have:=aHc (P:=c.P) (fr:=fr) hA ho (.own (aV hσ hon hx) (dI hq0)) (aV hσ hon hy) (dI hq) (λe=>c3 (gZ e)) (by rw[cP,cP];exact⟨hb.1,by simp only[maxLen];omega⟩);unfold WA;simp only[iH,vF,lH,rP,XO.A];rw[<-gH]at this;exact this
theorem NY{d:TypeDesc}{τ:Ty}(h:Dw d τ=true)(x:τ.V):nD τ x = .v (kv τ x)/\MapKept.IsKey d (kv τ x)/\τ.one=true:=by
 unfold Dw at h;split at h
 .exact⟨rfl,(bK h).symm,rfl⟩
 .exact⟨rfl,rfl,rfl⟩
 .exact⟨rfl,trivial,rfl⟩
 .exact⟨rfl,trivial,rfl⟩
 .cases h
theorem a6y{a b:Int}(h:yZ a b=true):a=b:=bK h
theorem a6x{a b:Int}(h:a=b):yZ a b=true:=aX h
theorem a7A{a b:Bool}(h:JC a b=true):a=b:=bK h
theorem a6z{a b:Bool}(h:a=b):JC a b=true:=aX h
theorem NX{d:TypeDesc}{τ:Ty}(h:Dw d τ=true)(x y:τ.V):Dx τ x y=true ↔ kv τ x=kv τ y:=by
 unfold Dw at h;split at h
 .show yZ x y=true ↔ _
  exact⟨λe=>aR (Value.int _) (a6y e),λe=>a6x (Value.int.inj e).2⟩
 .show JB x y=true ↔ _
  unfold JB;simp only[kJ,kv,Value.int.injEq,true_and];constructor
  .intro e;rw[e]
  .intro e;exact B9.1 (by omega)
 .show Nr x y=true ↔ _
  unfold Nr;simp only[kJ,kv,Value.string.injEq];constructor
  .intro e;rw[e]
  .intro e
   have:=aR (λb:ByteArray=>b.data.toList) e;exact this
 .show JC x y=true ↔ _
  exact⟨λe=>aR Value.bool (a7A e),λe=>a6z (Value.bool.inj e)⟩
 .cases h
theorem aIR{τ:Ty}{x:X}{kf:τ.V->O}(h:NV τ x kf=some r):∃y,kf y=some r/\(τ.one=true->x.D = .t (nD τ y)):=by
 unfold NV at h;split at h
 .rename_i τ' y
  split at h
  .rename_i he _
   have he':=he;subst he';exact⟨y,h,λh1=>pJ h1 y⟩
  .cases h
 .cases h
theorem aIF{τ:Ty}{x:τ.V}{kf:X->O}{k0:O}:∀{l:List (τ.V×X)},Xo τ x kf k0 l=some r->
    (∃j y v,l[j]?=some (y,v)/\Dx τ y x=true/\(∀(m:Nat)(p:τ.V×X),m<j->l[m]?=some p->Dx τ p.1 x=false)/\kf v=some r)\/((∀p∈l,Dx τ p.1 x=false)/\k0=some r)
 |[],h=>.inr ⟨λp hp=>(by cases hp),h⟩
 |(y,v)::l,h=>by
   rcases wJ h with⟨hb,h⟩|⟨hb,h⟩
   .exact .inl ⟨0,y,v,rfl,hb,λm p hm=>by omega,h⟩
   .rcases aIF h with⟨j,y',v',h1,h2,h3,h4⟩|⟨h1,h2⟩
    .refine .inl ⟨j+1,y',v',by simpa using h1,h2,λm p hm hp=>?_,h4⟩
     cases m with
     |zero=>simp at hp;subst hp;exact hb
     |succ m=>exact h3 m p (by omega) (by simpa using hp)
    .refine .inr ⟨λp hp=>?_,h2⟩
     rcases eZ.1 hp with rfl|hp
     .exact hb
     .exact h1 p hp
theorem aHf{cm b:Bool}{x:X}:(XY cm x b).D=Ms cm x.D b:=by
 cases cm with
 |false=>rfl
 |true=>
   show(X.aS [x,.e .bo b]).D=_;simp only[X.D,Ds];rfl
theorem a52{t:TypeId}(ho:o.op = .makeMap t none){τ:Ty}(h:k (.own fr) [(fr,some (.mp τ []))]=some r):dG c σ fr o k r:=
 ⟨_,_,h,rfl,λ_=>a2p ho⟩
theorem a5f(hσ:σ.Ok κ){t kt et:TypeId}{m x y:Operand}{a b v:X}(ho:o.op = .insert t m x y)(hu:c.P.underlying t=some (.map kt et))(hm:σ.ev m=some a)(hx:σ.ev x=some b)(hy:σ.ev y=some v)(h:Xc c σ kt a b v k=some r):dG c σ fr o k r:=by
 unfold Xc at h;split at h
 case h_2=>cases h
 rename_i d q hd;split at h
 case h_2=>cases h
 rename_i τ l hq;split at h
 case h_2=>cases h
 rename_i hc;rw[aT]at hc;obtain⟨hc,hv⟩:=hc;obtain⟨z,h,hz⟩:=aIR h;obtain⟨hn,h⟩:=eL h;refine⟨_,_,h,rfl,λhon=>?_⟩;obtain⟨k1,k2,k3⟩:=NY hc z;have hx':=aV hσ hon hx;rw[hz k3,k1]at hx';have hks:∀p∈(l.map λp=>(kv τ p.1,p.2.D)),MapKept.IsKey d p.1:=λp hp=>by
  obtain⟨p',_,rfl⟩:=gU.1 hp;exact(NY hc p'.1).2.1
 have:=a2n (P:=c.P) (fr:=fr) hu hd ho (aV hσ hon hm) (dI hq) hx' k2 hks (λp hp e=>by
  obtain⟨p',hp',rfl⟩:=gU.1 hp;have h1:=fG.1 hn p' hp';rw[(NX hc p'.1 z).2 e]at h1;cases h1) (aV hσ hon hy)
 unfold X.D WA;simp only[iH,vF,lH,XO.A,gH];exact this
theorem a57(hσ:σ.Ok κ){t kt et:TypeId}{m x:Operand}{cm:Bool}{a b z:X}(ho:o.op = .lookup t m x cm)(hu:c.P.underlying t=some (.map kt et))(hm:σ.ev m=some a)(hx:σ.ev x=some b)(hz:vK c.P et=some z)(h:Xd c σ kt a b z cm (λr=>xX r k)=some r):dG c σ fr o k r:=by
 unfold Xd at h;split at h
 case h_2=>cases h
 rename_i d q hd;split at h
 case h_2=>cases h
 rename_i τ l hq;split at h
 case h_2=>cases h
 rename_i hc;obtain⟨y,h,hy⟩:=aIR h;obtain⟨k1,k2,k3⟩:=NY hc y;have hks:∀p∈(l.map λp=>(kv τ p.1,p.2.D)),MapKept.IsKey d p.1:=λp hp=>by
  obtain⟨p',_,rfl⟩:=gU.1 hp;exact(NY hc p'.1).2.1
 rcases aIF h with⟨j,y',v,h1,h2,h3,h4⟩|⟨h1,h2⟩
 .obtain⟨hp,h⟩:=IX h4
  refine⟨_,_,h,hp,λhon=>?_⟩;have hx':=aV hσ hon hx;rw[hy k3,k1]at hx';rw[aHf];refine a2t (P:=c.P) (fr:=fr) hu hd ho (aV hσ hon hm) (dI hq) hx' k2 hks (j:=j) (by rw[cZ,h1];show some (kv τ y',v.D)=_;rw[(NX hc y' y).1 h2]) (λm p hm hp e=>?_);rw[cZ]at hp;obtain⟨p',hp',rfl⟩:=cO.1 hp;have:=h3 m p' hm hp';rw[(NX hc p'.1 y).2 e]at this;cases this
 .obtain⟨hp,h⟩:=IX h2
  refine⟨_,_,h,hp,λhon=>?_⟩;have hx':=aV hσ hon hx;rw[hy k3,k1]at hx';rw[aHf];unfold vK at hz;split at hz
  case h_2=>cases hz
  rename_i w hw;have hD:z.D=oO w/\rI w=true:=⟨(I6 hz).2.1,(I6 hz).1⟩;rw[hD.1];refine a2s (P:=c.P) (fr:=fr) hu hd ho (aV hσ hon hm) (dI hq) hx' k2 hks (λp hp e=>?_) hw hD.2;obtain⟨p',hp',rfl⟩:=gU.1 hp;have:=h1 p' hp';rw[(NX hc p'.1 y).2 e]at this;cases this
theorem a5S(hσ:σ.Ok κ){t:TypeId}{x:Operand}{τ:Ty}{y:τ.V}{j:Nat}(ho:o.op = .slice t x none none none)(hx:σ.ev x=some (.pt τ y j))(h:Wl c t (.pt τ y j) (λr=>k r [])=some r):dG c σ fr o k r:=by
 unfold Wl at h;split at h
 case h_2=>cases h
 rename_i n e hu;obtain rfl|⟨j',rfl⟩:j=0\/∃j',j=j'+1:=by cases j;exact .inl rfl;exact .inr ⟨_,rfl⟩
 case inr=>cases h
 simp only at h;split at h
 case h_2=>cases h
 rename_i τ' _;split at h
 case h_2=>cases h
 rename_i m hm;split at h
 case h_2=>cases h
 split at h
 case h_2=>cases h
 rename_i l hl;split at h
 case h_2=>cases h
 rename_i hn;have hn:=bB hn;refine⟨_,_,h,rfl,λhon=>?_⟩;have:=a29 (P:=c.P) (fr:=fr) hu hm ho (aV hσ hon hx);rw[Wd _ _ _ _ hl,<-hn]at this;exact this
theorem a4O(a:Option Int):cL a=eI a:=by cases a <;> rfl
theorem a5D(n:Nat)(b:Option Int):eA n b=fD n b:=by cases b <;> rfl
theorem a5R(hσ:σ.Ok κ){t e0:TypeId}{x:Operand}{lo hi:Option Operand}{q:Nat}{τ:Ty}{l:List τ.V}(ho:o.op = .slice t x lo hi none)(hx:σ.ev x=some (.own q))(hq:σ.H q=some (.row e0 τ l false))(h:σ.nA lo (λlo=>σ.nA hi λhi=>Wk c σ t q τ l lo hi k)=some r):dG c σ fr o k r:=by
 obtain⟨a,h,ha⟩:=xZ hσ h;obtain⟨b,h,hb⟩:=xZ hσ h;unfold Wk at h;split at h
 case h_2=>cases h
 rename_i e hu;split at h
 case h_2=>cases h
 rename_i m hm;split at h
 case h_2=>cases h
 rename_i hs;rw[aT]at hs;have hs0:=iA hs.2;have hs:=bB hs.1;subst hs;obtain⟨h,hok⟩:=pK h;refine⟨_,_,h,rfl,λhon=>?_⟩;have:=a27 (P:=c.P) (fr:=fr) hs0 hu hm ho (aV hσ hon hx) (dI hq) (ha hon) (hb hon) (hok hon.g);rw[<-a4O,<-a5D]at this;exact this
theorem Yu(hσ:σ.Ok κ){τ:Ty}{w:X}{y:Operand}{kf:List τ.V->O}(hy:σ.ev y=some w)(h:JD σ τ w kf=some r):∃src,kf src=some r/\(σ.On->τ.size=1->vJ σ.den y 1 src.length (src.flatMap (aM τ))):=by
 unfold JD at h;split at h
 .rename_i q i n s
  split at h
  case h_2=>cases h
  rename_i e τ' l st hq;split at h
  case h_2=>cases h
  rename_i hτ _;have hτ':=hτ;subst hτ';split at h
  case h_2=>cases h
  rename_i hs;have hs:=bB hs;subst hs;obtain⟨hb,h⟩:=eL h;have hb:=bK hb;refine⟨_,h,λhon h1=>?_⟩;have hq':σ.den.H q=some (.row e 1 l.length (l.flatMap (aM τ')) st):=by
   have h0:σ.den.H q=some (.row e τ'.size l.length (l.flatMap (aM τ')) st):=dI hq;rw[h1]at h0;exact h0
  have hv:=aV hσ hon hy;unfold X.D at hv;rw[h1]at hv;have hl:=sU l;rw[h1]at hl;have:=vJ.vw (sz:=1) hv hq' (by rw[hl];omega);have e1:((bR (aM τ') l).drop (i*1)).take (n*1)=bR (aM τ') ((l.drop i).take n):=by
   have e2:=Nc (f:=aM τ') (s:=1) (λx=>by rw[dJ τ' x,h1]) l i;have e3:=BN (f:=aM τ') (s:=1) (λx=>by rw[dJ τ' x,h1]) (l.drop i) n;rw[e2,e3]
  rw[e1]at this;have e4:((l.drop i).take n).length=n:=by rw[iT,lI];omega
  show vJ σ.den y 1 ((l.drop i).take n).length (bR (aM τ') ((l.drop i).take n));rw[e4];exact this
 .obtain⟨l,hl,h⟩:=bF h
  refine⟨l,h,λhon h1=>.src (MU (aV hσ hon hy) hl) ?_⟩;have:=sU l;rw[h1]at this;exact this
theorem aIb(hσ:σ.Ok κ){t t' e0:TypeId}{x y:Operand}{q i n:Nat}{τ:Ty}{l src:List τ.V}(ho:o.op = .call { callee:=.builtin .copy,args:=#[x,y],argTypes:=#[t,t'] })(hx:σ.On->(σ.den.ev x=some (.own q)/\i=0/\n=l.length)\/σ.den.ev x=some (.vw q i n))(hq:σ.H q=some (.row e0 τ l false))
    (hy:σ.On->τ.size=1->vJ σ.den y 1 src.length (src.flatMap (aM τ))) (h:Ns c t q i n e0 τ l src k=some r):dG c σ fr o k r:=by
 unfold Ns at h;split at h
 case h_2=>cases h
 rename_i hm;obtain⟨e,he,hs⟩:=wP.1 hm;split at h
 case h_2=>cases h
 rename_i h1;have h1:=bB h1;obtain⟨hb,h⟩:=eL h;have hb:=bK hb;refine⟨_,_,h,rfl,λhon=>?_⟩;have hu:c.P.underlying t=some (.slice e):=by
  unfold Iw at he;split at he
  .rename_i e' hu;cases he;exact hu
  .cases he
 have hq':σ.den.H q=some (.row e0 1 l.length (l.flatMap (aM τ)) false):=by
  have h0:σ.den.H q=some (.row e0 τ.size l.length (l.flatMap (aM τ)) false):=dI hq;rw[h1]at h0;exact h0
 have hl:=sU l;rw[h1,lP]at hl;have hf:∀x:τ.V,(aM τ x).length=1:=λx=>by rw[dJ τ x,h1]
 have:=a3X (P:=c.P) (fr:=fr) hu hs ho (hx hon) hq' (hy hon h1) (by rw[hl];exact hb);have e1:=BN (f:=aM τ) (s:=1) hf l i;have e2:=BN (f:=aM τ) (s:=1) hf src n;have e3:=Nc (f:=aM τ) (s:=1) hf l (i+min src.length n);rw[lP]at e1 e2 e3;rw[e1,e2,e3,<-OW,<-OW]at this;have e4:(l.take i++src.take n++l.drop (i+min src.length n)).length=l.length:=by
  simp only[aL,iT,lI];omega
 have hA:(XO.row e0 τ (l.take i++src.take n++l.drop (i+min src.length n)) false).A = .row e0 1 l.length (bR (aM τ) (l.take i++src.take n++l.drop (i+min src.length n))) false:=by
  show aO.row e0 τ.size (l.take i++src.take n++l.drop (i+min src.length n)).length _ false=_;rw[e4,h1]
 show aW c.P o σ.den fr _ [(q,some (XO.row e0 τ (l.take i++src.take n++l.drop (i+min src.length n)) false).A)];rw[hA];exact this
theorem a5m(hσ:σ.Ok κ){t t':TypeId}{x y:Operand}{v w:X}(ho:o.op = .call { callee:=.builtin .copy,args:=#[x,y],argTypes:=#[t,t'] })(hx:σ.ev x=some v)(hy:σ.ev y=some w)(h:Yt c σ t v w k=some r):dG c σ fr o k r:=by
 unfold Yt at h;split at h
 .rename_i q
  split at h
  case h_2=>cases h
  rename_i e τ l hq;obtain⟨src,h,hs⟩:=Yu hσ hy h;exact aIb hσ ho (λhon=>.inl ⟨aV hσ hon hx,rfl,rfl⟩) hq hs h
 .rename_i q i n s
  split at h
  case h_2=>cases h
  rename_i e τ l hq;split at h
  case h_2=>cases h
  rename_i hb;have hb:=bB hb;subst hb;obtain⟨src,h,hs⟩:=Yu hσ hy h;refine aIb hσ ho (λhon=>.inr ?_) hq hs h;have:=aV hσ hon hx;unfold X.D at this;rw[lP]at this;exact this
 .cases h
theorem a5z(hσ:σ.Ok κ){t e:TypeId}{x y:Operand}{v w:X}{bt:Nat}{τ:Ty}{p:Nat×Nat×Nat}(ho:o.op = .call { callee:=.builtin .append,args:=#[x,y],argTypes:=#[t,t] })(hE:mJ c t=some (e,τ,bt))
    (hx:σ.ev x=some v) (hp:XD v=some p) (hy:σ.ev y=some w) (h:ZT σ e τ bt fr p w k=some r):dG c σ fr o k r:=by
 unfold XD at hp;split at hp
 case h_2=>cases hp
 rename_i q i n s;split at hp
 case h_2=>cases hp
 rename_i hi;have hi:=bB hi;subst hi;cases hp;unfold ZT at h;simp only at h;split at h
 case h_2=>cases h
 rename_i e' τ' l hq;split at h
 case h_2=>cases h
 rename_i hτ _;have hτ':=hτ;subst hτ';split at h
 case h_2=>cases h
 rename_i hc;simp only[aT]at hc;have he:=bB hc.1;have hs:=bB hc.2.1;have h1:=bB hc.2.2;subst he hs;obtain⟨hn,h⟩:=eL h;have hn:=bK hn;obtain⟨src,h,hsrc⟩:=Yu hσ hy h;obtain⟨hb,h⟩:=eL h;obtain⟨z,hA,_⟩:=o4 hE;refine⟨_,_,h,rfl,λhon=>?_⟩;unfold bE at hb;have hb:=bK hb;rw[h1]at hA;have hv:=aV hσ hon hx;have hq':=dI hq;have hq':σ.den.H q=some (.row e' 1 l.length (l.flatMap (aM τ')) false):=by
  have h0:σ.den.H q=some (.row e' τ'.size l.length (l.flatMap (aM τ')) false):=hq';rw[h1]at h0;exact h0
 have:=a36 (P:=c.P) (fr:=fr) hA ho hv hq' hn (hsrc hon h1) ⟨hb.1,by simp only[maxLen];omega⟩;have e3:=BN (f:=aM τ') (s:=1) (λx=>by rw[dJ τ' x,h1]) l n;rw[e3,<-OW]at this;have e4:((l.take n)++src).length=n+src.length:=by rw[aL,iT,OP hn]
 rw[<-e4,<-h1]at this;exact this
theorem a19{P:Program}{t t' ty:TypeId}{vs:Array Value}{w:World}(h:ZB P t t'=true):(Builtin.append_ #[t,t'] ty vs).run P w=(Builtin.append_ #[t,t] ty vs).run P w:=by
 unfold ZB at h;split at h
 .rename_i e e' h1 h2
  unfold Builtin.append_;cases vs[0]? with
  |none=>rfl
  |some s=>cases vs[1]? with
    |none=>rfl
    |some x=>cases s <;> simp[Sem.run_bind,run_underlying h1,run_underlying h2]
 .cases h
theorem a2c{P:Program}{o o':Oper}{s:St}{fr:Nat}{d:D}{W:Wr}(hd:o'.dst=o.dst)(hr:∀ρ w,(execOp ρ o).run P w=(execOp ρ o').run P w)(h:aW P o' s fr d W):aW P o s fr d W:=by
 intro E s₁ a w h1 h2 h3 h4 h5 h6 Q;have:=h E s₁ a w h1 h2 h3 h4 (λt ht=>h5 t (hd ▸ ht)) h6 Q;rw[hd]at this;unfold Oper.wp at this ⊢;rw[hr];unfold Oper.upon at this ⊢;rw[hd]at this;exact this
theorem aIe(hσ:σ.Ok κ){st:Bool}{t:TypeId}{x y:Operand}(ho:o.op = .call { callee:=.builtin .append,args:=#[x,y],argTypes:=#[t,t] })(h:ZU c σ fr st t x y k=some r):dG c σ fr o k r:=by
 unfold ZU at h;obtain⟨⟨e,τ,bt⟩,hE,h⟩:=bF h;simp only at h;obtain⟨v,hv,h1⟩:=bF h;clear h;obtain⟨w,hw,h2⟩:=bF h1;clear h1;split at h2
 .rename_i p hp
  exact a5z hσ ho hE hv hp hw h2
 rename_i hnp;clear hnp;split at h2
 .rename_i q e1 e1' τ1 l' hnw
  split at h2
  .rename_i hτ _
   split at h2
   .exact a6B hσ ho hE hτ.down hv hw hnw h2
   .cases h2
  .cases h2
 split at h2
 .rename_i q e1 e1' κ' ρ l' hnw
  exact a6A hσ ho hE hv hw hnw h2
 obtain⟨l',hl',h⟩:=bF h2;clear h2;refine a5x hσ ho hE hv hw hl' (st:=st) ?_;split at h
 .rename_i q
  split at h
  .rename_i e' τ' l st' hq
   generalize eV τ' τ=p at h;cases p with
   |none=>cases h
   |some g=>
     obtain⟨g⟩:=g;subst g;simp only at h;split at h
     .rename_i hb
      have hb:=bB hb;subst hb;exact .inl ⟨q,st',l,rfl,hq,h⟩
     .cases h
  .cases h
 .exact .inr ⟨rfl,h⟩
 .cases h
theorem a5s(hσ:σ.Ok κ){st:Bool}{b:Builtin}{args:Array Operand}{tys:Array TypeId}(ho:o.op = .call { callee:=.builtin b,args:=args,argTypes:=tys })(h:eP c σ fr st { o with op:=.call { callee:=.builtin b,args:=args,argTypes:=tys } } k=some r):dG c σ fr o k r:=by
 unfold eP at h;simp only at h;split at h
 .rename_i x t ha ht
  cases wK ha;cases wK ht;obtain⟨v,hv,h⟩:=bF h;exact a5e hσ ho hv h
 .rename_i x y t t' ha ht
  cases zJ ha;cases zJ ht;split at h
  .exact a5y hσ ho h
  rename_i he;rcases Bool.or_eq_true_iff.1 he with he|he
  .have he:=bB he
   subst he;exact aIe (st:=st) hσ ho h
  .obtain⟨x1,W1,g1,g2,g3⟩:=aIe (st:=st) (o:={ o with op:=.call { callee:=.builtin .append,args:=#[x,y],argTypes:=#[t,t] } }) hσ rfl h
   refine⟨x1,W1,g1,g2,λhon=>a2c (o':={ o with op:=.call { callee:=.builtin .append,args:=#[x,y],argTypes:=#[t,t] } }) rfl (λρ w=>?_) (g3 hon)⟩;unfold execOp;rw[ho];simp[resolve,invoke,builtin,a19 he]
 .rename_i x t ha ht
  cases wK ha;cases wK ht;obtain⟨v,hv,h⟩:=bF h;exact a5U hσ ho hv h
 .rename_i x y t t' ha ht
  cases zJ ha;cases zJ ht;obtain⟨v,hv,h⟩:=bF h;obtain⟨w,hw,h⟩:=bF h;exact a5O hσ ho hv hw h
 .rename_i x t ha ht
  cases wK ha;cases wK ht;obtain⟨v,hv,h⟩:=bF h;split at h
  .rename_i e hu
   exact⟨_,_,h,rfl,λhon=>a3Z (P:=c.P) (fr:=fr) hu ho (aV hσ hon hv)⟩
  .cases h
 .rename_i x y t t' ha ht
  cases zJ ha;cases zJ ht;obtain⟨v,hv,h⟩:=bF h;obtain⟨w,hw,h⟩:=bF h;exact a5m hσ ho hv hw h
 .rename_i x y ha
  cases zJ ha;obtain⟨v,hv,h⟩:=bF h;obtain⟨w,hw,h⟩:=bF h;split at h
  .unfold NM at h
   exact⟨_,_,h,rfl,λhon=>a2u ho (aV hσ hon hv) (aV hσ hon hw)⟩
  .cases h
 .rename_i x y z ha
  cases a8N ha;obtain⟨v,hv,h1⟩:=bF h;clear h;obtain⟨w,hw,h2⟩:=bF h1;clear h1;obtain⟨u,hu,h3⟩:=bF h2;clear h2;split at h3
  .unfold NM at h3
   exact⟨_,_,h3,rfl,λhon=>a2v ho (aV hσ hon hv) (aV hσ hon hw) (aV hσ hon hu)⟩
  .cases h3
 .rename_i x y ha
  cases zJ ha;obtain⟨v,hv,h⟩:=bF h;obtain⟨w,hw,h⟩:=bF h;split at h
  .unfold aHz at h
   exact⟨_,_,h,rfl,λhon=>a2r ho (aV hσ hon hv) (aV hσ hon hw)⟩
  .cases h
 .cases h
theorem a0x(hG:pQ c.P c.G):OH c:=by
 intro σ κ fr st o k r hσ h;obtain⟨op,hop⟩:∃op,o.op=op:=⟨_,rfl⟩
 cases op with
 |move x=>
   unfold eP at h;rw[hop]at h;obtain⟨v,hv,h⟩:=bF h;exact⟨_,_,h,yT hv,λhon=>a2o hop (aV hσ hon hv)⟩
 |assign x=>
   unfold eP at h;rw[hop]at h;obtain⟨v,hv,h⟩:=bF h;exact⟨_,_,h,yT hv,λhon=>a33 hop (aV hσ hon hv)⟩
 |pick b x y=>
   unfold eP at h;rw[hop]at h;exact a5W hσ hop h
 |alloc e=>
   unfold eP at h;rw[hop]at h;simp only at h;split at h
   .rename_i hf
    exact a6C hop hf h
   .obtain⟨z,hz,h⟩:=bF h
    exact a6D hop hz h
 |box e x=>
   unfold eP at h;rw[hop]at h;obtain⟨v,hv,h⟩:=bF h;split at h
   .exact a5v hσ hop hv h
   split at h
   .rename_i hval
    exact a5w hσ hop hv hval h
   .cases h
 |build t ps=>
   unfold eP at h;rw[hop]at h;simp only at h;split at h
   .rename_i hf hps hpl
    exact a5t hop hps hf hpl h
   .obtain⟨z,hz,h⟩:=bF h
    obtain⟨pl,hp,h⟩:=bF h;exact a5u hσ hop hz hp h
 |buildSlice t n ps=>
   unfold eP at h;rw[hop]at h;obtain⟨⟨e,τ,b⟩,hE,h⟩:=bF h;simp only at h;split at h
   .rename_i q e' τ' l hnp
    split at h
    .rename_i hτ _
     split at h
     .split at h
      .exact a5a hσ hop hE hnp hτ.down h
      .exact a5c hσ hop hE hnp hτ.down h
     .cases h
    .cases h
   split at h
   .rename_i q e' κ' l ys hnp
    exact a5b hσ hop hE hnp h
   split at h
   .rename_i hle
    exact a5d hσ hop hE (iA hle) h
   .cases h
 |makeMap t m=>
   unfold eP at h;rw[hop]at h;cases m with
   |none=>
     simp only at h;split at h
     .split at h
      .exact a52 hop h
      .cases h
     .cases h
   |some _=>cases h
 |insert t m x y=>
   unfold eP at h;rw[hop]at h;simp only at h;split at h
   .rename_i kt et hu
    obtain⟨a,ha,h⟩:=bF h;obtain⟨b,hb,h⟩:=bF h;obtain⟨v,hv,h⟩:=bF h;exact a5f hσ hop hu ha hb hv h
   .cases h
 |range t x=>
   unfold eP at h;rw[hop]at h;simp only at h;split at h
   .rename_i hu
    obtain⟨v,hv,h⟩:=bF h;split at h
    .exact a5V hσ hop hu hv h
    .cases h
   .cases h
 |next i b=>
   unfold eP at h;rw[hop]at h;cases b with
   |true=>
     simp only at h;obtain⟨v,hv,h⟩:=bF h;split at h
     .split at h
      .rename_i hq
       exact a50 hσ hop hv hq h
      .cases h
     .cases h
   |false=>cases h
 |lookup t m x cm=>
   unfold eP at h;rw[hop]at h;simp only at h;split at h
   .rename_i kt et hu
    obtain⟨a,ha,h⟩:=bF h;obtain⟨b,hb,h⟩:=bF h;obtain⟨z,hz,h⟩:=bF h;exact a57 hσ hop hu ha hb hz h
   .cases h
 |load t a=>
   unfold eP at h;rw[hop]at h;obtain⟨v,hv,h⟩:=bF h;split at h
   .rename_i ha
    exact a58 hσ hop hv ha h
   cases st with
   |true=>
     obtain⟨y,h,_,hok⟩:=a4M (fr:=fr) (o:=o) h;obtain⟨hp,h⟩:=IX h;exact⟨_,_,h,hp,λhon=>hok hop (aV hσ hon hv)⟩
   |false=>
     obtain⟨y,h,hp,hok⟩:=a4N (fr:=fr) (o:=o) h;exact⟨_,_,h,hp,λhon=>hok hon hop (aV hσ hon hv)⟩
 |store t a y=>
   unfold eP at h;rw[hop]at h;obtain⟨v,hv,h⟩:=bF h;obtain⟨w,hw,h⟩:=bF h;split at h
   .rename_i ha
    exact a5Q hσ hop hv hw ha h
   split at h
   .rename_i hval
    cases st with
    |true=>
      obtain⟨W,h,hok⟩:=a0u (fr:=fr) (o:=o) h;refine⟨_,_,h,rfl,λhon=>?_⟩;unfold X.D;exact hok hop (aV hσ hon hv) (aV hσ hon hw) hval
    |false=>
      obtain⟨W,h,hok⟩:=a0v (fr:=fr) (o:=o) h;refine⟨_,_,h,rfl,λhon=>?_⟩;unfold X.D;exact hok hop (aV hσ hon hv) (aV hσ hon hw) hval
   .cases h
 |nilCheck x=>
   unfold eP at h;rw[hop]at h;exact a5Z hσ hop h
 |binOp op xt x y yt=>
   unfold eP at h;rw[hop]at h;obtain⟨v,hv,h⟩:=bF h;obtain⟨w,hw,h⟩:=bF h;rcases a5T hσ hop hv hw h with h|h
   case inr=>exact h
   split at h
   .rename_i b hn
    exact a5Y hσ hop hv hw hn h
   split at h
   .rename_i b hn
    exact a5k hσ hop hv hw hn h
   .obtain⟨z,h,hp,hok⟩:=a7k (fr:=fr) (o:=o) (σ:=σ.den) h
    exact⟨_,_,h,hp,λhon=>hok hon.g hop (aV hσ hon hv) (aV hσ hon hw)⟩
 |unOp op t x=>
   unfold eP at h;rw[hop]at h;simp only at h;obtain⟨v,hv,h'⟩:=bF h;clear h;split at h'
   .unfold aHm at h'
    exact⟨_,_,h',rfl,λhon=>a2g hop (aV hσ hon hv)⟩
   .unfold aHv at h'
    exact⟨_,_,h',rfl,λhon=>a2k hop (aV hσ hon hv)⟩
   .cases h'
 |convert s d x=>
   unfold eP at h;rw[hop]at h;exact a5n hσ hop h
 |makeInterface t x=>
   unfold eP at h;rw[hop]at h;obtain⟨v,hv,h⟩:=bF h;split at h
   .rename_i ik n hu
    exact⟨_,_,h,rfl,λhon=>a2q hop hu (aV hσ hon hv)⟩
   .rename_i el q hu
    split at h
    .rename_i e xs hq
     exact⟨_,_,h,rfl,λhon=>aHW hop hu (aV hσ hon hv) (dI hq)⟩
    .rename_i hq
     exact⟨_,_,h,rfl,λhon=>aHW hop hu (aV hσ hon hv) (dI hq)⟩
    .cases h
   .cases h
 |makeFunc g first caps=>
   unfold eP at h;rw[hop]at h;cases g with
   |func f=>
     exact a5i hσ hop h
   |_=>cases h
 |makeSlice t n m=>
   unfold eP at h;rw[hop]at h;simp only at h;split at h
   .rename_i he
    obtain⟨v,hv,h⟩:=bF h;split at h
    .obtain⟨⟨e,τ,b⟩,hE,h⟩:=bF h
     split at h
     .rename_i hτ _
      have hτ':τ=_:=hτ;subst hτ';exact a54 hσ hop he hv hE h
     .exact a56 hσ hop he hv hE h
    .cases h
   .split at h
    .obtain⟨v,hv,h⟩:=bF h
     split at h
     .obtain⟨⟨e,τ,b⟩,hE,h⟩:=bF h
      exact a55 hσ hop hv hE h
     .cases h
    .cases h
 |slice t x lo hi mx=>
   unfold eP at h;rw[hop]at h;cases mx with
   |none=>
     obtain⟨v,hv,h⟩:=bF h;split at h
     .exact a5X hσ hop hv h
     .exact a5S hσ hop hv h
     .split at h
      .rename_i hq
       cases st with
       |true=>exact a5R hσ hop hv hq h
       |false=>
         cases lo with
         |none=>exact a5l hσ hop hv h
         |some x=>
           obtain⟨w,_,h⟩:=bF h;obtain⟨_,n,_,h⟩:=B7 h;obtain⟨_,h,_⟩:=xZ hσ h;cases h
      .exact aI9 hσ hop hv h
     .exact aI9 hσ hop hv h
   |some _=>cases h
 |fieldAddr s x f=>
   unfold eP at h;rw[hop]at h;obtain⟨v,hv,h⟩:=bF h;obtain⟨y,h,hp,hok⟩:=a6P (fr:=fr) (o:=o) (σ:=σ) h;exact⟨_,_,h,hp,λhon=>hok hop (aV hσ hon hv)⟩
 |field s x f=>
   unfold eP at h;rw[hop]at h;obtain⟨v,hv,h⟩:=bF h;obtain⟨y,h,hok⟩:=a6O (fr:=fr) (o:=o) (σ:=σ) h;obtain⟨hp,h⟩:=IX h;exact⟨_,_,h,hp,λhon=>hok hop (aV hσ hon hv)⟩
 |indexAddr t x n=>
   unfold eP at h;rw[hop]at h;obtain⟨v,hv,h⟩:=bF h;obtain⟨w,hw,h⟩:=bF h;split at h
   .rename_i ha
    exact a5h hσ hop hv hw ha h
   cases st with
   |true=>
     obtain⟨y,h,hp,hok⟩:=a4z (fr:=fr) (o:=o) h;exact⟨_,_,h,hp,λhon=>hok hon hop (aV hσ hon hv) (aV hσ hon hw)⟩
   |false=>
     obtain⟨y,h,hp,hok⟩:=a4y (fr:=fr) (o:=o) h;exact⟨_,_,h,hp,λhon=>hok hon hop (aV hσ hon hv) (aV hσ hon hw)⟩
 |index t x n=>
   unfold eP at h;rw[hop]at h;obtain⟨v,hv,h⟩:=bF h;obtain⟨w,hw,h⟩:=bF h;split at h
   .exact a5g hσ hop hv hw h
   obtain⟨y,h,hp,hok⟩:=a4x (fr:=fr) (o:=o) h;exact⟨_,_,h,hp,λhon=>hok hon hop (aV hσ hon hv) (aV hσ hon hw)⟩
 |extract x n=>
   unfold eP at h;rw[hop]at h;exact a5j hσ hop h
 |call cl=>
   obtain⟨cal,args,tys⟩:=cl;cases cal with
   |builtin b=>
     refine a5s hσ (st:=st) hop ?_;unfold eP at h ⊢;rw[hop]at h;exact h
   |value f=>
     unfold eP at h;rw[hop]at h;obtain⟨v,hv,h⟩:=bF h;split at h
     .split at h
      .rename_i hb
       exact a5q hG hσ (iA hb) hop hv h
      .rename_i hb
       exact a5p hG hσ (λe=>by rw[show Nat.blt _ 1000000=true from Nat.ble_eq_true_of_le e]at hb;cases hb) hop hv h
     .cases h
   |invoke rv name=>
     unfold eP at h;rw[hop]at h;obtain⟨v,hv,h⟩:=bF h;split at h
     .split at h
      .rename_i hq
       exact aIa hG hσ hop hv (dI hq) h
      .rename_i hq
       exact aIa hG hσ hop hv (dI hq) h
      .cases h
     .cases h
 |_=>unfold eP at h;rw[hop]at h;cases h
end
end Go.Ax
/- Panics. -/
namespace Go.Ax
open aA
open Go.RowKit Go.Ab
section
variable{c:Cx}{σ:Vw}{κ:Nat->Bool}{fr:Nat}{o:Oper}{k:X->Wx->O}{kp:Value->Wx->O}{r:aF}
theorem a2G:OJ c:=λσ κ fr o k kp els r hσ hgn h=>by
 unfold Mn at h;split at h
 .rename_i x ho
  obtain⟨v,hv,h⟩:=bF h;split at h
  case h_2=>cases h
  rename_i t w;refine .inr (.inr ⟨_,_,h,λhon=>?_⟩);intro E σ₁ a wd hT hH h100 hf hR;obtain⟨ν,G,I⟩:=id hR;have hd:=I.ev (St.dE hT (aV hσ hon hv));have he:a.eval x = .iface t w:=bY hd;unfold Oper.wp execOp;rw[ho];have:(Instr.panic (a.eval x)).run c.P wd = .halt (.panic (.iface t w)) wd:=by rw[he];rfl
  simp only[this,Sem.run_bind,Result.andThen];exact⟨rfl,rfl,ν,G,I.put (dst:=none) (v:=undef) (d:=.any) .any (λ_ h=>by cases h) fr a rfl⟩
 .exact .inl h
end
end Go.Ax
/- What a printed text needs. -/
namespace Go.Ax
open aA
open Go.RowKit Go.Ab
theorem a7C{c:Cx}(hm:c.P.follows .mixedOrders=true)(hG:pQ c.P c.G):tG c:=⟨hm,a0x hG,a2G⟩
def tE(c:Cx)(M:Nat)(h:Hint)(code:Code):Prop:=match h with
 |.sub _ _ _ _ I1 I2 I3 L=>JT c M code I1 I2 I3 L
 |.d=>True
 |.cF ..=>True
 |.seq x y=>match code with
   |.seq a b=>tE c M x a/\tE c M y b
   |_=>False
 |.cond x y=>match code with
   |.cond _ a b=>tE c M x a/\tE c M y b
   |_=>False
 |.block x=>match code with
   |.block _ a=>tE c M x a
   |.scope a=>tE c M x a
   |_=>False
 |.D2 _ x=>match code with
   |.loop a=>tE c M x a
   |_=>False
theorem nB{c:Cx}{M:Nat}:∀(h:Hint)(code:Code),tE c M h code->jL c M h code
 |.sub ..,code,h=>by
   unfold jL;cases code <;> exact h
 |.d,code,_=>jO code
 |.cF a b d,code,_=>by
   cases code with
   |seq a b=>exact⟨jO a,jO b⟩
   |cond x a b=>exact⟨jO a,jO b⟩
   |block i a=>exact jO a
   |scope a=>exact jO a
   |loop a=>exact jO a
   |_=>exact trivial
 |.seq x y,code,h=>by
   cases code with
   |seq a b=>exact⟨nB x a h.1,nB y b h.2⟩
   |_=>exact h.elim
 |.cond x y,code,h=>by
   cases code with
   |cond z a b=>exact⟨nB x a h.1,nB y b h.2⟩
   |_=>exact h.elim
 |.block x,code,h=>by
   cases code with
   |block i a=>exact nB x a h
   |scope a=>exact nB x a h
   |_=>exact h.elim
 |.D2 n x,code,h=>by
   cases code with
   |loop a=>exact nB x a h
   |_=>exact h.elim
def mI:List Nat->Code->Code
 |[],c=>c
 |0::l,.seq a _=>mI l a
 |1::l,.seq _ b=>mI l b
 |0::l,.cond _ a _=>mI l a
 |1::l,.cond _ _ b=>mI l b
 |0::l,.block _ a=>mI l a
 |0::l,.loop a=>mI l a
 |0::l,.scope a=>mI l a
 |_,c=>c
theorem jD.wk{P:Program}{f:FuncId}{ds ds':List D}{H:List (Nat×aO)}{r:D}{H':List (Nat×aO)}(h:jD P f ds' H r H')(hw:eE (λk=>Ab.look k H) ds ds'):jD P f ds H r H':=λE w vs h1 h2 h3 ⟨ν,G,I⟩=>by
 refine h E w vs h1 h2 (h3.trans hw.len) ⟨ν,G,{ I with T:=λt d' ht=>?_ }⟩;obtain⟨d,hd,hwk⟩:=hw.get t d' ht;obtain⟨v,hv,hr⟩:=I.T t d hd;exact⟨v,hv,hwk E _ ν G w vs (λ_ _ h=>h) I v hr⟩
theorem eE.two{H:Nat->Option aO}{a b a' b':D}(h:cJ H a a')(k:cJ H b b'):eE H [a,b] [a',b']:=.cons h (.cons k .nil)
def yR(a b:Nat):Bool:=!(aY a b)
theorem Yi{a b:Nat}(h:yR a b=true):a≠b:=λe=>by
 subst e;simp[yR]at h
end Go.Ax
/- Contracts of library functions. -/
namespace Go.Ax
open aA
open Go.RowKit Go.Ab
theorem jD.NR{P:Program}{f:FuncId}{ds:List D}{d:D} (h:∀(w:World),D4 w->∀(G:bV)(ν:Nat->Value)(nm:Nat->Bool)(vs:Array Value),vs.size=ds.length->(∀(i:Nat)(d':D),ds[i]?=some d'->∃v,vs[i]?=some v/\DR ν nm w G v d')->
    Calls P f vs w λe w'=>∃v,e = .returned v/\cU w w'/\∃G',(∀b,b<w.heap.size->G' b=G b)/\∀ν nm,DR ν nm w' G' v d):jD P f ds [] d []:=by
 intro E w vs hE0 hm hsz ⟨ν,G,I⟩;refine(h w (hE0 ▸ E.Ao E.w0 (cE _) λ_ _ _=>rfl) G ν _ vs hsz (λi d' hd=>I.T i d' hd)).mono ?_;rintro e w' ⟨v,rfl,hA,G',hG,hd⟩;have J:=I.iG hA hG;exact⟨v,rfl,ν,G',⟨J.kept.os,J.kept.tape,J.kept.output,J.kept.size,J.kept.block⟩,J.eJ,J.fJ,J.g0,rfl,λt d' ht=>by
  cases t with
  |zero=>cases ht;exact⟨v,rfl,hd _ _⟩
  |succ t=>exact absurd (show(none:Option D)=some _ from ht) (by simp),λk o hk=>absurd (show(none:Option aO)=some _ from hk) (by simp),λk o k' o' hk=>absurd (show(none:Option aO)=some _ from hk) (by simp)⟩
end Go.Ax
/- What came in as an argument and reads as data is data of the run. -/
namespace Go.Ax
open Go.RowKit Go.Ab Go.WideShapes
def Zx(w:World)(G:bV)(v:Value)(d:D):Prop:=DR (λ_=>.nilFunc) (λ_=>false) w G v d
def oZ(w:World)(b:Nat):Nat:=match w.heap[b]? with|some (.cells c _ _)=>c.size|_=>0
theorem a7V{w:World}{b i:Nat}{u:Value}(hc:w.cell? ⟨b,i,none⟩=some u):Cell w (oZ w) b i u:=by
 refine⟨hc,?_⟩;unfold World.cell? at hc;unfold oZ;split at hc
 .rename_i cs _ _ hh
  rw[hh];simp only[Option.isSome_none,E9,if_false]at hc ⊢;exact(Array.getElem?_eq_some_iff.1 hc).1
 .cases hc
theorem a1A{w:World}{a:Addr}{u:Value}(h:w.cell? a=some u):a=⟨a.block,a.off,none⟩:=by
 obtain⟨b,o,s⟩:=a;cases s with
 |none=>rfl
 |some s=>
   unfold World.cell? at h;split at h <;> simp at h
def JK:Ty->Nat
 |.i .i64=>8
 |.i .u64=>8
 |.i _=>1
 |.u8=>1
 |.bo=>1
 |.tx=>16
 |.ex=>1
 |.un=>0
 |.sl _=>24
 |.pr a b=>JK a+JK b
def BP(P:Program)(q:Ty->TypeId->Bool):Ty->Nat->List Field->Bool
 |τ,o,[f]=>q τ f.type&&aY f.offset o&&aY (P.cellsOf f.type) τ.size
 |.pr a b,o,f::g::fs=>q a f.type&&aY f.offset o&&aY (P.cellsOf f.type) a.size&&BP P q b (o+a.size) (g::fs)
 |_,_,_=>false
def B8(q:Ty->TypeId->Bool)(e:TypeId):Ty->Nat->Bool
 |τ,1=>q τ e
 |.pr a b,n+2=>q a e&&B8 q e b (n+1)
 |_,_=>false
def Ak(P:Program):Nat->Ty->TypeId->Bool
 |0,_,_=>false
 |n+1,τ,t=>match τ,P.underlying t with
   |.i k,some (.int k')=>decide (k'=k)
   |.u8,some (.int .u8)=>true
   |.bo,some .bool=>true
   |.tx,some .string=>true
   |.sl a,some (.slice e)=>Ak P n a e&&aY (P.cellsOf e) a.size&&(Nat.ble (JK a) (P.bytesOf e)&&Nat.blt 0 a.size)
   |.pr a b,some (.struct fs)=>aY (P.cellsOf t) (a.size+b.size)&&BP P (Ak P n) (.pr a b) 0 fs.toList
   |.pr a b,some (.array k e)=>aY (P.cellsOf t) (a.size+b.size)&&B8 (λτ e=>Ak P n τ e&&aY (P.cellsOf e) τ.size) e (.pr a b) k
   |_,_=>false
def u9:(τ:Ty)->τ.V->Prop
 |.i k,x=>(Lit.int k x).wf=true
 |.sl e,l=>∀y,List.Mem y (show List e.V from l)->u9 e y
 |.pr a b,x=>u9 a x.1/\u9 b x.2
 |_,_=>True
def wO:(τ:Ty)->τ.V->Prop
 |.tx,s=>dR (α:=UInt8) s<=reachBytes
 |.sl e,l=>dR (α:=e.V) l*JK e<=reachBytes/\∀y,List.Mem y (show List e.V from l)->wO e y
 |.pr a b,x=>wO a x.1/\wO b x.2
 |_,_=>True
def lG(w:World)(cs:List Value)(ts:List Tree):Prop:=cs.length=ts.length/\∀(i:Nat)(u:Value)(t:Tree),cs[i]?=some u->ts[i]?=some t->TR w (oZ w) u t
theorem lG.one{w:World}{u:Value}{t:Tree}(h:TR w (oZ w) u t):lG w [u] [t]:=⟨rfl,λi u' t' hu ht=>by
 cases i with
 |zero=>cases hu;cases ht;exact h
 |succ i=>cases hu⟩
theorem lG.app{w:World}{a b:List Value}{s t:List Tree}(h:lG w a s)(k:lG w b t):lG w (a++b) (s++t):=⟨by rw[aL,aL,h.1,k.1],λi u x hu hx=>by
 by_cases hi:i<a.length
 .rw[dV hi]at hu
  rw[dV (by rw[<-h.1];exact hi)]at hx;exact h.2 i u x hu hx
 .rw[dN (by omega)]at hu
  rw[dN (by have:=h.1;omega)]at hx;rw[h.1]at hu;exact k.2 _ u x hu hx⟩
theorem Xt{α:Type}{Q:Nat->α->Prop}:∀n:Nat,(∀i,i<n->∃v,Q i v)->∃l:List α,l.length=n/\∀(i:Nat)(v:α),l[i]?=some v->Q i v
 |0,_=>⟨[],rfl,λi v h=>by cases h⟩
 |n+1,h=>by
   obtain⟨l,hl,hQ⟩:=Xt n λi hi=>h i (by omega)
   obtain⟨v,hv⟩:=h n (by omega);refine⟨l++[v],by simp[hl],λi u hu=>?_⟩;by_cases hi:i<n
   .rw[dV (by omega)]at hu
    exact hQ i u hu
   .have hlt:=(bZ.1 hu).1
    have:i=n:=by simp[hl]at hlt;omega
    subst this;rw[dN (by omega),hl,kZ]at hu;cases hu;exact hv
theorem flat_get{α:Type}{f:α->List Tree}{s:Nat}(h:∀x,(f x).length=s):∀(l:List α)(q r:Nat)(x:α),l[q]?=some x->r<s->(l.flatMap f)[q*s+r]?=(f x)[r]?
 |[],q,r,x,hx,_=>by cases hx
 |y::l,0,r,x,hx,hr=>by
   cases hx;rw[fV,vA,eC,dV (by rw[h];exact hr)]
 |y::l,q+1,r,x,hx,hr=>by
   rw[fV,dN (by rw[h,kK];omega),h,show(q+1)*s+r-s=q*s+r by rw[kK];omega];exact flat_get h l q r x hx hr
theorem aAO{H:Type}{P:Program}{e:TypeId}:∀{l:List (DataW H)}{d:DataW H}{m:Nat},d∈l->m∈d.weights P e->m∈DataW.weightsAll P e l
 |[],d,m,h,_=>by cases h
 |x::l,d,m,h,hm=>by
   simp only[DataW.weightsAll,wR];rcases eZ.1 h with rfl|h
   .exact .inl hm
   .exact .inr (aAO h hm)
section
variable{H:Type}{enc:TypeId×Value->H}{P:Program}{w:World}{base:Nat}{spare:Nat->Bool}{held:Bool}
def Zd(enc:TypeId×Value->H)(P:Program)(w:World)(base:Nat)(spare:Nat->Bool)(held:Bool)(τ:Ty)(t:TypeId):Prop:=
 ∀(fuel:Nat)(cs:List Value)(x:DataW H×List MemPlace),DataW.trod enc P w base spare held fuel t cs=some x->
  ∃v:τ.V,u9 τ v/\lG w cs (aM τ v)/\((∀m∈x.1.weights P t,m<=reachBytes)->wO τ v)
theorem aHM{q:Ty->TypeId->Bool}(hq:∀τ t,q τ t=true->Zd enc P w base spare held τ t)(n:Nat):∀(fs:List Field)(τ:Ty)(o:Nat)(cs:List Value)(xs:List (DataW H×List MemPlace)),BP P q τ o fs=true->cs.length=o+τ.size->xs.length=fs.length->
    (∀(i:Nat)(f:Field),fs[i]?=some f->DataW.trod enc P w base spare held n f.type ((cs.drop f.offset).take (P.cellsOf f.type))=xs[i]?)->
    ∃v:τ.V,u9 τ v/\lG w (cs.drop o) (aM τ v)/\((∀m∈DataW.weightsEach P (fs.map (·.type)) (xs.map (·.1)),m<=reachBytes)->wO τ v)
 |[],τ,o,cs,xs,h,_,_,_=>by cases τ <;> simp[BP]at h
 |[f],τ,o,cs,xs,h,hl,hx,ht=>by
   have h':(q τ f.type&&aY f.offset o&&aY (P.cellsOf f.type) τ.size)=true:=by cases τ <;> simpa[BP]using h
   simp only[aT]at h';obtain⟨⟨h1,h2⟩,h3⟩:=h';have h2:=bB h2;have h3:=bB h3
   match xs,hx with
   |[x],_=>
     have g:=ht 0 f rfl;rw[h2,h3,vD (by rw[lI];omega)]at g;obtain⟨v,v1,v2,v3⟩:=hq τ f.type h1 n _ x g;refine⟨v,v1,v2,λhm=>v3 λm hm'=>hm m ?_⟩;simp[DataW.weightsEach,hm']
 |f::g::fs,τ,o,cs,xs,h,hl,hx,ht=>by
   cases τ with
   |pr a b=>
     simp only[BP,aT]at h;obtain⟨⟨⟨h1,h2⟩,h3⟩,h4⟩:=h;have h2:=bB h2;have h3:=bB h3
     match xs,hx with
     |x::xs,hx=>
       have e:=ht 0 f rfl;rw[h2,h3]at e;obtain⟨v,v1,v2,v3⟩:=hq a f.type h1 n _ x e;have hsz:(Ty.pr a b).size=a.size+b.size:=rfl;obtain⟨u,u1,u2,u3⟩:=aHM hq n (g::fs) b (o+a.size) cs xs h4 (by omega) (by simpa using hx) λi f' hf=>ht (i+1) f' hf
       refine⟨(v,u),⟨v1,u1⟩,?_,λhm=>⟨v3 λm hm'=>hm m ?_,u3 λm hm'=>hm m ?_⟩⟩
       .have hd:cs.drop o=(cs.drop o).take a.size++cs.drop (o+a.size):=by
         rw[<-a9V,Zi]
        rw[hd];exact v2.app u2
       .simp only[iH,DataW.weightsEach,wR]
        exact .inl hm'
       .simp only[iH,DataW.weightsEach,wR]at hm' ⊢
        exact .inr hm'
   |_=>simp[BP]at h
theorem trod_array{t e:TypeId}{n fuel:Nat}{cs:List Value}{x:DataW H×List MemPlace}(ht:P.underlying t=some (.array n e))(h:DataW.trod enc P w base spare held fuel t cs=some x):
    ∃xs:List (DataW H×List MemPlace),x.1 = .agg (xs.map (·.1))/\cs.length=P.cellsOf t/\xs.length=n/\∃m,∀i,i<n->DataW.trod enc P w base spare held m e ((cs.drop (i*P.cellsOf e)).take (P.cellsOf e))=xs[i]?:=by
 cases fuel with
 |zero=>cases h
 |succ m=>
   unfold DataW.trod at h;rw[ht]at h;split at h <;> simp_all;obtain⟨hl,xs,hp,hd⟩:=h;refine⟨xs,by rw[<-hd],by simpa using Lib.mapM_length hp,m,λi hi=>?_⟩;obtain⟨u,hu,hfu⟩:=Lib.mapM_at hp i i (by rw[OV hi]);rw[hu];exact hfu
theorem aHN{q:Ty->TypeId->Bool}(hq:∀τ t,q τ t=true->Zd enc P w base spare held τ t/\P.cellsOf t=τ.size)(m:Nat)(e:TypeId):∀(n:Nat)(τ:Ty)(cs:List Value)(xs:List (DataW H×List MemPlace)),B8 q e τ n=true->cs.length=τ.size->xs.length=n->
    (∀i,i<n->DataW.trod enc P w base spare held m e ((cs.drop (i*P.cellsOf e)).take (P.cellsOf e))=xs[i]?)->
    ∃v:τ.V,u9 τ v/\lG w cs (aM τ v)/\((∀m∈DataW.weightsAll P e (xs.map (·.1)),m<=reachBytes)->wO τ v)
 |0,τ,cs,xs,h,_,_,_=>by cases τ <;> simp[B8]at h
 |1,τ,cs,xs,h,hl,hx,ht=>by
   have h':q τ e=true:=by cases τ <;> simpa[B8]using h
   obtain⟨h1,h2⟩:=hq τ e h'
   match xs,hx with
   |[x],_=>
     have g:=ht 0 (by omega);rw[vA,a9T,vD (by omega)]at g;obtain⟨v,v1,v2,v3⟩:=h1 m _ x g;exact⟨v,v1,v2,λhm=>v3 λk hk=>hm k (by simp[DataW.weightsAll,hk])⟩
 |n+2,τ,cs,xs,h,hl,hx,ht=>by
   cases τ with
   |pr a b=>
     simp only[B8,aT]at h;obtain⟨h1,h2⟩:=h;obtain⟨h3,h4⟩:=hq a e h1
     match xs,hx with
     |x::xs,hx=>
       have g:=ht 0 (by omega);rw[vA,a9T,h4]at g;obtain⟨v,v1,v2,v3⟩:=h3 m _ x g;have hsz:(Ty.pr a b).size=a.size+b.size:=rfl;obtain⟨u,u1,u2,u3⟩:=aHN hq m e (n+1) b (cs.drop a.size) xs h2 (by rw[lI];omega) (by simpa using hx) λi hi=>by
        have:=ht (i+1) (by omega);rw[a9V,h4];rw[h4,kK,Nat.one_mul,Nat.add_comm]at this;exact this
       refine⟨(v,u),⟨v1,u1⟩,?_,λhm=>⟨v3 λk hk=>hm k ?_,u3 λk hk=>hm k ?_⟩⟩
       .have:=v2.app u2
        rw[Zi]at this;exact this
       .simp only[iH,DataW.weightsAll,wR]
        exact .inl hk
       .simp only[iH,DataW.weightsAll,wR]
        exact .inr hk
   |_=>simp[B8]at h
theorem opens(n:Nat):∀(τ:Ty)(t:TypeId),Ak P n τ t=true->Zd enc P w base spare held τ t:=by
 induction n with
 |zero=>intro τ t h;cases h
 |succ n ih=>
   intro τ t h fuel cs x hx;unfold Ak at h;split at h
   .rename_i k k' hu
    have:=bK h;subst this;obtain⟨z,rfl,rfl,hw⟩:=DataW.trod_int hu hx;exact⟨z,hw,.one (.v _ rfl),λ_=>trivial⟩
   .rename_i hu
    obtain⟨z,rfl,rfl,hw⟩:=DataW.trod_int hu hx;have hb:0<=z/\z<256:=by
     simp[Lit.wf]at hw;have h1:IntKind.u8.min=0:=rfl;have h2:IntKind.u8.max=255:=rfl;omega
    refine⟨s7 z.toNat,trivial,?_,λ_=>trivial⟩;have e:aM .u8 (s7 z.toNat)=[.v (.int .u8 z)]:=by
     show[Tree.v (.int .u8 ((s7 z.toNat).toNat:Int))]=_;rw[UInt8.toNat_ofNat',show((z.toNat%2^8:Nat):Int)=z by omega]
    rw[e];exact .one (.v _ rfl)
   .rename_i hu
    obtain⟨z,rfl,rfl⟩:=DataW.trod_bool hu hx;exact⟨z,trivial,.one (.v _ rfl),λ_=>trivial⟩
   .rename_i hu
    obtain⟨z,rfl,rfl,hs⟩:=DataW.trod_string hu hx;refine⟨z.data.toList,trivial,.one (.v _ rfl),λhm=>?_⟩;exact hm _ (by simp[DataW.weights])
   .rename_i a e hu
    simp only[aT]at h;obtain⟨⟨h1,h2⟩,h3,h4⟩:=h;have h2:=bB h2;have h3:=iA h3;rcases DataW.trod_slice hu hx with⟨rfl,rfl⟩|⟨ad,len,cap,elems,rest,m,_,rfl,rfl,hb,hlc,hcap,hel,hE,_,_⟩
    .exact⟨[],(λy hy=>by cases hy),.one (.nil λ_=>rfl),λ_=>⟨by simp,λy hy=>by cases hy⟩⟩
    .have hs:0<a.size:=iA h4
     rw[h2]at hE;have hk:∀i,i<len->∃v:a.V,u9 a v/\(∃ci,w.cells? base (ad.add (i*a.size)) a.size=some ci/\lG w ci (aM a v))/\((∀y∈elems.map (·.1),∀m∈y.weights P e,m<=reachBytes)->wO a v):=by
      intro i hi;have g:=hE i hi;rw[dC (by omega)]at g;obtain⟨ci,hci,hti⟩:=wP.1 g;obtain⟨v,v1,v2,v3⟩:=ih a e h1 m ci _ hti;exact⟨v,v1,⟨ci,hci,v2⟩,λhm=>v3 λm' hm'=>hm _ (gU.2 ⟨_,List.getElem_mem _,rfl⟩) m' hm'⟩
     obtain⟨l,hl,hQ⟩:=Xt (Q:=λi v=>u9 a v/\(∃ci,w.cells? base (ad.add (i*a.size)) a.size=some ci/\lG w ci (aM a v))/\((∀y∈elems.map (·.1),∀m∈y.weights P e,m<=reachBytes)->wO a v)) len hk;have hmem:∀y∈l,∃i,l[i]?=some y:=λy hy=>iS.1 hy
     refine⟨l,λy hy=>?_,?_,λhm=>⟨?_,λy hy=>?_⟩⟩
     .obtain⟨i,hi⟩:=hmem y hy
      exact(hQ i y hi).1
     .show lG w _ [.sl (dR l) (bR (aM a) l)]
      rw[hl];by_cases h0:len=0
      .subst h0
       have:l=[]:=List.length_eq_zero_iff.1 hl;subst this;exact .one (.nil λhh=>by cases hh)
      ·-- each cell
       have cellAt:∀i y,l[i]?=some y->∀r,r<a.size->∃u t,w.cell? ⟨ad.block,ad.off+(i*a.size+r),none⟩=some u/\(aM a y)[r]?=some t/\TR w (oZ w) u t/\ad.spot=none:=by
        intro i y hy r hr;have spot0:∀{j:Nat}{y':a.V},l[j]?=some y'->∃ci,w.cells? base (ad.add (j*a.size)) a.size=some ci/\lG w ci (aM a y'):=λhy'=>(hQ _ _ hy').2.1
        obtain⟨y0,hy0⟩:∃y0,l[0]?=some y0:=⟨_,dC (by omega)⟩
        obtain⟨c0,hc0,_⟩:=spot0 hy0;have hsp:ad.spot=none:=by
         unfold World.cells? at hc0;split at hc0
         .obtain⟨u,_,hu⟩:=Lib.mapM_at hc0 0 0 (by rw[OV hs])
          have:=a1A hu;simp[Addr.add]at this;have h5:=aR Addr.spot this;exact h5
         .cases hc0
        obtain⟨ci,hci,hrel⟩:=spot0 hy;unfold World.cells? at hci;split at hci
        .obtain⟨u,hu,hcu⟩:=Lib.mapM_at hci r r (by rw[OV hr])
         have hlen:=hrel.1;rw[dJ]at hlen;obtain⟨t,ht⟩:∃t,(aM a y)[r]?=some t:=⟨_,dC (by rw[dJ];exact hr)⟩
         refine⟨u,t,?_,ht,hrel.2 r u t hu ht,hsp⟩;have:(ad.add (i*a.size)).add r=⟨ad.block,ad.off+(i*a.size+r),none⟩:=by
          obtain⟨b,o,s⟩:=ad;simp only at hsp;subst hsp;unfold Addr.add;by_cases e1:i*a.size=0 <;> by_cases e2:r=0 <;> simp[e1,e2,Nat.add_assoc]
         rw[<-this];exact hcu
        .cases hci
       obtain⟨y0,hy0⟩:∃y0,l[0]?=some y0:=⟨_,dC (by omega)⟩
       obtain⟨_,_,_,_,_,hsp⟩:=cellAt 0 y0 hy0 0 hs;have hflat:(bR (aM a) l).length=len*a.size:=by rw[sU,hl]
       have all:∀j,j<len*a.size->∃u t,w.cell? ⟨ad.block,ad.off+j,none⟩=some u/\(bR (aM a) l)[j]?=some t/\TR w (oZ w) u t:=by
        intro j hj;have hq:j / a.size<len:=Nat.div_lt_of_lt_mul (by rw[Nat.mul_comm];exact hj);have hr:=Nat.mod_lt j hs;have hj':j / a.size*a.size+j%a.size=j:=by rw[Nat.mul_comm];exact Nat.div_add_mod j a.size
        obtain⟨y,hy⟩:∃y,l[j / a.size]?=some y:=⟨_,dC (by omega)⟩
        obtain⟨u,t,h4,h5,h6,_⟩:=cellAt _ y hy _ hr;rw[hj']at h4;refine⟨u,t,h4,?_,h6⟩;rw[<-h5,<-flat_get (λx=>dJ a x) l _ _ y hy hr,hj']
       obtain⟨us,hus,hU⟩:=Xt (Q:=λj u=>w.cell? ⟨ad.block,ad.off+j,none⟩=some u/\∃t,(bR (aM a) l)[j]?=some t/\TR w (oZ w) u t) (len*a.size) λj hj=>by
        obtain⟨u,t,h4,h5,h6⟩:=all j hj;exact⟨u,h4,t,h5,h6⟩
       have had:ad=⟨ad.block,ad.off,none⟩:=by
        obtain⟨b,o,s⟩:=ad;simp only at hsp;subst hsp;rfl
       rw[had];refine .one (.sl ad.block ad.off len cap us _ (by rw[hus,hflat]) (λi u hi=>a7V (hU i u hi).1) hlc λi u t hu ht=>?_);obtain⟨_,t',h5,h6⟩:=hU i u hu;rw[ht]at h5;cases h5;exact h6
     .have:=hm ((elems.map (·.1)).length+(rest.map (·.1)).length |> (· * P.bytesOf e)) (by simp[DataW.weights,hu])
      simp only[cP]at this;have h4:len*JK a<=(elems.length+rest.length)*P.bytesOf e:=Nat.mul_le_mul (by omega) h3;show dR l*_<=_;rw[hl];omega
     .obtain⟨i,hi⟩:=hmem y hy
      refine(hQ i y hi).2.2 λd hd m hm'=>hm m ?_
      have:m∈DataW.weightsAll P e (elems.map (·.1)):=aAO hd hm';simp only[DataW.weights,hu,eZ,wR];exact .inr (.inl this)
   .rename_i a b fs hu
    simp only[aT]at h;obtain⟨h1,h2⟩:=h;have h1:=bB h1;obtain⟨xs,m,rfl,rfl,hl,hxl,hf⟩:=DataW.trod_struct hu hx;obtain⟨v,v1,v2,v3⟩:=aHM ih m fs.toList (.pr a b) 0 cs xs h2 (by rw[hl,h1];simp[Ty.size]) (by rw[hxl];simp) λi f hi=>hf i f (by simpa using hi)
    refine⟨v,v1,by simpa using v2,λhm=>v3 λm' hm'=>hm m' ?_⟩;simp only[DataW.weights,hu];exact hm'
   .rename_i a b k e hu
    simp only[aT]at h;obtain⟨h1,h2⟩:=h;have h1:=bB h1;obtain⟨xs,hx1,hl,hxl,m,hf⟩:=trod_array hu hx;obtain⟨v,v1,v2,v3⟩:=aHN (λτ t h=>by
     simp only[aT]at h;exact⟨ih τ t h.1,bB h.2⟩) m e k (.pr a b) cs xs h2 (by rw[hl,h1];rfl) hxl hf
    refine⟨v,v1,v2,λhm=>v3 λm' hm'=>hm m' ?_⟩;rw[hx1];simp only[DataW.weights,hu];exact hm'
   .cases h
def ZQ(τ:Ty)(x:τ.V):D:=match τ.one with|true=>.t (nD τ x)|false=>.agg ((aM τ x).map .t)
theorem lG.cell{τ:Ty}{v:τ.V}{u:Value}(h1:τ.one=true)(h:lG w [u] (aM τ v)):Zx w (oZ w) u (ZQ τ v):=by
 unfold ZQ;rw[h1];rw[EJ h1]at h;exact .t (h.2 0 _ _ rfl rfl)
theorem a39{n:Nat}{e t:TypeId}{r:Reach}{b0:Nat}{v:Value}(ht:P.underlying t=some (.array n e))(h:Value.okWide P w r b0 t v):∃cs,v = .agg cs/\cs.size=P.cellsOf t:=by
 simp only[Value.okWide,ht]at h;obtain⟨cs,h1,h2,_⟩:=h;exact⟨cs,h1,h2⟩
theorem aJm{n:Nat}{τ:Ty}{t:TypeId}(hτ:Ak P n τ t=true){r:Reach}{b0:Nat}{v:Value}{d:DataW H}{ps:List MemPlace}(hval:Value.okWide P w r b0 t v)(hd:DataW.Trod enc P w base spare held t v d ps):
    ∃x:τ.V,u9 τ x/\Zx w (oZ w) v (ZQ τ x)/\((∀m∈d.weights P t,m<=reachBytes)->wO τ x):=by
 obtain⟨fuel,hf⟩:=hd;obtain⟨x,x1,x2,x3⟩:=opens n τ t hτ fuel _ _ hf;refine⟨x,x1,?_,x3⟩;cases n with
 |zero=>cases hτ
 |succ n=>
   unfold Ak at hτ;split at hτ
   .rename_i hu
    obtain⟨z,rfl⟩:=okWide_int hu hval;exact lG.cell rfl x2
   .rename_i hu
    obtain⟨z,rfl⟩:=okWide_int hu hval;exact lG.cell rfl x2
   .rename_i hu
    obtain⟨z,rfl⟩:=okWide_bool hu hval;exact lG.cell rfl x2
   .rename_i hu
    obtain⟨z,rfl⟩:=okWide_string hu hval;exact lG.cell rfl x2
   .rename_i hu
    obtain⟨a,l,c,rfl⟩:=okWide_slice hu hval;exact lG.cell rfl x2
   .rename_i a b fs hu
    obtain⟨cs,rfl,hcs⟩:=okWide_struct hu hval;have hc:(Value.agg cs).cells.toList=cs.toList:=rfl;rw[hc]at x2;refine .agg (by have:=x2.1;simpa using this) (λi u d' hu' hd'=>?_) λu hu'=>?_
    .rw[cZ]at hd'
     obtain⟨tr,ht,rfl⟩:=cO.1 hd';exact .t (x2.2 i u tr (by simpa using hu') ht)
    .obtain⟨i,hi⟩:=iS.1 hu'
     obtain⟨tr,ht⟩:∃tr,(aM (.pr a b) x)[i]?=some tr:=⟨_,dC (by rw[<-x2.1];exact(bZ.1 hi).1)⟩
     exact(x2.2 i u tr hi ht).one
   .rename_i a b k e hu
    obtain⟨cs,rfl,hcs⟩:=a39 hu hval;have hc:(Value.agg cs).cells.toList=cs.toList:=rfl;rw[hc]at x2;refine .agg (by have:=x2.1;simpa using this) (λi u d' hu' hd'=>?_) λu hu'=>?_
    .rw[cZ]at hd'
     obtain⟨tr,ht,rfl⟩:=cO.1 hd';exact .t (x2.2 i u tr (by simpa using hu') ht)
    .obtain⟨i,hi⟩:=iS.1 hu'
     obtain⟨tr,ht⟩:∃tr,(aM (.pr a b) x)[i]?=some tr:=⟨_,dC (by rw[<-x2.1];exact(bZ.1 hi).1)⟩
     exact(x2.2 i u tr hi ht).one
   .cases hτ
end
end Go.Ax
/- Shapes: states, arguments and results by an example; loops and functions by them. -/
namespace Go.Ax
open aA
open Go.RowKit Go.Ab
theorem aIK{a b:Ty}(h:a=b)(x:a.V):(⟨b,j6 h x⟩:Lf)=⟨a,x⟩:=by subst h;rfl
theorem Y4:∀(ts:List Ty)(ls:List Lf)(d:gM ts),EC ts ls=some d->Hy ts d=ls
 |[],ls,d,h=>by
   cases ls with
   |nil=>rfl
   |cons a l=>cases h
 |[a],ls,d,h=>by
   match ls,h with
   |[⟨b,x⟩],h=>
     unfold EC at h;simp only at h;split at h
     .rename_i g _
      cases h;exact aR (λz=>[z]) (aIK g x)
     .cases h
 |a::b::l,ls,d,h=>by
   match ls,h with
   |⟨c,x⟩::r,h=>
     unfold EC at h;simp only at h;split at h
     .rename_i g _
      split at h
      .rename_i y hy
       cases h;show(⟨a,j6 g x⟩:Lf)::Hy (b::l) y=_;rw[Y4 (b::l) r y hy];exact aR (λz=>z::r) (aIK g x)
      .cases h
     .cases h
theorem aZk{a b:Value}(h:Vp a b=true):a=b:=by
 unfold Vp at h;split at h
 .rfl
 .rfl
 .cases h
theorem aG2:∀a:Ty,∃h,eV a a=some ⟨h⟩:=λa=>by
 cases h:eV a a with
 |some p=>exact⟨p.1,rfl⟩
 |none=>
   exfalso
   induction a with
   |i k=>unfold eV at h;simp at h
   |sl e ih=>
     unfold eV at h;split at h
     .cases h
     .exact ih (by assumption)
   |pr x y ih1 ih2=>
     unfold eV at h;split at h
     .split at h
      .cases h
      .exact ih2 (by assumption)
     .exact ih1 (by assumption)
   |_=>cases h
theorem BB{α:Type}{τ τ':Ty}{x:τ'.V}{acc ls:List Lf}(h:pk τ τ' x acc=some ls)(k:τ.V->List Lf->α)(d:α):∃e:τ'=τ,tk τ ls k d=k (j6 e x) acc:=by
 unfold pk at h;split at h
 .rename_i g _
  cases h;subst g;obtain⟨h',hh⟩:=aG2 τ';refine⟨rfl,?_⟩;unfold tk;simp only[hh];rfl
 .cases h
theorem pkE{α:Type}{τ τ':Ty}{x:τ'.V}{acc ls:List Lf}(h:pk τ τ' x acc=some ls)(F:(τ:Ty)->τ.V->α){β:Type}(k:α->List Lf->β)(d:β):tk τ ls (λx r=>k (F τ x) r) d=k (F τ' x) acc:=by
 obtain⟨e,h⟩:=BB h (λx r=>k (F τ x) r) d;rw[h];subst e;rfl
mutual
theorem Xi{α:Type}:∀(x y:X)(acc ls:List Lf),mX x y acc=some ls->∀(k:X->List Lf->α)(d:α),fX x ls k d=k y acc
 |.e τ _,y,acc,ls,h,k,d=>by
   unfold mX at h;split at h
   .unfold fX;exact pkE h X.e k d
   .cases h
 |.ag τ _,y,acc,ls,h,k,d=>by
   unfold mX at h;split at h
   .rename_i τ' x'
    unfold fX;obtain⟨e,g⟩:=BB h (λx r=>k (.ag τ x) r) d;rw[g];cases e;rfl
   .cases h
 |.pt τ _ j,y,acc,ls,h,k,d=>by
   unfold mX at h;split at h
   .split at h
    .rename_i hb
     have:=bB hb;subst this;unfold fX;exact pkE h (λτ x=>X.pt τ x _) k d
    .cases h
   .cases h
 |.agg xs,y,acc,ls,h,k,d=>by
   unfold mX at h;split at h
   .unfold fX;exact Ig xs _ acc ls h _ d
   .cases h
 |.aS xs,y,acc,ls,h,k,d=>by
   unfold mX at h;split at h
   .unfold fX;exact Ig xs _ acc ls h _ d
   .cases h
 |.fn f xs,y,acc,ls,h,k,d=>by
   unfold mX at h;split at h
   .split at h
    .rename_i hb
     have:=bB hb;subst this;unfold fX;exact Ig xs _ acc ls h _ d
    .cases h
   .cases h
 |.bW,y,acc,ls,h,k,d=>by
   unfold mX at h;split at h
   .cases h;rfl
   .cases h
 |.own q,y,acc,ls,h,k,d=>by
   unfold mX at h;split at h
   .split at h
    .rename_i hb
     cases bB hb;cases h;rfl
    .cases h
   .cases h
 |.ref q i,y,acc,ls,h,k,d=>by
   unfold mX at h;split at h
   .split at h
    .rename_i hb
     obtain⟨h1,h2⟩:=Bk.1 hb;cases bB h1;cases bB h2;cases h;rfl
    .cases h
   .cases h
 |.via q i,y,acc,ls,h,k,d=>by
   unfold mX at h;split at h
   .split at h
    .rename_i hb
     obtain⟨h1,h2⟩:=Bk.1 hb;cases bB h1;cases bB h2;cases h;rfl
    .cases h
   .cases h
 |.jI q i,y,acc,ls,h,k,d=>by
   unfold mX at h;split at h
   .split at h
    .rename_i hb
     obtain⟨h1,h2⟩:=Bk.1 hb;cases bB h1;cases bB h2;cases h;rfl
    .cases h
   .cases h
 |.v w,y,acc,ls,h,k,d=>by
   unfold mX at h;split at h
   .split at h
    .rename_i hb
     cases aZk hb;cases h;rfl
    .cases h
   .cases h
 |.rr ..,_,_,_,h,_,_=>by cases h
 |.bit ..,_,_,_,h,_,_=>by cases h
 |.eX ..,_,_,_,h,_,_=>by cases h
 |.sub ..,_,_,_,h,_,_=>by cases h
 |.jE ..,_,_,_,h,_,_=>by cases h
 |.vw ..,_,_,_,h,_,_=>by cases h
 |.kQ ..,_,_,_,h,_,_=>by cases h
theorem Ig{α:Type}:∀(x y:List X)(acc ls:List Lf),mL x y acc=some ls->∀(k:List X->List Lf->α)(d:α),fL x ls k d=k y acc
 |[],y,acc,ls,h,k,d=>by
   unfold mL at h;split at h
   .cases h;rfl
   .cases h
 |x::xs,y,acc,ls,h,k,d=>by
   unfold mL at h;split at h
   .split at h
    .rename_i a ha
     unfold fL;rw[Xi x _ a ls h,Ig xs _ acc a ha]
    .cases h
   .cases h
end
theorem WW{α:Type}(τ:Ty)(x:τ.V)(r:List Lf)(k:τ.V->List Lf->α)(d:α):tk τ (⟨τ,x⟩::r) k d=k x r:=by
 unfold tk;obtain⟨h,e⟩:=aG2 τ;simp only[e];rfl
theorem a4F{α:Type}(x y:XO)(acc ls:List Lf)(h:mO x y acc=some ls)(k:XO->List Lf->α)(d:α):fO x ls k d=k y acc:=by
 cases x with
 |box e xs=>
   unfold mO at h;simp only at h;split at h
   .split at h
    .rename_i hb
     cases bB hb;exact Ig xs _ acc ls h _ d
    .cases h
   .cases h
 |row e τ l st=>
   unfold mO at h;simp only at h;split at h
   .split at h
    .rename_i hb
     obtain⟨h1,h2⟩:=Bk.1 hb;cases bB h1;cases eq_of_beq h2;obtain⟨e,g⟩:=BB h (λl r=>k (.row _ τ l _) r) d;refine g.trans ?_;cases e;rfl
    .cases h
   .cases h
 |arr e τ l=>
   unfold mO at h;simp only at h;split at h
   .split at h
    .rename_i hb
     cases bB hb;obtain⟨e,g⟩:=BB h (λl r=>k (.arr _ τ l) r) d;refine g.trans ?_;cases e;rfl
    .cases h
   .cases h
 |nest e f τ l=>
   unfold mO at h;simp only at h;split at h
   .split at h
    .rename_i hb
     obtain⟨h1,h2⟩:=Bk.1 hb;cases bB h1;cases bB h2;obtain⟨e,g⟩:=BB h (λl r=>k (.nest _ _ τ l) r) d;refine g.trans ?_;cases e;rfl
    .cases h
   .cases h
 |bC e f κ ρ l ln=>
   unfold mO at h;simp only at h;split at h
   .split at h
    .rename_i hb
     obtain⟨h1,h2⟩:=Bk.1 hb;cases bB h1;cases bB h2;split at h
     .obtain⟨e,g⟩:=BB h (λl r=>k (.bC _ _ κ ρ l none) r) d
      refine g.trans ?_;cases e;rfl
     .split at h
      .rename_i hq
       cases bB hq;obtain⟨e,g⟩:=BB h (λl r=>tk (.i .i64) r (λi r=>k (.bC _ _ κ ρ l (some (i,_))) r) d) d;refine g.trans ?_;cases e;exact WW (.i .i64) _ acc (λi r=>k (.bC _ _ κ ρ _ (some (i,_))) r) d
      .cases h
     .cases h
    .cases h
   .cases h
 |it s p=>
   unfold mO at h;simp only at h;split at h
   .cases h
    rename_i s' p';exact(WW .tx s' _ (λs r=>tk (.i .i64) r (λp r=>k (.it s p) r) d) d).trans (WW (.i .i64) p' acc (λp r=>k (.it s' p) r) d)
   .cases h
 |mp τ l=>cases h
theorem aIC{α:Type}:∀(x y:XT)(acc ls:List Lf),mT x y acc=some ls->∀(k:XT->List Lf->α)(d:α),fT x ls k d=k y acc
 |[],y,acc,ls,h,k,d=>by
   unfold mT at h;split at h
   .cases h;rfl
   .cases h
 |(t,x)::xs,y,acc,ls,h,k,d=>by
   unfold mT at h;split at h
   .split at h
    .rename_i hb
     cases bB hb;split at h
     .rename_i a ha
      unfold fT;rw[Xi x _ a ls h,aIC xs _ acc a ha]
     .cases h
    .cases h
   .cases h
theorem Xj{α:Type}:∀(x y:XH)(acc ls:List Lf),mH x y acc=some ls->∀(k:XH->List Lf->α)(d:α),fH x ls k d=k y acc
 |[],y,acc,ls,h,k,d=>by
   unfold mH at h;split at h
   .cases h;rfl
   .cases h
 |(t,x)::xs,y,acc,ls,h,k,d=>by
   unfold mH at h;split at h
   .split at h
    .rename_i hb
     cases bB hb;split at h
     .rename_i a ha
      unfold fH;rw[a4F x _ a ls h,Xj xs _ acc a ha]
     .cases h
    .cases h
   .cases h
theorem Hw{s σ:Sg}{d:gM (tS s)}(h:Aj s σ=some d):jM s d=σ:=by
 unfold Aj at h;split at h
 .rename_i hN
  split at h
  .rename_i a ha
   split at h
   .rename_i ls hl
    unfold jM;rw[Y4 _ _ _ h,aIC s.T σ.T a ls hl,Xj s.H σ.H [] a ha,<-bB hN]
   .cases h
  .cases h
 .cases h
theorem aGQ{s r:aF}{d:gM (tR s)}(h:aG s r=some d):aB s d=r:=by
 unfold aG at h;split at h
 .rename_i a ha
  split at h
  .rename_i ls hl
   unfold aB;rw[Y4 _ _ _ h,Xi s.1 r.1 a ls hl,Xj s.2 r.2 [] a ha]
  .cases h
 .cases h
theorem aGP{s r:aF}{d:gM (tR s)}(h:aG s r=some d)(v:Value)(e:r.1 = .kQ v):False:=by
 unfold aG at h;rw[e]at h;split at h
 .split at h
  .rename_i ls hl
   cases hs:s.1 <;> rw[hs]at hl <;> cases hl
  .cases h
 .cases h
structure Kt(P:Program) where
 f:FuncId
 e:oE
 ok:oF P f e
 nm:sK P f=true
variable{P:Program}
def kG:List (Kt P)->List (Nat×oE)
 |[]=>[]
 |k::l=>(k.f,k.e)::kG l
theorem aIT:∀l:List (Kt P),pQ P (kG l)
 |[]=>.nil
 |k::l=>.cons k.nm k.ok (aIT l)
def kC(ex:TypeId)(l:List (Kt P)):Cx:=⟨P,ex,kG l⟩
theorem a4f(hm:P.follows .mixedOrders=true)(ex:TypeId)(l:List (Kt P)):tG (kC ex l):=a7C hm (aIT l)
abbrev jQ(fn:Func):Code:=fn.body.getD .skip
def kt{f:FuncId}{e:oE}(ok:oF P f e)(nm:sK P f=true:=by kernel_rfl):Kt P:=⟨f,e,ok,nm⟩
theorem oF.or{f:FuncId}{g g':oE}(h:oF P f g)(k:oF P f g'):oF P f (Zt g g'):=λxs H cl he=>by
 unfold Zt at he;split at he
 .rename_i r' hr
  cases he;exact h xs H _ hr
 .exact k xs H cl he
def ktO(a b:Kt P)(h:b.f=a.f:=by kernel_rfl):Kt P:=⟨a.f,Zt a.e b.e,oF.or a.ok (h ▸ b.ok),a.nm⟩
theorem yW{c:Cx}(hc:tG c){f:FuncId}{fn:Func}{h:aA->Hint}(hh:jL c fn.ntmps (h k9) (jQ fn)){i:Sg}{o:aF}{ow:Bool}
    (g:aA->gM (tS i)->O) (hz:∀A d,g A d=@exec A c fn.ntmps (h A) (jQ fn) (jM i d) (wH c fn ow)) (hf:c.P.funcs[f]?=some fn:=by kernel_rfl) (hb:fn.body.isSome=true:=by kernel_rfl) (hm:Nat.ble i.T.length fn.ntmps=true:=by kernel_rfl):oF c.P f (en i o λd=>(g k9 d).bind (aG o)):=λxs H cl he d' hd'=>by
 unfold en at he;split at he
 .rename_i hl
  split at he
  .rename_i d hd
   cases he;obtain⟨r,hr,hu⟩:=wP.1 hd';rw[hz,Hw hd]at hr;obtain⟨code,hcode⟩:=E2.1 hb;have e:jQ fn=code:=by show fn.body.getD .skip=code;rw[hcode];rfl
   rw[e]at hr hh;have:=aIh hc hf hcode hh (by rw[bB hl];exact iA hm) hr;show jD _ _ _ _ (aB o d').1.D (HA (aB o d').2);rw[aGQ hu];unfold wV at this;split at this
   .rename_i v hv
    exact(aGP hu v hv).elim
   .exact this
  .cases he
 .cases he
structure Lp where
 nm:Nm
 I:Sg
 out:List (Exit×Nm×Sg)
def Lp.ws(s:Lp):List (Exit×Nm):=s.out.map λp=>(p.1,p.2.1)
def nth{α:Type}:List α->Nat->Option α
 |[],_=>none
 |x::l,n=>match n with|0=>some x|n+1=>nth l n
def xT(o:Option (Exit×Nm×Sg)):Type:=match o with|some p=>gM (tS p.2.2)|none=>Unit
def xE(n:Nat):(o:Option (Exit×Nm×Sg))->xT o->Exit×Sg
 |some p,y=>(p.1,jM p.2.2 y)
 |none,y=>noX n y
def xU:(o:Option (Exit×Nm×Sg))->Exit->Sg->Option (xT o)
 |some p,_,σ=>Aj p.2.2 σ
 |none,_,_=>none
abbrev Lp.V(s:Lp):Type:=gM (tS s.I)
abbrev Lp.Y(s:Lp)(n:Nat):Type:=xT (nth s.out n)
abbrev Lp.F(s:Lp):Type:=s.V->(s.Y 0->O)->(s.Y 1->O)->(s.Y 2->O)->O
def Lp.X(s:Lp)(n:Nat):s.Y n->Exit×Sg:=xE n (nth s.out n)
def Lp.L(s:Lp)(l:s.F)(σ:Sg)(k0:s.Y 0->O)(k1:s.Y 1->O)(k2:s.Y 2->O):O:=match Aj s.I σ with
 |some x=>l x k0 k1 k2
 |none=>none
def Lp.h(s:Lp)(l:s.F):Hint:=.sub s.nm _ _ _ (s.X 0) (s.X 1) (s.X 2) (s.L l)
def nn{α:Type}(_:α):O:=none
def bL(s:Lp)(F:(s.V->O)->s.F):Nat->s.F
 |0=>λ_ _ _ _=>none
 |n+1=>λx k0 k1 k2=>F (λx'=>bL s F n x' k0 k1 k2) x k0 k1 k2
inductive u7:List (Exit×Nm×Sg)->Prop
 |n:u7 []
 |c {p:Exit×Nm×Sg} {l:List (Exit×Nm×Sg)} (h:∀y,Aj p.2.2 (jM p.2.2 y)=some y) (k:u7 l):u7 (p::l)
def xD:(o:Option (Exit×Nm×Sg))->xT o
 |some p=>zT (tS p.2.2)
 |none=>()
theorem Jd:∀{l:List (Exit×Nm×Sg)}(_:u7 l)(n m:Nat)(y:xT (nth l n)),(xU (nth l n) (xE m (nth l n) y).1 (xE m (nth l n) y).2).getD (xD (nth l n))=y
 |[],_,_,_,_=>rfl
 |p::_,.c h _,0,_,y=>by show(Aj p.2.2 (jM p.2.2 y)).getD _=y;rw[h y];rfl
 |_::_,.c _ k,n+1,m,y=>Jd k n m y
def xK(n:Nat)(o:Option (Exit×Nm×Sg)):Nat:=match o with|some p=>yS p.1|none=>5+2*n
theorem Ob(n:Nat)(o:Option (Exit×Nm×Sg))(y:xT o):yS (xE n o y).1=xK n o:=by cases o <;> rfl
theorem aIE{c:Cx}{M:Nat}{code:Code}(s:Lp)(ho:u7 s.out)(hd:(yR (xK 0 (nth s.out 0)) (xK 1 (nth s.out 1))&&(yR (xK 0 (nth s.out 0)) (xK 2 (nth s.out 2))&&yR (xK 1 (nth s.out 1)) (xK 2 (nth s.out 2))))=true){l:s.F}
    (run:∀(K:Exit->Sg->O) x r,100<=(jM s.I x).N->l x (λy=>K (s.X 0 y).1 (s.X 0 y).2) (λy=>K (s.X 1 y).1 (s.X 1 y).2) (λy=>K (s.X 2 y).1 (s.X 2 y).2)=some r->s8 c M code (jM s.I x) λe σ'=>100<=σ'.N/\K e σ'=some r):JT c M code (s.X 0) (s.X 1) (s.X 2) (s.L l):=by
 intro σ k1 k2 k3 r h hN;unfold Lp.L at h;split at h
 .rename_i x hx
  obtain⟨d1,d2⟩:=Bk.1 hd;obtain⟨d2,d3⟩:=Bk.1 d2;have hO:ON (λe σ=>(xU (nth s.out 0) e σ).getD (xD (nth s.out 0))) (λe σ=>(xU (nth s.out 1) e σ).getD (xD (nth s.out 1))) (λe σ=>(xU (nth s.out 2) e σ).getD (xD (nth s.out 2))) (s.X 0) (s.X 1) (s.X 2) (xK 0 (nth s.out 0)) (xK 1 (nth s.out 1)) (xK 2 (nth s.out 2)):=
   ⟨Jd ho 0 0,Jd ho 1 1,Jd ho 2 2,Ob _ _,Ob _ _,Ob _ _,Yi d1,Yi d2,Yi d3⟩
  have:=run (wC (λe σ=>(xU (nth s.out 0) e σ).getD (xD (nth s.out 0))) (λe σ=>(xU (nth s.out 1) e σ).getD (xD (nth s.out 1))) (λe σ=>(xU (nth s.out 2) e σ).getD (xD (nth s.out 2))) (s.X 0) (s.X 1) (s.X 2) k1 k2 k3) x r (by rw[Hw hx];omega);rw[a4j hO,a4i hO,a4h hO]at this;rw[<-Hw hx];intro E hE;refine uZ (this h E hE) ?_;rintro e s' ⟨σ1,⟨h1,h2⟩,h3⟩;exact⟨σ1,⟨h1,a4g h2⟩,h3⟩
 .cases h
def Lp.Q(s:Lp)(F:s.F)(G:(Exit->Sg->O)->s.V->O):Prop:=∀(K:Exit->Sg->O) x,F x (λy=>K (s.X 0 y).1 (s.X 0 y).2) (λy=>K (s.X 1 y).1 (s.X 1 y).2) (λy=>K (s.X 2 y).1 (s.X 2 y).2)=G K x
abbrev Lp.B(s:Lp):Bool:=yR (xK 0 (nth s.out 0)) (xK 1 (nth s.out 1))&&(yR (xK 0 (nth s.out 0)) (xK 2 (nth s.out 2))&&yR (xK 1 (nth s.out 1)) (xK 2 (nth s.out 2)))
def wQ(c:Cx)(fn:Func)(code:Code)(s:Lp)(l:s.F):Prop:=JT c fn.ntmps code (s.X 0) (s.X 1) (s.X 2) (s.L l)
theorem Xk{c:Cx}(hc:tG c){fn:Func}{body:Code}{s:Lp}(ho:u7 s.out)(hd:s.B=true){hb:aA->Hint}(hh:jL c fn.ntmps (hb k9) body)(F:aA->(s.V->O)->s.F)
    (hq:∀(A:aA)(self:Sg->O),s.Q (F A λx=>self (jM s.I x)) λK x=>@exec A c fn.ntmps (hb A) body (jM s.I x) (De s.nm s.ws self K)) (n:Nat):wQ c fn (.loop body) s (bL s (F k9) n):=
 aIE s ho hd λK x r hN h=>by
  refine a4I hc hh (nm:=s.nm) (out:=s.ws) (n:=n) ?_ hN;rw[<-h];clear h hN
  induction n generalizing x with
  |zero=>rfl
  |succ n ih=>
    refine(hq k9 (λσ=>BI c fn.ntmps (hb k9) body s.nm s.ws n σ K) K x).symm.trans ?_;show F k9 (λx=>BI c fn.ntmps (hb k9) body s.nm s.ws n (jM s.I x) K) x _ _ _=F k9 (λx'=>bL s (F k9) n x' _ _ _) x _ _ _;rw[funext λx=>ih x]
theorem Dj{c:Cx}(hc:tG c){fn:Func}{code:Code}{s:Lp}(ho:u7 s.out)(hd:s.B=true){hb:aA->Hint}(hh:jL c fn.ntmps (hb k9) code)(F:aA->s.F)
    (hq:∀A:aA,s.Q (F A) λK x=>@exec A c fn.ntmps (hb A) code (jM s.I x) (XJ s.ws K)):wQ c fn code s (F k9):=
 aIE s ho hd λK x _ hN h=>a2F hc hh ((hq k9 K x).symm.trans h) hN
theorem aJn:∀(l l':List X)(t:Nat),rL t l=rL t l'->l=l'
 |[],[],_,_=>rfl
 |[],_::_,_,h=>by cases h
 |_::_,[],_,h=>by cases h
 |x::l,y::l',t,h=>by
   unfold rL at h;obtain⟨h1,h2⟩:=List.cons.inj h;rw[(Prod.mk.inj h1).2,aJn l l' (t+1) h2]
theorem yX{f:FuncId}{i:Sg}{o:aF}{z:gM (tS i)->Option (gM (tR o))}(XS:gM (tS i)->List X)(HS:gM (tS i)->XH)(hi:∀d,jM i d=ag (XS d) (HS d))
    (h:∀d r,z d=some r->jD P f ((XS d).map X.D) (HA (HS d)) (aB o r).1.D (HA (aB o r).2)):oF P f (en i o z):=λxs H cl he r hr=>by
 unfold en at he;split at he
 .split at he
  .rename_i d hd
   cases he;have e:=Hw hd;rw[hi]at e;have e1:rL 0 (XS d)=rL 0 xs:=aR Sg.T e;have e2:HS d=H:=aR Sg.H e;rw[<-aJn _ _ _ e1,<-e2];exact h d r hr
  .cases he
 .cases he
def hU(n:Nat):Code->Hint
 |.seq a b=>.seq (hU n a) (hU n b)
 |.cond _ a b=>.cond (hU n a) (hU n b)
 |.block _ a=>.block (hU n a)
 |.scope a=>.block (hU n a)
 |.loop a=>.D2 n (hU n a)
 |_=>.d
theorem yL{c:Cx}{M n:Nat}:∀code:Code,jL c M (hU n code) code
 |.seq a b=>⟨yL a,yL b⟩
 |.cond _ a b=>⟨yL a,yL b⟩
 |.block _ a=>yL (c:=c) (M:=M) (n:=n) a
 |.scope a=>yL (c:=c) (M:=M) (n:=n) a
 |.loop a=>yL (c:=c) (M:=M) (n:=n) a
 |.skip=>trivial
 |.region ..=>trivial
 |.rangeFunc ..=>trivial
 |.exit _=>trivial
 |.label _=>trivial
 |.goto _=>trivial
 |.ret=>trivial
 |.refuse _=>trivial
theorem Yn{c:Cx}(hc:tG c){f:FuncId}{fn:Func}{h:Hint}(hh:jL c fn.ntmps h (jQ fn)){i:Sg}{o:aF}{ow:Bool}{z:gM (tS i)->Option (gM (tR o))}
    (hz:∀d d',z d=some d'->(exec c fn.ntmps h (jQ fn) (jM i d) (wH c fn ow)).bind (aG o)=some d') (hf:c.P.funcs[f]?=some fn:=by kernel_rfl) (hb:fn.body.isSome=true:=by kernel_rfl) (hm:Nat.ble i.T.length fn.ntmps=true:=by kernel_rfl):oF c.P f (en i o z):=λxs H cl he d' hd'=>by
 unfold en at he;split at he
 .rename_i hl
  split at he
  .rename_i d hd
   cases he;obtain⟨r,hr,hu⟩:=wP.1 (hz d d' hd');rw[Hw hd]at hr;obtain⟨code,hcode⟩:=E2.1 hb;have e:jQ fn=code:=by show fn.body.getD .skip=code;rw[hcode];rfl
   rw[e]at hr hh;have:=aIh hc hf hcode hh (by rw[bB hl];exact iA hm) hr;show jD _ _ _ _ (aB o d').1.D (HA (aB o d').2);rw[aGQ hu];unfold wV at this;split at this
   .rename_i v hv
    exact(aGP hu v hv).elim
   .exact this
  .cases he
 .cases he
theorem a6q{f:FuncId}{i:Sg}{o:aF}:oF P f (en i o λ_=>none):=λxs H cl he a ha=>by
 unfold en at he;split at he
 .split at he
  .cases he
   cases ha
  .cases he
 .cases he
structure Rc(P:Program)(f:FuncId)(i:Sg)(o:aF) where
 n:Nat
 s:gM (tS i)->Option (gM (tR o))
 ok:oF P f (en i o s)
 nm:sK P f=true
def Rc.K{f:FuncId}{i:Sg}{o:aF}(N:Rc P f i o):Kt P:=⟨f,en i o N.s,N.ok,N.nm⟩
def Ay{f:FuncId}{i:Sg}{o:aF}(n:Nat)(nm:sK P f=true)(g:Rc P f i o->gM (tS i)->O)(h:∀N,oF P f (en i o λd=>(g N d).bind (aG o))):Nat->Rc P f i o
 |0=>⟨n,λ_=>none,a6q,nm⟩
 |m+1=>⟨n,λd=>(g (Ay n nm g h m) d).bind (aG o),h _,nm⟩
end Go.Ax
