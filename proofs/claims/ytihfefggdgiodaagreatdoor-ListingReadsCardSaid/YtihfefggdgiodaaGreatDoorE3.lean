/- The abstract machine: rows, rows of rows, maps. Conditions are in the theorems. -/
import Derived.Test.YtihfefggdgiodaaGreatDoorE2
import Derived.MapKept
open Array renaming ext_getElem?->Tw,getElem?_eq_getElem->iM,getElem?_eq_none->GC,getElem?_eq_some_iff->eF,getElem?_setIfInBounds_ne->nL,length_toList->nK,range->aEC,toList_map->Tv
open Int renaming toNat_natCast->iT
open List renaming append_assoc->fT,cons_append->Af,drop_eq_nil_of_le->fD,eq_nil_of_length_eq_zero->Fy,ext_getElem?->Ae,flatMap_cons->fS,flatten_cons->fR,getElem?_append_left->cZ,getElem?_append_right->eE,getElem?_eq_getElem->bM,getElem?_eq_none->rI,getElem?_eq_some_iff->bP,getElem?_map->cD,getElem?_range->MG,getElem?_set->aXR,getElem?_set_ne->nH,getElem?_set_self->l8,getElem?_take->eY,length_append->bF,length_cons->dK,length_set->iI,mem_cons->eD,mem_iff_getElem?->gK,mem_of_getElem?->Ac,mem_singleton->lL,nil_append->fK,not_mem_nil->aXI,range->fJ,replicate->dA,replicate_succ->pU,take_of_length_le->iS
open Nat renaming add_mul->iH,le_refl->bX,mul_one->jL,zero_add->cY,zero_le->dC,zero_mul->pT
open Ne renaming symm->dW
open Option renaming bind_eq_some_iff->jK,map_eq_some_iff->b9,map_some->jE,toList_none->aWx,toList_some->aWw
open Option.some renaming inj->eX,injEq->gD
/- The abstract machine: the same laws from facts on types that a program can print. -/
namespace Go.Ab
open Go.RowKit
inductive vW {α:Type}:List α->Nat->List α->List α->Prop
 |done {l:List α}:vW l 0 [] l
 |skip {x:α} {l new l':List α} {off:Nat} (r:vW l off new l'):vW (x::l) (off+1) new (x::l')
 |put {x y:α} {l new l':List α} (r:vW l 0 new l'):vW (x::l) 0 (y::new) (y::l')
theorem vW.eq{α:Type}{l new l':List α}{off:Nat}(h:vW l off new l'):l'=cO l off new/\off+new.length<=l.length:=by
 induction h with
 |done=>simp[cO]
 |skip r ih=>exact⟨by rw[ih.1];simp[cO,Nat.add_right_comm],by simp;have:=ih.2;omega⟩
 |put r ih=>exact⟨by rw[ih.1];simp[cO],by simp;have:=ih.2;omega⟩
inductive Ai {α:Type}:List α->Nat->Nat->List α->Prop
 |done {l:List α}:Ai l 0 0 []
 |skip {x:α} {l ds:List α} {off m:Nat} (r:Ai l off m ds):Ai (x::l) (off+1) m ds
 |take {x:α} {l ds:List α} {m:Nat} (r:Ai l 0 m ds):Ai (x::l) 0 (m+1) (x::ds)
theorem Ai.eq{α:Type}{l ds:List α}{off m:Nat}(h:Ai l off m ds):(l.drop off).take m=ds/\ds.length=m:=by
 induction h with
 |done=>simp
 |skip r ih=>exact⟨by simpa using ih.1,ih.2⟩
 |take r ih=>exact⟨by simpa using ih.1,by simpa using ih.2⟩
inductive Co (pl:List (Nat×Nat)):List D->List (Nat×D)->List D->Prop
 |nil {cells:List D}:Co pl cells [] cells
 |cons {cells cells' out cs:List D} {i off size:Nat} {d:D} {rest:List (Nat×D)} (hp:pl[i]?=some (off,size)) (hv:d.val=true) (hc:d.cells=cs) (hl:cs.length=size) (hs:vW cells off cs cells') (r:Co pl cells' rest out):Co pl cells ((i,d)::rest) out
theorem Co.eq{pl:List (Nat×Nat)}{cells out:List D}{parts:List (Nat×D)}(h:Co pl cells parts out):gY pl cells parts=some out:=by
 induction h with
 |nil=>rfl
 |cons hp hv hc hl hs r ih=>
   obtain⟨h1,h2⟩:=hs.eq;subst hc;simp only[gY,hp];rw[aE (by simp[hv,hl];omega),<-h1];exact ih
def iX(P:Program)(t:TypeId):Option Bool:=(P.underlying t).map λ|.struct _|.array _ _=>true|_=>false
theorem kT{P:Program}{t:TypeId}{b:Bool}(h:iX P t=some b):∃d,P.underlying t=some d/\d.isRow=b:=by
 unfold iX at h;obtain⟨d,h1,h2⟩:=b9.1 h;refine⟨d,h1,?_⟩;rw[<-h2];cases d <;> rfl
section
variable{P:Program}{o:Oper}{σ:St}{fr:Nat}
theorem vG{t:TypeId}{x:Operand}{k off:Nat}{ob:aM}{d:D}(hu:iX P t=some false)(ho:o.op = .load t x)(hx:σ.ev x=some (.ref k off))(hk:σ.H k=some ob)(hc:ob.cells[off]?=some d):aU P o σ fr d []:=by
 obtain⟨dsc,h1,h2⟩:=kT hu;exact aSB ho h1 h2 hx hk hc
theorem SA{t:TypeId}{x:Operand}{k off m:Nat}{ob:aM}{ds:List D}(hu:iX P t=some true)(hi:(P.info? t).map (·.size)=some m)(ho:o.op = .load t x)(hx:σ.ev x=some (.ref k off))(hk:σ.H k=some ob)(hc:(ob.cells.drop off).take m=ds)(hm:ds.length=m):aU P o σ fr (.agg ds) []:=by
 obtain⟨dsc,h1,h2⟩:=kT hu;exact aSA ho h1 h2 hi hx hk hc hm
theorem aTl{t e:TypeId}{s len:Nat}(st:Bool){zs:List Value}{parts:Array (Nat×Operand)}{ds:List (Nat×D)}{out:List D}{ts:List Tree}(hB:kM P t e s len zs)(ho:o.op = .buildSlice t len parts)(hp:nC σ parts.toList ds)
    (hf:Co ((fJ len).map λi=>(i*s,s)) (zs.map λu=>.t (.v u)) ds out) (hts:pP σ.H out ts):aU P o σ fr (.own fr) [(fr,some (.row e s len ts st))]:=aSE st hB ho hp hf.eq hts
theorem aRH{e:TypeId}{s n off:Nat}{ts xs:List Tree}{new:List D}(h:off+new.length<=ts.length)(hx:rB new=some xs):(aM.row e s n ts false).put off new=some (.row e s n (cO ts off xs) false):=by
 simp only[aM.put];rw[aE ⟨h,trivial⟩,hx];rfl
theorem str{t e:TypeId}{x y:Operand}{k off s n:Nat}{ts xs:List Tree}{d:D}(hy:Ah σ y d)(ho:o.op = .store t x y)(hi:(P.info? t).map (·.size)=some d.cells.length)(hx:σ.ev x=some (.ref k off))(hv:d.val=true)(hk:σ.H k=some (.row e s n ts false))
    (h:off+d.cells.length<=ts.length) (hxs:rB d.cells=some xs) (hpos:0<d.cells.length):aU P o σ fr (.aT []) [(k,some (.row e s n (cO ts off xs) false))]:=LB ho hi hx hy hv hk (aRH h hxs) hpos
theorem Rn{t:TypeId}{x:Operand}{ts:List Tree}{off:Nat}{tr:Tree}(hu:iX P t=some false)(ho:o.op = .load t x)(hx:σ.ev x=some (.ptr ts off))(hc:ts[off]?=some tr):aU P o σ fr (.t tr) []:=by
 obtain⟨dsc,h1,h2⟩:=kT hu;exact aRz ho h1 h2 hx hc
theorem lpn{t:TypeId}{x:Operand}{ts xs:List Tree}{off m:Nat}(hu:iX P t=some true)(hi:(P.info? t).map (·.size)=some m)(ho:o.op = .load t x)(hx:σ.ev x=some (.ptr ts off))(hc:(ts.drop off).take m=xs)(hm:xs.length=m):aU P o σ fr (.agg (xs.map .t)) []:=by
 obtain⟨dsc,h1,h2⟩:=kT hu;exact aRy ho h1 h2 hi hx hc hm
theorem oS{x:Operand}{d d':D}{W:Wr}(h:σ.ev x=some d)(k:σ.ev x=some d->aU P o σ fr d' W):aU P o σ fr d' W:=k h
theorem aC1{t:TypeId}{x y:Operand}{s n r:Nat}{ts:List Tree}(hs:lJ P t=some s)(ho:o.op = .indexAddr t x y)(hx:σ.ev x=some (.t (.sl n ts)))(hy:σ.ev y=some (I (r:Nat)))(hn:r<n):aU P o σ fr (.ptr ts (r*s)) []:=by
 have:=LD (P:=P) (fr:=fr) ho hs hx hy (by omega) (by omega)
 rwa [iT]at this
theorem SI{t:TypeId}{x y:Operand}{s n q r:Nat}{ts:List Tree}{e:TypeId}{st:Bool}{s':Nat}(hs:lJ P t=some s)(ho:o.op = .indexAddr t x y)(hx:σ.ev x=some (.own q))(hq:σ.H q=some (.row e s' n ts st))(hy:σ.ev y=some (I (r:Nat)))(hn:r<n):aU P o σ fr (.ref q (r*s)) []:=by
 have:=Ez (P:=P) (fr:=fr) ho hs hx hq hy (by omega) (by omega)
 rwa [iT]at this
theorem aS5{e:TypeId}{z:Value}(ho:o.op = .alloc e)(hz:(P.info? e).bind (·.zero)=some z)(h1:vQ z=true):aU P o σ fr (.ref fr 0) [(fr,some (.box e (pC z).cells))]:=by
 intro E σ₁ a w hT hH h100 hf hd hR Q;obtain⟨i,hi,hz'⟩:=jK.1 hz;have hb:aU P { o with op:=.box e (.const z) } σ fr (.ref fr 0) [(fr,some (.box e (pC z).cells))]:=aBg rfl (by simp[St.ev,h1]) (by cases z <;> first|rfl|cases h1);have h:=hb E σ₁ a w hT hH h100 hf hd hR Q;unfold Oper.wp at h ⊢;have he:(execOp a.eval o).run P w=(execOp a.eval { o with op:=.box e (.const z) }).run P w:=by
  unfold execOp;rw[ho];simp[Instr.alloc,Instr.box,zeroValue,typeInfo,hi,hz',Act.eval]
 rw[he];exact h
theorem MN(z:List Value)(hz:0<z.length):∀(len i:Nat),i<len*z.length->((dA len z).flatten)[i]?=z[i%z.length]?
 |0,i,h=>by omega
 |len+1,i,h=>by
   rw[pU,fR];by_cases hi:i<z.length
   .rw[cZ hi,Nat.mod_eq_of_lt hi]
   .rw[eE (by omega),MN z hz len (i-z.length) (by rw[iH,Nat.one_mul]at h;omega)]
    congr 1
    conv=>rhs;rw[show i=(i-z.length)+z.length by omega,Nat.add_mod_right]
theorem kM.of{t e:TypeId}{z:Value}{s bytes:Nat}(hT:kA P t e z s bytes)(h1:∀u∈z.cells.toList,u.oneCell'=true)(len:Nat)(hl:len*s<=2^24):kM P t e s len (dA len z.cells.toList).flatten:=by
 have hs:=hT.s;have hzl:z.cells.toList.length=s:=by rw[nK];exact hT.z
 have hlen:(dA len z.cells.toList).flatten.length=len*s:=by simp[hT.z]
 refine⟨hT.u,λu hu=>?_,hlen,?_,λw parts cells hf=>?_⟩
 .obtain⟨l,h2,h3⟩:=List.mem_flatten.1 hu
  rw[(List.mem_replicate.1 h2).2]at h3;exact h1 u h3
 .have:len<=len*s:=Nat.le_mul_of_pos_right _ hs
  unfold maxLen;omega
 .obtain⟨i,hi,hz,hsz,hby⟩:=info_parts hT.i
  by_cases h0:len=0
  .subst h0
   simp at hf;have h9:∀f:Nat->Value,Array.map f (aEC 0) = #[]:=λf=>by simp
   simp[Instr.buildSlice,run_underlying hT.u,sizeOf,typeInfo,hi,hsz,newRow,h9,hf]
  .refine run_buildSlice w t e len parts cells i z hT.u hi hz (by rw[hsz];omega) (by rw[hsz];exact Nat.mul_ne_zero h0 (by omega)) ?_
   rw[hsz];have:(aEC (len*s)).map (z.cells[· % z.cells.size]!)=(dA len z.cells.toList).flatten.toArray:=by
    apply Tw;intro j;by_cases hj:j<len*s
    .have hm:j%z.cells.size<z.cells.size:=Nat.mod_lt _ (by rw[hT.z];exact hs)
     have e1:((aEC (len*s)).map (z.cells[· % z.cells.size]!))[j]?=z.cells[j%z.cells.size]?:=by simp[hj,hm]
     have e2:=MN z.cells.toList (by rw[hzl];exact hs) len j (by rw[hzl];exact hj);rw[hzl,<-hT.z]at e2;rw[e1];simpa using e2.symm
    .rw[GC (by simp;omega),GC (by rw[List.size_toArray,hlen];omega)]
   rw[this];exact hf
end
theorem pJ{E:Env}{s s':St}(h:∀(a:Act)(w:World),R E s a.tmps w->R E s' a.tmps w):cV E s s':=λtm w hR=>h ⟨tm,[]⟩ w hR
theorem Lg{E:Env}{T:Nat->Option D}{H:Nat->Option aM}{N:Nat}(k:Nat){e:TypeId}{s n:Nat}{ts:List Tree}(hk:H k=some (.row e s n ts false)):
    cV E (mk T H N) (mk T (λj=>if k=j then some (.row e s n ts true)else H j) N):=by
 refine pJ λa w ⟨ν,G,I⟩=>⟨ν,λb=>if aQ (ν k)=some b then n*s else G b,?_⟩
 obtain⟨hn,xs,r1,r2,r3,r4⟩:=I.H k _ hk;have hcell:∀b i u,Cell w G b i u->Cell w (λb=>if aQ (ν k)=some b then n*s else G b) b i u:=λb i u hc=>by
  refine⟨hc.1,?_⟩;have h2:=hc.2;by_cases hb:aQ (ν k)=some b
  .have:=(r4 b hb).2
   rw[this]at h2;simp at h2
  .simp only[aC hb];exact h2
 refine⟨I.kept,λb i u hc=>hcell b i u (I.cS b i u hc),I.eL,λb hb hX=>?_,I.sz,λt d ht=>?_,λj o hj=>?_,λj1 o1 j2 o2 h1 h2 hne=>?_⟩
 .have hne:aQ (ν k)≠some b:=λe=>by
   rcases(r4 b e).1 with h|h
   .omega
   .exact hX h
  simp only[aC hne];exact I.g0 b hb hX
 .obtain⟨v,hv,hdv⟩:=I.T t d ht
  exact⟨v,hv,hdv.mono (λ_ h=>⟨h,rfl⟩) hcell⟩
 .by_cases hjk:k=j
  .subst hjk
   simp only[fH,gD]at hj;subst hj;exact⟨hn,xs,r1,r2,λi u t hu ht=>(r3 i u t hu ht).mono hcell,λg hg=>⟨(r4 g hg).1,by simp[hg]⟩⟩
  .simp only[aC hjk]at hj
   obtain⟨q1,q2⟩:=I.H j o hj;refine⟨q1,q2.mono q1 (λ_ h=>⟨h,rfl⟩) hcell (λg hg=>⟨rfl,aC (λe=>?_)⟩)⟩;exact I.cF j o k _ hj hk (λe=>hjk e.symm) g hg e
 .have back:∀j o,(if k=j then some (.row e s n ts true)else H j)=some o->∃o',H j=some o'/\∀g,bK w (ν j) o g->bK w (ν j) o' g:=λj o h=>by
   by_cases hj:k=j
   .subst hj;simp only[fH,gD]at h;subst h;exact⟨_,hk,λ_ h=>h⟩
   .rw[aC hj]at h;exact⟨o,h,λ_ h=>h⟩
  obtain⟨p1,hp1,f1⟩:=back j1 o1 h1;obtain⟨p2,hp2,f2⟩:=back j2 o2 h2;exact λg hg hg'=>I.cF j1 p1 j2 p2 hp1 hp2 hne g (f1 g hg) (f2 g hg')
theorem aDd{w:World}{G G':bQ}{e:TypeId}{s n:Nat}{v:Value}{ys:List Value}{ts:List Tree}(h:w.ownsRow 0 e s v n ys)(hl:ys.length=ts.length)(hx:∀b i u,Cell w G b i u->Cell w G' b i u)(ht:∀(i:Nat)(u:Value)(t:Tree),ys[i]?=some u->ts[i]?=some t->TR w G u t)
    (hG:∀g,aQ v=some g->n*s<=G' g):TR w G' v (.sl n ts):=Kh h hl (λi u t hu hd=>(ht i u t hu hd).mono hx) hG
theorem aV8{E:Env}{T:Nat->Option D}{H:Nat->Option aM}{N:Nat}(k:Nat){e e':TypeId}{s:Nat}{ls:List (Nat×List Tree)}(hk:H k=some (.nest e e' s ls)):
    cV E (mk T H N) (mk T (λj=>if k=j then some (.row e 1 ls.length (ls.map λp=>.sl p.1 p.2) true)else H j) N):=by
 refine pJ λa w ⟨ν,G,I⟩=>?_
 obtain⟨hn,hob⟩:=I.H k _ hk;obtain⟨xs,r1,r2,r3,r4,r5⟩:=id hob;have hxl:xs.length=ls.length:=by rw[r1.1,jL]
 -- the inner rows' blocks
 let G':bQ:=λb=>open Classical in if h:∃(i:Nat)(x:Value)(p:Nat×List Tree),xs[i]?=some x/\ls[i]?=some p/\aQ x=some b then(h.choose_spec.choose_spec.choose).1*s else G b
 have hG1:∀(i:Nat)(x:Value)(p:Nat×List Tree)(b:Nat),xs[i]?=some x->ls[i]?=some p->aQ x=some b->G' b=p.1*s:=λi x p b hx hp hb=>by
  have h:∃(i:Nat)(x:Value)(p:Nat×List Tree),xs[i]?=some x/\ls[i]?=some p/\aQ x=some b:=⟨i,x,p,hx,hp,hb⟩
  obtain⟨q1,q2,q3⟩:=h.choose_spec.choose_spec.choose_spec;have:h.choose=i:=by
   by_cases e:h.choose=i
   .exact e
   .exact absurd hb (r3 _ _ _ _ e q1 hx b q3)
  simp only[G',dif_pos h];have q2':ls[i]?=some h.choose_spec.choose_spec.choose:=by rw[<-this];exact q2
  rw[hp]at q2';rw[<-eX q2']
 have hG0:∀b,(∀(i:Nat)(x:Value)(p:Nat×List Tree),xs[i]?=some x->ls[i]?=some p->aQ x≠some b)->G' b=G b:=λb hb=>by
  simp only[G'];rw[dif_neg];rintro⟨i,x,p,h1,h2,h3⟩;exact hb i x p h1 h2 h3
 have hin:∀(i:Nat)(x:Value)(p:Nat×List Tree)(b:Nat),xs[i]?=some x->ls[i]?=some p->aQ x=some b->bK w (ν k) (.nest e e' s ls) b:=λi x p b hx hp hb=>by
  have hi:=(bP.1 hp).1;rcases r1.2 with⟨_,h0⟩|⟨g0,cap,cur,hv,_⟩
  .omega
  .exact .inr ⟨g0,i,x,by rw[hv];rfl,hi,by rw[tF r1 (by rw[hv];rfl) hi];exact hx,hb⟩
 have hcell:∀b i u,Cell w G b i u->Cell w G' b i u:=λb i u hc=>by
  refine⟨hc.1,?_⟩;by_cases hb:∃(i:Nat)(x:Value)(p:Nat×List Tree),xs[i]?=some x/\ls[i]?=some p/\aQ x=some b
  .obtain⟨j,x,p,h1,h2,h3⟩:=hb
   obtain⟨_,_,_,_,y4⟩:=r2 j x p h1 h2;have:=hc.2;rw[(y4 b h3).2]at this;omega
  .rw[hG0 b (λj x p h1 h2 h3=>hb ⟨j,x,p,h1,h2,h3⟩)];exact hc.2
 refine⟨ν,G',I.kept,λb i u hc=>hcell b i u (I.cS b i u hc),I.eL,λb hb hX=>?_,I.sz,λt d ht=>?_,λj o hj=>?_,λj1 o1 j2 o2 h1 h2 hne=>?_⟩
 .rw[hG0 b (λj x p h1 h2 h3=>?_)]
  .exact I.g0 b hb hX
  .rcases(hob.ft (hin j x p b h1 h2 h3)).2 with h|h
   .omega
   .exact hX h
 .obtain⟨v,hv,hdv⟩:=I.T t d ht
  exact⟨v,hv,hdv.mono (λ_ h=>⟨h,rfl⟩) hcell⟩
 .by_cases hjk:k=j
  .subst hjk
   simp only[fH,gD]at hj;subst hj;refine⟨hn,xs,r1,by simp[hxl],λi u t hu ht=>?_,λg hg=>⟨(r5 g hg).1,?_⟩⟩
   .rw[cD]at ht
    obtain⟨p,hp,rfl⟩:=b9.1 ht;obtain⟨ys,y1,y2,y3,y4⟩:=r2 i u p hu hp;exact aDd y1 y2 hcell y3 λg hg=>by rw[hG1 i u p g hu hp hg];exact bX _
   .rw[hG0 g (λj x p h1 h2 h3=>r4 j x h1 g h3 hg),(r5 g hg).2]
    simp
  .simp only[aC hjk]at hj
   obtain⟨q1,q2⟩:=I.H j o hj;refine⟨q1,q2.mono q1 (λ_ h=>⟨h,rfl⟩) hcell (λg hg=>⟨rfl,hG0 g (λi x p h1 h2 h3=>?_)⟩)⟩;exact I.cF j o k _ hj hk (λe=>hjk e.symm) g hg (hin i x p g h1 h2 h3)
 .have back:∀j o,(if k=j then some (.row e 1 ls.length (ls.map λp=>.sl p.1 p.2) true)else H j)=some o->∃o',H j=some o'/\∀g,bK w (ν j) o g->bK w (ν j) o' g:=λj o h=>by
   by_cases hj:k=j
   .subst hj;simp only[fH,gD]at h;subst h;exact⟨_,hk,λ_ h=>.inl h⟩
   .rw[aC hj]at h;exact⟨o,h,λ_ h=>h⟩
  obtain⟨p1,hp1,f1⟩:=back j1 o1 h1;obtain⟨p2,hp2,f2⟩:=back j2 o2 h2;exact λg hg hg'=>I.cF j1 p1 j2 p2 hp1 hp2 hne g (f1 g hg) (f2 g hg')
inductive nJ:aM->Prop
 |row {e:TypeId} {s:Nat} {st:Bool}:nJ (.row e s 0 [] st)
 |nest {e e':TypeId} {s:Nat}:nJ (.nest e e' s [])
 |bI {e e':TypeId} {m s:Nat}:nJ (.bI e e' m s 0 [])
theorem nJ.ok{o:aM}(h:nJ o){E:Env}{ν:Nat->Value}{nm:Nat->Bool}{w:World}{G:bQ}{k:Nat}(hk:ν k = .slice none 0 0):eR E ν nm w G k o:=by
 cases h with
 |row=>exact⟨[],by rw[hk];exact World.ownsRow_nil w 0 _ _,rfl,λi u t h=>by simp at h,λg hg=>by rw[hk]at hg;cases hg⟩
 |nest=>exact⟨[],by rw[hk];exact World.ownsRow_nil w 0 _ _,λi x p h=>by simp at h,λi j x y _ h=>by simp at h,λi x h=>by simp at h,λg hg=>by rw[hk]at hg;cases hg⟩
 |bI=>exact⟨[],by rw[hk];exact World.ownsRow_nil w 0 _ _,rfl,λi x d h=>by simp at h,λi x q ts h=>by simp at h,λi j x y q q' ts ts' _ h=>by simp at h,λi x q ts h=>by simp at h,λg hg=>by rw[hk]at hg;cases hg⟩
theorem nJ.bK{o:aM}(h:nJ o){w:World}{g:Nat}:¬ Ab.bK w (.slice none 0 0) o g:=by
 cases h with
 |row=>intro h;cases h
 |nest=>
   rintro(h|⟨_,_,_,h,_⟩)
   .cases h
   .cases h
 |bI=>
   rintro(h|⟨_,_,_,_,_,h,_⟩)
   .cases h
   .cases h
theorem aVb{E:Env}{T:Nat->Option D}{H:Nat->Option aM}{N:Nat}(t:Nat){o:aM}(ho:nJ o)(ht:T t=some (.t (.v (.slice none 0 0))))(hN:100<=N):
    cV E (mk T H N) (mk (λx=>if t=x then some (.own N)else T x) (λk=>if N=k then some o else H k) (N+8)):=by
 refine pJ λa w ⟨ν,G,I⟩=>?_
 obtain⟨v,hv,hdv⟩:=I.T t _ ht;have hv':=bY hdv;subst hv';have htm:t<E.m:=by rw[<-I.sz];exact(eF.1 hv).1
 have hI:=I.CW (a:=a) (fr:=N) (dst:=some t) (W:=[(N,some o)]) hN (λk hk _=>by simp;exact hk) (λt' h=>by cases h;exact htm) [] (λk=>by
  by_cases h:k=N
  .subst h;simp[look]
  .simp[look,h,dW h]) rfl rfl rfl (bX _) (λ_ _ _=>⟨rfl,rfl⟩) (λ_ _ _ h=>h) (x:=.slice none 0 0) (λg hg=>absurd hg ho.bK) (ho.ok bT) (v:=.slice none 0 0) (d:=.own N) (by
   have:DR (bU ν N (.slice none 0 0)) ((mk T H N).aN (some t) .any [(N,some o)] N).nm w G (bU ν N (.slice none 0 0) N) (.own N):=.own (jH ..) (by rw[bT];rfl);rw[bT]at this;exact this)
 have he:(a.put (some t) (.slice none 0 0)).tmps=a.tmps:=by
  apply Tw;intro i;simp only[Act.put];by_cases hi:t=i
  .subst hi
   rw[hv,Array.getElem?_setIfInBounds];simp[(eF.1 hv).1]
  .rw[nL hi]
 rw[he]at hI;have hR:R E ((mk T H N).aN (some t) (.own N) [(N,some o)] N) a.tmps w:=⟨_,_,hI⟩;have hb:=hR.bound (N:=N+8) (λk hk=>by simp[St.aN];omega);have e1:((mk T H N).aN (some t) (.own N) [(N,some o)] N).T=λx=>if t=x then some (.own N)else T x:=by
  funext x
  simp[St.aN]
 have e2:((mk T H N).aN (some t) (.own N) [(N,some o)] N).H=λk=>if N=k then some o else H k:=by
  funext k
  simp only[St.aN,look];by_cases hk:N=k <;> simp[hk]
 rw[e1,e2]at hb;exact hb
theorem aVR{α:Type}{f:α->List Tree}{s:Nat}(h:∀x,(f x).length=s)(l:List α):(l.flatMap f).length=l.length*s:=by
 induction l with
 |nil=>simp
 |cons a l ih=>rw[fS,bF,h,ih,dK,iH];omega
theorem flat_get{α:Type}{f:α->List Tree}{s:Nat}(h:∀x,(f x).length=s){l:List α}:∀{i:Nat}{x:α},l[i]?=some x->∀j,j<s->(l.flatMap f)[i*s+j]?=(f x)[j]?:=by
 induction l with
 |nil=>intro i x h;simp at h
 |cons a l ih=>
   intro i x hx j hj;rw[fS];cases i with
   |zero=>simp at hx;subst hx;rw[pT,cY,cZ (by rw[h];exact hj)]
   |succ i=>
     rw[eE (by rw[h,iH];omega),h,show(i+1)*s+j-s=i*s+j by rw[iH];omega];exact ih (by simpa using hx) j hj
end Go.Ab
/- The abstract machine: rows that are made. -/
namespace Go.Ab
open Go.RowKit
inductive iG:List Value->List Tree->Prop
 |nil:iG [] []
 |v {x:Value} {l:List Value} {ts:List Tree} (h:x.oneCell'=true) (r:iG l ts):iG (x::l) (.v x::ts)
 |sl {l:List Value} {ts:List Tree} (r:iG l ts):iG (.slice none 0 0::l) (.sl 0 []::ts)
theorem iG.append{l l':List Value}{ts ts':List Tree}(h:iG l ts)(h':iG l' ts'):iG (l++l') (ts++ts'):=by
 induction h with
 |nil=>exact h'
 |v h r ih=>exact .v h ih
 |sl r ih=>exact .sl ih
theorem iG.El{l:List Value}{ts:List Tree}(h:iG l ts):∀n,iG (dA n l).flatten (dA n ts).flatten
 |0=>.nil
 |n+1=>by rw[pU,pU,fR,fR];exact h.append (h.El n)
theorem iG.rel{l:List Value}{ts:List Tree}(h:iG l ts)(w:World)(G:bQ):l.length=ts.length/\∀(i:Nat)(u:Value)(t:Tree),l[i]?=some u->ts[i]?=some t->TR w G u t:=by
 induction h with
 |nil=>exact⟨rfl,λi u t h=>by simp at h⟩
 |v h r ih=>
   refine⟨by simp[ih.1],λi u t hu ht=>?_⟩;cases i with
   |zero=>simp at hu ht;subst hu ht;exact .v _ h
   |succ i=>exact ih.2 i u t (by simpa using hu) (by simpa using ht)
 |sl r ih=>
   refine⟨by simp[ih.1],λi u t hu ht=>?_⟩;cases i with
   |zero=>simp at hu ht;subst hu ht;exact .nil (λ_=>rfl)
   |succ i=>exact ih.2 i u t (by simpa using hu) (by simpa using ht)
theorem Rm{z:Value}{s:Nat}(hz:z.cells.size=s)(hs:0<s)(n:Nat):(madeCells z.cells (n*s)).toList=(dA n z.cells.toList).flatten:=by
 apply Ae;intro j;have hzl:z.cells.toList.length=s:=by rw[nK];exact hz
 by_cases hj:j<n*s
 .have hm:j%z.cells.size<z.cells.size:=Nat.mod_lt _ (by rw[hz];exact hs)
  have e2:=MN z.cells.toList (by rw[hzl];exact hs) n j (by rw[hzl];exact hj);rw[e2,hzl,<-hz];simp only[madeCells,Tv,Array.toList_range,cD,MG,hz,hj,jE];rw[hz]at hm;rw[Array.getElem?_toList];rw[getElem!_pos _ _ (by rw[hz];exact hm),iM (by rw[hz];exact hm)]
 .rw[rI (by rw[nK,size_madeCells];omega),rI (by simp[hz];omega)]
section
variable{P:Program}{o:Oper}{σ:St}{fr:Nat}
theorem aRx{t e:TypeId}{z:Value}{s bytes:Nat}(st:Bool){l c:Operand}{n:Nat}{zt:List Tree}(hT:kA P t e z s bytes)(hz:iG z.cells.toList zt)(ho:o.op = .makeSlice t l c)(hl:σ.ev l=some (I n))(hc:σ.ev c=some (I n))
    (hb:bytes*n<=281474976710656/\n<=maxLen):aU P o σ fr (.own fr) [(fr,some (.row e s n (dA n zt).flatten st))]:=by
 intro E σ₁ a w hTT hHH h100 hf hd ⟨ν,G,I⟩ Q;obtain⟨i,hi,hz',h2,h3⟩:=info_parts hT.i;have hlv:=bY (I.ev (St.cP hTT hl));have hcv:=bY (I.ev (St.cP hTT hc));obtain⟨w',hr,r1,r2⟩:=run_make_full (P:=P) w 0 t e i z s hT.u hi hz' h2 .i64 .i64 n (by rw[h3];exact hb.1) hb.2 (dC _);have hB:(i.bytes:Int)*(n:Int)<=281474976710656:=by
  have h:((i.bytes*n:Nat):Int)<=281474976710656:=by rw[h3];omega
  rwa [Int.natCast_mul]at h
 have hr2:=run_make (P:=P) w t e i z hT.u hi hz' .i64 .i64 n n (by omega) (Int.le_refl _) hB (by have:=hb.2;simp only[maxLen]at this;omega);simp only[iT]at hr2;rw[hr]at hr2;have hw:w'=w.alloc (.cells (madeCells z.cells (n*i.size)) e):=by injection hr2
 have hA:bB w w':=hw ▸ (bB.refl w).alloc _;have hG:∀b,b<w.heap.size->(λb=>if b=w.heap.size then(if st then n*s else 0)else G b) b=G b:=λb hb=>aC (by omega)
 have he:(execOp a.eval o).run P w = .ok (.value (.slice (some ⟨w.heap.size,0,none⟩) n n)) w':=by
  unfold execOp;rw[ho];simp[hlv,hcv,hr]
 unfold Oper.wp;rw[he,Oper.upon_value];have hzr:=(hz.El n).rel w' (λb=>if b=w.heap.size then(if st then n*s else 0)else G b);rw[<-Rm hT.z hT.s]at hzr;refine⟨put_defers ..,_,_,I.fresh (G':=λb=>if b=w.heap.size then(if st then n*s else 0)else G b) h100 hf hd hA hG (x:=.slice (some ⟨w.heap.size,0,none⟩) n n) (λg hg=>by cases hg;exact bX _) ?_ ?_⟩
 .refine⟨_,by rw[bT];exact r1,hzr.1,hzr.2,λg hg=>?_⟩
  rw[bT]at hg;cases hg;exact⟨.inl I.kept.size,aE rfl⟩
 .have:DR (bU ν fr (.slice (some ⟨w.heap.size,0,none⟩) n n)) (σ₁.aN o.dst .any [(fr,some (.row e s n (dA n zt).flatten st))] fr).nm w' (λb=>if b=w.heap.size then(if st then n*s else 0)else G b) (bU ν fr (.slice (some ⟨w.heap.size,0,none⟩) n n) fr) (.own fr):=.own (jH ..) (by rw[bT];rfl)
  rw[bT]at this;exact this
end
inductive RV (P:Program) (σ:St):ResultVar->D->Prop
 |tmp {t:Tmp} {d:D} (h:σ.T t=some d):RV P σ (.tmp t) d
 |row {p:Tmp} {t:TypeId} {k m:Nat} {e:TypeId} {ds:List D} (hp:σ.T p=some (.ref k 0)) (hk:σ.H k=some (.box e ds)) (hu:iX P t=some true) (hi:(P.info? t).map (·.size)=some m) (hm:ds.length=m):RV P σ (.cell p t) (.agg ds)
 |one {p:Tmp} {t:TypeId} {k:Nat} {e:TypeId} {d:D} (hp:σ.T p=some (.ref k 0)) (hk:σ.H k=some (.box e [d])) (hu:iX P t=some false):RV P σ (.cell p t) d
def Eh(tm:Array Value):ResultVar->Sem Value
 |.tmp t=>pure (tm.getD t undef)
 |.cell a t=>do loadVar t (<-asAddr (tm.getD a undef))
theorem RV.run{P:Program}{σ:St}{rv:ResultVar}{d:D}(h:RV P σ rv d){E:Env}{ν:Nat->Value}{G:bQ}{w:World}{tm:Array Value}(I:Inv E σ ν G w tm):∃v,(Eh tm rv).run P w = .ok v w/\DR ν σ.nm w G v d:=by
 have get:∀p d,σ.T p=some d->DR ν σ.nm w G (tm.getD p undef) d:=λp d hp=>by
  obtain⟨v,hv,hd⟩:=I.T p d hp;have:tm.getD p undef=v:=by simp[Array.getD_eq_getD_getElem?,hv]
  rw[this];exact hd
 cases h with
 |tmp h=>exact⟨_,rfl,get _ _ h⟩
 | @row p t k m e ds hp hk hu hi hm=>
   obtain⟨g,hg,hv,_⟩:=nZ (get _ _ hp);obtain⟨dsc,h1,h2⟩:=kT hu;have hob:=(I.H k _ hk).2;have hall:∀i,i<m->∃u,w.cell? ⟨g,0+i,none⟩=some u/\∀d,ds[i]?=some d->DR ν σ.nm w G u d/\u.oneCell'=true:=λi h=>by
    have hd:ds[i]?=some ds[i]:=bM (by omega);obtain⟨g',u,hg',hcu,hdu,h1⟩:=hob.cell (o:=.box e ds) hd;rw[hg]at hg';cases hg';exact⟨u,by rw[cY];exact hcu,λd h=>by rw[hd]at h;cases h;exact⟨hdu,h1⟩⟩
   let cs:List Value:=(fJ m).map λi=>(w.cell? ⟨g,0+i,none⟩).getD undef
   have hcs:∀i u,cs[i]?=some u->i<m/\w.cell? ⟨g,0+i,none⟩=some u:=λi u h=>by
    have hi:i<m:=by simpa[cs]using(bP.1 h).1
    obtain⟨u',h',_⟩:=hall i hi;have h2:cs[i]?=some u':=by
     show((fJ m).map λi=>(w.cell? ⟨g,0+i,none⟩).getD undef)[i]?=some u';rw[cD,MG hi];simp only[jE,h',Option.getD_some]
    rw[h2]at h;cases h;exact⟨hi,h'⟩
   refine⟨.agg cs.toArray,?_,.agg (by simp[cs,hm]) (λi u d h h'=>?_) (λu h=>?_)⟩
   .simp only[Eh,hv,asAddr,Sem.run_bind,Sem.run_pure,Result.andThen_ok]
    exact run_loadVar_mid w g 0 t cs dsc (λj v h=>(hcs j v h).2) h1 h2 (by rw[hi];simp[cs])
   .obtain⟨hi,hcu⟩:=hcs i u (by simpa using h)
    obtain⟨u',h1,h2⟩:=hall i hi;rw[hcu]at h1;cases h1;exact(h2 d h').1
   .obtain⟨i,hiu⟩:=gK.1 (by simpa using h:u∈cs)
    obtain⟨hi,hcu⟩:=hcs i u hiu;obtain⟨u',h1,h2⟩:=hall i hi;rw[hcu]at h1;cases h1;exact(h2 _ (bM (by omega))).2
 | @one p t k e d hp hk hu=>
   obtain⟨g,hg,hv,_⟩:=nZ (get _ _ hp);obtain⟨dsc,h1,h2⟩:=kT hu;obtain⟨g',u,hg',hcu,hdu,_⟩:=(I.H k _ hk).2.cell (o:=.box e [d]) (i:=0) rfl;rw[hg]at hg';cases hg';refine⟨u,?_,hdu⟩;have h:=CH h1 h2 hcu;simp only[Instr.loadAt,Instr.sureAddr,Sem.run_bind,Sem.run_pure,Result.andThen_ok]at h;simp only[Eh,hv,asAddr,Sem.run_bind,Sem.run_pure,Result.andThen_ok];exact h
theorem RV.all{P:Program}{σ:St}{rv:ResultVar}{d:D}(h:RV P σ rv d){E:Env}{w:World}{tm:Array Value}(hR:R E σ tm w):∃v,(Eh tm rv).run P w = .ok v w/\∀ν G,Inv E σ ν G w tm->DR ν σ.nm w G v d:=by
 obtain⟨ν,G,I⟩:=hR;obtain⟨v,hv,_⟩:=h.run I;refine⟨v,hv,λν' G' I'=>?_⟩;obtain⟨v',hv',hd'⟩:=h.run I';rw[hv]at hv';cases hv';exact hd'
theorem CM(fn:Func)(tm:Array Value):results fn tm=(do
    let vs <-fn.results.mapM (Eh tm)
    pure (if h:vs.size=1 then vs[0]else .tuple vs)):=by
 unfold results
 congr 1
abbrev aXi(rn:List (Nat×Nat))(H':List (Nat×aM)):Prop:=(rn.all (λp=>decide (p.1<50)||decide (100<=p.1))&&decide ((H'.map λp=>bC rn p.1).Nodup)&&H'.all (λp=>decide (p.1<108)))=true
section
variable{P:Program}{fn:Func}{E:Env}{σ:St}{r:D}{H':List (Nat×aM)}
theorem aA8{ν:Nat->Value}{nm:Nat->Bool}{w:World}{G:bQ}{v1 v2:Value}{d1 d2:D}(h1:DR ν nm w G v1 d1)(h2:DR ν nm w G v2 d2):DR ν nm w G (.tuple #[v1,v2]) (.aT [d1,d2]):=.aT rfl λi u d hu hd=>by
 match i with
 |0=>simp at hu hd;subst hu hd;exact h1
 |1=>simp at hu hd;subst hu hd;exact h2
 |i+2=>simp at hu
theorem aQI{ν:Nat->Value}{nm:Nat->Bool}{w:World}{G:bQ}{v1 v2 v3:Value}{d1 d2 d3:D}(h1:DR ν nm w G v1 d1)(h2:DR ν nm w G v2 d2)(h3:DR ν nm w G v3 d3):DR ν nm w G (.tuple #[v1,v2,v3]) (.aT [d1,d2,d3]):=.aT rfl λi u d hu hd=>by
 match i with
 |0=>simp at hu hd;subst hu hd;exact h1
 |1=>simp at hu hd;subst hu hd;exact h2
 |2=>simp at hu hd;subst hu hd;exact h3
 |i+3=>simp at hu
end
theorem aVc{E:Env}{T:Nat->Option D}{H:Nat->Option aM}{N:Nat}(k i:Nat){o0:aM}(h0:nJ o0){e':TypeId}{ds:List D}(hk:H k=some (.box e' ds))(hi:ds[i]?=some (.t (.v (.slice none 0 0))))(hN:100<=N):
    cV E (mk T H N) (mk T (λj=>if N=j then some o0 else if k=j then some (.box e' (ds.set i (.own N)))else H j) (N+8)):=by
 refine pJ λa w ⟨ν,G,I⟩=>?_
 have lt:∀j,(mk T H N).nm j=true->j<N:=λj hj=>by simpa using hj
 have ne:∀j,(mk T H N).nm j=true->bU ν N (.slice none 0 0) j=ν j:=λj hj=>lE (by have:=lt j hj;omega)
 have hn:∀j,(mk T H N).nm j=true->decide (j<N+8)=true/\bU ν N (.slice none 0 0) j=ν j:=λj hj=>⟨by have:=lt j hj;simp;omega,ne j hj⟩
 have old:∀j o,H j=some o->j<N:=λj o hj=>lt j (I.H j o hj).1
 have back:∀j o,(if N=j then some o0 else if k=j then some (.box e' (ds.set i (.own N)))else H j)=some o->j=N\/(j<N/\∃o',H j=some o'):=λj o h=>by
  by_cases h1:N=j
  .exact .inl h1.symm
  .rw[aC h1]at h
   by_cases h2:k=j
   .subst h2;exact .inr ⟨old _ _ hk,_,hk⟩
   .rw[aC h2]at h;exact .inr ⟨old _ _ h,_,h⟩
 refine⟨bU ν N (.slice none 0 0),G,I.kept,I.cS,λj h1 h2=>?_,I.g0,I.sz,λt d ht=>?_,λj o hj=>?_,λj1 o1 j2 o2 h1 h2 hne g hg=>?_⟩
 .rw[lE (by omega)];exact I.eL j h1 h2
 .obtain⟨v,hv,hdv⟩:=I.T t d ht
  exact⟨v,hv,hdv.mono hn (λ_ _ _ h=>h)⟩
 .rcases back j o hj with rfl|⟨hlt,o',ho'⟩
  .simp only[fH,gD]at hj
   subst hj;exact⟨by simp,h0.ok bT⟩
  .obtain⟨q1,q2⟩:=I.H j o' ho'
   have q3:=q2.mono (ν':=bU ν N (.slice none 0 0)) (nm':=λj=>decide (j<N+8)) q1 hn (λ_ _ _ h=>h) (λg _=>⟨rfl,rfl⟩);refine⟨by simp;omega,?_⟩;simp only[aC (show ¬ N=j by omega)]at hj;by_cases h2:k=j
   .subst h2
    rw[aE rfl]at hj;rw[hk]at ho';cases ho';cases hj;obtain⟨g,cur,z1,z2,z3,z4,z5,z6⟩:=q3;refine⟨g,cur,z1,z2,z3,z4,by rw[iI];exact z5,λm u d hu hd=>?_⟩;by_cases hm:i=m
    .subst hm
     have hlt2:i<ds.length:=(bP.1 hi).1;rw[l8 hlt2]at hd;cases hd;obtain⟨y1,y2⟩:=z6 i u _ hu hi;have:=bY y1;subst this;refine⟨?_,y2⟩;have hown:DR (bU ν N (.slice none 0 0)) (λj=>decide (j<N+8)) w G (bU ν N (.slice none 0 0) N) (.own N):=.own (by simp) (by rw[bT];rfl);rw[bT]at hown;exact hown
    .rw[nH hm]at hd
     exact z6 m u d hu hd
   .rw[aC h2]at hj
    rw[hj]at ho';cases ho';exact q3
 .have fb:∀j o,j<N->(if N=j then some o0 else if k=j then some (.box e' (ds.set i (.own N)))else H j)=some o->∃o',H j=some o'/\∀g,bK w (ν j) o g->bK w (ν j) o' g:=λj o hlt h=>by
   rw[aC (by omega)]at h;by_cases h2:k=j
   .subst h2;rw[aE rfl]at h;cases h;exact⟨_,hk,λ_ h=>h⟩
   .rw[aC h2]at h;exact⟨o,h,λ_ h=>h⟩
  rcases back j1 o1 h1 with rfl|⟨l1,p1,hp1⟩
  .rw[bT]at hg
   simp only[fH,gD]at h1;subst h1;exact absurd hg h0.bK
  .rcases back j2 o2 h2 with rfl|⟨l2,p2,hp2⟩
   .rw[bT]
    simp only[fH,gD]at h2;subst h2;exact h0.bK
   .rw[lE (by omega)]at hg ⊢
    obtain⟨y1,z1,f1⟩:=fb j1 o1 l1 h1;obtain⟨y2,z2,f2⟩:=fb j2 o2 l2 h2;exact λhg'=>I.cF j1 y1 j2 y2 z1 z2 hne g (f1 g hg) (f2 g hg')
theorem aCe{α:Type}{f:α->List Tree}{s:Nat}(h:∀x,(f x).length=s){x:α}:∀{l:List α}{i:Nat},i<l.length->cO (l.flatMap f) (i*s) (f x)=(l.set i x).flatMap f
 |[],i,hi=>by simp at hi
 |y::l,0,_=>by
   simp only[cO,pT,List.take_zero,fK,cY,List.set_cons_zero,fS,h x];rw[List.drop_append_of_le_length (by rw[h];exact bX _),fD (by rw[h];exact bX _),fK]
 |y::l,i+1,hi=>by
   have ih:=aCe h (x:=x) (l:=l) (i:=i) (by simpa using hi);rw[List.set_cons_succ,fS,fS,<-ih];have e1:(i+1)*s=s+i*s:=by rw[iH];omega
   simp only[cO,e1];rw[h x,List.take_append,List.drop_append,h y,iS (by rw[h];omega),fD (by rw[h];omega),fK,Nat.add_sub_cancel_left,show s+i*s+s-s=i*s+s by omega,fT,fT,fT]
end Go.Ab
/- The abstract machine: rows of rows of the walk's own, whose cells may be stored into. -/
namespace Go.Ab
open Go.RowKit
theorem aC2{E:Env}{nm:Nat->Bool}{w:World}{G:bQ}{e':TypeId}{s n:Nat}{x:Value}{ys:List Value}{ts:List Tree}(y1:w.ownsRow 0 e' s x n ys)(y2:ys.length=ts.length)
    (y3:∀(i:Nat)(u:Value)(t:Tree),ys[i]?=some u->ts[i]?=some t->TR w G u t) (y4:∀g,aQ x=some g->E.may g/\G g=0):eR E (λ_=>x) nm w G 0 (.row e' s n ts false):=
 ⟨ys,y1,y2,y3,λg hg=>by simpa using y4 g hg⟩
theorem LM{E:Env}{ν:Nat->Value}{nm:Nat->Bool}{w:World}{G:bQ}{k:Nat}{e e':TypeId}{s:Nat}{ls:List (Nat×List Tree)}(h:eR E ν nm w G k (.nest e e' s ls)){i:Nat}{p:Nat×List Tree}(hp:ls[i]?=some p):
    ∃g x ys,aQ (ν k)=some g/\Cell w G g i x/\w.ownsRow 0 e' s x p.1 ys/\ys.length=p.2.length/\(∀(i:Nat)(u:Value)(t:Tree),ys[i]?=some u->p.2[i]?=some t->TR w G u t)/\∀g,aQ x=some g->E.may g/\G g=0:=by
 obtain⟨xs,r1,r2,r3,r4,r5⟩:=h;have hi:i<ls.length:=(bP.1 hp).1;have hxl:xs.length=ls.length:=by rw[r1.1,jL]
 have hx:xs[i]?=some xs[i]:=bM (by omega);obtain⟨ys,y1,y2,y3,y4⟩:=r2 i _ p hx hp;rcases r1.2 with⟨_,h0⟩|⟨g0,cap,cur,hv,_⟩
 .omega
 .have hg:aQ (ν k)=some g0:=by rw[hv];rfl
  exact⟨g0,xs[i],ys,hg,⟨by rw[tF r1 hg hi];exact hx,by rw[(r5 g0 hg).2];exact hi⟩,y1,y2,y3,y4⟩
theorem aAg{ν:Nat->Value}{nm:Nat->Bool}{w:World}{G:bQ}{v:Value}{k i:Nat}(h:DR ν nm w G v (.sub k i)):∃g,aQ (ν k)=some g/\Cell w G g i v/\nm k=true:=by
 cases h with|sub hk hg hc h1=>exact⟨_,hg,hc,hk⟩
theorem aAo{ν:Nat->Value}{nm:Nat->Bool}{w:World}{G:bQ}{v:Value}{k i j:Nat}(h:DR ν nm w G v (.gM k i j)):∃g g' n c,aQ (ν k)=some g/\Cell w G g i (.slice (some ⟨g',0,none⟩) n c)/\v = .pointer (some ⟨g',j,none⟩)/\nm k=true:=by
 cases h with|gM hk hg hc=>exact⟨_,_,_,_,hg,hc,rfl,hk⟩
theorem Sy{w:World}{G:bQ}{b i:Nat}{u v:Value}(h:Cell w G b i u)(h':Cell w G b i v):u=v:=by
 have h1:=h.1;have h2:=h'.1;rw[h1]at h2;exact eX h2
section
variable{P:Program}{o:Oper}{σ:St}{fr:Nat}
theorem aSP{t:TypeId}{x y:Operand}{q:Nat}{e e':TypeId}{s:Nat}{ls:List (Nat×List Tree)}{k:IntKind}{j:Int}(hs:lJ P t=some 1)(ho:o.op = .indexAddr t x y)(hx:σ.ev x=some (.own q))(hq:σ.H q=some (.nest e e' s ls))(hy:σ.ev y=some (.t (.v (.int k j))))(h0:0<=j)(hn:j<ls.length):
    aU P o σ fr (.ref q j.toNat) []:=
 c7 λE σ₁ ν G w a hH I hev=>by
  have hv:=hev x _ hx;have hj:=bY (hev y _ hy);obtain⟨v,he⟩:∃v,a.eval x=v:=⟨_,rfl⟩
  rw[he]at hv;cases hv with
  |own hk h1=>
    obtain⟨xs,r1,_⟩:=(I.H q _ (hH q _ hq)).2;rcases r1.2 with⟨_,hz⟩|⟨g,cap,cur,hvv,_⟩
    .omega
    .refine⟨.pointer (some ⟨g,j.toNat,none⟩),?_,.ref hk (by rw[hvv];rfl)⟩
     unfold execOp;rw[ho];have:=Ei hs w g 0 ls.length cap k j h0 hn;rw[jL,cY]at this;simp[he,hj,hvv,this]
theorem aSK{t:TypeId}{x:Operand}{k i:Nat}{e e':TypeId}{s:Nat}{ls:List (Nat×List Tree)}{p:Nat×List Tree}(hu:iX P t=some false)(ho:o.op = .load t x)(hx:σ.ev x=some (.ref k i))(hk:σ.H k=some (.nest e e' s ls))(hp:ls[i]?=some p):aU P o σ fr (.sub k i) []:=
 c7 λE σ₁ ν G w a hH I hev=>by
  obtain⟨dsc,h1,h2⟩:=kT hu;obtain⟨g,hg,hv,hnm⟩:=nZ (hev x _ hx);obtain⟨g',u,ys,hg',hc,y1,_⟩:=LM (I.H k _ (hH k _ hk)).2 hp;rw[hg]at hg';cases hg';refine⟨u,?_,.sub hnm hg hc (kV y1)⟩;unfold execOp;rw[ho];simp[hv,CH h1 h2 hc.1]
theorem aSI{t:TypeId}{x:Operand}{q:Nat}{e e':TypeId}{s:Nat}{ls:List (Nat×List Tree)}{tys:Array TypeId}{el:TypeId}(hu:P.underlying t=some (.slice el))(ho:o.op = .call { callee:=.builtin .len,args:=#[x],argTypes:=tys })(hty:tys = #[t])(hx:σ.ev x=some (.own q))(hq:σ.H q=some (.nest e e' s ls)):aU P o σ fr (I ls.length) []:=by
 intro E σ₁ a w hT hH h100 hf hd ⟨ν,G,I⟩ Q;have hv:=I.ev (St.cP hT hx);obtain⟨v,he⟩:∃v,a.eval x=v:=⟨_,rfl⟩
 rw[he]at hv;cases hv with
 |own hk h1=>
   obtain⟨xs,r1,_⟩:=(I.H q _ (hH q _ hq)).2;obtain⟨ax,c,hvv⟩:∃ax c,ν q = .slice ax ls.length c:=by
    rcases r1.2 with⟨hz,h0⟩|⟨g,cap,cur,hz,_⟩
    .exact⟨_,_,by rw[hz,h0]⟩
    .exact⟨_,_,hz⟩
   subst hty;unfold Oper.wp;have he':(execOp a.eval o).run P w = .ok (.value (.int .i64 ls.length)) w:=by
    unfold execOp;rw[ho];simp[resolve,invoke,builtin,he,hvv,Builtin.len_,run_underlying hu,goInt]
   rw[he',Oper.upon_value];exact⟨put_defers ..,ν,G,I.put (.t (.v _ rfl)) hd fr a rfl⟩
theorem aSH{t:TypeId}{x:Operand}{q i:Nat}{e e':TypeId}{s:Nat}{ls:List (Nat×List Tree)}{p:Nat×List Tree}{tys:Array TypeId}{el:TypeId}(hu:P.underlying t=some (.slice el))(ho:o.op = .call { callee:=.builtin .len,args:=#[x],argTypes:=tys })(hty:tys = #[t])(hx:σ.ev x=some (.sub q i))(hq:σ.H q=some (.nest e e' s ls))(hp:ls[i]?=some p):aU P o σ fr (I p.1) []:=by
 intro E σ₁ a w hT hH h100 hf hd ⟨ν,G,I⟩ Q;obtain⟨g,hg,hc,_⟩:=aAg (I.ev (St.cP hT hx));obtain⟨g',u,ys,hg',hc',y1,_⟩:=LM (I.H q _ (hH q _ hq)).2 hp;rw[hg]at hg';cases hg';have hu':=Sy hc hc';obtain⟨ax,c,hvv⟩:∃ax c,u = .slice ax p.1 c:=by
  rcases y1.2 with⟨hz,h0⟩|⟨g,cap,cur,hz,_⟩
  .exact⟨_,_,by rw[hz,h0]⟩
  .exact⟨_,_,hz⟩
 subst hty;unfold Oper.wp;have he':(execOp a.eval o).run P w = .ok (.value (.int .i64 p.1)) w:=by
  unfold execOp;rw[ho];simp[resolve,invoke,builtin,hu',hvv,Builtin.len_,run_underlying hu,goInt]
 rw[he',Oper.upon_value];exact⟨put_defers ..,ν,G,I.put (.t (.v _ rfl)) hd fr a rfl⟩
theorem aSO{t:TypeId}{x y:Operand}{q i:Nat}{e e':TypeId}{s:Nat}{ls:List (Nat×List Tree)}{p:Nat×List Tree}{k:IntKind}{j:Int}(hs:lJ P t=some 1)(ho:o.op = .indexAddr t x y)(hx:σ.ev x=some (.sub q i))(hq:σ.H q=some (.nest e e' s ls))(hp:ls[i]?=some p)(hy:σ.ev y=some (.t (.v (.int k j))))(h0:0<=j)(hn:j<p.1):
    aU P o σ fr (.gM q i j.toNat) []:=
 c7 λE σ₁ ν G w a hH I hev=>by
  obtain⟨g,hg,hc,hk⟩:=aAg (hev x _ hx);have hj:=bY (hev y _ hy);obtain⟨g',u,ys,hg',hc',y1,_⟩:=LM (I.H q _ (hH q _ hq)).2 hp;rw[hg]at hg';cases hg';have hu':=Sy hc hc';rcases y1.2 with⟨_,hz⟩|⟨g1,cap,cur,hvv,_⟩
  .omega
  .refine⟨.pointer (some ⟨g1,j.toNat,none⟩),?_,.gM hk hg (by rw[<-hvv];exact hc')⟩
   unfold execOp;rw[ho];have:=Ei hs w g1 0 p.1 cap k j h0 hn;rw[jL,cY]at this;simp[hu',hj,hvv,this]
theorem aSJ{t:TypeId}{x:Operand}{k i j:Nat}{e e':TypeId}{s:Nat}{ls:List (Nat×List Tree)}{p:Nat×List Tree}{tr:Tree}(hu:iX P t=some false)(ho:o.op = .load t x)(hx:σ.ev x=some (.gM k i j))(hk:σ.H k=some (.nest e e' s ls))(hp:ls[i]?=some p)(hj:p.2[j]?=some tr):aU P o σ fr (.t tr) []:=
 c7 λE σ₁ ν G w a hH I hev=>by
  obtain⟨dsc,h1,h2⟩:=kT hu;obtain⟨g,g1,n,c,hg,hc,hv,hnm⟩:=aAo (hev x _ hx);obtain⟨g',u,ys,hg',hc',y1,y2,y3,y4⟩:=LM (I.H k _ (hH k _ hk)).2 hp;rw[hg]at hg';cases hg';have hu':=Sy hc hc';subst hu';obtain⟨g2,z,hg2,hz,hd,_⟩:=(aC2 (E:=E) (nm:=σ₁.nm) y1 y2 y3 y4).cell (i:=j) (d:=.t tr) (by simp[aM.cells,hj]);simp only[aQ,gD]at hg2;subst hg2;cases hd with
  |t hd=>
    refine⟨z,?_,.t hd⟩;unfold execOp;rw[ho];simp[hv,CH h1 h2 hz]
theorem aR7{t:TypeId}{x y:Operand}{k i j:Nat}{e e':TypeId}{s:Nat}{ls:List (Nat×List Tree)}{p:Nat×List Tree}{tr:Tree}(hi:(P.info? t).map (·.size)=some 1)(ho:o.op = .store t x y)(hx:σ.ev x=some (.gM k i j))(hy:σ.ev y=some (.t tr))(hk:σ.H k=some (.nest e e' s ls))(hp:ls[i]?=some p)(hj:j<p.2.length):
    aU P o σ fr (.aT []) [(k,some (.nest e e' s (ls.set i (p.1,p.2.set j tr))))]:=by
 intro E σ₁ a w hT hH h100 hf hd ⟨ν,G,I⟩ Q;obtain⟨g,g1,n,c,hg,hc,hvx,hkn⟩:=aAo (I.ev (St.cP hT hx));have hdy:=I.ev (St.cP hT hy);obtain⟨v,hev⟩:∃v,a.eval y=v:=⟨_,rfl⟩
 rw[hev]at hdy;cases hdy with
 |t htr=>
 have hob:=(I.H k _ (hH k _ hk)).2;obtain⟨xs,r1,r2,r3,r4,r5⟩:=id hob;have hil:i<ls.length:=(bP.1 hp).1;have hxl:xs.length=ls.length:=by rw[r1.1,jL]
 have hxi:xs[i]?=some (.slice (some ⟨g1,0,none⟩) n c):=by rw[<-tF r1 hg hil];exact hc.1
 obtain⟨ys,y1,y2,y3,y4⟩:=r2 i _ p hxi hp;have hone:v.oneCell'=true:=htr.one;have hsp:cO p.2 j [tr]=p.2.set j tr:=by
  apply Ae;intro m;rw[Ec (by simp;omega),aXR];simp only[dK,List.length_nil,cY];by_cases e1:m<j
  .rw[aE e1,aC (by omega)]
  .rw[aC e1]
   by_cases e2:j=m
   .subst e2;rw[aE (by omega),aE rfl,aE (by omega)];simp
   .rw[aC (by omega),aC e2]
 obtain⟨g2,hg2,hthere,hG0,hnew⟩:=(aC2 (E:=E) (nm:=σ₁.nm) y1 y2 y3 y4).put (off:=j) (new:=[.t tr]) (vs:=[v]) (ob':=.row e' s p.1 (p.2.set j tr) false)
  (by simp only[aM.put];rw[aE ⟨by simp;omega,trivial⟩];simp[rB,hsp]) rfl (λm u d' hu hd'=>by
   cases m with
   |zero=>simp at hu hd';subst hu hd';exact⟨.t htr,hone⟩
   |succ m=>simp at hu) (by simp)
 simp only[aQ,gD]at hg2;subst hg2;have hcv:(a.eval y).cells = #[v]:=by rw[hev];exact AU hone
 have hr:(Instr.storeAt t (.pointer (some ⟨g1,j,none⟩)) (a.eval y)).run P w = .ok () (w.setCells g1 j (a.eval y).cells.toList):=
  Kg (by rw[hcv];simpa using hthere) (by rw[hi,hcv];rfl) (λu hu=>by rw[hcv]at hu;simp at hu;subst hu;exact hone)
 rw[hcv]at hr;obtain⟨s1,s2,s3,s4,s5⟩:=Kb (g:=g1) [v] j w;obtain⟨w',hw'⟩:∃w',w.setCells g1 j [v]=w':=⟨_,rfl⟩
 rw[hw']at hr s1 s2 s3 s4 s5;have hcell:∀b i u,Cell w G b i u->Cell w' G b i u:=λb i u h=>by
  have hne:b≠g1:=λe=>by have:=h.2;rw[e,hG0]at this;omega
  exact⟨(World.cell?_of_block (a:=⟨b,i,none⟩) (s5 b hne)).trans h.1,h.2⟩
 have hfoot1:bK w (ν k) (.nest e e' s ls) g1:=.inr ⟨g,i,_,hg,hil,hc.1,rfl⟩;have hmay:E.may g1:=(hob.ft hfoot1).2;have hgne:g≠g1:=λe=>r4 i _ hxi g1 rfl (by rw[hg,e])
 have hft:∀j oj,σ₁.H j=some oj->∀g',bK w' (ν j) oj g' ↔ bK w (ν j) oj g':=λm om hm g'=>qY λb hb=>s5 b λe=>by
  subst e;by_cases hmk:m=k
  .subst hmk
   rw[hg]at hb;cases hb;exact hgne rfl
  .exact I.cF m om k _ hm (hH k _ hk) hmk b (dT hb) hfoot1
 unfold Oper.wp;have he:(execOp a.eval o).run P w = .ok .skip w':=by
  unfold execOp;rw[ho];simp only[hvx,Sem.run_bind,hr];rfl
 rw[he,Oper.upon_skip];obtain⟨ob',hob'⟩:∃ob',aM.nest e e' s (ls.set i (p.1,p.2.set j tr))=ob':=⟨_,rfl⟩
 have hnm:∀j,σ₁.nm j=true->(σ₁.aN o.dst (.aT []) [(k,some ob')] fr).nm j=true/\ν j=ν j:=λj hj=>⟨by simp[St.aN,hj],rfl⟩
 rw[hob'];refine⟨put_defers ..,ν,G,⟨s1.trans I.kept.os,s2.trans I.kept.tape,s3.trans I.kept.output,by rw[s4];exact I.kept.size,λb hb hX=>?_⟩,λb i u h=>hcell b i u (I.cS b i u h),I.eL,I.g0,?_,λt' d' h=>?_,λm om h=>?_,λj1 o1 j2 o2 h1 h2 hne=>?_⟩
 .refine(s5 b (λe=>?_)).trans (I.kept.block b hb hX)
  subst e;rcases hmay with h|h
  .omega
  .exact hX h
 .cases o.dst <;> simp[Act.put,I.sz]
 .simp only[St.aN]at h
  split at h
  .rename_i he'
   cases h;have:=hd t' he';exact⟨undef,by simp[he',Act.put,I.sz,this],EZ⟩
  .rename_i he'
   obtain⟨u,hu,hdu⟩:=I.T t' d' h;refine⟨u,?_,hdu.mono hnm hcell⟩;cases hds:o.dst with
   |none=>simpa[Act.put]using hu
   |some t''=>
     have hne:t''≠t':=λe=>he' (by rw[hds,e])
     simp only[Act.put];rw[nL hne];exact hu
 .by_cases hm:m=k
  .subst hm
   simp[St.aN,look]at h;subst h;subst hob';have h1:=(I.H m _ (hH m _ hk)).1;have hall:∀g',aQ (ν m)=some g'->w'.heap[g']?=w.heap[g']?:=λg' hg'=>s5 g' λe=>by
    subst e;rw[hg]at hg';cases hg';exact hgne rfl
   have r1':w'.ownsRow 0 e 1 (ν m) (ls.set i (p.1,p.2.set j tr)).length xs:=by
    rw[iI];refine⟨r1.1,?_⟩;rcases r1.2 with h|⟨g3,cap,cur,hvv,z1,z2,z3⟩
    .exact .inl h
    .exact .inr ⟨g3,cap,cur,hvv,z1,by rw[hall g3 (by rw[hvv];rfl)];exact z2,z3⟩
   refine⟨(hnm m h1).1,xs,r1',λq x p' hx hp'=>?_,r3,r4,λg' hg'=>by rw[iI];exact r5 g' hg'⟩;by_cases hqi:i=q
   .subst hqi
    rw[l8 hil]at hp';cases hp';rw[hxi]at hx;cases hx;obtain⟨ys',a1,a2,a3,a4⟩:=hnew w' hcell hw'.symm;exact⟨ys',a1,a2,a3,λg' hg'=>by simpa using a4 g' hg'⟩
   .rw[nH hqi]at hp'
    obtain⟨ys',a1,a2,a3,a4⟩:=r2 q x p' hx hp';refine⟨ys',⟨a1.1,?_⟩,a2,λi u t hu ht=>(a3 i u t hu ht).mono hcell,a4⟩;rcases a1.2 with h|⟨g3,cap,cur,hvv,z1,z2,z3⟩
    .exact .inl h
    .exact .inr ⟨g3,cap,cur,hvv,z1,by rw[s5 g3 (λe=>by subst e;exact r3 i q _ x hqi hxi hx g3 rfl (by rw[hvv];rfl))];exact z2,z3⟩
  .have h':σ₁.H m=some om:=by simpa[St.aN,look,dW hm]using h
   obtain⟨h1,h2⟩:=I.H m om h';refine⟨(hnm m h1).1,h2.mono h1 hnm hcell (λg' hg'=>⟨s5 g' (λe=>?_),rfl⟩)⟩;subst e;exact I.cF m om k _ h' (hH k _ hk) hm g' hg' hfoot1
 .have back:∀j oj,(σ₁.aN o.dst (.aT []) [(k,some ob')] fr).H j=some oj->∃oj',σ₁.H j=some oj'/\∀g',bK w' (ν j) oj g'->bK w (ν j) oj' g':=λm om h=>by
   by_cases hm:m=k
   .subst hm
    simp[St.aN,look]at h;subst h;subst hob';refine⟨_,hH m _ hk,λg' hg'=>(hft m _ (hH m _ hk) g').1 ?_⟩;rcases hg' with h|⟨g0,i',x,a1,a2,a3⟩
    .exact .inl h
    .exact .inr ⟨g0,i',x,a1,by rw[iI]at a2;exact a2,a3⟩
   .have h':σ₁.H m=some om:=by simpa[St.aN,look,dW hm]using h
    exact⟨om,h',λg' hg'=>(hft m om h' g').1 hg'⟩
  obtain⟨o1',h1',f1⟩:=back j1 o1 h1;obtain⟨o2',h2',f2⟩:=back j2 o2 h2;exact λg' hg1 hg2=>I.cF j1 o1' j2 o2' h1' h2' hne g' (f1 g' hg1) (f2 g' hg2)
inductive To (σ:St) (s:Operand) (e e':TypeId) (sz:Nat):Option Nat->List (Nat×List Tree)->Prop
 |own {k:Nat} {ls:List (Nat×List Tree)} (h:σ.ev s=some (.own k)) (hk:σ.H k=some (.nest e e' sz ls)):To σ s e e' sz (some k) ls
 |nil (h:σ.ev s=some (.t (.v (.slice none 0 0)))):To σ s e e' sz none []
def tR(k0:Option Nat)(q fr:Nat)(o:aM):Wr:=match k0 with|some k=>[(fr,some o),(k,none),(q,none)]|none=>[(fr,some o),(q,none)]
theorem aBi{t e e':TypeId}{z:Value}{bytes sz q:Nat}{s x:Operand}{k0:Option Nat}{ls ms:List (Nat×List Tree)}(hT:kA P t e z 1 bytes)(ho:o.op = .call { callee:=.builtin .append,args:=#[s,x],argTypes:=#[t,t] })
    (hs:To σ s e e' sz k0 ls) (hx:σ.ev x=some (.own q)) (hq:σ.H q=some (.nest e e' sz ms)) (hne:k0≠some q) (hb:(ls.length+ms.length)*bytes<=140737488355328/\ls.length+ms.length<=maxLen):
    aU P o σ fr (.own fr) (tR k0 q fr (.nest e e' sz (ls++ms))):=by
 intro E σ₁ a w hTT hHH h100 hf hd ⟨ν,G,I⟩ Q;have hvx:=I.ev (St.cP hTT hx);obtain⟨vx,hex⟩:∃v,a.eval x=v:=⟨_,rfl⟩
 rw[hex]at hvx;cases hvx with
 |own hkq _=>
 have hobq:=(I.H q _ (hHH q _ hq)).2;obtain⟨us,u1,u2,u3,u4,u5⟩:=id hobq;have hul:us.length=ms.length:=by rw[u1.1,jL]
 have hone:∀u∈us,u.oneCell'=true:=λu hu=>by
  obtain⟨i,hi⟩:=gK.1 hu;have hlt:i<ms.length:=by rw[<-hul];exact(bP.1 hi).1
  obtain⟨ys,y1,_⟩:=u2 i u _ hi (bM hlt);exact kV y1
 obtain⟨ax,c,hxv,hrd,hnone⟩:∃ax c,ν q = .slice ax ms.length c/\Rd w ax us/\(ax=none->c=0):=by
  rcases u1.2 with⟨hv,hn⟩|⟨g,cap,cur,hv,_⟩
  .have hx:us=[]:=Fy (by omega)
   exact⟨none,0,by rw[hv,hn],by rw[hx];exact Rd.nil,λ_=>rfl⟩
  .exact⟨_,cap,hv,λj u hj=>⟨_,rfl,u1.cells (by rw[hv];rfl) j u hj⟩,λe=>by cases e⟩
 have hrow:∃v,a.eval s=v/\∃ob:eR E (λ_=>v) σ₁.nm w G 0 (.nest e e' sz ls),(∀k,some k=k0->ν k=v/\σ₁.H k=some (.nest e e' sz ls))/\(k0=none->aQ v=none):=by
  cases hs with
  | @own k _ h hk=>
    have hv:=I.ev (St.cP hTT h);obtain⟨v,he⟩:∃v,a.eval s=v:=⟨_,rfl⟩
    rw[he]at hv;cases hv with
    |own _ _=>exact⟨_,he,(I.H _ _ (hHH _ _ hk)).2,(λk' hk'=>by cases hk';exact⟨rfl,hHH _ _ hk⟩),(λe=>by cases e)⟩
  |nil h=>
    have hv:=bY (I.ev (St.cP hTT h));exact⟨_,hv,nJ.nest.ok rfl,(λk h=>by cases h),λ_=>rfl⟩
 obtain⟨v,hsv,hobv,hk0,hk0n⟩:=hrow;obtain⟨xs,r1,r2,r3,r4,r5⟩:=id hobv;change w.ownsRow 0 e 1 v ls.length xs at r1;change ∀(i:Nat)(x:Value),xs[i]?=some x->∀g,aQ x=some g->aQ v≠some g at r4
 change ∀g,aQ v=some g->E.may g/\G g=ls.length at r5
 have hxl:xs.length=ls.length:=by rw[r1.1,jL]
 obtain⟨v',w',hr,p1,q1,q2,q3,q4,q5,q6,q7⟩:=Ej (ty:=o.type) hT r1 (m:=ms.length) (c:=c) (by rw[hul,jL]) hrd hnone hone hb.2 hb.1;unfold Oper.wp;have he:(execOp a.eval o).run P w = .ok (.value v') w':=by
  unfold execOp;rw[ho];simp[resolve,invoke,builtin,hsv,hex,hxv,hr]
 rw[he,Oper.upon_value];rw[<-iB r1]at q5 q6 q7;rw[<-iB p1]at q7
 -- blocks of the one are none of the other
 have dis1:∀g,bK w v (.nest e e' sz ls) g->¬ bK w (ν q) (.nest e e' sz ms) g:=λg hg hg'=>by
  cases k0 with
  |none=>
    rcases hg with h|⟨_,_,_,h,_⟩
    .rw[hk0n rfl]at h;cases h
    .rw[hk0n rfl]at h;cases h
  |some k=>
    obtain⟨h1,h2⟩:=hk0 k rfl;subst h1;exact I.cF k _ q _ h2 (hHH q _ hq) (λe=>hne (by rw[e])) g hg hg'
 have inx:∀(i:Nat)(x:Value),xs[i]?=some x->∀g,aQ x=some g->bK w v (.nest e e' sz ls) g:=λi x hx g hg=>by
  have hi:i<ls.length:=by rw[<-hxl];exact(bP.1 hx).1
  rcases r1.2 with⟨_,h0⟩|⟨g0,cap,cur,hv,_⟩
  .omega
  .exact .inr ⟨g0,i,x,by rw[hv];rfl,hi,by rw[tF r1 (by rw[hv];rfl) hi];exact hx,hg⟩
 have inu:∀(i:Nat)(x:Value),us[i]?=some x->∀g,aQ x=some g->bK w (ν q) (.nest e e' sz ms) g:=λi x hx g hg=>by
  have hi:i<ms.length:=by rw[<-hul];exact(bP.1 hx).1
  rcases u1.2 with⟨_,h0⟩|⟨g0,cap,cur,hv,_⟩
  .omega
  .exact .inr ⟨g0,i,x,by rw[hv];rfl,hi,by rw[tF u1 (by rw[hv];rfl) hi];exact hx,hg⟩
 have outv:∀(i:Nat)(x:Value),(xs++us)[i]?=some x->∀g,aQ x=some g->g<w.heap.size/\aQ v≠some g:=λi x hx g hg=>by
  by_cases hi:i<xs.length
  .rw[cZ hi]at hx
   exact⟨(hobv.ft (inx i x hx g hg)).1,r4 i x hx g hg⟩
  .rw[eE (by omega)]at hx
   have h:=inu _ x hx g hg;exact⟨(hobq.ft h).1,λh'=>dis1 g (dT h') h⟩
 have outv':∀(i:Nat)(x:Value),(xs++us)[i]?=some x->∀g,aQ x=some g->aQ v'≠some g:=λi x hx g hg h=>by
  obtain⟨h1,h2⟩:=outv i x hx g hg;rcases q7 g h with h3|h3
  .omega
  .exact h2 h3
 let G':bQ:=λb=>if aQ v'=some b then ls.length+ms.length else G b
 have hcell:∀b i u,Cell w G b i u->Cell w' G' b i u:=λb i u h=>by
  by_cases hb':aQ v=some b
  .have hG:G b=ls.length:=(r5 b hb').2
   have h2:=h.2;rw[hG]at h2;refine⟨(q6 b i hb' (by rw[jL];exact h2)).trans h.1,?_⟩;show i<if aQ v'=some b then ls.length+ms.length else G b
   split
   .omega
   .rw[hG];exact h2
  .refine⟨(World.cell?_of_block (a:=⟨b,i,none⟩) (q5 b h.lt hb')).trans h.1,?_⟩
   have:aQ v'≠some b:=λe=>by
    rcases q7 b e with h'|h'
    .have:=h.lt;omega
    .exact hb' h'
   show i<if aQ v'=some b then ls.length+ms.length else G b
   rw[aC this];exact h.2
 have hmv:∀{x:Value}{n:Nat}{ys:List Value},(∀g,aQ x=some g->g<w.heap.size/\aQ v≠some g)->w.ownsRow 0 e' sz x n ys->w'.ownsRow 0 e' sz x n ys:=λhx h1=>by
  refine⟨h1.1,?_⟩;rcases h1.2 with h|⟨g,cap,cur,hvv,z1,z2,z3⟩
  .exact .inl h
  .have:=hx g (by rw[hvv];rfl)
   exact .inr ⟨g,cap,cur,hvv,z1,by rw[q5 g this.1 this.2];exact z2,z3⟩
 refine⟨put_defers ..,bU ν fr v',G',I.CW h100 hf hd (k0.toList++[q]) (o:=.nest e e' sz (ls++ms)) (λk=>?_) q1 q2 q3 q4 (λb hb hnk=>?_) hcell (x:=v') (λg hg=>?_) ?_ ?_⟩
 .cases k0 with
  |none=>
    simp only[tR,look,aWx,fK,lL];by_cases h1:fr=k
    .rw[aE h1,aE h1.symm]
    .rw[aC h1,aC (dW h1)]
     by_cases h2:q=k
     .rw[aE h2,aE h2.symm]
     .rw[aC h2,aC (dW h2)]
  |some j=>
    simp only[tR,look,aWw,Af,fK,eD,aXI,or_false];by_cases h1:fr=k
    .rw[aE h1,aE h1.symm]
    .rw[aC h1,aC (dW h1)]
     by_cases h2:j=k
     .rw[aE h2,aE (.inl h2.symm)]
     .rw[aC h2]
      by_cases h3:q=k
      .rw[aE h3,aE (.inr h3.symm)]
      .rw[aC h3,aC (by rintro(h|h);exact h2 h.symm;exact h3 h.symm)]
 .have hnv:aQ v≠some b:=λe=>by
   cases k0 with
   |none=>rw[hk0n rfl]at e;cases e
   |some j=>
     obtain⟨h1,h2⟩:=hk0 j rfl;exact hnk j (by simp) _ h2 (dT (by rw[h1];exact e))
  refine⟨q5 b hb hnv,aC (λe=>?_)⟩;rcases q7 b e with h|h
  .omega
  .exact hnv h
 .rcases hg with hg|⟨g0,i,x,a1,a2,a3,a4⟩
  .rcases q7 g hg with h|h
   .exact .inl h
   .cases k0 with
    |none=>rw[hk0n rfl]at h;cases h
    |some j=>
      obtain⟨h1,h2⟩:=hk0 j rfl;exact .inr ⟨j,by simp,_,h2,dT (by rw[h1];exact h)⟩
  .right
   rw[tF p1 a1 (by rw[bF]at a2;exact a2)]at a3;by_cases hi:i<xs.length
   .rw[cZ hi]at a3
    have h:=inx i x a3 g a4;cases k0 with
    |none=>
      have hl:=hi;rcases r1.2 with⟨_,h0⟩|⟨g0,cap,cur,hv,_⟩
      .omega
      .have:=hk0n rfl;rw[hv]at this;cases this
    |some j=>
      obtain⟨h1,h2⟩:=hk0 j rfl;exact⟨j,by simp,_,h2,by rw[h1];exact h⟩
   .rw[eE (by omega)]at a3
    exact⟨q,by simp,_,hHH q _ hq,inu _ x a3 g a4⟩
 .refine⟨xs++us,by rw[bT,bF];exact p1,λi x p hx hp=>?_,λi j x y hij hx hy g hg=>?_,λi x hx g hg=>by rw[bT];exact outv' i x hx g hg,λg hg=>?_⟩
  .have hG0:∀g,aQ x=some g->G' g=G g:=λg hg=>aC (outv' i x hx g hg)
   have ho:=outv i x hx;by_cases hi:i<xs.length
   .rw[cZ hi]at hx
    rw[cZ (by omega)]at hp;obtain⟨ys,y1,y2,y3,y4⟩:=r2 i x p hx hp;exact⟨ys,hmv ho y1,y2,λi u t hu ht=>(y3 i u t hu ht).mono hcell,λg hg=>by rw[hG0 g hg];exact y4 g hg⟩
   .rw[eE (by omega)]at hx
    rw[eE (by omega)]at hp;obtain⟨ys,y1,y2,y3,y4⟩:=u2 _ x p hx (by rw[hxl];exact hp);exact⟨ys,hmv ho y1,y2,λi u t hu ht=>(y3 i u t hu ht).mono hcell,λg hg=>by rw[hG0 g hg];exact y4 g hg⟩
  .by_cases hi:i<xs.length
   .rw[cZ hi]at hx
    by_cases hj:j<xs.length
    .rw[cZ hj]at hy
     exact r3 i j x y hij hx hy g hg
    .rw[eE (by omega)]at hy
     exact λhg'=>dis1 g (inx i x hx g hg) (inu _ y hy g hg')
   .rw[eE (by omega)]at hx
    by_cases hj:j<xs.length
    .rw[cZ hj]at hy
     exact λhg'=>dis1 g (inx j y hy g hg') (inu _ x hx g hg)
    .rw[eE (by omega)]at hy
     exact u3 _ _ x y (by omega) hx hy g hg
  .rw[bT]at hg
   refine⟨?_,by show(if aQ v'=some g then _ else _)=_;rw[aE hg,bF]⟩;rcases q7 g hg with h|h
   .exact .inl (Nat.le_trans I.kept.size h)
   .exact(r5 g h).1
 .have hk':(σ₁.aN o.dst .any (tR k0 q fr (.nest e e' sz (ls++ms))) fr).nm fr=true:=jH ..
  have:DR (bU ν fr v') (σ₁.aN o.dst .any (tR k0 q fr (.nest e e' sz (ls++ms))) fr).nm w' G' (bU ν fr v' fr) (.own fr):=.own hk' (by rw[bT];exact kV p1);rw[bT]at this;exact this
theorem aSC{t e e':TypeId}{sz n q:Nat}{zv:Value}{ts:List Tree}{x:Operand}(hB:kM P t e 1 1 [zv])(ho:o.op = .buildSlice t 1 #[(0,x)])(hx:σ.ev x=some (.own q))(hq:σ.H q=some (.row e' sz n ts false)):
    aU P o σ fr (.own fr) [(fr,some (.nest e e' sz [(n,ts)])),(q,none)]:=by
 intro E σ₁ a w hT hHH h100 hf' hd ⟨ν,G,I⟩ Q;have hvx:=I.ev (St.cP hT hx);obtain⟨vx,hex⟩:∃v,a.eval x=v:=⟨_,rfl⟩
 rw[hex]at hvx;cases hvx with
 |own hkq h1q=>
 have hobq:=(I.H q _ (hHH q _ hq)).2;obtain⟨ys,y1,y2,y3,y4⟩:=id hobq;have hfill:Instr.fill (λi=>some (i*1,1)) [zv].toArray [(0,ν q)]=some #[ν q]:=by
  simp[Instr.fill,AU h1q]
 have hr:=hB.run w (#[(0,x)].map λ(i,x)=>(i,a.eval x)) #[ν q] (by simpa[hex]using hfill);unfold Oper.wp;have he:(execOp a.eval o).run P w = .ok (.value (.slice (some ⟨w.heap.size,0,none⟩) 1 1)) (w.alloc (.cells #[ν q] e)):=by
  unfold execOp;rw[ho];simp at hr;simp[hr]
 rw[he,Oper.upon_value];obtain⟨w',hw'⟩:∃w',w.alloc (.cells #[ν q] e)=w':=⟨_,rfl⟩
 have hA:bB w w':=hw' ▸ (bB.refl w).alloc _;have hnew:w'.heap[w.heap.size]?=some (.cells #[ν q] e):=by rw[<-hw'];exact heap_alloc_new w _
 rw[hw']
 let G':bQ:=λb=>if b=w.heap.size then 1 else G b
 have hG:∀b,b<w.heap.size->G' b=G b:=λb hb=>aC (by omega)
 have hcell:∀b i u,Cell w G b i u->Cell w' G' b i u:=λb i u h=>h.dI hA hG
 have hlt:∀g,aQ (ν q)=some g->g<w.heap.size:=λg hg=>hobq.pN hg
 have hown:w'.ownsRow 0 e 1 (.slice (some ⟨w.heap.size,0,none⟩) 1 1) 1 [ν q]:=⟨rfl,.inr ⟨w.heap.size,1,#[ν q],rfl,dC _,hnew,bX _,hB.ml,rfl,rfl⟩⟩;refine⟨put_defers ..,bU ν fr (.slice (some ⟨w.heap.size,0,none⟩) 1 1),G',I.CW h100 hf' hd [q] (o:=.nest e e' sz [(n,ts)]) (λk=>?_) hA.os hA.tape hA.output hA.size (λb hb _=>⟨hA.block b hb,hG b hb⟩) hcell (x:=.slice (some ⟨w.heap.size,0,none⟩) 1 1) (λg hg=>?_) ?_ ?_⟩
 .simp only[look,lL]
  by_cases h1:fr=k
  .rw[aE h1,aE h1.symm]
  .rw[aC h1,aC (dW h1)]
   by_cases h2:q=k
   .rw[aE h2,aE h2.symm]
   .rw[aC h2,aC (dW h2)]
 .rcases hg with hg|⟨g0,i,x,a1,a2,a3,a4⟩
  .cases hg;exact .inl (bX _)
  .rw[tF hown a1 a2]at a3
   have hi:i=0:=by simp at a2;exact a2
   subst hi;simp at a3;subst a3;exact .inr ⟨q,by simp,_,hHH q _ hq,a4⟩
 .rw[eR]
  refine⟨[ν q],by rw[bT];exact hown,λi x p hx hp=>?_,λi j x y hij hx hy=>?_,λi x hx g hg=>?_,λg hg=>?_⟩
  .have hi:i=0:=by have:=(bP.1 hx).1;simp at this;exact this
   subst hi;simp at hx hp;subst hx hp;refine⟨ys,⟨y1.1,?_⟩,y2,λi u t hu ht=>(y3 i u t hu ht).mono hcell,λg hg=>⟨(y4 g hg).1,by rw[hG g (hlt g hg)];simpa using(y4 g hg).2⟩⟩;rcases y1.2 with h|⟨g,cap,cur,hvv,z1,z2,z3⟩
   .exact .inl h
   .exact .inr ⟨g,cap,cur,hvv,z1,by rw[hA.block g (hlt g (by rw[hvv];rfl))];exact z2,z3⟩
  .have:=(bP.1 hx).1
   have:=(bP.1 hy).1;simp at *
   omega
  .have hi:i=0:=by have:=(bP.1 hx).1;simp at this;exact this
   subst hi;simp at hx;subst hx;rw[bT];intro h;cases h;exact absurd (hlt _ hg) (Nat.lt_irrefl _)
  .rw[bT]at hg
   cases hg;exact⟨.inl I.kept.size,aE rfl⟩
 .have:DR (bU ν fr (.slice (some ⟨w.heap.size,0,none⟩) 1 1)) (σ₁.aN o.dst .any [(fr,some (.nest e e' sz [(n,ts)])),(q,none)] fr).nm w' G' (bU ν fr (.slice (some ⟨w.heap.size,0,none⟩) 1 1) fr) (.own fr):=.own (jH ..) (by rw[bT];rfl)
  rw[bT]at this;exact this
end
end Go.Ab
/- The abstract machine: maps whose keys are numbers, words or truths; variables that are written no more. -/
namespace Go.Ab
open Go.RowKit
theorem qR{ν:Nat->Value}{nm:Nat->Bool}{w:World}{G:bQ}{v:Value}{k:Nat}(h:DR ν nm w G v (.own k)):v=ν k/\nm k=true:=by
 cases h with|own hk h1=>exact⟨rfl,hk⟩
theorem aCh{d:TypeDesc}{k:Value}(hk:MapKept.IsKey d k):∀(l:List MapEntry)(i j:Nat)(e:MapEntry),(∀x∈l,MapKept.IsKey d x.key)->l[j]?=some e->e.key=k->(∀(m:Nat)(e':MapEntry),m<j->l[m]?=some e'->e'.key≠k)->Instr.findNow d k l i=some (some (i+j,e.val))
 |[],_,_,_,_,h,_,_=>by simp at h
 |x::l,i,0,e,hks,h,he,_=>by
   simp at h;subst h;obtain⟨r,hr,hiff⟩:=MapKept.sameNow_of_keys hk (hks x (.head _));have:r=true:=hiff.2 he.symm;subst this;simp[Instr.findNow,hr]
 |x::l,i,j+1,e,hks,h,he,hm=>by
   obtain⟨r,hr,hiff⟩:=MapKept.sameNow_of_keys hk (hks x (.head _));have:r=false:=by
    cases r with
    |false=>rfl
    |true=>exact absurd (hiff.1 rfl).symm (hm 0 x (by omega) rfl)
   subst this;simp only[Instr.findNow,hr];rw[aCh hk l (i+1) j e (λy hy=>hks y (.tail _ hy)) (by simpa using h) he (λm e' h1 h2=>hm (m+1) e' (by omega) (by simpa using h2)),Nat.add_assoc,Nat.add_comm 1 j]
theorem aCg{d:TypeDesc}{k:Value}(hk:MapKept.IsKey d k){l:List MapEntry}(hks:∀x∈l,MapKept.IsKey d x.key)(h:∀x∈l,x.key≠k):Instr.findNow d k l 0=some none:=by
 rcases MapKept.findNow_spec hk l 0 hks with⟨h1,_⟩|⟨j,e,_,h2,h3⟩
 .exact h1
 .exact absurd h3 (h e (Ac h2))
section
variable{P:Program}{o:Oper}{σ:St}{fr:Nat}
theorem aRp{t:TypeId}(ho:o.op = .makeMap t none):aU P o σ fr (.own fr) [(fr,some (.mp []))]:=by
 intro E σ₁ a w hT hH h100 hf hd ⟨ν,G,I⟩ Q;unfold Oper.wp;have hr:(execOp a.eval o).run P w = .ok (.value (.map (some w.heap.size))) (w.alloc (.map #[] 0)):=by
  unfold execOp;rw[ho];rfl
 rw[hr,Oper.upon_value];have hA:bB w (w.alloc (.map #[] 0)):=(bB.refl w).alloc _;refine⟨put_defers ..,_,_,I.fresh (G':=λb=>if b=w.heap.size then 0 else G b) h100 hf hd hA (λb hb=>aC (by omega)) (x:=.map (some w.heap.size)) (λg hg=>by cases hg;exact bX _) ?_ ?_⟩
 .exact⟨w.heap.size,#[],0,bT,.inl I.kept.size,heap_alloc_new w _,aE rfl,⟨λx hx=>by simp at hx,by simp⟩,rfl,λi en p h=>by simp at h⟩
 .have:DR (bU ν fr (.map (some w.heap.size))) (σ₁.aN o.dst .any [(fr,some (.mp []))] fr).nm (w.alloc (.map #[] 0)) (λb=>if b=w.heap.size then 0 else G b) (bU ν fr (.map (some w.heap.size)) fr) (.own fr):=.own (jH ..) (by rw[bT];rfl)
  rw[bT]at this;exact this
theorem SF{ν:Nat->Value}{nm:Nat->Bool}{w:World}{G:bQ}{l:List (Value×D)}{d:TypeDesc}(hks:∀p∈l,MapKept.IsKey d p.1){es:Array MapEntry}(hl:es.size=l.length)(h:∀(i:Nat)(en:MapEntry)(p:Value×D),es[i]?=some en->l[i]?=some p->en.key=p.1/\DR ν nm w G en.val p.2):
    ∀x∈es.toList,∃(i:Nat)(p:Value×D),es[i]?=some x/\l[i]?=some p/\x.key=p.1/\MapKept.IsKey d x.key:=λx hx=>by
 obtain⟨i,hi⟩:=gK.1 hx;have hi':es[i]?=some x:=by simpa using hi
 have hlt:i<l.length:=by rw[<-hl];exact(eF.1 hi').1
 have hp:l[i]?=some l[i]:=bM hlt;have h1:=(h i x _ hi' hp).1;exact⟨i,_,hi',hp,h1,by rw[h1];exact hks _ (List.getElem_mem hlt)⟩
theorem aQY{es:Array MapEntry}{clock:Nat}(h:T7 es clock)(k v:Value):T7 (es.push { key:=k,val:=v,born:=clock }) (clock+1):=by
 refine⟨λx hx=>?_,?_⟩
 .simp at hx
  rcases hx with hx|rfl
  .have:=h.1 x (by simpa using hx);omega
  .exact Nat.lt_succ_self _
 .simp only[Array.toList_push,List.map_append,List.map_cons,List.map_nil]
  rw[List.nodup_append];refine⟨h.2,by simp,λa ha b hb e=>?_⟩;obtain⟨x,hx,rfl⟩:=List.mem_map.1 ha;have:=h.1 x hx;rw[lL.1 hb]at e;omega
theorem aRo{t kt et:TypeId}{d:TypeDesc}{x y z:Operand}{q:Nat}{l:List (Value×D)}{kv:Value}{dv:D}(hu:P.underlying t=some (.map kt et))(hd':P.underlying kt=some d)(ho:o.op = .insert t x y z)(hx:σ.ev x=some (.own q))(hq:σ.H q=some (.mp l))
    (hy:σ.ev y=some (.t (.v kv))) (hk:MapKept.IsKey d kv) (hks:∀p∈l,MapKept.IsKey d p.1) (hnew:∀p∈l,p.1≠kv) (hz:σ.ev z=some dv):aU P o σ fr (.aT []) [(q,some (.mp (l++[(kv,dv)])))]:=by
 intro E σ₁ a w hT hH h100 hf hd ⟨ν,G,I⟩ Q;obtain⟨hvx,hnq⟩:=qR (I.ev (St.cP hT hx));have hvy:=bY (I.ev (St.cP hT hy));have hvz:=I.ev (St.cP hT hz);have hob:=(I.H q _ (hH q _ hq)).2;obtain⟨g,es,clock,h1,h2,h3,h4,hs,h5,h6⟩:=id hob;have hkeys:=SF hks h5 h6;have hnone:Instr.findNow d kv es.toList 0=some none:=aCg hk (λx hx=>let⟨_,_,_,_,_,h⟩:=hkeys x hx;h) λx hx=>by
  obtain⟨i,p,_,e2,e3,_⟩:=hkeys x hx;rw[e3];exact hnew p (Ac e2)
 obtain⟨w',hw'⟩:∃w':World,{ w with heap:=w.heap.setIfInBounds g (.map (es.push { key:=kv,val:=a.eval z,born:=clock }) (clock+1)) }=w':=⟨_,rfl⟩
 unfold Oper.wp;have he:(execOp a.eval o).run P w = .ok .skip w':=by
  unfold execOp;rw[ho];simp[hvx,h1,hvy,Instr.mapUpdate,run_underlying hu,MapKept.run_getObj_map h3,MapKept.run_checkKey hd' hk,MapKept.run_findKey hd' hnone,MapKept.run_setObj_map _ h3,Result.andThen,hw']
 rw[he,Oper.upon_skip];have hnew':w'.heap[g]?=some (.map (es.push { key:=kv,val:=a.eval z,born:=clock }) (clock+1)):=by rw[<-hw'];exact(MapKept.heap_set h3).1
 have hold:∀b,b≠g->w'.heap[b]?=w.heap[b]?:=λb hb=>by rw[<-hw'];exact(MapKept.heap_set h3).2 b hb
 have hsz:w'.heap.size=w.heap.size:=by rw[<-hw'];simp
 have hos:w'.os=w.os/\w'.tape=w.tape/\w'.output=w.output:=by rw[<-hw'];exact⟨rfl,rfl,rfl⟩
 have hgq:aQ (ν q)=some g:=by rw[h1];rfl
 have hcell:∀b i u,Cell w G b i u->Cell w' G b i u:=λb i u h=>by
  have hne:b≠g:=λe=>by have:=h.2;rw[e,h4]at this;omega
  exact⟨(World.cell?_of_block (a:=⟨b,i,none⟩) (hold b hne)).trans h.1,h.2⟩
 have hnm:∀j,σ₁.nm j=true->(σ₁.aN o.dst (.aT []) [(q,some (.mp (l++[(kv,dv)])))] fr).nm j=true/\ν j=ν j:=λj hj=>⟨by simp[St.aN,hj],rfl⟩
 have hft:∀j oj,σ₁.H j=some oj->j≠q->∀g',bK w' (ν j) oj g' ↔ bK w (ν j) oj g':=λm om hm hne g'=>qY λb hb=>hold b λe=>by
  subst e;exact I.cF m om q _ hm (hH q _ hq) hne b (dT hb) (dT hgq)
 refine⟨put_defers ..,ν,G,⟨hos.1.trans I.kept.os,hos.2.1.trans I.kept.tape,hos.2.2.trans I.kept.output,by rw[hsz];exact I.kept.size,λb hb hX=>?_⟩,λb i u h=>hcell b i u (I.cS b i u h),I.eL,I.g0,?_,λt' d' h=>?_,λm om h=>?_,λj1 o1 j2 o2 h1' h2' hne=>?_⟩
 .refine(hold b (λe=>?_)).trans (I.kept.block b hb hX)
  subst e;rcases h2 with h|h
  .omega
  .exact hX h
 .cases o.dst <;> simp[Act.put,I.sz]
 .simp only[St.aN]at h
  split at h
  .rename_i he'
   cases h;have:=hd t' he';exact⟨undef,by simp[he',Act.put,I.sz,this],EZ⟩
  .rename_i he'
   obtain⟨u,hu,hdu⟩:=I.T t' d' h;refine⟨u,?_,hdu.mono hnm hcell⟩;cases hds:o.dst with
   |none=>simpa[Act.put]using hu
   |some t''=>
     have hne:t''≠t':=λe=>he' (by rw[hds,e])
     simp only[Act.put];rw[nL hne];exact hu
 .by_cases hm:m=q
  .subst hm
   simp[St.aN,look]at h;subst h;refine⟨(hnm m hnq).1,g,_,_,h1,h2,hnew',h4,aQY hs _ _,by simp[h5],λi en p he hp=>?_⟩;by_cases hi:i<l.length
   .rw[Array.getElem?_push_lt (by omega)]at he
    rw[cZ hi]at hp;obtain⟨a1,a2⟩:=h6 i en p (by rw[iM (by omega)];exact he) hp;exact⟨a1,a2.mono hnm hcell⟩
   .have hi':i=l.length:=by have:=(bP.1 hp).1;simp at this;omega
    subst hi';rw[<-h5,Array.getElem?_push_size]at he;simp at hp he;subst hp he;exact⟨rfl,hvz.mono hnm hcell⟩
  .have h':σ₁.H m=some om:=by simpa[St.aN,look,dW hm]using h
   obtain⟨e1,e2⟩:=I.H m om h';refine⟨(hnm m e1).1,e2.mono e1 hnm hcell (λg' hg'=>⟨hold g' (λe=>?_),rfl⟩)⟩;subst e;exact I.cF m om q _ h' (hH q _ hq) hm g' hg' (dT hgq)
 .have back:∀j oj,(σ₁.aN o.dst (.aT []) [(q,some (.mp (l++[(kv,dv)])))] fr).H j=some oj->∃oj',σ₁.H j=some oj'/\∀g',bK w' (ν j) oj g'->bK w (ν j) oj' g':=λm om h=>by
   by_cases hm:m=q
   .subst hm
    simp[St.aN,look]at h;subst h;exact⟨_,hH m _ hq,λg' hg'=>hg'⟩
   .have h':σ₁.H m=some om:=by simpa[St.aN,look,dW hm]using h
    exact⟨om,h',λg' hg'=>(hft m om h' hm g').1 hg'⟩
  obtain⟨o1',e1,f1⟩:=back j1 o1 h1';obtain⟨o2',e2,f2⟩:=back j2 o2 h2';exact λg' hg1 hg2=>I.cF j1 o1' j2 o2' e1 e2 hne g' (f1 g' hg1) (f2 g' hg2)
def LF(ok:Bool)(d:D)(b:Bool):D:=if ok then .aT [d,.t (.v (.bool b))]else d
theorem aBn{ν:Nat->Value}{nm:Nat->Bool}{w:World}{G:bQ}{v:Value}{d:D}{ok b:Bool}(h:DR ν nm w G v d):DR ν nm w G (if ok then .tuple #[v,.bool b]else v) (LF ok d b):=by
 cases ok with
 |false=>exact h
 |true=>exact aA8 h (.t (.v _ rfl))
theorem aRt{t kt et:TypeId}{d:TypeDesc}{x y:Operand}{ok:Bool}{q j:Nat}{l:List (Value×D)}{kv:Value}{dv:D}(hu:P.underlying t=some (.map kt et))(hd':P.underlying kt=some d)(ho:o.op = .lookup t x y ok)(hx:σ.ev x=some (.own q))(hq:σ.H q=some (.mp l))
    (hy:σ.ev y=some (.t (.v kv))) (hk:MapKept.IsKey d kv) (hks:∀p∈l,MapKept.IsKey d p.1) (hj:l[j]?=some (kv,dv)) (hb:∀(m:Nat)(p:Value×D),m<j->l[m]?=some p->p.1≠kv):aU P o σ fr (LF ok dv true) []:=
 c7 λE σ₁ ν G w a hH I hev=>by
  obtain⟨hvx,hnq⟩:=qR (hev x _ hx);have hvy:=bY (hev y _ hy);obtain⟨g,es,clock,h1,h2,h3,h4,_,h5,h6⟩:=(I.H q _ (hH q _ hq)).2;have hkeys:=SF hks h5 h6;have hjl:j<es.size:=by rw[h5];exact(bP.1 hj).1
  have hej:es[j]?=some es[j]:=iM hjl;obtain⟨e1,e2⟩:=h6 j _ _ hej hj;have hf:=aCh hk es.toList 0 j es[j] (λx hx=>let⟨_,_,_,_,_,h⟩:=hkeys x hx;h) (by simp) e1 (λm e' hm he'=>by
   have he'':es[m]?=some e':=by simpa using he'
   have hml:m<l.length:=by rw[<-h5];exact(eF.1 he'').1
   rw[(h6 m e' _ he'' (bM hml)).1];exact hb m _ hm (bM hml))
  refine⟨_,?_,aBn e2⟩;unfold execOp;rw[ho];cases ok <;> simp[hvx,h1,hvy,Instr.lookup,run_underlying hu,MapKept.run_getObj_map h3,MapKept.run_checkKey hd' hk,MapKept.run_findKey hd' hf,Result.andThen]
theorem aRs{t kt et:TypeId}{d:TypeDesc}{x y:Operand}{ok:Bool}{q:Nat}{l:List (Value×D)}{kv z:Value}(hu:P.underlying t=some (.map kt et))(hd':P.underlying kt=some d)(ho:o.op = .lookup t x y ok)(hx:σ.ev x=some (.own q))(hq:σ.H q=some (.mp l))
    (hy:σ.ev y=some (.t (.v kv))) (hk:MapKept.IsKey d kv) (hks:∀p∈l,MapKept.IsKey d p.1) (hb:∀p∈l,p.1≠kv) (hz:(P.info? et).bind (·.zero)=some z) (hz1:vQ z=true):aU P o σ fr (LF ok (pC z) false) []:=
 c7 λE σ₁ ν G w a hH I hev=>by
  obtain⟨hvx,hnq⟩:=qR (hev x _ hx);have hvy:=bY (hev y _ hy);obtain⟨g,es,clock,h1,h2,h3,h4,_,h5,h6⟩:=(I.H q _ (hH q _ hq)).2;have hkeys:=SF hks h5 h6;have hnone:Instr.findNow d kv es.toList 0=some none:=aCg hk (λx hx=>let⟨_,_,_,_,_,h⟩:=hkeys x hx;h) λx hx=>by
   obtain⟨i,p,_,e2,e3,_⟩:=hkeys x hx;rw[e3];exact hb p (Ac e2)
  obtain⟨i,hi,hz'⟩:=jK.1 hz;refine⟨_,?_,aBn (aBo hz1)⟩;unfold execOp;rw[ho];cases ok <;> simp[hvx,h1,hvy,Instr.lookup,run_underlying hu,MapKept.run_getObj_map h3,MapKept.run_checkKey hd' hk,MapKept.run_findKey hd' hnone,Result.andThen,zeroValue,typeInfo,hi,hz']
theorem aRa{t e:TypeId}{x:Operand}{n s:Nat}{ts:List Tree}(hu:P.underlying t=some (.array n e))(hs:(P.info? e).map (·.size)=some s)(ho:o.op = .slice t x none none none)(hx:σ.ev x=some (.ptr ts 0)):aU P o σ fr (.t (.sl n ts)) []:=
 c7 λE σ₁ ν G w a hH I hev=>by
  obtain⟨b,q,us,hv,hl,hcu,htr⟩:=CP (hev x _ hx);obtain⟨inf,hinf,hsz⟩:=b9.1 hs;refine⟨.slice (some ⟨b,q,none⟩) n n,?_,.t (.sl b q n n us ts hl hcu (bX _) htr)⟩;unfold execOp;rw[ho];simp[hv,Instr.sliceAt,run_underlying hu,Instr.sureAddr,Instr.sliceBounds,sizeOf,typeInfo,hinf,Addr.add_mid]
end
theorem aVe{E:Env}{T:Nat->Option D}{H:Nat->Option aM}{N:Nat}(t k:Nat){e:TypeId}{ds:List D}{ts:List Tree}(ht:T t=some (.ref k 0))(hk:H k=some (.box e ds))(hl:ds.length=ts.length)
    (hw:∀(i:Nat)(tr:Tree),ts[i]?=some tr->∃d,ds[i]?=some d/\bR H d (.t tr)):cV E (mk T H N) (mk (λx=>if t=x then some (.ptr ts 0)else T x) (λj=>if k=j then none else H j) N):=by
 refine pJ λa w ⟨ν,G,I⟩=>?_
 obtain⟨hn,g,cur,h1,h2,h3,h4,h5,h6⟩:=I.H k _ hk;have hg:aQ (ν k)=some g:=by rw[h1];rfl
 let G':bQ:=λb=>if b=g then ts.length else G b
 have hcell:∀b i u,Cell w G b i u->Cell w G' b i u:=λb i u h=>by
  have hne:b≠g:=λe=>by have:=h.2;rw[e,h4]at this;omega
  exact⟨h.1,by show i<if b=g then _ else _;rw[aC hne];exact h.2⟩
 refine⟨ν,G',I.kept,λb i u h=>hcell b i u (I.cS b i u h),I.eL,λb hb hX=>?_,I.sz,λt' d h=>?_,λj oj h=>?_,λj1 o1 j2 o2 e1 e2 hne=>?_⟩
 .have hne:b≠g:=λe=>by
   subst e;rcases h2 with h|h
   .omega
   .exact hX h
  show(if b=g then _ else _)=_;rw[aC hne];exact I.g0 b hb hX
 .by_cases htt:t=t'
  .subst htt
   simp only[fH,gD]at h;subst h;obtain⟨v,hv,hd⟩:=I.T t _ ht;obtain⟨g',hg',hv',_⟩:=nZ hd;rw[hg]at hg';cases hg';refine⟨v,hv,?_⟩;rw[hv'];have:=DR.ptr (ν:=ν) (nm:=(mk T H N).nm) (w:=w) (G:=G') (b:=g) (o:=0) (off:=0) (us:=cur.toList) (ts:=ts) (by rw[nK,h5,hl]) (λi u hu=>?_) (λi u tr hu htr=>?_)
   .simpa using this
   .have hu':cur[i]?=some u:=by simpa using hu
    have hi:i<ts.length:=by rw[<-hl,<-h5];exact(eF.1 hu').1
    exact⟨by rw[cY,AV h3];exact hu',by show _<if g=g then _ else _;rw[aE rfl];omega⟩
   .have hu':cur[i]?=some u:=by simpa using hu
    obtain⟨d,hd,hwk⟩:=hw i tr htr;have:=hwk E _ ν G w a.tmps (λ_ _ h=>h) I u (h6 i u d hu' hd).1;cases this with|t h=>exact h.mono hcell
  .simp only[aC htt]at h
   obtain⟨v,hv,hd⟩:=I.T t' d h;exact⟨v,hv,hd.mono (λ_ h=>⟨h,rfl⟩) hcell⟩
 .by_cases hj:k=j
  .simp[aE hj]at h
  .simp only[aC hj]at h
   obtain⟨q1,q2⟩:=I.H j oj h;refine⟨q1,q2.mono q1 (λ_ h=>⟨h,rfl⟩) hcell (λg' hg'=>⟨rfl,aC (λe=>?_)⟩)⟩;subst e;exact I.cF j oj k _ h hk (λe=>hj e.symm) g' hg' (dT hg)
 .have back:∀j oj,(if k=j then none else H j)=some oj->H j=some oj:=λj oj h=>by
   by_cases hj:k=j
   .rw[aE hj]at h;cases h
   .rw[aC hj]at h;exact h
  exact I.cF j1 o1 j2 o2 (back j1 o1 e1) (back j2 o2 e2) hne
end Go.Ab
/- The abstract machine: rows whose elements hold rows of the walk's own. -/
namespace Go.Ab
open Go.RowKit
section
variable{P:Program}{o:Oper}{σ:St}{fr:Nat}
theorem aBc{t:TypeId}{x y:Operand}{q:Nat}{e e':TypeId}{m s n:Nat}{cs:List NC}{k:IntKind}{j:Int}(hs:lJ P t=some m)(ho:o.op = .indexAddr t x y)(hx:σ.ev x=some (.own q))(hq:σ.H q=some (.bI e e' m s n cs))(hy:σ.ev y=some (.t (.v (.int k j))))(h0:0<=j)(hn:j<n):
    aU P o σ fr (.ref q (j.toNat*m)) []:=
 c7 λE σ₁ ν G w a hH I hev=>by
  have hv:=hev x _ hx;have hj:=bY (hev y _ hy);obtain⟨v,he⟩:∃v,a.eval x=v:=⟨_,rfl⟩
  rw[he]at hv;cases hv with
  |own hk h1=>
    obtain⟨xs,r1,_⟩:=(I.H q _ (hH q _ hq)).2;rcases r1.2 with⟨_,hz⟩|⟨g,cap,cur,hvv,_⟩
    .omega
    .refine⟨.pointer (some ⟨g,j.toNat*m,none⟩),?_,.ref hk (by rw[hvv];rfl)⟩
     unfold execOp;rw[ho];have:=Ei hs w g 0 n cap k j h0 hn;rw[cY]at this;simp[he,hj,hvv,this]
theorem aSG{t:TypeId}{x:Operand}{q:Nat}{e e':TypeId}{m s n:Nat}{cs:List NC}{tys:Array TypeId}{el:TypeId}(hu:P.underlying t=some (.slice el))(ho:o.op = .call { callee:=.builtin .len,args:=#[x],argTypes:=tys })(hty:tys = #[t])(hx:σ.ev x=some (.own q))(hq:σ.H q=some (.bI e e' m s n cs)):aU P o σ fr (I n) []:=by
 intro E σ₁ a w hT hH h100 hf hd ⟨ν,G,I⟩ Q;have hv:=I.ev (St.cP hT hx);obtain⟨v,he⟩:∃v,a.eval x=v:=⟨_,rfl⟩
 rw[he]at hv;cases hv with
 |own hk h1=>
   obtain⟨xs,r1,_⟩:=(I.H q _ (hH q _ hq)).2;obtain⟨ax,c,hvv⟩:∃ax c,ν q = .slice ax n c:=by
    rcases r1.2 with⟨hz,h0⟩|⟨g,cap,cur,hz,_⟩
    .exact⟨_,_,by rw[hz,h0]⟩
    .exact⟨_,_,hz⟩
   subst hty;unfold Oper.wp;have he':(execOp a.eval o).run P w = .ok (.value (.int .i64 n)) w:=by
    unfold execOp;rw[ho];simp[resolve,invoke,builtin,he,hvv,Builtin.len_,run_underlying hu,goInt]
   rw[he',Oper.upon_value];exact⟨put_defers ..,ν,G,I.put (.t (.v _ rfl)) hd fr a rfl⟩
end
def NC.lZ:NC->Option Tree
 |.dH (.t t)=>some t
 |.cE q ts=>some (.sl q ts)
 |_=>none
theorem Sb{E:Env}{T:Nat->Option D}{H:Nat->Option aM}{N:Nat}(k:Nat){e e':TypeId}{m s n:Nat}{cs:List NC}{ts:List Tree}(hk:H k=some (.bI e e' m s n cs))(hts:cs.map NC.lZ=ts.map some):
    cV E (mk T H N) (mk T (λj=>if k=j then some (.row e m n ts false)else H j) N):=by
 refine pJ λa w ⟨ν,G,I⟩=>?_
 obtain⟨hn,hob⟩:=I.H k _ hk;obtain⟨xs,r1,hxl,rd,r2,r3,r4,r5⟩:=id hob;have hlt:cs.length=ts.length:=by have:=aO List.length hts;simpa using this
 let G':bQ:=λb=>open Classical in if h:∃(i:Nat)(x:Value)(p:Nat×List Tree),xs[i]?=some x/\cs[i]?=some (.cE p.1 p.2)/\aQ x=some b then(h.choose_spec.choose_spec.choose).1*s else G b
 have hG1:∀(i:Nat)(x:Value)(p:Nat×List Tree)(b:Nat),xs[i]?=some x->cs[i]?=some (.cE p.1 p.2)->aQ x=some b->G' b=p.1*s:=λi x p b hx hp hb=>by
  have h:∃(i:Nat)(x:Value)(p:Nat×List Tree),xs[i]?=some x/\cs[i]?=some (.cE p.1 p.2)/\aQ x=some b:=⟨i,x,p,hx,hp,hb⟩
  obtain⟨q1,q2,q3⟩:=h.choose_spec.choose_spec.choose_spec;have:h.choose=i:=by
   by_cases e:h.choose=i
   .exact e
   .exact absurd hb (r3 _ _ _ _ _ _ _ _ e q1 hx q2 hp b q3)
  simp only[G',dif_pos h];have q2':cs[i]?=some (.cE h.choose_spec.choose_spec.choose.1 h.choose_spec.choose_spec.choose.2):=by rw[<-this];exact q2
  rw[hp]at q2';have:=eX q2';simp only[NC.cE.injEq]at this;rw[<-this.1]
 have hG0:∀b,(∀(i:Nat)(x:Value)(p:Nat×List Tree),xs[i]?=some x->cs[i]?=some (.cE p.1 p.2)->aQ x≠some b)->G' b=G b:=λb hb=>by
  simp only[G'];rw[dif_neg];rintro⟨i,x,p,h1,h2,h3⟩;exact hb i x p h1 h2 h3
 have hin:∀(i:Nat)(x:Value)(p:Nat×List Tree)(b:Nat),xs[i]?=some x->cs[i]?=some (.cE p.1 p.2)->aQ x=some b->bK w (ν k) (.bI e e' m s n cs) b:=λi x p b hx hp hb=>by
  have hi:=(bP.1 hx).1;rcases r1.2 with⟨_,h0⟩|⟨g0,cap,cur,hv,_⟩
  .rw[r1.1,h0]at hi;omega
  .exact .inr ⟨g0,i,x,p.1,p.2,by rw[hv];rfl,hp,by rw[kS r1 (by rw[hv];rfl) hi];exact hx,hb⟩
 have hcell:∀b i u,Cell w G b i u->Cell w G' b i u:=λb i u hc=>by
  refine⟨hc.1,?_⟩;by_cases hb:∃(i:Nat)(x:Value)(p:Nat×List Tree),xs[i]?=some x/\cs[i]?=some (.cE p.1 p.2)/\aQ x=some b
  .obtain⟨j,x,p,h1,h2,h3⟩:=hb
   obtain⟨_,_,_,_,y4⟩:=r2 j x p.1 p.2 h1 h2;have:=hc.2;rw[(y4 b h3).2]at this;omega
  .rw[hG0 b (λj x p h1 h2 h3=>hb ⟨j,x,p,h1,h2,h3⟩)];exact hc.2
 refine⟨ν,G',I.kept,λb i u hc=>hcell b i u (I.cS b i u hc),I.eL,λb hb hX=>?_,I.sz,λt d ht=>?_,λj o hj=>?_,λj1 o1 j2 o2 h1 h2 hne=>?_⟩
 .rw[hG0 b (λj x p h1 h2 h3=>?_)]
  .exact I.g0 b hb hX
  .rcases(hob.ft (hin j x p b h1 h2 h3)).2 with h|h
   .omega
   .exact hX h
 .obtain⟨v,hv,hdv⟩:=I.T t d ht
  exact⟨v,hv,hdv.mono (λ_ h=>⟨h,rfl⟩) hcell⟩
 .by_cases hjk:k=j
  .subst hjk
   simp only[fH,gD]at hj;subst hj;refine⟨hn,xs,r1,by rw[hxl,hlt],λi u t hu ht=>?_,λg hg=>⟨(r5 g hg).1,?_⟩⟩
   .have hi:i<cs.length:=by rw[hlt];exact(bP.1 ht).1
    have hc:cs[i]?=some cs[i]:=bM hi;have h1:(cs.map NC.lZ)[i]?=(ts.map some)[i]?:=by rw[hts]
    rw[cD,cD,hc,ht]at h1;have h1:NC.lZ cs[i]=some t:=eX h1;generalize cs[i]=c at hc h1;cases c with
    |dH d=>
      cases d with
      |t t'=>
        cases h1;cases(rd i u _ hu hc).1 with
        |t h=>exact h.mono hcell
      |_=>cases h1
    |cE q l=>
      cases h1;obtain⟨ys,y1,y2,y3,y4⟩:=r2 i u q l hu hc;exact aDd y1 y2 hcell y3 λg hg=>by rw[hG1 i u (q,l) g hu hc hg];exact bX _
   .rw[hG0 g (λj x p h1 h2 h3=>r4 j x p.1 p.2 h1 h2 g h3 hg),(r5 g hg).2]
    simp
  .simp only[aC hjk]at hj
   obtain⟨q1,q2⟩:=I.H j o hj;refine⟨q1,q2.mono q1 (λ_ h=>⟨h,rfl⟩) hcell (λg hg=>⟨rfl,hG0 g (λi x p h1 h2 h3=>?_)⟩)⟩;exact I.cF j o k _ hj hk (λe=>hjk e.symm) g hg (hin i x p g h1 h2 h3)
 .have back:∀j o,(if k=j then some (.row e m n ts false)else H j)=some o->∃o',H j=some o'/\∀g,bK w (ν j) o g->bK w (ν j) o' g:=λj o h=>by
   by_cases hj:k=j
   .subst hj;simp only[fH,gD]at h;subst h;exact⟨_,hk,λ_ h=>.inl h⟩
   .rw[aC hj]at h;exact⟨o,h,λ_ h=>h⟩
  obtain⟨p1,hp1,f1⟩:=back j1 o1 h1;obtain⟨p2,hp2,f2⟩:=back j2 o2 h2;exact λg hg hg'=>I.cF j1 p1 j2 p2 hp1 hp2 hne g (f1 g hg) (f2 g hg')
end Go.Ab
/- The abstract machine: an inner row is lent out under a name of its own. -/
namespace Go.Ab
open Go.RowKit
theorem aVd{E:Env}{T:Nat->Option D}{H:Nat->Option aM}{N:Nat}(k i:Nat){e e':TypeId}{m s n q:Nat}{cs:List NC}{ts:List Tree}(hk:H k=some (.bI e e' m s n cs))(hi:cs[i]?=some (.cE q ts))(hN:100<=N):
    cV E (mk T H N) (mk T (λj=>if N=j then some (.row e' s q ts false)else if k=j then some (.bI e e' m s n (cs.set i (.dH (.own N))))else H j) (N+8)):=by
 refine pJ λa w ⟨ν,G,I⟩=>?_
 obtain⟨hn,hob⟩:=I.H k _ hk;obtain⟨xs,r1,hxl,rd,r2,r3,r4,r5⟩:=id hob;have hil:i<cs.length:=(bP.1 hi).1;obtain⟨x,hx⟩:∃x,xs[i]?=some x:=⟨_,bM (by rw[hxl];exact hil)⟩
 obtain⟨ys,y1,y2,y3,y4⟩:=r2 i x q ts hx hi;have hlt:∀j,(mk T H N).nm j=true->j<N:=λj h=>by simpa[mk]using h
 have hnm:∀j,(mk T H N).nm j=true->decide (j<N+8)=true/\bU ν N x j=ν j:=λj h=>⟨by have:=hlt j h;simp;omega,by have:=hlt j h;unfold bU;rw[aC (by omega)]⟩
 have hkN:k<N:=hlt k hn;have hνN:bU ν N x N=x:=bT;have hνk:bU ν N x k=ν k:=(hnm k hn).2;have hinn:∀g,aQ x=some g->bK w (ν k) (.bI e e' m s n cs) g:=λg hg=>by
  rcases r1.2 with⟨_,h0⟩|⟨g0,cap,cur,hv,_⟩
  .rw[<-hxl,r1.1,h0]at hil;omega
  .exact .inr ⟨g0,i,x,q,ts,by rw[hv];rfl,hi,by rw[kS r1 (by rw[hv];rfl) (by rw[hxl];exact hil)];exact hx,hg⟩
 have hset:∀(j q':Nat)(ts':List Tree),(cs.set i (.dH (.own N)))[j]?=some (.cE q' ts')->j≠i/\cs[j]?=some (.cE q' ts'):=λj q' ts' h=>by
  by_cases hj:i=j
  .subst hj
   rw[l8 hil]at h;cases h
  .rw[nH hj]at h
   exact⟨λe=>hj e.symm,h⟩
 have hfk:∀g,bK w (ν k) (.bI e e' m s n (cs.set i (.dH (.own N)))) g->bK w (ν k) (.bI e e' m s n cs) g/\aQ x≠some g:=λg hg=>by
  rcases hg with hg|⟨g0,j,z,q',ts',h1,h2,h3,h4⟩
  .exact⟨.inl hg,λe=>r4 i x q ts hx hi g e hg⟩
  .obtain⟨hj,hc⟩:=hset j q' ts' h2
   refine⟨.inr ⟨g0,j,z,q',ts',h1,hc,h3,h4⟩,λe=>?_⟩;have hz:xs[j]?=some z:=by rw[<-kS r1 h1 (by rw[hxl];exact(bP.1 hc).1)];exact h3
   exact r3 j i z x q' q ts' ts hj hz hx hc hi g h4 e
 have hG:∀g,aQ x=some g->E.may g/\G g=0:=y4
 refine⟨bU ν N x,G,I.kept,I.cS,λj h1 h2=>by unfold bU;rw[aC (by omega)];exact I.eL j h1 h2,I.g0,I.sz,λt d ht=>?_,λj o hj=>?_,λj1 o1 j2 o2 h1 h2 hne=>?_⟩
 .obtain⟨v,hv,hdv⟩:=I.T t d ht
  exact⟨v,hv,hdv.mono hnm (λ_ _ _ h=>h)⟩
 .simp only at hj
  by_cases hjN:N=j
  .subst hjN
   rw[aE rfl]at hj;cases hj;refine⟨by simp,ys,by rw[hνN];exact y1,y2,y3,λg hg=>?_⟩;rw[hνN]at hg;simpa using hG g hg
  .rw[aC hjN]at hj
   by_cases hjk:k=j
   .subst hjk
    rw[aE rfl]at hj;cases hj;refine⟨(hnm k hn).1,xs,by rw[hνk];exact r1,by rw[iI];exact hxl,λp z d hz hc=>?_,λp z q' ts' hz hc=>r2 p z q' ts' hz (hset p q' ts' hc).2,λp p' z z' q1 q2 t1 t2 hp hz hz' hc hc'=>r3 p p' z z' q1 q2 t1 t2 hp hz hz' (hset p q1 t1 hc).2 (hset p' q2 t2 hc').2,λp z q' ts' hz hc g hg=>by rw[hνk];exact r4 p z q' ts' hz (hset p q' ts' hc).2 g hg,λg hg=>by rw[hνk]at hg;exact r5 g hg⟩;by_cases hp:i=p
    .subst hp
     rw[l8 hil]at hc;cases hc;rw[hx]at hz;cases hz;have:DR (bU ν N x) (mk T (λj=>if N=j then some (.row e' s q ts false)else if k=j then some (.bI e e' m s n (cs.set i (.dH (.own N))))else H j) (N+8)).nm w G (bU ν N x N) (.own N):=.own (by simp) (by rw[hνN];exact kV y1);rw[hνN]at this;exact⟨this,kV y1⟩
    .rw[nH hp]at hc
     exact⟨(rd p z d hz hc).1.mono hnm (λ_ _ _ h=>h),(rd p z d hz hc).2⟩
   .rw[aC hjk]at hj
    obtain⟨q1,q2⟩:=I.H j o hj;exact⟨(hnm j q1).1,q2.mono q1 hnm (λ_ _ _ h=>h) (λ_ _=>⟨rfl,rfl⟩)⟩
 .have back:∀j o,(if N=j then some (.row e' s q ts false)else if k=j then some (.bI e e' m s n (cs.set i (.dH (.own N))))else H j)=some o->(j=N/\∀g,bK w (bU ν N x j) o g->aQ x=some g)\/(j≠N/\∃o',H j=some o'/\∀g,bK w (bU ν N x j) o g->bK w (ν j) o' g/\aQ x≠some g):=λj o h=>by
   by_cases hjN:N=j
   .subst hjN
    rw[aE rfl]at h;cases h;exact .inl ⟨rfl,λg hg=>by rw[hνN]at hg;exact hg⟩
   .rw[aC hjN]at h
    refine .inr ⟨λe=>hjN e.symm,?_⟩;by_cases hjk:k=j
    .subst hjk
     rw[aE rfl]at h;cases h;exact⟨_,hk,λg hg=>by rw[hνk]at hg;exact hfk g hg⟩
    .rw[aC hjk]at h
     have hj1:=(I.H j o h).1;exact⟨o,h,λg hg=>by
      rw[(hnm j hj1).2]at hg;exact⟨hg,λe=>I.cF j o k _ h hk (λe=>hjk e.symm) g hg (hinn g e)⟩⟩
  rcases back j1 o1 h1 with⟨e1,f1⟩|⟨e1,p1,hp1,f1⟩ <;> rcases back j2 o2 h2 with⟨e2,f2⟩|⟨e2,p2,hp2,f2⟩
  .exact absurd (e1.trans e2.symm) hne
  .exact λg hg hg'=>(f2 g hg').2 (f1 g hg)
  .exact λg hg hg'=>(f1 g hg).2 (f2 g hg')
  .exact λg hg hg'=>I.cF j1 p1 j2 p2 hp1 hp2 hne g (f1 g hg).1 (f2 g hg').1
theorem Sc{E:Env}{T:Nat->Option D}{H:Nat->Option aM}{N:Nat}(k i f:Nat){e e':TypeId}{m s n q:Nat}{cs:List NC}{ts:List Tree}(hk:H k=some (.bI e e' m s n cs))(hi:cs[i]?=some (.dH (.own f)))(hf:H f=some (.row e' s q ts false)):
    cV E (mk T H N) (mk T (λj=>if f=j then none else if k=j then some (.bI e e' m s n (cs.set i (.cE q ts)))else H j) N):=by
 refine pJ λa w ⟨ν,G,I⟩=>?_
 obtain⟨hn,hob⟩:=I.H k _ hk;obtain⟨xs,r1,hxl,rd,r2,r3,r4,r5⟩:=id hob;obtain⟨_,ys,y1,y2,y3,y4⟩:=I.H f _ hf;have hfk:f≠k:=λe=>by rw[e,hk]at hf;cases hf
 have hil:i<cs.length:=(bP.1 hi).1;obtain⟨x,hx⟩:∃x,xs[i]?=some x:=⟨_,bM (by rw[hxl];exact hil)⟩
 have hxf:x=ν f:=by cases(rd i x _ hx hi).1 with|own _ _=>rfl
 have hset:∀(j q':Nat)(ts':List Tree),(cs.set i (.cE q ts))[j]?=some (.cE q' ts')->(j=i/\q'=q/\ts'=ts)\/(j≠i/\cs[j]?=some (.cE q' ts')):=λj q' ts' h=>by
  by_cases hj:i=j
  .subst hj
   rw[l8 hil]at h;cases h;exact .inl ⟨rfl,rfl,rfl⟩
  .rw[nH hj]at h
   exact .inr ⟨λe=>hj e.symm,h⟩
 have hft:∀(p:Nat)(z:Value)(q':Nat)(ts':List Tree),xs[p]?=some z->cs[p]?=some (.cE q' ts')->∀g,aQ z=some g->aQ (ν f)≠some g:=λp z q' ts' hz hc g hg hg'=>by
  refine I.cF k _ f _ hk hf (λe=>hfk e.symm) g ?_ hg';rcases r1.2 with⟨_,h0⟩|⟨g0,cap,cur,hv,_⟩
  .have:=(bP.1 hz).1
   rw[r1.1,h0]at this;omega
  .exact .inr ⟨g0,p,z,q',ts',by rw[hv];rfl,hc,by rw[kS r1 (by rw[hv];rfl) (bP.1 hz).1];exact hz,hg⟩
 refine⟨ν,G,I.kept,I.cS,I.eL,I.g0,I.sz,I.T,λj o hj=>?_,λj1 o1 j2 o2 h1 h2 hne=>?_⟩
 .simp only at hj
  by_cases hjf:f=j
  .rw[aE hjf]at hj;cases hj
  .rw[aC hjf]at hj
   by_cases hjk:k=j
   .subst hjk
    rw[aE rfl]at hj;cases hj;refine⟨hn,xs,r1,by rw[iI];exact hxl,λp z d hz hc=>?_,λp z q' ts' hz hc=>?_,λp p' z z' q1 q2 t1 t2 hp hz hz' hc hc' g hg hg'=>?_,λp z q' ts' hz hc g hg hg'=>?_,r5⟩
    .by_cases hp:i=p
     .subst hp;rw[l8 hil]at hc;cases hc
     .rw[nH hp]at hc;exact rd p z d hz hc
    .rcases hset p q' ts' hc with⟨rfl,rfl,rfl⟩|⟨_,hc⟩
     .rw[hx]at hz
      cases hz;subst hxf;exact⟨ys,y1,y2,y3,λg hg=>by simpa using y4 g hg⟩
     .exact r2 p z q' ts' hz hc
    .rcases hset p q1 t1 hc with⟨rfl,rfl,rfl⟩|⟨_,hn1⟩ <;> rcases hset p' q2 t2 hc' with⟨rfl,rfl,rfl⟩|⟨_,hn2⟩
     .exact hp rfl
     .rw[hx]at hz;cases hz;rw[hxf]at hg;exact hft p' z' q2 t2 hz' hn2 g hg' hg
     .rw[hx]at hz';cases hz';rw[hxf]at hg';exact hft p z q1 t1 hz hn1 g hg hg'
     .exact r3 p p' z z' q1 q2 t1 t2 hp hz hz' hn1 hn2 g hg hg'
    .rcases hset p q' ts' hc with⟨rfl,rfl,rfl⟩|⟨_,hc⟩
     .rw[hx]at hz;cases hz;rw[hxf]at hg;exact I.cF k _ f _ hk hf (λe=>hfk e.symm) g (dT hg') hg
     .exact r4 p z q' ts' hz hc g hg hg'
   .rw[aC hjk]at hj
    exact I.H j o hj
 .have back:∀j o,(if f=j then none else if k=j then some (.bI e e' m s n (cs.set i (.cE q ts)))else H j)=some o->j≠f/\∃o',H j=some o'/\∀g,bK w (ν j) o g->bK w (ν j) o' g\/(j=k/\aQ (ν f)=some g):=λj o h=>by
   by_cases hjf:f=j
   .rw[aE hjf]at h;cases h
   .rw[aC hjf]at h
    refine⟨λe=>hjf e.symm,?_⟩;by_cases hjk:k=j
    .subst hjk
     rw[aE rfl]at h;cases h;refine⟨_,hk,λg hg=>?_⟩;rcases hg with hg|⟨g0,p,z,q',ts',b1,b2,h3,h4⟩
     .exact .inl (.inl hg)
     .rcases hset p q' ts' b2 with⟨rfl,rfl,rfl⟩|⟨_,hc⟩
      .rw[kS r1 b1 (by rw[hxl];exact hil),hx]at h3
       cases h3;rw[hxf]at h4;exact .inr ⟨rfl,h4⟩
      .exact .inl (.inr ⟨g0,p,z,q',ts',b1,hc,h3,h4⟩)
    .rw[aC hjk]at h
     exact⟨o,h,λg hg=>.inl hg⟩
  obtain⟨n1,p1,hp1,f1⟩:=back j1 o1 h1;obtain⟨n2,p2,hp2,f2⟩:=back j2 o2 h2;intro g hg hg';rcases f1 g hg with g1|⟨e1,g1⟩ <;> rcases f2 g hg' with g2|⟨e2,g2⟩
  .exact I.cF j1 p1 j2 p2 hp1 hp2 hne g g1 g2
  .exact I.cF j1 p1 f _ hp1 hf n1 g g1 g2
  .exact I.cF j2 p2 f _ hp2 hf n2 g g2 g1
  .exact hne (e1.trans e2.symm)
end Go.Ab
/- The abstract machine: a cell of such a row is written over. -/
namespace Go.Ab
open Go.RowKit
theorem aRQ{w:World}{e:TypeId}{s n:Nat}{v:Value}{xs:List Value}(h:w.ownsRow 0 e s v n xs){g off:Nat}(hg:aQ v=some g)(ho:off<xs.length)(u:Value):
    w.there g off 1/\(w.setCells g off [u]).ownsRow 0 e s v n (xs.set off u):=by
 rcases h.2 with⟨rfl,_⟩|⟨g0,cap,cur,hvv,r1,r2,r3,r4,r5,r6⟩
 .cases hg
 .rw[hvv]at hg
  cases hg;have hxn:xs.length=n*s:=h.1;have hxl:xs.length<=cur.size:=by rw[<-r6];simp;omega
  have hget:∀j,j<n*s->cur[j]?=xs[j]?:=λj hj=>by rw[<-r6,eY,aE hj];simp
  refine⟨λj hj=>⟨?_,by simp[World.frozen?,r2]⟩,by rw[iI];exact h.1,.inr ⟨g0,cap,_,hvv,r1,Kc [u] off w cur r2,r3,r4,by rw[Ed];exact r5,?_⟩⟩
  .rw[AV r2,iM (by omega)];rfl
  .apply Ae
   intro i;rw[eY,aXR];by_cases c0:i<n*s
   .rw[aE c0]
    have:(l3 cur off [u]).toList[i]?=(l3 cur off [u])[i]?:=by simp
    rw[this,Ee _ _ _ _ (by simp;omega)];by_cases c1:i<off
    .rw[aE c1,aC (by omega),hget i c0]
    .rw[aC c1]
     by_cases c2:off=i
     .subst c2
      rw[aE (by simp),aE rfl,aE ho];simp
     .rw[aC (by simp;omega),aC c2,hget i c0]
   .rw[aC c0,aC (by omega),rI (by omega)]
section
variable{P:Program}{o:Oper}{σ:St}{fr:Nat}
theorem RO{t:TypeId}{x y:Operand}{k off:Nat}{e e':TypeId}{m s n:Nat}{cs:List NC}{d:D}(hi:(P.info? t).map (·.size)=some 1)(ho:o.op = .store t x y)(hx:σ.ev x=some (.ref k off)){d0:D}(hy:σ.ev y=some d0)(hwk:bR σ.H d0 d)(hd1:∀ν nm w G v,DR ν nm w G v d->v.oneCell'=true)(hk:σ.H k=some (.bI e e' m s n cs))(hoff:off<cs.length):
    aU P o σ fr (.aT []) [(k,some (.bI e e' m s n (cs.set off (.dH d))))]:=by
 intro E σ₁ a w hT hH h100 hf hd ⟨ν,G,I⟩ Q;obtain⟨g1,hg,hvx,hkn⟩:=nZ (I.ev (St.cP hT hx));have hdy:=hwk _ _ _ _ _ _ hH I _ (I.ev (St.cP hT hy));obtain⟨v,hev⟩:∃v,a.eval y=v:=⟨_,rfl⟩
 rw[hev]at hdy;have hone:v.oneCell'=true:=hd1 _ _ _ _ _ hdy;have hob:=(I.H k _ (hH k _ hk)).2;obtain⟨xs,r1,hxl,rd,r2,r3,r4,r5⟩:=id hob;have hG0:G g1=0:=(r5 g1 hg).2;obtain⟨hthere,hrow⟩:=aRQ r1 hg (by rw[hxl];exact hoff) v;have hcv:(a.eval y).cells = #[v]:=by rw[hev];exact AU hone
 have hr:(Instr.storeAt t (.pointer (some ⟨g1,off,none⟩)) (a.eval y)).run P w = .ok () (w.setCells g1 off (a.eval y).cells.toList):=
  Kg (by rw[hcv];simpa using hthere) (by rw[hi,hcv];rfl) (λu hu=>by rw[hcv]at hu;simp at hu;subst hu;exact hone)
 rw[hcv]at hr;obtain⟨s1,s2,s3,s4,s5⟩:=Kb (g:=g1) [v] off w;obtain⟨w',hw'⟩:∃w',w.setCells g1 off [v]=w':=⟨_,rfl⟩
 rw[hw']at hr s1 s2 s3 s4 s5 hrow;have hcell:∀b i u,Cell w G b i u->Cell w' G b i u:=λb i u h=>by
  have hne:b≠g1:=λe=>by have:=h.2;rw[e,hG0]at this;omega
  exact⟨(World.cell?_of_block (a:=⟨b,i,none⟩) (s5 b hne)).trans h.1,h.2⟩
 have hmay:E.may g1:=(r5 g1 hg).1;have hft:∀j oj,σ₁.H j=some oj->j≠k->∀g',bK w' (ν j) oj g' ↔ bK w (ν j) oj g':=λm om hm hmk g'=>qY λb hb=>s5 b λe=>by
  subst e;exact I.cF m om k _ hm (hH k _ hk) hmk b (dT hb) (dT hg)
 have hset:∀(j q':Nat)(ts':List Tree),(cs.set off (.dH d))[j]?=some (.cE q' ts')->j≠off/\cs[j]?=some (.cE q' ts'):=λj q' ts' h=>by
  by_cases hj:off=j
  .subst hj
   rw[l8 hoff]at h;cases h
  .rw[nH hj]at h
   exact⟨λe=>hj e.symm,h⟩
 have hxs:∀j z,j≠off->(xs.set off v)[j]?=some z->xs[j]?=some z:=λj z hj h=>by rw[nH (λe=>hj e.symm)]at h;exact h
 have hfk:∀g',bK w' (ν k) (.bI e e' m s n (cs.set off (.dH d))) g'->bK w (ν k) (.bI e e' m s n cs) g':=λg' hg'=>by
  rcases hg' with h|⟨g0,j,z,q',ts',b1,b2,b3,b4⟩
  .exact .inl h
  .obtain⟨hj,hc⟩:=hset j q' ts' b2
   have hjl:j<xs.length:=by rw[hxl];exact(bP.1 hc).1
   rw[kS hrow b1 (by rw[iI];exact hjl)]at b3;exact .inr ⟨g0,j,z,q',ts',b1,hc,by rw[kS r1 b1 hjl];exact hxs j z hj b3,b4⟩
 unfold Oper.wp;have he:(execOp a.eval o).run P w = .ok .skip w':=by
  unfold execOp;rw[ho];simp only[hvx,Sem.run_bind,hr];rfl
 rw[he,Oper.upon_skip];obtain⟨ob',hob'⟩:∃ob',aM.bI e e' m s n (cs.set off (.dH d))=ob':=⟨_,rfl⟩
 have hnm:∀j,σ₁.nm j=true->(σ₁.aN o.dst (.aT []) [(k,some ob')] fr).nm j=true/\ν j=ν j:=λj hj=>⟨by simp[St.aN,hj],rfl⟩
 rw[hob'];refine⟨put_defers ..,ν,G,⟨s1.trans I.kept.os,s2.trans I.kept.tape,s3.trans I.kept.output,by rw[s4];exact I.kept.size,λb hb hX=>?_⟩,λb i u h=>hcell b i u (I.cS b i u h),I.eL,I.g0,?_,λt' d' h=>?_,λm' om h=>?_,λj1 o1 j2 o2 h1 h2 hne=>?_⟩
 .refine(s5 b (λe=>?_)).trans (I.kept.block b hb hX)
  subst e;rcases hmay with h|h
  .omega
  .exact hX h
 .cases o.dst <;> simp[Act.put,I.sz]
 .simp only[St.aN]at h
  split at h
  .rename_i he'
   cases h;have:=hd t' he';exact⟨undef,by simp[he',Act.put,I.sz,this],EZ⟩
  .rename_i he'
   obtain⟨u,hu,hdu⟩:=I.T t' d' h;refine⟨u,?_,hdu.mono hnm hcell⟩;cases hds:o.dst with
   |none=>simpa[Act.put]using hu
   |some t''=>
     have hne:t''≠t':=λe=>he' (by rw[hds,e])
     simp only[Act.put];rw[nL hne];exact hu
 .by_cases hm:m'=k
  .subst hm
   simp[St.aN,look]at h;subst h;subst hob';have h1:=(I.H m' _ (hH m' _ hk)).1;refine⟨(hnm m' h1).1,xs.set off v,hrow,by rw[iI,iI];exact hxl,λp z d' hz hc=>?_,λp z q' ts' hz hc=>?_,λp p' z z' q1 q2 t1 t2 hp hz hz' hc hc'=>r3 p p' z z' q1 q2 t1 t2 hp (hxs p z (hset p q1 t1 hc).1 hz) (hxs p' z' (hset p' q2 t2 hc').1 hz') (hset p q1 t1 hc).2 (hset p' q2 t2 hc').2,λp z q' ts' hz hc=>r4 p z q' ts' (hxs p z (hset p q' ts' hc).1 hz) (hset p q' ts' hc).2,r5⟩
   .by_cases hp:off=p
    .subst hp
     rw[l8 hoff]at hc;rw[l8 (by rw[hxl];exact hoff)]at hz;cases hc;cases hz;exact⟨hdy.mono hnm hcell,hone⟩
    .rw[nH hp]at hc hz
     exact⟨(rd p z d' hz hc).1.mono hnm hcell,(rd p z d' hz hc).2⟩
   .obtain⟨hj,hc⟩:=hset p q' ts' hc
    have hz:=hxs p z hj hz;obtain⟨ys,a1,a2,a3,a4⟩:=r2 p z q' ts' hz hc;refine⟨ys,⟨a1.1,?_⟩,a2,λi u t hu ht=>(a3 i u t hu ht).mono hcell,a4⟩;rcases a1.2 with h|⟨g3,cap,cur,hvv,z1,z2,z3⟩
    .exact .inl h
    .exact .inr ⟨g3,cap,cur,hvv,z1,by rw[s5 g3 (λe=>by subst e;exact r4 p z q' ts' hz hc g3 (by rw[hvv];rfl) hg)];exact z2,z3⟩
  .have h':σ₁.H m'=some om:=by simpa[St.aN,look,dW hm]using h
   obtain⟨h1,h2⟩:=I.H m' om h';refine⟨(hnm m' h1).1,h2.mono h1 hnm hcell (λg' hg'=>⟨s5 g' (λe=>?_),rfl⟩)⟩;subst e;exact I.cF m' om k _ h' (hH k _ hk) hm g' hg' (dT hg)
 .have back:∀j oj,(σ₁.aN o.dst (.aT []) [(k,some ob')] fr).H j=some oj->∃oj',σ₁.H j=some oj'/\∀g',bK w' (ν j) oj g'->bK w (ν j) oj' g':=λm' om h=>by
   by_cases hm:m'=k
   .subst hm
    simp[St.aN,look]at h;subst h;subst hob';exact⟨_,hH m' _ hk,hfk⟩
   .have h':σ₁.H m'=some om:=by simpa[St.aN,look,dW hm]using h
    exact⟨om,h',λg' hg'=>(hft m' om h' hm g').1 hg'⟩
  obtain⟨o1',h1',f1⟩:=back j1 o1 h1;obtain⟨o2',h2',f2⟩:=back j2 o2 h2;exact λg' hg1 hg2=>I.cF j1 o1' j2 o2' h1' h2' hne g' (f1 g' hg1) (f2 g' hg2)
end
end Go.Ab
/- The abstract machine: a row of one element that holds a row of the walk's own. -/
namespace Go.Ab
open Go.RowKit
theorem aVW:∀(pl:List (Nat×Nat))(ds:List (Nat×D))(cs out:List D),gY pl cs ds=some out->out.length=cs.length:=by
 intro pl ds
 induction ds with
 |nil=>intro cs out h;cases h;rfl
 |cons p r ih=>
   intro cs out h;obtain⟨i,d⟩:=p;simp only[gY]at h;split at h
   .cases h
   .split at h
    .rename_i hc
     simp only[Bool.and_eq_true,kX,eC]at hc;rw[ih _ _ h,tD hc.2]
    .cases h
section
variable{P:Program}{o:Oper}{σ:St}{fr:Nat}
theorem aB9{t e e':TypeId}{m sz n q i0:Nat}{zs:List Value}{parts:Array (Nat×Operand)}{ds:List (Nat×D)}{out:List D}{ts:List Tree}(hB:kM P t e m 1 zs)(ho:o.op = .buildSlice t 1 parts)(hp:nC σ parts.toList ds)
    (hf:gY ((fJ 1).map λi=>(i*m,m)) (zs.map λu=>.t (.v u)) ds=some out) (ho0:out[i0]?=some (.own q)) (hot:∀(i:Nat)(d:D),i≠i0->out[i]?=some d->∃t,d = .t t) (hq:σ.H q=some (.row e' sz n ts false)):
    aU P o σ fr (.own fr) [(fr,some (.bI e e' m sz 1 ((out.map NC.dH).set i0 (.cE n ts)))),(q,none)]:=by
 intro E σ₁ a w hT hHH h100 hf' hd ⟨ν,G,I⟩ Q;have hpl:∀(i:Nat)(p:Nat×Nat),((fJ 1).map λi=>(i*m,m))[i]?=some p->(λi=>some (i*m,m)) i=some p:=λi p h=>by
  rw[cD]at h;obtain⟨j,hj,rfl⟩:=b9.1 h;have h1:=(bP.1 hj).1;have h2:=(bP.1 hj).2;simp only[List.length_range]at h1;rw[List.getElem_range]at h2;rw[h2]
 obtain⟨h1,h2⟩:=hp.rel (λx d d' hx hw=>hw _ _ _ _ _ _ hHH I _ (I.ev (St.cP hT hx)));obtain⟨cells,hres,hsz,hrel⟩:=FZ hpl _ ds zs.toArray (zs.map λu=>.t (.v u)) out h1 h2 (by simp) (λi u d hu hd=>by
     have hz:zs[i]?=some u:=by simpa using hu
     rw[cD,hz]at hd;cases hd;have:=hB.one u (gK.2 ⟨i,hz⟩);exact⟨.t (.v u this),this⟩) hf
 have hlen:out.length=1*m:=by rw[aVW _ _ _ _ hf];simp[hB.zl]
 have hi0:i0<out.length:=(bP.1 ho0).1;have hobq:=(I.H q _ (hHH q _ hq)).2;obtain⟨ys,y1,y2,y3,y4⟩:=id hobq;have hcq:cells[i0]?=some (ν q):=by
  have hlt:i0<cells.size:=by rw[hsz];exact hi0
  obtain⟨hdr,_⟩:=hrel i0 _ _ (iM hlt) ho0;rw[iM hlt];generalize cells[i0]=z at hdr;cases hdr with
  |own _ _=>rfl
 have hr:=hB.run w (parts.map λ(i,x)=>(i,a.eval x)) cells (by rw[Tv];exact hres);unfold Oper.wp;have he:(execOp a.eval o).run P w = .ok (.value (.slice (some ⟨w.heap.size,0,none⟩) 1 1)) (w.alloc (.cells cells e)):=by
  unfold execOp;rw[ho];simp[hr]
 rw[he,Oper.upon_value];obtain⟨w',hw'⟩:∃w',w.alloc (.cells cells e)=w':=⟨_,rfl⟩
 have hA:bB w w':=hw' ▸ (bB.refl w).alloc _;have hnew:w'.heap[w.heap.size]?=some (.cells cells e):=by rw[<-hw'];exact heap_alloc_new w _
 rw[hw']
 let G':bQ:=λb=>if b=w.heap.size then 0 else G b
 have hG:∀b,b<w.heap.size->G' b=G b:=λb hb=>aC (by omega)
 have hcell:∀b i u,Cell w G b i u->Cell w' G' b i u:=λb i u h=>h.dI hA hG
 have hlt:∀g,aQ (ν q)=some g->g<w.heap.size:=λg hg=>hobq.pN hg
 have hown:w'.ownsRow 0 e m (.slice (some ⟨w.heap.size,0,none⟩) 1 1) 1 cells.toList:=⟨by simp[hsz,hlen],.inr ⟨w.heap.size,1,cells,rfl,dC _,hnew,bX _,hB.ml,by rw[hsz,hlen],by rw[iS (by simp[hsz,hlen])]⟩⟩;have hinn:∀(i q':Nat)(ts':List Tree),((out.map NC.dH).set i0 (.cE n ts))[i]?=some (.cE q' ts')->i=i0/\q'=n/\ts'=ts:=λi q' ts' h=>by
  by_cases hi:i0=i
  .subst hi
   rw[l8 (by simpa using hi0)]at h;cases h;exact⟨rfl,rfl,rfl⟩
  .rw[nH hi,cD]at h
   obtain⟨d,_,hd'⟩:=b9.1 h;cases hd'
 refine⟨put_defers ..,bU ν fr (.slice (some ⟨w.heap.size,0,none⟩) 1 1),G',I.CW h100 hf' hd [q] (o:=.bI e e' m sz 1 ((out.map NC.dH).set i0 (.cE n ts))) (λk=>?_) hA.os hA.tape hA.output hA.size (λb hb _=>⟨hA.block b hb,hG b hb⟩) hcell (x:=.slice (some ⟨w.heap.size,0,none⟩) 1 1) (λg hg=>?_) ?_ ?_⟩
 .simp only[look,lL]
  by_cases h1:fr=k
  .rw[aE h1,aE h1.symm]
  .rw[aC h1,aC (dW h1)]
   by_cases h2:q=k
   .rw[aE h2,aE h2.symm]
   .rw[aC h2,aC (dW h2)]
 .rcases hg with hg|⟨g0,i,x,q',ts',a1,a2,a3,a4⟩
  .cases hg;exact .inl (bX _)
  .obtain⟨rfl,rfl,rfl⟩:=hinn i q' ts' a2
   rw[kS hown a1 (by simp[hsz];exact hi0)]at a3;have:x=ν q:=by simp[hcq]at a3;exact a3.symm
   subst this;exact .inr ⟨q,by simp,_,hHH q _ hq,a4⟩
 .rw[eR]
  refine⟨cells.toList,by rw[bT];exact hown,by simp[hsz],λi x d hx hc=>?_,λi x q' ts' hx hc=>?_,λi j x y q1 q2 t1 t2 hij hx hy hc hc'=>?_,λi x q' ts' hx hc g hg=>?_,λg hg=>?_⟩
  .by_cases hi:i0=i
   .subst hi
    rw[l8 (by simpa using hi0)]at hc;cases hc
   .rw[nH hi,cD]at hc
    obtain⟨d',hd1,hd2⟩:=b9.1 hc;cases hd2;obtain⟨t,rfl⟩:=hot i d (λe=>hi e.symm) hd1;obtain⟨b1,b2⟩:=hrel i x _ (by simpa using hx) hd1;cases b1 with
    |t b1=>exact⟨.t (b1.mono hcell),b2⟩
  .obtain⟨rfl,rfl,rfl⟩:=hinn i q' ts' hc
   have:x=ν q:=by simp[hcq]at hx;exact hx.symm
   subst this;refine⟨ys,⟨y1.1,?_⟩,y2,λi u t hu ht=>(y3 i u t hu ht).mono hcell,λg hg=>⟨(y4 g hg).1,by rw[hG g (hlt g hg)];simpa using(y4 g hg).2⟩⟩;rcases y1.2 with h|⟨g,cap,cur,hvv,z1,z2,z3⟩
   .exact .inl h
   .exact .inr ⟨g,cap,cur,hvv,z1,by rw[hA.block g (hlt g (by rw[hvv];rfl))];exact z2,z3⟩
  .exact absurd ((hinn i q1 t1 hc).1.trans (hinn j q2 t2 hc').1.symm) hij
  .obtain⟨rfl,rfl,rfl⟩:=hinn i q' ts' hc
   have:x=ν q:=by simp[hcq]at hx;exact hx.symm
   subst this;rw[bT];intro h;cases h;exact absurd (hlt _ hg) (Nat.lt_irrefl _)
  .rw[bT]at hg
   cases hg;exact⟨.inl I.kept.size,aE rfl⟩
 .have:DR (bU ν fr (.slice (some ⟨w.heap.size,0,none⟩) 1 1)) (σ₁.aN o.dst .any [(fr,some (.bI e e' m sz 1 ((out.map NC.dH).set i0 (.cE n ts)))),(q,none)] fr).nm w' G' (bU ν fr (.slice (some ⟨w.heap.size,0,none⟩) 1 1) fr) (.own fr):=.own (jH ..) (by rw[bT];rfl)
  rw[bT]at this;exact this
end
end Go.Ab
/- The abstract machine: append of rows whose elements hold rows of the walk's own. -/
namespace Go.Ab
open Go.RowKit
section
variable{P:Program}{o:Oper}{σ:St}{fr:Nat}
inductive Tn (σ:St) (s:Operand) (e e':TypeId) (m sz:Nat):Option Nat->Nat->List NC->Prop
 |own {k n:Nat} {cs:List NC} (h:σ.ev s=some (.own k)) (hk:σ.H k=some (.bI e e' m sz n cs)):Tn σ s e e' m sz (some k) n cs
 |nil (h:σ.ev s=some (.t (.v (.slice none 0 0)))):Tn σ s e e' m sz none 0 []
def Td(cs:List NC):Prop:=∀(i:Nat)(d:D),cs[i]?=some (.dH d)->∃t,d = .t t
theorem aBh{t e e':TypeId}{z:Value}{bytes mm sz q n n':Nat}{s x:Operand}{k0:Option Nat}{ls ms:List NC}(hT:kA P t e z mm bytes)(ho:o.op = .call { callee:=.builtin .append,args:=#[s,x],argTypes:=#[t,t] })
    (hs:Tn σ s e e' mm sz k0 n ls) (hx:σ.ev x=some (.own q)) (hq:σ.H q=some (.bI e e' mm sz n' ms)) (hne:k0≠some q) (hp1:Td ls) (hp2:Td ms) (hb:(n+n')*bytes<=140737488355328/\n+n'<=maxLen):
    aU P o σ fr (.own fr) (tR k0 q fr (.bI e e' mm sz (n+n') (ls++ms))):=by
 intro E σ₁ a w hTT hHH h100 hf hd ⟨ν,G,I⟩ Q;have hvx:=I.ev (St.cP hTT hx);obtain⟨vx,hex⟩:∃v,a.eval x=v:=⟨_,rfl⟩
 rw[hex]at hvx;cases hvx with
 |own hkq _=>
 have hobq:=(I.H q _ (hHH q _ hq)).2;obtain⟨us,u1,hul,ud,u2,u3,u4,u5⟩:=id hobq;have hunl:us.length=n'*mm:=u1.1;have hone:∀u∈us,u.oneCell'=true:=λu hu=>by
  obtain⟨i,hi⟩:=gK.1 hu;have hlt:=(bP.1 hi).1;rw[hul]at hlt;obtain⟨c,hc⟩:∃c,ms[i]?=some c:=⟨_,bM hlt⟩
  cases c with
  |dH d=>exact(ud i u d hi hc).2
  |cE q ts=>obtain⟨ys,y1,_⟩:=u2 i u q ts hi hc;exact kV y1
 obtain⟨ax,c,hxv,hrd,hnone⟩:∃ax c,ν q = .slice ax n' c/\Rd w ax us/\(ax=none->c=0):=by
  rcases u1.2 with⟨hv,hn⟩|⟨g,cap,cur,hv,_⟩
  .have hx:us=[]:=Fy (by rw[hunl,hn,pT])
   exact⟨none,0,by rw[hv,hn],by rw[hx];exact Rd.nil,λ_=>rfl⟩
  .exact⟨_,cap,hv,λj u hj=>⟨_,rfl,u1.cells (by rw[hv];rfl) j u hj⟩,λe=>by cases e⟩
 have hrow:∃v,a.eval s=v/\∃ob:eR E (λ_=>v) σ₁.nm w G 0 (.bI e e' mm sz n ls),(∀k,some k=k0->ν k=v/\σ₁.H k=some (.bI e e' mm sz n ls))/\(k0=none->aQ v=none/\n=0):=by
  cases hs with
  | @own k _ _ h hk=>
    have hv:=I.ev (St.cP hTT h);obtain⟨v,he⟩:∃v,a.eval s=v:=⟨_,rfl⟩
    rw[he]at hv;cases hv with
    |own _ _=>
      obtain⟨xs,b1,b2,b3,b4⟩:=(I.H _ _ (hHH _ _ hk)).2;exact⟨_,he,⟨xs,b1,b2,λi x d hx hc=>by
       obtain⟨b5,b6⟩:=b3 i x d hx hc;obtain⟨t,rfl⟩:=hp1 i d hc;cases b5 with
       |t b5=>exact⟨.t b5,b6⟩,b4⟩,(λk' hk'=>by cases hk';exact⟨rfl,hHH _ _ hk⟩),(λe=>by cases e)⟩
  |nil h=>
    have hv:=bY (I.ev (St.cP hTT h));exact⟨_,hv,nJ.bI.ok rfl,(λk h=>by cases h),λ_=>⟨rfl,rfl⟩⟩
 obtain⟨v,hsv,hobv,hk0,hk0n⟩:=hrow;obtain⟨xs,r1,hxl,rd,r2,r3,r4,r5⟩:=id hobv;change w.ownsRow 0 e mm v n xs at r1;change ∀(i:Nat)(x:Value)(q:Nat)(ts:List Tree),xs[i]?=some x->ls[i]?=some (.cE q ts)->∀g,aQ x=some g->aQ v≠some g at r4
 change ∀g,aQ v=some g->E.may g/\G g=0 at r5
 obtain⟨v',w',hr,p1,q1,q2,q3,q4,q5,q6,q7⟩:=Ej (ty:=o.type) hT r1 (m:=n') (c:=c) hunl hrd hnone hone hb.2 hb.1;unfold Oper.wp;have he:(execOp a.eval o).run P w = .ok (.value v') w':=by
  unfold execOp;rw[ho];simp[resolve,invoke,builtin,hsv,hex,hxv,hr]
 rw[he,Oper.upon_value];rw[<-iB r1]at q5 q6 q7;rw[<-iB p1]at q7
 -- blocks of the one are none of the other
 have dis1:∀g,bK w v (.bI e e' mm sz n ls) g->¬ bK w (ν q) (.bI e e' mm sz n' ms) g:=λg hg hg'=>by
  cases k0 with
  |none=>
    rcases hg with h|⟨_,_,_,_,_,h,_⟩
    .rw[(hk0n rfl).1]at h;cases h
    .rw[(hk0n rfl).1]at h;cases h
  |some k=>
    obtain⟨h1,h2⟩:=hk0 k rfl;subst h1;exact I.cF k _ q _ h2 (hHH q _ hq) (λe=>hne (by rw[e])) g hg hg'
 have inx:∀(i:Nat)(x:Value)(q1:Nat)(ts:List Tree),xs[i]?=some x->ls[i]?=some (.cE q1 ts)->∀g,aQ x=some g->bK w v (.bI e e' mm sz n ls) g:=λi x q1 ts hx hc g hg=>by
  have hi:=(bP.1 hx).1;rcases r1.2 with⟨_,h0⟩|⟨g0,cap,cur,hv,_⟩
  .rw[r1.1,h0]at hi;omega
  .exact .inr ⟨g0,i,x,q1,ts,by rw[hv];rfl,hc,by rw[kS r1 (by rw[hv];rfl) hi];exact hx,hg⟩
 have inu:∀(i:Nat)(x:Value)(q1:Nat)(ts:List Tree),us[i]?=some x->ms[i]?=some (.cE q1 ts)->∀g,aQ x=some g->bK w (ν q) (.bI e e' mm sz n' ms) g:=λi x q1 ts hx hc g hg=>by
  have hi:=(bP.1 hx).1;rcases u1.2 with⟨_,h0⟩|⟨g0,cap,cur,hv,_⟩
  .rw[u1.1,h0]at hi;omega
  .exact .inr ⟨g0,i,x,q1,ts,by rw[hv];rfl,hc,by rw[kS u1 (by rw[hv];rfl) hi];exact hx,hg⟩
 -- a cell of the new row
 have cell2:∀(i:Nat)(x:Value)(c:NC),(xs++us)[i]?=some x->(ls++ms)[i]?=some c->(xs[i]?=some x/\ls[i]?=some c)\/(ls.length<=i/\us[i-ls.length]?=some x/\ms[i-ls.length]?=some c):=λi x c hx hc=>by
  by_cases hi:i<ls.length
  .rw[cZ (by rw[hxl];exact hi)]at hx
   rw[cZ hi]at hc;exact .inl ⟨hx,hc⟩
  .rw[eE (by rw[hxl];omega),hxl]at hx
   rw[eE (by omega)]at hc;exact .inr ⟨by omega,hx,hc⟩
 have outv:∀(i:Nat)(x:Value)(q1:Nat)(ts:List Tree),(xs++us)[i]?=some x->(ls++ms)[i]?=some (.cE q1 ts)->∀g,aQ x=some g->g<w.heap.size/\aQ v≠some g:=λi x q1 ts hx hc g hg=>by
  rcases cell2 i x _ hx hc with⟨hx,hc⟩|⟨_,hx,hc⟩
  .exact⟨(hobv.ft (inx i x q1 ts hx hc g hg)).1,r4 i x q1 ts hx hc g hg⟩
  .have h:=inu _ x q1 ts hx hc g hg
   exact⟨(hobq.ft h).1,λh'=>dis1 g (dT h') h⟩
 have outv':∀(i:Nat)(x:Value)(q1:Nat)(ts:List Tree),(xs++us)[i]?=some x->(ls++ms)[i]?=some (.cE q1 ts)->∀g,aQ x=some g->aQ v'≠some g:=λi x q1 ts hx hc g hg h=>by
  obtain⟨h1,h2⟩:=outv i x q1 ts hx hc g hg;rcases q7 g h with h3|h3
  .omega
  .exact h2 h3
 let G':bQ:=λb=>if aQ v'=some b then 0 else G b
 have hcell:∀b i u,Cell w G b i u->Cell w' G' b i u:=λb i u h=>by
  have hb':aQ v≠some b:=λhb'=>by have:=h.2;rw[(r5 b hb').2]at this;omega
  refine⟨(World.cell?_of_block (a:=⟨b,i,none⟩) (q5 b h.lt hb')).trans h.1,?_⟩;have:aQ v'≠some b:=λe=>by
   rcases q7 b e with h'|h'
   .have:=h.lt;omega
   .exact hb' h'
  show i<if aQ v'=some b then 0 else G b
  rw[aC this];exact h.2
 have hmv:∀{x:Value}{n:Nat}{ys:List Value},(∀g,aQ x=some g->g<w.heap.size/\aQ v≠some g)->w.ownsRow 0 e' sz x n ys->w'.ownsRow 0 e' sz x n ys:=λhx h1=>by
  refine⟨h1.1,?_⟩;rcases h1.2 with h|⟨g,cap,cur,hvv,z1,z2,z3⟩
  .exact .inl h
  .have:=hx g (by rw[hvv];rfl)
   exact .inr ⟨g,cap,cur,hvv,z1,by rw[q5 g this.1 this.2];exact z2,z3⟩
 refine⟨put_defers ..,bU ν fr v',G',I.CW h100 hf hd (k0.toList++[q]) (o:=.bI e e' mm sz (n+n') (ls++ms)) (λk=>?_) q1 q2 q3 q4 (λb hb hnk=>?_) hcell (x:=v') (λg hg=>?_) ?_ ?_⟩
 .cases k0 with
  |none=>
    simp only[tR,look,aWx,fK,lL];by_cases h1:fr=k
    .rw[aE h1,aE h1.symm]
    .rw[aC h1,aC (dW h1)]
     by_cases h2:q=k
     .rw[aE h2,aE h2.symm]
     .rw[aC h2,aC (dW h2)]
  |some j=>
    simp only[tR,look,aWw,Af,fK,eD,aXI,or_false];by_cases h1:fr=k
    .rw[aE h1,aE h1.symm]
    .rw[aC h1,aC (dW h1)]
     by_cases h2:j=k
     .rw[aE h2,aE (.inl h2.symm)]
     .rw[aC h2]
      by_cases h3:q=k
      .rw[aE h3,aE (.inr h3.symm)]
      .rw[aC h3,aC (by rintro(h|h);exact h2 h.symm;exact h3 h.symm)]
 .have hnv:aQ v≠some b:=λe=>by
   cases k0 with
   |none=>rw[(hk0n rfl).1]at e;cases e
   |some j=>
     obtain⟨h1,h2⟩:=hk0 j rfl;exact hnk j (by simp) _ h2 (dT (by rw[h1];exact e))
  refine⟨q5 b hb hnv,aC (λe=>?_)⟩;rcases q7 b e with h|h
  .omega
  .exact hnv h
 .rcases hg with hg|⟨g0,i,x,q1,ts,a1,a2,a3,a4⟩
  .rcases q7 g hg with h|h
   .exact .inl h
   .cases k0 with
    |none=>rw[(hk0n rfl).1]at h;cases h
    |some j=>
      obtain⟨h1,h2⟩:=hk0 j rfl;exact .inr ⟨j,by simp,_,h2,dT (by rw[h1];exact h)⟩
  .right
   have hlen:(xs++us).length=(ls++ms).length:=by rw[bF,bF,hxl,hul]
   rw[kS p1 a1 (by rw[hlen];exact(bP.1 a2).1)]at a3;rcases cell2 i x _ a3 a2 with⟨hx,hc⟩|⟨_,hx,hc⟩
   .have h:=inx i x q1 ts hx hc g a4
    cases k0 with
    |none=>
      have hi:=(bP.1 hx).1;rw[r1.1,(hk0n rfl).2]at hi;omega
    |some j=>
      obtain⟨h1,h2⟩:=hk0 j rfl;exact⟨j,by simp,_,h2,by rw[h1];exact h⟩
   .exact⟨q,by simp,_,hHH q _ hq,inu _ x q1 ts hx hc g a4⟩
 .refine⟨xs++us,by rw[bT];exact p1,by rw[bF,bF,hxl,hul],λi x d hx hc=>?_,λi x q1 ts hx hc=>?_,λi j x y q1 q2 t1 t2 hij hx hy hc hc' g hg=>?_,λi x q1 ts hx hc g hg=>by rw[bT];exact outv' i x q1 ts hx hc g hg,λg hg=>?_⟩
  .rcases cell2 i x _ hx hc with⟨hx,hc⟩|⟨_,hx,hc⟩
   .obtain⟨b1,b2⟩:=rd i x d hx hc
    obtain⟨t,rfl⟩:=hp1 i d hc;cases b1 with
    |t b1=>exact⟨.t (b1.mono hcell),b2⟩
   .obtain⟨b1,b2⟩:=ud _ x d hx hc
    obtain⟨t,rfl⟩:=hp2 _ d hc;cases b1 with
    |t b1=>exact⟨.t (b1.mono hcell),b2⟩
  .have hG0:∀g,aQ x=some g->G' g=G g:=λg hg=>aC (outv' i x q1 ts hx hc g hg)
   have ho:=outv i x q1 ts hx hc;rcases cell2 i x _ hx hc with⟨hx,hc⟩|⟨_,hx,hc⟩
   .obtain⟨ys,y1,y2,y3,y4⟩:=r2 i x q1 ts hx hc
    exact⟨ys,hmv ho y1,y2,λi u t hu ht=>(y3 i u t hu ht).mono hcell,λg hg=>by rw[hG0 g hg];exact y4 g hg⟩
   .obtain⟨ys,y1,y2,y3,y4⟩:=u2 _ x q1 ts hx hc
    exact⟨ys,hmv ho y1,y2,λi u t hu ht=>(y3 i u t hu ht).mono hcell,λg hg=>by rw[hG0 g hg];exact y4 g hg⟩
  .rcases cell2 i x _ hx hc with⟨hx,hc⟩|⟨hi,hx,hc⟩ <;> rcases cell2 j y _ hy hc' with⟨hy,hc'⟩|⟨hj,hy,hc'⟩
   .exact r3 i j x y q1 q2 t1 t2 hij hx hy hc hc' g hg
   .exact λhg'=>dis1 g (inx i x q1 t1 hx hc g hg) (inu _ y q2 t2 hy hc' g hg')
   .exact λhg'=>dis1 g (inx j y q2 t2 hy hc' g hg') (inu _ x q1 t1 hx hc g hg)
   .exact u3 _ _ x y q1 q2 t1 t2 (by omega) hx hy hc hc' g hg
  .rw[bT]at hg
   refine⟨?_,aE hg⟩;rcases q7 g hg with h|h
   .exact .inl (Nat.le_trans I.kept.size h)
   .exact(r5 g h).1
 .have:DR (bU ν fr v') (σ₁.aN o.dst .any (tR k0 q fr (.bI e e' mm sz (n+n') (ls++ms))) fr).nm w' G' (bU ν fr v' fr) (.own fr):=.own (jH ..) (by rw[bT];exact kV p1)
  rw[bT]at this;exact this
end
end Go.Ab
