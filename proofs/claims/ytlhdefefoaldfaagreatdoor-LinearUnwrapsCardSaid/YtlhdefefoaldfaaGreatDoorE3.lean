/- The abstract machine: rows, rows of rows, maps. Conditions are in the theorems. -/
import Derived.Test.YtlhdefefoaldfaaGreatDoorE2
import Derived.MapKept
open Array renaming ext_getElem?->aBC,getElem?_eq_none->Jy,getElem?_eq_some_iff->lI,length_toList->p7,range->aNH
open List renaming append_assoc->iC,drop_eq_nil_of_le->oP,flatMap_cons->jX,flatten_cons->vW,getElem?_append_left->gK,getElem?_append_right->dW,getElem?_eq_getElem->dE,getElem?_eq_none->Fg,getElem?_eq_some_iff->dC,getElem?_map->dT,getElem?_range->SD,nil_append->kR,replicate->e9,replicate_succ->rF
open Nat renaming add_mul->jW,le_refl->bZ,mul_one->Ju,zero_add->fJ
open Option renaming map_eq_some_iff->cV,map_some->lG
open Option.some renaming injEq->kP
/- The abstract machine: the same laws from facts on types that a program can print. -/
namespace Go.Ab
open Go.RowKit
inductive zG {α:Type}:List α->Nat->List α->List α->Prop
 |done {l:List α}:zG l 0 [] l
 |skip {x:α} {l new l':List α} {off:Nat} (r:zG l off new l'):zG (x::l) (off+1) new (x::l')
 |put {x y:α} {l new l':List α} (r:zG l 0 new l'):zG (x::l) 0 (y::new) (y::l')
theorem zG.eq{α:Type}{l new l':List α}{off:Nat}(h:zG l off new l'):l'=dG l off new/\off+new.length<=l.length:=by
 induction h with
 |done=>simp[dG]
 |skip r ih=>exact⟨by rw[ih.1];simp[dG,Nat.add_right_comm],by simp;have:=ih.2;omega⟩
 |put r ih=>exact⟨by rw[ih.1];simp[dG],by simp;have:=ih.2;omega⟩
inductive CV {α:Type}:List α->Nat->Nat->List α->Prop
 |done {l:List α}:CV l 0 0 []
 |skip {x:α} {l ds:List α} {off m:Nat} (r:CV l off m ds):CV (x::l) (off+1) m ds
 |take {x:α} {l ds:List α} {m:Nat} (r:CV l 0 m ds):CV (x::l) 0 (m+1) (x::ds)
theorem CV.eq{α:Type}{l ds:List α}{off m:Nat}(h:CV l off m ds):(l.drop off).take m=ds/\ds.length=m:=by
 induction h with
 |done=>simp
 |skip r ih=>exact⟨by simpa using ih.1,ih.2⟩
 |take r ih=>exact⟨by simpa using ih.1,by simpa using ih.2⟩
inductive Jx (pl:List (Nat×Nat)):List D->List (Nat×D)->List D->Prop
 |nil {cells:List D}:Jx pl cells [] cells
 |cons {cells cells' out cs:List D} {i off size:Nat} {d:D} {rest:List (Nat×D)} (hp:pl[i]?=some (off,size)) (hv:d.val=true) (hc:d.cells=cs) (hl:cs.length=size) (hs:zG cells off cs cells') (r:Jx pl cells' rest out):Jx pl cells ((i,d)::rest) out
theorem Jx.eq{pl:List (Nat×Nat)}{cells out:List D}{parts:List (Nat×D)}(h:Jx pl cells parts out):oE pl cells parts=some out:=by
 induction h with
 |nil=>rfl
 |cons hp hv hc hl hs r ih=>
   obtain⟨h1,h2⟩:=hs.eq;subst hc;simp only[oE,hp];rw[aJ (by simp[hv,hl];omega),<-h1];exact ih
def kI(P:Program)(t:TypeId):Option Bool:=(P.underlying t).map λ|.struct _|.array _ _=>true|_=>false
theorem qM{P:Program}{t:TypeId}{b:Bool}(h:kI P t=some b):∃d,P.underlying t=some d/\d.isRow=b:=by
 unfold kI at h;obtain⟨d,h1,h2⟩:=cV.1 h;refine⟨d,h1,?_⟩;rw[<-h2];cases d <;> rfl
section
variable{P:Program}{o:Oper}{σ:St}{fr:Nat}
theorem J3{t:TypeId}{x:Operand}{k off:Nat}{ob:aZ}{d:D}(hu:kI P t=some false)(ho:o.op = .load t x)(hx:σ.ev x=some (.ref k off))(hk:σ.H k=some ob)(hc:ob.cells[off]?=some d):bI P o σ fr d []:=by
 obtain⟨dsc,h1,h2⟩:=qM hu;exact a5p ho h1 h2 hx hk hc
theorem Z7{t:TypeId}{x:Operand}{k off m:Nat}{ob:aZ}{ds:List D}(hu:kI P t=some true)(hi:(P.info? t).map (·.size)=some m)(ho:o.op = .load t x)(hx:σ.ev x=some (.ref k off))(hk:σ.H k=some ob)(hc:(ob.cells.drop off).take m=ds)(hm:ds.length=m):bI P o σ fr (.agg ds) []:=by
 obtain⟨dsc,h1,h2⟩:=qM hu;exact a5o ho h1 h2 hi hx hk hc hm
theorem a5A{e:TypeId}{s n off:Nat}{ts xs:List Tree}{new:List D}(h:off+new.length<=ts.length)(hx:vQ new=some xs):(aZ.row e s n ts false).put off new=some (.row e s n (dG ts off xs) false):=by
 simp only[aZ.put];rw[aJ ⟨h,trivial⟩,hx];rfl
theorem str{t e:TypeId}{x y:Operand}{k off s n:Nat}{ts xs:List Tree}{d:D}(hy:CU σ y d)(ho:o.op = .store t x y)(hi:(P.info? t).map (·.size)=some d.cells.length)(hx:σ.ev x=some (.ref k off))(hv:d.val=true)(hk:σ.H k=some (.row e s n ts false))
    (h:off+d.cells.length<=ts.length) (hxs:vQ d.cells=some xs) (hpos:0<d.cells.length):bI P o σ fr (.bD []) [(k,some (.row e s n (dG ts off xs) false))]:=Bx ho hi hx hy hv hk (a5A h hxs) hpos
theorem lp1{t:TypeId}{x:Operand}{ts:List Tree}{off:Nat}{tr:Tree}(hu:kI P t=some false)(ho:o.op = .load t x)(hx:σ.ev x=some (.ptr ts off))(hc:ts[off]?=some tr):bI P o σ fr (.t tr) []:=by
 obtain⟨dsc,h1,h2⟩:=qM hu;exact a5n ho h1 h2 hx hc
theorem lpn{t:TypeId}{x:Operand}{ts xs:List Tree}{off m:Nat}(hu:kI P t=some true)(hi:(P.info? t).map (·.size)=some m)(ho:o.op = .load t x)(hx:σ.ev x=some (.ptr ts off))(hc:(ts.drop off).take m=xs)(hm:xs.length=m):bI P o σ fr (.agg (xs.map .t)) []:=by
 obtain⟨dsc,h1,h2⟩:=qM hu;exact a5m ho h1 h2 hi hx hc hm
theorem a6S{e:TypeId}{z:Value}(ho:o.op = .alloc e)(hz:(P.info? e).bind (·.zero)=some z)(h1:F3 z=true):bI P o σ fr (.ref fr 0) [(fr,some (.box e (jI z).cells))]:=by
 intro E σ₁ a w hT hH h100 hf hd hR Q;obtain⟨i,hi,hz'⟩:=Option.bind_eq_some_iff.1 hz;have hb:bI P { o with op:=.box e (.const z) } σ fr (.ref fr 0) [(fr,some (.box e (jI z).cells))]:=aKp rfl (by simp[St.ev,h1]) (by cases z <;> first|rfl|cases h1);have h:=hb E σ₁ a w hT hH h100 hf hd hR Q;unfold Oper.wp at h ⊢;have he:(execOp a.eval o).run P w=(execOp a.eval { o with op:=.box e (.const z) }).run P w:=by
  unfold execOp;rw[ho];simp[Instr.alloc,Instr.box,zeroValue,typeInfo,hi,hz',Act.eval]
 rw[he];exact h
theorem SK(z:List Value)(hz:0<z.length):∀(len i:Nat),i<len*z.length->((e9 len z).flatten)[i]?=z[i%z.length]?
 |0,i,h=>by omega
 |len+1,i,h=>by
   rw[rF,vW];by_cases hi:i<z.length
   .rw[gK hi,Nat.mod_eq_of_lt hi]
   .rw[dW (by omega),SK z hz len (i-z.length) (by rw[jW,Nat.one_mul]at h;omega)]
    congr 1
    conv=>rhs;rw[show i=(i-z.length)+z.length by omega,Nat.add_mod_right]
theorem aAm.of{t e:TypeId}{z:Value}{s bytes:Nat}(hT:p9 P t e z s bytes)(h1:∀u∈z.cells.toList,u.oneCell'=true)(len:Nat)(hl:len*s<=2^24):aAm P t e s len (e9 len z.cells.toList).flatten:=by
 have hs:=hT.s;have hzl:z.cells.toList.length=s:=by rw[p7];exact hT.z
 have hlen:(e9 len z.cells.toList).flatten.length=len*s:=by simp[hT.z]
 refine⟨hT.u,λu hu=>?_,hlen,?_,λw parts cells hf=>?_⟩
 .obtain⟨l,h2,h3⟩:=List.mem_flatten.1 hu
  rw[(List.mem_replicate.1 h2).2]at h3;exact h1 u h3
 .have:len<=len*s:=Nat.le_mul_of_pos_right _ hs
  unfold maxLen;omega
 .obtain⟨i,hi,hz,hsz,hby⟩:=info_parts hT.i
  by_cases h0:len=0
  .subst h0
   simp at hf;have h9:∀f:Nat->Value,Array.map f (aNH 0) = #[]:=λf=>by simp
   simp[Instr.buildSlice,run_underlying hT.u,sizeOf,typeInfo,hi,hsz,newRow,h9,hf]
  .refine run_buildSlice w t e len parts cells i z hT.u hi hz (by rw[hsz];omega) (by rw[hsz];exact Nat.mul_ne_zero h0 (by omega)) ?_
   rw[hsz];have:(aNH (len*s)).map (z.cells[· % z.cells.size]!)=(e9 len z.cells.toList).flatten.toArray:=by
    apply aBC;intro j;by_cases hj:j<len*s
    .have hm:j%z.cells.size<z.cells.size:=Nat.mod_lt _ (by rw[hT.z];exact hs)
     have e1:((aNH (len*s)).map (z.cells[· % z.cells.size]!))[j]?=z.cells[j%z.cells.size]?:=by simp[hj,hm]
     have e2:=SK z.cells.toList (by rw[hzl];exact hs) len j (by rw[hzl];exact hj);rw[hzl,<-hT.z]at e2;rw[e1];simpa using e2.symm
    .rw[Jy (by simp;omega),Jy (by rw[List.size_toArray,hlen];omega)]
   rw[this];exact hf
end
theorem FY{E:Env}{s s':St}(h:∀(a:Act)(w:World),R E s a.tmps w->R E s' a.tmps w):eF E s s':=λtm w hR=>h ⟨tm,[]⟩ w hR
theorem a82{E:Env}{T:Nat->Option D}{H:Nat->Option aZ}{N:Nat}(k:Nat){e:TypeId}{s n:Nat}{ts:List Tree}(hk:H k=some (.row e s n ts false)):
    eF E (mk T H N) (mk T (λj=>if k=j then some (.row e s n ts true)else H j) N):=by
 refine FY λa w ⟨ν,G,I⟩=>⟨ν,λb=>if bQ (ν k)=some b then n*s else G b,?_⟩
 obtain⟨hn,xs,r1,r2,r3,r4⟩:=I.H k _ hk;have hcell:∀b i u,Cell w G b i u->Cell w (λb=>if bQ (ν k)=some b then n*s else G b) b i u:=λb i u hc=>by
  refine⟨hc.1,?_⟩;have h2:=hc.2;by_cases hb:bQ (ν k)=some b
  .have:=(r4 b hb).2
   rw[this]at h2;simp at h2
  .simp only[aD hb];exact h2
 refine⟨I.kept,λb i u hc=>hcell b i u (I.eR b i u hc),I.gE,λb hb hX=>?_,I.sz,λt d ht=>?_,λj o hj=>?_,λj1 o1 j2 o2 h1 h2 hne=>?_⟩
 .have hne:bQ (ν k)≠some b:=λe=>by
   rcases(r4 b e).1 with h|h
   .omega
   .exact hX h
  simp only[aD hne];exact I.g0 b hb hX
 .obtain⟨v,hv,hdv⟩:=I.T t d ht
  exact⟨v,hv,hdv.mono (λ_ h=>⟨h,rfl⟩) hcell⟩
 .by_cases hjk:k=j
  .subst hjk
   simp only[gZ,kP]at hj;subst hj;exact⟨hn,xs,r1,r2,λi u t hu ht=>(r3 i u t hu ht).mono hcell,λg hg=>⟨(r4 g hg).1,by simp[hg]⟩⟩
  .simp only[aD hjk]at hj
   obtain⟨q1,q2⟩:=I.H j o hj;refine⟨q1,q2.mono q1 (λ_ h=>⟨h,rfl⟩) hcell (λg hg=>⟨rfl,aD (λe=>?_)⟩)⟩;exact I.eB j o k _ hj hk (λe=>hjk e.symm) g hg e
 .have back:∀j o,(if k=j then some (.row e s n ts true)else H j)=some o->∃o',H j=some o'/\∀g,cZ w (ν j) o g->cZ w (ν j) o' g:=λj o h=>by
   by_cases hj:k=j
   .subst hj;simp only[gZ,kP]at h;subst h;exact⟨_,hk,λ_ h=>h⟩
   .rw[aD hj]at h;exact⟨o,h,λ_ h=>h⟩
  obtain⟨p1,hp1,f1⟩:=back j1 o1 h1;obtain⟨p2,hp2,f2⟩:=back j2 o2 h2;exact λg hg hg'=>I.eB j1 p1 j2 p2 hp1 hp2 hne g (f1 g hg) (f2 g hg')
inductive rM:aZ->Prop
 |row {e:TypeId} {s:Nat} {st:Bool}:rM (.row e s 0 [] st)
 |nest {e e':TypeId} {s:Nat}:rM (.nest e e' s [])
 |dZ {e e':TypeId} {m s:Nat}:rM (.dZ e e' m s 0 [])
theorem rM.ok{o:aZ}(h:rM o){E:Env}{ν:Nat->Value}{nm:Nat->Bool}{w:World}{G:cE}{k:Nat}(hk:ν k = .slice none 0 0):fI E ν nm w G k o:=by
 cases h with
 |row=>exact⟨[],by rw[hk];exact World.ownsRow_nil w 0 _ _,rfl,λi u t h=>by simp at h,λg hg=>by rw[hk]at hg;cases hg⟩
 |nest=>exact⟨[],by rw[hk];exact World.ownsRow_nil w 0 _ _,λi x p h=>by simp at h,λi j x y _ h=>by simp at h,λi x h=>by simp at h,λg hg=>by rw[hk]at hg;cases hg⟩
 |dZ=>exact⟨[],by rw[hk];exact World.ownsRow_nil w 0 _ _,rfl,λi x d h=>by simp at h,λi x q ts h=>by simp at h,λi j x y q q' ts ts' _ h=>by simp at h,λi x q ts h=>by simp at h,λg hg=>by rw[hk]at hg;cases hg⟩
theorem rM.cZ{o:aZ}(h:rM o){w:World}{g:Nat}:¬ Ab.cZ w (.slice none 0 0) o g:=by
 cases h with
 |row=>intro h;cases h
 |nest=>
   rintro(h|⟨_,_,_,h,_⟩)
   .cases h
   .cases h
 |dZ=>
   rintro(h|⟨_,_,_,_,_,h,_⟩)
   .cases h
   .cases h
theorem a84{E:Env}{T:Nat->Option D}{H:Nat->Option aZ}{N:Nat}(t:Nat){o:aZ}(ho:rM o)(ht:T t=some (.t (.v (.slice none 0 0))))(hN:100<=N):
    eF E (mk T H N) (mk (λx=>if t=x then some (.own N)else T x) (λk=>if N=k then some o else H k) (N+8)):=by
 refine FY λa w ⟨ν,G,I⟩=>?_
 obtain⟨v,hv,hdv⟩:=I.T t _ ht;have hv':=cL hdv;subst hv';have htm:t<E.m:=by rw[<-I.sz];exact(lI.1 hv).1
 have hI:=I.aLA (a:=a) (fr:=N) (dst:=some t) (W:=[(N,some o)]) hN (λk hk _=>by simp;exact hk) (λt' h=>by cases h;exact htm) [] (λk=>by
  by_cases h:k=N
  .subst h;simp[look]
  .simp[look,h,Ne.symm h]) rfl rfl rfl (bZ _) (λ_ _ _=>⟨rfl,rfl⟩) (λ_ _ _ h=>h) (x:=.slice none 0 0) (λg hg=>absurd hg ho.cZ) (ho.ok dP) (v:=.slice none 0 0) (d:=.own N) (by
   have:DR (dI ν N (.slice none 0 0)) ((mk T H N).bC (some t) .any [(N,some o)] N).nm w G (dI ν N (.slice none 0 0) N) (.own N):=.own (pC ..) (by rw[dP];rfl);rw[dP]at this;exact this)
 have he:(a.put (some t) (.slice none 0 0)).tmps=a.tmps:=by
  apply aBC;intro i;simp only[Act.put];by_cases hi:t=i
  .subst hi
   rw[hv,Array.getElem?_setIfInBounds];simp[(lI.1 hv).1]
  .rw[Array.getElem?_setIfInBounds_ne hi]
 rw[he]at hI;have hR:R E ((mk T H N).bC (some t) (.own N) [(N,some o)] N) a.tmps w:=⟨_,_,hI⟩;have hb:=hR.bound (N:=N+8) (λk hk=>by simp[St.bC];omega);have e1:((mk T H N).bC (some t) (.own N) [(N,some o)] N).T=λx=>if t=x then some (.own N)else T x:=by
  funext x
  simp[St.bC]
 have e2:((mk T H N).bC (some t) (.own N) [(N,some o)] N).H=λk=>if N=k then some o else H k:=by
  funext k
  simp only[St.bC,look];by_cases hk:N=k <;> simp[hk]
 rw[e1,e2]at hb;exact hb
theorem a8R{α:Type}{f:α->List Tree}{s:Nat}(h:∀x,(f x).length=s)(l:List α):(l.flatMap f).length=l.length*s:=by
 induction l with
 |nil=>simp
 |cons a l ih=>rw[jX,List.length_append,h,ih,List.length_cons,jW];omega
theorem flat_get{α:Type}{f:α->List Tree}{s:Nat}(h:∀x,(f x).length=s){l:List α}:∀{i:Nat}{x:α},l[i]?=some x->∀j,j<s->(l.flatMap f)[i*s+j]?=(f x)[j]?:=by
 induction l with
 |nil=>intro i x h;simp at h
 |cons a l ih=>
   intro i x hx j hj;rw[jX];cases i with
   |zero=>simp at hx;subst hx;rw[Nat.zero_mul,fJ,gK (by rw[h];exact hj)]
   |succ i=>
     rw[dW (by rw[h,jW];omega),h,show(i+1)*s+j-s=i*s+j by rw[jW];omega];exact ih (by simpa using hx) j hj
end Go.Ab
/- The abstract machine: rows that are made. -/
namespace Go.Ab
open Go.RowKit
inductive jM:List Value->List Tree->Prop
 |nil:jM [] []
 |v {x:Value} {l:List Value} {ts:List Tree} (h:x.oneCell'=true) (r:jM l ts):jM (x::l) (.v x::ts)
 |sl {l:List Value} {ts:List Tree} (r:jM l ts):jM (.slice none 0 0::l) (.sl 0 []::ts)
theorem jM.append{l l':List Value}{ts ts':List Tree}(h:jM l ts)(h':jM l' ts'):jM (l++l') (ts++ts'):=by
 induction h with
 |nil=>exact h'
 |v h r ih=>exact .v h ih
 |sl r ih=>exact .sl ih
theorem jM.JN{l:List Value}{ts:List Tree}(h:jM l ts):∀n,jM (e9 n l).flatten (e9 n ts).flatten
 |0=>.nil
 |n+1=>by rw[rF,rF,vW,vW];exact h.append (h.JN n)
theorem jM.rel{l:List Value}{ts:List Tree}(h:jM l ts)(w:World)(G:cE):l.length=ts.length/\∀(i:Nat)(u:Value)(t:Tree),l[i]?=some u->ts[i]?=some t->TR w G u t:=by
 induction h with
 |nil=>exact⟨rfl,λi u t h=>by simp at h⟩
 |v h r ih=>
   refine⟨by simp[ih.1],λi u t hu ht=>?_⟩;cases i with
   |zero=>simp at hu ht;subst hu ht;exact .v _ h
   |succ i=>exact ih.2 i u t (by simpa using hu) (by simpa using ht)
 |sl r ih=>
   refine⟨by simp[ih.1],λi u t hu ht=>?_⟩;cases i with
   |zero=>simp at hu ht;subst hu ht;exact .nil (λ_=>rfl)
   |succ i=>exact ih.2 i u t (by simpa using hu) (by simpa using ht)
theorem ZV{z:Value}{s:Nat}(hz:z.cells.size=s)(hs:0<s)(n:Nat):(madeCells z.cells (n*s)).toList=(e9 n z.cells.toList).flatten:=by
 apply List.ext_getElem?;intro j;have hzl:z.cells.toList.length=s:=by rw[p7];exact hz
 by_cases hj:j<n*s
 .have hm:j%z.cells.size<z.cells.size:=Nat.mod_lt _ (by rw[hz];exact hs)
  have e2:=SK z.cells.toList (by rw[hzl];exact hs) n j (by rw[hzl];exact hj);rw[e2,hzl,<-hz];simp only[madeCells,Array.toList_map,Array.toList_range,dT,SD,hz,hj,lG];rw[hz]at hm;rw[Array.getElem?_toList];rw[getElem!_pos _ _ (by rw[hz];exact hm),Array.getElem?_eq_getElem (by rw[hz];exact hm)]
 .rw[Fg (by rw[p7,size_madeCells];omega),Fg (by simp[hz];omega)]
section
variable{P:Program}{o:Oper}{σ:St}{fr:Nat}
theorem a5l{t e:TypeId}{z:Value}{s bytes:Nat}(st:Bool){l c:Operand}{n:Nat}{zt:List Tree}(hT:p9 P t e z s bytes)(hz:jM z.cells.toList zt)(ho:o.op = .makeSlice t l c)(hl:σ.ev l=some (I n))(hc:σ.ev c=some (I n))
    (hb:bytes*n<=281474976710656/\n<=maxLen):bI P o σ fr (.own fr) [(fr,some (.row e s n (e9 n zt).flatten st))]:=by
 intro E σ₁ a w hTT hHH h100 hf hd ⟨ν,G,I⟩ Q;obtain⟨i,hi,hz',h2,h3⟩:=info_parts hT.i;have hlv:=cL (I.ev (St.fH hTT hl));have hcv:=cL (I.ev (St.fH hTT hc));obtain⟨w',hr,r1,r2⟩:=run_make_full (P:=P) w 0 t e i z s hT.u hi hz' h2 .i64 .i64 n (by rw[h3];exact hb.1) hb.2 (Nat.zero_le _);have hB:(i.bytes:Int)*(n:Int)<=281474976710656:=by
  have h:((i.bytes*n:Nat):Int)<=281474976710656:=by rw[h3];omega
  rwa [Int.natCast_mul]at h
 have hr2:=run_make (P:=P) w t e i z hT.u hi hz' .i64 .i64 n n (by omega) (Int.le_refl _) hB (by have:=hb.2;simp only[maxLen]at this;omega);simp only[Int.toNat_natCast]at hr2;rw[hr]at hr2;have hw:w'=w.alloc (.cells (madeCells z.cells (n*i.size)) e):=by injection hr2
 have hA:cS w w':=hw ▸ (cS.refl w).alloc _;have hG:∀b,b<w.heap.size->(λb=>if b=w.heap.size then(if st then n*s else 0)else G b) b=G b:=λb hb=>aD (by omega)
 have he:(execOp a.eval o).run P w = .ok (.value (.slice (some ⟨w.heap.size,0,none⟩) n n)) w':=by
  unfold execOp;rw[ho];simp[hlv,hcv,hr]
 unfold Oper.wp;rw[he,Oper.upon_value];have hzr:=(hz.JN n).rel w' (λb=>if b=w.heap.size then(if st then n*s else 0)else G b);rw[<-ZV hT.z hT.s]at hzr;refine⟨put_defers ..,_,_,I.fresh (G':=λb=>if b=w.heap.size then(if st then n*s else 0)else G b) h100 hf hd hA hG (x:=.slice (some ⟨w.heap.size,0,none⟩) n n) (λg hg=>by cases hg;exact bZ _) ?_ ?_⟩
 .refine⟨_,by rw[dP];exact r1,hzr.1,hzr.2,λg hg=>?_⟩
  rw[dP]at hg;cases hg;exact⟨.inl I.kept.size,aJ rfl⟩
 .have:DR (dI ν fr (.slice (some ⟨w.heap.size,0,none⟩) n n)) (σ₁.bC o.dst .any [(fr,some (.row e s n (e9 n zt).flatten st))] fr).nm w' (λb=>if b=w.heap.size then(if st then n*s else 0)else G b) (dI ν fr (.slice (some ⟨w.heap.size,0,none⟩) n n) fr) (.own fr):=.own (pC ..) (by rw[dP];rfl)
  rw[dP]at this;exact this
end
inductive RV (P:Program) (σ:St):ResultVar->D->Prop
 |tmp {t:Tmp} {d:D} (h:σ.T t=some d):RV P σ (.tmp t) d
 |row {p:Tmp} {t:TypeId} {k m:Nat} {e:TypeId} {ds:List D} (hp:σ.T p=some (.ref k 0)) (hk:σ.H k=some (.box e ds)) (hu:kI P t=some true) (hi:(P.info? t).map (·.size)=some m) (hm:ds.length=m):RV P σ (.cell p t) (.agg ds)
 |one {p:Tmp} {t:TypeId} {k:Nat} {e:TypeId} {d:D} (hp:σ.T p=some (.ref k 0)) (hk:σ.H k=some (.box e [d])) (hu:kI P t=some false):RV P σ (.cell p t) d
def JI(tm:Array Value):ResultVar->Sem Value
 |.tmp t=>pure (tm.getD t undef)
 |.cell a t=>do loadVar t (<-asAddr (tm.getD a undef))
theorem RV.run{P:Program}{σ:St}{rv:ResultVar}{d:D}(h:RV P σ rv d){E:Env}{ν:Nat->Value}{G:cE}{w:World}{tm:Array Value}(I:Inv E σ ν G w tm):∃v,(JI tm rv).run P w = .ok v w/\DR ν σ.nm w G v d:=by
 have get:∀p d,σ.T p=some d->DR ν σ.nm w G (tm.getD p undef) d:=λp d hp=>by
  obtain⟨v,hv,hd⟩:=I.T p d hp;have:tm.getD p undef=v:=by simp[Array.getD_eq_getD_getElem?,hv]
  rw[this];exact hd
 cases h with
 |tmp h=>exact⟨_,rfl,get _ _ h⟩
 | @row p t k m e ds hp hk hu hi hm=>
   obtain⟨g,hg,hv,_⟩:=pL (get _ _ hp);obtain⟨dsc,h1,h2⟩:=qM hu;have hob:=(I.H k _ hk).2;have hall:∀i,i<m->∃u,w.cell? ⟨g,0+i,none⟩=some u/\∀d,ds[i]?=some d->DR ν σ.nm w G u d/\u.oneCell'=true:=λi h=>by
    have hd:ds[i]?=some ds[i]:=dE (by omega);obtain⟨g',u,hg',hcu,hdu,h1⟩:=hob.cell (o:=.box e ds) hd;rw[hg]at hg';cases hg';exact⟨u,by rw[fJ];exact hcu,λd h=>by rw[hd]at h;cases h;exact⟨hdu,h1⟩⟩
   let cs:List Value:=(List.range m).map λi=>(w.cell? ⟨g,0+i,none⟩).getD undef
   have hcs:∀i u,cs[i]?=some u->i<m/\w.cell? ⟨g,0+i,none⟩=some u:=λi u h=>by
    have hi:i<m:=by simpa[cs]using(dC.1 h).1
    obtain⟨u',h',_⟩:=hall i hi;have h2:cs[i]?=some u':=by
     show((List.range m).map λi=>(w.cell? ⟨g,0+i,none⟩).getD undef)[i]?=some u';rw[dT,SD hi];simp only[lG,h',Option.getD_some]
    rw[h2]at h;cases h;exact⟨hi,h'⟩
   refine⟨.agg cs.toArray,?_,.agg (by simp[cs,hm]) (λi u d h h'=>?_) (λu h=>?_)⟩
   .simp only[JI,hv,asAddr,Sem.run_bind,Sem.run_pure,Result.andThen_ok]
    exact run_loadVar_mid w g 0 t cs dsc (λj v h=>(hcs j v h).2) h1 h2 (by rw[hi];simp[cs])
   .obtain⟨hi,hcu⟩:=hcs i u (by simpa using h)
    obtain⟨u',h1,h2⟩:=hall i hi;rw[hcu]at h1;cases h1;exact(h2 d h').1
   .obtain⟨i,hiu⟩:=List.mem_iff_getElem?.1 (by simpa using h:u∈cs)
    obtain⟨hi,hcu⟩:=hcs i u hiu;obtain⟨u',h1,h2⟩:=hall i hi;rw[hcu]at h1;cases h1;exact(h2 _ (dE (by omega))).2
 | @one p t k e d hp hk hu=>
   obtain⟨g,hg,hv,_⟩:=pL (get _ _ hp);obtain⟨dsc,h1,h2⟩:=qM hu;obtain⟨g',u,hg',hcu,hdu,_⟩:=(I.H k _ hk).2.cell (o:=.box e [d]) (i:=0) rfl;rw[hg]at hg';cases hg';refine⟨u,?_,hdu⟩;have h:=JJ h1 h2 hcu;simp only[Instr.loadAt,Instr.sureAddr,Sem.run_bind,Sem.run_pure,Result.andThen_ok]at h;simp only[JI,hv,asAddr,Sem.run_bind,Sem.run_pure,Result.andThen_ok];exact h
theorem RV.all{P:Program}{σ:St}{rv:ResultVar}{d:D}(h:RV P σ rv d){E:Env}{w:World}{tm:Array Value}(hR:R E σ tm w):∃v,(JI tm rv).run P w = .ok v w/\∀ν G,Inv E σ ν G w tm->DR ν σ.nm w G v d:=by
 obtain⟨ν,G,I⟩:=hR;obtain⟨v,hv,_⟩:=h.run I;refine⟨v,hv,λν' G' I'=>?_⟩;obtain⟨v',hv',hd'⟩:=h.run I';rw[hv]at hv';cases hv';exact hd'
theorem Ev(fn:Func)(tm:Array Value):results fn tm=(do
    let vs <-fn.results.mapM (JI tm)
    pure (if h:vs.size=1 then vs[0]else .tuple vs)):=by
 unfold results
 congr 1
abbrev bAj(rn:List (Nat×Nat))(H':List (Nat×aZ)):Prop:=(rn.all (λp=>decide (p.1<50)||decide (100<=p.1))&&decide ((H'.map λp=>bP rn p.1).Nodup)&&H'.all (λp=>decide (p.1<108)))=true
section
variable{P:Program}{fn:Func}{E:Env}{σ:St}{r:D}{H':List (Nat×aZ)}
theorem aJo{ν:Nat->Value}{nm:Nat->Bool}{w:World}{G:cE}{v1 v2:Value}{d1 d2:D}(h1:DR ν nm w G v1 d1)(h2:DR ν nm w G v2 d2):DR ν nm w G (.tuple #[v1,v2]) (.bD [d1,d2]):=.bD rfl λi u d hu hd=>by
 match i with
 |0=>simp at hu hd;subst hu hd;exact h1
 |1=>simp at hu hd;subst hu hd;exact h2
 |i+2=>simp at hu
theorem a4B{ν:Nat->Value}{nm:Nat->Bool}{w:World}{G:cE}{v1 v2 v3:Value}{d1 d2 d3:D}(h1:DR ν nm w G v1 d1)(h2:DR ν nm w G v2 d2)(h3:DR ν nm w G v3 d3):DR ν nm w G (.tuple #[v1,v2,v3]) (.bD [d1,d2,d3]):=.bD rfl λi u d hu hd=>by
 match i with
 |0=>simp at hu hd;subst hu hd;exact h1
 |1=>simp at hu hd;subst hu hd;exact h2
 |2=>simp at hu hd;subst hu hd;exact h3
 |i+3=>simp at hu
end
theorem a86{E:Env}{T:Nat->Option D}{H:Nat->Option aZ}{N:Nat}(k i:Nat){o0:aZ}(h0:rM o0){e':TypeId}{ds:List D}(hk:H k=some (.box e' ds))(hi:ds[i]?=some (.t (.v (.slice none 0 0))))(hN:100<=N):
    eF E (mk T H N) (mk T (λj=>if N=j then some o0 else if k=j then some (.box e' (ds.set i (.own N)))else H j) (N+8)):=by
 refine FY λa w ⟨ν,G,I⟩=>?_
 have lt:∀j,(mk T H N).nm j=true->j<N:=λj hj=>by simpa using hj
 have ne:∀j,(mk T H N).nm j=true->dI ν N (.slice none 0 0) j=ν j:=λj hj=>l8 (by have:=lt j hj;omega)
 have hn:∀j,(mk T H N).nm j=true->decide (j<N+8)=true/\dI ν N (.slice none 0 0) j=ν j:=λj hj=>⟨by have:=lt j hj;simp;omega,ne j hj⟩
 have old:∀j o,H j=some o->j<N:=λj o hj=>lt j (I.H j o hj).1
 have back:∀j o,(if N=j then some o0 else if k=j then some (.box e' (ds.set i (.own N)))else H j)=some o->j=N\/(j<N/\∃o',H j=some o'):=λj o h=>by
  by_cases h1:N=j
  .exact .inl h1.symm
  .rw[aD h1]at h
   by_cases h2:k=j
   .subst h2;exact .inr ⟨old _ _ hk,_,hk⟩
   .rw[aD h2]at h;exact .inr ⟨old _ _ h,_,h⟩
 refine⟨dI ν N (.slice none 0 0),G,I.kept,I.eR,λj h1 h2=>?_,I.g0,I.sz,λt d ht=>?_,λj o hj=>?_,λj1 o1 j2 o2 h1 h2 hne g hg=>?_⟩
 .rw[l8 (by omega)];exact I.gE j h1 h2
 .obtain⟨v,hv,hdv⟩:=I.T t d ht
  exact⟨v,hv,hdv.mono hn (λ_ _ _ h=>h)⟩
 .rcases back j o hj with rfl|⟨hlt,o',ho'⟩
  .simp only[gZ,kP]at hj
   subst hj;exact⟨by simp,h0.ok dP⟩
  .obtain⟨q1,q2⟩:=I.H j o' ho'
   have q3:=q2.mono (ν':=dI ν N (.slice none 0 0)) (nm':=λj=>decide (j<N+8)) q1 hn (λ_ _ _ h=>h) (λg _=>⟨rfl,rfl⟩);refine⟨by simp;omega,?_⟩;simp only[aD (show ¬ N=j by omega)]at hj;by_cases h2:k=j
   .subst h2
    rw[aJ rfl]at hj;rw[hk]at ho';cases ho';cases hj;obtain⟨g,cur,z1,z2,z3,z4,z5,z6⟩:=q3;refine⟨g,cur,z1,z2,z3,z4,by rw[List.length_set];exact z5,λm u d hu hd=>?_⟩;by_cases hm:i=m
    .subst hm
     have hlt2:i<ds.length:=(dC.1 hi).1;rw[List.getElem?_set_self hlt2]at hd;cases hd;obtain⟨y1,y2⟩:=z6 i u _ hu hi;have:=cL y1;subst this;refine⟨?_,y2⟩;have hown:DR (dI ν N (.slice none 0 0)) (λj=>decide (j<N+8)) w G (dI ν N (.slice none 0 0) N) (.own N):=.own (by simp) (by rw[dP];rfl);rw[dP]at hown;exact hown
    .rw[List.getElem?_set_ne hm]at hd
     exact z6 m u d hu hd
   .rw[aD h2]at hj
    rw[hj]at ho';cases ho';exact q3
 .have fb:∀j o,j<N->(if N=j then some o0 else if k=j then some (.box e' (ds.set i (.own N)))else H j)=some o->∃o',H j=some o'/\∀g,cZ w (ν j) o g->cZ w (ν j) o' g:=λj o hlt h=>by
   rw[aD (by omega)]at h;by_cases h2:k=j
   .subst h2;rw[aJ rfl]at h;cases h;exact⟨_,hk,λ_ h=>h⟩
   .rw[aD h2]at h;exact⟨o,h,λ_ h=>h⟩
  rcases back j1 o1 h1 with rfl|⟨l1,p1,hp1⟩
  .rw[dP]at hg
   simp only[gZ,kP]at h1;subst h1;exact absurd hg h0.cZ
  .rcases back j2 o2 h2 with rfl|⟨l2,p2,hp2⟩
   .rw[dP]
    simp only[gZ,kP]at h2;subst h2;exact h0.cZ
   .rw[l8 (by omega)]at hg ⊢
    obtain⟨y1,z1,f1⟩:=fb j1 o1 l1 h1;obtain⟨y2,z2,f2⟩:=fb j2 o2 l2 h2;exact λhg'=>I.eB j1 y1 j2 y2 z1 z2 hne g (f1 g hg) (f2 g hg')
theorem aLg{α:Type}{f:α->List Tree}{s:Nat}(h:∀x,(f x).length=s){x:α}:∀{l:List α}{i:Nat},i<l.length->dG (l.flatMap f) (i*s) (f x)=(l.set i x).flatMap f
 |[],i,hi=>by simp at hi
 |y::l,0,_=>by
   simp only[dG,Nat.zero_mul,List.take_zero,kR,fJ,List.set_cons_zero,jX,h x];rw[List.drop_append_of_le_length (by rw[h];exact bZ _),oP (by rw[h];exact bZ _),kR]
 |y::l,i+1,hi=>by
   have ih:=aLg h (x:=x) (l:=l) (i:=i) (by simpa using hi);rw[List.set_cons_succ,jX,jX,<-ih];have e1:(i+1)*s=s+i*s:=by rw[jW];omega
   simp only[dG,e1];rw[h x,List.take_append,List.drop_append,h y,List.take_of_length_le (by rw[h];omega),oP (by rw[h];omega),kR,Nat.add_sub_cancel_left,show s+i*s+s-s=i*s+s by omega,iC,iC,iC]
end Go.Ab
/- The abstract machine: rows of rows of the walk's own, whose cells may be stored into. -/
namespace Go.Ab
open Go.RowKit
theorem a7Z{E:Env}{nm:Nat->Bool}{w:World}{G:cE}{e':TypeId}{s n:Nat}{x:Value}{ys:List Value}{ts:List Tree}(y1:w.ownsRow 0 e' s x n ys)(y2:ys.length=ts.length)
    (y3:∀(i:Nat)(u:Value)(t:Tree),ys[i]?=some u->ts[i]?=some t->TR w G u t) (y4:∀g,bQ x=some g->E.may g/\G g=0):fI E (λ_=>x) nm w G 0 (.row e' s n ts false):=
 ⟨ys,y1,y2,y3,λg hg=>by simpa using y4 g hg⟩
theorem Qt{E:Env}{ν:Nat->Value}{nm:Nat->Bool}{w:World}{G:cE}{k:Nat}{e e':TypeId}{s:Nat}{ls:List (Nat×List Tree)}(h:fI E ν nm w G k (.nest e e' s ls)){i:Nat}{p:Nat×List Tree}(hp:ls[i]?=some p):
    ∃g x ys,bQ (ν k)=some g/\Cell w G g i x/\w.ownsRow 0 e' s x p.1 ys/\ys.length=p.2.length/\(∀(i:Nat)(u:Value)(t:Tree),ys[i]?=some u->p.2[i]?=some t->TR w G u t)/\∀g,bQ x=some g->E.may g/\G g=0:=by
 obtain⟨xs,r1,r2,r3,r4,r5⟩:=h;have hi:i<ls.length:=(dC.1 hp).1;have hxl:xs.length=ls.length:=by rw[r1.1,Ju]
 have hx:xs[i]?=some xs[i]:=dE (by omega);obtain⟨ys,y1,y2,y3,y4⟩:=r2 i _ p hx hp;rcases r1.2 with⟨_,h0⟩|⟨g0,cap,cur,hv,_⟩
 .omega
 .have hg:bQ (ν k)=some g0:=by rw[hv];rfl
  exact⟨g0,xs[i],ys,hg,⟨by rw[Yt r1 hg hi];exact hx,by rw[(r5 g0 hg).2];exact hi⟩,y1,y2,y3,y4⟩
theorem aJy{ν:Nat->Value}{nm:Nat->Bool}{w:World}{G:cE}{v:Value}{k i:Nat}(h:DR ν nm w G v (.sub k i)):∃g,bQ (ν k)=some g/\Cell w G g i v/\nm k=true:=by
 cases h with|sub hk hg hc h1=>exact⟨_,hg,hc,hk⟩
theorem a4M{ν:Nat->Value}{nm:Nat->Bool}{w:World}{G:cE}{v:Value}{k i j:Nat}(h:DR ν nm w G v (.jH k i j)):∃g g' n c,bQ (ν k)=some g/\Cell w G g i (.slice (some ⟨g',0,none⟩) n c)/\v = .pointer (some ⟨g',j,none⟩)/\nm k=true:=by
 cases h with|jH hk hg hc=>exact⟨_,_,_,_,hg,hc,rfl,hk⟩
theorem aAO{w:World}{G:cE}{b i:Nat}{u v:Value}(h:Cell w G b i u)(h':Cell w G b i v):u=v:=by
 have h1:=h.1;have h2:=h'.1;rw[h1]at h2;exact Option.some.inj h2
section
variable{P:Program}{o:Oper}{σ:St}{fr:Nat}
theorem a6D{t:TypeId}{x y:Operand}{q:Nat}{e e':TypeId}{s:Nat}{ls:List (Nat×List Tree)}{k:IntKind}{j:Int}(hs:sS P t=some 1)(ho:o.op = .indexAddr t x y)(hx:σ.ev x=some (.own q))(hq:σ.H q=some (.nest e e' s ls))(hy:σ.ev y=some (.t (.v (.int k j))))(h0:0<=j)(hn:j<ls.length):
    bI P o σ fr (.ref q j.toNat) []:=
 dV λE σ₁ ν G w a hH I hev=>by
  have hv:=hev x _ hx;have hj:=cL (hev y _ hy);obtain⟨v,he⟩:∃v,a.eval x=v:=⟨_,rfl⟩
  rw[he]at hv;cases hv with
  |own hk h1=>
    obtain⟨xs,r1,_⟩:=(I.H q _ (hH q _ hq)).2;rcases r1.2 with⟨_,hz⟩|⟨g,cap,cur,hvv,_⟩
    .omega
    .refine⟨.pointer (some ⟨g,j.toNat,none⟩),?_,.ref hk (by rw[hvv];rfl)⟩
     unfold execOp;rw[ho];have:=JK hs w g 0 ls.length cap k j h0 hn;rw[Ju,fJ]at this;simp[he,hj,hvv,this]
theorem a5w{t:TypeId}{x:Operand}{k i:Nat}{e e':TypeId}{s:Nat}{ls:List (Nat×List Tree)}{p:Nat×List Tree}(hu:kI P t=some false)(ho:o.op = .load t x)(hx:σ.ev x=some (.ref k i))(hk:σ.H k=some (.nest e e' s ls))(hp:ls[i]?=some p):bI P o σ fr (.sub k i) []:=
 dV λE σ₁ ν G w a hH I hev=>by
  obtain⟨dsc,h1,h2⟩:=qM hu;obtain⟨g,hg,hv,hnm⟩:=pL (hev x _ hx);obtain⟨g',u,ys,hg',hc,y1,_⟩:=Qt (I.H k _ (hH k _ hk)).2 hp;rw[hg]at hg';cases hg';refine⟨u,?_,.sub hnm hg hc (Bv y1)⟩;unfold execOp;rw[ho];simp[hv,JJ h1 h2 hc.1]
theorem a5u{t:TypeId}{x:Operand}{q:Nat}{e e':TypeId}{s:Nat}{ls:List (Nat×List Tree)}{tys:Array TypeId}{el:TypeId}(hu:P.underlying t=some (.slice el))(ho:o.op = .call { callee:=.builtin .len,args:=#[x],argTypes:=tys })(hty:tys = #[t])(hx:σ.ev x=some (.own q))(hq:σ.H q=some (.nest e e' s ls)):bI P o σ fr (I ls.length) []:=by
 intro E σ₁ a w hT hH h100 hf hd ⟨ν,G,I⟩ Q;have hv:=I.ev (St.fH hT hx);obtain⟨v,he⟩:∃v,a.eval x=v:=⟨_,rfl⟩
 rw[he]at hv;cases hv with
 |own hk h1=>
   obtain⟨xs,r1,_⟩:=(I.H q _ (hH q _ hq)).2;obtain⟨ax,c,hvv⟩:∃ax c,ν q = .slice ax ls.length c:=by
    rcases r1.2 with⟨hz,h0⟩|⟨g,cap,cur,hz,_⟩
    .exact⟨_,_,by rw[hz,h0]⟩
    .exact⟨_,_,hz⟩
   subst hty;unfold Oper.wp;have he':(execOp a.eval o).run P w = .ok (.value (.int .i64 ls.length)) w:=by
    unfold execOp;rw[ho];simp[resolve,invoke,builtin,he,hvv,Builtin.len_,run_underlying hu,goInt]
   rw[he',Oper.upon_value];exact⟨put_defers ..,ν,G,I.put (.t (.v _ rfl)) hd fr a rfl⟩
theorem a5t{t:TypeId}{x:Operand}{q i:Nat}{e e':TypeId}{s:Nat}{ls:List (Nat×List Tree)}{p:Nat×List Tree}{tys:Array TypeId}{el:TypeId}(hu:P.underlying t=some (.slice el))(ho:o.op = .call { callee:=.builtin .len,args:=#[x],argTypes:=tys })(hty:tys = #[t])(hx:σ.ev x=some (.sub q i))(hq:σ.H q=some (.nest e e' s ls))(hp:ls[i]?=some p):bI P o σ fr (I p.1) []:=by
 intro E σ₁ a w hT hH h100 hf hd ⟨ν,G,I⟩ Q;obtain⟨g,hg,hc,_⟩:=aJy (I.ev (St.fH hT hx));obtain⟨g',u,ys,hg',hc',y1,_⟩:=Qt (I.H q _ (hH q _ hq)).2 hp;rw[hg]at hg';cases hg';have hu':=aAO hc hc';obtain⟨ax,c,hvv⟩:∃ax c,u = .slice ax p.1 c:=by
  rcases y1.2 with⟨hz,h0⟩|⟨g,cap,cur,hz,_⟩
  .exact⟨_,_,by rw[hz,h0]⟩
  .exact⟨_,_,hz⟩
 subst hty;unfold Oper.wp;have he':(execOp a.eval o).run P w = .ok (.value (.int .i64 p.1)) w:=by
  unfold execOp;rw[ho];simp[resolve,invoke,builtin,hu',hvv,Builtin.len_,run_underlying hu,goInt]
 rw[he',Oper.upon_value];exact⟨put_defers ..,ν,G,I.put (.t (.v _ rfl)) hd fr a rfl⟩
theorem a6C{t:TypeId}{x y:Operand}{q i:Nat}{e e':TypeId}{s:Nat}{ls:List (Nat×List Tree)}{p:Nat×List Tree}{k:IntKind}{j:Int}(hs:sS P t=some 1)(ho:o.op = .indexAddr t x y)(hx:σ.ev x=some (.sub q i))(hq:σ.H q=some (.nest e e' s ls))(hp:ls[i]?=some p)(hy:σ.ev y=some (.t (.v (.int k j))))(h0:0<=j)(hn:j<p.1):
    bI P o σ fr (.jH q i j.toNat) []:=
 dV λE σ₁ ν G w a hH I hev=>by
  obtain⟨g,hg,hc,hk⟩:=aJy (hev x _ hx);have hj:=cL (hev y _ hy);obtain⟨g',u,ys,hg',hc',y1,_⟩:=Qt (I.H q _ (hH q _ hq)).2 hp;rw[hg]at hg';cases hg';have hu':=aAO hc hc';rcases y1.2 with⟨_,hz⟩|⟨g1,cap,cur,hvv,_⟩
  .omega
  .refine⟨.pointer (some ⟨g1,j.toNat,none⟩),?_,.jH hk hg (by rw[<-hvv];exact hc')⟩
   unfold execOp;rw[ho];have:=JK hs w g1 0 p.1 cap k j h0 hn;rw[Ju,fJ]at this;simp[hu',hj,hvv,this]
theorem a5v{t:TypeId}{x:Operand}{k i j:Nat}{e e':TypeId}{s:Nat}{ls:List (Nat×List Tree)}{p:Nat×List Tree}{tr:Tree}(hu:kI P t=some false)(ho:o.op = .load t x)(hx:σ.ev x=some (.jH k i j))(hk:σ.H k=some (.nest e e' s ls))(hp:ls[i]?=some p)(hj:p.2[j]?=some tr):bI P o σ fr (.t tr) []:=
 dV λE σ₁ ν G w a hH I hev=>by
  obtain⟨dsc,h1,h2⟩:=qM hu;obtain⟨g,g1,n,c,hg,hc,hv,hnm⟩:=a4M (hev x _ hx);obtain⟨g',u,ys,hg',hc',y1,y2,y3,y4⟩:=Qt (I.H k _ (hH k _ hk)).2 hp;rw[hg]at hg';cases hg';have hu':=aAO hc hc';subst hu';obtain⟨g2,z,hg2,hz,hd,_⟩:=(a7Z (E:=E) (nm:=σ₁.nm) y1 y2 y3 y4).cell (i:=j) (d:=.t tr) (by simp[aZ.cells,hj]);simp only[bQ,kP]at hg2;subst hg2;cases hd with
  |t hd=>
    refine⟨z,?_,.t hd⟩;unfold execOp;rw[ho];simp[hv,JJ h1 h2 hz]
inductive aNB (σ:St) (s:Operand) (e e':TypeId) (sz:Nat):Option Nat->List (Nat×List Tree)->Prop
 |own {k:Nat} {ls:List (Nat×List Tree)} (h:σ.ev s=some (.own k)) (hk:σ.H k=some (.nest e e' sz ls)):aNB σ s e e' sz (some k) ls
 |nil (h:σ.ev s=some (.t (.v (.slice none 0 0)))):aNB σ s e e' sz none []
end
end Go.Ab
/- The abstract machine: maps whose keys are numbers, words or truths; variables that are written no more. -/
namespace Go.Ab
open Go.RowKit
theorem FK{ν:Nat->Value}{nm:Nat->Bool}{w:World}{G:cE}{v:Value}{k:Nat}(h:DR ν nm w G v (.own k)):v=ν k/\nm k=true:=by
 cases h with|own hk h1=>exact⟨rfl,hk⟩
section
variable{P:Program}{o:Oper}{σ:St}{fr:Nat}
theorem a5f{t:TypeId}(ho:o.op = .makeMap t none):bI P o σ fr (.own fr) [(fr,some (.mp []))]:=by
 intro E σ₁ a w hT hH h100 hf hd ⟨ν,G,I⟩ Q;unfold Oper.wp;have hr:(execOp a.eval o).run P w = .ok (.value (.map (some w.heap.size))) (w.alloc (.map #[] 0)):=by
  unfold execOp;rw[ho];rfl
 rw[hr,Oper.upon_value];have hA:cS w (w.alloc (.map #[] 0)):=(cS.refl w).alloc _;refine⟨put_defers ..,_,_,I.fresh (G':=λb=>if b=w.heap.size then 0 else G b) h100 hf hd hA (λb hb=>aD (by omega)) (x:=.map (some w.heap.size)) (λg hg=>by cases hg;exact bZ _) ?_ ?_⟩
 .exact⟨w.heap.size,#[],0,dP,.inl I.kept.size,heap_alloc_new w _,aJ rfl,rfl,λi en p h=>by simp at h⟩
 .have:DR (dI ν fr (.map (some w.heap.size))) (σ₁.bC o.dst .any [(fr,some (.mp []))] fr).nm (w.alloc (.map #[] 0)) (λb=>if b=w.heap.size then 0 else G b) (dI ν fr (.map (some w.heap.size)) fr) (.own fr):=.own (pC ..) (by rw[dP];rfl)
  rw[dP]at this;exact this
theorem a5Y{t e:TypeId}{x:Operand}{n s:Nat}{ts:List Tree}(hu:P.underlying t=some (.array n e))(hs:(P.info? e).map (·.size)=some s)(ho:o.op = .slice t x none none none)(hx:σ.ev x=some (.ptr ts 0)):bI P o σ fr (.t (.sl n ts)) []:=
 dV λE σ₁ ν G w a hH I hev=>by
  obtain⟨b,q,us,hv,hl,hcu,htr⟩:=FA (hev x _ hx);obtain⟨inf,hinf,hsz⟩:=cV.1 hs;refine⟨.slice (some ⟨b,q,none⟩) n n,?_,.t (.sl b q n n us ts hl hcu (bZ _) htr)⟩;unfold execOp;rw[ho];simp[hv,Instr.sliceAt,run_underlying hu,Instr.sureAddr,Instr.sliceBounds,sizeOf,typeInfo,hinf,Addr.add_mid]
end
theorem a88{E:Env}{T:Nat->Option D}{H:Nat->Option aZ}{N:Nat}(t k:Nat){e:TypeId}{ds:List D}{ts:List Tree}(ht:T t=some (.ref k 0))(hk:H k=some (.box e ds))(hl:ds.length=ts.length)
    (hw:∀(i:Nat)(tr:Tree),ts[i]?=some tr->∃d,ds[i]?=some d/\cG H d (.t tr)):eF E (mk T H N) (mk (λx=>if t=x then some (.ptr ts 0)else T x) (λj=>if k=j then none else H j) N):=by
 refine FY λa w ⟨ν,G,I⟩=>?_
 obtain⟨hn,g,cur,h1,h2,h3,h4,h5,h6⟩:=I.H k _ hk;have hg:bQ (ν k)=some g:=by rw[h1];rfl
 let G':cE:=λb=>if b=g then ts.length else G b
 have hcell:∀b i u,Cell w G b i u->Cell w G' b i u:=λb i u h=>by
  have hne:b≠g:=λe=>by have:=h.2;rw[e,h4]at this;omega
  exact⟨h.1,by show i<if b=g then _ else _;rw[aD hne];exact h.2⟩
 refine⟨ν,G',I.kept,λb i u h=>hcell b i u (I.eR b i u h),I.gE,λb hb hX=>?_,I.sz,λt' d h=>?_,λj oj h=>?_,λj1 o1 j2 o2 e1 e2 hne=>?_⟩
 .have hne:b≠g:=λe=>by
   subst e;rcases h2 with h|h
   .omega
   .exact hX h
  show(if b=g then _ else _)=_;rw[aD hne];exact I.g0 b hb hX
 .by_cases htt:t=t'
  .subst htt
   simp only[gZ,kP]at h;subst h;obtain⟨v,hv,hd⟩:=I.T t _ ht;obtain⟨g',hg',hv',_⟩:=pL hd;rw[hg]at hg';cases hg';refine⟨v,hv,?_⟩;rw[hv'];have:=DR.ptr (ν:=ν) (nm:=(mk T H N).nm) (w:=w) (G:=G') (b:=g) (o:=0) (off:=0) (us:=cur.toList) (ts:=ts) (by rw[p7,h5,hl]) (λi u hu=>?_) (λi u tr hu htr=>?_)
   .simpa using this
   .have hu':cur[i]?=some u:=by simpa using hu
    have hi:i<ts.length:=by rw[<-hl,<-h5];exact(lI.1 hu').1
    exact⟨by rw[fJ,F5 h3];exact hu',by show _<if g=g then _ else _;rw[aJ rfl];omega⟩
   .have hu':cur[i]?=some u:=by simpa using hu
    obtain⟨d,hd,hwk⟩:=hw i tr htr;have:=hwk E _ ν G w a.tmps (λ_ _ h=>h) I u (h6 i u d hu' hd).1;cases this with|t h=>exact h.mono hcell
  .simp only[aD htt]at h
   obtain⟨v,hv,hd⟩:=I.T t' d h;exact⟨v,hv,hd.mono (λ_ h=>⟨h,rfl⟩) hcell⟩
 .by_cases hj:k=j
  .simp[aJ hj]at h
  .simp only[aD hj]at h
   obtain⟨q1,q2⟩:=I.H j oj h;refine⟨q1,q2.mono q1 (λ_ h=>⟨h,rfl⟩) hcell (λg' hg'=>⟨rfl,aD (λe=>?_)⟩)⟩;subst e;exact I.eB j oj k _ h hk (λe=>hj e.symm) g' hg' (gF hg)
 .have back:∀j oj,(if k=j then none else H j)=some oj->H j=some oj:=λj oj h=>by
   by_cases hj:k=j
   .rw[aJ hj]at h;cases h
   .rw[aD hj]at h;exact h
  exact I.eB j1 o1 j2 o2 (back j1 o1 e1) (back j2 o2 e2) hne
end Go.Ab
/- The abstract machine: rows whose elements hold rows of the walk's own. -/
namespace Go.Ab
open Go.RowKit
section
variable{P:Program}{o:Oper}{σ:St}{fr:Nat}
theorem a6B{t:TypeId}{x y:Operand}{q:Nat}{e e':TypeId}{m s n:Nat}{cs:List NC}{k:IntKind}{j:Int}(hs:sS P t=some m)(ho:o.op = .indexAddr t x y)(hx:σ.ev x=some (.own q))(hq:σ.H q=some (.dZ e e' m s n cs))(hy:σ.ev y=some (.t (.v (.int k j))))(h0:0<=j)(hn:j<n):
    bI P o σ fr (.ref q (j.toNat*m)) []:=
 dV λE σ₁ ν G w a hH I hev=>by
  have hv:=hev x _ hx;have hj:=cL (hev y _ hy);obtain⟨v,he⟩:∃v,a.eval x=v:=⟨_,rfl⟩
  rw[he]at hv;cases hv with
  |own hk h1=>
    obtain⟨xs,r1,_⟩:=(I.H q _ (hH q _ hq)).2;rcases r1.2 with⟨_,hz⟩|⟨g,cap,cur,hvv,_⟩
    .omega
    .refine⟨.pointer (some ⟨g,j.toNat*m,none⟩),?_,.ref hk (by rw[hvv];rfl)⟩
     unfold execOp;rw[ho];have:=JK hs w g 0 n cap k j h0 hn;rw[fJ]at this;simp[he,hj,hvv,this]
theorem a5s{t:TypeId}{x:Operand}{q:Nat}{e e':TypeId}{m s n:Nat}{cs:List NC}{tys:Array TypeId}{el:TypeId}(hu:P.underlying t=some (.slice el))(ho:o.op = .call { callee:=.builtin .len,args:=#[x],argTypes:=tys })(hty:tys = #[t])(hx:σ.ev x=some (.own q))(hq:σ.H q=some (.dZ e e' m s n cs)):bI P o σ fr (I n) []:=by
 intro E σ₁ a w hT hH h100 hf hd ⟨ν,G,I⟩ Q;have hv:=I.ev (St.fH hT hx);obtain⟨v,he⟩:∃v,a.eval x=v:=⟨_,rfl⟩
 rw[he]at hv;cases hv with
 |own hk h1=>
   obtain⟨xs,r1,_⟩:=(I.H q _ (hH q _ hq)).2;obtain⟨ax,c,hvv⟩:∃ax c,ν q = .slice ax n c:=by
    rcases r1.2 with⟨hz,h0⟩|⟨g,cap,cur,hz,_⟩
    .exact⟨_,_,by rw[hz,h0]⟩
    .exact⟨_,_,hz⟩
   subst hty;unfold Oper.wp;have he':(execOp a.eval o).run P w = .ok (.value (.int .i64 n)) w:=by
    unfold execOp;rw[ho];simp[resolve,invoke,builtin,he,hvv,Builtin.len_,run_underlying hu,goInt]
   rw[he',Oper.upon_value];exact⟨put_defers ..,ν,G,I.put (.t (.v _ rfl)) hd fr a rfl⟩
end
def NC.QU:NC->Option Tree
 |.q9 (.t t)=>some t
 |.fQ q ts=>some (.sl q ts)
 |_=>none
end Go.Ab
/- The abstract machine: an inner row is lent out under a name of its own. -/
namespace Go.Ab
open Go.RowKit
end Go.Ab
/- The abstract machine: a cell of such a row is written over. -/
namespace Go.Ab
open Go.RowKit
section
variable{P:Program}{o:Oper}{σ:St}{fr:Nat}
end
end Go.Ab
/- The abstract machine: a row of one element that holds a row of the walk's own. -/
namespace Go.Ab
open Go.RowKit
section
variable{P:Program}{o:Oper}{σ:St}{fr:Nat}
end
end Go.Ab
/- The abstract machine: append of rows whose elements hold rows of the walk's own. -/
namespace Go.Ab
open Go.RowKit
section
variable{P:Program}{o:Oper}{σ:St}{fr:Nat}
inductive aNA (σ:St) (s:Operand) (e e':TypeId) (m sz:Nat):Option Nat->Nat->List NC->Prop
 |own {k n:Nat} {cs:List NC} (h:σ.ev s=some (.own k)) (hk:σ.H k=some (.dZ e e' m sz n cs)):aNA σ s e e' m sz (some k) n cs
 |nil (h:σ.ev s=some (.t (.v (.slice none 0 0)))):aNA σ s e e' m sz none 0 []
end
end Go.Ab
