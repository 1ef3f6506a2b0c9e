/- The abstract machine: rows, rows of rows, maps. Conditions are in the theorems. -/
import Derived.Test.YtlhdefefoaldfaaGreatDoorE2
import Derived.MapKept
open Array renaming ext_getElem?->Xn,getElem?_eq_none->IQ,getElem?_eq_some_iff->k5,length_toList->pE,range->aJJ
open List renaming append_assoc->iK,drop_eq_nil_of_le->sF,flatMap_cons->jS,flatten_cons->EU,getElem?_append_left->gD,getElem?_append_right->eP,getElem?_eq_getElem->dF,getElem?_eq_none->ET,getElem?_eq_some_iff->cX,getElem?_map->dL,getElem?_range->PI,nil_append->n6,replicate->eR,replicate_succ->qL
open Nat renaming add_mul->jR,le_refl->cE,mul_one->IJ,zero_add->e9
open Option renaming map_eq_some_iff->cN,map_some->kX
open Option.some renaming injEq->kG
/- The abstract machine: the same laws from facts on types that a program can print. -/
namespace Go.Ab
open Go.RowKit
inductive x6 {α:Type}:List α->Nat->List α->List α->Prop
 |done {l:List α}:x6 l 0 [] l
 |skip {x:α} {l new l':List α} {off:Nat} (r:x6 l off new l'):x6 (x::l) (off+1) new (x::l')
 |put {x y:α} {l new l':List α} (r:x6 l 0 new l'):x6 (x::l) 0 (y::new) (y::l')
theorem x6.eq{α:Type}{l new l':List α}{off:Nat}(h:x6 l off new l'):l'=c8 l off new/\off+new.length<=l.length:=by
 induction h with
 |done=>simp[c8]
 |skip r ih=>exact⟨by rw[ih.1];simp[c8,Nat.add_right_comm],by simp;have:=ih.2;omega⟩
 |put r ih=>exact⟨by rw[ih.1];simp[c8],by simp;have:=ih.2;omega⟩
inductive B3 {α:Type}:List α->Nat->Nat->List α->Prop
 |done {l:List α}:B3 l 0 0 []
 |skip {x:α} {l ds:List α} {off m:Nat} (r:B3 l off m ds):B3 (x::l) (off+1) m ds
 |take {x:α} {l ds:List α} {m:Nat} (r:B3 l 0 m ds):B3 (x::l) 0 (m+1) (x::ds)
theorem B3.eq{α:Type}{l ds:List α}{off m:Nat}(h:B3 l off m ds):(l.drop off).take m=ds/\ds.length=m:=by
 induction h with
 |done=>simp
 |skip r ih=>exact⟨by simpa using ih.1,ih.2⟩
 |take r ih=>exact⟨by simpa using ih.1,by simpa using ih.2⟩
inductive IP (pl:List (Nat×Nat)):List D->List (Nat×D)->List D->Prop
 |nil {cells:List D}:IP pl cells [] cells
 |cons {cells cells' out cs:List D} {i off size:Nat} {d:D} {rest:List (Nat×D)} (hp:pl[i]?=some (off,size)) (hv:d.val=true) (hc:d.cells=cs) (hl:cs.length=size) (hs:x6 cells off cs cells') (r:IP pl cells' rest out):IP pl cells ((i,d)::rest) out
theorem IP.eq{pl:List (Nat×Nat)}{cells out:List D}{parts:List (Nat×D)}(h:IP pl cells parts out):nR pl cells parts=some out:=by
 induction h with
 |nil=>rfl
 |cons hp hv hc hl hs r ih=>
   obtain⟨h1,h2⟩:=hs.eq;subst hc;simp only[nR,hp];rw[aN (by simp[hv,hl];omega),<-h1];exact ih
def j9(P:Program)(t:TypeId):Option Bool:=(P.underlying t).map λ|.struct _|.array _ _=>true|_=>false
theorem pS{P:Program}{t:TypeId}{b:Bool}(h:j9 P t=some b):∃d,P.underlying t=some d/\d.isRow=b:=by
 unfold j9 at h;obtain⟨d,h1,h2⟩:=cN.1 h;refine⟨d,h1,?_⟩;rw[<-h2];cases d <;> rfl
section
variable{P:Program}{o:Oper}{σ:St}{fr:Nat}
theorem Hi{t:TypeId}{x:Operand}{k off:Nat}{ob:aS}{d:D}(hu:j9 P t=some false)(ho:o.op = .load t x)(hx:σ.ev x=some (.ref k off))(hk:σ.H k=some ob)(hc:ob.cells[off]?=some d):bI P o σ fr d []:=by
 obtain⟨dsc,h1,h2⟩:=pS hu;exact a0H ho h1 h2 hx hk hc
theorem WJ{t:TypeId}{x:Operand}{k off m:Nat}{ob:aS}{ds:List D}(hu:j9 P t=some true)(hi:(P.info? t).map (·.size)=some m)(ho:o.op = .load t x)(hx:σ.ev x=some (.ref k off))(hk:σ.H k=some ob)(hc:(ob.cells.drop off).take m=ds)(hm:ds.length=m):bI P o σ fr (.agg ds) []:=by
 obtain⟨dsc,h1,h2⟩:=pS hu;exact a0G ho h1 h2 hi hx hk hc hm
theorem aZW{e:TypeId}{s n off:Nat}{ts xs:List Tree}{new:List D}(h:off+new.length<=ts.length)(hx:uP new=some xs):(aS.row e s n ts false).put off new=some (.row e s n (c8 ts off xs) false):=by
 simp only[aS.put];rw[aN ⟨h,trivial⟩,hx];rfl
theorem str{t e:TypeId}{x y:Operand}{k off s n:Nat}{ts xs:List Tree}{d:D}(hy:B2 σ y d)(ho:o.op = .store t x y)(hi:(P.info? t).map (·.size)=some d.cells.length)(hx:σ.ev x=some (.ref k off))(hv:d.val=true)(hk:σ.H k=some (.row e s n ts false))
    (h:off+d.cells.length<=ts.length) (hxs:uP d.cells=some xs) (hpos:0<d.cells.length):bI P o σ fr (.bD []) [(k,some (.row e s n (c8 ts off xs) false))]:=BF ho hi hx hy hv hk (aZW h hxs) hpos
theorem lp1{t:TypeId}{x:Operand}{ts:List Tree}{off:Nat}{tr:Tree}(hu:j9 P t=some false)(ho:o.op = .load t x)(hx:σ.ev x=some (.ptr ts off))(hc:ts[off]?=some tr):bI P o σ fr (.t tr) []:=by
 obtain⟨dsc,h1,h2⟩:=pS hu;exact a0F ho h1 h2 hx hc
theorem lpn{t:TypeId}{x:Operand}{ts xs:List Tree}{off m:Nat}(hu:j9 P t=some true)(hi:(P.info? t).map (·.size)=some m)(ho:o.op = .load t x)(hx:σ.ev x=some (.ptr ts off))(hc:(ts.drop off).take m=xs)(hm:xs.length=m):bI P o σ fr (.agg (xs.map .t)) []:=by
 obtain⟨dsc,h1,h2⟩:=pS hu;exact a0E ho h1 h2 hi hx hc hm
theorem a0a{e:TypeId}{z:Value}(ho:o.op = .alloc e)(hz:(P.info? e).bind (·.zero)=some z)(h1:EH z=true):bI P o σ fr (.ref fr 0) [(fr,some (.box e (iZ z).cells))]:=by
 intro E σ₁ a w hT hH h100 hf hd hR Q;obtain⟨i,hi,hz'⟩:=Option.bind_eq_some_iff.1 hz;have hb:bI P { o with op:=.box e (.const z) } σ fr (.ref fr 0) [(fr,some (.box e (iZ z).cells))]:=aGy rfl (by simp[St.ev,h1]) (by cases z <;> first|rfl|cases h1);have h:=hb E σ₁ a w hT hH h100 hf hd hR Q;unfold Oper.wp at h ⊢;have he:(execOp a.eval o).run P w=(execOp a.eval { o with op:=.box e (.const z) }).run P w:=by
  unfold execOp;rw[ho];simp[Instr.alloc,Instr.box,zeroValue,typeInfo,hi,hz',Act.eval]
 rw[he];exact h
theorem PO(z:List Value)(hz:0<z.length):∀(len i:Nat),i<len*z.length->((eR len z).flatten)[i]?=z[i%z.length]?
 |0,i,h=>by omega
 |len+1,i,h=>by
   rw[qL,EU];by_cases hi:i<z.length
   .rw[gD hi,Nat.mod_eq_of_lt hi]
   .rw[eP (by omega),PO z hz len (i-z.length) (by rw[jR,Nat.one_mul]at h;omega)]
    congr 1
    conv=>rhs;rw[show i=(i-z.length)+z.length by omega,Nat.add_mod_right]
theorem X9.of{t e:TypeId}{z:Value}{s bytes:Nat}(hT:pG P t e z s bytes)(h1:∀u∈z.cells.toList,u.oneCell'=true)(len:Nat)(hl:len*s<=2^24):X9 P t e s len (eR len z.cells.toList).flatten:=by
 have hs:=hT.s;have hzl:z.cells.toList.length=s:=by rw[pE];exact hT.z
 have hlen:(eR len z.cells.toList).flatten.length=len*s:=by simp[hT.z]
 refine⟨hT.u,λu hu=>?_,hlen,?_,λw parts cells hf=>?_⟩
 .obtain⟨l,h2,h3⟩:=List.mem_flatten.1 hu
  rw[(List.mem_replicate.1 h2).2]at h3;exact h1 u h3
 .have:len<=len*s:=Nat.le_mul_of_pos_right _ hs
  unfold maxLen;omega
 .obtain⟨i,hi,hz,hsz,hby⟩:=info_parts hT.i
  by_cases h0:len=0
  .subst h0
   simp at hf;have h9:∀f:Nat->Value,Array.map f (aJJ 0) = #[]:=λf=>by simp
   simp[Instr.buildSlice,run_underlying hT.u,sizeOf,typeInfo,hi,hsz,newRow,h9,hf]
  .refine run_buildSlice w t e len parts cells i z hT.u hi hz (by rw[hsz];omega) (by rw[hsz];exact Nat.mul_ne_zero h0 (by omega)) ?_
   rw[hsz];have:(aJJ (len*s)).map (z.cells[· % z.cells.size]!)=(eR len z.cells.toList).flatten.toArray:=by
    apply Xn;intro j;by_cases hj:j<len*s
    .have hm:j%z.cells.size<z.cells.size:=Nat.mod_lt _ (by rw[hT.z];exact hs)
     have e1:((aJJ (len*s)).map (z.cells[· % z.cells.size]!))[j]?=z.cells[j%z.cells.size]?:=by simp[hj,hm]
     have e2:=PO z.cells.toList (by rw[hzl];exact hs) len j (by rw[hzl];exact hj);rw[hzl,<-hT.z]at e2;rw[e1];simpa using e2.symm
    .rw[IQ (by simp;omega),IQ (by rw[List.size_toArray,hlen];omega)]
   rw[this];exact hf
end
theorem ED{E:Env}{s s':St}(h:∀(a:Act)(w:World),R E s a.tmps w->R E s' a.tmps w):dX E s s':=λtm w hR=>h ⟨tm,[]⟩ w hR
theorem a2k{E:Env}{T:Nat->Option D}{H:Nat->Option aS}{N:Nat}(k:Nat){e:TypeId}{s n:Nat}{ts:List Tree}(hk:H k=some (.row e s n ts false)):
    dX E (mk T H N) (mk T (λj=>if k=j then some (.row e s n ts true)else H j) N):=by
 refine ED λa w ⟨ν,G,I⟩=>⟨ν,λb=>if bP (ν k)=some b then n*s else G b,?_⟩
 obtain⟨hn,xs,r1,r2,r3,r4⟩:=I.H k _ hk;have hcell:∀b i u,Cell w G b i u->Cell w (λb=>if bP (ν k)=some b then n*s else G b) b i u:=λb i u hc=>by
  refine⟨hc.1,?_⟩;have h2:=hc.2;by_cases hb:bP (ν k)=some b
  .have:=(r4 b hb).2
   rw[this]at h2;simp at h2
  .simp only[aF hb];exact h2
 refine⟨I.kept,λb i u hc=>hcell b i u (I.eJ b i u hc),I.fS,λb hb hX=>?_,I.sz,λt d ht=>?_,λj o hj=>?_,λj1 o1 j2 o2 h1 h2 hne=>?_⟩
 .have hne:bP (ν k)≠some b:=λe=>by
   rcases(r4 b e).1 with h|h
   .omega
   .exact hX h
  simp only[aF hne];exact I.g0 b hb hX
 .obtain⟨v,hv,hdv⟩:=I.T t d ht
  exact⟨v,hv,hdv.mono (λ_ h=>⟨h,rfl⟩) hcell⟩
 .by_cases hjk:k=j
  .subst hjk
   simp only[gV,kG]at hj;subst hj;exact⟨hn,xs,r1,r2,λi u t hu ht=>(r3 i u t hu ht).mono hcell,λg hg=>⟨(r4 g hg).1,by simp[hg]⟩⟩
  .simp only[aF hjk]at hj
   obtain⟨q1,q2⟩:=I.H j o hj;refine⟨q1,q2.mono q1 (λ_ h=>⟨h,rfl⟩) hcell (λg hg=>⟨rfl,aF (λe=>?_)⟩)⟩;exact I.dS j o k _ hj hk (λe=>hjk e.symm) g hg e
 .have back:∀j o,(if k=j then some (.row e s n ts true)else H j)=some o->∃o',H j=some o'/\∀g,cS w (ν j) o g->cS w (ν j) o' g:=λj o h=>by
   by_cases hj:k=j
   .subst hj;simp only[gV,kG]at h;subst h;exact⟨_,hk,λ_ h=>h⟩
   .rw[aF hj]at h;exact⟨o,h,λ_ h=>h⟩
  obtain⟨p1,hp1,f1⟩:=back j1 o1 h1;obtain⟨p2,hp2,f2⟩:=back j2 o2 h2;exact λg hg hg'=>I.dS j1 p1 j2 p2 hp1 hp2 hne g (f1 g hg) (f2 g hg')
inductive qQ:aS->Prop
 |row {e:TypeId} {s:Nat} {st:Bool}:qQ (.row e s 0 [] st)
 |nest {e e':TypeId} {s:Nat}:qQ (.nest e e' s [])
 |dQ {e e':TypeId} {m s:Nat}:qQ (.dQ e e' m s 0 [])
theorem qQ.ok{o:aS}(h:qQ o){E:Env}{ν:Nat->Value}{nm:Nat->Bool}{w:World}{G:cA}{k:Nat}(hk:ν k = .slice none 0 0):eZ E ν nm w G k o:=by
 cases h with
 |row=>exact⟨[],by rw[hk];exact World.ownsRow_nil w 0 _ _,rfl,λi u t h=>by simp at h,λg hg=>by rw[hk]at hg;cases hg⟩
 |nest=>exact⟨[],by rw[hk];exact World.ownsRow_nil w 0 _ _,λi x p h=>by simp at h,λi j x y _ h=>by simp at h,λi x h=>by simp at h,λg hg=>by rw[hk]at hg;cases hg⟩
 |dQ=>exact⟨[],by rw[hk];exact World.ownsRow_nil w 0 _ _,rfl,λi x d h=>by simp at h,λi x q ts h=>by simp at h,λi j x y q q' ts ts' _ h=>by simp at h,λi x q ts h=>by simp at h,λg hg=>by rw[hk]at hg;cases hg⟩
theorem qQ.cS{o:aS}(h:qQ o){w:World}{g:Nat}:¬ Ab.cS w (.slice none 0 0) o g:=by
 cases h with
 |row=>intro h;cases h
 |nest=>
   rintro(h|⟨_,_,_,h,_⟩)
   .cases h
   .cases h
 |dQ=>
   rintro(h|⟨_,_,_,_,_,h,_⟩)
   .cases h
   .cases h
theorem a2m{E:Env}{T:Nat->Option D}{H:Nat->Option aS}{N:Nat}(t:Nat){o:aS}(ho:qQ o)(ht:T t=some (.t (.v (.slice none 0 0))))(hN:100<=N):
    dX E (mk T H N) (mk (λx=>if t=x then some (.own N)else T x) (λk=>if N=k then some o else H k) (N+8)):=by
 refine ED λa w ⟨ν,G,I⟩=>?_
 obtain⟨v,hv,hdv⟩:=I.T t _ ht;have hv':=cG hdv;subst hv';have htm:t<E.m:=by rw[<-I.sz];exact(k5.1 hv).1
 have hI:=I.aHJ (a:=a) (fr:=N) (dst:=some t) (W:=[(N,some o)]) hN (λk hk _=>by simp;exact hk) (λt' h=>by cases h;exact htm) [] (λk=>by
  by_cases h:k=N
  .subst h;simp[look]
  .simp[look,h,Ne.symm h]) rfl rfl rfl (cE _) (λ_ _ _=>⟨rfl,rfl⟩) (λ_ _ _ h=>h) (x:=.slice none 0 0) (λg hg=>absurd hg ho.cS) (ho.ok dG) (v:=.slice none 0 0) (d:=.own N) (by
   have:DR (dA ν N (.slice none 0 0)) ((mk T H N).aZ (some t) .any [(N,some o)] N).nm w G (dA ν N (.slice none 0 0) N) (.own N):=.own (oN ..) (by rw[dG];rfl);rw[dG]at this;exact this)
 have he:(a.put (some t) (.slice none 0 0)).tmps=a.tmps:=by
  apply Xn;intro i;simp only[Act.put];by_cases hi:t=i
  .subst hi
   rw[hv,Array.getElem?_setIfInBounds];simp[(k5.1 hv).1]
  .rw[Array.getElem?_setIfInBounds_ne hi]
 rw[he]at hI;have hR:R E ((mk T H N).aZ (some t) (.own N) [(N,some o)] N) a.tmps w:=⟨_,_,hI⟩;have hb:=hR.bound (N:=N+8) (λk hk=>by simp[St.aZ];omega);have e1:((mk T H N).aZ (some t) (.own N) [(N,some o)] N).T=λx=>if t=x then some (.own N)else T x:=by
  funext x
  simp[St.aZ]
 have e2:((mk T H N).aZ (some t) (.own N) [(N,some o)] N).H=λk=>if N=k then some o else H k:=by
  funext k
  simp only[St.aZ,look];by_cases hk:N=k <;> simp[hk]
 rw[e1,e2]at hb;exact hb
theorem a2a{α:Type}{f:α->List Tree}{s:Nat}(h:∀x,(f x).length=s)(l:List α):(l.flatMap f).length=l.length*s:=by
 induction l with
 |nil=>simp
 |cons a l ih=>rw[jS,List.length_append,h,ih,List.length_cons,jR];omega
theorem flat_get{α:Type}{f:α->List Tree}{s:Nat}(h:∀x,(f x).length=s){l:List α}:∀{i:Nat}{x:α},l[i]?=some x->∀j,j<s->(l.flatMap f)[i*s+j]?=(f x)[j]?:=by
 induction l with
 |nil=>intro i x h;simp at h
 |cons a l ih=>
   intro i x hx j hj;rw[jS];cases i with
   |zero=>simp at hx;subst hx;rw[Nat.zero_mul,e9,gD (by rw[h];exact hj)]
   |succ i=>
     rw[eP (by rw[h,jR];omega),h,show(i+1)*s+j-s=i*s+j by rw[jR];omega];exact ih (by simpa using hx) j hj
end Go.Ab
/- The abstract machine: rows that are made. -/
namespace Go.Ab
open Go.RowKit
inductive jE:List Value->List Tree->Prop
 |nil:jE [] []
 |v {x:Value} {l:List Value} {ts:List Tree} (h:x.oneCell'=true) (r:jE l ts):jE (x::l) (.v x::ts)
 |sl {l:List Value} {ts:List Tree} (r:jE l ts):jE (.slice none 0 0::l) (.sl 0 []::ts)
theorem jE.append{l l':List Value}{ts ts':List Tree}(h:jE l ts)(h':jE l' ts'):jE (l++l') (ts++ts'):=by
 induction h with
 |nil=>exact h'
 |v h r ih=>exact .v h ih
 |sl r ih=>exact .sl ih
theorem jE.H0{l:List Value}{ts:List Tree}(h:jE l ts):∀n,jE (eR n l).flatten (eR n ts).flatten
 |0=>.nil
 |n+1=>by rw[qL,qL,EU,EU];exact h.append (h.H0 n)
theorem jE.rel{l:List Value}{ts:List Tree}(h:jE l ts)(w:World)(G:cA):l.length=ts.length/\∀(i:Nat)(u:Value)(t:Tree),l[i]?=some u->ts[i]?=some t->TR w G u t:=by
 induction h with
 |nil=>exact⟨rfl,λi u t h=>by simp at h⟩
 |v h r ih=>
   refine⟨by simp[ih.1],λi u t hu ht=>?_⟩;cases i with
   |zero=>simp at hu ht;subst hu ht;exact .v _ h
   |succ i=>exact ih.2 i u t (by simpa using hu) (by simpa using ht)
 |sl r ih=>
   refine⟨by simp[ih.1],λi u t hu ht=>?_⟩;cases i with
   |zero=>simp at hu ht;subst hu ht;exact .nil (λ_=>rfl)
   |succ i=>exact ih.2 i u t (by simpa using hu) (by simpa using ht)
theorem Vu{z:Value}{s:Nat}(hz:z.cells.size=s)(hs:0<s)(n:Nat):(madeCells z.cells (n*s)).toList=(eR n z.cells.toList).flatten:=by
 apply List.ext_getElem?;intro j;have hzl:z.cells.toList.length=s:=by rw[pE];exact hz
 by_cases hj:j<n*s
 .have hm:j%z.cells.size<z.cells.size:=Nat.mod_lt _ (by rw[hz];exact hs)
  have e2:=PO z.cells.toList (by rw[hzl];exact hs) n j (by rw[hzl];exact hj);rw[e2,hzl,<-hz];simp only[madeCells,Array.toList_map,Array.toList_range,dL,PI,hz,hj,kX];rw[hz]at hm;rw[Array.getElem?_toList];rw[getElem!_pos _ _ (by rw[hz];exact hm),Array.getElem?_eq_getElem (by rw[hz];exact hm)]
 .rw[ET (by rw[pE,size_madeCells];omega),ET (by simp[hz];omega)]
section
variable{P:Program}{o:Oper}{σ:St}{fr:Nat}
theorem a0D{t e:TypeId}{z:Value}{s bytes:Nat}(st:Bool){l c:Operand}{n:Nat}{zt:List Tree}(hT:pG P t e z s bytes)(hz:jE z.cells.toList zt)(ho:o.op = .makeSlice t l c)(hl:σ.ev l=some (I n))(hc:σ.ev c=some (I n))
    (hb:bytes*n<=281474976710656/\n<=maxLen):bI P o σ fr (.own fr) [(fr,some (.row e s n (eR n zt).flatten st))]:=by
 intro E σ₁ a w hTT hHH h100 hf hd ⟨ν,G,I⟩ Q;obtain⟨i,hi,hz',h2,h3⟩:=info_parts hT.i;have hlv:=cG (I.ev (St.eY hTT hl));have hcv:=cG (I.ev (St.eY hTT hc));obtain⟨w',hr,r1,r2⟩:=run_make_full (P:=P) w 0 t e i z s hT.u hi hz' h2 .i64 .i64 n (by rw[h3];exact hb.1) hb.2 (Nat.zero_le _);have hB:(i.bytes:Int)*(n:Int)<=281474976710656:=by
  have h:((i.bytes*n:Nat):Int)<=281474976710656:=by rw[h3];omega
  rwa [Int.natCast_mul]at h
 have hr2:=run_make (P:=P) w t e i z hT.u hi hz' .i64 .i64 n n (by omega) (Int.le_refl _) hB (by have:=hb.2;simp only[maxLen]at this;omega);simp only[Int.toNat_natCast]at hr2;rw[hr]at hr2;have hw:w'=w.alloc (.cells (madeCells z.cells (n*i.size)) e):=by injection hr2
 have hA:cL w w':=hw ▸ (cL.refl w).alloc _;have hG:∀b,b<w.heap.size->(λb=>if b=w.heap.size then(if st then n*s else 0)else G b) b=G b:=λb hb=>aF (by omega)
 have he:(execOp a.eval o).run P w = .ok (.value (.slice (some ⟨w.heap.size,0,none⟩) n n)) w':=by
  unfold execOp;rw[ho];simp[hlv,hcv,hr]
 unfold Oper.wp;rw[he,Oper.upon_value];have hzr:=(hz.H0 n).rel w' (λb=>if b=w.heap.size then(if st then n*s else 0)else G b);rw[<-Vu hT.z hT.s]at hzr;refine⟨put_defers ..,_,_,I.fresh (G':=λb=>if b=w.heap.size then(if st then n*s else 0)else G b) h100 hf hd hA hG (x:=.slice (some ⟨w.heap.size,0,none⟩) n n) (λg hg=>by cases hg;exact cE _) ?_ ?_⟩
 .refine⟨_,by rw[dG];exact r1,hzr.1,hzr.2,λg hg=>?_⟩
  rw[dG]at hg;cases hg;exact⟨.inl I.kept.size,aN rfl⟩
 .have:DR (dA ν fr (.slice (some ⟨w.heap.size,0,none⟩) n n)) (σ₁.aZ o.dst .any [(fr,some (.row e s n (eR n zt).flatten st))] fr).nm w' (λb=>if b=w.heap.size then(if st then n*s else 0)else G b) (dA ν fr (.slice (some ⟨w.heap.size,0,none⟩) n n) fr) (.own fr):=.own (oN ..) (by rw[dG];rfl)
  rw[dG]at this;exact this
end
inductive RV (P:Program) (σ:St):ResultVar->D->Prop
 |tmp {t:Tmp} {d:D} (h:σ.T t=some d):RV P σ (.tmp t) d
 |row {p:Tmp} {t:TypeId} {k m:Nat} {e:TypeId} {ds:List D} (hp:σ.T p=some (.ref k 0)) (hk:σ.H k=some (.box e ds)) (hu:j9 P t=some true) (hi:(P.info? t).map (·.size)=some m) (hm:ds.length=m):RV P σ (.cell p t) (.agg ds)
 |one {p:Tmp} {t:TypeId} {k:Nat} {e:TypeId} {d:D} (hp:σ.T p=some (.ref k 0)) (hk:σ.H k=some (.box e [d])) (hu:j9 P t=some false):RV P σ (.cell p t) d
def HV(tm:Array Value):ResultVar->Sem Value
 |.tmp t=>pure (tm.getD t undef)
 |.cell a t=>do loadVar t (<-asAddr (tm.getD a undef))
theorem RV.run{P:Program}{σ:St}{rv:ResultVar}{d:D}(h:RV P σ rv d){E:Env}{ν:Nat->Value}{G:cA}{w:World}{tm:Array Value}(I:Inv E σ ν G w tm):∃v,(HV tm rv).run P w = .ok v w/\DR ν σ.nm w G v d:=by
 have get:∀p d,σ.T p=some d->DR ν σ.nm w G (tm.getD p undef) d:=λp d hp=>by
  obtain⟨v,hv,hd⟩:=I.T p d hp;have:tm.getD p undef=v:=by simp[Array.getD_eq_getD_getElem?,hv]
  rw[this];exact hd
 cases h with
 |tmp h=>exact⟨_,rfl,get _ _ h⟩
 | @row p t k m e ds hp hk hu hi hm=>
   obtain⟨g,hg,hv,_⟩:=oU (get _ _ hp);obtain⟨dsc,h1,h2⟩:=pS hu;have hob:=(I.H k _ hk).2;have hall:∀i,i<m->∃u,w.cell? ⟨g,0+i,none⟩=some u/\∀d,ds[i]?=some d->DR ν σ.nm w G u d/\u.oneCell'=true:=λi h=>by
    have hd:ds[i]?=some ds[i]:=dF (by omega);obtain⟨g',u,hg',hcu,hdu,h1⟩:=hob.cell (o:=.box e ds) hd;rw[hg]at hg';cases hg';exact⟨u,by rw[e9];exact hcu,λd h=>by rw[hd]at h;cases h;exact⟨hdu,h1⟩⟩
   let cs:List Value:=(List.range m).map λi=>(w.cell? ⟨g,0+i,none⟩).getD undef
   have hcs:∀i u,cs[i]?=some u->i<m/\w.cell? ⟨g,0+i,none⟩=some u:=λi u h=>by
    have hi:i<m:=by simpa[cs]using(cX.1 h).1
    obtain⟨u',h',_⟩:=hall i hi;have h2:cs[i]?=some u':=by
     show((List.range m).map λi=>(w.cell? ⟨g,0+i,none⟩).getD undef)[i]?=some u';rw[dL,PI hi];simp only[kX,h',Option.getD_some]
    rw[h2]at h;cases h;exact⟨hi,h'⟩
   refine⟨.agg cs.toArray,?_,.agg (by simp[cs,hm]) (λi u d h h'=>?_) (λu h=>?_)⟩
   .simp only[HV,hv,asAddr,Sem.run_bind,Sem.run_pure,Result.andThen_ok]
    exact run_loadVar_mid w g 0 t cs dsc (λj v h=>(hcs j v h).2) h1 h2 (by rw[hi];simp[cs])
   .obtain⟨hi,hcu⟩:=hcs i u (by simpa using h)
    obtain⟨u',h1,h2⟩:=hall i hi;rw[hcu]at h1;cases h1;exact(h2 d h').1
   .obtain⟨i,hiu⟩:=List.mem_iff_getElem?.1 (by simpa using h:u∈cs)
    obtain⟨hi,hcu⟩:=hcs i u hiu;obtain⟨u',h1,h2⟩:=hall i hi;rw[hcu]at h1;cases h1;exact(h2 _ (dF (by omega))).2
 | @one p t k e d hp hk hu=>
   obtain⟨g,hg,hv,_⟩:=oU (get _ _ hp);obtain⟨dsc,h1,h2⟩:=pS hu;obtain⟨g',u,hg',hcu,hdu,_⟩:=(I.H k _ hk).2.cell (o:=.box e [d]) (i:=0) rfl;rw[hg]at hg';cases hg';refine⟨u,?_,hdu⟩;have h:=HW h1 h2 hcu;simp only[Instr.loadAt,Instr.sureAddr,Sem.run_bind,Sem.run_pure,Result.andThen_ok]at h;simp only[HV,hv,asAddr,Sem.run_bind,Sem.run_pure,Result.andThen_ok];exact h
theorem RV.all{P:Program}{σ:St}{rv:ResultVar}{d:D}(h:RV P σ rv d){E:Env}{w:World}{tm:Array Value}(hR:R E σ tm w):∃v,(HV tm rv).run P w = .ok v w/\∀ν G,Inv E σ ν G w tm->DR ν σ.nm w G v d:=by
 obtain⟨ν,G,I⟩:=hR;obtain⟨v,hv,_⟩:=h.run I;refine⟨v,hv,λν' G' I'=>?_⟩;obtain⟨v',hv',hd'⟩:=h.run I';rw[hv]at hv';cases hv';exact hd'
theorem Dd(fn:Func)(tm:Array Value):results fn tm=(do
    let vs <-fn.results.mapM (HV tm)
    pure (if h:vs.size=1 then vs[0]else .tuple vs)):=by
 unfold results
 congr 1
abbrev a5D(rn:List (Nat×Nat))(H':List (Nat×aS)):Prop:=(rn.all (λp=>decide (p.1<50)||decide (100<=p.1))&&decide ((H'.map λp=>bO rn p.1).Nodup)&&H'.all (λp=>decide (p.1<108)))=true
section
variable{P:Program}{fn:Func}{E:Env}{σ:St}{r:D}{H':List (Nat×aS)}
theorem aFz{ν:Nat->Value}{nm:Nat->Bool}{w:World}{G:cA}{v1 v2:Value}{d1 d2:D}(h1:DR ν nm w G v1 d1)(h2:DR ν nm w G v2 d2):DR ν nm w G (.tuple #[v1,v2]) (.bD [d1,d2]):=.bD rfl λi u d hu hd=>by
 match i with
 |0=>simp at hu hd;subst hu hd;exact h1
 |1=>simp at hu hd;subst hu hd;exact h2
 |i+2=>simp at hu
theorem aY1{ν:Nat->Value}{nm:Nat->Bool}{w:World}{G:cA}{v1 v2 v3:Value}{d1 d2 d3:D}(h1:DR ν nm w G v1 d1)(h2:DR ν nm w G v2 d2)(h3:DR ν nm w G v3 d3):DR ν nm w G (.tuple #[v1,v2,v3]) (.bD [d1,d2,d3]):=.bD rfl λi u d hu hd=>by
 match i with
 |0=>simp at hu hd;subst hu hd;exact h1
 |1=>simp at hu hd;subst hu hd;exact h2
 |2=>simp at hu hd;subst hu hd;exact h3
 |i+3=>simp at hu
end
theorem a2n{E:Env}{T:Nat->Option D}{H:Nat->Option aS}{N:Nat}(k i:Nat){o0:aS}(h0:qQ o0){e':TypeId}{ds:List D}(hk:H k=some (.box e' ds))(hi:ds[i]?=some (.t (.v (.slice none 0 0))))(hN:100<=N):
    dX E (mk T H N) (mk T (λj=>if N=j then some o0 else if k=j then some (.box e' (ds.set i (.own N)))else H j) (N+8)):=by
 refine ED λa w ⟨ν,G,I⟩=>?_
 have lt:∀j,(mk T H N).nm j=true->j<N:=λj hj=>by simpa using hj
 have ne:∀j,(mk T H N).nm j=true->dA ν N (.slice none 0 0) j=ν j:=λj hj=>lN (by have:=lt j hj;omega)
 have hn:∀j,(mk T H N).nm j=true->decide (j<N+8)=true/\dA ν N (.slice none 0 0) j=ν j:=λj hj=>⟨by have:=lt j hj;simp;omega,ne j hj⟩
 have old:∀j o,H j=some o->j<N:=λj o hj=>lt j (I.H j o hj).1
 have back:∀j o,(if N=j then some o0 else if k=j then some (.box e' (ds.set i (.own N)))else H j)=some o->j=N\/(j<N/\∃o',H j=some o'):=λj o h=>by
  by_cases h1:N=j
  .exact .inl h1.symm
  .rw[aF h1]at h
   by_cases h2:k=j
   .subst h2;exact .inr ⟨old _ _ hk,_,hk⟩
   .rw[aF h2]at h;exact .inr ⟨old _ _ h,_,h⟩
 refine⟨dA ν N (.slice none 0 0),G,I.kept,I.eJ,λj h1 h2=>?_,I.g0,I.sz,λt d ht=>?_,λj o hj=>?_,λj1 o1 j2 o2 h1 h2 hne g hg=>?_⟩
 .rw[lN (by omega)];exact I.fS j h1 h2
 .obtain⟨v,hv,hdv⟩:=I.T t d ht
  exact⟨v,hv,hdv.mono hn (λ_ _ _ h=>h)⟩
 .rcases back j o hj with rfl|⟨hlt,o',ho'⟩
  .simp only[gV,kG]at hj
   subst hj;exact⟨by simp,h0.ok dG⟩
  .obtain⟨q1,q2⟩:=I.H j o' ho'
   have q3:=q2.mono (ν':=dA ν N (.slice none 0 0)) (nm':=λj=>decide (j<N+8)) q1 hn (λ_ _ _ h=>h) (λg _=>⟨rfl,rfl⟩);refine⟨by simp;omega,?_⟩;simp only[aF (show ¬ N=j by omega)]at hj;by_cases h2:k=j
   .subst h2
    rw[aN rfl]at hj;rw[hk]at ho';cases ho';cases hj;obtain⟨g,cur,z1,z2,z3,z4,z5,z6⟩:=q3;refine⟨g,cur,z1,z2,z3,z4,by rw[List.length_set];exact z5,λm u d hu hd=>?_⟩;by_cases hm:i=m
    .subst hm
     have hlt2:i<ds.length:=(cX.1 hi).1;rw[List.getElem?_set_self hlt2]at hd;cases hd;obtain⟨y1,y2⟩:=z6 i u _ hu hi;have:=cG y1;subst this;refine⟨?_,y2⟩;have hown:DR (dA ν N (.slice none 0 0)) (λj=>decide (j<N+8)) w G (dA ν N (.slice none 0 0) N) (.own N):=.own (by simp) (by rw[dG];rfl);rw[dG]at hown;exact hown
    .rw[List.getElem?_set_ne hm]at hd
     exact z6 m u d hu hd
   .rw[aF h2]at hj
    rw[hj]at ho';cases ho';exact q3
 .have fb:∀j o,j<N->(if N=j then some o0 else if k=j then some (.box e' (ds.set i (.own N)))else H j)=some o->∃o',H j=some o'/\∀g,cS w (ν j) o g->cS w (ν j) o' g:=λj o hlt h=>by
   rw[aF (by omega)]at h;by_cases h2:k=j
   .subst h2;rw[aN rfl]at h;cases h;exact⟨_,hk,λ_ h=>h⟩
   .rw[aF h2]at h;exact⟨o,h,λ_ h=>h⟩
  rcases back j1 o1 h1 with rfl|⟨l1,p1,hp1⟩
  .rw[dG]at hg
   simp only[gV,kG]at h1;subst h1;exact absurd hg h0.cS
  .rcases back j2 o2 h2 with rfl|⟨l2,p2,hp2⟩
   .rw[dG]
    simp only[gV,kG]at h2;subst h2;exact h0.cS
   .rw[lN (by omega)]at hg ⊢
    obtain⟨y1,z1,f1⟩:=fb j1 o1 l1 h1;obtain⟨y2,z2,f2⟩:=fb j2 o2 l2 h2;exact λhg'=>I.dS j1 y1 j2 y2 z1 z2 hne g (f1 g hg) (f2 g hg')
theorem aHl{α:Type}{f:α->List Tree}{s:Nat}(h:∀x,(f x).length=s){x:α}:∀{l:List α}{i:Nat},i<l.length->c8 (l.flatMap f) (i*s) (f x)=(l.set i x).flatMap f
 |[],i,hi=>by simp at hi
 |y::l,0,_=>by
   simp only[c8,Nat.zero_mul,List.take_zero,n6,e9,List.set_cons_zero,jS,h x];rw[List.drop_append_of_le_length (by rw[h];exact cE _),sF (by rw[h];exact cE _),n6]
 |y::l,i+1,hi=>by
   have ih:=aHl h (x:=x) (l:=l) (i:=i) (by simpa using hi);rw[List.set_cons_succ,jS,jS,<-ih];have e1:(i+1)*s=s+i*s:=by rw[jR];omega
   simp only[c8,e1];rw[h x,List.take_append,List.drop_append,h y,List.take_of_length_le (by rw[h];omega),sF (by rw[h];omega),n6,Nat.add_sub_cancel_left,show s+i*s+s-s=i*s+s by omega,iK,iK,iK]
end Go.Ab
/- The abstract machine: rows of rows of the walk's own, whose cells may be stored into. -/
namespace Go.Ab
open Go.RowKit
theorem a1j{E:Env}{nm:Nat->Bool}{w:World}{G:cA}{e':TypeId}{s n:Nat}{x:Value}{ys:List Value}{ts:List Tree}(y1:w.ownsRow 0 e' s x n ys)(y2:ys.length=ts.length)
    (y3:∀(i:Nat)(u:Value)(t:Tree),ys[i]?=some u->ts[i]?=some t->TR w G u t) (y4:∀g,bP x=some g->E.may g/\G g=0):eZ E (λ_=>x) nm w G 0 (.row e' s n ts false):=
 ⟨ys,y1,y2,y3,λg hg=>by simpa using y4 g hg⟩
theorem OK{E:Env}{ν:Nat->Value}{nm:Nat->Bool}{w:World}{G:cA}{k:Nat}{e e':TypeId}{s:Nat}{ls:List (Nat×List Tree)}(h:eZ E ν nm w G k (.nest e e' s ls)){i:Nat}{p:Nat×List Tree}(hp:ls[i]?=some p):
    ∃g x ys,bP (ν k)=some g/\Cell w G g i x/\w.ownsRow 0 e' s x p.1 ys/\ys.length=p.2.length/\(∀(i:Nat)(u:Value)(t:Tree),ys[i]?=some u->p.2[i]?=some t->TR w G u t)/\∀g,bP x=some g->E.may g/\G g=0:=by
 obtain⟨xs,r1,r2,r3,r4,r5⟩:=h;have hi:i<ls.length:=(cX.1 hp).1;have hxl:xs.length=ls.length:=by rw[r1.1,IJ]
 have hx:xs[i]?=some xs[i]:=dF (by omega);obtain⟨ys,y1,y2,y3,y4⟩:=r2 i _ p hx hp;rcases r1.2 with⟨_,h0⟩|⟨g0,cap,cur,hv,_⟩
 .omega
 .have hg:bP (ν k)=some g0:=by rw[hv];rfl
  exact⟨g0,xs[i],ys,hg,⟨by rw[V1 r1 hg hi];exact hx,by rw[(r5 g0 hg).2];exact hi⟩,y1,y2,y3,y4⟩
theorem aGI{ν:Nat->Value}{nm:Nat->Bool}{w:World}{G:cA}{v:Value}{k i:Nat}(h:DR ν nm w G v (.sub k i)):∃g,bP (ν k)=some g/\Cell w G g i v/\nm k=true:=by
 cases h with|sub hk hg hc h1=>exact⟨_,hg,hc,hk⟩
theorem aYb{ν:Nat->Value}{nm:Nat->Bool}{w:World}{G:cA}{v:Value}{k i j:Nat}(h:DR ν nm w G v (.iY k i j)):∃g g' n c,bP (ν k)=some g/\Cell w G g i (.slice (some ⟨g',0,none⟩) n c)/\v = .pointer (some ⟨g',j,none⟩)/\nm k=true:=by
 cases h with|iY hk hg hc=>exact⟨_,_,_,_,hg,hc,rfl,hk⟩
theorem Wz{w:World}{G:cA}{b i:Nat}{u v:Value}(h:Cell w G b i u)(h':Cell w G b i v):u=v:=by
 have h1:=h.1;have h2:=h'.1;rw[h1]at h2;exact Option.some.inj h2
section
variable{P:Program}{o:Oper}{σ:St}{fr:Nat}
theorem a0V{t:TypeId}{x y:Operand}{q:Nat}{e e':TypeId}{s:Nat}{ls:List (Nat×List Tree)}{k:IntKind}{j:Int}(hs:rV P t=some 1)(ho:o.op = .indexAddr t x y)(hx:σ.ev x=some (.own q))(hq:σ.H q=some (.nest e e' s ls))(hy:σ.ev y=some (.t (.v (.int k j))))(h0:0<=j)(hn:j<ls.length):
    bI P o σ fr (.ref q j.toNat) []:=
 dN λE σ₁ ν G w a hH I hev=>by
  have hv:=hev x _ hx;have hj:=cG (hev y _ hy);obtain⟨v,he⟩:∃v,a.eval x=v:=⟨_,rfl⟩
  rw[he]at hv;cases hv with
  |own hk h1=>
    obtain⟨xs,r1,_⟩:=(I.H q _ (hH q _ hq)).2;rcases r1.2 with⟨_,hz⟩|⟨g,cap,cur,hvv,_⟩
    .omega
    .refine⟨.pointer (some ⟨g,j.toNat,none⟩),?_,.ref hk (by rw[hvv];rfl)⟩
     unfold execOp;rw[ho];have:=HX hs w g 0 ls.length cap k j h0 hn;rw[IJ,e9]at this;simp[he,hj,hvv,this]
theorem a0O{t:TypeId}{x:Operand}{k i:Nat}{e e':TypeId}{s:Nat}{ls:List (Nat×List Tree)}{p:Nat×List Tree}(hu:j9 P t=some false)(ho:o.op = .load t x)(hx:σ.ev x=some (.ref k i))(hk:σ.H k=some (.nest e e' s ls))(hp:ls[i]?=some p):bI P o σ fr (.sub k i) []:=
 dN λE σ₁ ν G w a hH I hev=>by
  obtain⟨dsc,h1,h2⟩:=pS hu;obtain⟨g,hg,hv,hnm⟩:=oU (hev x _ hx);obtain⟨g',u,ys,hg',hc,y1,_⟩:=OK (I.H k _ (hH k _ hk)).2 hp;rw[hg]at hg';cases hg';refine⟨u,?_,.sub hnm hg hc (BD y1)⟩;unfold execOp;rw[ho];simp[hv,HW h1 h2 hc.1]
theorem a0M{t:TypeId}{x:Operand}{q:Nat}{e e':TypeId}{s:Nat}{ls:List (Nat×List Tree)}{tys:Array TypeId}{el:TypeId}(hu:P.underlying t=some (.slice el))(ho:o.op = .call { callee:=.builtin .len,args:=#[x],argTypes:=tys })(hty:tys = #[t])(hx:σ.ev x=some (.own q))(hq:σ.H q=some (.nest e e' s ls)):bI P o σ fr (I ls.length) []:=by
 intro E σ₁ a w hT hH h100 hf hd ⟨ν,G,I⟩ Q;have hv:=I.ev (St.eY hT hx);obtain⟨v,he⟩:∃v,a.eval x=v:=⟨_,rfl⟩
 rw[he]at hv;cases hv with
 |own hk h1=>
   obtain⟨xs,r1,_⟩:=(I.H q _ (hH q _ hq)).2;obtain⟨ax,c,hvv⟩:∃ax c,ν q = .slice ax ls.length c:=by
    rcases r1.2 with⟨hz,h0⟩|⟨g,cap,cur,hz,_⟩
    .exact⟨_,_,by rw[hz,h0]⟩
    .exact⟨_,_,hz⟩
   subst hty;unfold Oper.wp;have he':(execOp a.eval o).run P w = .ok (.value (.int .i64 ls.length)) w:=by
    unfold execOp;rw[ho];simp[resolve,invoke,builtin,he,hvv,Builtin.len_,run_underlying hu,goInt]
   rw[he',Oper.upon_value];exact⟨put_defers ..,ν,G,I.put (.t (.v _ rfl)) hd fr a rfl⟩
theorem a0L{t:TypeId}{x:Operand}{q i:Nat}{e e':TypeId}{s:Nat}{ls:List (Nat×List Tree)}{p:Nat×List Tree}{tys:Array TypeId}{el:TypeId}(hu:P.underlying t=some (.slice el))(ho:o.op = .call { callee:=.builtin .len,args:=#[x],argTypes:=tys })(hty:tys = #[t])(hx:σ.ev x=some (.sub q i))(hq:σ.H q=some (.nest e e' s ls))(hp:ls[i]?=some p):bI P o σ fr (I p.1) []:=by
 intro E σ₁ a w hT hH h100 hf hd ⟨ν,G,I⟩ Q;obtain⟨g,hg,hc,_⟩:=aGI (I.ev (St.eY hT hx));obtain⟨g',u,ys,hg',hc',y1,_⟩:=OK (I.H q _ (hH q _ hq)).2 hp;rw[hg]at hg';cases hg';have hu':=Wz hc hc';obtain⟨ax,c,hvv⟩:∃ax c,u = .slice ax p.1 c:=by
  rcases y1.2 with⟨hz,h0⟩|⟨g,cap,cur,hz,_⟩
  .exact⟨_,_,by rw[hz,h0]⟩
  .exact⟨_,_,hz⟩
 subst hty;unfold Oper.wp;have he':(execOp a.eval o).run P w = .ok (.value (.int .i64 p.1)) w:=by
  unfold execOp;rw[ho];simp[resolve,invoke,builtin,hu',hvv,Builtin.len_,run_underlying hu,goInt]
 rw[he',Oper.upon_value];exact⟨put_defers ..,ν,G,I.put (.t (.v _ rfl)) hd fr a rfl⟩
theorem a0U{t:TypeId}{x y:Operand}{q i:Nat}{e e':TypeId}{s:Nat}{ls:List (Nat×List Tree)}{p:Nat×List Tree}{k:IntKind}{j:Int}(hs:rV P t=some 1)(ho:o.op = .indexAddr t x y)(hx:σ.ev x=some (.sub q i))(hq:σ.H q=some (.nest e e' s ls))(hp:ls[i]?=some p)(hy:σ.ev y=some (.t (.v (.int k j))))(h0:0<=j)(hn:j<p.1):
    bI P o σ fr (.iY q i j.toNat) []:=
 dN λE σ₁ ν G w a hH I hev=>by
  obtain⟨g,hg,hc,hk⟩:=aGI (hev x _ hx);have hj:=cG (hev y _ hy);obtain⟨g',u,ys,hg',hc',y1,_⟩:=OK (I.H q _ (hH q _ hq)).2 hp;rw[hg]at hg';cases hg';have hu':=Wz hc hc';rcases y1.2 with⟨_,hz⟩|⟨g1,cap,cur,hvv,_⟩
  .omega
  .refine⟨.pointer (some ⟨g1,j.toNat,none⟩),?_,.iY hk hg (by rw[<-hvv];exact hc')⟩
   unfold execOp;rw[ho];have:=HX hs w g1 0 p.1 cap k j h0 hn;rw[IJ,e9]at this;simp[hu',hj,hvv,this]
theorem a0N{t:TypeId}{x:Operand}{k i j:Nat}{e e':TypeId}{s:Nat}{ls:List (Nat×List Tree)}{p:Nat×List Tree}{tr:Tree}(hu:j9 P t=some false)(ho:o.op = .load t x)(hx:σ.ev x=some (.iY k i j))(hk:σ.H k=some (.nest e e' s ls))(hp:ls[i]?=some p)(hj:p.2[j]?=some tr):bI P o σ fr (.t tr) []:=
 dN λE σ₁ ν G w a hH I hev=>by
  obtain⟨dsc,h1,h2⟩:=pS hu;obtain⟨g,g1,n,c,hg,hc,hv,hnm⟩:=aYb (hev x _ hx);obtain⟨g',u,ys,hg',hc',y1,y2,y3,y4⟩:=OK (I.H k _ (hH k _ hk)).2 hp;rw[hg]at hg';cases hg';have hu':=Wz hc hc';subst hu';obtain⟨g2,z,hg2,hz,hd,_⟩:=(a1j (E:=E) (nm:=σ₁.nm) y1 y2 y3 y4).cell (i:=j) (d:=.t tr) (by simp[aS.cells,hj]);simp only[bP,kG]at hg2;subst hg2;cases hd with
  |t hd=>
    refine⟨z,?_,.t hd⟩;unfold execOp;rw[ho];simp[hv,HW h1 h2 hz]
inductive aJE (σ:St) (s:Operand) (e e':TypeId) (sz:Nat):Option Nat->List (Nat×List Tree)->Prop
 |own {k:Nat} {ls:List (Nat×List Tree)} (h:σ.ev s=some (.own k)) (hk:σ.H k=some (.nest e e' sz ls)):aJE σ s e e' sz (some k) ls
 |nil (h:σ.ev s=some (.t (.v (.slice none 0 0)))):aJE σ s e e' sz none []
end
end Go.Ab
/- The abstract machine: maps whose keys are numbers, words or truths; variables that are written no more. -/
namespace Go.Ab
open Go.RowKit
theorem Dr{ν:Nat->Value}{nm:Nat->Bool}{w:World}{G:cA}{v:Value}{k:Nat}(h:DR ν nm w G v (.own k)):v=ν k/\nm k=true:=by
 cases h with|own hk h1=>exact⟨rfl,hk⟩
section
variable{P:Program}{o:Oper}{σ:St}{fr:Nat}
theorem aZx{t:TypeId}(ho:o.op = .makeMap t none):bI P o σ fr (.own fr) [(fr,some (.mp []))]:=by
 intro E σ₁ a w hT hH h100 hf hd ⟨ν,G,I⟩ Q;unfold Oper.wp;have hr:(execOp a.eval o).run P w = .ok (.value (.map (some w.heap.size))) (w.alloc (.map #[] 0)):=by
  unfold execOp;rw[ho];rfl
 rw[hr,Oper.upon_value];have hA:cL w (w.alloc (.map #[] 0)):=(cL.refl w).alloc _;refine⟨put_defers ..,_,_,I.fresh (G':=λb=>if b=w.heap.size then 0 else G b) h100 hf hd hA (λb hb=>aF (by omega)) (x:=.map (some w.heap.size)) (λg hg=>by cases hg;exact cE _) ?_ ?_⟩
 .exact⟨w.heap.size,#[],0,dG,.inl I.kept.size,heap_alloc_new w _,aN rfl,rfl,λi en p h=>by simp at h⟩
 .have:DR (dA ν fr (.map (some w.heap.size))) (σ₁.aZ o.dst .any [(fr,some (.mp []))] fr).nm (w.alloc (.map #[] 0)) (λb=>if b=w.heap.size then 0 else G b) (dA ν fr (.map (some w.heap.size)) fr) (.own fr):=.own (oN ..) (by rw[dG];rfl)
  rw[dG]at this;exact this
theorem aZj{t e:TypeId}{x:Operand}{n s:Nat}{ts:List Tree}(hu:P.underlying t=some (.array n e))(hs:(P.info? e).map (·.size)=some s)(ho:o.op = .slice t x none none none)(hx:σ.ev x=some (.ptr ts 0)):bI P o σ fr (.t (.sl n ts)) []:=
 dN λE σ₁ ν G w a hH I hev=>by
  obtain⟨b,q,us,hv,hl,hcu,htr⟩:=Dh (hev x _ hx);obtain⟨inf,hinf,hsz⟩:=cN.1 hs;refine⟨.slice (some ⟨b,q,none⟩) n n,?_,.t (.sl b q n n us ts hl hcu (cE _) htr)⟩;unfold execOp;rw[ho];simp[hv,Instr.sliceAt,run_underlying hu,Instr.sureAddr,Instr.sliceBounds,sizeOf,typeInfo,hinf,Addr.add_mid]
end
theorem a2o{E:Env}{T:Nat->Option D}{H:Nat->Option aS}{N:Nat}(t k:Nat){e:TypeId}{ds:List D}{ts:List Tree}(ht:T t=some (.ref k 0))(hk:H k=some (.box e ds))(hl:ds.length=ts.length)
    (hw:∀(i:Nat)(tr:Tree),ts[i]?=some tr->∃d,ds[i]?=some d/\cC H d (.t tr)):dX E (mk T H N) (mk (λx=>if t=x then some (.ptr ts 0)else T x) (λj=>if k=j then none else H j) N):=by
 refine ED λa w ⟨ν,G,I⟩=>?_
 obtain⟨hn,g,cur,h1,h2,h3,h4,h5,h6⟩:=I.H k _ hk;have hg:bP (ν k)=some g:=by rw[h1];rfl
 let G':cA:=λb=>if b=g then ts.length else G b
 have hcell:∀b i u,Cell w G b i u->Cell w G' b i u:=λb i u h=>by
  have hne:b≠g:=λe=>by have:=h.2;rw[e,h4]at this;omega
  exact⟨h.1,by show i<if b=g then _ else _;rw[aF hne];exact h.2⟩
 refine⟨ν,G',I.kept,λb i u h=>hcell b i u (I.eJ b i u h),I.fS,λb hb hX=>?_,I.sz,λt' d h=>?_,λj oj h=>?_,λj1 o1 j2 o2 e1 e2 hne=>?_⟩
 .have hne:b≠g:=λe=>by
   subst e;rcases h2 with h|h
   .omega
   .exact hX h
  show(if b=g then _ else _)=_;rw[aF hne];exact I.g0 b hb hX
 .by_cases htt:t=t'
  .subst htt
   simp only[gV,kG]at h;subst h;obtain⟨v,hv,hd⟩:=I.T t _ ht;obtain⟨g',hg',hv',_⟩:=oU hd;rw[hg]at hg';cases hg';refine⟨v,hv,?_⟩;rw[hv'];have:=DR.ptr (ν:=ν) (nm:=(mk T H N).nm) (w:=w) (G:=G') (b:=g) (o:=0) (off:=0) (us:=cur.toList) (ts:=ts) (by rw[pE,h5,hl]) (λi u hu=>?_) (λi u tr hu htr=>?_)
   .simpa using this
   .have hu':cur[i]?=some u:=by simpa using hu
    have hi:i<ts.length:=by rw[<-hl,<-h5];exact(k5.1 hu').1
    exact⟨by rw[e9,EK h3];exact hu',by show _<if g=g then _ else _;rw[aN rfl];omega⟩
   .have hu':cur[i]?=some u:=by simpa using hu
    obtain⟨d,hd,hwk⟩:=hw i tr htr;have:=hwk E _ ν G w a.tmps (λ_ _ h=>h) I u (h6 i u d hu' hd).1;cases this with|t h=>exact h.mono hcell
  .simp only[aF htt]at h
   obtain⟨v,hv,hd⟩:=I.T t' d h;exact⟨v,hv,hd.mono (λ_ h=>⟨h,rfl⟩) hcell⟩
 .by_cases hj:k=j
  .simp[aN hj]at h
  .simp only[aF hj]at h
   obtain⟨q1,q2⟩:=I.H j oj h;refine⟨q1,q2.mono q1 (λ_ h=>⟨h,rfl⟩) hcell (λg' hg'=>⟨rfl,aF (λe=>?_)⟩)⟩;subst e;exact I.dS j oj k _ h hk (λe=>hj e.symm) g' hg' (fT hg)
 .have back:∀j oj,(if k=j then none else H j)=some oj->H j=some oj:=λj oj h=>by
   by_cases hj:k=j
   .rw[aN hj]at h;cases h
   .rw[aF hj]at h;exact h
  exact I.dS j1 o1 j2 o2 (back j1 o1 e1) (back j2 o2 e2) hne
end Go.Ab
/- The abstract machine: rows whose elements hold rows of the walk's own. -/
namespace Go.Ab
open Go.RowKit
section
variable{P:Program}{o:Oper}{σ:St}{fr:Nat}
theorem a0T{t:TypeId}{x y:Operand}{q:Nat}{e e':TypeId}{m s n:Nat}{cs:List NC}{k:IntKind}{j:Int}(hs:rV P t=some m)(ho:o.op = .indexAddr t x y)(hx:σ.ev x=some (.own q))(hq:σ.H q=some (.dQ e e' m s n cs))(hy:σ.ev y=some (.t (.v (.int k j))))(h0:0<=j)(hn:j<n):
    bI P o σ fr (.ref q (j.toNat*m)) []:=
 dN λE σ₁ ν G w a hH I hev=>by
  have hv:=hev x _ hx;have hj:=cG (hev y _ hy);obtain⟨v,he⟩:∃v,a.eval x=v:=⟨_,rfl⟩
  rw[he]at hv;cases hv with
  |own hk h1=>
    obtain⟨xs,r1,_⟩:=(I.H q _ (hH q _ hq)).2;rcases r1.2 with⟨_,hz⟩|⟨g,cap,cur,hvv,_⟩
    .omega
    .refine⟨.pointer (some ⟨g,j.toNat*m,none⟩),?_,.ref hk (by rw[hvv];rfl)⟩
     unfold execOp;rw[ho];have:=HX hs w g 0 n cap k j h0 hn;rw[e9]at this;simp[he,hj,hvv,this]
theorem a0K{t:TypeId}{x:Operand}{q:Nat}{e e':TypeId}{m s n:Nat}{cs:List NC}{tys:Array TypeId}{el:TypeId}(hu:P.underlying t=some (.slice el))(ho:o.op = .call { callee:=.builtin .len,args:=#[x],argTypes:=tys })(hty:tys = #[t])(hx:σ.ev x=some (.own q))(hq:σ.H q=some (.dQ e e' m s n cs)):bI P o σ fr (I n) []:=by
 intro E σ₁ a w hT hH h100 hf hd ⟨ν,G,I⟩ Q;have hv:=I.ev (St.eY hT hx);obtain⟨v,he⟩:∃v,a.eval x=v:=⟨_,rfl⟩
 rw[he]at hv;cases hv with
 |own hk h1=>
   obtain⟨xs,r1,_⟩:=(I.H q _ (hH q _ hq)).2;obtain⟨ax,c,hvv⟩:∃ax c,ν q = .slice ax n c:=by
    rcases r1.2 with⟨hz,h0⟩|⟨g,cap,cur,hz,_⟩
    .exact⟨_,_,by rw[hz,h0]⟩
    .exact⟨_,_,hz⟩
   subst hty;unfold Oper.wp;have he':(execOp a.eval o).run P w = .ok (.value (.int .i64 n)) w:=by
    unfold execOp;rw[ho];simp[resolve,invoke,builtin,he,hvv,Builtin.len_,run_underlying hu,goInt]
   rw[he',Oper.upon_value];exact⟨put_defers ..,ν,G,I.put (.t (.v _ rfl)) hd fr a rfl⟩
end
def NC.VA:NC->Option Tree
 |.qC (.t t)=>some t
 |.fH q ts=>some (.sl q ts)
 |_=>none
end Go.Ab
/- The abstract machine: an inner row is lent out under a name of its own. -/
namespace Go.Ab
open Go.RowKit
end Go.Ab
/- The abstract machine: a cell of such a row is written over. -/
namespace Go.Ab
open Go.RowKit
section
variable{P:Program}{o:Oper}{σ:St}{fr:Nat}
end
end Go.Ab
/- The abstract machine: a row of one element that holds a row of the walk's own. -/
namespace Go.Ab
open Go.RowKit
section
variable{P:Program}{o:Oper}{σ:St}{fr:Nat}
end
end Go.Ab
/- The abstract machine: append of rows whose elements hold rows of the walk's own. -/
namespace Go.Ab
open Go.RowKit
section
variable{P:Program}{o:Oper}{σ:St}{fr:Nat}
inductive aJD (σ:St) (s:Operand) (e e':TypeId) (m sz:Nat):Option Nat->Nat->List NC->Prop
 |own {k n:Nat} {cs:List NC} (h:σ.ev s=some (.own k)) (hk:σ.H k=some (.dQ e e' m sz n cs)):aJD σ s e e' m sz (some k) n cs
 |nil (h:σ.ev s=some (.t (.v (.slice none 0 0)))):aJD σ s e e' m sz none 0 []
end
end Go.Ab
