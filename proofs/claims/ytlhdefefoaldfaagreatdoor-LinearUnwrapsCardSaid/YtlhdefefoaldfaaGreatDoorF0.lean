/- Contracts of library functions. Conditions are in the theorems. -/
import Derived.Test.YtlhdefefoaldfaaGreatDoorE7
import Derived.WalkKit
import Derived.OwnWalk
import Derived.Lib.AppendStr
import Derived.Test.YtlhdefefoaldfaaGreatDoorE4
import Derived.Lib.ItoaNum
import Derived.Lib.Atoi
import Derived.Lib.Bytealg
import Derived.Shelf.Small.Utf8
import Derived.Shelf.Small.Strs
import Derived.Shelf.Strconv.Atoi
import Derived.Shelf.Strconv.Itoa0
import Derived.Shelf.Strconv.Itoa1
import Derived.Shelf.LaysM
import Derived.Shelf.Strconv.Itoa2
import Derived.Shelf.Strconv.Itoa3
import Derived.Shelf.Strings.Search1
import Derived.Shelf.Strconv.AppendUint10
import Derived.Shelf.Strconv.AppendInt10
import Derived.Shelf.Strconv.AppendIntPublic10
import Derived.Shelf.Strings.Runes
import Derived.Shelf.Bytes.SlIndexAt
import Derived.Shelf.Bytes.IndexByte
import Derived.Test.YtlhdefefoaldfaaGreatDoorProg
import Derived.Lib.Walk
import Derived.Lib.ItoaWalk
import Derived.Lib.Hide
import Derived.BigCall
import Derived.BigGuard
import Derived.CellFam
import Derived.Lib.AppendIntMem
import Derived.Lib.AtoiErrMem
import Derived.Lib.Builder
import Derived.Lib.UnsafeStr
import Derived.Lib.FrozenHead
import Derived.KernelRfl
import Derived.Lib.Bytes
open Array renaming ext_getElem?->aBC,getElem?_eq_none->Jy,getElem?_modify->aBA,length_toList->p7,size_replicate->aAz
open Bool renaming and_eq_true->bM
open Int renaming toNat->vX,toNat_natCast->nC
open List renaming all_eq_true->eI,getElem?_append_left->gK,getElem?_append_right->dW,getElem?_eq_getElem->dE,getElem?_map->dT,length_map->dR,map_append->rG,mem_iff_getElem?->jN
open Nat renaming eq_of_beq_eq_true->cA,le_of_ble_eq_true->fN,le_refl->bZ
open Option renaming map_eq_some_iff->cV
open UInt8 renaming ofNat_toNat->aAf
/- Contracts of functions that append to a row of the walk's own, and rows that begin as nil. -/
namespace Go.Ax
open Go.RowKit Go.Ab
theorem aNN{P:Program}{ops:Array Oper}{rest:List Oper}{o:Oper}{a:Act}{Q:Exit->Act->World->Prop}{w:World}(hgd:o.guard=none)(s x:Operand){t e:TypeId}{z:Value}{size bytes:Nat}(hT:p9 P t e z size bytes)
    (ho:o.op = .call { callee:=.builtin .append,args:=#[s,x],argTypes:=#[t,t] }) {v:Value} {n:Nat} {xs:List Value} (hs:a.eval s=v) (hown:w.ownsRow 0 e size v n xs) {ax:Option Addr} {m c:Nat} {news:List Value} (hx:a.eval x = .slice ax m c)
    (hl:news.length=m*size) (hnews:Rd w ax news) (hc:ax=none->c=0) (h1:∀u∈news,u.oneCell'=true) (h63:n+m<=maxLen) (hbytes:(n+m)*bytes<=140737488355328)
    (h:∀v' w',w'.ownsRow 0 e size v' (n+m) (xs++news)->w'.os=w.os->w'.tape=w.tape->w'.output=w.output->w.heap.size<=w'.heap.size->
     (∀b,b<w.heap.size->v.ownBlock≠some b->w'.heap[b]?=w.heap[b]?)->(∀g i,v.ownBlock=some g->i<n*size->w'.cell? ⟨g,i,none⟩=w.cell? ⟨g,i,none⟩)->(∀g,v'.ownBlock=some g->w.heap.size<=g\/v.ownBlock=some g)->wpList P ops Q rest (a.put o.dst v') w'):wpList P ops Q (o::rest) a w:=by
 refine wpList_plain hgd λK hK=>?_
 obtain⟨v',w',hr,r2,q1,q2,q3,q4,q5,q6,q7⟩:=aKQ (ty:=o.type) hT hown (m:=m) (c:=c) hl hnews hc h1 h63 hbytes;unfold Oper.wp;have he:(execOp a.eval o).run P w = .ok (.value v') w':=by
  unfold execOp;rw[ho];simp[resolve,invoke,builtin,hs,hx,hr]
 rw[he,Oper.upon_value];exact hK _ _ (h v' w' r2 q1 q2 q3 q4 q5 q6 q7)
theorem a43{P:Program}{t u ty e:TypeId}{i:TypeInfo}(ht:P.underlying t=some (.slice e))(hu:P.underlying u=some .string)(hi:P.info? e=some i)(hz:i.zero=some (.int .u8 0))(hsize:i.size=1)(hby:i.bytes=1)
    {w:World} {v:Value} {n:Nat} {xs:List Value} (hown:w.ownsRow 0 e 1 v n xs) (s:ByteArray) (h63:n+s.size<=maxLen) (hbytes:n+s.size<=140737488355328):
    ∃v' w',(Builtin.append_ #[t,u] ty #[v,.string s]).run P w = .ok v' w'/\w'.ownsRow 0 e 1 v' (n+s.size) (xs++Lib.strCells s)/\w'.os=w.os/\w'.tape=w.tape/\w'.output=w.output/\w.heap.size<=w'.heap.size /\
     (∀b,b<w.heap.size->v.ownBlock≠some b->w'.heap[b]?=w.heap[b]?)/\(∀g i,v.ownBlock=some g->i<n*1->w'.cell? ⟨g,i,none⟩=w.cell? ⟨g,i,none⟩)/\∀g,v'.ownBlock=some g->w.heap.size<=g\/v.ownBlock=some g:=by
 obtain⟨v',w',hr,r2,r3,r4⟩:=Lib.run_append_own_string (P:=P) w 0 t u ty e i ht hu hi hz hsize hby v n xs hown s h63 hbytes (Nat.zero_le _);have hxl:xs.length=n:=by simpa using hown.1
 have key:(v'.ownBlock=v.ownBlock/\(s.size=0\/v'.ownBlock≠none))\/(v'.ownBlock=some w.heap.size/\∀b,b<w.heap.size->w'.heap[b]?=w.heap[b]?):=by
  rcases hown.2 with⟨rfl,rfl⟩|⟨g,cap,cur,rfl,_,hg,hnc,hcm,hcs,htake⟩
  .by_cases hm:s.size=0
   .left
    rw[r4.2 ⟨rfl,hm⟩];exact⟨rfl,.inl hm⟩
   .right
    have hr':=run_append_nil_string (P:=P) w t u ty e i (.int .u8 0) ht hu hi hz s (by omega) (by simp only[maxLen]at h63;omega) (by rw[hby];omega);rw[hr']at hr;cases hr;exact⟨rfl,λb hb=>heap_alloc_old _ _ hb⟩
  .by_cases hroom:n+s.size<=cap
   .left
    have hcs':cur.size=cap:=by simpa using hcs
    have hr':=Lib.run_append_room_string (P:=P) w t u ty e i ht hu hi hsize g n cap cur hg s hroom (by omega);rw[hr']at hr;cases hr;exact⟨rfl,.inr (by simp[Value.ownBlock])⟩
   .right
    have holds:∀j u,xs[j]?=some u->w.cell? ((⟨g,0,none⟩:Addr).add j)=some u:=hown.cells (g:=g) rfl
    have hr':=Lib.run_append_grow_string (P:=P) w t u ty e i (.int .u8 0) ht hu hi hz ⟨g,0,none⟩ n cap xs (by rw[hsize];simpa using hxl) holds s (by omega) (by simp only[maxLen]at h63;omega) (by rw[hby];exact growslice_fits (by omega) (by omega));rw[hr']at hr;cases hr;exact⟨rfl,λb hb=>heap_alloc_old _ _ hb⟩
 refine⟨v',w',hr,r2,r3.os,r3.tape,r3.output,r3.size,λb hb hne=>r3.block b hb (λe=>hne e.symm),λg j hg hj=>?_,λg hg=>?_⟩
 .have hgl:g<w.heap.size:=(hown.lt g hg).2
  rcases key with⟨k1,_⟩|⟨_,k2⟩
  .have hx:xs[j]?=some (xs[j]'(by rw[hown.1];exact hj)):=dE _
   have c1:=hown.cells hg j _ hx;have c2:=r2.cells (g:=g) (by rw[k1];exact hg) j _ (by rw[gK (by rw[hown.1];exact hj)];exact hx);rw[Addr.add_mid,Nat.zero_add]at c1 c2;rw[c1,c2]
  .exact World.cell?_of_block (a:=⟨g,j,none⟩) (k2 g hgl)
 .rcases key with⟨k1,_⟩|⟨k1,_⟩
  .exact .inr (by rw[<-k1];exact hg)
  .rw[k1]at hg;cases hg;exact .inl (bZ _)
theorem aNM{P:Program}{ops:Array Oper}{rest:List Oper}{o:Oper}{a:Act}{Q:Exit->Act->World->Prop}{w:World}(hgd:o.guard=none)(sl x:Operand){t u e:TypeId}{i:TypeInfo}
    (ho:o.op = .call { callee:=.builtin .append,args:=#[sl,x],argTypes:=#[t,u] }) (ht:P.underlying t=some (.slice e)) (hu:P.underlying u=some .string) (hi:P.info? e=some i) (hz:i.zero=some (.int .u8 0)) (hsize:i.size=1) (hby:i.bytes=1)
    {v:Value} {n:Nat} {xs:List Value} (hs:a.eval sl=v) (hown:w.ownsRow 0 e 1 v n xs) {s:ByteArray} (hx:a.eval x = .string s) (h63:n+s.size<=maxLen) (hbytes:n+s.size<=140737488355328)
    (h:∀v' w',w'.ownsRow 0 e 1 v' (n+s.size) (xs++Lib.strCells s)->w'.os=w.os->w'.tape=w.tape->w'.output=w.output->w.heap.size<=w'.heap.size->
     (∀b,b<w.heap.size->v.ownBlock≠some b->w'.heap[b]?=w.heap[b]?)->(∀g i,v.ownBlock=some g->i<n*1->w'.cell? ⟨g,i,none⟩=w.cell? ⟨g,i,none⟩)->(∀g,v'.ownBlock=some g->w.heap.size<=g\/v.ownBlock=some g)->wpList P ops Q rest (a.put o.dst v') w'):wpList P ops Q (o::rest) a w:=by
 refine wpList_plain hgd λK hK=>?_
 obtain⟨v',w',hr,r2,q1,q2,q3,q4,q5,q6,q7⟩:=a43 (ty:=o.type) ht hu hi hz hsize hby hown s h63 hbytes;unfold Oper.wp execOp;simp only[ho,resolve,invoke,builtin,Sem.run_bind,Sem.run_pure,Result.andThen_ok,List.map_toArray,List.map_cons,List.map_nil,hs,hx,hr];exact hK _ _ (h v' w' r2 q1 q2 q3 q4 q5 q6 q7)
theorem a8g{P:Program}{f:FuncId}{ds:List D}{e:TypeId}{size n n':Nat}{ts ys:List Tree}
    (h:∀(w:World),Bq w->∀(v:Value)(vs:List Value)(xs:List Value),vs.length=ds.length->(∀(i:Nat)(u:Value)(d:D),vs[i]?=some u->ds[i]?=some d->∀x,d = .t (.v x)->u=x)->w.ownsRow 0 e size v n xs->Calls P f (v::vs).toArray w λe' w'=>∃v' us,e' = .returned v'/\w'.ownsRow 0 e size v' n' (xs++us)/\us.length=ys.length/\(∀(i:Nat)(u:Value)(t:Tree),us[i]?=some u->ys[i]?=some t->t = .v u/\u.oneCell'=true) /\
     w'.os=w.os/\w'.tape=w.tape/\w'.output=w.output/\w.heap.size<=w'.heap.size/\(∀b,b<w.heap.size->v.ownBlock≠some b->w'.heap[b]?=w.heap[b]?)/\(∀g i,v.ownBlock=some g->i<n*size->w'.cell? ⟨g,i,none⟩=w.cell? ⟨g,i,none⟩)/\∀g,v'.ownBlock=some g->w.heap.size<=g\/v.ownBlock=some g)
    (hn:n*size<=n'*size):cR P f (.own 50::ds) [(50,.row e size n ts true)] (.own 100) [(100,.row e size n' (ts++ys) true)]:=by
 intro E w vs0 hE0 hm hsz ⟨ν,G,I⟩;obtain⟨v,hv,hdv⟩:=I.T 0 (.own 50) rfl;obtain⟨vl⟩:=vs0;simp only[List.size_toArray]at hsz;obtain⟨v1,vs,rfl⟩:∃v1 vs,vl=v1::vs:=by
  cases vl with
  |nil=>cases hsz
  |cons a b=>exact⟨a,b,rfl⟩
 have hv':v1=v:=by simpa using hv
 subst hv';have hvν:v1=ν 50:=by cases hdv with|own=>rfl
 subst hvν;obtain⟨hnm,xs,r1,r2,r3,r4⟩:=I.H 50 _ rfl;have hsz':vs.length=ds.length:=by simpa using hsz
 refine(h w (hE0 ▸ E.x6 E.w0 (bZ _) λ_ _ _=>rfl) (ν 50) vs xs hsz' (λi u d hu hd' x hx=>?_) r1).mono ?_
 .obtain⟨u',hu',hr⟩:=I.T (i+1) d (by show(D.own 50::ds)[i+1]?=some d;simpa using hd')
  have:u'=u:=by
   have:((ν 50::vs).toArray)[i+1]?=some u:=by simpa using hu
   rw[this]at hu';cases hu';rfl
  subst this;subst hx;exact cL hr
 rintro e' w' ⟨v',us,rfl,s1,s2,s3,q1,q2,q3,q4,q5,q6,q7⟩;have hmay:∀g,(ν 50).ownBlock=some g->E.may g/\G g=n*size:=λg hg=>by have:=r4 g (aAS hg);simpa using this
 obtain⟨G',hG'⟩:∃G':cE,G'=λb=>if v'.ownBlock=some b then n'*size else G b:=⟨_,rfl⟩
 have hcell:∀b i u,Cell w G b i u->Cell w' G' b i u:=λb i u hc=>by
  by_cases hb:(ν 50).ownBlock=some b
  .have hG:=(hmay b hb).2
   have h2:=hc.2;rw[hG]at h2;refine⟨(q6 b i hb h2).trans hc.1,?_⟩;rw[hG'];show i<if v'.ownBlock=some b then n'*size else G b
   split
   .omega
   .rw[hG];exact h2
  .refine⟨(World.cell?_of_block (a:=⟨b,i,none⟩) (q5 b hc.lt hb)).trans hc.1,?_⟩
   have:v'.ownBlock≠some b:=λe=>by
    rcases q7 b e with h'|h'
    .have:=hc.lt;omega
    .exact hb h'
   rw[hG'];simp only[aD this];exact hc.2
 have hblk:∀g,bQ v'=some g->v'.ownBlock=some g:=λg hg=>by rw[<-mR s1];exact hg
 have hold:∀b,b<w.heap.size->¬ E.X b->w'.heap[b]?=w.heap[b]?/\G' b=G b:=λb hb hX=>by
  have hne:(ν 50).ownBlock≠some b:=λe=>by
   rcases(hmay b e).1 with h|h
   .rw[hE0]at h;omega
   .exact hX h
  refine⟨q5 b hb hne,?_⟩;rw[hG'];refine aD λe=>?_
  rcases q7 b e with h|h
  .omega
  .exact hne h
 have hw0:E.w0.heap.size=w.heap.size:=by rw[hE0]
 refine⟨v',rfl,λk=>if k=100 then v' else ν k,G',⟨by rw[hE0,q1],by rw[hE0,q2],by rw[hE0,q3],by rw[hE0];exact q4,λb hb hX=>?_⟩,λb i u hc=>hcell b i u (I.eR b i u hc),λk h1 h2=>?_,λb hb hX=>?_,rfl,λt d ht=>?_,λk o hk=>?_,λk o k' o' hk hk' hne=>?_⟩
 .exact(hold b (by rw[<-hw0];exact hb) hX).1.trans (I.kept.block b hb hX)
 .have h2:k<100:=h2
  show(if k=100 then v' else ν k)=_;rw[aD (by omega)];exact I.gE k h1 h2
 .exact(hold b (by rw[<-hw0];exact hb) hX).2.trans (I.g0 b hb hX)
 .cases t with
  |succ t=>exact absurd (show(none:Option D)=some _ from ht) (by simp)
  |zero=>
    cases ht;refine⟨v',rfl,?_⟩;have:DR (λk=>if k=100 then v' else ν k) (λk=>decide (k<108)) w' G' ((λk=>if k=100 then v' else ν k) 100) (.own 100):=.own (by decide) (by simp only[gZ];exact Bv s1);exact this
 .have hk:Ab.look k [(100,aZ.row e size n' (ts++ys) true)]=some o:=hk
  unfold Ab.look at hk;split at hk
  .rename_i e1
   cases hk;subst e1;refine⟨rfl,xs++us,?_,by simp[r2,s2],λi u t hu ht=>?_,λg hg=>?_⟩
   .simp only[gZ];exact s1
   .by_cases hi:i<xs.length
    .rw[gK hi]at hu
     rw[gK (by omega)]at ht;exact(r3 i u t hu ht).mono hcell
    .rw[dW (by omega)]at hu
     rw[dW (by omega)]at ht;obtain⟨e2,e3⟩:=s3 _ u t hu (by rw[r2];exact ht);rw[e2];exact .v u e3
   .simp only[gZ]at hg
    have hg':=hblk g hg;refine⟨?_,by rw[hG'];simp only[aJ hg',gZ]⟩;rcases q7 g hg' with h|h
    .exact .inl (by show E.w0.heap.size<=g;rw[hw0];exact h)
    .exact(hmay g h).1
  .cases hk
 .have h1:∀k o,Ab.look k [(100,aZ.row e size n' (ts++ys) true)]=some o->k=100:=λk o hk=>by
   unfold Ab.look at hk;split at hk
   .rename_i e1;exact e1.symm
   .cases hk
  exact absurd ((h1 k o hk).trans (h1 k' o' hk').symm) hne
theorem aKx{x:X}(h:ZF x=true){ν ν':Nat->Value}{nm nm':Nat->Bool}{w:World}{G:cE}{v:Value}(hd:DR ν nm w G v x.D):DR ν' nm' w G v x.D:=by
 cases x with
 |e τ y=>
   have h:τ.one=true:=h;rw[qZ h]at hd ⊢;cases hd with|t hd=>exact .t hd
 |agg xs=>
   unfold X.D at hd ⊢;rw[fO]at hd ⊢;cases hd with
   |agg hl hr h1=>
     refine .agg hl (λi u d hu hdd=>?_) h1;have h0:=hr i u d hu hdd;rw[dT]at hdd;obtain⟨y,hy,rfl⟩:=cV.1 hdd;have:=eI.1 h y (jN.2 ⟨i,hy⟩);split at this
     .rename_i τ z
      rw[qZ this]at h0 ⊢;cases h0 with|t h0=>exact .t h0
     .cases this
 |_=>cases h
theorem a8f{P:Program}{f:FuncId}{xs:List X}{e:TypeId}{s:Nat}{r:aE}(hd:xs.all ZF=true)(hr:ZE r=true)(h:cR P f (.own 50::xs.map X.D) [(50,.row e s 0 [] true)] r.1.D (HA r.2)):cR P f (.t (.v (.slice none 0 0))::xs.map X.D) [] r.1.D (HA r.2):=by
 obtain⟨rx,rH⟩:=r;unfold ZE at hr;rw[bM]at hr;obtain⟨hr1,hr2⟩:=hr;have hH:∀k o,Ab.look k (HA rH)=some o->100<=k/\∃e s n ts st,o = .row e s n ts st:=λk o hk=>by
  rw[vE]at hk;obtain⟨y,hy,rfl⟩:=cV.1 hk;have:=eI.1 hr2 _ (mT hy);rw[bM]at this;refine⟨fN this.1,?_⟩;have h2:=this.2;split at h2
  .rename_i hy2;simp only at hy2;subst hy2;exact⟨_,_,_,_,_,rfl⟩
  .cases h2
 intro E w vs hE0 hm hsz ⟨ν,G,I⟩;obtain⟨v0,hv0,hd0⟩:=I.T 0 _ rfl;have:=cL hd0;subst this
 let E1:Env:={ E with ν0:=λk=>if k=50 then .slice none 0 0 else E.ν0 k }
 have hR1:R E1 (args (.own 50::xs.map X.D) [(50,.row e s 0 [] true)]) vs w:=by
  refine⟨λk=>if k=50 then .slice none 0 0 else ν k,G,⟨I.kept.os,I.kept.tape,I.kept.output,I.kept.size,I.kept.block⟩,I.eR,λk h1 h2=>?_,I.g0,I.sz,λt d ht=>?_,λk o hk=>?_,λk o k' o' hk hk' hne=>?_⟩
  .show(if k=50 then _ else _)=if k=50 then _ else _
   split
   .rfl
   .exact I.gE k h1 h2
  .cases t with
   |zero=>
     cases ht;refine⟨_,hv0,?_⟩;have:DR (λk=>if k=50 then Value.slice none 0 0 else ν k) (λk=>decide (k<100)) w G ((λk=>if k=50 then Value.slice none 0 0 else ν k) 50) (.own 50):=.own (by decide) rfl;exact this
   |succ t=>
     have ht':(xs.map X.D)[t]?=some d:=by simpa using ht
     obtain⟨v,hv,hdr⟩:=I.T (t+1) d (by show(_::xs.map X.D)[t+1]?=some d;simpa using ht');rw[dT]at ht';obtain⟨x,hx,rfl⟩:=cV.1 ht';exact⟨v,hv,aKx (eI.1 hd x (jN.2 ⟨t,hx⟩)) hdr⟩
  .have hk:Ab.look k [(50,aZ.row e s 0 [] true)]=some o:=hk
   unfold Ab.look at hk;split at hk
   .rename_i e1
    cases hk;subst e1;refine⟨rfl,[],?_,rfl,λi u t hu=>by simp at hu,λg hg=>?_⟩
    .exact World.ownsRow_nil w 0 e s
    .simp[bQ]at hg
   .cases hk
  .have h1:∀k o,Ab.look k [(50,aZ.row e s 0 [] true)]=some o->k=50:=λk o hk=>by
    unfold Ab.look at hk;split at hk
    .rename_i e1;exact e1.symm
    .cases hk
   exact absurd ((h1 k o hk).trans (h1 k' o' hk').symm) hne
 refine(h E1 w vs hE0 hm (by simpa using hsz) hR1).mono ?_;rintro e' w' ⟨v,rfl,ν',G',I'⟩;have hν:∀k,100<=k->(λk=>if 50<=k/\k<100 then E.ν0 k else ν' k) k=ν' k:=λk hk=>aD (by omega)
 refine⟨v,rfl,λk=>if 50<=k/\k<100 then E.ν0 k else ν' k,G',⟨I'.kept.os,I'.kept.tape,I'.kept.output,I'.kept.size,I'.kept.block⟩,I'.eR,λk h1 h2=>aJ ⟨h1,h2⟩,I'.g0,I'.sz,λt d ht=>?_,λk o hk=>?_,λk o k' o' hk hk' hne g hg=>?_⟩
 .obtain⟨u,hu,hdr⟩:=I'.T t d ht
  refine⟨u,hu,?_⟩;cases t with
  |succ t=>exact absurd (show(none:Option D)=some _ from ht) (by simp)
  |zero=>
    cases ht;change DR ν' _ w' G' u rx.D at hdr;show DR _ _ w' G' u rx.D;cases rx with
    |own k=>
      have hk:=fN hr1;have e1:=hν k hk;cases hdr with
      |own h1 h2=>rw[<-e1]at h2 ⊢;exact .own h1 h2
    |e τ y=>exact aKx (x:=.e τ y) hr1 hdr
    |_=>cases hr1
 .obtain⟨h100,e1,s1,n1,ts1,st1,rfl⟩:=hH k o hk
  obtain⟨h1,ys,y1,y2,y3,y4⟩:=I'.H k _ hk;refine⟨h1,ys,?_,y2,y3,λg hg=>?_⟩
  .rw[hν k h100];exact y1
  .rw[hν k h100]at hg;exact y4 g hg
 .obtain⟨h100,e1,s1,n1,ts1,st1,rfl⟩:=hH k o hk
  obtain⟨h100',e1',s1',n1',ts1',st1',rfl⟩:=hH k' o' hk';have hg:cZ w' ((λk=>if 50<=k/\k<100 then E.ν0 k else ν' k) k) (.row e1 s1 n1 ts1 st1) g:=hg;rw[hν k h100]at hg;show ¬ cZ w' ((λk=>if 50<=k/\k<100 then E.ν0 k else ν' k) k') (.row e1' s1' n1' ts1' st1') g;rw[hν k' h100'];exact I'.eB k _ k' _ hk hk' hne g hg
theorem aBJ{P:Program}{f:FuncId}{e:TypeId}{τ:Ty}{g:bK}(h:aM P f g):aM P f (KB e τ g):=λxs H pre r he hp=>by
 unfold KB at he;split at he
 .rename_i r0 h0
  cases he;exact h xs H pre r h0 hp
 .split at he
  .rename_i l
   split at he
   .rename_i pre0 r0 h0
    split at he
    .rename_i hb
     rw[bM]at hb;cases he;exact a8f (e:=e) (s:=τ.size) hb.2 hb.1 (h _ _ _ _ h0 hp)
    .cases he
   .cases he
  .cases he
end Go.Ax
/- Contracts of library functions, as definitions. -/
namespace Go.Proofs
open Go.Ax
def uP(_:Nat)(s:List UInt8):Bool:=decide (s.length<=18)&&(Lib.atoi s).isSome
def B2(_:Nat)(s:List UInt8):Int:=(Lib.atoi s).getD 0
def aIm(N:Nat):bK:=E1 .tx λs=>(uP N s,(.bD [.e (.i .i64) (B2 N s),.v .nilIface],[]))
def Xm(xs:List X)(H:XH):Option (Int×Int×List UInt8):=match xs,H with
 |[.own 50,x0,x1],[(50,x2)]=>(match ue (.i .u64) x0,ue (.i .i64) x1,ur 5 .u8 true x2 with|some a0,some a1,some a2=>some (a0,a1,a2)|_,_,_=>none)
 |_,_=>none
def Bd(_:Nat)(u b:Int)(l:List UInt8):Bool:=decide (b=10)&&(decide (0<=u/\u<18446744073709551616)&&decide (l.length+20<=140737488355328))
def Xl(_:Nat)(u _b:Int)(l:List UInt8):List UInt8:=l++Lib.decDigits u.toNat
def aJJ(N:Nat):bK:=fD Xm (λd=>Bd N d.1 d.2.1 d.2.2) (λd=>(.own 100,[(100,.row 5 .u8 (Xl N d.1 d.2.1 d.2.2) true)]))
def aLU(_:Nat):bK:=E0 (true,(.e .bo true,[]))
def MU(_:Nat)(_:List UInt8)(r:Int):Bool:=decide (0<=r/\r<128)
def MT(_:Nat)(s:List UInt8)(r:Int):Int:=Lib.indexByte s r.toNat.toUInt8
def aE2(N:Nat):bK:=E2 .tx (.i .i32) λs r=>(MU N s r,(.e (.i .i64) (MT N s r),[]))
def MS(_:Nat)(_:List UInt8)(r:Int):Bool:=decide (0<=r/\r<128)
def DN(_:Nat)(s:List UInt8)(r:Int):Bool:=decide (0<=Lib.indexByte s r.toNat.toUInt8)
def aE1(N:Nat):bK:=E2 .tx (.i .i32) λs r=>(MS N s r,(.e .bo (DN N s r),[]))
def Dk(_:Nat)(_:List UInt8)(_:UInt8):Bool:=true
def lO(_:Nat)(s:List UInt8)(c:UInt8):Int:=Lib.indexByte s c
def V5(N:Nat):bK:=E2 (.sl .u8) .u8 λs c=>(Dk N s c,(.e (.i .i64) (lO N s c),[]))
def SY(xs:List X)(H:XH):Option (Option (Bool×List UInt8)):=match xs,H with
 |[.ref 50 0],[(50,.box e l)]=>(match Nat.beq e 91 with
   |true=>(match l with
     |[.via 50 0,.cC]=>some none
     |_=>none)
   |false=>none)
 |[.ref 50 0],[(50,.box e l),(51,x2)]=>(match Nat.beq e 91 with
   |true=>(match l with
     |[.via 50 0,.own 51]=>(match ur 5 .u8 true x2 with|some l=>some (some (true,l))|none=>(match ur 5 .u8 false x2 with|some l=>some (some (false,l))|none=>none))
     |_=>none)
   |false=>none)
 |_,_=>none
def aB4:Option (Bool×List UInt8)->XH
 |none=>[(50,.box 91 [.via 50 0,.cC])]
 |some (st,l)=>[(50,.box 91 [.via 50 0,.own 51]),(51,.row 5 .u8 l st)]
def aB3(_:Nat):bK:=fD SY (λ_=>true) (λd=>(.bD [],aB4 d))
end Go.Proofs
/-
 DERIVED: THE SHELF's CONTRACTS AT THIS DUMP, IN PLAIN WORDS (tools/lay-plain.mjs out of 'TryzShelf.lean', which tools/lay-shelf.mjs wrote): THE SAME DECLARATIONS UNDER THE SAME NAMES: 'import', 'namespace', 'open', 'def', 'theorem' AND NOTHING ELSE: no command of the shelf's: FOR A HAND-IN. Each laying: the table of numbers ('.._ren') and one theorem, a field a fact of the dump's own or the kernel's comparison; each contract: ONE APPLICATION.
-/
namespace Go.Proofs
open Go.Shelf
def Tryz.a7I:Go.Shelf.Ren:=⟨λ|172=>117|244=>125|245=>126|247=>129|279=>130|280=>131|281=>132|282=>133|287=>134|316=>135|171=>137|205=>136|321=>138|322=>139|243=>140|246=>141|283=>113|284=>114|285=>115|286=>116|129=>121|317=>120|318=>122|319=>123|320=>124|337=>127|338=>128|n=>n,λ|9=>9|3=>3|75=>93|76=>133|4=>4|5=>5|167=>143|37=>28|0=>0|85=>144|2=>2|168=>146|53=>125|175=>151|46=>113|210=>155|127=>118|145=>160|143=>158|21=>21|171=>128|173=>131|212=>136|51=>137|20=>20|213=>138|232=>149|233=>150|80=>95|n=>n,λ|15=>8|16=>9|17=>5|18=>6|19=>7|n=>n⟩
theorem Tryz.a7J:Go.Proofs.Lays.n172 Tryz.prog Tryz.a7I:={
 mixed:=by kernel_rfl
 f129:=Tryz.func121.trans (bE some (by kernel_rfl))
 f171:=Tryz.func137.trans (bE some (by kernel_rfl))
 f172:=Tryz.func117.trans (bE some (by kernel_rfl))
 f205:=Tryz.func136.trans (bE some (by kernel_rfl))
 f243:=Tryz.func140.trans (bE some (by kernel_rfl))
 f244:=Tryz.func125.trans (bE some (by kernel_rfl))
 f245:=Tryz.func126.trans (bE some (by kernel_rfl))
 f246:=Tryz.func141.trans (bE some (by kernel_rfl))
 f247:=Tryz.func129.trans (bE some (by kernel_rfl))
 f279:=Tryz.func130.trans (bE some (by kernel_rfl))
 f280:=Tryz.func131.trans (bE some (by kernel_rfl))
 f281:=Tryz.func132.trans (bE some (by kernel_rfl))
 f282:=Tryz.func133.trans (bE some (by kernel_rfl))
 f283:=Tryz.func113.trans (bE some (by kernel_rfl))
 f284:=Tryz.func114.trans (bE some (by kernel_rfl))
 f285:=Tryz.func115.trans (bE some (by kernel_rfl))
 f286:=Tryz.func116.trans (bE some (by kernel_rfl))
 f287:=Tryz.func134.trans (bE some (by kernel_rfl))
 f316:=Tryz.func135.trans (bE some (by kernel_rfl))
 f317:=Tryz.func120.trans (bE some (by kernel_rfl))
 f318:=Tryz.func122.trans (bE some (by kernel_rfl))
 f319:=Tryz.func123.trans (bE some (by kernel_rfl))
 f320:=Tryz.func124.trans (bE some (by kernel_rfl))
 f321:=Tryz.func138.trans (bE some (by kernel_rfl))
 f322:=Tryz.func139.trans (bE some (by kernel_rfl))
 f337:=Tryz.func127.trans (bE some (by kernel_rfl))
 f338:=Tryz.func128.trans (bE some (by kernel_rfl))
 t0:=Tryz.underlying0
 a0:=Tryz.isAgg0
 z0:=Tryz.sizeOf0
 v0:=Tryz.zeroValue0
 t2:=Tryz.underlying2
 a2:=Tryz.isAgg2
 z2:=Tryz.sizeOf2
 v2:=Tryz.zeroValue2
 t3:=Tryz.underlying3
 a3:=Tryz.isAgg3
 z3:=Tryz.sizeOf3
 v3:=Tryz.zeroValue3
 t4:=Tryz.underlying4
 a4:=Tryz.isAgg4
 z4:=Tryz.sizeOf4
 v4:=Tryz.zeroValue4
 t5:=Tryz.underlying5
 a5:=Tryz.isAgg5
 z5:=Tryz.sizeOf5
 v5:=Tryz.zeroValue5
 t9:=Tryz.underlying9
 a9:=Tryz.isAgg9
 z9:=Tryz.sizeOf9
 v9:=Tryz.zeroValue9
 t20:=Tryz.underlying20
 a20:=Tryz.isAgg20
 z20:=Tryz.sizeOf20
 v20:=Tryz.zeroValue20
 t21:=Tryz.underlying21
 a21:=Tryz.isAgg21
 z21:=Tryz.sizeOf21
 v21:=Tryz.zeroValue21
 t37:=Tryz.underlying28
 a37:=Tryz.isAgg28
 z37:=Tryz.sizeOf28
 v37:=Tryz.zeroValue28
 t46:=Tryz.underlying113
 a46:=Tryz.isAgg113
 z46:=Tryz.sizeOf113
 v46:=Tryz.zeroValue113
 t51:=Tryz.underlying137
 a51:=Tryz.isAgg137
 z51:=Tryz.sizeOf137
 v51:=Tryz.zeroValue137
 t53:=Tryz.underlying125
 a53:=Tryz.isAgg125
 z53:=Tryz.sizeOf125
 v53:=Tryz.zeroValue125
 t75:=Tryz.underlying93
 a75:=Tryz.isAgg93
 z75:=Tryz.sizeOf93
 v75:=Tryz.zeroValue93
 t76:=Tryz.underlying133
 a76:=Tryz.isAgg133
 z76:=Tryz.sizeOf133
 v76:=Tryz.zeroValue133
 t85:=Tryz.underlying144
 a85:=Tryz.isAgg144
 z85:=Tryz.sizeOf144
 v85:=Tryz.zeroValue144
 t127:=Tryz.underlying118
 a127:=Tryz.isAgg118
 z127:=Tryz.sizeOf118
 v127:=Tryz.zeroValue118
 t143:=Tryz.underlying158
 a143:=Tryz.isAgg158
 z143:=Tryz.sizeOf158
 v143:=Tryz.zeroValue158
 t145:=Tryz.underlying160
 a145:=Tryz.isAgg160
 z145:=Tryz.sizeOf160
 v145:=Tryz.zeroValue160
 t167:=Tryz.underlying143
 a167:=Tryz.isAgg143
 z167:=Tryz.sizeOf143
 v167:=Tryz.zeroValue143
 t168:=Tryz.underlying146
 a168:=Tryz.isAgg146
 z168:=Tryz.sizeOf146
 v168:=Tryz.zeroValue146
 t171:=Tryz.underlying128
 a171:=Tryz.isAgg128
 z171:=Tryz.sizeOf128
 v171:=Tryz.zeroValue128
 t173:=Tryz.underlying131
 a173:=Tryz.isAgg131
 z173:=Tryz.sizeOf131
 v173:=Tryz.zeroValue131
 t175:=Tryz.underlying151
 a175:=Tryz.isAgg151
 z175:=Tryz.sizeOf151
 v175:=Tryz.zeroValue151
 t210:=Tryz.underlying155
 a210:=Tryz.isAgg155
 z210:=Tryz.sizeOf155
 v210:=Tryz.zeroValue155
 t212:=Tryz.underlying136
 a212:=Tryz.isAgg136
 z212:=Tryz.sizeOf136
 v212:=Tryz.zeroValue136
 t213:=Tryz.underlying138
 a213:=Tryz.isAgg138
 z213:=Tryz.sizeOf138
 t232:=Tryz.underlying149
 a232:=Tryz.isAgg149
 z232:=Tryz.sizeOf149
 v232:=Tryz.zeroValue149
 t233:=Tryz.underlying150
 a233:=Tryz.isAgg150
 z233:=Tryz.sizeOf150
 v233:=Tryz.zeroValue150
 g15:=by kernel_rfl
 g16:=by kernel_rfl
 g17:=by kernel_rfl
 g18:=by kernel_rfl
 g19:=by kernel_rfl }
open Go.RowKit in
theorem Tryz.strconv_Atoi(s:ByteArray)(n:Int)(hl:s.size<=18)(h:Lib.atoi s.data.toList=some n)(w:World):
    Calls Tryz.prog 117 #[.string s] w λe w'=>e = .returned (.tuple #[.int .i64 n,.nilIface])/\∃t,w'=Lib.bytesWorld w 5 t:=Any.strconv_Atoi Tryz.a7J s n hl h w
def Tryz.a7F:Go.Shelf.Ren:=⟨λ|283=>113|n=>n,λ|3=>3|9=>9|4=>4|n=>n,λ|n=>n⟩
theorem Tryz.a7G:Go.Proofs.Lays.n283 Tryz.prog Tryz.a7F:={
 mixed:=by kernel_rfl
 f283:=Tryz.func113.trans (bE some (by kernel_rfl))
 t3:=Tryz.underlying3
 a3:=Tryz.isAgg3
 z3:=Tryz.sizeOf3
 v3:=Tryz.zeroValue3
 t4:=Tryz.underlying4
 a4:=Tryz.isAgg4
 z4:=Tryz.sizeOf4
 v4:=Tryz.zeroValue4
 t9:=Tryz.underlying9
 a9:=Tryz.isAgg9
 z9:=Tryz.sizeOf9
 v9:=Tryz.zeroValue9 }
open Go.Lib in
theorem Tryz.internal_strconv_small(i:Nat)(h:i<100)(w:World):
    Calls Tryz.prog 113 #[.int .i64 i] w λe w'=>e = .returned (.string ⟨(Lib.decDigits i).toArray⟩)/\w'=w:=Any.internal_strconv_small Tryz.a7G i h w
def Tryz.a7B:Go.Shelf.Ren:=⟨λ|284=>114|129=>121|317=>120|318=>122|n=>n,λ|53=>125|3=>3|212=>136|0=>0|4=>4|46=>113|5=>5|9=>9|n=>n,λ|17=>5|n=>n⟩
theorem Tryz.a7C:Go.Proofs.LaysM.n284 Tryz.prog Tryz.a7B:={
 mixed:=by kernel_rfl
 f129:=Tryz.func121.trans (bE some (by kernel_rfl))
 f284:=Tryz.func114.trans (bE some (by kernel_rfl))
 f317:=Tryz.func120.trans (bE some (by kernel_rfl))
 f318:=Tryz.func122.trans (bE some (by kernel_rfl))
 t0:=Tryz.underlying0
 a0:=Tryz.isAgg0
 z0:=Tryz.sizeOf0
 v0:=Tryz.zeroValue0
 t3:=Tryz.underlying3
 a3:=Tryz.isAgg3
 z3:=Tryz.sizeOf3
 v3:=Tryz.zeroValue3
 t4:=Tryz.underlying4
 a4:=Tryz.isAgg4
 z4:=Tryz.sizeOf4
 v4:=Tryz.zeroValue4
 t5:=Tryz.underlying5
 a5:=Tryz.isAgg5
 z5:=Tryz.sizeOf5
 v5:=Tryz.zeroValue5
 t9:=Tryz.underlying9
 a9:=Tryz.isAgg9
 z9:=Tryz.sizeOf9
 v9:=Tryz.zeroValue9
 t46:=Tryz.underlying113
 a46:=Tryz.isAgg113
 z46:=Tryz.sizeOf113
 v46:=Tryz.zeroValue113
 t53:=Tryz.underlying125
 a53:=Tryz.isAgg125
 z53:=Tryz.sizeOf125
 v53:=Tryz.zeroValue125
 t212:=Tryz.underlying136
 a212:=Tryz.isAgg136
 z212:=Tryz.sizeOf136
 v212:=Tryz.zeroValue136
 g17:=by kernel_rfl
 i0:=by kernel_rfl
 i3:=by kernel_rfl
 i4:=by kernel_rfl
 i5:=by kernel_rfl
 i9:=by kernel_rfl
 i46:=by kernel_rfl
 i53:=by kernel_rfl
 i212:=by kernel_rfl
 m17:=by kernel_rfl }
open Go.Lib in
theorem Tryz.internal_strconv_numDigits (u : Nat) (h1 : 1 ≤ u) (h2 : u < 18446744073709551616) (w : World) (htab : Lib.TabIs Tryz.prog w "internal/strconv.uint64pow10" .u64 Lib.pow10Tab) :
    Calls Tryz.prog 114 #[.int .u64 u] w λe w'=>e = .returned (.int .i64 (Lib.nDigits u))/\w'=w:=Any.internal_strconv_numDigits Tryz.a7C u h1 h2 w htab
def Tryz.a7D:Go.Shelf.Ren:=⟨λ|285=>115|n=>n,λ|37=>28|53=>125|3=>3|4=>4|51=>137|9=>9|5=>5|0=>0|n=>n,λ|n=>n⟩
theorem Tryz.a7E:Go.Proofs.Lays.n285 Tryz.prog Tryz.a7D:={
 mixed:=by kernel_rfl
 f285:=Tryz.func115.trans (bE some (by kernel_rfl))
 t0:=Tryz.underlying0
 a0:=Tryz.isAgg0
 z0:=Tryz.sizeOf0
 v0:=Tryz.zeroValue0
 t3:=Tryz.underlying3
 a3:=Tryz.isAgg3
 z3:=Tryz.sizeOf3
 v3:=Tryz.zeroValue3
 t4:=Tryz.underlying4
 a4:=Tryz.isAgg4
 z4:=Tryz.sizeOf4
 v4:=Tryz.zeroValue4
 t5:=Tryz.underlying5
 a5:=Tryz.isAgg5
 z5:=Tryz.sizeOf5
 v5:=Tryz.zeroValue5
 t9:=Tryz.underlying9
 a9:=Tryz.isAgg9
 z9:=Tryz.sizeOf9
 v9:=Tryz.zeroValue9
 t37:=Tryz.underlying28
 a37:=Tryz.isAgg28
 z37:=Tryz.sizeOf28
 v37:=Tryz.zeroValue28
 t51:=Tryz.underlying137
 a51:=Tryz.isAgg137
 z51:=Tryz.sizeOf137
 v51:=Tryz.zeroValue137
 t53:=Tryz.underlying125
 a53:=Tryz.isAgg125
 z53:=Tryz.sizeOf125
 v53:=Tryz.zeroValue125 }
open Go.RowKit Go.Sort Go.Lib in
theorem Tryz.internal_strconv_formatBase10(bQ off cap:Nat)(u:Nat)(d:Array UInt8)(w:World)(hH:Holds (λ(b:UInt8)=>Value.int .u8 (b.toNat:Int)) w bQ off d)(hu:u<10^d.size)(hu64:u<18446744073709551616)(hsz:d.size<4611686018427387904):
    Calls Tryz.prog 115 #[.slice (some ⟨bQ,off,none⟩) d.size cap,.int .u64 u] w λe w'=>
     e = .returned (.tuple #[])/\∃(n v':Nat)(dk:Array UInt8),w'=(putRow (λ(b:UInt8)=>Value.int .u8 (b.toNat:Int)) w bQ off dk).drewN n/\FmtInv d.size u 0 v' dk:=Any.internal_strconv_formatBase10 Tryz.a7E bQ off cap u d w hH hu hu64 hsz
def Tryz.a7K:Go.Shelf.Ren:=⟨λ|152=>59|137=>86|119=>87|224=>88|225=>89|217=>103|266=>108|n=>n,λ|9=>9|21=>21|3=>3|4=>4|5=>5|0=>0|46=>113|n=>n,λ|n=>n⟩
theorem Tryz.a7L:Go.Proofs.Lays.n152 Tryz.prog Tryz.a7K:={
 mixed:=by kernel_rfl
 f119:=Tryz.func87.trans (bE some (by kernel_rfl))
 f137:=Tryz.func86.trans (bE some (by kernel_rfl))
 f152:=Tryz.func59.trans (bE some (by kernel_rfl))
 f217:=Tryz.func103.trans (bE some (by kernel_rfl))
 f224:=Tryz.func88.trans (bE some (by kernel_rfl))
 f225:=Tryz.func89.trans (bE some (by kernel_rfl))
 f266:=Tryz.func108.trans (bE some (by kernel_rfl))
 t0:=Tryz.underlying0
 a0:=Tryz.isAgg0
 z0:=Tryz.sizeOf0
 v0:=Tryz.zeroValue0
 t3:=Tryz.underlying3
 a3:=Tryz.isAgg3
 z3:=Tryz.sizeOf3
 v3:=Tryz.zeroValue3
 t4:=Tryz.underlying4
 a4:=Tryz.isAgg4
 z4:=Tryz.sizeOf4
 v4:=Tryz.zeroValue4
 t5:=Tryz.underlying5
 a5:=Tryz.isAgg5
 z5:=Tryz.sizeOf5
 v5:=Tryz.zeroValue5
 t9:=Tryz.underlying9
 a9:=Tryz.isAgg9
 z9:=Tryz.sizeOf9
 v9:=Tryz.zeroValue9
 t21:=Tryz.underlying21
 a21:=Tryz.isAgg21
 z21:=Tryz.sizeOf21
 v21:=Tryz.zeroValue21
 t46:=Tryz.underlying113
 a46:=Tryz.isAgg113
 z46:=Tryz.sizeOf113
 v46:=Tryz.zeroValue113 }
open Go.RowKit Go.Lib in
theorem Tryz.strings_IndexRune_ascii(s:ByteArray)(r:Int)(w:World)(h0:0<=r)(h1:r<128):
    Calls Tryz.prog 59 #[.string s,.int .i32 r] w λe w'=>e = .returned (.int .i64 (Lib.indexByte s.data.toList r.toNat.toUInt8))/\w'=w:=Any.strings_IndexRune_ascii Tryz.a7L s r w h0 h1
def Tryz.a7M:Go.Shelf.Ren:=⟨λ|151=>60|152=>59|137=>86|119=>87|224=>88|225=>89|217=>103|266=>108|n=>n,λ|9=>9|21=>21|4=>4|3=>3|5=>5|0=>0|46=>113|n=>n,λ|n=>n⟩
theorem Tryz.a7N:Go.Proofs.Lays.n151 Tryz.prog Tryz.a7M:={
 mixed:=by kernel_rfl
 f119:=Tryz.func87.trans (bE some (by kernel_rfl))
 f137:=Tryz.func86.trans (bE some (by kernel_rfl))
 f151:=Tryz.func60.trans (bE some (by kernel_rfl))
 f152:=Tryz.func59.trans (bE some (by kernel_rfl))
 f217:=Tryz.func103.trans (bE some (by kernel_rfl))
 f224:=Tryz.func88.trans (bE some (by kernel_rfl))
 f225:=Tryz.func89.trans (bE some (by kernel_rfl))
 f266:=Tryz.func108.trans (bE some (by kernel_rfl))
 t0:=Tryz.underlying0
 a0:=Tryz.isAgg0
 z0:=Tryz.sizeOf0
 v0:=Tryz.zeroValue0
 t3:=Tryz.underlying3
 a3:=Tryz.isAgg3
 z3:=Tryz.sizeOf3
 v3:=Tryz.zeroValue3
 t4:=Tryz.underlying4
 a4:=Tryz.isAgg4
 z4:=Tryz.sizeOf4
 v4:=Tryz.zeroValue4
 t5:=Tryz.underlying5
 a5:=Tryz.isAgg5
 z5:=Tryz.sizeOf5
 v5:=Tryz.zeroValue5
 t9:=Tryz.underlying9
 a9:=Tryz.isAgg9
 z9:=Tryz.sizeOf9
 v9:=Tryz.zeroValue9
 t21:=Tryz.underlying21
 a21:=Tryz.isAgg21
 z21:=Tryz.sizeOf21
 v21:=Tryz.zeroValue21
 t46:=Tryz.underlying113
 a46:=Tryz.isAgg113
 z46:=Tryz.sizeOf113
 v46:=Tryz.zeroValue113 }
open Go.RowKit Go.Lib in
theorem Tryz.strings_ContainsRune_ascii(s:ByteArray)(r:Int)(w:World)(h0:0<=r)(h1:r<128):
    Calls Tryz.prog 60 #[.string s,.int .i32 r] w λe w'=>e = .returned (.bool (decide (0<=Lib.indexByte s.data.toList r.toNat.toUInt8)))/\w'=w:=Any.strings_ContainsRune_ascii Tryz.a7N s r w h0 h1
def Tryz.a7H:Go.Shelf.Ren:=⟨λ|187=>40|255=>72|n=>n,λ|37=>28|5=>5|3=>3|n=>n,λ|n=>n⟩
theorem Tryz.aLS:Go.Proofs.Lays.n187 Tryz.prog Tryz.a7H:={
 mixed:=by kernel_rfl
 f187:=Tryz.func40.trans (bE some (by kernel_rfl))
 f255:=Tryz.func72.trans (bE some (by kernel_rfl))
 t3:=Tryz.underlying3
 a3:=Tryz.isAgg3
 z3:=Tryz.sizeOf3
 v3:=Tryz.zeroValue3
 t5:=Tryz.underlying5
 a5:=Tryz.isAgg5
 z5:=Tryz.sizeOf5
 v5:=Tryz.zeroValue5
 t37:=Tryz.underlying28
 a37:=Tryz.isAgg28
 z37:=Tryz.sizeOf28
 v37:=Tryz.zeroValue28 }
open Go.RowKit Go.Lib in
theorem Tryz.bytes_IndexByte_at(a:Addr)(n c:Nat)(xs:List Int)(cv:Int)(w:World)(hx:xs.length=n)(hc:∀i,i<n->w.cell? (a.add i)=some (.int .u8 (xs.getD i 0))):
    Calls Tryz.prog 40 #[.slice (some a) n c,.int .u8 cv] w λe w'=>e = .returned (.int .i64 (Lib.indexByte (Lib.bytesOf xs) cv.toNat.toUInt8))/\w'=w:=Any.bytes_IndexByte_at Tryz.aLS a n c xs cv w hx hc
theorem Tryz.bytes_IndexByte_nil(cv:Int)(w:World):
    Calls Tryz.prog 40 #[.slice none 0 0,.int .u8 cv] w λe w'=>e = .returned (.int .i64 (-1))/\w'=w:=Any.bytes_IndexByte_nil Tryz.aLS cv w
end Go.Proofs
/- What AppendUint does to a row of the caller's own. -/
namespace Go.Proofs
open Go.RowKit Go.Sort Go.Lib Go.Ab Go.Ax
def aAZ(w:World)(v:Value)(n u:Nat)(xs:List Value)(e:Ending)(w':World):Prop:=∃v' us,e = .returned v'/\w'.ownsRow 0 5 1 v' (n+(Lib.decDigits u).length) (xs++us)/\us=Lib.byteCells (Lib.decDigits u) /\
 w'.os=w.os/\w'.tape=w.tape/\w'.output=w.output/\w.heap.size<=w'.heap.size/\(∀b,b<w.heap.size->v.ownBlock≠some b->w'.heap[b]?=w.heap[b]?)/\(∀g i,v.ownBlock=some g->i<n*1->w'.cell? ⟨g,i,none⟩=w.cell? ⟨g,i,none⟩)/\∀g,v'.ownBlock=some g->w.heap.size<=g\/v.ownBlock=some g
theorem aM7:p9 Tryz.prog 28 5 (.int .u8 0) 1 1:=⟨by kernel_rfl,by kernel_rfl,rfl,by decide⟩
set_option maxHeartbeats 12800000 in
set_option maxRecDepth 100000 in
theorem a9c (n u : Nat) (hu : 100 ≤ u) (hu64 : u < 18446744073709551616) (sv : Value) (xs : List Value) (w : World) (hown : w.ownsRow 0 5 1 sv n xs) (hlim : n + 20 ≤ 140737488355328) (htab : Lib.TabIs Tryz.prog w "internal/strconv.uint64pow10" .u64 Lib.pow10Tab) :
    Calls Tryz.prog 109 #[sv,.int .u64 u,.int .i64 10] w (aAZ w sv n u xs):=by
 have hu1:1<=u:=by omega
 have hnd20:Lib.nDigits u<=20:=by have:=Lib.numDigits_eq u hu1 hu64;split at this <;> omega
 have hal:Tryz.prog.arrayLen 128=24:=by simp[Program.arrayLen,Tryz.underlying128]
 have hsl:∀W,(Instr.sliceAt 128 (.pointer (some ⟨w.heap.size,0,none⟩)) none (some (.int .i64 (Lib.nDigits u:Int))) none).run Tryz.prog W = .ok (.slice (some ⟨w.heap.size,0,none⟩) (Lib.nDigits u) 24) W:=λW=>by
  rw[run_sliceAt_array_h W 128 ⟨w.heap.size,0,none⟩ (by simp[Program.arrayLen,Program.elem,Tryz.underlying128]) .i64 (Lib.nDigits u:Int) (by omega) (by rw[hal];omega)]
  go_simp
 have hH0:=Lib.holds_zero0 w 128 (Lib.nDigits u) (by omega);have hfmt:=Tryz.internal_strconv_formatBase10 w.heap.size 0 24 u (Array.replicate (Lib.nDigits u) 0) (w.alloc (.cells Lib.zeros24 128)) hH0 (by rw[aAz];exact Lib.lt_pow_nDigits u) hu64 (by rw[aAz];omega);rw[aAz]at hfmt;have HH0:=Lib.hid hH0;have iu:(100:Int)<=(u:Int):=by omega
 clear hH0 hal
 go_enter Tryz.func109,Tryz.ntmps109
 go_wp2_with (first
  |(go_at_call 114;refine(Tryz.internal_strconv_numDigits u hu1 hu64 _ (Lib.tabIs_alloc htab _)).mono ?_;rintro e w' ⟨rfl,rfl⟩))
 go_at_call 115
 refine hfmt.mono ?_;rintro e w' ⟨rfl,k,v',dk,rfl,hF⟩;have hcells:∀j u',(Lib.byteCells (Lib.decDigits u))[j]?=some u'->((putRow (λ(b:UInt8)=>Value.int .u8 (b.toNat:Int)) (w.alloc (.cells Lib.zeros24 128)) w.heap.size 0 dk).drewN k).cell? ((⟨w.heap.size,0,none⟩:Addr).add j)=some u':=by
  intro j u' hj;have hjl:j<(Lib.decDigits u).length:=by
   have h5:=(List.getElem?_eq_some_iff.1 hj).1
   rwa [Lib.byteCells_length]at h5
  have e5:(Lib.byteCells (Lib.decDigits u))[j]?=some (Value.int .u8 ((Lib.decDigits u)[j].toNat:Int)):=by simp[Lib.byteCells,hjl]
  rw[e5]at hj;cases hj;rw[Lib.row_is_numeral hF j hjl,Lib.add_plain,World.cell?_drewN];exact cell?_putRow (λ(b:UInt8)=>Value.int .u8 (b.toNat:Int)) _ w.heap.size 0 _ dk HH0.out (by rw[hF.size,aAz]) j (by rw[hF.size];rw[Lib.decDigits_length]at hjl;exact hjl)
 obtain⟨os,eo⟩:=Lib.fin_at w (.cells Lib.zeros24 128) dk k 0;have hown2:((putRow (λ(b:UInt8)=>Value.int .u8 (b.toNat:Int)) (w.alloc (.cells Lib.zeros24 128)) w.heap.size 0 dk).drewN k).ownsRow 0 5 1 sv n xs:=by rw[eo];exact Lib.ownsRow_grow hown k os
 have hbl:Below w.heap.size w ((putRow (λ(b:UInt8)=>Value.int .u8 (b.toNat:Int)) (w.alloc (.cells Lib.zeros24 128)) w.heap.size 0 dk).drewN k):=by rw[eo];exact Lib.below_grow w.heap.size w (bZ _) k os
 generalize(putRow (λ(b:UInt8)=>Value.int .u8 (b.toNat:Int)) (w.alloc (.cells Lib.zeros24 128)) w.heap.size 0 dk).drewN k=W2 at hcells hown2 hbl ⊢;clear eo HH0 hfmt
 go_wp2_with (at_builtin;refine aNN rfl _ _ aM7 rfl rfl hown2 (ax:=some ⟨w.heap.size,0,none⟩) (m:=Lib.nDigits u) (c:=24) (news:=Lib.byteCells (Lib.decDigits u)) rfl ?c0 ?c1 ?c2 ?c3 ?c4 ?c5 ?_)
 case c0=>rw[Lib.byteCells_length,Lib.decDigits_length,Nat.mul_one]
 case c1=>exact λj u' hj=>⟨_,rfl,hcells j u' hj⟩
 case c2=>intro h;cases h
 case c3=>intro u' hu';simp only[Lib.byteCells,List.mem_map]at hu';obtain⟨b,_,rfl⟩:=hu';rfl
 case c4=>unfold maxLen;omega
 case c5=>omega
 intro v2 w3 r2 q1 q2 q3 q4 q5 q6 q7
 go_wp2
 go_ret
 have hsz:=hbl.size;have hlt:∀g,sv.ownBlock=some g->g<w.heap.size:=λg hg=>(hown.lt g hg).2
 refine⟨v2,_,rfl,?_,rfl,q1.trans hbl.os,q2.trans hbl.tape,q3.trans hbl.output,Nat.le_trans hsz q4,λb hb hne=>(q5 b (Nat.lt_of_lt_of_le hb hsz) hne).trans (hbl.block b hb),λg i hg hi=>(q6 g i hg (by omega)).trans (World.cell?_of_block (a:=⟨g,i,none⟩) (hbl.block g (hlt g hg))),λg hg=>?_⟩
 .rw[Lib.decDigits_length]
  exact r2
 .rcases q7 g hg with h|h
  .exact .inl (Nat.le_trans hsz h)
  .exact .inr h
set_option maxHeartbeats 12800000 in
set_option maxRecDepth 100000 in
theorem a9b(n u:Nat)(hu:u<100)(sv:Value)(xs:List Value)(w:World)(hown:w.ownsRow 0 5 1 sv n xs)(hlim:n+20<=140737488355328):
    Calls Tryz.prog 109 #[sv,.int .u64 u,.int .i64 10] w (aAZ w sv n u xs):=by
 obtain⟨i0,hi,hz0,hz1,hz2⟩:=info_parts aM7.i;have hlen:(Lib.decDigits u).length<=20:=by
  rw[Lib.decDigits_length];by_cases h10:u<10
  .rw[Lib.nDigits_small h10];omega
  .rw[Lib.nDigits_big h10,Lib.nDigits_small (show u / 10<10 by omega)];omega
 have hsz:(⟨(Lib.decDigits u).toArray⟩:ByteArray).size=(Lib.decDigits u).length:=by simp[ByteArray.size]
 have iu:(u:Int)<100:=by omega
 go_enter Tryz.func109,Tryz.ntmps109
 go_wp2_with (first
  |(go_at_call 113;refine(Tryz.internal_strconv_small u hu _).mono ?_;rintro e w' ⟨rfl,rfl⟩)
  |(at_builtin;refine aNM rfl _ _ (t:=28) (u:=9) rfl Tryz.underlying28 Tryz.underlying9 hi hz0 hz1 hz2 rfl hown (s:=⟨(Lib.decDigits u).toArray⟩) rfl (by rw[hsz];unfold maxLen;omega) (by rw[hsz];omega) ?_))
 intro v' w1 r2 q1 q2 q3 q4 q5 q6 q7
 go_wp2
 go_ret
 refine⟨v',_,rfl,?_,rfl,q1,q2,q3,q4,q5,(λg i hg hi=>q6 g i hg (by omega)),q7⟩
 first|exact r2|(rw[hsz]at r2;exact r2)
theorem a2z(l:List UInt8)(u:Int)(h:(decide (0<=u/\u<18446744073709551616)&&decide (l.length+20<=140737488355328))=true):
    cR Tryz.prog 109 [.own 50,.t (.v (.int .u64 u)),.t (.v (.int .i64 10))] [(50,.row 5 1 l.length (l.flatMap (bH .u8)) true)] (.own 100) [(100,.row 5 1 (l++Lib.decDigits u.toNat).length ((l++Lib.decDigits u.toNat).flatMap (bH .u8)) true)]:=by
 rw[bM]at h;obtain⟨h0,h2⟩:=h;have h0:=cU h0;have h2:=cU h2;obtain⟨n,rfl⟩:∃n:Nat,u=n:=⟨u.toNat,by omega⟩
 have hb:∀l:List UInt8,Lib.byteCells l=l.map λb=>Value.int .u8 (b.toNat:Int):=λl=>rfl
 have hf:∀l:List UInt8,l.flatMap (bH .u8)=(Lib.byteCells l).map Tree.v:=λl=>by
  rw[hb]
  induction l with
  |nil=>rfl
  |cons x l ih=>exact bE (Tree.v (.int .u8 (x.toNat:Int)) :: ·) ih
 rw[hf l,hf (l++_),List.length_append,nC,hb (l++_),rG,rG,<-hb,<-hb];refine a8g (ds:=[.t (.v (.int .u64 (n:Int))),.t (.v (.int .i64 10))]) (λw ht v vs xs hl hv hown=>?_) (by omega);obtain⟨v1,v2,rfl⟩:∃v1 v2,vs=[v1,v2]:=by
  match vs,hl with
  |[a,b],_=>exact⟨a,b,rfl⟩
 have e1:=hv 0 v1 _ rfl rfl _ rfl;have e2:=hv 1 v2 _ rfl rfl _ rfl;subst e1 e2;have key:Calls Tryz.prog 109 #[v,.int .u64 (n:Int),.int .i64 10] w (aAZ w v l.length n xs):=by
  by_cases hn:n<100
  .exact a9b _ n hn v xs w hown h2
  .exact a9c _ n (by omega) (by omega) v xs w hown h2 ht.1
 refine key.mono ?_;rintro e w' ⟨v',us,rfl,r2,rfl,q⟩;refine⟨v',_,rfl,r2,by rw[dR],λi u t hu ht=>?_,q⟩;rw[dT,hu]at ht;cases ht;refine⟨rfl,?_⟩;have:=jN.2 ⟨i,hu⟩;rw[hb]at this;obtain⟨b,_,rfl⟩:=List.mem_map.1 this;rfl
end Go.Proofs
/- Contracts of library functions, proved. -/
namespace Go.Proofs
open Go Go.Ax Go.Ab Go.RowKit
theorem a9m{vs:Array Value}{d:D}{ν:Nat->Value}{nm:Nat->Bool}{w:World}{G:cE}(hs:vs.size=[d].length)(h:∀(i:Nat)(d':D),[d][i]?=some d'->∃v,vs[i]?=some v/\DR ν nm w G v d'):∃v,vs = #[v]/\DR ν nm w G v d:=by
 obtain⟨v,hv,hd⟩:=h 0 d rfl;refine⟨v,?_,hd⟩;have h1:vs.size=1:=hs;apply aBC;intro i;cases i with
 |zero=>rw[hv];rfl
 |succ i=>rw[Jy (by omega)];simp
theorem aA4{vs:Array Value}{d e:D}{ν:Nat->Value}{nm:Nat->Bool}{w:World}{G:cE}(hs:vs.size=[d,e].length)(h:∀(i:Nat)(d':D),[d,e][i]?=some d'->∃v,vs[i]?=some v/\DR ν nm w G v d'):∃v u,vs = #[v,u]/\DR ν nm w G v d/\DR ν nm w G u e:=by
 obtain⟨v,hv,hd⟩:=h 0 d rfl;obtain⟨u,hu,he⟩:=h 1 e rfl;refine⟨v,u,?_,hd,he⟩;have h1:vs.size=2:=hs;apply aBC;intro i
 match i with
 |0=>rw[hv];rfl
 |1=>rw[hu];rfl
 |i+2=>rw[Jy (by omega)];simp
theorem a2L(x:List UInt8)(h:uP 0 x=true):cR Tryz.prog 117 [.t (.v (.string ⟨⟨x⟩⟩))] [] (.bD [.t (.v (.int .i64 ((Lib.atoi x).getD 0))),.t (.v .nilIface)]) []:=by
 unfold uP at h;rw[bM]at h;obtain⟨h1,h2⟩:=h;have h1:=cU h1;obtain⟨n,hn⟩:=Option.isSome_iff_exists.1 h2;rw[hn];refine cR.RE λw ht G ν nm vs hs ha=>?_
 obtain⟨v,rfl,hd⟩:=a9m hs ha;have:=cL hd;subst this;refine(Tryz.strconv_Atoi ⟨⟨x⟩⟩ n h1 hn w).mono ?_;rintro e w' ⟨rfl,t,rfl⟩;exact⟨_,rfl,Lib.bytesWorld_below w 5 t,G,λ_ _=>rfl,λν nm=>aJo (.t (.v _ rfl)) (.t (.v _ rfl))⟩
theorem a2K(N:Nat):aM Tryz.prog 117 (aIm N):=aM.e1 λx h=>a2L x h
theorem a2y{xs:List X}{H:XH}{d:Int×Int×List UInt8}(h:Xm xs H=some d):xs=[.own 50,.e (.i .u64) d.1,.e (.i .i64) d.2.1]/\H=[(50,.row 5 .u8 d.2.2 true)]:=by
 unfold Xm at h;split at h
 .split at h
  .rename_i h0 h1 h2;cases h;rw[aH h0,aH h1,jF h2];exact⟨rfl,rfl⟩
  .cases h
 .cases h
theorem a2x(N:Nat):aM Tryz.prog 109 (aJJ N):=eO a2y (λd h=>by
 have h:Bd N d.1 d.2.1 d.2.2=true:=h;unfold Bd at h;rw[bM]at h;have hb:=cU h.1;have:=a2z d.2.2 d.1 h.2;rw[<-hb]at this;exact this)
end Go.Proofs
/- Contracts of library functions at this program: bytes (they stand beside the others). -/
namespace Go.Proofs
end Go.Proofs
/- A builder's look at its own address. -/
namespace Go.Proofs
open Go Go.RowKit
set_option maxHeartbeats 1000000 in
set_option maxRecDepth 100000 in
theorem a8z(b:Nat)(w:World)(h0:w.cell? ⟨b,0,none⟩=some (.pointer (some ⟨b,0,none⟩))):
    Calls Tryz.prog 96 #[.pointer (some ⟨b,0,none⟩)] w λe w'=>e = .returned (.tuple #[])/\w'=w:=by
 obtain⟨j,hj,_⟩:∃j,Tryz.prog.info? 91=some j/\j.size=2:=cV.1 (by kernel_rfl:(Tryz.prog.info? 91).map (·.size)=some 2)
 go_enter Tryz.func96,Tryz.ntmps96
 go_wp2
 rw[Lib.run_neq_ptr_same w _ Tryz.underlying89 hj]
 go_wp2
 go_end0
 exact⟨rfl,rfl⟩
set_option maxHeartbeats 1000000 in
set_option maxRecDepth 100000 in
theorem a9A(b:Nat)(w:World)(h0:w.cell? ⟨b,0,none⟩=some (.pointer none))(hsh:w.shape? b=some (91,2))(hfz:w.frozen? ⟨b,0,none⟩=false):
    Calls Tryz.prog 96 #[.pointer (some ⟨b,0,none⟩)] w λe w'=>e = .returned (.tuple #[])/\w'=w.setCell ⟨b,0,none⟩ (.pointer (some ⟨b,0,none⟩)):=by
 obtain⟨j,hj,hjs⟩:∃j,Tryz.prog.info? 91=some j/\j.size=2:=cV.1 (by kernel_rfl:(Tryz.prog.info? 91).map (·.size)=some 2)
 go_enter Tryz.func96,Tryz.ntmps96
 go_wp2
 rw[Lib.run_to_unsafe w ⟨b,0,none⟩ Tryz.underlying89 Tryz.underlying123 hj (by rw[hjs];decide) hsh (Nat.zero_lt_succ 1)];simp only[Result.andThen];rw[Oper.upon_value]
 go_wp2
 rw[run_callFunc_extern Tryz.func105 (by kernel_rfl) (by kernel_rfl) (by kernel_rfl) (e:=Extern.AbiNoEscape.same) (by kernel_rfl)];rw[Lib.run_noEscape];simp only[Result.andThen];rw[Oper.upon_value]
 go_wp2
 rw[Lib.run_from_unsafe w ⟨b,0,none⟩ Tryz.underlying123 Tryz.underlying89 hj hsh (by kernel_rfl)];simp only[Result.andThen];rw[Oper.upon_value]
 go_wp2
 go_end0
 exact⟨rfl,rfl⟩
open Go.Ax Go.Ab
theorem aMN(d:D)(H:List (Nat×aZ)):cR Tryz.prog 96 [.ref 50 0] ((50,.box 91 [.via 50 (mO 0),d])::H) (.bD []) ((50,.box 91 [.via 50 (mO 0),d])::H):=by
 intro E w vs hE0 hm hsz ⟨ν,G,I⟩;obtain⟨v,hv,hdv⟩:=I.T 0 (.ref 50 0) rfl;obtain⟨g0,hg,rfl,hnm⟩:=pL hdv;have hvs:vs = #[.pointer (some ⟨g0,0,none⟩)]:=by
  apply Array.ext';have h1:vs.size=1:=hsz
  match h:vs.toList with
  |[a]=>
    have:vs[0]?=some a:=by rw[<-Array.getElem?_toList,h];rfl
    rw[hv]at this;cases this;rfl
  |[]=>rw[<-p7,h]at h1;cases h1
  |a::b::l=>rw[<-p7,h]at h1;cases h1
 subst hvs;have hob0:=I.H 50 _ (show Ab.look 50 ((50,aZ.box 91 [.via 50 (mO 0),d])::H)=some _ from rfl);obtain⟨_,g,cur,h1,h2,h3,h4,h5,h6⟩:=id hob0;rw[h1]at hg;cases hg;obtain⟨c0,c1,hcur⟩:∃c0 c1,cur = #[c0,c1]:=by
  have h5:cur.size=2:=h5;refine⟨cur[0],cur[1],?_⟩;apply Array.ext
  .exact h5
  .intro i h7 h8
   match i,h7,h8 with
   |0,_,_=>rfl
   |1,_,_=>rfl
 subst hcur;have hc0:=(h6 0 c0 _ rfl rfl).1;have hc1:=h6 1 c1 d rfl rfl;have hrel:c0 = .pointer none\/c0 = .pointer (some ⟨g,0,none⟩):=by
  have:=aJc hc0;rw[h1]at this;exact this
 have fin:∀w',(∃x,(x = .pointer none\/x = .pointer (some ⟨g,0,none⟩))/\w'.heap[g]?=some (.cells #[x,c1] 91 (0,0)))->w'.os=w.os->w'.tape=w.tape->w'.output=w.output->w'.heap.size=w.heap.size->(∀b,b≠g->w'.heap[b]?=w.heap[b]?)->
     ∃v,Ending.returned (.tuple #[]) = .returned v/\R { E with m:=1 } (res (.bD []) ((50,.box 91 [.via 50 (mO 0),d])::H)) #[v] w':=λw' ⟨x,hx,hxg⟩ s1 s2 s3 s4 s5=>by
  have hcell:∀b i u,Cell w G b i u->Cell w' G b i u:=λb i u h=>by
   have hne:b≠g:=λe=>by have:=h.2;rw[e,h4]at this;omega
   exact⟨(World.cell?_of_block (a:=⟨b,i,none⟩) (s5 b hne)).trans h.1,h.2⟩
  have J:=aKR (a:=⟨#[.pointer (some ⟨g,0,none⟩)],[]⟩) (w':=w') (ob':=.box 91 [.via 50 (mO 0),d]) (fr:=100) (dst:=none) (v:=.tuple #[]) (d:=.any) I (k:=50) rfl (by rw[h1];rfl) h4 (λ_ _ _=>Iff.rfl) (λ_ _ _=>Iff.rfl) s1 s2 s3 s4 s5 hcell
   ⟨g,_,h1,h2,hxg,h4,rfl,λi u e hu he=>by
    match i,hu,he with
    |0,hu,he=>cases hu;cases he;exact⟨.via hob0.1 (by rw[h1];exact hx) (by rcases hx with rfl|rfl <;> rfl),by rcases hx with rfl|rfl <;> rfl⟩
    |1,hu,he=>cases hu;cases he;exact⟨hc1.1.mono (λ_ h=>⟨h,rfl⟩) hcell,hc1.2⟩
    |i+2,hu,he=>simp at he⟩ (λ_ h=>by cases h) .any
  have hHeq:∀k o,Ab.look k ((50,aZ.box 91 [.via 50 (mO 0),d])::H)=some o->((mk (λt=>Ab.look t []) (λk=>Ab.look k ((50,aZ.box 91 [.via 50 (mO 0),d])::H)) 100).bC none .any [(50,some (.box 91 [.via 50 (mO 0),d]))] 100).H k=some o:=λk o h=>by
   simp only[St.bC,Ab.look]at h ⊢;by_cases e:50=k
   .rw[aJ e]at h ⊢;exact h
   .rw[aD e]at h ⊢;simp only[aD e];exact h
  exact⟨_,rfl,ν,G,⟨J.kept.os,J.kept.tape,J.kept.output,J.kept.size,J.kept.block⟩,J.eR,J.gE,J.g0,rfl,λt d' ht=>by
   cases t with
   |zero=>cases ht;exact⟨_,rfl,.bD rfl λi u d hu hd=>by simp at hd⟩
   |succ t=>exact absurd (show(none:Option D)=some _ from ht) (by simp),λk o hk=>by
     obtain⟨q1,q2⟩:=J.H k o (hHeq k o hk);have hn:∀j,(decide (j<100)||(decide (100<=j)&&decide (j<100+8)))=true->decide (j<108)=true/\ν j=ν j:=λj hj=>⟨by simp at hj ⊢;omega,rfl⟩
     exact⟨(hn k q1).1,q2.mono q1 hn (λ_ _ _ h=>h) (λ_ _=>⟨rfl,rfl⟩)⟩,λk o k' o' hk hk'=>J.eB k o k' o' (hHeq k o hk) (hHeq k' o' hk')⟩
 rcases hrel with rfl|rfl
 .refine(a9A g w (by simp[World.cell?,h3]) (by simp[World.shape?,h3]) (by simp[World.frozen?,h3])).mono ?_
  rintro e w' ⟨rfl,rfl⟩;have hlt:g<w.heap.size:=J6 h3;exact fin _ ⟨_,.inr rfl,by simp[World.setCell,aBA,h3]⟩ rfl rfl rfl (by simp[World.setCell]) (λb hb=>by simp[World.setCell,aBA,Ne.symm hb])
 .refine(a8z g w (by simp[World.cell?,h3])).mono ?_
  rintro e w' ⟨rfl,rfl⟩;exact fin _ ⟨_,.inr rfl,h3⟩ rfl rfl rfl rfl (λ_ _=>rfl)
theorem aNi{xs:List X}{H:XH}{d:Option (Bool×List UInt8)}(h:SY xs H=some d):xs=[.ref 50 0]/\H=aB4 d:=by
 unfold SY at h;split at h
 .split at h
  .rename_i he
   have he:=cA he;subst he;split at h
   .cases h;exact⟨rfl,rfl⟩
   .cases h
  .cases h
 .split at h
  .rename_i he
   have he:=cA he;subst he;split at h
   .split at h
    .rename_i h2;cases h;rw[jF h2];exact⟨rfl,rfl⟩
    .split at h
     .rename_i h2;cases h;rw[jF h2];exact⟨rfl,rfl⟩
     .cases h
   .cases h
  .cases h
 .cases h
theorem aNh(N:Nat):aM Tryz.prog 96 (aB3 N):=eO (az:=λ_=>[.ref 50 0]) aNi (λd _=>by
 cases d with
 |none=>exact aMN _ _
 |some p=>exact aMN _ _)
end Go.Proofs
/- Contracts of library functions on characters and bytes. -/
namespace Go.Proofs
open Go Go.RowKit Go.Ax Go.Ab
def FH(l:List UInt8):List Int:=l.map λb=>(b.toNat:Int)
theorem a9S(l:List UInt8):Lib.bytesOf (FH l)=l:=by
 unfold Lib.bytesOf FH;rw[List.map_map]
 conv=>rhs;rw[<-List.map_id l]
 refine List.map_congr_left λb _=>?_
 show UInt8.ofNat (vX (b.toNat:Int))=b;rw[nC];exact aAf
theorem aTg(s:List UInt8)(r:Int)(h:MU 0 s r=true):cR Tryz.prog 59 [.t (.v (.string ⟨⟨s⟩⟩)),.t (.v (.int .i32 r))] [] (.t (.v (.int .i64 (Lib.indexByte s (vX r).toUInt8)))) []:=by
 have h:=cU h;refine cR.RE λw ht G ν nm vs hs ha=>?_
 obtain⟨v,u,rfl,hd,he⟩:=aA4 hs ha;have:=cL hd;have:=cL he;subst v u;refine(Tryz.strings_IndexRune_ascii ⟨⟨s⟩⟩ r w h.1 h.2).mono ?_;rintro e w' ⟨rfl,rfl⟩;exact⟨_,rfl,cS.refl _,G,λ_ _=>rfl,λν nm=>.t (.v _ rfl)⟩
theorem aTf(N:Nat):aM Tryz.prog 59 (aE2 N):=aM.e2 λs r h=>aTg s r h
theorem aTc(s:List UInt8)(r:Int)(h:MS 0 s r=true):cR Tryz.prog 60 [.t (.v (.string ⟨⟨s⟩⟩)),.t (.v (.int .i32 r))] [] (.t (.v (.bool (decide (0<=Lib.indexByte s (vX r).toUInt8))))) []:=by
 have h:=cU h;refine cR.RE λw ht G ν nm vs hs ha=>?_
 obtain⟨v,u,rfl,hd,he⟩:=aA4 hs ha;have:=cL hd;have:=cL he;subst v u;refine(Tryz.strings_ContainsRune_ascii ⟨⟨s⟩⟩ r w h.1 h.2).mono ?_;rintro e w' ⟨rfl,rfl⟩;exact⟨_,rfl,cS.refl _,G,λ_ _=>rfl,λν nm=>.t (.v _ rfl)⟩
theorem aTb(N:Nat):aM Tryz.prog 60 (aE1 N):=aM.e2 λs r h=>aTc s r h
theorem aXO(s:List UInt8)(c:UInt8):cR Tryz.prog 40 [.t (.sl s.length (s.map λb=>.v (.int .u8 b.toNat))),.t (.v (.int .u8 c.toNat))] [] (.t (.v (.int .i64 (Lib.indexByte s c)))) []:=by
 refine cR.RE λw ht G ν nm vs hs ha=>?_
 obtain⟨v,u,rfl,hd,he⟩:=aA4 hs ha;have:=cL he;subst u;have hcv:vX (c.toNat:Int)=c.toNat:=by omega
 have hcu:(vX (c.toNat:Int)).toUInt8=c:=by rw[hcv];exact aAf
 have fin:∀{a:Option Addr}{cap:Nat}(_:a=none->s=[]/\cap=0)(_:∀ad,a=some ad->∀i,i<s.length->w.cell? (ad.add i)=some (.int .u8 ((FH s).getD i 0))),
     Calls Tryz.prog 40 #[.slice a s.length cap,.int .u8 c.toNat] w λe w'=>∃v,e = .returned v/\cS w w'/\∃G',(∀b,b<w.heap.size->G' b=G b)/\∀ν nm,DR ν nm w' G' v (.t (.v (.int .i64 (Lib.indexByte s c)))):=λ{a cap} h1 h2=>by
  cases a with
  |none=>
    obtain⟨rfl,rfl⟩:=h1 rfl;refine(Tryz.bytes_IndexByte_nil c.toNat w).mono ?_;rintro e w' ⟨rfl,rfl⟩;exact⟨_,rfl,cS.refl _,G,λ_ _=>rfl,λν nm=>.t (.v _ rfl)⟩
  |some ad=>
    refine(Tryz.bytes_IndexByte_at ad s.length cap (FH s) c.toNat w (by simp[FH]) (h2 ad rfl)).mono ?_;rintro e w' ⟨rfl,rfl⟩;rw[a9S,hcu];exact⟨_,rfl,cS.refl _,G,λ_ _=>rfl,λν nm=>.t (.v _ rfl)⟩
 generalize hts:(s.map λb:UInt8=>Tree.v (.int .u8 (b.toNat:Int)))=ts at hd;generalize hn:s.length=n at hd;cases hd with
 |t hd=>
   cases hd with
   | @nil a cap h=>
     have hs0:s=[]:=List.eq_nil_of_length_eq_zero hn;have:=fin (a:=a) (cap:=cap) (λe=>⟨hs0,h e⟩) (λ_ _ i hi=>by omega);rw[hn]at this;exact this
   |sl b o n' cap us ts' hl hc hle hr=>
     have:=fin (a:=some ⟨b,o,none⟩) (cap:=cap) (λe=>by cases e) (λad e i hi=>by
      cases e;have hlt:i<us.length:=by rw[hl,<-hts,dR];exact hi
      have hu:us[i]?=some us[i]:=dE hlt;have h3:=hr i _ _ hu (by rw[<-hts,dT,dE hi];rfl);have:=aJp h3;have h4:=(hc i _ hu).1;rw[this]at h4;rw[Addr.add_mid];rw[h4];simp[FH,dE hi])
     rw[hn]at this;exact this
theorem aXN(s:List UInt8)(c:UInt8):cR Tryz.prog 40 [.t (.sl s.length (s.flatMap (bH .u8))),.t (.v (.int .u8 c.toNat))] [] (.t (.v (.int .i64 (Lib.indexByte s c)))) []:=by
 have e:=YF s;have:=aXO s c;rw[<-e]at this;exact this
theorem aGK(N:Nat):aM Tryz.prog 40 (V5 N):=aM.e2 λs c _=>by
 exact aXN s c
end Go.Proofs
