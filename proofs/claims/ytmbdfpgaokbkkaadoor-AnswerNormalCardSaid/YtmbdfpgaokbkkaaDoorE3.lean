/- The abstract machine: rows, rows of rows, maps. Conditions are in the theorems. -/
import Derived.Test.YtmbdfpgaokbkkaaDoorE2
import Derived.MapKept
/- The abstract machine: the same laws from facts on types that a program can print. -/
namespace Go.Ab
open Go.RowKit
inductive Spl {α:Type}:List α->Nat->List α->List α->Prop
 | done {l:List α}:Spl l 0 [] l
 | skip {x:α} {l new l':List α} {off:Nat} (r:Spl l off new l'):Spl (x::l) (off+1) new (x::l')
 | put {x y:α} {l new l':List α} (r:Spl l 0 new l'):Spl (x::l) 0 (y::new) (y::l')
inductive CutL {α:Type}:List α->Nat->Nat->List α->Prop
 | done {l:List α}:CutL l 0 0 []
 | skip {x:α} {l ds:List α} {off m:Nat} (r:CutL l off m ds):CutL (x::l) (off+1) m ds
 | take {x:α} {l ds:List α} {m:Nat} (r:CutL l 0 m ds):CutL (x::l) 0 (m+1) (x::ds)
inductive Fill (pl:List (Nat×Nat)):List D->List (Nat×D)->List D->Prop
 | nil {cells:List D}:Fill pl cells [] cells
 | cons {cells cells' out cs:List D} {i off size:Nat} {d:D} {rest:List (Nat×D)} (hp:pl[i]?=some (off,size)) (hv:d.val=true) (hc:d.cells=cs) (hl:cs.length=size) (hs:Spl cells off cs cells') (r:Fill pl cells' rest out):Fill pl cells ((i,d)::rest) out
def rowT (P:Program) (t:TypeId):Option Bool:=(P.underlying t).map fun | .struct _ | .array _ _=>true | _=>false
theorem rowT_get {P:Program} {t:TypeId} {b:Bool} (h:rowT P t=some b):∃ d,P.underlying t=some d/\d.isRow=b:=by
 unfold rowT at h;obtain ⟨d,h1,h2⟩:=Option.map_eq_some_iff.1 h;refine ⟨d,h1,?_⟩;rw [← h2];cases d <;> rfl
section
variable {P:Program} {o:Oper} {σ:St} {fr:Nat}
theorem ld1 {t:TypeId} {x:Operand} {k off:Nat} {ob:AObj} {d:D} (hu:rowT P t=some false) (ho:o.op = .load t x) (hx:σ.ev x=some (.ref k off)) (hk:σ.H k=some ob) (hc:ob.cells[off]?=some d):OpOk P o σ fr d []:=by
 obtain ⟨dsc,h1,h2⟩:=rowT_get hu;exact ok_load1 ho h1 h2 hx hk hc
theorem ldn {t:TypeId} {x:Operand} {k off m:Nat} {ob:AObj} {ds:List D} (hu:rowT P t=some true) (hi:(P.info? t).map (·.size)=some m) (ho:o.op = .load t x) (hx:σ.ev x=some (.ref k off)) (hk:σ.H k=some ob) (hc:(ob.cells.drop off).take m=ds) (hm:ds.length=m):OpOk P o σ fr (.agg ds) []:=by
 obtain ⟨dsc,h1,h2⟩:=rowT_get hu;exact ok_loadn ho h1 h2 hi hx hk hc hm
theorem lp1 {t:TypeId} {x:Operand} {ts:List Tree} {off:Nat} {tr:Tree} (hu:rowT P t=some false) (ho:o.op = .load t x) (hx:σ.ev x=some (.ptr ts off)) (hc:ts[off]?=some tr):OpOk P o σ fr (.t tr) []:=by
 obtain ⟨dsc,h1,h2⟩:=rowT_get hu;exact ok_loadp1 ho h1 h2 hx hc
theorem lpn {t:TypeId} {x:Operand} {ts xs:List Tree} {off m:Nat} (hu:rowT P t=some true) (hi:(P.info? t).map (·.size)=some m) (ho:o.op = .load t x) (hx:σ.ev x=some (.ptr ts off)) (hc:(ts.drop off).take m=xs) (hm:xs.length=m):OpOk P o σ fr (.agg (xs.map .t)) []:=by
 obtain ⟨dsc,h1,h2⟩:=rowT_get hu;exact ok_loadpn ho h1 h2 hi hx hc hm
theorem ok_alloc {e:TypeId} {z:Value} (ho:o.op = .alloc e) (hz:(P.info? e).bind (·.zero)=some z) (h1:constOk z=true):OpOk P o σ fr (.ref fr 0) [(fr,some (.box e (ofVal z).cells))]:=by
 intro E σ₁ a w hT hH h100 hf hd hR Q;obtain ⟨i,hi,hz'⟩:=Option.bind_eq_some_iff.1 hz;have hb:OpOk P { o with op:=.box e (.const z) } σ fr (.ref fr 0) [(fr,some (.box e (ofVal z).cells))]:=ok_box rfl (by simp [St.ev,h1]) (by cases z <;> first | rfl | cases h1);have h:=hb E σ₁ a w hT hH h100 hf hd hR Q;unfold Oper.wp at h ⊢;have he:(execOp a.eval o).run P w=(execOp a.eval { o with op:=.box e (.const z) }).run P w:=by
  unfold execOp;rw [ho];simp [Instr.alloc,Instr.box,zeroValue,typeInfo,hi,hz',Act.eval]
 rw [he];exact h
theorem zeros_get (z:List Value) (hz:0 < z.length):∀ (len i:Nat),i < len * z.length->((List.replicate len z).flatten)[i]?=z[i % z.length]?
 | 0,i,h=>by omega
 | len+1,i,h=>by
   rw [List.replicate_succ,List.flatten_cons];by_cases hi:i < z.length
   ·rw [List.getElem?_append_left hi,Nat.mod_eq_of_lt hi]
   ·rw [List.getElem?_append_right (by omega),zeros_get z hz len (i - z.length) (by rw [Nat.add_mul,Nat.one_mul] at h;omega)]
    congr 1
    conv=>rhs;rw [show i=(i - z.length)+z.length by omega,Nat.add_mod_right]
theorem LitT.of {t e:TypeId} {z:Value} {s bytes:Nat} (hT:AppT P t e z s bytes) (h1:∀ u ∈ z.cells.toList,u.oneCell'=true) (len:Nat) (hl:len * s<=2 ^ 24):LitT P t e s len (List.replicate len z.cells.toList).flatten:=by
 have hs:=hT.s;have hzl:z.cells.toList.length=s:=by rw [Array.length_toList];exact hT.z
 have hlen:(List.replicate len z.cells.toList).flatten.length=len * s:=by simp [hT.z]
 refine ⟨hT.u,fun u hu=>?_,hlen,?_,fun w parts cells hf=>?_⟩
 ·obtain ⟨l,h2,h3⟩:=List.mem_flatten.1 hu
  rw [(List.mem_replicate.1 h2).2] at h3;exact h1 u h3
 ·have:len<=len * s:=Nat.le_mul_of_pos_right _ hs
  unfold maxLen;omega
 ·obtain ⟨i,hi,hz,hsz,hby⟩:=info_parts hT.i
  by_cases h0:len=0
  ·subst h0
   simp at hf;have h9:∀ f:Nat->Value,Array.map f (Array.range 0) = #[]:=fun f=>by simp
   simp [Instr.buildSlice,run_underlying hT.u,sizeOf,typeInfo,hi,hsz,newRow,h9,hf]
  ·refine run_buildSlice w t e len parts cells i z hT.u hi hz (by rw [hsz];omega) (by rw [hsz];exact Nat.mul_ne_zero h0 (by omega)) ?_
   rw [hsz];have:(Array.range (len * s)).map (z.cells[· % z.cells.size]!)=(List.replicate len z.cells.toList).flatten.toArray:=by
    apply Array.ext_getElem?;intro j;by_cases hj:j < len * s
    ·have hm:j % z.cells.size < z.cells.size:=Nat.mod_lt _ (by rw [hT.z];exact hs)
     have e1:((Array.range (len * s)).map (z.cells[· % z.cells.size]!))[j]?=z.cells[j % z.cells.size]?:=by simp [hj,hm]
     have e2:=zeros_get z.cells.toList (by rw [hzl];exact hs) len j (by rw [hzl];exact hj);rw [hzl,← hT.z] at e2;rw [e1];simpa using e2.symm
    ·rw [Array.getElem?_eq_none (by simp;omega),Array.getElem?_eq_none (by rw [List.size_toArray,hlen];omega)]
   rw [this];exact hf
end
theorem ent_of_act {E:Env} {s s':St} (h:∀ (a:Act) (w:World),R E s a.tmps w->R E s' a.tmps w):Ent E s s':=fun tm w hR=>h ⟨tm,[]⟩ w hR
theorem ent_seal {E:Env} {T:Nat->Option D} {H:Nat->Option AObj} {N:Nat} (k:Nat) {e:TypeId} {s n:Nat} {ts:List Tree} (hk:H k=some (.row e s n ts false)):
    Ent E (mk T H N) (mk T (fun j=>if k=j then some (.row e s n ts true) else H j) N):=by
 refine ent_of_act fun a w ⟨ν,G,I⟩=>⟨ν,fun b=>if blk (ν k)=some b then n * s else G b,?_⟩
 obtain ⟨hn,xs,r1,r2,r3,r4⟩:=I.H k _ hk;have hcell:∀ b i u,Cell w G b i u->Cell w (fun b=>if blk (ν k)=some b then n * s else G b) b i u:=fun b i u hc=>by
  refine ⟨hc.1,?_⟩;have h2:=hc.2;by_cases hb:blk (ν k)=some b
  ·have:=(r4 b hb).2
   rw [this] at h2;simp at h2
  ·simp only [if_neg hb];exact h2
 refine ⟨I.kept,fun b i u hc=>hcell b i u (I.keep b i u hc),I.pin,fun b hb hX=>?_,I.sz,fun t d ht=>?_,fun j o hj=>?_,fun j1 o1 j2 o2 h1 h2 hne=>?_⟩
 ·have hne:blk (ν k)≠some b:=fun e=>by
   rcases (r4 b e).1 with h | h
   ·omega
   ·exact hX h
  simp only [if_neg hne];exact I.g0 b hb hX
 ·obtain ⟨v,hv,hdv⟩:=I.T t d ht
  exact ⟨v,hv,hdv.mono (fun _ h=>⟨h,rfl⟩) hcell⟩
 ·by_cases hjk:k=j
  ·subst hjk
   simp only [if_true,Option.some.injEq] at hj;subst hj;exact ⟨hn,xs,r1,r2,fun i u t hu ht=>(r3 i u t hu ht).mono hcell,fun g hg=>⟨(r4 g hg).1,by simp [hg]⟩⟩
  ·simp only [if_neg hjk] at hj
   obtain ⟨q1,q2⟩:=I.H j o hj;refine ⟨q1,q2.mono q1 (fun _ h=>⟨h,rfl⟩) hcell (fun g hg=>⟨rfl,if_neg (fun e=>?_)⟩)⟩;exact I.dis j o k _ hj hk (fun e=>hjk e.symm) g hg e
 ·have back:∀ j o,(if k=j then some (.row e s n ts true) else H j)=some o->∃ o',H j=some o'/\∀ g,foot w (ν j) o g->foot w (ν j) o' g:=fun j o h=>by
   by_cases hj:k=j
   ·subst hj;simp only [if_true,Option.some.injEq] at h;subst h;exact ⟨_,hk,fun _ h=>h⟩
   ·rw [if_neg hj] at h;exact ⟨o,h,fun _ h=>h⟩
  obtain ⟨p1,hp1,f1⟩:=back j1 o1 h1;obtain ⟨p2,hp2,f2⟩:=back j2 o2 h2;exact fun g hg hg'=>I.dis j1 p1 j2 p2 hp1 hp2 hne g (f1 g hg) (f2 g hg')
theorem TR_row {w:World} {G G':Lim} {e:TypeId} {s n:Nat} {v:Value} {ys:List Value} {ts:List Tree} (h:w.ownsRow 0 e s v n ys) (hl:ys.length=ts.length) (hx:∀ b i u,Cell w G b i u->Cell w G' b i u) (ht:∀ (i:Nat) (u:Value) (t:Tree),ys[i]?=some u->ts[i]?=some t->TR w G u t)
    (hG:∀ g,blk v=some g->n * s<=G' g):TR w G' v (.sl n ts):=row_tree h hl (fun i u t hu hd=>(ht i u t hu hd).mono hx) hG
theorem ent_sealN {E:Env} {T:Nat->Option D} {H:Nat->Option AObj} {N:Nat} (k:Nat) {e e':TypeId} {s:Nat} {ls:List (Nat×List Tree)} (hk:H k=some (.nest e e' s ls)):
    Ent E (mk T H N) (mk T (fun j=>if k=j then some (.row e 1 ls.length (ls.map fun p=>.sl p.1 p.2) true) else H j) N):=by
 refine ent_of_act fun a w ⟨ν,G,I⟩=>?_
 obtain ⟨hn,hob⟩:=I.H k _ hk;obtain ⟨xs,r1,r2,r3,r4,r5⟩:=id hob;have hxl:xs.length=ls.length:=by rw [r1.1,Nat.mul_one]
 -- the inner rows' blocks
 let G':Lim:=fun b=>open Classical in if h:∃ (i:Nat) (x:Value) (p:Nat×List Tree),xs[i]?=some x/\ls[i]?=some p/\blk x=some b then (h.choose_spec.choose_spec.choose).1 * s else G b
 have hG1:∀ (i:Nat) (x:Value) (p:Nat×List Tree) (b:Nat),xs[i]?=some x->ls[i]?=some p->blk x=some b->G' b=p.1 * s:=fun i x p b hx hp hb=>by
  have h:∃ (i:Nat) (x:Value) (p:Nat×List Tree),xs[i]?=some x/\ls[i]?=some p/\blk x=some b:=⟨i,x,p,hx,hp,hb⟩
  obtain ⟨q1,q2,q3⟩:=h.choose_spec.choose_spec.choose_spec;have:h.choose=i:=by
   by_cases e:h.choose=i
   ·exact e
   ·exact absurd hb (r3 _ _ _ _ e q1 hx b q3)
  simp only [G',dif_pos h];have q2':ls[i]?=some h.choose_spec.choose_spec.choose:=by rw [← this];exact q2
  rw [hp] at q2';rw [← Option.some.inj q2']
 have hG0:∀ b,(∀ (i:Nat) (x:Value) (p:Nat×List Tree),xs[i]?=some x->ls[i]?=some p->blk x≠some b)->G' b=G b:=fun b hb=>by
  simp only [G'];rw [dif_neg];rintro ⟨i,x,p,h1,h2,h3⟩;exact hb i x p h1 h2 h3
 have hin:∀ (i:Nat) (x:Value) (p:Nat×List Tree) (b:Nat),xs[i]?=some x->ls[i]?=some p->blk x=some b->foot w (ν k) (.nest e e' s ls) b:=fun i x p b hx hp hb=>by
  have hi:=(List.getElem?_eq_some_iff.1 hp).1;rcases r1.2 with ⟨_,h0⟩ | ⟨g0,cap,cur,hv,_⟩
  ·omega
  ·exact .inr ⟨g0,i,x,by rw [hv];rfl,hi,by rw [outer_cell r1 (by rw [hv];rfl) hi];exact hx,hb⟩
 have hcell:∀ b i u,Cell w G b i u->Cell w G' b i u:=fun b i u hc=>by
  refine ⟨hc.1,?_⟩;by_cases hb:∃ (i:Nat) (x:Value) (p:Nat×List Tree),xs[i]?=some x/\ls[i]?=some p/\blk x=some b
  ·obtain ⟨j,x,p,h1,h2,h3⟩:=hb
   obtain ⟨_,_,_,_,y4⟩:=r2 j x p h1 h2;have:=hc.2;rw [(y4 b h3).2] at this;omega
  ·rw [hG0 b (fun j x p h1 h2 h3=>hb ⟨j,x,p,h1,h2,h3⟩)];exact hc.2
 refine ⟨ν,G',I.kept,fun b i u hc=>hcell b i u (I.keep b i u hc),I.pin,fun b hb hX=>?_,I.sz,fun t d ht=>?_,fun j o hj=>?_,fun j1 o1 j2 o2 h1 h2 hne=>?_⟩
 ·rw [hG0 b (fun j x p h1 h2 h3=>?_)]
  ·exact I.g0 b hb hX
  ·rcases (hob.ft (hin j x p b h1 h2 h3)).2 with h | h
   ·omega
   ·exact hX h
 ·obtain ⟨v,hv,hdv⟩:=I.T t d ht
  exact ⟨v,hv,hdv.mono (fun _ h=>⟨h,rfl⟩) hcell⟩
 ·by_cases hjk:k=j
  ·subst hjk
   simp only [if_true,Option.some.injEq] at hj;subst hj;refine ⟨hn,xs,r1,by simp [hxl],fun i u t hu ht=>?_,fun g hg=>⟨(r5 g hg).1,?_⟩⟩
   ·rw [List.getElem?_map] at ht
    obtain ⟨p,hp,rfl⟩:=Option.map_eq_some_iff.1 ht;obtain ⟨ys,y1,y2,y3,y4⟩:=r2 i u p hu hp;exact TR_row y1 y2 hcell y3 fun g hg=>by rw [hG1 i u p g hu hp hg];exact Nat.le_refl _
   ·rw [hG0 g (fun j x p h1 h2 h3=>r4 j x h1 g h3 hg),(r5 g hg).2]
    simp
  ·simp only [if_neg hjk] at hj
   obtain ⟨q1,q2⟩:=I.H j o hj;refine ⟨q1,q2.mono q1 (fun _ h=>⟨h,rfl⟩) hcell (fun g hg=>⟨rfl,hG0 g (fun i x p h1 h2 h3=>?_)⟩)⟩;exact I.dis j o k _ hj hk (fun e=>hjk e.symm) g hg (hin i x p g h1 h2 h3)
 ·have back:∀ j o,(if k=j then some (.row e 1 ls.length (ls.map fun p=>.sl p.1 p.2) true) else H j)=some o->∃ o',H j=some o'/\∀ g,foot w (ν j) o g->foot w (ν j) o' g:=fun j o h=>by
   by_cases hj:k=j
   ·subst hj;simp only [if_true,Option.some.injEq] at h;subst h;exact ⟨_,hk,fun _ h=>.inl h⟩
   ·rw [if_neg hj] at h;exact ⟨o,h,fun _ h=>h⟩
  obtain ⟨p1,hp1,f1⟩:=back j1 o1 h1;obtain ⟨p2,hp2,f2⟩:=back j2 o2 h2;exact fun g hg hg'=>I.dis j1 p1 j2 p2 hp1 hp2 hne g (f1 g hg) (f2 g hg')
inductive Empt:AObj->Prop
 | row {e:TypeId} {s:Nat} {st:Bool}:Empt (.row e s 0 [] st)
 | nest {e e':TypeId} {s:Nat}:Empt (.nest e e' s [])
 | nst {e e':TypeId} {m s:Nat}:Empt (.nst e e' m s 0 [])
theorem Empt.ok {o:AObj} (h:Empt o) {E:Env} {ν:Nat->Value} {nm:Nat->Bool} {w:World} {G:Lim} {k:Nat} (hk:ν k = .slice none 0 0):ObjOk E ν nm w G k o:=by
 cases h with
 | row=>exact ⟨[],by rw [hk];exact World.ownsRow_nil w 0 _ _,rfl,fun i u t h=>by simp at h,fun g hg=>by rw [hk] at hg;cases hg⟩
 | nest=>exact ⟨[],by rw [hk];exact World.ownsRow_nil w 0 _ _,fun i x p h=>by simp at h,fun i j x y _ h=>by simp at h,fun i x h=>by simp at h,fun g hg=>by rw [hk] at hg;cases hg⟩
 | nst=>exact ⟨[],by rw [hk];exact World.ownsRow_nil w 0 _ _,rfl,fun i x d h=>by simp at h,fun i x q ts h=>by simp at h,fun i j x y q q' ts ts' _ h=>by simp at h,fun i x q ts h=>by simp at h,fun g hg=>by rw [hk] at hg;cases hg⟩
theorem Empt.foot {o:AObj} (h:Empt o) {w:World} {g:Nat}:¬ Ab.foot w (.slice none 0 0) o g:=by
 cases h with
 | row=>intro h;cases h
 | nest=>
   rintro (h | ⟨_,_,_,h,_⟩)
   ·cases h
   ·cases h
 | nst=>
   rintro (h | ⟨_,_,_,_,_,h,_⟩)
   ·cases h
   ·cases h
theorem ent_nilobj {E:Env} {T:Nat->Option D} {H:Nat->Option AObj} {N:Nat} (t:Nat) {o:AObj} (ho:Empt o) (ht:T t=some (.t (.v (.slice none 0 0)))) (hN:100<=N):
    Ent E (mk T H N) (mk (fun x=>if t=x then some (.own N) else T x) (fun k=>if N=k then some o else H k) (N+8)):=by
 refine ent_of_act fun a w ⟨ν,G,I⟩=>?_
 obtain ⟨v,hv,hdv⟩:=I.T t _ ht;have hv':=bool_of hdv;subst hv';have htm:t < E.m:=by rw [← I.sz];exact (Array.getElem?_eq_some_iff.1 hv).1
 have hI:=I.newL (a:=a) (fr:=N) (dst:=some t) (W:=[(N,some o)]) hN (fun k hk _=>by simp;exact hk) (fun t' h=>by cases h;exact htm) [] (fun k=>by
  by_cases h:k=N
  ·subst h;simp [look]
  ·simp [look,h,Ne.symm h]) rfl rfl rfl (Nat.le_refl _) (fun _ _ _=>⟨rfl,rfl⟩) (fun _ _ _ h=>h) (x:=.slice none 0 0) (fun g hg=>absurd hg ho.foot) (ho.ok setν_same) (v:=.slice none 0 0) (d:=.own N) (by
   have:DR (setν ν N (.slice none 0 0)) ((mk T H N).upd (some t) .any [(N,some o)] N).nm w G (setν ν N (.slice none 0 0) N) (.own N):=.own (upd_nm_fr ..) (by rw [setν_same];rfl);rw [setν_same] at this;exact this)
 have he:(a.put (some t) (.slice none 0 0)).tmps=a.tmps:=by
  apply Array.ext_getElem?;intro i;simp only [Act.put];by_cases hi:t=i
  ·subst hi
   rw [hv,Array.getElem?_setIfInBounds];simp [(Array.getElem?_eq_some_iff.1 hv).1]
  ·rw [Array.getElem?_setIfInBounds_ne hi]
 rw [he] at hI;have hR:R E ((mk T H N).upd (some t) (.own N) [(N,some o)] N) a.tmps w:=⟨_,_,hI⟩;have hb:=hR.bound (N:=N+8) (fun k hk=>by simp [St.upd];omega);have e1:((mk T H N).upd (some t) (.own N) [(N,some o)] N).T=fun x=>if t=x then some (.own N) else T x:=by
  funext x
  simp [St.upd]
 have e2:((mk T H N).upd (some t) (.own N) [(N,some o)] N).H=fun k=>if N=k then some o else H k:=by
  funext k
  simp only [St.upd,look];by_cases hk:N=k <;> simp [hk]
 rw [e1,e2] at hb;exact hb
theorem flat_len {α:Type} {f:α->List Tree} {s:Nat} (h:∀ x,(f x).length=s) (l:List α):(l.flatMap f).length=l.length * s:=by
 induction l with
 | nil=>simp
 | cons a l ih=>rw [List.flatMap_cons,List.length_append,h,ih,List.length_cons,Nat.add_mul];omega
theorem flat_get {α:Type} {f:α->List Tree} {s:Nat} (h:∀ x,(f x).length=s) {l:List α}:∀ {i:Nat} {x:α},l[i]?=some x->∀ j,j < s->(l.flatMap f)[i * s+j]?=(f x)[j]?:=by
 induction l with
 | nil=>intro i x h;simp at h
 | cons a l ih=>
   intro i x hx j hj;rw [List.flatMap_cons];cases i with
   | zero=>simp at hx;subst hx;rw [Nat.zero_mul,Nat.zero_add,List.getElem?_append_left (by rw [h];exact hj)]
   | succ i=>
     rw [List.getElem?_append_right (by rw [h,Nat.add_mul];omega),h,show (i+1) * s+j - s=i * s+j by rw [Nat.add_mul];omega];exact ih (by simpa using hx) j hj
end Go.Ab
/- The abstract machine: rows that are made. -/
namespace Go.Ab
open Go.RowKit
inductive ZTs:List Value->List Tree->Prop
 | nil:ZTs [] []
 | v {x:Value} {l:List Value} {ts:List Tree} (h:x.oneCell'=true) (r:ZTs l ts):ZTs (x::l) (.v x::ts)
 | sl {l:List Value} {ts:List Tree} (r:ZTs l ts):ZTs (.slice none 0 0::l) (.sl 0 []::ts)
theorem ZTs.append {l l':List Value} {ts ts':List Tree} (h:ZTs l ts) (h':ZTs l' ts'):ZTs (l++l') (ts++ts'):=by
 induction h with
 | nil=>exact h'
 | v h r ih=>exact .v h ih
 | sl r ih=>exact .sl ih
theorem ZTs.reps {l:List Value} {ts:List Tree} (h:ZTs l ts):∀ n,ZTs (List.replicate n l).flatten (List.replicate n ts).flatten
 | 0=>.nil
 | n+1=>by rw [List.replicate_succ,List.replicate_succ,List.flatten_cons,List.flatten_cons];exact h.append (h.reps n)
theorem ZTs.rel {l:List Value} {ts:List Tree} (h:ZTs l ts) (w:World) (G:Lim):l.length=ts.length/\∀ (i:Nat) (u:Value) (t:Tree),l[i]?=some u->ts[i]?=some t->TR w G u t:=by
 induction h with
 | nil=>exact ⟨rfl,fun i u t h=>by simp at h⟩
 | v h r ih=>
   refine ⟨by simp [ih.1],fun i u t hu ht=>?_⟩;cases i with
   | zero=>simp at hu ht;subst hu ht;exact .v _ h
   | succ i=>exact ih.2 i u t (by simpa using hu) (by simpa using ht)
 | sl r ih=>
   refine ⟨by simp [ih.1],fun i u t hu ht=>?_⟩;cases i with
   | zero=>simp at hu ht;subst hu ht;exact .nil (fun _=>rfl)
   | succ i=>exact ih.2 i u t (by simpa using hu) (by simpa using ht)
theorem made_eq {z:Value} {s:Nat} (hz:z.cells.size=s) (hs:0 < s) (n:Nat):(madeCells z.cells (n * s)).toList=(List.replicate n z.cells.toList).flatten:=by
 apply List.ext_getElem?;intro j;have hzl:z.cells.toList.length=s:=by rw [Array.length_toList];exact hz
 by_cases hj:j < n * s
 ·have hm:j % z.cells.size < z.cells.size:=Nat.mod_lt _ (by rw [hz];exact hs)
  have e2:=zeros_get z.cells.toList (by rw [hzl];exact hs) n j (by rw [hzl];exact hj);rw [e2,hzl,← hz];simp only [madeCells,Array.toList_map,Array.toList_range,List.getElem?_map,List.getElem?_range,hz,hj,Option.map_some];rw [hz] at hm;rw [Array.getElem?_toList];rw [getElem!_pos _ _ (by rw [hz];exact hm),Array.getElem?_eq_getElem (by rw [hz];exact hm)]
 ·rw [List.getElem?_eq_none (by rw [Array.length_toList,size_madeCells];omega),List.getElem?_eq_none (by simp [hz];omega)]
section
variable {P:Program} {o:Oper} {σ:St} {fr:Nat}
theorem ok_make {t e:TypeId} {z:Value} {s bytes:Nat} (st:Bool) {l c:Operand} {n:Nat} {zt:List Tree} (hT:AppT P t e z s bytes) (hz:ZTs z.cells.toList zt) (ho:o.op = .makeSlice t l c) (hl:σ.ev l=some (I n)) (hc:σ.ev c=some (I n))
    (hb:bytes * n<=281474976710656/\n<=maxLen):OpOk P o σ fr (.own fr) [(fr,some (.row e s n (List.replicate n zt).flatten st))]:=by
 intro E σ₁ a w hTT hHH h100 hf hd ⟨ν,G,I⟩ Q;obtain ⟨i,hi,hz',h2,h3⟩:=info_parts hT.i;have hlv:=bool_of (I.ev (St.ev_le hTT hl));have hcv:=bool_of (I.ev (St.ev_le hTT hc));obtain ⟨w',hr,r1,r2⟩:=run_make_full (P:=P) w 0 t e i z s hT.u hi hz' h2 .i64 .i64 n (by rw [h3];exact hb.1) hb.2 (Nat.zero_le _);have hB:(i.bytes:Int) * (n:Int)<=281474976710656:=by
  have h:((i.bytes * n:Nat):Int)<=281474976710656:=by rw [h3];omega
  rwa [Int.natCast_mul] at h
 have hr2:=run_make (P:=P) w t e i z hT.u hi hz' .i64 .i64 n n (by omega) (Int.le_refl _) hB (by have:=hb.2;simp only [maxLen] at this;omega);simp only [Int.toNat_natCast] at hr2;rw [hr] at hr2;have hw:w'=w.alloc (.cells (madeCells z.cells (n * i.size)) e):=by injection hr2
 have hA:Aft w w':=hw ▸ (Aft.refl w).alloc _;have hG:∀ b,b < w.heap.size->(fun b=>if b=w.heap.size then (if st then n * s else 0) else G b) b=G b:=fun b hb=>if_neg (by omega)
 have he:(execOp a.eval o).run P w = .ok (.value (.slice (some ⟨w.heap.size,0,none⟩) n n)) w':=by
  unfold execOp;rw [ho];simp [hlv,hcv,hr]
 unfold Oper.wp;rw [he,Oper.upon_value];have hzr:=(hz.reps n).rel w' (fun b=>if b=w.heap.size then (if st then n * s else 0) else G b);rw [← made_eq hT.z hT.s] at hzr;refine ⟨put_defers ..,_,_,I.fresh (G':=fun b=>if b=w.heap.size then (if st then n * s else 0) else G b) h100 hf hd hA hG (x:=.slice (some ⟨w.heap.size,0,none⟩) n n) (fun g hg=>by cases hg;exact Nat.le_refl _) ?_ ?_⟩
 ·refine ⟨_,by rw [setν_same];exact r1,hzr.1,hzr.2,fun g hg=>?_⟩
  rw [setν_same] at hg;cases hg;exact ⟨.inl I.kept.size,if_pos rfl⟩
 ·have:DR (setν ν fr (.slice (some ⟨w.heap.size,0,none⟩) n n)) (σ₁.upd o.dst .any [(fr,some (.row e s n (List.replicate n zt).flatten st))] fr).nm w' (fun b=>if b=w.heap.size then (if st then n * s else 0) else G b) (setν ν fr (.slice (some ⟨w.heap.size,0,none⟩) n n) fr) (.own fr):=.own (upd_nm_fr ..) (by rw [setν_same];rfl)
  rw [setν_same] at this;exact this
end
inductive RV (P:Program) (σ:St):ResultVar->D->Prop
 | tmp {t:Tmp} {d:D} (h:σ.T t=some d):RV P σ (.tmp t) d
 | row {p:Tmp} {t:TypeId} {k m:Nat} {e:TypeId} {ds:List D} (hp:σ.T p=some (.ref k 0)) (hk:σ.H k=some (.box e ds)) (hu:rowT P t=some true) (hi:(P.info? t).map (·.size)=some m) (hm:ds.length=m):RV P σ (.cell p t) (.agg ds)
 | one {p:Tmp} {t:TypeId} {k:Nat} {e:TypeId} {d:D} (hp:σ.T p=some (.ref k 0)) (hk:σ.H k=some (.box e [d])) (hu:rowT P t=some false):RV P σ (.cell p t) d
def rvRun (tm:Array Value):ResultVar->Sem Value
 | .tmp t=>pure (tm.getD t undef)
 | .cell a t=>do loadVar t (← asAddr (tm.getD a undef))
theorem RV.run {P:Program} {σ:St} {rv:ResultVar} {d:D} (h:RV P σ rv d) {E:Env} {ν:Nat->Value} {G:Lim} {w:World} {tm:Array Value} (I:Inv E σ ν G w tm):∃ v,(rvRun tm rv).run P w = .ok v w/\DR ν σ.nm w G v d:=by
 have get:∀ p d,σ.T p=some d->DR ν σ.nm w G (tm.getD p undef) d:=fun p d hp=>by
  obtain ⟨v,hv,hd⟩:=I.T p d hp;have:tm.getD p undef=v:=by simp [Array.getD_eq_getD_getElem?,hv]
  rw [this];exact hd
 cases h with
 | tmp h=>exact ⟨_,rfl,get _ _ h⟩
 | @row p t k m e ds hp hk hu hi hm=>
   obtain ⟨g,hg,hv,_⟩:=ref_of (get _ _ hp);obtain ⟨dsc,h1,h2⟩:=rowT_get hu;have hob:=(I.H k _ hk).2;have hall:∀ i,i < m->∃ u,w.cell? ⟨g,0+i,none⟩=some u/\∀ d,ds[i]?=some d->DR ν σ.nm w G u d/\u.oneCell'=true:=fun i h=>by
    have hd:ds[i]?=some ds[i]:=List.getElem?_eq_getElem (by omega);obtain ⟨g',u,hg',hcu,hdu,h1⟩:=hob.cell (o:=.box e ds) hd;rw [hg] at hg';cases hg';exact ⟨u,by rw [Nat.zero_add];exact hcu,fun d h=>by rw [hd] at h;cases h;exact ⟨hdu,h1⟩⟩
   let cs:List Value:=(List.range m).map fun i=>(w.cell? ⟨g,0+i,none⟩).getD undef
   have hcs:∀ i u,cs[i]?=some u->i < m/\w.cell? ⟨g,0+i,none⟩=some u:=fun i u h=>by
    have hi:i < m:=by simpa [cs] using (List.getElem?_eq_some_iff.1 h).1
    obtain ⟨u',h',_⟩:=hall i hi;have h2:cs[i]?=some u':=by
     show ((List.range m).map fun i=>(w.cell? ⟨g,0+i,none⟩).getD undef)[i]?=some u';rw [List.getElem?_map,List.getElem?_range hi];simp only [Option.map_some,h',Option.getD_some]
    rw [h2] at h;cases h;exact ⟨hi,h'⟩
   refine ⟨.agg cs.toArray,?_,.agg (by simp [cs,hm]) (fun i u d h h'=>?_) (fun u h=>?_)⟩
   ·simp only [rvRun,hv,asAddr,Sem.run_bind,Sem.run_pure,Result.andThen_ok]
    exact run_loadVar_mid w g 0 t cs dsc (fun j v h=>(hcs j v h).2) h1 h2 (by rw [hi];simp [cs])
   ·obtain ⟨hi,hcu⟩:=hcs i u (by simpa using h)
    obtain ⟨u',h1,h2⟩:=hall i hi;rw [hcu] at h1;cases h1;exact (h2 d h').1
   ·obtain ⟨i,hiu⟩:=List.mem_iff_getElem?.1 (by simpa using h:u ∈ cs)
    obtain ⟨hi,hcu⟩:=hcs i u hiu;obtain ⟨u',h1,h2⟩:=hall i hi;rw [hcu] at h1;cases h1;exact (h2 _ (List.getElem?_eq_getElem (by omega))).2
 | @one p t k e d hp hk hu=>
   obtain ⟨g,hg,hv,_⟩:=ref_of (get _ _ hp);obtain ⟨dsc,h1,h2⟩:=rowT_get hu;obtain ⟨g',u,hg',hcu,hdu,_⟩:=(I.H k _ hk).2.cell (o:=.box e [d]) (i:=0) rfl;rw [hg] at hg';cases hg';refine ⟨u,?_,hdu⟩;have h:=run_load1 h1 h2 hcu;simp only [Instr.loadAt,Instr.sureAddr,Sem.run_bind,Sem.run_pure,Result.andThen_ok] at h;simp only [rvRun,hv,asAddr,Sem.run_bind,Sem.run_pure,Result.andThen_ok];exact h
theorem RV.all {P:Program} {σ:St} {rv:ResultVar} {d:D} (h:RV P σ rv d) {E:Env} {w:World} {tm:Array Value} (hR:R E σ tm w):∃ v,(rvRun tm rv).run P w = .ok v w/\∀ ν G,Inv E σ ν G w tm->DR ν σ.nm w G v d:=by
 obtain ⟨ν,G,I⟩:=hR;obtain ⟨v,hv,_⟩:=h.run I;refine ⟨v,hv,fun ν' G' I'=>?_⟩;obtain ⟨v',hv',hd'⟩:=h.run I';rw [hv] at hv';cases hv';exact hd'
theorem results_rv (fn:Func) (tm:Array Value):results fn tm=(do
    let vs ← fn.results.mapM (rvRun tm)
    pure (if h:vs.size=1 then vs[0] else .tuple vs)):=by
 unfold results
 congr 1
abbrev RetC (rn:List (Nat×Nat)) (H':List (Nat×AObj)):Prop:=(rn.all (fun p=>decide (p.1 < 50)||decide (100<=p.1))&&decide ((H'.map fun p=>rnm rn p.1).Nodup)&&H'.all (fun p=>decide (p.1 < 108)))=true
section
variable {P:Program} {fn:Func} {E:Env} {σ:St} {r:D} {H':List (Nat×AObj)}
theorem tup2 {ν:Nat->Value} {nm:Nat->Bool} {w:World} {G:Lim} {v1 v2:Value} {d1 d2:D} (h1:DR ν nm w G v1 d1) (h2:DR ν nm w G v2 d2):DR ν nm w G (.tuple #[v1,v2]) (.tup [d1,d2]):=.tup rfl fun i u d hu hd=>by
 match i with
 | 0=>simp at hu hd;subst hu hd;exact h1
 | 1=>simp at hu hd;subst hu hd;exact h2
 | i+2=>simp at hu
theorem tup3 {ν:Nat->Value} {nm:Nat->Bool} {w:World} {G:Lim} {v1 v2 v3:Value} {d1 d2 d3:D} (h1:DR ν nm w G v1 d1) (h2:DR ν nm w G v2 d2) (h3:DR ν nm w G v3 d3):DR ν nm w G (.tuple #[v1,v2,v3]) (.tup [d1,d2,d3]):=.tup rfl fun i u d hu hd=>by
 match i with
 | 0=>simp at hu hd;subst hu hd;exact h1
 | 1=>simp at hu hd;subst hu hd;exact h2
 | 2=>simp at hu hd;subst hu hd;exact h3
 | i+3=>simp at hu
end
theorem ent_nilcello {E:Env} {T:Nat->Option D} {H:Nat->Option AObj} {N:Nat} (k i:Nat) {o0:AObj} (h0:Empt o0) {e':TypeId} {ds:List D} (hk:H k=some (.box e' ds)) (hi:ds[i]?=some (.t (.v (.slice none 0 0)))) (hN:100<=N):
    Ent E (mk T H N) (mk T (fun j=>if N=j then some o0 else if k=j then some (.box e' (ds.set i (.own N))) else H j) (N+8)):=by
 refine ent_of_act fun a w ⟨ν,G,I⟩=>?_
 have lt:∀ j,(mk T H N).nm j=true->j < N:=fun j hj=>by simpa using hj
 have ne:∀ j,(mk T H N).nm j=true->setν ν N (.slice none 0 0) j=ν j:=fun j hj=>setν_ne (by have:=lt j hj;omega)
 have hn:∀ j,(mk T H N).nm j=true->decide (j < N+8)=true/\setν ν N (.slice none 0 0) j=ν j:=fun j hj=>⟨by have:=lt j hj;simp;omega,ne j hj⟩
 have old:∀ j o,H j=some o->j < N:=fun j o hj=>lt j (I.H j o hj).1
 have back:∀ j o,(if N=j then some o0 else if k=j then some (.box e' (ds.set i (.own N))) else H j)=some o->j=N\/(j < N/\∃ o',H j=some o'):=fun j o h=>by
  by_cases h1:N=j
  ·exact .inl h1.symm
  ·rw [if_neg h1] at h
   by_cases h2:k=j
   ·subst h2;exact .inr ⟨old _ _ hk,_,hk⟩
   ·rw [if_neg h2] at h;exact .inr ⟨old _ _ h,_,h⟩
 refine ⟨setν ν N (.slice none 0 0),G,I.kept,I.keep,fun j h1 h2=>?_,I.g0,I.sz,fun t d ht=>?_,fun j o hj=>?_,fun j1 o1 j2 o2 h1 h2 hne g hg=>?_⟩
 ·rw [setν_ne (by omega)];exact I.pin j h1 h2
 ·obtain ⟨v,hv,hdv⟩:=I.T t d ht
  exact ⟨v,hv,hdv.mono hn (fun _ _ _ h=>h)⟩
 ·rcases back j o hj with rfl | ⟨hlt,o',ho'⟩
  ·simp only [if_true,Option.some.injEq] at hj
   subst hj;exact ⟨by simp,h0.ok setν_same⟩
  ·obtain ⟨q1,q2⟩:=I.H j o' ho'
   have q3:=q2.mono (ν':=setν ν N (.slice none 0 0)) (nm':=fun j=>decide (j < N+8)) q1 hn (fun _ _ _ h=>h) (fun g _=>⟨rfl,rfl⟩);refine ⟨by simp;omega,?_⟩;simp only [if_neg (show ¬ N=j by omega)] at hj;by_cases h2:k=j
   ·subst h2
    rw [if_pos rfl] at hj;rw [hk] at ho';cases ho';cases hj;obtain ⟨g,cur,z1,z2,z3,z4,z5,z6⟩:=q3;refine ⟨g,cur,z1,z2,z3,z4,by rw [List.length_set];exact z5,fun m u d hu hd=>?_⟩;by_cases hm:i=m
    ·subst hm
     have hlt2:i < ds.length:=(List.getElem?_eq_some_iff.1 hi).1;rw [List.getElem?_set_self hlt2] at hd;cases hd;obtain ⟨y1,y2⟩:=z6 i u _ hu hi;have:=bool_of y1;subst this;refine ⟨?_,y2⟩;have hown:DR (setν ν N (.slice none 0 0)) (fun j=>decide (j < N+8)) w G (setν ν N (.slice none 0 0) N) (.own N):=.own (by simp) (by rw [setν_same];rfl);rw [setν_same] at hown;exact hown
    ·rw [List.getElem?_set_ne hm] at hd
     exact z6 m u d hu hd
   ·rw [if_neg h2] at hj
    rw [hj] at ho';cases ho';exact q3
 ·have fb:∀ j o,j < N->(if N=j then some o0 else if k=j then some (.box e' (ds.set i (.own N))) else H j)=some o->∃ o',H j=some o'/\∀ g,foot w (ν j) o g->foot w (ν j) o' g:=fun j o hlt h=>by
   rw [if_neg (by omega)] at h;by_cases h2:k=j
   ·subst h2;rw [if_pos rfl] at h;cases h;exact ⟨_,hk,fun _ h=>h⟩
   ·rw [if_neg h2] at h;exact ⟨o,h,fun _ h=>h⟩
  rcases back j1 o1 h1 with rfl | ⟨l1,p1,hp1⟩
  ·rw [setν_same] at hg
   simp only [if_true,Option.some.injEq] at h1;subst h1;exact absurd hg h0.foot
  ·rcases back j2 o2 h2 with rfl | ⟨l2,p2,hp2⟩
   ·rw [setν_same]
    simp only [if_true,Option.some.injEq] at h2;subst h2;exact h0.foot
   ·rw [setν_ne (by omega)] at hg ⊢
    obtain ⟨y1,z1,f1⟩:=fb j1 o1 l1 h1;obtain ⟨y2,z2,f2⟩:=fb j2 o2 l2 h2;exact fun hg'=>I.dis j1 y1 j2 y2 z1 z2 hne g (f1 g hg) (f2 g hg')
theorem flat_put {α:Type} {f:α->List Tree} {s:Nat} (h:∀ x,(f x).length=s) {x:α}:∀ {l:List α} {i:Nat},i < l.length->splice (l.flatMap f) (i * s) (f x)=(l.set i x).flatMap f
 | [],i,hi=>by simp at hi
 | y::l,0,_=>by
   simp only [splice,Nat.zero_mul,List.take_zero,List.nil_append,Nat.zero_add,List.set_cons_zero,List.flatMap_cons,h x];rw [List.drop_append_of_le_length (by rw [h];exact Nat.le_refl _),List.drop_eq_nil_of_le (by rw [h];exact Nat.le_refl _),List.nil_append]
 | y::l,i+1,hi=>by
   have ih:=flat_put h (x:=x) (l:=l) (i:=i) (by simpa using hi);rw [List.set_cons_succ,List.flatMap_cons,List.flatMap_cons,← ih];have e1:(i+1) * s=s+i * s:=by rw [Nat.add_mul];omega
   simp only [splice,e1];rw [h x,List.take_append,List.drop_append,h y,List.take_of_length_le (by rw [h];omega),List.drop_eq_nil_of_le (by rw [h];omega),List.nil_append,Nat.add_sub_cancel_left,show s+i * s+s - s=i * s+s by omega,List.append_assoc,List.append_assoc,List.append_assoc]
end Go.Ab
/- The abstract machine: rows of rows of the walk's own, whose cells may be stored into. -/
namespace Go.Ab
open Go.RowKit
theorem inner_obj {E:Env} {nm:Nat->Bool} {w:World} {G:Lim} {e':TypeId} {s n:Nat} {x:Value} {ys:List Value} {ts:List Tree} (y1:w.ownsRow 0 e' s x n ys) (y2:ys.length=ts.length)
    (y3:∀ (i:Nat) (u:Value) (t:Tree),ys[i]?=some u->ts[i]?=some t->TR w G u t) (y4:∀ g,blk x=some g->E.may g/\G g=0):ObjOk E (fun _=>x) nm w G 0 (.row e' s n ts false):=
 ⟨ys,y1,y2,y3,fun g hg=>by simpa using y4 g hg⟩
theorem nest_get {E:Env} {ν:Nat->Value} {nm:Nat->Bool} {w:World} {G:Lim} {k:Nat} {e e':TypeId} {s:Nat} {ls:List (Nat×List Tree)} (h:ObjOk E ν nm w G k (.nest e e' s ls)) {i:Nat} {p:Nat×List Tree} (hp:ls[i]?=some p):
    ∃ g x ys,blk (ν k)=some g/\Cell w G g i x/\w.ownsRow 0 e' s x p.1 ys/\ys.length=p.2.length/\(∀ (i:Nat) (u:Value) (t:Tree),ys[i]?=some u->p.2[i]?=some t->TR w G u t)/\∀ g,blk x=some g->E.may g/\G g=0:=by
 obtain ⟨xs,r1,r2,r3,r4,r5⟩:=h;have hi:i < ls.length:=(List.getElem?_eq_some_iff.1 hp).1;have hxl:xs.length=ls.length:=by rw [r1.1,Nat.mul_one]
 have hx:xs[i]?=some xs[i]:=List.getElem?_eq_getElem (by omega);obtain ⟨ys,y1,y2,y3,y4⟩:=r2 i _ p hx hp;rcases r1.2 with ⟨_,h0⟩ | ⟨g0,cap,cur,hv,_⟩
 ·omega
 ·have hg:blk (ν k)=some g0:=by rw [hv];rfl
  exact ⟨g0,xs[i],ys,hg,⟨by rw [outer_cell r1 hg hi];exact hx,by rw [(r5 g0 hg).2];exact hi⟩,y1,y2,y3,y4⟩
theorem sub_of {ν:Nat->Value} {nm:Nat->Bool} {w:World} {G:Lim} {v:Value} {k i:Nat} (h:DR ν nm w G v (.sub k i)):∃ g,blk (ν k)=some g/\Cell w G g i v/\nm k=true:=by
 cases h with | sub hk hg hc h1=>exact ⟨_,hg,hc,hk⟩
theorem sref_of {ν:Nat->Value} {nm:Nat->Bool} {w:World} {G:Lim} {v:Value} {k i j:Nat} (h:DR ν nm w G v (.sref k i j)):∃ g g' n c,blk (ν k)=some g/\Cell w G g i (.slice (some ⟨g',0,none⟩) n c)/\v = .pointer (some ⟨g',j,none⟩)/\nm k=true:=by
 cases h with | sref hk hg hc=>exact ⟨_,_,_,_,hg,hc,rfl,hk⟩
theorem cell_eq {w:World} {G:Lim} {b i:Nat} {u v:Value} (h:Cell w G b i u) (h':Cell w G b i v):u=v:=by
 have h1:=h.1;have h2:=h'.1;rw [h1] at h2;exact Option.some.inj h2
section
variable {P:Program} {o:Oper} {σ:St} {fr:Nat}
theorem ok_idxN {t:TypeId} {x y:Operand} {q:Nat} {e e':TypeId} {s:Nat} {ls:List (Nat×List Tree)} {k:IntKind} {j:Int} (hs:elemSz P t=some 1) (ho:o.op = .indexAddr t x y) (hx:σ.ev x=some (.own q)) (hq:σ.H q=some (.nest e e' s ls)) (hy:σ.ev y=some (.t (.v (.int k j)))) (h0:0<=j) (hn:j < ls.length):
    OpOk P o σ fr (.ref q j.toNat) []:=
 ok_pure fun E σ₁ ν G w a hH I hev=>by
  have hv:=hev x _ hx;have hj:=bool_of (hev y _ hy);obtain ⟨v,he⟩:∃ v,a.eval x=v:=⟨_,rfl⟩
  rw [he] at hv;cases hv with
  | own hk h1=>
    obtain ⟨xs,r1,_⟩:=(I.H q _ (hH q _ hq)).2;rcases r1.2 with ⟨_,hz⟩ | ⟨g,cap,cur,hvv,_⟩
    ·omega
    ·refine ⟨.pointer (some ⟨g,j.toNat,none⟩),?_,.ref hk (by rw [hvv];rfl)⟩
     unfold execOp;rw [ho];have:=run_indexSl hs w g 0 ls.length cap k j h0 hn;rw [Nat.mul_one,Nat.zero_add] at this;simp [he,hj,hvv,this]
theorem ok_ldN {t:TypeId} {x:Operand} {k i:Nat} {e e':TypeId} {s:Nat} {ls:List (Nat×List Tree)} {p:Nat×List Tree} (hu:rowT P t=some false) (ho:o.op = .load t x) (hx:σ.ev x=some (.ref k i)) (hk:σ.H k=some (.nest e e' s ls)) (hp:ls[i]?=some p):OpOk P o σ fr (.sub k i) []:=
 ok_pure fun E σ₁ ν G w a hH I hev=>by
  obtain ⟨dsc,h1,h2⟩:=rowT_get hu;obtain ⟨g,hg,hv,hnm⟩:=ref_of (hev x _ hx);obtain ⟨g',u,ys,hg',hc,y1,_⟩:=nest_get (I.H k _ (hH k _ hk)).2 hp;rw [hg] at hg';cases hg';refine ⟨u,?_,.sub hnm hg hc (ownsRow_one y1)⟩;unfold execOp;rw [ho];simp [hv,run_load1 h1 h2 hc.1]
theorem ok_lenN {t:TypeId} {x:Operand} {q:Nat} {e e':TypeId} {s:Nat} {ls:List (Nat×List Tree)} {tys:Array TypeId} {el:TypeId} (hu:P.underlying t=some (.slice el)) (ho:o.op = .call { callee:=.builtin .len,args:=#[x],argTypes:=tys }) (hty:tys = #[t]) (hx:σ.ev x=some (.own q)) (hq:σ.H q=some (.nest e e' s ls)):OpOk P o σ fr (I ls.length) []:=by
 intro E σ₁ a w hT hH h100 hf hd ⟨ν,G,I⟩ Q;have hv:=I.ev (St.ev_le hT hx);obtain ⟨v,he⟩:∃ v,a.eval x=v:=⟨_,rfl⟩
 rw [he] at hv;cases hv with
 | own hk h1=>
   obtain ⟨xs,r1,_⟩:=(I.H q _ (hH q _ hq)).2;obtain ⟨ax,c,hvv⟩:∃ ax c,ν q = .slice ax ls.length c:=by
    rcases r1.2 with ⟨hz,h0⟩ | ⟨g,cap,cur,hz,_⟩
    ·exact ⟨_,_,by rw [hz,h0]⟩
    ·exact ⟨_,_,hz⟩
   subst hty;unfold Oper.wp;have he':(execOp a.eval o).run P w = .ok (.value (.int .i64 ls.length)) w:=by
    unfold execOp;rw [ho];simp [resolve,invoke,builtin,he,hvv,Builtin.len_,run_underlying hu,goInt]
   rw [he',Oper.upon_value];exact ⟨put_defers ..,ν,G,I.put (.t (.v _ rfl)) hd fr a rfl⟩
theorem ok_lenS {t:TypeId} {x:Operand} {q i:Nat} {e e':TypeId} {s:Nat} {ls:List (Nat×List Tree)} {p:Nat×List Tree} {tys:Array TypeId} {el:TypeId} (hu:P.underlying t=some (.slice el)) (ho:o.op = .call { callee:=.builtin .len,args:=#[x],argTypes:=tys }) (hty:tys = #[t]) (hx:σ.ev x=some (.sub q i)) (hq:σ.H q=some (.nest e e' s ls)) (hp:ls[i]?=some p):OpOk P o σ fr (I p.1) []:=by
 intro E σ₁ a w hT hH h100 hf hd ⟨ν,G,I⟩ Q;obtain ⟨g,hg,hc,_⟩:=sub_of (I.ev (St.ev_le hT hx));obtain ⟨g',u,ys,hg',hc',y1,_⟩:=nest_get (I.H q _ (hH q _ hq)).2 hp;rw [hg] at hg';cases hg';have hu':=cell_eq hc hc';obtain ⟨ax,c,hvv⟩:∃ ax c,u = .slice ax p.1 c:=by
  rcases y1.2 with ⟨hz,h0⟩ | ⟨g,cap,cur,hz,_⟩
  ·exact ⟨_,_,by rw [hz,h0]⟩
  ·exact ⟨_,_,hz⟩
 subst hty;unfold Oper.wp;have he':(execOp a.eval o).run P w = .ok (.value (.int .i64 p.1)) w:=by
  unfold execOp;rw [ho];simp [resolve,invoke,builtin,hu',hvv,Builtin.len_,run_underlying hu,goInt]
 rw [he',Oper.upon_value];exact ⟨put_defers ..,ν,G,I.put (.t (.v _ rfl)) hd fr a rfl⟩
theorem ok_idxS {t:TypeId} {x y:Operand} {q i:Nat} {e e':TypeId} {s:Nat} {ls:List (Nat×List Tree)} {p:Nat×List Tree} {k:IntKind} {j:Int} (hs:elemSz P t=some 1) (ho:o.op = .indexAddr t x y) (hx:σ.ev x=some (.sub q i)) (hq:σ.H q=some (.nest e e' s ls)) (hp:ls[i]?=some p) (hy:σ.ev y=some (.t (.v (.int k j)))) (h0:0<=j) (hn:j < p.1):
    OpOk P o σ fr (.sref q i j.toNat) []:=
 ok_pure fun E σ₁ ν G w a hH I hev=>by
  obtain ⟨g,hg,hc,hk⟩:=sub_of (hev x _ hx);have hj:=bool_of (hev y _ hy);obtain ⟨g',u,ys,hg',hc',y1,_⟩:=nest_get (I.H q _ (hH q _ hq)).2 hp;rw [hg] at hg';cases hg';have hu':=cell_eq hc hc';rcases y1.2 with ⟨_,hz⟩ | ⟨g1,cap,cur,hvv,_⟩
  ·omega
  ·refine ⟨.pointer (some ⟨g1,j.toNat,none⟩),?_,.sref hk hg (by rw [← hvv];exact hc')⟩
   unfold execOp;rw [ho];have:=run_indexSl hs w g1 0 p.1 cap k j h0 hn;rw [Nat.mul_one,Nat.zero_add] at this;simp [hu',hj,hvv,this]
theorem ok_ldS {t:TypeId} {x:Operand} {k i j:Nat} {e e':TypeId} {s:Nat} {ls:List (Nat×List Tree)} {p:Nat×List Tree} {tr:Tree} (hu:rowT P t=some false) (ho:o.op = .load t x) (hx:σ.ev x=some (.sref k i j)) (hk:σ.H k=some (.nest e e' s ls)) (hp:ls[i]?=some p) (hj:p.2[j]?=some tr):OpOk P o σ fr (.t tr) []:=
 ok_pure fun E σ₁ ν G w a hH I hev=>by
  obtain ⟨dsc,h1,h2⟩:=rowT_get hu;obtain ⟨g,g1,n,c,hg,hc,hv,hnm⟩:=sref_of (hev x _ hx);obtain ⟨g',u,ys,hg',hc',y1,y2,y3,y4⟩:=nest_get (I.H k _ (hH k _ hk)).2 hp;rw [hg] at hg';cases hg';have hu':=cell_eq hc hc';subst hu';obtain ⟨g2,z,hg2,hz,hd,_⟩:=(inner_obj (E:=E) (nm:=σ₁.nm) y1 y2 y3 y4).cell (i:=j) (d:=.t tr) (by simp [AObj.cells,hj]);simp only [blk,Option.some.injEq] at hg2;subst hg2;cases hd with
  | t hd=>
    refine ⟨z,?_,.t hd⟩;unfold execOp;rw [ho];simp [hv,run_load1 h1 h2 hz]
theorem ok_stS {t:TypeId} {x y:Operand} {k i j:Nat} {e e':TypeId} {s:Nat} {ls:List (Nat×List Tree)} {p:Nat×List Tree} {tr:Tree} (hi:(P.info? t).map (·.size)=some 1) (ho:o.op = .store t x y) (hx:σ.ev x=some (.sref k i j)) (hy:σ.ev y=some (.t tr)) (hk:σ.H k=some (.nest e e' s ls)) (hp:ls[i]?=some p) (hj:j < p.2.length):
    OpOk P o σ fr (.tup []) [(k,some (.nest e e' s (ls.set i (p.1,p.2.set j tr))))]:=by
 intro E σ₁ a w hT hH h100 hf hd ⟨ν,G,I⟩ Q;obtain ⟨g,g1,n,c,hg,hc,hvx,hkn⟩:=sref_of (I.ev (St.ev_le hT hx));have hdy:=I.ev (St.ev_le hT hy);obtain ⟨v,hev⟩:∃ v,a.eval y=v:=⟨_,rfl⟩
 rw [hev] at hdy;cases hdy with
 | t htr=>
 have hob:=(I.H k _ (hH k _ hk)).2;obtain ⟨xs,r1,r2,r3,r4,r5⟩:=id hob;have hil:i < ls.length:=(List.getElem?_eq_some_iff.1 hp).1;have hxl:xs.length=ls.length:=by rw [r1.1,Nat.mul_one]
 have hxi:xs[i]?=some (.slice (some ⟨g1,0,none⟩) n c):=by rw [← outer_cell r1 hg hil];exact hc.1
 obtain ⟨ys,y1,y2,y3,y4⟩:=r2 i _ p hxi hp;have hone:v.oneCell'=true:=htr.one;have hsp:splice p.2 j [tr]=p.2.set j tr:=by
  apply List.ext_getElem?;intro m;rw [splice_get (by simp;omega),List.getElem?_set];simp only [List.length_cons,List.length_nil,Nat.zero_add];by_cases e1:m < j
  ·rw [if_pos e1,if_neg (by omega)]
  ·rw [if_neg e1]
   by_cases e2:j=m
   ·subst e2;rw [if_pos (by omega),if_pos rfl,if_pos (by omega)];simp
   ·rw [if_neg (by omega),if_neg e2]
 obtain ⟨g2,hg2,hthere,hG0,hnew⟩:=(inner_obj (E:=E) (nm:=σ₁.nm) y1 y2 y3 y4).put (off:=j) (new:=[.t tr]) (vs:=[v]) (ob':=.row e' s p.1 (p.2.set j tr) false)
  (by simp only [AObj.put];rw [if_pos ⟨by simp;omega,trivial⟩];simp [asTrees,hsp]) rfl (fun m u d' hu hd'=>by
   cases m with
   | zero=>simp at hu hd';subst hu hd';exact ⟨.t htr,hone⟩
   | succ m=>simp at hu) (by simp)
 simp only [blk,Option.some.injEq] at hg2;subst hg2;have hcv:(a.eval y).cells = #[v]:=by rw [hev];exact cells_one hone
 have hr:(Instr.storeAt t (.pointer (some ⟨g1,j,none⟩)) (a.eval y)).run P w = .ok () (w.setCells g1 j (a.eval y).cells.toList):=
  run_storeCells (by rw [hcv];simpa using hthere) (by rw [hi,hcv];rfl) (fun u hu=>by rw [hcv] at hu;simp at hu;subst hu;exact hone)
 rw [hcv] at hr;obtain ⟨s1,s2,s3,s4,s5⟩:=setCells_same (g:=g1) [v] j w;obtain ⟨w',hw'⟩:∃ w',w.setCells g1 j [v]=w':=⟨_,rfl⟩
 rw [hw'] at hr s1 s2 s3 s4 s5;have hcell:∀ b i u,Cell w G b i u->Cell w' G b i u:=fun b i u h=>by
  have hne:b≠g1:=fun e=>by have:=h.2;rw [e,hG0] at this;omega
  exact ⟨(World.cell?_of_block (a:=⟨b,i,none⟩) (s5 b hne)).trans h.1,h.2⟩
 have hfoot1:foot w (ν k) (.nest e e' s ls) g1:=.inr ⟨g,i,_,hg,hil,hc.1,rfl⟩;have hmay:E.may g1:=(hob.ft hfoot1).2;have hgne:g≠g1:=fun e=>r4 i _ hxi g1 rfl (by rw [hg,e])
 have hft:∀ j oj,σ₁.H j=some oj->∀ g',foot w' (ν j) oj g' ↔ foot w (ν j) oj g':=fun m om hm g'=>foot_of fun b hb=>s5 b fun e=>by
  subst e;by_cases hmk:m=k
  ·subst hmk
   rw [hg] at hb;cases hb;exact hgne rfl
  ·exact I.dis m om k _ hm (hH k _ hk) hmk b (foot_blk hb) hfoot1
 unfold Oper.wp;have he:(execOp a.eval o).run P w = .ok .skip w':=by
  unfold execOp;rw [ho];simp only [hvx,Sem.run_bind,hr];rfl
 rw [he,Oper.upon_skip];obtain ⟨ob',hob'⟩:∃ ob',AObj.nest e e' s (ls.set i (p.1,p.2.set j tr))=ob':=⟨_,rfl⟩
 have hnm:∀ j,σ₁.nm j=true->(σ₁.upd o.dst (.tup []) [(k,some ob')] fr).nm j=true/\ν j=ν j:=fun j hj=>⟨by simp [St.upd,hj],rfl⟩
 rw [hob'];refine ⟨put_defers ..,ν,G,⟨s1.trans I.kept.os,s2.trans I.kept.tape,s3.trans I.kept.output,by rw [s4];exact I.kept.size,fun b hb hX=>?_⟩,fun b i u h=>hcell b i u (I.keep b i u h),I.pin,I.g0,?_,fun t' d' h=>?_,fun m om h=>?_,fun j1 o1 j2 o2 h1 h2 hne=>?_⟩
 ·refine (s5 b (fun e=>?_)).trans (I.kept.block b hb hX)
  subst e;rcases hmay with h | h
  ·omega
  ·exact hX h
 ·cases o.dst <;> simp [Act.put,I.sz]
 ·simp only [St.upd] at h
  split at h
  ·rename_i he'
   cases h;have:=hd t' he';exact ⟨undef,by simp [he',Act.put,I.sz,this],undef_rel⟩
  ·rename_i he'
   obtain ⟨u,hu,hdu⟩:=I.T t' d' h;refine ⟨u,?_,hdu.mono hnm hcell⟩;cases hds:o.dst with
   | none=>simpa [Act.put] using hu
   | some t''=>
     have hne:t''≠t':=fun e=>he' (by rw [hds,e])
     simp only [Act.put];rw [Array.getElem?_setIfInBounds_ne hne];exact hu
 ·by_cases hm:m=k
  ·subst hm
   simp [St.upd,look] at h;subst h;subst hob';have h1:=(I.H m _ (hH m _ hk)).1;have hall:∀ g',blk (ν m)=some g'->w'.heap[g']?=w.heap[g']?:=fun g' hg'=>s5 g' fun e=>by
    subst e;rw [hg] at hg';cases hg';exact hgne rfl
   have r1':w'.ownsRow 0 e 1 (ν m) (ls.set i (p.1,p.2.set j tr)).length xs:=by
    rw [List.length_set];refine ⟨r1.1,?_⟩;rcases r1.2 with h | ⟨g3,cap,cur,hvv,z1,z2,z3⟩
    ·exact .inl h
    ·exact .inr ⟨g3,cap,cur,hvv,z1,by rw [hall g3 (by rw [hvv];rfl)];exact z2,z3⟩
   refine ⟨(hnm m h1).1,xs,r1',fun q x p' hx hp'=>?_,r3,r4,fun g' hg'=>by rw [List.length_set];exact r5 g' hg'⟩;by_cases hqi:i=q
   ·subst hqi
    rw [List.getElem?_set_self hil] at hp';cases hp';rw [hxi] at hx;cases hx;obtain ⟨ys',a1,a2,a3,a4⟩:=hnew w' hcell hw'.symm;exact ⟨ys',a1,a2,a3,fun g' hg'=>by simpa using a4 g' hg'⟩
   ·rw [List.getElem?_set_ne hqi] at hp'
    obtain ⟨ys',a1,a2,a3,a4⟩:=r2 q x p' hx hp';refine ⟨ys',⟨a1.1,?_⟩,a2,fun i u t hu ht=>(a3 i u t hu ht).mono hcell,a4⟩;rcases a1.2 with h | ⟨g3,cap,cur,hvv,z1,z2,z3⟩
    ·exact .inl h
    ·exact .inr ⟨g3,cap,cur,hvv,z1,by rw [s5 g3 (fun e=>by subst e;exact r3 i q _ x hqi hxi hx g3 rfl (by rw [hvv];rfl))];exact z2,z3⟩
  ·have h':σ₁.H m=some om:=by simpa [St.upd,look,Ne.symm hm] using h
   obtain ⟨h1,h2⟩:=I.H m om h';refine ⟨(hnm m h1).1,h2.mono h1 hnm hcell (fun g' hg'=>⟨s5 g' (fun e=>?_),rfl⟩)⟩;subst e;exact I.dis m om k _ h' (hH k _ hk) hm g' hg' hfoot1
 ·have back:∀ j oj,(σ₁.upd o.dst (.tup []) [(k,some ob')] fr).H j=some oj->∃ oj',σ₁.H j=some oj'/\∀ g',foot w' (ν j) oj g'->foot w (ν j) oj' g':=fun m om h=>by
   by_cases hm:m=k
   ·subst hm
    simp [St.upd,look] at h;subst h;subst hob';refine ⟨_,hH m _ hk,fun g' hg'=>(hft m _ (hH m _ hk) g').1 ?_⟩;rcases hg' with h | ⟨g0,i',x,a1,a2,a3⟩
    ·exact .inl h
    ·exact .inr ⟨g0,i',x,a1,by rw [List.length_set] at a2;exact a2,a3⟩
   ·have h':σ₁.H m=some om:=by simpa [St.upd,look,Ne.symm hm] using h
    exact ⟨om,h',fun g' hg'=>(hft m om h' g').1 hg'⟩
  obtain ⟨o1',h1',f1⟩:=back j1 o1 h1;obtain ⟨o2',h2',f2⟩:=back j2 o2 h2;exact fun g' hg1 hg2=>I.dis j1 o1' j2 o2' h1' h2' hne g' (f1 g' hg1) (f2 g' hg2)
inductive DstN (σ:St) (s:Operand) (e e':TypeId) (sz:Nat):Option Nat->List (Nat×List Tree)->Prop
 | own {k:Nat} {ls:List (Nat×List Tree)} (h:σ.ev s=some (.own k)) (hk:σ.H k=some (.nest e e' sz ls)):DstN σ s e e' sz (some k) ls
 | nil (h:σ.ev s=some (.t (.v (.slice none 0 0)))):DstN σ s e e' sz none []
def appWN (k0:Option Nat) (q fr:Nat) (o:AObj):Wr:=match k0 with | some k=>[(fr,some o),(k,none),(q,none)] | none=>[(fr,some o),(q,none)]
theorem ok_appN {t e e':TypeId} {z:Value} {bytes sz q:Nat} {s x:Operand} {k0:Option Nat} {ls ms:List (Nat×List Tree)} (hT:AppT P t e z 1 bytes) (ho:o.op = .call { callee:=.builtin .append,args:=#[s,x],argTypes:=#[t,t] })
    (hs:DstN σ s e e' sz k0 ls) (hx:σ.ev x=some (.own q)) (hq:σ.H q=some (.nest e e' sz ms)) (hne:k0≠some q) (hb:(ls.length+ms.length) * bytes<=140737488355328/\ls.length+ms.length<=maxLen):
    OpOk P o σ fr (.own fr) (appWN k0 q fr (.nest e e' sz (ls++ms))):=by
 intro E σ₁ a w hTT hHH h100 hf hd ⟨ν,G,I⟩ Q;have hvx:=I.ev (St.ev_le hTT hx);obtain ⟨vx,hex⟩:∃ v,a.eval x=v:=⟨_,rfl⟩
 rw [hex] at hvx;cases hvx with
 | own hkq _=>
 have hobq:=(I.H q _ (hHH q _ hq)).2;obtain ⟨us,u1,u2,u3,u4,u5⟩:=id hobq;have hul:us.length=ms.length:=by rw [u1.1,Nat.mul_one]
 have hone:∀ u ∈ us,u.oneCell'=true:=fun u hu=>by
  obtain ⟨i,hi⟩:=List.mem_iff_getElem?.1 hu;have hlt:i < ms.length:=by rw [← hul];exact (List.getElem?_eq_some_iff.1 hi).1
  obtain ⟨ys,y1,_⟩:=u2 i u _ hi (List.getElem?_eq_getElem hlt);exact ownsRow_one y1
 obtain ⟨ax,c,hxv,hrd,hnone⟩:∃ ax c,ν q = .slice ax ms.length c/\Rd w ax us/\(ax=none->c=0):=by
  rcases u1.2 with ⟨hv,hn⟩ | ⟨g,cap,cur,hv,_⟩
  ·have hx:us=[]:=List.eq_nil_of_length_eq_zero (by omega)
   exact ⟨none,0,by rw [hv,hn],by rw [hx];exact Rd.nil,fun _=>rfl⟩
  ·exact ⟨_,cap,hv,fun j u hj=>⟨_,rfl,u1.cells (by rw [hv];rfl) j u hj⟩,fun e=>by cases e⟩
 have hrow:∃ v,a.eval s=v/\∃ ob:ObjOk E (fun _=>v) σ₁.nm w G 0 (.nest e e' sz ls),(∀ k,some k=k0->ν k=v/\σ₁.H k=some (.nest e e' sz ls))/\(k0=none->blk v=none):=by
  cases hs with
  | @own k _ h hk=>
    have hv:=I.ev (St.ev_le hTT h);obtain ⟨v,he⟩:∃ v,a.eval s=v:=⟨_,rfl⟩
    rw [he] at hv;cases hv with
    | own _ _=>exact ⟨_,he,(I.H _ _ (hHH _ _ hk)).2,(fun k' hk'=>by cases hk';exact ⟨rfl,hHH _ _ hk⟩),(fun e=>by cases e)⟩
  | nil h=>
    have hv:=bool_of (I.ev (St.ev_le hTT h));exact ⟨_,hv,Empt.nest.ok rfl,(fun k h=>by cases h),fun _=>rfl⟩
 obtain ⟨v,hsv,hobv,hk0,hk0n⟩:=hrow;obtain ⟨xs,r1,r2,r3,r4,r5⟩:=id hobv;change w.ownsRow 0 e 1 v ls.length xs at r1;change ∀ (i:Nat) (x:Value),xs[i]?=some x->∀ g,blk x=some g->blk v≠some g at r4
 change ∀ g,blk v=some g->E.may g/\G g=ls.length at r5
 have hxl:xs.length=ls.length:=by rw [r1.1,Nat.mul_one]
 obtain ⟨v',w',hr,p1,q1,q2,q3,q4,q5,q6,q7⟩:=run_app (ty:=o.type) hT r1 (m:=ms.length) (c:=c) (by rw [hul,Nat.mul_one]) hrd hnone hone hb.2 hb.1;unfold Oper.wp;have he:(execOp a.eval o).run P w = .ok (.value v') w':=by
  unfold execOp;rw [ho];simp [resolve,invoke,builtin,hsv,hex,hxv,hr]
 rw [he,Oper.upon_value];rw [← ownsRow_blk r1] at q5 q6 q7;rw [← ownsRow_blk p1] at q7
 -- blocks of the one are none of the other
 have dis1:∀ g,foot w v (.nest e e' sz ls) g->¬ foot w (ν q) (.nest e e' sz ms) g:=fun g hg hg'=>by
  cases k0 with
  | none=>
    rcases hg with h | ⟨_,_,_,h,_⟩
    ·rw [hk0n rfl] at h;cases h
    ·rw [hk0n rfl] at h;cases h
  | some k=>
    obtain ⟨h1,h2⟩:=hk0 k rfl;subst h1;exact I.dis k _ q _ h2 (hHH q _ hq) (fun e=>hne (by rw [e])) g hg hg'
 have inx:∀ (i:Nat) (x:Value),xs[i]?=some x->∀ g,blk x=some g->foot w v (.nest e e' sz ls) g:=fun i x hx g hg=>by
  have hi:i < ls.length:=by rw [← hxl];exact (List.getElem?_eq_some_iff.1 hx).1
  rcases r1.2 with ⟨_,h0⟩ | ⟨g0,cap,cur,hv,_⟩
  ·omega
  ·exact .inr ⟨g0,i,x,by rw [hv];rfl,hi,by rw [outer_cell r1 (by rw [hv];rfl) hi];exact hx,hg⟩
 have inu:∀ (i:Nat) (x:Value),us[i]?=some x->∀ g,blk x=some g->foot w (ν q) (.nest e e' sz ms) g:=fun i x hx g hg=>by
  have hi:i < ms.length:=by rw [← hul];exact (List.getElem?_eq_some_iff.1 hx).1
  rcases u1.2 with ⟨_,h0⟩ | ⟨g0,cap,cur,hv,_⟩
  ·omega
  ·exact .inr ⟨g0,i,x,by rw [hv];rfl,hi,by rw [outer_cell u1 (by rw [hv];rfl) hi];exact hx,hg⟩
 have outv:∀ (i:Nat) (x:Value),(xs++us)[i]?=some x->∀ g,blk x=some g->g < w.heap.size/\blk v≠some g:=fun i x hx g hg=>by
  by_cases hi:i < xs.length
  ·rw [List.getElem?_append_left hi] at hx
   exact ⟨(hobv.ft (inx i x hx g hg)).1,r4 i x hx g hg⟩
  ·rw [List.getElem?_append_right (by omega)] at hx
   have h:=inu _ x hx g hg;exact ⟨(hobq.ft h).1,fun h'=>dis1 g (foot_blk h') h⟩
 have outv':∀ (i:Nat) (x:Value),(xs++us)[i]?=some x->∀ g,blk x=some g->blk v'≠some g:=fun i x hx g hg h=>by
  obtain ⟨h1,h2⟩:=outv i x hx g hg;rcases q7 g h with h3 | h3
  ·omega
  ·exact h2 h3
 let G':Lim:=fun b=>if blk v'=some b then ls.length+ms.length else G b
 have hcell:∀ b i u,Cell w G b i u->Cell w' G' b i u:=fun b i u h=>by
  by_cases hb':blk v=some b
  ·have hG:G b=ls.length:=(r5 b hb').2
   have h2:=h.2;rw [hG] at h2;refine ⟨(q6 b i hb' (by rw [Nat.mul_one];exact h2)).trans h.1,?_⟩;show i < if blk v'=some b then ls.length+ms.length else G b
   split
   ·omega
   ·rw [hG];exact h2
  ·refine ⟨(World.cell?_of_block (a:=⟨b,i,none⟩) (q5 b h.lt hb')).trans h.1,?_⟩
   have:blk v'≠some b:=fun e=>by
    rcases q7 b e with h' | h'
    ·have:=h.lt;omega
    ·exact hb' h'
   show i < if blk v'=some b then ls.length+ms.length else G b
   rw [if_neg this];exact h.2
 have hmv:∀ {x:Value} {n:Nat} {ys:List Value},(∀ g,blk x=some g->g < w.heap.size/\blk v≠some g)->w.ownsRow 0 e' sz x n ys->w'.ownsRow 0 e' sz x n ys:=fun hx h1=>by
  refine ⟨h1.1,?_⟩;rcases h1.2 with h | ⟨g,cap,cur,hvv,z1,z2,z3⟩
  ·exact .inl h
  ·have:=hx g (by rw [hvv];rfl)
   exact .inr ⟨g,cap,cur,hvv,z1,by rw [q5 g this.1 this.2];exact z2,z3⟩
 refine ⟨put_defers ..,setν ν fr v',G',I.newL h100 hf hd (k0.toList++[q]) (o:=.nest e e' sz (ls++ms)) (fun k=>?_) q1 q2 q3 q4 (fun b hb hnk=>?_) hcell (x:=v') (fun g hg=>?_) ?_ ?_⟩
 ·cases k0 with
  | none=>
    simp only [appWN,look,Option.toList_none,List.nil_append,List.mem_singleton];by_cases h1:fr=k
    ·rw [if_pos h1,if_pos h1.symm]
    ·rw [if_neg h1,if_neg (Ne.symm h1)]
     by_cases h2:q=k
     ·rw [if_pos h2,if_pos h2.symm]
     ·rw [if_neg h2,if_neg (Ne.symm h2)]
  | some j=>
    simp only [appWN,look,Option.toList_some,List.cons_append,List.nil_append,List.mem_cons,List.not_mem_nil,or_false];by_cases h1:fr=k
    ·rw [if_pos h1,if_pos h1.symm]
    ·rw [if_neg h1,if_neg (Ne.symm h1)]
     by_cases h2:j=k
     ·rw [if_pos h2,if_pos (.inl h2.symm)]
     ·rw [if_neg h2]
      by_cases h3:q=k
      ·rw [if_pos h3,if_pos (.inr h3.symm)]
      ·rw [if_neg h3,if_neg (by rintro (h | h);exact h2 h.symm;exact h3 h.symm)]
 ·have hnv:blk v≠some b:=fun e=>by
   cases k0 with
   | none=>rw [hk0n rfl] at e;cases e
   | some j=>
     obtain ⟨h1,h2⟩:=hk0 j rfl;exact hnk j (by simp) _ h2 (foot_blk (by rw [h1];exact e))
  refine ⟨q5 b hb hnv,if_neg (fun e=>?_)⟩;rcases q7 b e with h | h
  ·omega
  ·exact hnv h
 ·rcases hg with hg | ⟨g0,i,x,a1,a2,a3,a4⟩
  ·rcases q7 g hg with h | h
   ·exact .inl h
   ·cases k0 with
    | none=>rw [hk0n rfl] at h;cases h
    | some j=>
      obtain ⟨h1,h2⟩:=hk0 j rfl;exact .inr ⟨j,by simp,_,h2,foot_blk (by rw [h1];exact h)⟩
  ·right
   rw [outer_cell p1 a1 (by rw [List.length_append] at a2;exact a2)] at a3;by_cases hi:i < xs.length
   ·rw [List.getElem?_append_left hi] at a3
    have h:=inx i x a3 g a4;cases k0 with
    | none=>
      have hl:=hi;rcases r1.2 with ⟨_,h0⟩ | ⟨g0,cap,cur,hv,_⟩
      ·omega
      ·have:=hk0n rfl;rw [hv] at this;cases this
    | some j=>
      obtain ⟨h1,h2⟩:=hk0 j rfl;exact ⟨j,by simp,_,h2,by rw [h1];exact h⟩
   ·rw [List.getElem?_append_right (by omega)] at a3
    exact ⟨q,by simp,_,hHH q _ hq,inu _ x a3 g a4⟩
 ·refine ⟨xs++us,by rw [setν_same,List.length_append];exact p1,fun i x p hx hp=>?_,fun i j x y hij hx hy g hg=>?_,fun i x hx g hg=>by rw [setν_same];exact outv' i x hx g hg,fun g hg=>?_⟩
  ·have hG0:∀ g,blk x=some g->G' g=G g:=fun g hg=>if_neg (outv' i x hx g hg)
   have ho:=outv i x hx;by_cases hi:i < xs.length
   ·rw [List.getElem?_append_left hi] at hx
    rw [List.getElem?_append_left (by omega)] at hp;obtain ⟨ys,y1,y2,y3,y4⟩:=r2 i x p hx hp;exact ⟨ys,hmv ho y1,y2,fun i u t hu ht=>(y3 i u t hu ht).mono hcell,fun g hg=>by rw [hG0 g hg];exact y4 g hg⟩
   ·rw [List.getElem?_append_right (by omega)] at hx
    rw [List.getElem?_append_right (by omega)] at hp;obtain ⟨ys,y1,y2,y3,y4⟩:=u2 _ x p hx (by rw [hxl];exact hp);exact ⟨ys,hmv ho y1,y2,fun i u t hu ht=>(y3 i u t hu ht).mono hcell,fun g hg=>by rw [hG0 g hg];exact y4 g hg⟩
  ·by_cases hi:i < xs.length
   ·rw [List.getElem?_append_left hi] at hx
    by_cases hj:j < xs.length
    ·rw [List.getElem?_append_left hj] at hy
     exact r3 i j x y hij hx hy g hg
    ·rw [List.getElem?_append_right (by omega)] at hy
     exact fun hg'=>dis1 g (inx i x hx g hg) (inu _ y hy g hg')
   ·rw [List.getElem?_append_right (by omega)] at hx
    by_cases hj:j < xs.length
    ·rw [List.getElem?_append_left hj] at hy
     exact fun hg'=>dis1 g (inx j y hy g hg') (inu _ x hx g hg)
    ·rw [List.getElem?_append_right (by omega)] at hy
     exact u3 _ _ x y (by omega) hx hy g hg
  ·rw [setν_same] at hg
   refine ⟨?_,by show (if blk v'=some g then _ else _)=_;rw [if_pos hg,List.length_append]⟩;rcases q7 g hg with h | h
   ·exact .inl (Nat.le_trans I.kept.size h)
   ·exact (r5 g h).1
 ·have hk':(σ₁.upd o.dst .any (appWN k0 q fr (.nest e e' sz (ls++ms))) fr).nm fr=true:=upd_nm_fr ..
  have:DR (setν ν fr v') (σ₁.upd o.dst .any (appWN k0 q fr (.nest e e' sz (ls++ms))) fr).nm w' G' (setν ν fr v' fr) (.own fr):=.own hk' (by rw [setν_same];exact ownsRow_one p1);rw [setν_same] at this;exact this
theorem ok_litN {t e e':TypeId} {sz n q:Nat} {zv:Value} {ts:List Tree} {x:Operand} (hB:LitT P t e 1 1 [zv]) (ho:o.op = .buildSlice t 1 #[(0,x)]) (hx:σ.ev x=some (.own q)) (hq:σ.H q=some (.row e' sz n ts false)):
    OpOk P o σ fr (.own fr) [(fr,some (.nest e e' sz [(n,ts)])),(q,none)]:=by
 intro E σ₁ a w hT hHH h100 hf' hd ⟨ν,G,I⟩ Q;have hvx:=I.ev (St.ev_le hT hx);obtain ⟨vx,hex⟩:∃ v,a.eval x=v:=⟨_,rfl⟩
 rw [hex] at hvx;cases hvx with
 | own hkq h1q=>
 have hobq:=(I.H q _ (hHH q _ hq)).2;obtain ⟨ys,y1,y2,y3,y4⟩:=id hobq;have hfill:Instr.fill (fun i=>some (i * 1,1)) [zv].toArray [(0,ν q)]=some #[ν q]:=by
  simp [Instr.fill,cells_one h1q]
 have hr:=hB.run w (#[(0,x)].map fun (i,x)=>(i,a.eval x)) #[ν q] (by simpa [hex] using hfill);unfold Oper.wp;have he:(execOp a.eval o).run P w = .ok (.value (.slice (some ⟨w.heap.size,0,none⟩) 1 1)) (w.alloc (.cells #[ν q] e)):=by
  unfold execOp;rw [ho];simp at hr;simp [hr]
 rw [he,Oper.upon_value];obtain ⟨w',hw'⟩:∃ w',w.alloc (.cells #[ν q] e)=w':=⟨_,rfl⟩
 have hA:Aft w w':=hw' ▸ (Aft.refl w).alloc _;have hnew:w'.heap[w.heap.size]?=some (.cells #[ν q] e):=by rw [← hw'];exact heap_alloc_new w _
 rw [hw']
 let G':Lim:=fun b=>if b=w.heap.size then 1 else G b
 have hG:∀ b,b < w.heap.size->G' b=G b:=fun b hb=>if_neg (by omega)
 have hcell:∀ b i u,Cell w G b i u->Cell w' G' b i u:=fun b i u h=>h.aft hA hG
 have hlt:∀ g,blk (ν q)=some g->g < w.heap.size:=fun g hg=>hobq.blk_lt hg
 have hown:w'.ownsRow 0 e 1 (.slice (some ⟨w.heap.size,0,none⟩) 1 1) 1 [ν q]:=⟨rfl,.inr ⟨w.heap.size,1,#[ν q],rfl,Nat.zero_le _,hnew,Nat.le_refl _,hB.ml,rfl,rfl⟩⟩;refine ⟨put_defers ..,setν ν fr (.slice (some ⟨w.heap.size,0,none⟩) 1 1),G',I.newL h100 hf' hd [q] (o:=.nest e e' sz [(n,ts)]) (fun k=>?_) hA.os hA.tape hA.output hA.size (fun b hb _=>⟨hA.block b hb,hG b hb⟩) hcell (x:=.slice (some ⟨w.heap.size,0,none⟩) 1 1) (fun g hg=>?_) ?_ ?_⟩
 ·simp only [look,List.mem_singleton]
  by_cases h1:fr=k
  ·rw [if_pos h1,if_pos h1.symm]
  ·rw [if_neg h1,if_neg (Ne.symm h1)]
   by_cases h2:q=k
   ·rw [if_pos h2,if_pos h2.symm]
   ·rw [if_neg h2,if_neg (Ne.symm h2)]
 ·rcases hg with hg | ⟨g0,i,x,a1,a2,a3,a4⟩
  ·cases hg;exact .inl (Nat.le_refl _)
  ·rw [outer_cell hown a1 a2] at a3
   have hi:i=0:=by simp at a2;exact a2
   subst hi;simp at a3;subst a3;exact .inr ⟨q,by simp,_,hHH q _ hq,a4⟩
 ·rw [ObjOk]
  refine ⟨[ν q],by rw [setν_same];exact hown,fun i x p hx hp=>?_,fun i j x y hij hx hy=>?_,fun i x hx g hg=>?_,fun g hg=>?_⟩
  ·have hi:i=0:=by have:=(List.getElem?_eq_some_iff.1 hx).1;simp at this;exact this
   subst hi;simp at hx hp;subst hx hp;refine ⟨ys,⟨y1.1,?_⟩,y2,fun i u t hu ht=>(y3 i u t hu ht).mono hcell,fun g hg=>⟨(y4 g hg).1,by rw [hG g (hlt g hg)];simpa using (y4 g hg).2⟩⟩;rcases y1.2 with h | ⟨g,cap,cur,hvv,z1,z2,z3⟩
   ·exact .inl h
   ·exact .inr ⟨g,cap,cur,hvv,z1,by rw [hA.block g (hlt g (by rw [hvv];rfl))];exact z2,z3⟩
  ·have:=(List.getElem?_eq_some_iff.1 hx).1
   have:=(List.getElem?_eq_some_iff.1 hy).1;simp at *
   omega
  ·have hi:i=0:=by have:=(List.getElem?_eq_some_iff.1 hx).1;simp at this;exact this
   subst hi;simp at hx;subst hx;rw [setν_same];intro h;cases h;exact absurd (hlt _ hg) (Nat.lt_irrefl _)
  ·rw [setν_same] at hg
   cases hg;exact ⟨.inl I.kept.size,if_pos rfl⟩
 ·have:DR (setν ν fr (.slice (some ⟨w.heap.size,0,none⟩) 1 1)) (σ₁.upd o.dst .any [(fr,some (.nest e e' sz [(n,ts)])),(q,none)] fr).nm w' G' (setν ν fr (.slice (some ⟨w.heap.size,0,none⟩) 1 1) fr) (.own fr):=.own (upd_nm_fr ..) (by rw [setν_same];rfl)
  rw [setν_same] at this;exact this
end
end Go.Ab
/- The abstract machine: maps whose keys are numbers, words or truths; variables that are written no more. -/
namespace Go.Ab
open Go.RowKit
theorem mp_of {ν:Nat->Value} {nm:Nat->Bool} {w:World} {G:Lim} {v:Value} {k:Nat} (h:DR ν nm w G v (.own k)):v=ν k/\nm k=true:=by
 cases h with | own hk h1=>exact ⟨rfl,hk⟩
theorem findNow_first {d:TypeDesc} {k:Value} (hk:MapKept.IsKey d k):∀ (l:List MapEntry) (i j:Nat) (e:MapEntry),(∀ x ∈ l,MapKept.IsKey d x.key)->l[j]?=some e->e.key=k->(∀ (m:Nat) (e':MapEntry),m < j->l[m]?=some e'->e'.key≠k)->Instr.findNow d k l i=some (some (i+j,e.val))
 | [],_,_,_,_,h,_,_=>by simp at h
 | x::l,i,0,e,hks,h,he,_=>by
   simp at h;subst h;obtain ⟨r,hr,hiff⟩:=MapKept.sameNow_of_keys hk (hks x (.head _));have:r=true:=hiff.2 he.symm;subst this;simp [Instr.findNow,hr]
 | x::l,i,j+1,e,hks,h,he,hm=>by
   obtain ⟨r,hr,hiff⟩:=MapKept.sameNow_of_keys hk (hks x (.head _));have:r=false:=by
    cases r with
    | false=>rfl
    | true=>exact absurd (hiff.1 rfl).symm (hm 0 x (by omega) rfl)
   subst this;simp only [Instr.findNow,hr];rw [findNow_first hk l (i+1) j e (fun y hy=>hks y (.tail _ hy)) (by simpa using h) he (fun m e' h1 h2=>hm (m+1) e' (by omega) (by simpa using h2)),Nat.add_assoc,Nat.add_comm 1 j]
theorem findNow_none {d:TypeDesc} {k:Value} (hk:MapKept.IsKey d k) {l:List MapEntry} (hks:∀ x ∈ l,MapKept.IsKey d x.key) (h:∀ x ∈ l,x.key≠k):Instr.findNow d k l 0=some none:=by
 rcases MapKept.findNow_spec hk l 0 hks with ⟨h1,_⟩ | ⟨j,e,_,h2,h3⟩
 ·exact h1
 ·exact absurd h3 (h e (List.mem_of_getElem? h2))
section
variable {P:Program} {o:Oper} {σ:St} {fr:Nat}
theorem ok_mkmap {t:TypeId} (ho:o.op = .makeMap t none):OpOk P o σ fr (.own fr) [(fr,some (.mp []))]:=by
 intro E σ₁ a w hT hH h100 hf hd ⟨ν,G,I⟩ Q;unfold Oper.wp;have hr:(execOp a.eval o).run P w = .ok (.value (.map (some w.heap.size))) (w.alloc (.map #[] 0)):=by
  unfold execOp;rw [ho];rfl
 rw [hr,Oper.upon_value];have hA:Aft w (w.alloc (.map #[] 0)):=(Aft.refl w).alloc _;refine ⟨put_defers ..,_,_,I.fresh (G':=fun b=>if b=w.heap.size then 0 else G b) h100 hf hd hA (fun b hb=>if_neg (by omega)) (x:=.map (some w.heap.size)) (fun g hg=>by cases hg;exact Nat.le_refl _) ?_ ?_⟩
 ·exact ⟨w.heap.size,#[],0,setν_same,.inl I.kept.size,heap_alloc_new w _,if_pos rfl,⟨fun x hx=>by simp at hx,by simp⟩,rfl,fun i en p h=>by simp at h⟩
 ·have:DR (setν ν fr (.map (some w.heap.size))) (σ₁.upd o.dst .any [(fr,some (.mp []))] fr).nm (w.alloc (.map #[] 0)) (fun b=>if b=w.heap.size then 0 else G b) (setν ν fr (.map (some w.heap.size)) fr) (.own fr):=.own (upd_nm_fr ..) (by rw [setν_same];rfl)
  rw [setν_same] at this;exact this
theorem keys_of {ν:Nat->Value} {nm:Nat->Bool} {w:World} {G:Lim} {l:List (Value×D)} {d:TypeDesc} (hks:∀ p ∈ l,MapKept.IsKey d p.1) {es:Array MapEntry} (hl:es.size=l.length) (h:∀ (i:Nat) (en:MapEntry) (p:Value×D),es[i]?=some en->l[i]?=some p->en.key=p.1/\DR ν nm w G en.val p.2):
    ∀ x ∈ es.toList,∃ (i:Nat) (p:Value×D),es[i]?=some x/\l[i]?=some p/\x.key=p.1/\MapKept.IsKey d x.key:=fun x hx=>by
 obtain ⟨i,hi⟩:=List.mem_iff_getElem?.1 hx;have hi':es[i]?=some x:=by simpa using hi
 have hlt:i < l.length:=by rw [← hl];exact (Array.getElem?_eq_some_iff.1 hi').1
 have hp:l[i]?=some l[i]:=List.getElem?_eq_getElem hlt;have h1:=(h i x _ hi' hp).1;exact ⟨i,_,hi',hp,h1,by rw [h1];exact hks _ (List.getElem_mem hlt)⟩
theorem stm_push {es:Array MapEntry} {clock:Nat} (h:Stm es clock) (k v:Value):Stm (es.push { key:=k,val:=v,born:=clock }) (clock+1):=by
 refine ⟨fun x hx=>?_,?_⟩
 ·simp at hx
  rcases hx with hx | rfl
  ·have:=h.1 x (by simpa using hx);omega
  ·exact Nat.lt_succ_self _
 ·simp only [Array.toList_push,List.map_append,List.map_cons,List.map_nil]
  rw [List.nodup_append];refine ⟨h.2,by simp,fun a ha b hb e=>?_⟩;obtain ⟨x,hx,rfl⟩:=List.mem_map.1 ha;have:=h.1 x hx;rw [List.mem_singleton.1 hb] at e;omega
theorem ok_mput {t kt et:TypeId} {d:TypeDesc} {x y z:Operand} {q:Nat} {l:List (Value×D)} {kv:Value} {dv:D} (hu:P.underlying t=some (.map kt et)) (hd':P.underlying kt=some d) (ho:o.op = .insert t x y z) (hx:σ.ev x=some (.own q)) (hq:σ.H q=some (.mp l))
    (hy:σ.ev y=some (.t (.v kv))) (hk:MapKept.IsKey d kv) (hks:∀ p ∈ l,MapKept.IsKey d p.1) (hnew:∀ p ∈ l,p.1≠kv) (hz:σ.ev z=some dv):OpOk P o σ fr (.tup []) [(q,some (.mp (l++[(kv,dv)])))]:=by
 intro E σ₁ a w hT hH h100 hf hd ⟨ν,G,I⟩ Q;obtain ⟨hvx,hnq⟩:=mp_of (I.ev (St.ev_le hT hx));have hvy:=bool_of (I.ev (St.ev_le hT hy));have hvz:=I.ev (St.ev_le hT hz);have hob:=(I.H q _ (hH q _ hq)).2;obtain ⟨g,es,clock,h1,h2,h3,h4,hs,h5,h6⟩:=id hob;have hkeys:=keys_of hks h5 h6;have hnone:Instr.findNow d kv es.toList 0=some none:=findNow_none hk (fun x hx=>let ⟨_,_,_,_,_,h⟩:=hkeys x hx;h) fun x hx=>by
  obtain ⟨i,p,_,e2,e3,_⟩:=hkeys x hx;rw [e3];exact hnew p (List.mem_of_getElem? e2)
 obtain ⟨w',hw'⟩:∃ w':World,{ w with heap:=w.heap.setIfInBounds g (.map (es.push { key:=kv,val:=a.eval z,born:=clock }) (clock+1)) }=w':=⟨_,rfl⟩
 unfold Oper.wp;have he:(execOp a.eval o).run P w = .ok .skip w':=by
  unfold execOp;rw [ho];simp [hvx,h1,hvy,Instr.mapUpdate,run_underlying hu,MapKept.run_getObj_map h3,MapKept.run_checkKey hd' hk,MapKept.run_findKey hd' hnone,MapKept.run_setObj_map _ h3,Result.andThen,hw']
 rw [he,Oper.upon_skip];have hnew':w'.heap[g]?=some (.map (es.push { key:=kv,val:=a.eval z,born:=clock }) (clock+1)):=by rw [← hw'];exact (MapKept.heap_set h3).1
 have hold:∀ b,b≠g->w'.heap[b]?=w.heap[b]?:=fun b hb=>by rw [← hw'];exact (MapKept.heap_set h3).2 b hb
 have hsz:w'.heap.size=w.heap.size:=by rw [← hw'];simp
 have hos:w'.os=w.os/\w'.tape=w.tape/\w'.output=w.output:=by rw [← hw'];exact ⟨rfl,rfl,rfl⟩
 have hgq:blk (ν q)=some g:=by rw [h1];rfl
 have hcell:∀ b i u,Cell w G b i u->Cell w' G b i u:=fun b i u h=>by
  have hne:b≠g:=fun e=>by have:=h.2;rw [e,h4] at this;omega
  exact ⟨(World.cell?_of_block (a:=⟨b,i,none⟩) (hold b hne)).trans h.1,h.2⟩
 have hnm:∀ j,σ₁.nm j=true->(σ₁.upd o.dst (.tup []) [(q,some (.mp (l++[(kv,dv)])))] fr).nm j=true/\ν j=ν j:=fun j hj=>⟨by simp [St.upd,hj],rfl⟩
 have hft:∀ j oj,σ₁.H j=some oj->j≠q->∀ g',foot w' (ν j) oj g' ↔ foot w (ν j) oj g':=fun m om hm hne g'=>foot_of fun b hb=>hold b fun e=>by
  subst e;exact I.dis m om q _ hm (hH q _ hq) hne b (foot_blk hb) (foot_blk hgq)
 refine ⟨put_defers ..,ν,G,⟨hos.1.trans I.kept.os,hos.2.1.trans I.kept.tape,hos.2.2.trans I.kept.output,by rw [hsz];exact I.kept.size,fun b hb hX=>?_⟩,fun b i u h=>hcell b i u (I.keep b i u h),I.pin,I.g0,?_,fun t' d' h=>?_,fun m om h=>?_,fun j1 o1 j2 o2 h1' h2' hne=>?_⟩
 ·refine (hold b (fun e=>?_)).trans (I.kept.block b hb hX)
  subst e;rcases h2 with h | h
  ·omega
  ·exact hX h
 ·cases o.dst <;> simp [Act.put,I.sz]
 ·simp only [St.upd] at h
  split at h
  ·rename_i he'
   cases h;have:=hd t' he';exact ⟨undef,by simp [he',Act.put,I.sz,this],undef_rel⟩
  ·rename_i he'
   obtain ⟨u,hu,hdu⟩:=I.T t' d' h;refine ⟨u,?_,hdu.mono hnm hcell⟩;cases hds:o.dst with
   | none=>simpa [Act.put] using hu
   | some t''=>
     have hne:t''≠t':=fun e=>he' (by rw [hds,e])
     simp only [Act.put];rw [Array.getElem?_setIfInBounds_ne hne];exact hu
 ·by_cases hm:m=q
  ·subst hm
   simp [St.upd,look] at h;subst h;refine ⟨(hnm m hnq).1,g,_,_,h1,h2,hnew',h4,stm_push hs _ _,by simp [h5],fun i en p he hp=>?_⟩;by_cases hi:i < l.length
   ·rw [Array.getElem?_push_lt (by omega)] at he
    rw [List.getElem?_append_left hi] at hp;obtain ⟨a1,a2⟩:=h6 i en p (by rw [Array.getElem?_eq_getElem (by omega)];exact he) hp;exact ⟨a1,a2.mono hnm hcell⟩
   ·have hi':i=l.length:=by have:=(List.getElem?_eq_some_iff.1 hp).1;simp at this;omega
    subst hi';rw [← h5,Array.getElem?_push_size] at he;simp at hp he;subst hp he;exact ⟨rfl,hvz.mono hnm hcell⟩
  ·have h':σ₁.H m=some om:=by simpa [St.upd,look,Ne.symm hm] using h
   obtain ⟨e1,e2⟩:=I.H m om h';refine ⟨(hnm m e1).1,e2.mono e1 hnm hcell (fun g' hg'=>⟨hold g' (fun e=>?_),rfl⟩)⟩;subst e;exact I.dis m om q _ h' (hH q _ hq) hm g' hg' (foot_blk hgq)
 ·have back:∀ j oj,(σ₁.upd o.dst (.tup []) [(q,some (.mp (l++[(kv,dv)])))] fr).H j=some oj->∃ oj',σ₁.H j=some oj'/\∀ g',foot w' (ν j) oj g'->foot w (ν j) oj' g':=fun m om h=>by
   by_cases hm:m=q
   ·subst hm
    simp [St.upd,look] at h;subst h;exact ⟨_,hH m _ hq,fun g' hg'=>hg'⟩
   ·have h':σ₁.H m=some om:=by simpa [St.upd,look,Ne.symm hm] using h
    exact ⟨om,h',fun g' hg'=>(hft m om h' hm g').1 hg'⟩
  obtain ⟨o1',e1,f1⟩:=back j1 o1 h1';obtain ⟨o2',e2,f2⟩:=back j2 o2 h2';exact fun g' hg1 hg2=>I.dis j1 o1' j2 o2' e1 e2 hne g' (f1 g' hg1) (f2 g' hg2)
def okD (ok:Bool) (d:D) (b:Bool):D:=if ok then .tup [d,.t (.v (.bool b))] else d
theorem okD_rel {ν:Nat->Value} {nm:Nat->Bool} {w:World} {G:Lim} {v:Value} {d:D} {ok b:Bool} (h:DR ν nm w G v d):DR ν nm w G (if ok then .tuple #[v,.bool b] else v) (okD ok d b):=by
 cases ok with
 | false=>exact h
 | true=>exact tup2 h (.t (.v _ rfl))
theorem ok_mget {t kt et:TypeId} {d:TypeDesc} {x y:Operand} {ok:Bool} {q j:Nat} {l:List (Value×D)} {kv:Value} {dv:D} (hu:P.underlying t=some (.map kt et)) (hd':P.underlying kt=some d) (ho:o.op = .lookup t x y ok) (hx:σ.ev x=some (.own q)) (hq:σ.H q=some (.mp l))
    (hy:σ.ev y=some (.t (.v kv))) (hk:MapKept.IsKey d kv) (hks:∀ p ∈ l,MapKept.IsKey d p.1) (hj:l[j]?=some (kv,dv)) (hb:∀ (m:Nat) (p:Value×D),m < j->l[m]?=some p->p.1≠kv):OpOk P o σ fr (okD ok dv true) []:=
 ok_pure fun E σ₁ ν G w a hH I hev=>by
  obtain ⟨hvx,hnq⟩:=mp_of (hev x _ hx);have hvy:=bool_of (hev y _ hy);obtain ⟨g,es,clock,h1,h2,h3,h4,_,h5,h6⟩:=(I.H q _ (hH q _ hq)).2;have hkeys:=keys_of hks h5 h6;have hjl:j < es.size:=by rw [h5];exact (List.getElem?_eq_some_iff.1 hj).1
  have hej:es[j]?=some es[j]:=Array.getElem?_eq_getElem hjl;obtain ⟨e1,e2⟩:=h6 j _ _ hej hj;have hf:=findNow_first hk es.toList 0 j es[j] (fun x hx=>let ⟨_,_,_,_,_,h⟩:=hkeys x hx;h) (by simp) e1 (fun m e' hm he'=>by
   have he'':es[m]?=some e':=by simpa using he'
   have hml:m < l.length:=by rw [← h5];exact (Array.getElem?_eq_some_iff.1 he'').1
   rw [(h6 m e' _ he'' (List.getElem?_eq_getElem hml)).1];exact hb m _ hm (List.getElem?_eq_getElem hml))
  refine ⟨_,?_,okD_rel e2⟩;unfold execOp;rw [ho];cases ok <;> simp [hvx,h1,hvy,Instr.lookup,run_underlying hu,MapKept.run_getObj_map h3,MapKept.run_checkKey hd' hk,MapKept.run_findKey hd' hf,Result.andThen]
theorem ok_mget0 {t kt et:TypeId} {d:TypeDesc} {x y:Operand} {ok:Bool} {q:Nat} {l:List (Value×D)} {kv z:Value} (hu:P.underlying t=some (.map kt et)) (hd':P.underlying kt=some d) (ho:o.op = .lookup t x y ok) (hx:σ.ev x=some (.own q)) (hq:σ.H q=some (.mp l))
    (hy:σ.ev y=some (.t (.v kv))) (hk:MapKept.IsKey d kv) (hks:∀ p ∈ l,MapKept.IsKey d p.1) (hb:∀ p ∈ l,p.1≠kv) (hz:(P.info? et).bind (·.zero)=some z) (hz1:constOk z=true):OpOk P o σ fr (okD ok (ofVal z) false) []:=
 ok_pure fun E σ₁ ν G w a hH I hev=>by
  obtain ⟨hvx,hnq⟩:=mp_of (hev x _ hx);have hvy:=bool_of (hev y _ hy);obtain ⟨g,es,clock,h1,h2,h3,h4,_,h5,h6⟩:=(I.H q _ (hH q _ hq)).2;have hkeys:=keys_of hks h5 h6;have hnone:Instr.findNow d kv es.toList 0=some none:=findNow_none hk (fun x hx=>let ⟨_,_,_,_,_,h⟩:=hkeys x hx;h) fun x hx=>by
   obtain ⟨i,p,_,e2,e3,_⟩:=hkeys x hx;rw [e3];exact hb p (List.mem_of_getElem? e2)
  obtain ⟨i,hi,hz'⟩:=Option.bind_eq_some_iff.1 hz;refine ⟨_,?_,okD_rel (ofVal_rel hz1)⟩;unfold execOp;rw [ho];cases ok <;> simp [hvx,h1,hvy,Instr.lookup,run_underlying hu,MapKept.run_getObj_map h3,MapKept.run_checkKey hd' hk,MapKept.run_findKey hd' hnone,Result.andThen,zeroValue,typeInfo,hi,hz']
theorem ok_slcA {t e:TypeId} {x:Operand} {n s:Nat} {ts:List Tree} (hu:P.underlying t=some (.array n e)) (hs:(P.info? e).map (·.size)=some s) (ho:o.op = .slice t x none none none) (hx:σ.ev x=some (.ptr ts 0)):OpOk P o σ fr (.t (.sl n ts)) []:=
 ok_pure fun E σ₁ ν G w a hH I hev=>by
  obtain ⟨b,q,us,hv,hl,hcu,htr⟩:=ptr_of (hev x _ hx);obtain ⟨inf,hinf,hsz⟩:=Option.map_eq_some_iff.1 hs;refine ⟨.slice (some ⟨b,q,none⟩) n n,?_,.t (.sl b q n n us ts hl hcu (Nat.le_refl _) htr)⟩;unfold execOp;rw [ho];simp [hv,Instr.sliceAt,run_underlying hu,Instr.sureAddr,Instr.sliceBounds,sizeOf,typeInfo,hinf,Addr.add_mid]
end
theorem ent_freeze {E:Env} {T:Nat->Option D} {H:Nat->Option AObj} {N:Nat} (t k:Nat) {e:TypeId} {ds:List D} {ts:List Tree} (ht:T t=some (.ref k 0)) (hk:H k=some (.box e ds)) (hl:ds.length=ts.length)
    (hw:∀ (i:Nat) (tr:Tree),ts[i]?=some tr->∃ d,ds[i]?=some d/\DWk H d (.t tr)):Ent E (mk T H N) (mk (fun x=>if t=x then some (.ptr ts 0) else T x) (fun j=>if k=j then none else H j) N):=by
 refine ent_of_act fun a w ⟨ν,G,I⟩=>?_
 obtain ⟨hn,g,cur,h1,h2,h3,h4,h5,h6⟩:=I.H k _ hk;have hg:blk (ν k)=some g:=by rw [h1];rfl
 let G':Lim:=fun b=>if b=g then ts.length else G b
 have hcell:∀ b i u,Cell w G b i u->Cell w G' b i u:=fun b i u h=>by
  have hne:b≠g:=fun e=>by have:=h.2;rw [e,h4] at this;omega
  exact ⟨h.1,by show i < if b=g then _ else _;rw [if_neg hne];exact h.2⟩
 refine ⟨ν,G',I.kept,fun b i u h=>hcell b i u (I.keep b i u h),I.pin,fun b hb hX=>?_,I.sz,fun t' d h=>?_,fun j oj h=>?_,fun j1 o1 j2 o2 e1 e2 hne=>?_⟩
 ·have hne:b≠g:=fun e=>by
   subst e;rcases h2 with h | h
   ·omega
   ·exact hX h
  show (if b=g then _ else _)=_;rw [if_neg hne];exact I.g0 b hb hX
 ·by_cases htt:t=t'
  ·subst htt
   simp only [if_true,Option.some.injEq] at h;subst h;obtain ⟨v,hv,hd⟩:=I.T t _ ht;obtain ⟨g',hg',hv',_⟩:=ref_of hd;rw [hg] at hg';cases hg';refine ⟨v,hv,?_⟩;rw [hv'];have:=DR.ptr (ν:=ν) (nm:=(mk T H N).nm) (w:=w) (G:=G') (b:=g) (o:=0) (off:=0) (us:=cur.toList) (ts:=ts) (by rw [Array.length_toList,h5,hl]) (fun i u hu=>?_) (fun i u tr hu htr=>?_)
   ·simpa using this
   ·have hu':cur[i]?=some u:=by simpa using hu
    have hi:i < ts.length:=by rw [← hl,← h5];exact (Array.getElem?_eq_some_iff.1 hu').1
    exact ⟨by rw [Nat.zero_add,cell_of_row' h3];exact hu',by show _ < if g=g then _ else _;rw [if_pos rfl];omega⟩
   ·have hu':cur[i]?=some u:=by simpa using hu
    obtain ⟨d,hd,hwk⟩:=hw i tr htr;have:=hwk E _ ν G w a.tmps (fun _ _ h=>h) I u (h6 i u d hu' hd).1;cases this with | t h=>exact h.mono hcell
  ·simp only [if_neg htt] at h
   obtain ⟨v,hv,hd⟩:=I.T t' d h;exact ⟨v,hv,hd.mono (fun _ h=>⟨h,rfl⟩) hcell⟩
 ·by_cases hj:k=j
  ·simp [if_pos hj] at h
  ·simp only [if_neg hj] at h
   obtain ⟨q1,q2⟩:=I.H j oj h;refine ⟨q1,q2.mono q1 (fun _ h=>⟨h,rfl⟩) hcell (fun g' hg'=>⟨rfl,if_neg (fun e=>?_)⟩)⟩;subst e;exact I.dis j oj k _ h hk (fun e=>hj e.symm) g' hg' (foot_blk hg)
 ·have back:∀ j oj,(if k=j then none else H j)=some oj->H j=some oj:=fun j oj h=>by
   by_cases hj:k=j
   ·rw [if_pos hj] at h;cases h
   ·rw [if_neg hj] at h;exact h
  exact I.dis j1 o1 j2 o2 (back j1 o1 e1) (back j2 o2 e2) hne
end Go.Ab
/- The abstract machine: rows whose elements hold rows of the walk's own. -/
namespace Go.Ab
open Go.RowKit
section
variable {P:Program} {o:Oper} {σ:St} {fr:Nat}
theorem ok_idxT {t:TypeId} {x y:Operand} {q:Nat} {e e':TypeId} {m s n:Nat} {cs:List NC} {k:IntKind} {j:Int} (hs:elemSz P t=some m) (ho:o.op = .indexAddr t x y) (hx:σ.ev x=some (.own q)) (hq:σ.H q=some (.nst e e' m s n cs)) (hy:σ.ev y=some (.t (.v (.int k j)))) (h0:0<=j) (hn:j < n):
    OpOk P o σ fr (.ref q (j.toNat * m)) []:=
 ok_pure fun E σ₁ ν G w a hH I hev=>by
  have hv:=hev x _ hx;have hj:=bool_of (hev y _ hy);obtain ⟨v,he⟩:∃ v,a.eval x=v:=⟨_,rfl⟩
  rw [he] at hv;cases hv with
  | own hk h1=>
    obtain ⟨xs,r1,_⟩:=(I.H q _ (hH q _ hq)).2;rcases r1.2 with ⟨_,hz⟩ | ⟨g,cap,cur,hvv,_⟩
    ·omega
    ·refine ⟨.pointer (some ⟨g,j.toNat * m,none⟩),?_,.ref hk (by rw [hvv];rfl)⟩
     unfold execOp;rw [ho];have:=run_indexSl hs w g 0 n cap k j h0 hn;rw [Nat.zero_add] at this;simp [he,hj,hvv,this]
theorem ok_lenT {t:TypeId} {x:Operand} {q:Nat} {e e':TypeId} {m s n:Nat} {cs:List NC} {tys:Array TypeId} {el:TypeId} (hu:P.underlying t=some (.slice el)) (ho:o.op = .call { callee:=.builtin .len,args:=#[x],argTypes:=tys }) (hty:tys = #[t]) (hx:σ.ev x=some (.own q)) (hq:σ.H q=some (.nst e e' m s n cs)):OpOk P o σ fr (I n) []:=by
 intro E σ₁ a w hT hH h100 hf hd ⟨ν,G,I⟩ Q;have hv:=I.ev (St.ev_le hT hx);obtain ⟨v,he⟩:∃ v,a.eval x=v:=⟨_,rfl⟩
 rw [he] at hv;cases hv with
 | own hk h1=>
   obtain ⟨xs,r1,_⟩:=(I.H q _ (hH q _ hq)).2;obtain ⟨ax,c,hvv⟩:∃ ax c,ν q = .slice ax n c:=by
    rcases r1.2 with ⟨hz,h0⟩ | ⟨g,cap,cur,hz,_⟩
    ·exact ⟨_,_,by rw [hz,h0]⟩
    ·exact ⟨_,_,hz⟩
   subst hty;unfold Oper.wp;have he':(execOp a.eval o).run P w = .ok (.value (.int .i64 n)) w:=by
    unfold execOp;rw [ho];simp [resolve,invoke,builtin,he,hvv,Builtin.len_,run_underlying hu,goInt]
   rw [he',Oper.upon_value];exact ⟨put_defers ..,ν,G,I.put (.t (.v _ rfl)) hd fr a rfl⟩
end
def NC.slr:NC->Option Tree
 | .dat (.t t)=>some t
 | .inn q ts=>some (.sl q ts)
 | _=>none
theorem ent_sealT {E:Env} {T:Nat->Option D} {H:Nat->Option AObj} {N:Nat} (k:Nat) {e e':TypeId} {m s n:Nat} {cs:List NC} {ts:List Tree} (hk:H k=some (.nst e e' m s n cs)) (hts:cs.map NC.slr=ts.map some):
    Ent E (mk T H N) (mk T (fun j=>if k=j then some (.row e m n ts false) else H j) N):=by
 refine ent_of_act fun a w ⟨ν,G,I⟩=>?_
 obtain ⟨hn,hob⟩:=I.H k _ hk;obtain ⟨xs,r1,hxl,rd,r2,r3,r4,r5⟩:=id hob;have hlt:cs.length=ts.length:=by have:=congrArg List.length hts;simpa using this
 let G':Lim:=fun b=>open Classical in if h:∃ (i:Nat) (x:Value) (p:Nat×List Tree),xs[i]?=some x/\cs[i]?=some (.inn p.1 p.2)/\blk x=some b then (h.choose_spec.choose_spec.choose).1 * s else G b
 have hG1:∀ (i:Nat) (x:Value) (p:Nat×List Tree) (b:Nat),xs[i]?=some x->cs[i]?=some (.inn p.1 p.2)->blk x=some b->G' b=p.1 * s:=fun i x p b hx hp hb=>by
  have h:∃ (i:Nat) (x:Value) (p:Nat×List Tree),xs[i]?=some x/\cs[i]?=some (.inn p.1 p.2)/\blk x=some b:=⟨i,x,p,hx,hp,hb⟩
  obtain ⟨q1,q2,q3⟩:=h.choose_spec.choose_spec.choose_spec;have:h.choose=i:=by
   by_cases e:h.choose=i
   ·exact e
   ·exact absurd hb (r3 _ _ _ _ _ _ _ _ e q1 hx q2 hp b q3)
  simp only [G',dif_pos h];have q2':cs[i]?=some (.inn h.choose_spec.choose_spec.choose.1 h.choose_spec.choose_spec.choose.2):=by rw [← this];exact q2
  rw [hp] at q2';have:=Option.some.inj q2';simp only [NC.inn.injEq] at this;rw [← this.1]
 have hG0:∀ b,(∀ (i:Nat) (x:Value) (p:Nat×List Tree),xs[i]?=some x->cs[i]?=some (.inn p.1 p.2)->blk x≠some b)->G' b=G b:=fun b hb=>by
  simp only [G'];rw [dif_neg];rintro ⟨i,x,p,h1,h2,h3⟩;exact hb i x p h1 h2 h3
 have hin:∀ (i:Nat) (x:Value) (p:Nat×List Tree) (b:Nat),xs[i]?=some x->cs[i]?=some (.inn p.1 p.2)->blk x=some b->foot w (ν k) (.nst e e' m s n cs) b:=fun i x p b hx hp hb=>by
  have hi:=(List.getElem?_eq_some_iff.1 hx).1;rcases r1.2 with ⟨_,h0⟩ | ⟨g0,cap,cur,hv,_⟩
  ·rw [r1.1,h0] at hi;omega
  ·exact .inr ⟨g0,i,x,p.1,p.2,by rw [hv];rfl,hp,by rw [row_cell r1 (by rw [hv];rfl) hi];exact hx,hb⟩
 have hcell:∀ b i u,Cell w G b i u->Cell w G' b i u:=fun b i u hc=>by
  refine ⟨hc.1,?_⟩;by_cases hb:∃ (i:Nat) (x:Value) (p:Nat×List Tree),xs[i]?=some x/\cs[i]?=some (.inn p.1 p.2)/\blk x=some b
  ·obtain ⟨j,x,p,h1,h2,h3⟩:=hb
   obtain ⟨_,_,_,_,y4⟩:=r2 j x p.1 p.2 h1 h2;have:=hc.2;rw [(y4 b h3).2] at this;omega
  ·rw [hG0 b (fun j x p h1 h2 h3=>hb ⟨j,x,p,h1,h2,h3⟩)];exact hc.2
 refine ⟨ν,G',I.kept,fun b i u hc=>hcell b i u (I.keep b i u hc),I.pin,fun b hb hX=>?_,I.sz,fun t d ht=>?_,fun j o hj=>?_,fun j1 o1 j2 o2 h1 h2 hne=>?_⟩
 ·rw [hG0 b (fun j x p h1 h2 h3=>?_)]
  ·exact I.g0 b hb hX
  ·rcases (hob.ft (hin j x p b h1 h2 h3)).2 with h | h
   ·omega
   ·exact hX h
 ·obtain ⟨v,hv,hdv⟩:=I.T t d ht
  exact ⟨v,hv,hdv.mono (fun _ h=>⟨h,rfl⟩) hcell⟩
 ·by_cases hjk:k=j
  ·subst hjk
   simp only [if_true,Option.some.injEq] at hj;subst hj;refine ⟨hn,xs,r1,by rw [hxl,hlt],fun i u t hu ht=>?_,fun g hg=>⟨(r5 g hg).1,?_⟩⟩
   ·have hi:i < cs.length:=by rw [hlt];exact (List.getElem?_eq_some_iff.1 ht).1
    have hc:cs[i]?=some cs[i]:=List.getElem?_eq_getElem hi;have h1:(cs.map NC.slr)[i]?=(ts.map some)[i]?:=by rw [hts]
    rw [List.getElem?_map,List.getElem?_map,hc,ht] at h1;have h1:NC.slr cs[i]=some t:=Option.some.inj h1;generalize cs[i]=c at hc h1;cases c with
    | dat d=>
      cases d with
      | t t'=>
        cases h1;cases (rd i u _ hu hc).1 with
        | t h=>exact h.mono hcell
      | _=>cases h1
    | inn q l=>
      cases h1;obtain ⟨ys,y1,y2,y3,y4⟩:=r2 i u q l hu hc;exact TR_row y1 y2 hcell y3 fun g hg=>by rw [hG1 i u (q,l) g hu hc hg];exact Nat.le_refl _
   ·rw [hG0 g (fun j x p h1 h2 h3=>r4 j x p.1 p.2 h1 h2 g h3 hg),(r5 g hg).2]
    simp
  ·simp only [if_neg hjk] at hj
   obtain ⟨q1,q2⟩:=I.H j o hj;refine ⟨q1,q2.mono q1 (fun _ h=>⟨h,rfl⟩) hcell (fun g hg=>⟨rfl,hG0 g (fun i x p h1 h2 h3=>?_)⟩)⟩;exact I.dis j o k _ hj hk (fun e=>hjk e.symm) g hg (hin i x p g h1 h2 h3)
 ·have back:∀ j o,(if k=j then some (.row e m n ts false) else H j)=some o->∃ o',H j=some o'/\∀ g,foot w (ν j) o g->foot w (ν j) o' g:=fun j o h=>by
   by_cases hj:k=j
   ·subst hj;simp only [if_true,Option.some.injEq] at h;subst h;exact ⟨_,hk,fun _ h=>.inl h⟩
   ·rw [if_neg hj] at h;exact ⟨o,h,fun _ h=>h⟩
  obtain ⟨p1,hp1,f1⟩:=back j1 o1 h1;obtain ⟨p2,hp2,f2⟩:=back j2 o2 h2;exact fun g hg hg'=>I.dis j1 p1 j2 p2 hp1 hp2 hne g (f1 g hg) (f2 g hg')
end Go.Ab
/- The abstract machine: an inner row is lent out under a name of its own. -/
namespace Go.Ab
open Go.RowKit
theorem ent_lend {E:Env} {T:Nat->Option D} {H:Nat->Option AObj} {N:Nat} (k i:Nat) {e e':TypeId} {m s n q:Nat} {cs:List NC} {ts:List Tree} (hk:H k=some (.nst e e' m s n cs)) (hi:cs[i]?=some (.inn q ts)) (hN:100<=N):
    Ent E (mk T H N) (mk T (fun j=>if N=j then some (.row e' s q ts false) else if k=j then some (.nst e e' m s n (cs.set i (.dat (.own N)))) else H j) (N+8)):=by
 refine ent_of_act fun a w ⟨ν,G,I⟩=>?_
 obtain ⟨hn,hob⟩:=I.H k _ hk;obtain ⟨xs,r1,hxl,rd,r2,r3,r4,r5⟩:=id hob;have hil:i < cs.length:=(List.getElem?_eq_some_iff.1 hi).1;obtain ⟨x,hx⟩:∃ x,xs[i]?=some x:=⟨_,List.getElem?_eq_getElem (by rw [hxl];exact hil)⟩
 obtain ⟨ys,y1,y2,y3,y4⟩:=r2 i x q ts hx hi;have hlt:∀ j,(mk T H N).nm j=true->j < N:=fun j h=>by simpa [mk] using h
 have hnm:∀ j,(mk T H N).nm j=true->decide (j < N+8)=true/\setν ν N x j=ν j:=fun j h=>⟨by have:=hlt j h;simp;omega,by have:=hlt j h;unfold setν;rw [if_neg (by omega)]⟩
 have hkN:k < N:=hlt k hn;have hνN:setν ν N x N=x:=setν_same;have hνk:setν ν N x k=ν k:=(hnm k hn).2;have hinn:∀ g,blk x=some g->foot w (ν k) (.nst e e' m s n cs) g:=fun g hg=>by
  rcases r1.2 with ⟨_,h0⟩ | ⟨g0,cap,cur,hv,_⟩
  ·rw [← hxl,r1.1,h0] at hil;omega
  ·exact .inr ⟨g0,i,x,q,ts,by rw [hv];rfl,hi,by rw [row_cell r1 (by rw [hv];rfl) (by rw [hxl];exact hil)];exact hx,hg⟩
 have hset:∀ (j q':Nat) (ts':List Tree),(cs.set i (.dat (.own N)))[j]?=some (.inn q' ts')->j≠i/\cs[j]?=some (.inn q' ts'):=fun j q' ts' h=>by
  by_cases hj:i=j
  ·subst hj
   rw [List.getElem?_set_self hil] at h;cases h
  ·rw [List.getElem?_set_ne hj] at h
   exact ⟨fun e=>hj e.symm,h⟩
 have hfk:∀ g,foot w (ν k) (.nst e e' m s n (cs.set i (.dat (.own N)))) g->foot w (ν k) (.nst e e' m s n cs) g/\blk x≠some g:=fun g hg=>by
  rcases hg with hg | ⟨g0,j,z,q',ts',h1,h2,h3,h4⟩
  ·exact ⟨.inl hg,fun e=>r4 i x q ts hx hi g e hg⟩
  ·obtain ⟨hj,hc⟩:=hset j q' ts' h2
   refine ⟨.inr ⟨g0,j,z,q',ts',h1,hc,h3,h4⟩,fun e=>?_⟩;have hz:xs[j]?=some z:=by rw [← row_cell r1 h1 (by rw [hxl];exact (List.getElem?_eq_some_iff.1 hc).1)];exact h3
   exact r3 j i z x q' q ts' ts hj hz hx hc hi g h4 e
 have hG:∀ g,blk x=some g->E.may g/\G g=0:=y4
 refine ⟨setν ν N x,G,I.kept,I.keep,fun j h1 h2=>by unfold setν;rw [if_neg (by omega)];exact I.pin j h1 h2,I.g0,I.sz,fun t d ht=>?_,fun j o hj=>?_,fun j1 o1 j2 o2 h1 h2 hne=>?_⟩
 ·obtain ⟨v,hv,hdv⟩:=I.T t d ht
  exact ⟨v,hv,hdv.mono hnm (fun _ _ _ h=>h)⟩
 ·simp only at hj
  by_cases hjN:N=j
  ·subst hjN
   rw [if_pos rfl] at hj;cases hj;refine ⟨by simp,ys,by rw [hνN];exact y1,y2,y3,fun g hg=>?_⟩;rw [hνN] at hg;simpa using hG g hg
  ·rw [if_neg hjN] at hj
   by_cases hjk:k=j
   ·subst hjk
    rw [if_pos rfl] at hj;cases hj;refine ⟨(hnm k hn).1,xs,by rw [hνk];exact r1,by rw [List.length_set];exact hxl,fun p z d hz hc=>?_,fun p z q' ts' hz hc=>r2 p z q' ts' hz (hset p q' ts' hc).2,fun p p' z z' q1 q2 t1 t2 hp hz hz' hc hc'=>r3 p p' z z' q1 q2 t1 t2 hp hz hz' (hset p q1 t1 hc).2 (hset p' q2 t2 hc').2,fun p z q' ts' hz hc g hg=>by rw [hνk];exact r4 p z q' ts' hz (hset p q' ts' hc).2 g hg,fun g hg=>by rw [hνk] at hg;exact r5 g hg⟩;by_cases hp:i=p
    ·subst hp
     rw [List.getElem?_set_self hil] at hc;cases hc;rw [hx] at hz;cases hz;have:DR (setν ν N x) (mk T (fun j=>if N=j then some (.row e' s q ts false) else if k=j then some (.nst e e' m s n (cs.set i (.dat (.own N)))) else H j) (N+8)).nm w G (setν ν N x N) (.own N):=.own (by simp) (by rw [hνN];exact ownsRow_one y1);rw [hνN] at this;exact ⟨this,ownsRow_one y1⟩
    ·rw [List.getElem?_set_ne hp] at hc
     exact ⟨(rd p z d hz hc).1.mono hnm (fun _ _ _ h=>h),(rd p z d hz hc).2⟩
   ·rw [if_neg hjk] at hj
    obtain ⟨q1,q2⟩:=I.H j o hj;exact ⟨(hnm j q1).1,q2.mono q1 hnm (fun _ _ _ h=>h) (fun _ _=>⟨rfl,rfl⟩)⟩
 ·have back:∀ j o,(if N=j then some (.row e' s q ts false) else if k=j then some (.nst e e' m s n (cs.set i (.dat (.own N)))) else H j)=some o->(j=N/\∀ g,foot w (setν ν N x j) o g->blk x=some g)\/(j≠N/\∃ o',H j=some o'/\∀ g,foot w (setν ν N x j) o g->foot w (ν j) o' g/\blk x≠some g):=fun j o h=>by
   by_cases hjN:N=j
   ·subst hjN
    rw [if_pos rfl] at h;cases h;exact .inl ⟨rfl,fun g hg=>by rw [hνN] at hg;exact hg⟩
   ·rw [if_neg hjN] at h
    refine .inr ⟨fun e=>hjN e.symm,?_⟩;by_cases hjk:k=j
    ·subst hjk
     rw [if_pos rfl] at h;cases h;exact ⟨_,hk,fun g hg=>by rw [hνk] at hg;exact hfk g hg⟩
    ·rw [if_neg hjk] at h
     have hj1:=(I.H j o h).1;exact ⟨o,h,fun g hg=>by
      rw [(hnm j hj1).2] at hg;exact ⟨hg,fun e=>I.dis j o k _ h hk (fun e=>hjk e.symm) g hg (hinn g e)⟩⟩
  rcases back j1 o1 h1 with ⟨e1,f1⟩ | ⟨e1,p1,hp1,f1⟩ <;> rcases back j2 o2 h2 with ⟨e2,f2⟩ | ⟨e2,p2,hp2,f2⟩
  ·exact absurd (e1.trans e2.symm) hne
  ·exact fun g hg hg'=>(f2 g hg').2 (f1 g hg)
  ·exact fun g hg hg'=>(f1 g hg).2 (f2 g hg')
  ·exact fun g hg hg'=>I.dis j1 p1 j2 p2 hp1 hp2 hne g (f1 g hg).1 (f2 g hg').1
theorem ent_back {E:Env} {T:Nat->Option D} {H:Nat->Option AObj} {N:Nat} (k i f:Nat) {e e':TypeId} {m s n q:Nat} {cs:List NC} {ts:List Tree} (hk:H k=some (.nst e e' m s n cs)) (hi:cs[i]?=some (.dat (.own f))) (hf:H f=some (.row e' s q ts false)):
    Ent E (mk T H N) (mk T (fun j=>if f=j then none else if k=j then some (.nst e e' m s n (cs.set i (.inn q ts))) else H j) N):=by
 refine ent_of_act fun a w ⟨ν,G,I⟩=>?_
 obtain ⟨hn,hob⟩:=I.H k _ hk;obtain ⟨xs,r1,hxl,rd,r2,r3,r4,r5⟩:=id hob;obtain ⟨_,ys,y1,y2,y3,y4⟩:=I.H f _ hf;have hfk:f≠k:=fun e=>by rw [e,hk] at hf;cases hf
 have hil:i < cs.length:=(List.getElem?_eq_some_iff.1 hi).1;obtain ⟨x,hx⟩:∃ x,xs[i]?=some x:=⟨_,List.getElem?_eq_getElem (by rw [hxl];exact hil)⟩
 have hxf:x=ν f:=by cases (rd i x _ hx hi).1 with | own _ _=>rfl
 have hset:∀ (j q':Nat) (ts':List Tree),(cs.set i (.inn q ts))[j]?=some (.inn q' ts')->(j=i/\q'=q/\ts'=ts)\/(j≠i/\cs[j]?=some (.inn q' ts')):=fun j q' ts' h=>by
  by_cases hj:i=j
  ·subst hj
   rw [List.getElem?_set_self hil] at h;cases h;exact .inl ⟨rfl,rfl,rfl⟩
  ·rw [List.getElem?_set_ne hj] at h
   exact .inr ⟨fun e=>hj e.symm,h⟩
 have hft:∀ (p:Nat) (z:Value) (q':Nat) (ts':List Tree),xs[p]?=some z->cs[p]?=some (.inn q' ts')->∀ g,blk z=some g->blk (ν f)≠some g:=fun p z q' ts' hz hc g hg hg'=>by
  refine I.dis k _ f _ hk hf (fun e=>hfk e.symm) g ?_ hg';rcases r1.2 with ⟨_,h0⟩ | ⟨g0,cap,cur,hv,_⟩
  ·have:=(List.getElem?_eq_some_iff.1 hz).1
   rw [r1.1,h0] at this;omega
  ·exact .inr ⟨g0,p,z,q',ts',by rw [hv];rfl,hc,by rw [row_cell r1 (by rw [hv];rfl) (List.getElem?_eq_some_iff.1 hz).1];exact hz,hg⟩
 refine ⟨ν,G,I.kept,I.keep,I.pin,I.g0,I.sz,I.T,fun j o hj=>?_,fun j1 o1 j2 o2 h1 h2 hne=>?_⟩
 ·simp only at hj
  by_cases hjf:f=j
  ·rw [if_pos hjf] at hj;cases hj
  ·rw [if_neg hjf] at hj
   by_cases hjk:k=j
   ·subst hjk
    rw [if_pos rfl] at hj;cases hj;refine ⟨hn,xs,r1,by rw [List.length_set];exact hxl,fun p z d hz hc=>?_,fun p z q' ts' hz hc=>?_,fun p p' z z' q1 q2 t1 t2 hp hz hz' hc hc' g hg hg'=>?_,fun p z q' ts' hz hc g hg hg'=>?_,r5⟩
    ·by_cases hp:i=p
     ·subst hp;rw [List.getElem?_set_self hil] at hc;cases hc
     ·rw [List.getElem?_set_ne hp] at hc;exact rd p z d hz hc
    ·rcases hset p q' ts' hc with ⟨rfl,rfl,rfl⟩ | ⟨_,hc⟩
     ·rw [hx] at hz
      cases hz;subst hxf;exact ⟨ys,y1,y2,y3,fun g hg=>by simpa using y4 g hg⟩
     ·exact r2 p z q' ts' hz hc
    ·rcases hset p q1 t1 hc with ⟨rfl,rfl,rfl⟩ | ⟨_,hn1⟩ <;> rcases hset p' q2 t2 hc' with ⟨rfl,rfl,rfl⟩ | ⟨_,hn2⟩
     ·exact hp rfl
     ·rw [hx] at hz;cases hz;rw [hxf] at hg;exact hft p' z' q2 t2 hz' hn2 g hg' hg
     ·rw [hx] at hz';cases hz';rw [hxf] at hg';exact hft p z q1 t1 hz hn1 g hg hg'
     ·exact r3 p p' z z' q1 q2 t1 t2 hp hz hz' hn1 hn2 g hg hg'
    ·rcases hset p q' ts' hc with ⟨rfl,rfl,rfl⟩ | ⟨_,hc⟩
     ·rw [hx] at hz;cases hz;rw [hxf] at hg;exact I.dis k _ f _ hk hf (fun e=>hfk e.symm) g (foot_blk hg') hg
     ·exact r4 p z q' ts' hz hc g hg hg'
   ·rw [if_neg hjk] at hj
    exact I.H j o hj
 ·have back:∀ j o,(if f=j then none else if k=j then some (.nst e e' m s n (cs.set i (.inn q ts))) else H j)=some o->j≠f/\∃ o',H j=some o'/\∀ g,foot w (ν j) o g->foot w (ν j) o' g\/(j=k/\blk (ν f)=some g):=fun j o h=>by
   by_cases hjf:f=j
   ·rw [if_pos hjf] at h;cases h
   ·rw [if_neg hjf] at h
    refine ⟨fun e=>hjf e.symm,?_⟩;by_cases hjk:k=j
    ·subst hjk
     rw [if_pos rfl] at h;cases h;refine ⟨_,hk,fun g hg=>?_⟩;rcases hg with hg | ⟨g0,p,z,q',ts',b1,b2,h3,h4⟩
     ·exact .inl (.inl hg)
     ·rcases hset p q' ts' b2 with ⟨rfl,rfl,rfl⟩ | ⟨_,hc⟩
      ·rw [row_cell r1 b1 (by rw [hxl];exact hil),hx] at h3
       cases h3;rw [hxf] at h4;exact .inr ⟨rfl,h4⟩
      ·exact .inl (.inr ⟨g0,p,z,q',ts',b1,hc,h3,h4⟩)
    ·rw [if_neg hjk] at h
     exact ⟨o,h,fun g hg=>.inl hg⟩
  obtain ⟨n1,p1,hp1,f1⟩:=back j1 o1 h1;obtain ⟨n2,p2,hp2,f2⟩:=back j2 o2 h2;intro g hg hg';rcases f1 g hg with g1 | ⟨e1,g1⟩ <;> rcases f2 g hg' with g2 | ⟨e2,g2⟩
  ·exact I.dis j1 p1 j2 p2 hp1 hp2 hne g g1 g2
  ·exact I.dis j1 p1 f _ hp1 hf n1 g g1 g2
  ·exact I.dis j2 p2 f _ hp2 hf n2 g g2 g1
  ·exact hne (e1.trans e2.symm)
end Go.Ab
/- The abstract machine: a cell of such a row is written over. -/
namespace Go.Ab
open Go.RowKit
theorem ownsRow_set {w:World} {e:TypeId} {s n:Nat} {v:Value} {xs:List Value} (h:w.ownsRow 0 e s v n xs) {g off:Nat} (hg:blk v=some g) (ho:off < xs.length) (u:Value):
    w.there g off 1/\(w.setCells g off [u]).ownsRow 0 e s v n (xs.set off u):=by
 rcases h.2 with ⟨rfl,_⟩ | ⟨g0,cap,cur,hvv,r1,r2,r3,r4,r5,r6⟩
 ·cases hg
 ·rw [hvv] at hg
  cases hg;have hxn:xs.length=n * s:=h.1;have hxl:xs.length<=cur.size:=by rw [← r6];simp;omega
  have hget:∀ j,j < n * s->cur[j]?=xs[j]?:=fun j hj=>by rw [← r6,List.getElem?_take,if_pos hj];simp
  refine ⟨fun j hj=>⟨?_,by simp [World.frozen?,r2]⟩,by rw [List.length_set];exact h.1,.inr ⟨g0,cap,_,hvv,r1,setCells_heap [u] off w cur r2,r3,r4,by rw [setMany_size];exact r5,?_⟩⟩
  ·rw [cell_of_row' r2,Array.getElem?_eq_getElem (by omega)];rfl
  ·apply List.ext_getElem?
   intro i;rw [List.getElem?_take,List.getElem?_set];by_cases c0:i < n * s
   ·rw [if_pos c0]
    have:(setMany cur off [u]).toList[i]?=(setMany cur off [u])[i]?:=by simp
    rw [this,setMany_get _ _ _ _ (by simp;omega)];by_cases c1:i < off
    ·rw [if_pos c1,if_neg (by omega),hget i c0]
    ·rw [if_neg c1]
     by_cases c2:off=i
     ·subst c2
      rw [if_pos (by simp),if_pos rfl,if_pos ho];simp
     ·rw [if_neg (by simp;omega),if_neg c2,hget i c0]
   ·rw [if_neg c0,if_neg (by omega),List.getElem?_eq_none (by omega)]
section
variable {P:Program} {o:Oper} {σ:St} {fr:Nat}
theorem ok_stT {t:TypeId} {x y:Operand} {k off:Nat} {e e':TypeId} {m s n:Nat} {cs:List NC} {d:D} (hi:(P.info? t).map (·.size)=some 1) (ho:o.op = .store t x y) (hx:σ.ev x=some (.ref k off)) {d0:D} (hy:σ.ev y=some d0) (hwk:DWk σ.H d0 d) (hd1:∀ ν nm w G v,DR ν nm w G v d->v.oneCell'=true) (hk:σ.H k=some (.nst e e' m s n cs)) (hoff:off < cs.length):
    OpOk P o σ fr (.tup []) [(k,some (.nst e e' m s n (cs.set off (.dat d))))]:=by
 intro E σ₁ a w hT hH h100 hf hd ⟨ν,G,I⟩ Q;obtain ⟨g1,hg,hvx,hkn⟩:=ref_of (I.ev (St.ev_le hT hx));have hdy:=hwk _ _ _ _ _ _ hH I _ (I.ev (St.ev_le hT hy));obtain ⟨v,hev⟩:∃ v,a.eval y=v:=⟨_,rfl⟩
 rw [hev] at hdy;have hone:v.oneCell'=true:=hd1 _ _ _ _ _ hdy;have hob:=(I.H k _ (hH k _ hk)).2;obtain ⟨xs,r1,hxl,rd,r2,r3,r4,r5⟩:=id hob;have hG0:G g1=0:=(r5 g1 hg).2;obtain ⟨hthere,hrow⟩:=ownsRow_set r1 hg (by rw [hxl];exact hoff) v;have hcv:(a.eval y).cells = #[v]:=by rw [hev];exact cells_one hone
 have hr:(Instr.storeAt t (.pointer (some ⟨g1,off,none⟩)) (a.eval y)).run P w = .ok () (w.setCells g1 off (a.eval y).cells.toList):=
  run_storeCells (by rw [hcv];simpa using hthere) (by rw [hi,hcv];rfl) (fun u hu=>by rw [hcv] at hu;simp at hu;subst hu;exact hone)
 rw [hcv] at hr;obtain ⟨s1,s2,s3,s4,s5⟩:=setCells_same (g:=g1) [v] off w;obtain ⟨w',hw'⟩:∃ w',w.setCells g1 off [v]=w':=⟨_,rfl⟩
 rw [hw'] at hr s1 s2 s3 s4 s5 hrow;have hcell:∀ b i u,Cell w G b i u->Cell w' G b i u:=fun b i u h=>by
  have hne:b≠g1:=fun e=>by have:=h.2;rw [e,hG0] at this;omega
  exact ⟨(World.cell?_of_block (a:=⟨b,i,none⟩) (s5 b hne)).trans h.1,h.2⟩
 have hmay:E.may g1:=(r5 g1 hg).1;have hft:∀ j oj,σ₁.H j=some oj->j≠k->∀ g',foot w' (ν j) oj g' ↔ foot w (ν j) oj g':=fun m om hm hmk g'=>foot_of fun b hb=>s5 b fun e=>by
  subst e;exact I.dis m om k _ hm (hH k _ hk) hmk b (foot_blk hb) (foot_blk hg)
 have hset:∀ (j q':Nat) (ts':List Tree),(cs.set off (.dat d))[j]?=some (.inn q' ts')->j≠off/\cs[j]?=some (.inn q' ts'):=fun j q' ts' h=>by
  by_cases hj:off=j
  ·subst hj
   rw [List.getElem?_set_self hoff] at h;cases h
  ·rw [List.getElem?_set_ne hj] at h
   exact ⟨fun e=>hj e.symm,h⟩
 have hxs:∀ j z,j≠off->(xs.set off v)[j]?=some z->xs[j]?=some z:=fun j z hj h=>by rw [List.getElem?_set_ne (fun e=>hj e.symm)] at h;exact h
 have hfk:∀ g',foot w' (ν k) (.nst e e' m s n (cs.set off (.dat d))) g'->foot w (ν k) (.nst e e' m s n cs) g':=fun g' hg'=>by
  rcases hg' with h | ⟨g0,j,z,q',ts',b1,b2,b3,b4⟩
  ·exact .inl h
  ·obtain ⟨hj,hc⟩:=hset j q' ts' b2
   have hjl:j < xs.length:=by rw [hxl];exact (List.getElem?_eq_some_iff.1 hc).1
   rw [row_cell hrow b1 (by rw [List.length_set];exact hjl)] at b3;exact .inr ⟨g0,j,z,q',ts',b1,hc,by rw [row_cell r1 b1 hjl];exact hxs j z hj b3,b4⟩
 unfold Oper.wp;have he:(execOp a.eval o).run P w = .ok .skip w':=by
  unfold execOp;rw [ho];simp only [hvx,Sem.run_bind,hr];rfl
 rw [he,Oper.upon_skip];obtain ⟨ob',hob'⟩:∃ ob',AObj.nst e e' m s n (cs.set off (.dat d))=ob':=⟨_,rfl⟩
 have hnm:∀ j,σ₁.nm j=true->(σ₁.upd o.dst (.tup []) [(k,some ob')] fr).nm j=true/\ν j=ν j:=fun j hj=>⟨by simp [St.upd,hj],rfl⟩
 rw [hob'];refine ⟨put_defers ..,ν,G,⟨s1.trans I.kept.os,s2.trans I.kept.tape,s3.trans I.kept.output,by rw [s4];exact I.kept.size,fun b hb hX=>?_⟩,fun b i u h=>hcell b i u (I.keep b i u h),I.pin,I.g0,?_,fun t' d' h=>?_,fun m' om h=>?_,fun j1 o1 j2 o2 h1 h2 hne=>?_⟩
 ·refine (s5 b (fun e=>?_)).trans (I.kept.block b hb hX)
  subst e;rcases hmay with h | h
  ·omega
  ·exact hX h
 ·cases o.dst <;> simp [Act.put,I.sz]
 ·simp only [St.upd] at h
  split at h
  ·rename_i he'
   cases h;have:=hd t' he';exact ⟨undef,by simp [he',Act.put,I.sz,this],undef_rel⟩
  ·rename_i he'
   obtain ⟨u,hu,hdu⟩:=I.T t' d' h;refine ⟨u,?_,hdu.mono hnm hcell⟩;cases hds:o.dst with
   | none=>simpa [Act.put] using hu
   | some t''=>
     have hne:t''≠t':=fun e=>he' (by rw [hds,e])
     simp only [Act.put];rw [Array.getElem?_setIfInBounds_ne hne];exact hu
 ·by_cases hm:m'=k
  ·subst hm
   simp [St.upd,look] at h;subst h;subst hob';have h1:=(I.H m' _ (hH m' _ hk)).1;refine ⟨(hnm m' h1).1,xs.set off v,hrow,by rw [List.length_set,List.length_set];exact hxl,fun p z d' hz hc=>?_,fun p z q' ts' hz hc=>?_,fun p p' z z' q1 q2 t1 t2 hp hz hz' hc hc'=>r3 p p' z z' q1 q2 t1 t2 hp (hxs p z (hset p q1 t1 hc).1 hz) (hxs p' z' (hset p' q2 t2 hc').1 hz') (hset p q1 t1 hc).2 (hset p' q2 t2 hc').2,fun p z q' ts' hz hc=>r4 p z q' ts' (hxs p z (hset p q' ts' hc).1 hz) (hset p q' ts' hc).2,r5⟩
   ·by_cases hp:off=p
    ·subst hp
     rw [List.getElem?_set_self hoff] at hc;rw [List.getElem?_set_self (by rw [hxl];exact hoff)] at hz;cases hc;cases hz;exact ⟨hdy.mono hnm hcell,hone⟩
    ·rw [List.getElem?_set_ne hp] at hc hz
     exact ⟨(rd p z d' hz hc).1.mono hnm hcell,(rd p z d' hz hc).2⟩
   ·obtain ⟨hj,hc⟩:=hset p q' ts' hc
    have hz:=hxs p z hj hz;obtain ⟨ys,a1,a2,a3,a4⟩:=r2 p z q' ts' hz hc;refine ⟨ys,⟨a1.1,?_⟩,a2,fun i u t hu ht=>(a3 i u t hu ht).mono hcell,a4⟩;rcases a1.2 with h | ⟨g3,cap,cur,hvv,z1,z2,z3⟩
    ·exact .inl h
    ·exact .inr ⟨g3,cap,cur,hvv,z1,by rw [s5 g3 (fun e=>by subst e;exact r4 p z q' ts' hz hc g3 (by rw [hvv];rfl) hg)];exact z2,z3⟩
  ·have h':σ₁.H m'=some om:=by simpa [St.upd,look,Ne.symm hm] using h
   obtain ⟨h1,h2⟩:=I.H m' om h';refine ⟨(hnm m' h1).1,h2.mono h1 hnm hcell (fun g' hg'=>⟨s5 g' (fun e=>?_),rfl⟩)⟩;subst e;exact I.dis m' om k _ h' (hH k _ hk) hm g' hg' (foot_blk hg)
 ·have back:∀ j oj,(σ₁.upd o.dst (.tup []) [(k,some ob')] fr).H j=some oj->∃ oj',σ₁.H j=some oj'/\∀ g',foot w' (ν j) oj g'->foot w (ν j) oj' g':=fun m' om h=>by
   by_cases hm:m'=k
   ·subst hm
    simp [St.upd,look] at h;subst h;subst hob';exact ⟨_,hH m' _ hk,hfk⟩
   ·have h':σ₁.H m'=some om:=by simpa [St.upd,look,Ne.symm hm] using h
    exact ⟨om,h',fun g' hg'=>(hft m' om h' hm g').1 hg'⟩
  obtain ⟨o1',h1',f1⟩:=back j1 o1 h1;obtain ⟨o2',h2',f2⟩:=back j2 o2 h2;exact fun g' hg1 hg2=>I.dis j1 o1' j2 o2' h1' h2' hne g' (f1 g' hg1) (f2 g' hg2)
end
end Go.Ab
/- The abstract machine: a row of one element that holds a row of the walk's own. -/
namespace Go.Ab
open Go.RowKit
theorem fillD_len:∀ (pl:List (Nat×Nat)) (ds:List (Nat×D)) (cs out:List D),fillD pl cs ds=some out->out.length=cs.length:=by
 intro pl ds
 induction ds with
 | nil=>intro cs out h;cases h;rfl
 | cons p r ih=>
   intro cs out h;obtain ⟨i,d⟩:=p;simp only [fillD] at h;split at h
   ·cases h
   ·split at h
    ·rename_i hc
     simp only [Bool.and_eq_true,beq_iff_eq,decide_eq_true_eq] at hc;rw [ih _ _ h,splice_length hc.2]
    ·cases h
section
variable {P:Program} {o:Oper} {σ:St} {fr:Nat}
theorem ok_litT {t e e':TypeId} {m sz n q i0:Nat} {zs:List Value} {parts:Array (Nat×Operand)} {ds:List (Nat×D)} {out:List D} {ts:List Tree} (hB:LitT P t e m 1 zs) (ho:o.op = .buildSlice t 1 parts) (hp:PartsW σ parts.toList ds)
    (hf:fillD ((List.range 1).map fun i=>(i * m,m)) (zs.map fun u=>.t (.v u)) ds=some out) (ho0:out[i0]?=some (.own q)) (hot:∀ (i:Nat) (d:D),i≠i0->out[i]?=some d->∃ t,d = .t t) (hq:σ.H q=some (.row e' sz n ts false)):
    OpOk P o σ fr (.own fr) [(fr,some (.nst e e' m sz 1 ((out.map NC.dat).set i0 (.inn n ts)))),(q,none)]:=by
 intro E σ₁ a w hT hHH h100 hf' hd ⟨ν,G,I⟩ Q;have hpl:∀ (i:Nat) (p:Nat×Nat),((List.range 1).map fun i=>(i * m,m))[i]?=some p->(fun i=>some (i * m,m)) i=some p:=fun i p h=>by
  rw [List.getElem?_map] at h;obtain ⟨j,hj,rfl⟩:=Option.map_eq_some_iff.1 h;have h1:=(List.getElem?_eq_some_iff.1 hj).1;have h2:=(List.getElem?_eq_some_iff.1 hj).2;simp only [List.length_range] at h1;rw [List.getElem_range] at h2;rw [h2]
 obtain ⟨h1,h2⟩:=hp.rel (fun x d d' hx hw=>hw _ _ _ _ _ _ hHH I _ (I.ev (St.ev_le hT hx)));obtain ⟨cells,hres,hsz,hrel⟩:=fill_rel hpl _ ds zs.toArray (zs.map fun u=>.t (.v u)) out h1 h2 (by simp) (fun i u d hu hd=>by
     have hz:zs[i]?=some u:=by simpa using hu
     rw [List.getElem?_map,hz] at hd;cases hd;have:=hB.one u (List.mem_iff_getElem?.2 ⟨i,hz⟩);exact ⟨.t (.v u this),this⟩) hf
 have hlen:out.length=1 * m:=by rw [fillD_len _ _ _ _ hf];simp [hB.zl]
 have hi0:i0 < out.length:=(List.getElem?_eq_some_iff.1 ho0).1;have hobq:=(I.H q _ (hHH q _ hq)).2;obtain ⟨ys,y1,y2,y3,y4⟩:=id hobq;have hcq:cells[i0]?=some (ν q):=by
  have hlt:i0 < cells.size:=by rw [hsz];exact hi0
  obtain ⟨hdr,_⟩:=hrel i0 _ _ (Array.getElem?_eq_getElem hlt) ho0;rw [Array.getElem?_eq_getElem hlt];generalize cells[i0]=z at hdr;cases hdr with
  | own _ _=>rfl
 have hr:=hB.run w (parts.map fun (i,x)=>(i,a.eval x)) cells (by rw [Array.toList_map];exact hres);unfold Oper.wp;have he:(execOp a.eval o).run P w = .ok (.value (.slice (some ⟨w.heap.size,0,none⟩) 1 1)) (w.alloc (.cells cells e)):=by
  unfold execOp;rw [ho];simp [hr]
 rw [he,Oper.upon_value];obtain ⟨w',hw'⟩:∃ w',w.alloc (.cells cells e)=w':=⟨_,rfl⟩
 have hA:Aft w w':=hw' ▸ (Aft.refl w).alloc _;have hnew:w'.heap[w.heap.size]?=some (.cells cells e):=by rw [← hw'];exact heap_alloc_new w _
 rw [hw']
 let G':Lim:=fun b=>if b=w.heap.size then 0 else G b
 have hG:∀ b,b < w.heap.size->G' b=G b:=fun b hb=>if_neg (by omega)
 have hcell:∀ b i u,Cell w G b i u->Cell w' G' b i u:=fun b i u h=>h.aft hA hG
 have hlt:∀ g,blk (ν q)=some g->g < w.heap.size:=fun g hg=>hobq.blk_lt hg
 have hown:w'.ownsRow 0 e m (.slice (some ⟨w.heap.size,0,none⟩) 1 1) 1 cells.toList:=⟨by simp [hsz,hlen],.inr ⟨w.heap.size,1,cells,rfl,Nat.zero_le _,hnew,Nat.le_refl _,hB.ml,by rw [hsz,hlen],by rw [List.take_of_length_le (by simp [hsz,hlen])]⟩⟩;have hinn:∀ (i q':Nat) (ts':List Tree),((out.map NC.dat).set i0 (.inn n ts))[i]?=some (.inn q' ts')->i=i0/\q'=n/\ts'=ts:=fun i q' ts' h=>by
  by_cases hi:i0=i
  ·subst hi
   rw [List.getElem?_set_self (by simpa using hi0)] at h;cases h;exact ⟨rfl,rfl,rfl⟩
  ·rw [List.getElem?_set_ne hi,List.getElem?_map] at h
   obtain ⟨d,_,hd'⟩:=Option.map_eq_some_iff.1 h;cases hd'
 refine ⟨put_defers ..,setν ν fr (.slice (some ⟨w.heap.size,0,none⟩) 1 1),G',I.newL h100 hf' hd [q] (o:=.nst e e' m sz 1 ((out.map NC.dat).set i0 (.inn n ts))) (fun k=>?_) hA.os hA.tape hA.output hA.size (fun b hb _=>⟨hA.block b hb,hG b hb⟩) hcell (x:=.slice (some ⟨w.heap.size,0,none⟩) 1 1) (fun g hg=>?_) ?_ ?_⟩
 ·simp only [look,List.mem_singleton]
  by_cases h1:fr=k
  ·rw [if_pos h1,if_pos h1.symm]
  ·rw [if_neg h1,if_neg (Ne.symm h1)]
   by_cases h2:q=k
   ·rw [if_pos h2,if_pos h2.symm]
   ·rw [if_neg h2,if_neg (Ne.symm h2)]
 ·rcases hg with hg | ⟨g0,i,x,q',ts',a1,a2,a3,a4⟩
  ·cases hg;exact .inl (Nat.le_refl _)
  ·obtain ⟨rfl,rfl,rfl⟩:=hinn i q' ts' a2
   rw [row_cell hown a1 (by simp [hsz];exact hi0)] at a3;have:x=ν q:=by simp [hcq] at a3;exact a3.symm
   subst this;exact .inr ⟨q,by simp,_,hHH q _ hq,a4⟩
 ·rw [ObjOk]
  refine ⟨cells.toList,by rw [setν_same];exact hown,by simp [hsz],fun i x d hx hc=>?_,fun i x q' ts' hx hc=>?_,fun i j x y q1 q2 t1 t2 hij hx hy hc hc'=>?_,fun i x q' ts' hx hc g hg=>?_,fun g hg=>?_⟩
  ·by_cases hi:i0=i
   ·subst hi
    rw [List.getElem?_set_self (by simpa using hi0)] at hc;cases hc
   ·rw [List.getElem?_set_ne hi,List.getElem?_map] at hc
    obtain ⟨d',hd1,hd2⟩:=Option.map_eq_some_iff.1 hc;cases hd2;obtain ⟨t,rfl⟩:=hot i d (fun e=>hi e.symm) hd1;obtain ⟨b1,b2⟩:=hrel i x _ (by simpa using hx) hd1;cases b1 with
    | t b1=>exact ⟨.t (b1.mono hcell),b2⟩
  ·obtain ⟨rfl,rfl,rfl⟩:=hinn i q' ts' hc
   have:x=ν q:=by simp [hcq] at hx;exact hx.symm
   subst this;refine ⟨ys,⟨y1.1,?_⟩,y2,fun i u t hu ht=>(y3 i u t hu ht).mono hcell,fun g hg=>⟨(y4 g hg).1,by rw [hG g (hlt g hg)];simpa using (y4 g hg).2⟩⟩;rcases y1.2 with h | ⟨g,cap,cur,hvv,z1,z2,z3⟩
   ·exact .inl h
   ·exact .inr ⟨g,cap,cur,hvv,z1,by rw [hA.block g (hlt g (by rw [hvv];rfl))];exact z2,z3⟩
  ·exact absurd ((hinn i q1 t1 hc).1.trans (hinn j q2 t2 hc').1.symm) hij
  ·obtain ⟨rfl,rfl,rfl⟩:=hinn i q' ts' hc
   have:x=ν q:=by simp [hcq] at hx;exact hx.symm
   subst this;rw [setν_same];intro h;cases h;exact absurd (hlt _ hg) (Nat.lt_irrefl _)
  ·rw [setν_same] at hg
   cases hg;exact ⟨.inl I.kept.size,if_pos rfl⟩
 ·have:DR (setν ν fr (.slice (some ⟨w.heap.size,0,none⟩) 1 1)) (σ₁.upd o.dst .any [(fr,some (.nst e e' m sz 1 ((out.map NC.dat).set i0 (.inn n ts)))),(q,none)] fr).nm w' G' (setν ν fr (.slice (some ⟨w.heap.size,0,none⟩) 1 1) fr) (.own fr):=.own (upd_nm_fr ..) (by rw [setν_same];rfl)
  rw [setν_same] at this;exact this
end
end Go.Ab
/- The abstract machine: append of rows whose elements hold rows of the walk's own. -/
namespace Go.Ab
open Go.RowKit
section
variable {P:Program} {o:Oper} {σ:St} {fr:Nat}
inductive DstT (σ:St) (s:Operand) (e e':TypeId) (m sz:Nat):Option Nat->Nat->List NC->Prop
 | own {k n:Nat} {cs:List NC} (h:σ.ev s=some (.own k)) (hk:σ.H k=some (.nst e e' m sz n cs)):DstT σ s e e' m sz (some k) n cs
 | nil (h:σ.ev s=some (.t (.v (.slice none 0 0)))):DstT σ s e e' m sz none 0 []
def NoLent (cs:List NC):Prop:=∀ (i:Nat) (d:D),cs[i]?=some (.dat d)->∃ t,d = .t t
theorem ok_appT {t e e':TypeId} {z:Value} {bytes mm sz q n n':Nat} {s x:Operand} {k0:Option Nat} {ls ms:List NC} (hT:AppT P t e z mm bytes) (ho:o.op = .call { callee:=.builtin .append,args:=#[s,x],argTypes:=#[t,t] })
    (hs:DstT σ s e e' mm sz k0 n ls) (hx:σ.ev x=some (.own q)) (hq:σ.H q=some (.nst e e' mm sz n' ms)) (hne:k0≠some q) (hp1:NoLent ls) (hp2:NoLent ms) (hb:(n+n') * bytes<=140737488355328/\n+n'<=maxLen):
    OpOk P o σ fr (.own fr) (appWN k0 q fr (.nst e e' mm sz (n+n') (ls++ms))):=by
 intro E σ₁ a w hTT hHH h100 hf hd ⟨ν,G,I⟩ Q;have hvx:=I.ev (St.ev_le hTT hx);obtain ⟨vx,hex⟩:∃ v,a.eval x=v:=⟨_,rfl⟩
 rw [hex] at hvx;cases hvx with
 | own hkq _=>
 have hobq:=(I.H q _ (hHH q _ hq)).2;obtain ⟨us,u1,hul,ud,u2,u3,u4,u5⟩:=id hobq;have hunl:us.length=n' * mm:=u1.1;have hone:∀ u ∈ us,u.oneCell'=true:=fun u hu=>by
  obtain ⟨i,hi⟩:=List.mem_iff_getElem?.1 hu;have hlt:=(List.getElem?_eq_some_iff.1 hi).1;rw [hul] at hlt;obtain ⟨c,hc⟩:∃ c,ms[i]?=some c:=⟨_,List.getElem?_eq_getElem hlt⟩
  cases c with
  | dat d=>exact (ud i u d hi hc).2
  | inn q ts=>obtain ⟨ys,y1,_⟩:=u2 i u q ts hi hc;exact ownsRow_one y1
 obtain ⟨ax,c,hxv,hrd,hnone⟩:∃ ax c,ν q = .slice ax n' c/\Rd w ax us/\(ax=none->c=0):=by
  rcases u1.2 with ⟨hv,hn⟩ | ⟨g,cap,cur,hv,_⟩
  ·have hx:us=[]:=List.eq_nil_of_length_eq_zero (by rw [hunl,hn,Nat.zero_mul])
   exact ⟨none,0,by rw [hv,hn],by rw [hx];exact Rd.nil,fun _=>rfl⟩
  ·exact ⟨_,cap,hv,fun j u hj=>⟨_,rfl,u1.cells (by rw [hv];rfl) j u hj⟩,fun e=>by cases e⟩
 have hrow:∃ v,a.eval s=v/\∃ ob:ObjOk E (fun _=>v) σ₁.nm w G 0 (.nst e e' mm sz n ls),(∀ k,some k=k0->ν k=v/\σ₁.H k=some (.nst e e' mm sz n ls))/\(k0=none->blk v=none/\n=0):=by
  cases hs with
  | @own k _ _ h hk=>
    have hv:=I.ev (St.ev_le hTT h);obtain ⟨v,he⟩:∃ v,a.eval s=v:=⟨_,rfl⟩
    rw [he] at hv;cases hv with
    | own _ _=>
      obtain ⟨xs,b1,b2,b3,b4⟩:=(I.H _ _ (hHH _ _ hk)).2;exact ⟨_,he,⟨xs,b1,b2,fun i x d hx hc=>by
       obtain ⟨b5,b6⟩:=b3 i x d hx hc;obtain ⟨t,rfl⟩:=hp1 i d hc;cases b5 with
       | t b5=>exact ⟨.t b5,b6⟩,b4⟩,(fun k' hk'=>by cases hk';exact ⟨rfl,hHH _ _ hk⟩),(fun e=>by cases e)⟩
  | nil h=>
    have hv:=bool_of (I.ev (St.ev_le hTT h));exact ⟨_,hv,Empt.nst.ok rfl,(fun k h=>by cases h),fun _=>⟨rfl,rfl⟩⟩
 obtain ⟨v,hsv,hobv,hk0,hk0n⟩:=hrow;obtain ⟨xs,r1,hxl,rd,r2,r3,r4,r5⟩:=id hobv;change w.ownsRow 0 e mm v n xs at r1;change ∀ (i:Nat) (x:Value) (q:Nat) (ts:List Tree),xs[i]?=some x->ls[i]?=some (.inn q ts)->∀ g,blk x=some g->blk v≠some g at r4
 change ∀ g,blk v=some g->E.may g/\G g=0 at r5
 obtain ⟨v',w',hr,p1,q1,q2,q3,q4,q5,q6,q7⟩:=run_app (ty:=o.type) hT r1 (m:=n') (c:=c) hunl hrd hnone hone hb.2 hb.1;unfold Oper.wp;have he:(execOp a.eval o).run P w = .ok (.value v') w':=by
  unfold execOp;rw [ho];simp [resolve,invoke,builtin,hsv,hex,hxv,hr]
 rw [he,Oper.upon_value];rw [← ownsRow_blk r1] at q5 q6 q7;rw [← ownsRow_blk p1] at q7
 -- blocks of the one are none of the other
 have dis1:∀ g,foot w v (.nst e e' mm sz n ls) g->¬ foot w (ν q) (.nst e e' mm sz n' ms) g:=fun g hg hg'=>by
  cases k0 with
  | none=>
    rcases hg with h | ⟨_,_,_,_,_,h,_⟩
    ·rw [(hk0n rfl).1] at h;cases h
    ·rw [(hk0n rfl).1] at h;cases h
  | some k=>
    obtain ⟨h1,h2⟩:=hk0 k rfl;subst h1;exact I.dis k _ q _ h2 (hHH q _ hq) (fun e=>hne (by rw [e])) g hg hg'
 have inx:∀ (i:Nat) (x:Value) (q1:Nat) (ts:List Tree),xs[i]?=some x->ls[i]?=some (.inn q1 ts)->∀ g,blk x=some g->foot w v (.nst e e' mm sz n ls) g:=fun i x q1 ts hx hc g hg=>by
  have hi:=(List.getElem?_eq_some_iff.1 hx).1;rcases r1.2 with ⟨_,h0⟩ | ⟨g0,cap,cur,hv,_⟩
  ·rw [r1.1,h0] at hi;omega
  ·exact .inr ⟨g0,i,x,q1,ts,by rw [hv];rfl,hc,by rw [row_cell r1 (by rw [hv];rfl) hi];exact hx,hg⟩
 have inu:∀ (i:Nat) (x:Value) (q1:Nat) (ts:List Tree),us[i]?=some x->ms[i]?=some (.inn q1 ts)->∀ g,blk x=some g->foot w (ν q) (.nst e e' mm sz n' ms) g:=fun i x q1 ts hx hc g hg=>by
  have hi:=(List.getElem?_eq_some_iff.1 hx).1;rcases u1.2 with ⟨_,h0⟩ | ⟨g0,cap,cur,hv,_⟩
  ·rw [u1.1,h0] at hi;omega
  ·exact .inr ⟨g0,i,x,q1,ts,by rw [hv];rfl,hc,by rw [row_cell u1 (by rw [hv];rfl) hi];exact hx,hg⟩
 -- a cell of the new row
 have cell2:∀ (i:Nat) (x:Value) (c:NC),(xs++us)[i]?=some x->(ls++ms)[i]?=some c->(xs[i]?=some x/\ls[i]?=some c)\/(ls.length<=i/\us[i - ls.length]?=some x/\ms[i - ls.length]?=some c):=fun i x c hx hc=>by
  by_cases hi:i < ls.length
  ·rw [List.getElem?_append_left (by rw [hxl];exact hi)] at hx
   rw [List.getElem?_append_left hi] at hc;exact .inl ⟨hx,hc⟩
  ·rw [List.getElem?_append_right (by rw [hxl];omega),hxl] at hx
   rw [List.getElem?_append_right (by omega)] at hc;exact .inr ⟨by omega,hx,hc⟩
 have outv:∀ (i:Nat) (x:Value) (q1:Nat) (ts:List Tree),(xs++us)[i]?=some x->(ls++ms)[i]?=some (.inn q1 ts)->∀ g,blk x=some g->g < w.heap.size/\blk v≠some g:=fun i x q1 ts hx hc g hg=>by
  rcases cell2 i x _ hx hc with ⟨hx,hc⟩ | ⟨_,hx,hc⟩
  ·exact ⟨(hobv.ft (inx i x q1 ts hx hc g hg)).1,r4 i x q1 ts hx hc g hg⟩
  ·have h:=inu _ x q1 ts hx hc g hg
   exact ⟨(hobq.ft h).1,fun h'=>dis1 g (foot_blk h') h⟩
 have outv':∀ (i:Nat) (x:Value) (q1:Nat) (ts:List Tree),(xs++us)[i]?=some x->(ls++ms)[i]?=some (.inn q1 ts)->∀ g,blk x=some g->blk v'≠some g:=fun i x q1 ts hx hc g hg h=>by
  obtain ⟨h1,h2⟩:=outv i x q1 ts hx hc g hg;rcases q7 g h with h3 | h3
  ·omega
  ·exact h2 h3
 let G':Lim:=fun b=>if blk v'=some b then 0 else G b
 have hcell:∀ b i u,Cell w G b i u->Cell w' G' b i u:=fun b i u h=>by
  have hb':blk v≠some b:=fun hb'=>by have:=h.2;rw [(r5 b hb').2] at this;omega
  refine ⟨(World.cell?_of_block (a:=⟨b,i,none⟩) (q5 b h.lt hb')).trans h.1,?_⟩;have:blk v'≠some b:=fun e=>by
   rcases q7 b e with h' | h'
   ·have:=h.lt;omega
   ·exact hb' h'
  show i < if blk v'=some b then 0 else G b
  rw [if_neg this];exact h.2
 have hmv:∀ {x:Value} {n:Nat} {ys:List Value},(∀ g,blk x=some g->g < w.heap.size/\blk v≠some g)->w.ownsRow 0 e' sz x n ys->w'.ownsRow 0 e' sz x n ys:=fun hx h1=>by
  refine ⟨h1.1,?_⟩;rcases h1.2 with h | ⟨g,cap,cur,hvv,z1,z2,z3⟩
  ·exact .inl h
  ·have:=hx g (by rw [hvv];rfl)
   exact .inr ⟨g,cap,cur,hvv,z1,by rw [q5 g this.1 this.2];exact z2,z3⟩
 refine ⟨put_defers ..,setν ν fr v',G',I.newL h100 hf hd (k0.toList++[q]) (o:=.nst e e' mm sz (n+n') (ls++ms)) (fun k=>?_) q1 q2 q3 q4 (fun b hb hnk=>?_) hcell (x:=v') (fun g hg=>?_) ?_ ?_⟩
 ·cases k0 with
  | none=>
    simp only [appWN,look,Option.toList_none,List.nil_append,List.mem_singleton];by_cases h1:fr=k
    ·rw [if_pos h1,if_pos h1.symm]
    ·rw [if_neg h1,if_neg (Ne.symm h1)]
     by_cases h2:q=k
     ·rw [if_pos h2,if_pos h2.symm]
     ·rw [if_neg h2,if_neg (Ne.symm h2)]
  | some j=>
    simp only [appWN,look,Option.toList_some,List.cons_append,List.nil_append,List.mem_cons,List.not_mem_nil,or_false];by_cases h1:fr=k
    ·rw [if_pos h1,if_pos h1.symm]
    ·rw [if_neg h1,if_neg (Ne.symm h1)]
     by_cases h2:j=k
     ·rw [if_pos h2,if_pos (.inl h2.symm)]
     ·rw [if_neg h2]
      by_cases h3:q=k
      ·rw [if_pos h3,if_pos (.inr h3.symm)]
      ·rw [if_neg h3,if_neg (by rintro (h | h);exact h2 h.symm;exact h3 h.symm)]
 ·have hnv:blk v≠some b:=fun e=>by
   cases k0 with
   | none=>rw [(hk0n rfl).1] at e;cases e
   | some j=>
     obtain ⟨h1,h2⟩:=hk0 j rfl;exact hnk j (by simp) _ h2 (foot_blk (by rw [h1];exact e))
  refine ⟨q5 b hb hnv,if_neg (fun e=>?_)⟩;rcases q7 b e with h | h
  ·omega
  ·exact hnv h
 ·rcases hg with hg | ⟨g0,i,x,q1,ts,a1,a2,a3,a4⟩
  ·rcases q7 g hg with h | h
   ·exact .inl h
   ·cases k0 with
    | none=>rw [(hk0n rfl).1] at h;cases h
    | some j=>
      obtain ⟨h1,h2⟩:=hk0 j rfl;exact .inr ⟨j,by simp,_,h2,foot_blk (by rw [h1];exact h)⟩
  ·right
   have hlen:(xs++us).length=(ls++ms).length:=by rw [List.length_append,List.length_append,hxl,hul]
   rw [row_cell p1 a1 (by rw [hlen];exact (List.getElem?_eq_some_iff.1 a2).1)] at a3;rcases cell2 i x _ a3 a2 with ⟨hx,hc⟩ | ⟨_,hx,hc⟩
   ·have h:=inx i x q1 ts hx hc g a4
    cases k0 with
    | none=>
      have hi:=(List.getElem?_eq_some_iff.1 hx).1;rw [r1.1,(hk0n rfl).2] at hi;omega
    | some j=>
      obtain ⟨h1,h2⟩:=hk0 j rfl;exact ⟨j,by simp,_,h2,by rw [h1];exact h⟩
   ·exact ⟨q,by simp,_,hHH q _ hq,inu _ x q1 ts hx hc g a4⟩
 ·refine ⟨xs++us,by rw [setν_same];exact p1,by rw [List.length_append,List.length_append,hxl,hul],fun i x d hx hc=>?_,fun i x q1 ts hx hc=>?_,fun i j x y q1 q2 t1 t2 hij hx hy hc hc' g hg=>?_,fun i x q1 ts hx hc g hg=>by rw [setν_same];exact outv' i x q1 ts hx hc g hg,fun g hg=>?_⟩
  ·rcases cell2 i x _ hx hc with ⟨hx,hc⟩ | ⟨_,hx,hc⟩
   ·obtain ⟨b1,b2⟩:=rd i x d hx hc
    obtain ⟨t,rfl⟩:=hp1 i d hc;cases b1 with
    | t b1=>exact ⟨.t (b1.mono hcell),b2⟩
   ·obtain ⟨b1,b2⟩:=ud _ x d hx hc
    obtain ⟨t,rfl⟩:=hp2 _ d hc;cases b1 with
    | t b1=>exact ⟨.t (b1.mono hcell),b2⟩
  ·have hG0:∀ g,blk x=some g->G' g=G g:=fun g hg=>if_neg (outv' i x q1 ts hx hc g hg)
   have ho:=outv i x q1 ts hx hc;rcases cell2 i x _ hx hc with ⟨hx,hc⟩ | ⟨_,hx,hc⟩
   ·obtain ⟨ys,y1,y2,y3,y4⟩:=r2 i x q1 ts hx hc
    exact ⟨ys,hmv ho y1,y2,fun i u t hu ht=>(y3 i u t hu ht).mono hcell,fun g hg=>by rw [hG0 g hg];exact y4 g hg⟩
   ·obtain ⟨ys,y1,y2,y3,y4⟩:=u2 _ x q1 ts hx hc
    exact ⟨ys,hmv ho y1,y2,fun i u t hu ht=>(y3 i u t hu ht).mono hcell,fun g hg=>by rw [hG0 g hg];exact y4 g hg⟩
  ·rcases cell2 i x _ hx hc with ⟨hx,hc⟩ | ⟨hi,hx,hc⟩ <;> rcases cell2 j y _ hy hc' with ⟨hy,hc'⟩ | ⟨hj,hy,hc'⟩
   ·exact r3 i j x y q1 q2 t1 t2 hij hx hy hc hc' g hg
   ·exact fun hg'=>dis1 g (inx i x q1 t1 hx hc g hg) (inu _ y q2 t2 hy hc' g hg')
   ·exact fun hg'=>dis1 g (inx j y q2 t2 hy hc' g hg') (inu _ x q1 t1 hx hc g hg)
   ·exact u3 _ _ x y q1 q2 t1 t2 (by omega) hx hy hc hc' g hg
  ·rw [setν_same] at hg
   refine ⟨?_,if_pos hg⟩;rcases q7 g hg with h | h
   ·exact .inl (Nat.le_trans I.kept.size h)
   ·exact (r5 g h).1
 ·have:DR (setν ν fr v') (σ₁.upd o.dst .any (appWN k0 q fr (.nst e e' mm sz (n+n') (ls++ms))) fr).nm w' G' (setν ν fr v' fr) (.own fr):=.own (upd_nm_fr ..) (by rw [setν_same];exact ownsRow_one p1)
  rw [setν_same] at this;exact this
end
end Go.Ab
