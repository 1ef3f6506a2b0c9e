/- The abstract machine: rows, rows of rows, maps. Conditions are in the theorems. -/
import Derived.Test.YtlhdefefoaldfaaGreatDoorE2
import Derived.MapKept
/- The abstract machine: the same laws from facts on types that a program can print. -/
namespace Go.Ab
open Go.RowKit
inductive Spl {α:Type}:List α->Nat->List α->List α->Prop
 | done {l:List α}:Spl l 0 [] l
 | skip {x:α} {l new l':List α} {off:Nat} (r:Spl l off new l'):Spl (x::l) (off+1) new (x::l')
 | put {x y:α} {l new l':List α} (r:Spl l 0 new l'):Spl (x::l) 0 (y::new) (y::l')
theorem Spl.eq {α:Type} {l new l':List α} {off:Nat} (h:Spl l off new l'):l'=splice l off new/\off+new.length<=l.length:=by
 induction h with
 | done=>simp [splice]
 | skip r ih=>exact ⟨by rw [ih.1];simp [splice,Nat.add_right_comm],by simp;have:=ih.2;omega⟩
 | put r ih=>exact ⟨by rw [ih.1];simp [splice],by simp;have:=ih.2;omega⟩
inductive CutL {α:Type}:List α->Nat->Nat->List α->Prop
 | done {l:List α}:CutL l 0 0 []
 | skip {x:α} {l ds:List α} {off m:Nat} (r:CutL l off m ds):CutL (x::l) (off+1) m ds
 | take {x:α} {l ds:List α} {m:Nat} (r:CutL l 0 m ds):CutL (x::l) 0 (m+1) (x::ds)
theorem CutL.eq {α:Type} {l ds:List α} {off m:Nat} (h:CutL l off m ds):(l.drop off).take m=ds/\ds.length=m:=by
 induction h with
 | done=>simp
 | skip r ih=>exact ⟨by simpa using ih.1,ih.2⟩
 | take r ih=>exact ⟨by simpa using ih.1,by simpa using ih.2⟩
inductive Fill (pl:List (Nat×Nat)):List D->List (Nat×D)->List D->Prop
 | nil {cells:List D}:Fill pl cells [] cells
 | cons {cells cells' out cs:List D} {i off size:Nat} {d:D} {rest:List (Nat×D)} (hp:pl[i]?=some (off,size)) (hv:d.val=true) (hc:d.cells=cs) (hl:cs.length=size) (hs:Spl cells off cs cells') (r:Fill pl cells' rest out):Fill pl cells ((i,d)::rest) out
theorem Fill.eq {pl:List (Nat×Nat)} {cells out:List D} {parts:List (Nat×D)} (h:Fill pl cells parts out):fillD pl cells parts=some out:=by
 induction h with
 | nil=>rfl
 | cons hp hv hc hl hs r ih=>
   obtain ⟨h1,h2⟩:=hs.eq
   subst hc
   simp only [fillD,hp]
   rw [if_pos (by simp [hv,hl];omega),← h1]
   exact ih
def rowT (P:Program) (t:TypeId):Option Bool:=(P.underlying t).map fun | .struct _ | .array _ _=>true | _=>false
theorem rowT_get {P:Program} {t:TypeId} {b:Bool} (h:rowT P t=some b):∃ d,P.underlying t=some d/\d.isRow=b:=by
 unfold rowT at h
 obtain ⟨d,h1,h2⟩:=Option.map_eq_some_iff.1 h
 refine ⟨d,h1,?_⟩
 rw [← h2]
 cases d <;> rfl
section
variable {P:Program} {o:Oper} {σ:St} {fr:Nat}
theorem ld1 {t:TypeId} {x:Operand} {k off:Nat} {ob:AObj} {d:D} (hu:rowT P t=some false) (ho:o.op = .load t x) (hx:σ.ev x=some (.ref k off)) (hk:σ.H k=some ob) (hc:ob.cells[off]?=some d):OpOk P o σ fr d []:=by
 obtain ⟨dsc,h1,h2⟩:=rowT_get hu
 exact ok_load1 ho h1 h2 hx hk hc
theorem ldn {t:TypeId} {x:Operand} {k off m:Nat} {ob:AObj} {ds:List D} (hu:rowT P t=some true) (hi:(P.info? t).map (·.size)=some m) (ho:o.op = .load t x) (hx:σ.ev x=some (.ref k off)) (hk:σ.H k=some ob) (hc:(ob.cells.drop off).take m=ds) (hm:ds.length=m):OpOk P o σ fr (.agg ds) []:=by
 obtain ⟨dsc,h1,h2⟩:=rowT_get hu
 exact ok_loadn ho h1 h2 hi hx hk hc hm
theorem put_row {e:TypeId} {s n off:Nat} {ts xs:List Tree} {new:List D} (h:off+new.length<=ts.length) (hx:asTrees new=some xs):(AObj.row e s n ts false).put off new=some (.row e s n (splice ts off xs) false):=by
 simp only [AObj.put]
 rw [if_pos ⟨h,trivial⟩,hx]
 rfl
theorem str {t e:TypeId} {x y:Operand} {k off s n:Nat} {ts xs:List Tree} {d:D} (hy:EvT σ y d) (ho:o.op = .store t x y) (hi:(P.info? t).map (·.size)=some d.cells.length) (hx:σ.ev x=some (.ref k off)) (hv:d.val=true) (hk:σ.H k=some (.row e s n ts false))
    (h:off+d.cells.length<=ts.length) (hxs:asTrees d.cells=some xs) (hpos:0 < d.cells.length):OpOk P o σ fr (.tup []) [(k,some (.row e s n (splice ts off xs) false))]:=ok_store ho hi hx hy hv hk (put_row h hxs) hpos
theorem lp1 {t:TypeId} {x:Operand} {ts:List Tree} {off:Nat} {tr:Tree} (hu:rowT P t=some false) (ho:o.op = .load t x) (hx:σ.ev x=some (.ptr ts off)) (hc:ts[off]?=some tr):OpOk P o σ fr (.t tr) []:=by
 obtain ⟨dsc,h1,h2⟩:=rowT_get hu
 exact ok_loadp1 ho h1 h2 hx hc
theorem lpn {t:TypeId} {x:Operand} {ts xs:List Tree} {off m:Nat} (hu:rowT P t=some true) (hi:(P.info? t).map (·.size)=some m) (ho:o.op = .load t x) (hx:σ.ev x=some (.ptr ts off)) (hc:(ts.drop off).take m=xs) (hm:xs.length=m):OpOk P o σ fr (.agg (xs.map .t)) []:=by
 obtain ⟨dsc,h1,h2⟩:=rowT_get hu
 exact ok_loadpn ho h1 h2 hi hx hc hm
theorem ok_alloc {e:TypeId} {z:Value} (ho:o.op = .alloc e) (hz:(P.info? e).bind (·.zero)=some z) (h1:constOk z=true):OpOk P o σ fr (.ref fr 0) [(fr,some (.box e (ofVal z).cells))]:=by
 intro E σ₁ a w hT hH h100 hf hd hR Q
 obtain ⟨i,hi,hz'⟩:=Option.bind_eq_some_iff.1 hz
 have hb:OpOk P { o with op:=.box e (.const z) } σ fr (.ref fr 0) [(fr,some (.box e (ofVal z).cells))]:=ok_box rfl (by simp [St.ev,h1]) (by cases z <;> first | rfl | cases h1)
 have h:=hb E σ₁ a w hT hH h100 hf hd hR Q
 unfold Oper.wp at h ⊢
 have he:(execOp a.eval o).run P w=(execOp a.eval { o with op:=.box e (.const z) }).run P w:=by
  unfold execOp
  rw [ho]
  simp [Instr.alloc,Instr.box,zeroValue,typeInfo,hi,hz',Act.eval]
 rw [he]
 exact h
theorem zeros_get (z:List Value) (hz:0 < z.length):∀ (len i:Nat),i < len * z.length->((List.replicate len z).flatten)[i]?=z[i % z.length]?
 | 0,i,h=>by omega
 | len+1,i,h=>by
   rw [List.replicate_succ,List.flatten_cons]
   by_cases hi:i < z.length
   ·rw [List.getElem?_append_left hi,Nat.mod_eq_of_lt hi]
   ·rw [List.getElem?_append_right (by omega),zeros_get z hz len (i - z.length) (by rw [Nat.add_mul,Nat.one_mul] at h;omega)]
    congr 1
    conv=>rhs;rw [show i=(i - z.length)+z.length by omega,Nat.add_mod_right]
theorem LitT.of {t e:TypeId} {z:Value} {s bytes:Nat} (hT:AppT P t e z s bytes) (h1:∀ u ∈ z.cells.toList,u.oneCell'=true) (len:Nat) (hl:len * s<=2 ^ 24):LitT P t e s len (List.replicate len z.cells.toList).flatten:=by
 have hs:=hT.s
 have hzl:z.cells.toList.length=s:=by rw [Array.length_toList];exact hT.z
 have hlen:(List.replicate len z.cells.toList).flatten.length=len * s:=by simp [hT.z]
 refine ⟨hT.u,fun u hu=>?_,hlen,?_,fun w parts cells hf=>?_⟩
 ·obtain ⟨l,h2,h3⟩:=List.mem_flatten.1 hu
  rw [(List.mem_replicate.1 h2).2] at h3
  exact h1 u h3
 ·have:len<=len * s:=Nat.le_mul_of_pos_right _ hs
  unfold maxLen;omega
 ·obtain ⟨i,hi,hz,hsz,hby⟩:=info_parts hT.i
  by_cases h0:len=0
  ·subst h0
   simp at hf
   have h9:∀ f:Nat->Value,Array.map f (Array.range 0) = #[]:=fun f=>by simp
   simp [Instr.buildSlice,run_underlying hT.u,sizeOf,typeInfo,hi,hsz,newRow,h9,hf]
  ·refine run_buildSlice w t e len parts cells i z hT.u hi hz (by rw [hsz];omega) (by rw [hsz];exact Nat.mul_ne_zero h0 (by omega)) ?_
   rw [hsz]
   have:(Array.range (len * s)).map (z.cells[· % z.cells.size]!)=(List.replicate len z.cells.toList).flatten.toArray:=by
    apply Array.ext_getElem?
    intro j
    by_cases hj:j < len * s
    ·have hm:j % z.cells.size < z.cells.size:=Nat.mod_lt _ (by rw [hT.z];exact hs)
     have e1:((Array.range (len * s)).map (z.cells[· % z.cells.size]!))[j]?=z.cells[j % z.cells.size]?:=by simp [hj,hm]
     have e2:=zeros_get z.cells.toList (by rw [hzl];exact hs) len j (by rw [hzl];exact hj)
     rw [hzl,← hT.z] at e2
     rw [e1]
     simpa using e2.symm
    ·rw [Array.getElem?_eq_none (by simp;omega),Array.getElem?_eq_none (by rw [List.size_toArray,hlen];omega)]
   rw [this]
   exact hf
end
theorem ent_of_act {E:Env} {s s':St} (h:∀ (a:Act) (w:World),R E s a.tmps w->R E s' a.tmps w):Ent E s s':=fun tm w hR=>h ⟨tm,[]⟩ w hR
theorem ent_seal {E:Env} {T:Nat->Option D} {H:Nat->Option AObj} {N:Nat} (k:Nat) {e:TypeId} {s n:Nat} {ts:List Tree} (hk:H k=some (.row e s n ts false)):
    Ent E (mk T H N) (mk T (fun j=>if k=j then some (.row e s n ts true) else H j) N):=by
 refine ent_of_act fun a w ⟨ν,G,I⟩=>⟨ν,fun b=>if blk (ν k)=some b then n * s else G b,?_⟩
 obtain ⟨hn,xs,r1,r2,r3,r4⟩:=I.H k _ hk
 have hcell:∀ b i u,Cell w G b i u->Cell w (fun b=>if blk (ν k)=some b then n * s else G b) b i u:=fun b i u hc=>by
  refine ⟨hc.1,?_⟩
  have h2:=hc.2
  by_cases hb:blk (ν k)=some b
  ·have:=(r4 b hb).2
   rw [this] at h2
   simp at h2
  ·simp only [if_neg hb];exact h2
 refine ⟨I.kept,fun b i u hc=>hcell b i u (I.keep b i u hc),I.pin,fun b hb hX=>?_,I.sz,fun t d ht=>?_,fun j o hj=>?_,fun j1 o1 j2 o2 h1 h2 hne=>?_⟩
 ·have hne:blk (ν k)≠some b:=fun e=>by
   rcases (r4 b e).1 with h | h
   ·omega
   ·exact hX h
  simp only [if_neg hne]
  exact I.g0 b hb hX
 ·obtain ⟨v,hv,hdv⟩:=I.T t d ht
  exact ⟨v,hv,hdv.mono (fun _ h=>⟨h,rfl⟩) hcell⟩
 ·by_cases hjk:k=j
  ·subst hjk
   simp only [if_true,Option.some.injEq] at hj
   subst hj
   exact ⟨hn,xs,r1,r2,fun i u t hu ht=>(r3 i u t hu ht).mono hcell,fun g hg=>⟨(r4 g hg).1,by simp [hg]⟩⟩
  ·simp only [if_neg hjk] at hj
   obtain ⟨q1,q2⟩:=I.H j o hj
   refine ⟨q1,q2.mono q1 (fun _ h=>⟨h,rfl⟩) hcell (fun g hg=>⟨rfl,if_neg (fun e=>?_)⟩)⟩
   exact I.dis j o k _ hj hk (fun e=>hjk e.symm) g hg e
 ·have back:∀ j o,(if k=j then some (.row e s n ts true) else H j)=some o->∃ o',H j=some o'/\∀ g,foot w (ν j) o g->foot w (ν j) o' g:=fun j o h=>by
   by_cases hj:k=j
   ·subst hj;simp only [if_true,Option.some.injEq] at h;subst h;exact ⟨_,hk,fun _ h=>h⟩
   ·rw [if_neg hj] at h;exact ⟨o,h,fun _ h=>h⟩
  obtain ⟨p1,hp1,f1⟩:=back j1 o1 h1
  obtain ⟨p2,hp2,f2⟩:=back j2 o2 h2
  exact fun g hg hg'=>I.dis j1 p1 j2 p2 hp1 hp2 hne g (f1 g hg) (f2 g hg')
inductive Empt:AObj->Prop
 | row {e:TypeId} {s:Nat} {st:Bool}:Empt (.row e s 0 [] st)
 | nest {e e':TypeId} {s:Nat}:Empt (.nest e e' s [])
 | nst {e e':TypeId} {m s:Nat}:Empt (.nst e e' m s 0 [])
theorem Empt.ok {o:AObj} (h:Empt o) {E:Env} {ν:Nat->Value} {nm:Nat->Bool} {w:World} {G:Lim} {k:Nat} (hk:ν k = .slice none 0 0):ObjOk E ν nm w G k o:=by
 cases h with
 | row=>exact ⟨[],by rw [hk];exact World.ownsRow_nil w 0 _ _,rfl,fun i u t h=>by simp at h,fun g hg=>by rw [hk] at hg;cases hg⟩
 | nest=>exact ⟨[],by rw [hk];exact World.ownsRow_nil w 0 _ _,fun i x p h=>by simp at h,fun i j x y _ h=>by simp at h,fun i x h=>by simp at h,fun g hg=>by rw [hk] at hg;cases hg⟩
 | nst=>exact ⟨[],by rw [hk];exact World.ownsRow_nil w 0 _ _,rfl,fun i x d h=>by simp at h,fun i x q ts h=>by simp at h,fun i j x y q q' ts ts' _ h=>by simp at h,fun i x q ts h=>by simp at h,fun g hg=>by rw [hk] at hg;cases hg⟩
theorem Empt.foot {o:AObj} (h:Empt o) {w:World} {g:Nat}:¬ Ab.foot w (.slice none 0 0) o g:=by
 cases h with
 | row=>intro h;cases h
 | nest=>
   rintro (h | ⟨_,_,_,h,_⟩)
   ·cases h
   ·cases h
 | nst=>
   rintro (h | ⟨_,_,_,_,_,h,_⟩)
   ·cases h
   ·cases h
theorem ent_nilobj {E:Env} {T:Nat->Option D} {H:Nat->Option AObj} {N:Nat} (t:Nat) {o:AObj} (ho:Empt o) (ht:T t=some (.t (.v (.slice none 0 0)))) (hN:100<=N):
    Ent E (mk T H N) (mk (fun x=>if t=x then some (.own N) else T x) (fun k=>if N=k then some o else H k) (N+8)):=by
 refine ent_of_act fun a w ⟨ν,G,I⟩=>?_
 obtain ⟨v,hv,hdv⟩:=I.T t _ ht
 have hv':=bool_of hdv
 subst hv'
 have htm:t < E.m:=by rw [← I.sz];exact (Array.getElem?_eq_some_iff.1 hv).1
 have hI:=I.newL (a:=a) (fr:=N) (dst:=some t) (W:=[(N,some o)]) hN (fun k hk _=>by simp;exact hk) (fun t' h=>by cases h;exact htm) [] (fun k=>by
  by_cases h:k=N
  ·subst h;simp [look]
  ·simp [look,h,Ne.symm h]) rfl rfl rfl (Nat.le_refl _) (fun _ _ _=>⟨rfl,rfl⟩) (fun _ _ _ h=>h) (x:=.slice none 0 0) (fun g hg=>absurd hg ho.foot) (ho.ok setν_same) (v:=.slice none 0 0) (d:=.own N) (by
   have:DR (setν ν N (.slice none 0 0)) ((mk T H N).upd (some t) .any [(N,some o)] N).nm w G (setν ν N (.slice none 0 0) N) (.own N):=.own (upd_nm_fr ..) (by rw [setν_same];rfl)
   rw [setν_same] at this
   exact this)
 have he:(a.put (some t) (.slice none 0 0)).tmps=a.tmps:=by
  apply Array.ext_getElem?
  intro i
  simp only [Act.put]
  by_cases hi:t=i
  ·subst hi
   rw [hv,Array.getElem?_setIfInBounds]
   simp [(Array.getElem?_eq_some_iff.1 hv).1]
  ·rw [Array.getElem?_setIfInBounds_ne hi]
 rw [he] at hI
 have hR:R E ((mk T H N).upd (some t) (.own N) [(N,some o)] N) a.tmps w:=⟨_,_,hI⟩
 have hb:=hR.bound (N:=N+8) (fun k hk=>by simp [St.upd];omega)
 have e1:((mk T H N).upd (some t) (.own N) [(N,some o)] N).T=fun x=>if t=x then some (.own N) else T x:=by
  funext x
  simp [St.upd]
 have e2:((mk T H N).upd (some t) (.own N) [(N,some o)] N).H=fun k=>if N=k then some o else H k:=by
  funext k
  simp only [St.upd,look]
  by_cases hk:N=k <;> simp [hk]
 rw [e1,e2] at hb
 exact hb
theorem flat_len {α:Type} {f:α->List Tree} {s:Nat} (h:∀ x,(f x).length=s) (l:List α):(l.flatMap f).length=l.length * s:=by
 induction l with
 | nil=>simp
 | cons a l ih=>rw [List.flatMap_cons,List.length_append,h,ih,List.length_cons,Nat.add_mul];omega
theorem flat_get {α:Type} {f:α->List Tree} {s:Nat} (h:∀ x,(f x).length=s) {l:List α}:∀ {i:Nat} {x:α},l[i]?=some x->∀ j,j < s->(l.flatMap f)[i * s+j]?=(f x)[j]?:=by
 induction l with
 | nil=>intro i x h;simp at h
 | cons a l ih=>
   intro i x hx j hj
   rw [List.flatMap_cons]
   cases i with
   | zero=>simp at hx;subst hx;rw [Nat.zero_mul,Nat.zero_add,List.getElem?_append_left (by rw [h];exact hj)]
   | succ i=>
     rw [List.getElem?_append_right (by rw [h,Nat.add_mul];omega),h,show (i+1) * s+j - s=i * s+j by rw [Nat.add_mul];omega]
     exact ih (by simpa using hx) j hj
end Go.Ab
/- The abstract machine: rows that are made. -/
namespace Go.Ab
open Go.RowKit
inductive ZTs:List Value->List Tree->Prop
 | nil:ZTs [] []
 | v {x:Value} {l:List Value} {ts:List Tree} (h:x.oneCell'=true) (r:ZTs l ts):ZTs (x::l) (.v x::ts)
 | sl {l:List Value} {ts:List Tree} (r:ZTs l ts):ZTs (.slice none 0 0::l) (.sl 0 []::ts)
theorem ZTs.append {l l':List Value} {ts ts':List Tree} (h:ZTs l ts) (h':ZTs l' ts'):ZTs (l++l') (ts++ts'):=by
 induction h with
 | nil=>exact h'
 | v h r ih=>exact .v h ih
 | sl r ih=>exact .sl ih
theorem ZTs.reps {l:List Value} {ts:List Tree} (h:ZTs l ts):∀ n,ZTs (List.replicate n l).flatten (List.replicate n ts).flatten
 | 0=>.nil
 | n+1=>by rw [List.replicate_succ,List.replicate_succ,List.flatten_cons,List.flatten_cons];exact h.append (h.reps n)
theorem ZTs.rel {l:List Value} {ts:List Tree} (h:ZTs l ts) (w:World) (G:Lim):l.length=ts.length/\∀ (i:Nat) (u:Value) (t:Tree),l[i]?=some u->ts[i]?=some t->TR w G u t:=by
 induction h with
 | nil=>exact ⟨rfl,fun i u t h=>by simp at h⟩
 | v h r ih=>
   refine ⟨by simp [ih.1],fun i u t hu ht=>?_⟩
   cases i with
   | zero=>simp at hu ht;subst hu ht;exact .v _ h
   | succ i=>exact ih.2 i u t (by simpa using hu) (by simpa using ht)
 | sl r ih=>
   refine ⟨by simp [ih.1],fun i u t hu ht=>?_⟩
   cases i with
   | zero=>simp at hu ht;subst hu ht;exact .nil (fun _=>rfl)
   | succ i=>exact ih.2 i u t (by simpa using hu) (by simpa using ht)
theorem made_eq {z:Value} {s:Nat} (hz:z.cells.size=s) (hs:0 < s) (n:Nat):(madeCells z.cells (n * s)).toList=(List.replicate n z.cells.toList).flatten:=by
 apply List.ext_getElem?
 intro j
 have hzl:z.cells.toList.length=s:=by rw [Array.length_toList];exact hz
 by_cases hj:j < n * s
 ·have hm:j % z.cells.size < z.cells.size:=Nat.mod_lt _ (by rw [hz];exact hs)
  have e2:=zeros_get z.cells.toList (by rw [hzl];exact hs) n j (by rw [hzl];exact hj)
  rw [e2,hzl,← hz]
  simp only [madeCells,Array.toList_map,Array.toList_range,List.getElem?_map,List.getElem?_range,hz,hj,Option.map_some]
  rw [hz] at hm
  rw [Array.getElem?_toList]
  rw [getElem!_pos _ _ (by rw [hz];exact hm),Array.getElem?_eq_getElem (by rw [hz];exact hm)]
 ·rw [List.getElem?_eq_none (by rw [Array.length_toList,size_madeCells];omega),List.getElem?_eq_none (by simp [hz];omega)]
section
variable {P:Program} {o:Oper} {σ:St} {fr:Nat}
theorem ok_make {t e:TypeId} {z:Value} {s bytes:Nat} (st:Bool) {l c:Operand} {n:Nat} {zt:List Tree} (hT:AppT P t e z s bytes) (hz:ZTs z.cells.toList zt) (ho:o.op = .makeSlice t l c) (hl:σ.ev l=some (I n)) (hc:σ.ev c=some (I n))
    (hb:bytes * n<=281474976710656/\n<=maxLen):OpOk P o σ fr (.own fr) [(fr,some (.row e s n (List.replicate n zt).flatten st))]:=by
 intro E σ₁ a w hTT hHH h100 hf hd ⟨ν,G,I⟩ Q
 obtain ⟨i,hi,hz',h2,h3⟩:=info_parts hT.i
 have hlv:=bool_of (I.ev (St.ev_le hTT hl))
 have hcv:=bool_of (I.ev (St.ev_le hTT hc))
 obtain ⟨w',hr,r1,r2⟩:=run_make_full (P:=P) w 0 t e i z s hT.u hi hz' h2 .i64 .i64 n (by rw [h3];exact hb.1) hb.2 (Nat.zero_le _)
 have hB:(i.bytes:Int) * (n:Int)<=281474976710656:=by
  have h:((i.bytes * n:Nat):Int)<=281474976710656:=by rw [h3];omega
  rwa [Int.natCast_mul] at h
 have hr2:=run_make (P:=P) w t e i z hT.u hi hz' .i64 .i64 n n (by omega) (Int.le_refl _) hB (by have:=hb.2;simp only [maxLen] at this;omega)
 simp only [Int.toNat_natCast] at hr2
 rw [hr] at hr2
 have hw:w'=w.alloc (.cells (madeCells z.cells (n * i.size)) e):=by injection hr2
 have hA:Aft w w':=hw ▸ (Aft.refl w).alloc _
 have hG:∀ b,b < w.heap.size->(fun b=>if b=w.heap.size then (if st then n * s else 0) else G b) b=G b:=fun b hb=>if_neg (by omega)
 have he:(execOp a.eval o).run P w = .ok (.value (.slice (some ⟨w.heap.size,0,none⟩) n n)) w':=by
  unfold execOp
  rw [ho]
  simp [hlv,hcv,hr]
 unfold Oper.wp
 rw [he,Oper.upon_value]
 have hzr:=(hz.reps n).rel w' (fun b=>if b=w.heap.size then (if st then n * s else 0) else G b)
 rw [← made_eq hT.z hT.s] at hzr
 refine ⟨put_defers ..,_,_,I.fresh (G':=fun b=>if b=w.heap.size then (if st then n * s else 0) else G b) h100 hf hd hA hG (x:=.slice (some ⟨w.heap.size,0,none⟩) n n) (fun g hg=>by cases hg;exact Nat.le_refl _) ?_ ?_⟩
 ·refine ⟨_,by rw [setν_same];exact r1,hzr.1,hzr.2,fun g hg=>?_⟩
  rw [setν_same] at hg
  cases hg
  exact ⟨.inl I.kept.size,if_pos rfl⟩
 ·have:DR (setν ν fr (.slice (some ⟨w.heap.size,0,none⟩) n n)) (σ₁.upd o.dst .any [(fr,some (.row e s n (List.replicate n zt).flatten st))] fr).nm w' (fun b=>if b=w.heap.size then (if st then n * s else 0) else G b) (setν ν fr (.slice (some ⟨w.heap.size,0,none⟩) n n) fr) (.own fr):=.own (upd_nm_fr ..) (by rw [setν_same];rfl)
  rw [setν_same] at this
  exact this
end
inductive RV (P:Program) (σ:St):ResultVar->D->Prop
 | tmp {t:Tmp} {d:D} (h:σ.T t=some d):RV P σ (.tmp t) d
 | row {p:Tmp} {t:TypeId} {k m:Nat} {e:TypeId} {ds:List D} (hp:σ.T p=some (.ref k 0)) (hk:σ.H k=some (.box e ds)) (hu:rowT P t=some true) (hi:(P.info? t).map (·.size)=some m) (hm:ds.length=m):RV P σ (.cell p t) (.agg ds)
 | one {p:Tmp} {t:TypeId} {k:Nat} {e:TypeId} {d:D} (hp:σ.T p=some (.ref k 0)) (hk:σ.H k=some (.box e [d])) (hu:rowT P t=some false):RV P σ (.cell p t) d
def rvRun (tm:Array Value):ResultVar->Sem Value
 | .tmp t=>pure (tm.getD t undef)
 | .cell a t=>do loadVar t (← asAddr (tm.getD a undef))
theorem RV.run {P:Program} {σ:St} {rv:ResultVar} {d:D} (h:RV P σ rv d) {E:Env} {ν:Nat->Value} {G:Lim} {w:World} {tm:Array Value} (I:Inv E σ ν G w tm):∃ v,(rvRun tm rv).run P w = .ok v w/\DR ν σ.nm w G v d:=by
 have get:∀ p d,σ.T p=some d->DR ν σ.nm w G (tm.getD p undef) d:=fun p d hp=>by
  obtain ⟨v,hv,hd⟩:=I.T p d hp
  have:tm.getD p undef=v:=by simp [Array.getD_eq_getD_getElem?,hv]
  rw [this]
  exact hd
 cases h with
 | tmp h=>exact ⟨_,rfl,get _ _ h⟩
 | @row p t k m e ds hp hk hu hi hm=>
   obtain ⟨g,hg,hv,_⟩:=ref_of (get _ _ hp)
   obtain ⟨dsc,h1,h2⟩:=rowT_get hu
   have hob:=(I.H k _ hk).2
   have hall:∀ i,i < m->∃ u,w.cell? ⟨g,0+i,none⟩=some u/\∀ d,ds[i]?=some d->DR ν σ.nm w G u d/\u.oneCell'=true:=fun i h=>by
    have hd:ds[i]?=some ds[i]:=List.getElem?_eq_getElem (by omega)
    obtain ⟨g',u,hg',hcu,hdu,h1⟩:=hob.cell (o:=.box e ds) hd
    rw [hg] at hg';cases hg'
    exact ⟨u,by rw [Nat.zero_add];exact hcu,fun d h=>by rw [hd] at h;cases h;exact ⟨hdu,h1⟩⟩
   let cs:List Value:=(List.range m).map fun i=>(w.cell? ⟨g,0+i,none⟩).getD undef
   have hcs:∀ i u,cs[i]?=some u->i < m/\w.cell? ⟨g,0+i,none⟩=some u:=fun i u h=>by
    have hi:i < m:=by simpa [cs] using (List.getElem?_eq_some_iff.1 h).1
    obtain ⟨u',h',_⟩:=hall i hi
    have h2:cs[i]?=some u':=by
     show ((List.range m).map fun i=>(w.cell? ⟨g,0+i,none⟩).getD undef)[i]?=some u'
     rw [List.getElem?_map,List.getElem?_range hi]
     simp only [Option.map_some,h',Option.getD_some]
    rw [h2] at h
    cases h
    exact ⟨hi,h'⟩
   refine ⟨.agg cs.toArray,?_,.agg (by simp [cs,hm]) (fun i u d h h'=>?_) (fun u h=>?_)⟩
   ·simp only [rvRun,hv,asAddr,Sem.run_bind,Sem.run_pure,Result.andThen_ok]
    exact run_loadVar_mid w g 0 t cs dsc (fun j v h=>(hcs j v h).2) h1 h2 (by rw [hi];simp [cs])
   ·obtain ⟨hi,hcu⟩:=hcs i u (by simpa using h)
    obtain ⟨u',h1,h2⟩:=hall i hi
    rw [hcu] at h1;cases h1
    exact (h2 d h').1
   ·obtain ⟨i,hiu⟩:=List.mem_iff_getElem?.1 (by simpa using h:u ∈ cs)
    obtain ⟨hi,hcu⟩:=hcs i u hiu
    obtain ⟨u',h1,h2⟩:=hall i hi
    rw [hcu] at h1;cases h1
    exact (h2 _ (List.getElem?_eq_getElem (by omega))).2
 | @one p t k e d hp hk hu=>
   obtain ⟨g,hg,hv,_⟩:=ref_of (get _ _ hp)
   obtain ⟨dsc,h1,h2⟩:=rowT_get hu
   obtain ⟨g',u,hg',hcu,hdu,_⟩:=(I.H k _ hk).2.cell (o:=.box e [d]) (i:=0) rfl
   rw [hg] at hg';cases hg'
   refine ⟨u,?_,hdu⟩
   have h:=run_load1 h1 h2 hcu
   simp only [Instr.loadAt,Instr.sureAddr,Sem.run_bind,Sem.run_pure,Result.andThen_ok] at h
   simp only [rvRun,hv,asAddr,Sem.run_bind,Sem.run_pure,Result.andThen_ok]
   exact h
theorem RV.all {P:Program} {σ:St} {rv:ResultVar} {d:D} (h:RV P σ rv d) {E:Env} {w:World} {tm:Array Value} (hR:R E σ tm w):∃ v,(rvRun tm rv).run P w = .ok v w/\∀ ν G,Inv E σ ν G w tm->DR ν σ.nm w G v d:=by
 obtain ⟨ν,G,I⟩:=hR
 obtain ⟨v,hv,_⟩:=h.run I
 refine ⟨v,hv,fun ν' G' I'=>?_⟩
 obtain ⟨v',hv',hd'⟩:=h.run I'
 rw [hv] at hv'
 cases hv'
 exact hd'
theorem results_rv (fn:Func) (tm:Array Value):results fn tm=(do
    let vs ← fn.results.mapM (rvRun tm)
    pure (if h:vs.size=1 then vs[0] else .tuple vs)):=by
 unfold results
 congr 1
abbrev RetC (rn:List (Nat×Nat)) (H':List (Nat×AObj)):Prop:=(rn.all (fun p=>decide (p.1 < 50)||decide (100<=p.1))&&decide ((H'.map fun p=>rnm rn p.1).Nodup)&&H'.all (fun p=>decide (p.1 < 108)))=true
section
variable {P:Program} {fn:Func} {E:Env} {σ:St} {r:D} {H':List (Nat×AObj)}
theorem tup2 {ν:Nat->Value} {nm:Nat->Bool} {w:World} {G:Lim} {v1 v2:Value} {d1 d2:D} (h1:DR ν nm w G v1 d1) (h2:DR ν nm w G v2 d2):DR ν nm w G (.tuple #[v1,v2]) (.tup [d1,d2]):=.tup rfl fun i u d hu hd=>by
 match i with
 | 0=>simp at hu hd;subst hu hd;exact h1
 | 1=>simp at hu hd;subst hu hd;exact h2
 | i+2=>simp at hu
theorem tup3 {ν:Nat->Value} {nm:Nat->Bool} {w:World} {G:Lim} {v1 v2 v3:Value} {d1 d2 d3:D} (h1:DR ν nm w G v1 d1) (h2:DR ν nm w G v2 d2) (h3:DR ν nm w G v3 d3):DR ν nm w G (.tuple #[v1,v2,v3]) (.tup [d1,d2,d3]):=.tup rfl fun i u d hu hd=>by
 match i with
 | 0=>simp at hu hd;subst hu hd;exact h1
 | 1=>simp at hu hd;subst hu hd;exact h2
 | 2=>simp at hu hd;subst hu hd;exact h3
 | i+3=>simp at hu
end
theorem ent_nilcello {E:Env} {T:Nat->Option D} {H:Nat->Option AObj} {N:Nat} (k i:Nat) {o0:AObj} (h0:Empt o0) {e':TypeId} {ds:List D} (hk:H k=some (.box e' ds)) (hi:ds[i]?=some (.t (.v (.slice none 0 0)))) (hN:100<=N):
    Ent E (mk T H N) (mk T (fun j=>if N=j then some o0 else if k=j then some (.box e' (ds.set i (.own N))) else H j) (N+8)):=by
 refine ent_of_act fun a w ⟨ν,G,I⟩=>?_
 have lt:∀ j,(mk T H N).nm j=true->j < N:=fun j hj=>by simpa using hj
 have ne:∀ j,(mk T H N).nm j=true->setν ν N (.slice none 0 0) j=ν j:=fun j hj=>setν_ne (by have:=lt j hj;omega)
 have hn:∀ j,(mk T H N).nm j=true->decide (j < N+8)=true/\setν ν N (.slice none 0 0) j=ν j:=fun j hj=>⟨by have:=lt j hj;simp;omega,ne j hj⟩
 have old:∀ j o,H j=some o->j < N:=fun j o hj=>lt j (I.H j o hj).1
 have back:∀ j o,(if N=j then some o0 else if k=j then some (.box e' (ds.set i (.own N))) else H j)=some o->j=N\/(j < N/\∃ o',H j=some o'):=fun j o h=>by
  by_cases h1:N=j
  ·exact .inl h1.symm
  ·rw [if_neg h1] at h
   by_cases h2:k=j
   ·subst h2;exact .inr ⟨old _ _ hk,_,hk⟩
   ·rw [if_neg h2] at h;exact .inr ⟨old _ _ h,_,h⟩
 refine ⟨setν ν N (.slice none 0 0),G,I.kept,I.keep,fun j h1 h2=>?_,I.g0,I.sz,fun t d ht=>?_,fun j o hj=>?_,fun j1 o1 j2 o2 h1 h2 hne g hg=>?_⟩
 ·rw [setν_ne (by omega)];exact I.pin j h1 h2
 ·obtain ⟨v,hv,hdv⟩:=I.T t d ht
  exact ⟨v,hv,hdv.mono hn (fun _ _ _ h=>h)⟩
 ·rcases back j o hj with rfl | ⟨hlt,o',ho'⟩
  ·simp only [if_true,Option.some.injEq] at hj
   subst hj
   exact ⟨by simp,h0.ok setν_same⟩
  ·obtain ⟨q1,q2⟩:=I.H j o' ho'
   have q3:=q2.mono (ν':=setν ν N (.slice none 0 0)) (nm':=fun j=>decide (j < N+8)) q1 hn (fun _ _ _ h=>h) (fun g _=>⟨rfl,rfl⟩)
   refine ⟨by simp;omega,?_⟩
   simp only [if_neg (show ¬ N=j by omega)] at hj
   by_cases h2:k=j
   ·subst h2
    rw [if_pos rfl] at hj
    rw [hk] at ho'
    cases ho'
    cases hj
    obtain ⟨g,cur,z1,z2,z3,z4,z5,z6⟩:=q3
    refine ⟨g,cur,z1,z2,z3,z4,by rw [List.length_set];exact z5,fun m u d hu hd=>?_⟩
    by_cases hm:i=m
    ·subst hm
     have hlt2:i < ds.length:=(List.getElem?_eq_some_iff.1 hi).1
     rw [List.getElem?_set_self hlt2] at hd
     cases hd
     obtain ⟨y1,y2⟩:=z6 i u _ hu hi
     have:=bool_of y1
     subst this
     refine ⟨?_,y2⟩
     have hown:DR (setν ν N (.slice none 0 0)) (fun j=>decide (j < N+8)) w G (setν ν N (.slice none 0 0) N) (.own N):=.own (by simp) (by rw [setν_same];rfl)
     rw [setν_same] at hown
     exact hown
    ·rw [List.getElem?_set_ne hm] at hd
     exact z6 m u d hu hd
   ·rw [if_neg h2] at hj
    rw [hj] at ho'
    cases ho'
    exact q3
 ·have fb:∀ j o,j < N->(if N=j then some o0 else if k=j then some (.box e' (ds.set i (.own N))) else H j)=some o->∃ o',H j=some o'/\∀ g,foot w (ν j) o g->foot w (ν j) o' g:=fun j o hlt h=>by
   rw [if_neg (by omega)] at h
   by_cases h2:k=j
   ·subst h2;rw [if_pos rfl] at h;cases h;exact ⟨_,hk,fun _ h=>h⟩
   ·rw [if_neg h2] at h;exact ⟨o,h,fun _ h=>h⟩
  rcases back j1 o1 h1 with rfl | ⟨l1,p1,hp1⟩
  ·rw [setν_same] at hg
   simp only [if_true,Option.some.injEq] at h1
   subst h1
   exact absurd hg h0.foot
  ·rcases back j2 o2 h2 with rfl | ⟨l2,p2,hp2⟩
   ·rw [setν_same]
    simp only [if_true,Option.some.injEq] at h2
    subst h2
    exact h0.foot
   ·rw [setν_ne (by omega)] at hg ⊢
    obtain ⟨y1,z1,f1⟩:=fb j1 o1 l1 h1
    obtain ⟨y2,z2,f2⟩:=fb j2 o2 l2 h2
    exact fun hg'=>I.dis j1 y1 j2 y2 z1 z2 hne g (f1 g hg) (f2 g hg')
theorem flat_put {α:Type} {f:α->List Tree} {s:Nat} (h:∀ x,(f x).length=s) {x:α}:∀ {l:List α} {i:Nat},i < l.length->splice (l.flatMap f) (i * s) (f x)=(l.set i x).flatMap f
 | [],i,hi=>by simp at hi
 | y::l,0,_=>by
   simp only [splice,Nat.zero_mul,List.take_zero,List.nil_append,Nat.zero_add,List.set_cons_zero,List.flatMap_cons,h x]
   rw [List.drop_append_of_le_length (by rw [h];exact Nat.le_refl _),List.drop_eq_nil_of_le (by rw [h];exact Nat.le_refl _),List.nil_append]
 | y::l,i+1,hi=>by
   have ih:=flat_put h (x:=x) (l:=l) (i:=i) (by simpa using hi)
   rw [List.set_cons_succ,List.flatMap_cons,List.flatMap_cons,← ih]
   have e1:(i+1) * s=s+i * s:=by rw [Nat.add_mul];omega
   simp only [splice,e1]
   rw [h x,List.take_append,List.drop_append,h y,List.take_of_length_le (by rw [h];omega),List.drop_eq_nil_of_le (by rw [h];omega),List.nil_append,Nat.add_sub_cancel_left,show s+i * s+s - s=i * s+s by omega,List.append_assoc,List.append_assoc,List.append_assoc]
end Go.Ab
/- The abstract machine: rows of rows of the walk's own, whose cells may be stored into. -/
namespace Go.Ab
open Go.RowKit
theorem inner_obj {E:Env} {nm:Nat->Bool} {w:World} {G:Lim} {e':TypeId} {s n:Nat} {x:Value} {ys:List Value} {ts:List Tree} (y1:w.ownsRow 0 e' s x n ys) (y2:ys.length=ts.length)
    (y3:∀ (i:Nat) (u:Value) (t:Tree),ys[i]?=some u->ts[i]?=some t->TR w G u t) (y4:∀ g,blk x=some g->E.may g/\G g=0):ObjOk E (fun _=>x) nm w G 0 (.row e' s n ts false):=
 ⟨ys,y1,y2,y3,fun g hg=>by simpa using y4 g hg⟩
theorem nest_get {E:Env} {ν:Nat->Value} {nm:Nat->Bool} {w:World} {G:Lim} {k:Nat} {e e':TypeId} {s:Nat} {ls:List (Nat×List Tree)} (h:ObjOk E ν nm w G k (.nest e e' s ls)) {i:Nat} {p:Nat×List Tree} (hp:ls[i]?=some p):
    ∃ g x ys,blk (ν k)=some g/\Cell w G g i x/\w.ownsRow 0 e' s x p.1 ys/\ys.length=p.2.length/\(∀ (i:Nat) (u:Value) (t:Tree),ys[i]?=some u->p.2[i]?=some t->TR w G u t)/\∀ g,blk x=some g->E.may g/\G g=0:=by
 obtain ⟨xs,r1,r2,r3,r4,r5⟩:=h
 have hi:i < ls.length:=(List.getElem?_eq_some_iff.1 hp).1
 have hxl:xs.length=ls.length:=by rw [r1.1,Nat.mul_one]
 have hx:xs[i]?=some xs[i]:=List.getElem?_eq_getElem (by omega)
 obtain ⟨ys,y1,y2,y3,y4⟩:=r2 i _ p hx hp
 rcases r1.2 with ⟨_,h0⟩ | ⟨g0,cap,cur,hv,_⟩
 ·omega
 ·have hg:blk (ν k)=some g0:=by rw [hv];rfl
  exact ⟨g0,xs[i],ys,hg,⟨by rw [outer_cell r1 hg hi];exact hx,by rw [(r5 g0 hg).2];exact hi⟩,y1,y2,y3,y4⟩
theorem sub_of {ν:Nat->Value} {nm:Nat->Bool} {w:World} {G:Lim} {v:Value} {k i:Nat} (h:DR ν nm w G v (.sub k i)):∃ g,blk (ν k)=some g/\Cell w G g i v/\nm k=true:=by
 cases h with | sub hk hg hc h1=>exact ⟨_,hg,hc,hk⟩
theorem sref_of {ν:Nat->Value} {nm:Nat->Bool} {w:World} {G:Lim} {v:Value} {k i j:Nat} (h:DR ν nm w G v (.sref k i j)):∃ g g' n c,blk (ν k)=some g/\Cell w G g i (.slice (some ⟨g',0,none⟩) n c)/\v = .pointer (some ⟨g',j,none⟩)/\nm k=true:=by
 cases h with | sref hk hg hc=>exact ⟨_,_,_,_,hg,hc,rfl,hk⟩
theorem cell_eq {w:World} {G:Lim} {b i:Nat} {u v:Value} (h:Cell w G b i u) (h':Cell w G b i v):u=v:=by
 have h1:=h.1
 have h2:=h'.1
 rw [h1] at h2
 exact Option.some.inj h2
section
variable {P:Program} {o:Oper} {σ:St} {fr:Nat}
theorem ok_idxN {t:TypeId} {x y:Operand} {q:Nat} {e e':TypeId} {s:Nat} {ls:List (Nat×List Tree)} {k:IntKind} {j:Int} (hs:elemSz P t=some 1) (ho:o.op = .indexAddr t x y) (hx:σ.ev x=some (.own q)) (hq:σ.H q=some (.nest e e' s ls)) (hy:σ.ev y=some (.t (.v (.int k j)))) (h0:0<=j) (hn:j < ls.length):
    OpOk P o σ fr (.ref q j.toNat) []:=
 ok_pure fun E σ₁ ν G w a hH I hev=>by
  have hv:=hev x _ hx
  have hj:=bool_of (hev y _ hy)
  obtain ⟨v,he⟩:∃ v,a.eval x=v:=⟨_,rfl⟩
  rw [he] at hv
  cases hv with
  | own hk h1=>
    obtain ⟨xs,r1,_⟩:=(I.H q _ (hH q _ hq)).2
    rcases r1.2 with ⟨_,hz⟩ | ⟨g,cap,cur,hvv,_⟩
    ·omega
    ·refine ⟨.pointer (some ⟨g,j.toNat,none⟩),?_,.ref hk (by rw [hvv];rfl)⟩
     unfold execOp
     rw [ho]
     have:=run_indexSl hs w g 0 ls.length cap k j h0 hn
     rw [Nat.mul_one,Nat.zero_add] at this
     simp [he,hj,hvv,this]
theorem ok_ldN {t:TypeId} {x:Operand} {k i:Nat} {e e':TypeId} {s:Nat} {ls:List (Nat×List Tree)} {p:Nat×List Tree} (hu:rowT P t=some false) (ho:o.op = .load t x) (hx:σ.ev x=some (.ref k i)) (hk:σ.H k=some (.nest e e' s ls)) (hp:ls[i]?=some p):OpOk P o σ fr (.sub k i) []:=
 ok_pure fun E σ₁ ν G w a hH I hev=>by
  obtain ⟨dsc,h1,h2⟩:=rowT_get hu
  obtain ⟨g,hg,hv,hnm⟩:=ref_of (hev x _ hx)
  obtain ⟨g',u,ys,hg',hc,y1,_⟩:=nest_get (I.H k _ (hH k _ hk)).2 hp
  rw [hg] at hg'
  cases hg'
  refine ⟨u,?_,.sub hnm hg hc (ownsRow_one y1)⟩
  unfold execOp
  rw [ho]
  simp [hv,run_load1 h1 h2 hc.1]
theorem ok_lenN {t:TypeId} {x:Operand} {q:Nat} {e e':TypeId} {s:Nat} {ls:List (Nat×List Tree)} {tys:Array TypeId} {el:TypeId} (hu:P.underlying t=some (.slice el)) (ho:o.op = .call { callee:=.builtin .len,args:=#[x],argTypes:=tys }) (hty:tys = #[t]) (hx:σ.ev x=some (.own q)) (hq:σ.H q=some (.nest e e' s ls)):OpOk P o σ fr (I ls.length) []:=by
 intro E σ₁ a w hT hH h100 hf hd ⟨ν,G,I⟩ Q
 have hv:=I.ev (St.ev_le hT hx)
 obtain ⟨v,he⟩:∃ v,a.eval x=v:=⟨_,rfl⟩
 rw [he] at hv
 cases hv with
 | own hk h1=>
   obtain ⟨xs,r1,_⟩:=(I.H q _ (hH q _ hq)).2
   obtain ⟨ax,c,hvv⟩:∃ ax c,ν q = .slice ax ls.length c:=by
    rcases r1.2 with ⟨hz,h0⟩ | ⟨g,cap,cur,hz,_⟩
    ·exact ⟨_,_,by rw [hz,h0]⟩
    ·exact ⟨_,_,hz⟩
   subst hty
   unfold Oper.wp
   have he':(execOp a.eval o).run P w = .ok (.value (.int .i64 ls.length)) w:=by
    unfold execOp
    rw [ho]
    simp [resolve,invoke,builtin,he,hvv,Builtin.len_,run_underlying hu,goInt]
   rw [he',Oper.upon_value]
   exact ⟨put_defers ..,ν,G,I.put (.t (.v _ rfl)) hd fr a rfl⟩
theorem ok_lenS {t:TypeId} {x:Operand} {q i:Nat} {e e':TypeId} {s:Nat} {ls:List (Nat×List Tree)} {p:Nat×List Tree} {tys:Array TypeId} {el:TypeId} (hu:P.underlying t=some (.slice el)) (ho:o.op = .call { callee:=.builtin .len,args:=#[x],argTypes:=tys }) (hty:tys = #[t]) (hx:σ.ev x=some (.sub q i)) (hq:σ.H q=some (.nest e e' s ls)) (hp:ls[i]?=some p):OpOk P o σ fr (I p.1) []:=by
 intro E σ₁ a w hT hH h100 hf hd ⟨ν,G,I⟩ Q
 obtain ⟨g,hg,hc,_⟩:=sub_of (I.ev (St.ev_le hT hx))
 obtain ⟨g',u,ys,hg',hc',y1,_⟩:=nest_get (I.H q _ (hH q _ hq)).2 hp
 rw [hg] at hg'
 cases hg'
 have hu':=cell_eq hc hc'
 obtain ⟨ax,c,hvv⟩:∃ ax c,u = .slice ax p.1 c:=by
  rcases y1.2 with ⟨hz,h0⟩ | ⟨g,cap,cur,hz,_⟩
  ·exact ⟨_,_,by rw [hz,h0]⟩
  ·exact ⟨_,_,hz⟩
 subst hty
 unfold Oper.wp
 have he':(execOp a.eval o).run P w = .ok (.value (.int .i64 p.1)) w:=by
  unfold execOp
  rw [ho]
  simp [resolve,invoke,builtin,hu',hvv,Builtin.len_,run_underlying hu,goInt]
 rw [he',Oper.upon_value]
 exact ⟨put_defers ..,ν,G,I.put (.t (.v _ rfl)) hd fr a rfl⟩
theorem ok_idxS {t:TypeId} {x y:Operand} {q i:Nat} {e e':TypeId} {s:Nat} {ls:List (Nat×List Tree)} {p:Nat×List Tree} {k:IntKind} {j:Int} (hs:elemSz P t=some 1) (ho:o.op = .indexAddr t x y) (hx:σ.ev x=some (.sub q i)) (hq:σ.H q=some (.nest e e' s ls)) (hp:ls[i]?=some p) (hy:σ.ev y=some (.t (.v (.int k j)))) (h0:0<=j) (hn:j < p.1):
    OpOk P o σ fr (.sref q i j.toNat) []:=
 ok_pure fun E σ₁ ν G w a hH I hev=>by
  obtain ⟨g,hg,hc,hk⟩:=sub_of (hev x _ hx)
  have hj:=bool_of (hev y _ hy)
  obtain ⟨g',u,ys,hg',hc',y1,_⟩:=nest_get (I.H q _ (hH q _ hq)).2 hp
  rw [hg] at hg'
  cases hg'
  have hu':=cell_eq hc hc'
  rcases y1.2 with ⟨_,hz⟩ | ⟨g1,cap,cur,hvv,_⟩
  ·omega
  ·refine ⟨.pointer (some ⟨g1,j.toNat,none⟩),?_,.sref hk hg (by rw [← hvv];exact hc')⟩
   unfold execOp
   rw [ho]
   have:=run_indexSl hs w g1 0 p.1 cap k j h0 hn
   rw [Nat.mul_one,Nat.zero_add] at this
   simp [hu',hj,hvv,this]
theorem ok_ldS {t:TypeId} {x:Operand} {k i j:Nat} {e e':TypeId} {s:Nat} {ls:List (Nat×List Tree)} {p:Nat×List Tree} {tr:Tree} (hu:rowT P t=some false) (ho:o.op = .load t x) (hx:σ.ev x=some (.sref k i j)) (hk:σ.H k=some (.nest e e' s ls)) (hp:ls[i]?=some p) (hj:p.2[j]?=some tr):OpOk P o σ fr (.t tr) []:=
 ok_pure fun E σ₁ ν G w a hH I hev=>by
  obtain ⟨dsc,h1,h2⟩:=rowT_get hu
  obtain ⟨g,g1,n,c,hg,hc,hv,hnm⟩:=sref_of (hev x _ hx)
  obtain ⟨g',u,ys,hg',hc',y1,y2,y3,y4⟩:=nest_get (I.H k _ (hH k _ hk)).2 hp
  rw [hg] at hg'
  cases hg'
  have hu':=cell_eq hc hc'
  subst hu'
  obtain ⟨g2,z,hg2,hz,hd,_⟩:=(inner_obj (E:=E) (nm:=σ₁.nm) y1 y2 y3 y4).cell (i:=j) (d:=.t tr) (by simp [AObj.cells,hj])
  simp only [blk,Option.some.injEq] at hg2
  subst hg2
  cases hd with
  | t hd=>
    refine ⟨z,?_,.t hd⟩
    unfold execOp
    rw [ho]
    simp [hv,run_load1 h1 h2 hz]
inductive DstN (σ:St) (s:Operand) (e e':TypeId) (sz:Nat):Option Nat->List (Nat×List Tree)->Prop
 | own {k:Nat} {ls:List (Nat×List Tree)} (h:σ.ev s=some (.own k)) (hk:σ.H k=some (.nest e e' sz ls)):DstN σ s e e' sz (some k) ls
 | nil (h:σ.ev s=some (.t (.v (.slice none 0 0)))):DstN σ s e e' sz none []
end
end Go.Ab
/- The abstract machine: maps whose keys are numbers, words or truths; variables that are written no more. -/
namespace Go.Ab
open Go.RowKit
theorem mp_of {ν:Nat->Value} {nm:Nat->Bool} {w:World} {G:Lim} {v:Value} {k:Nat} (h:DR ν nm w G v (.own k)):v=ν k/\nm k=true:=by
 cases h with | own hk h1=>exact ⟨rfl,hk⟩
section
variable {P:Program} {o:Oper} {σ:St} {fr:Nat}
theorem ok_mkmap {t:TypeId} (ho:o.op = .makeMap t none):OpOk P o σ fr (.own fr) [(fr,some (.mp []))]:=by
 intro E σ₁ a w hT hH h100 hf hd ⟨ν,G,I⟩ Q
 unfold Oper.wp
 have hr:(execOp a.eval o).run P w = .ok (.value (.map (some w.heap.size))) (w.alloc (.map #[] 0)):=by
  unfold execOp
  rw [ho]
  rfl
 rw [hr,Oper.upon_value]
 have hA:Aft w (w.alloc (.map #[] 0)):=(Aft.refl w).alloc _
 refine ⟨put_defers ..,_,_,I.fresh (G':=fun b=>if b=w.heap.size then 0 else G b) h100 hf hd hA (fun b hb=>if_neg (by omega)) (x:=.map (some w.heap.size)) (fun g hg=>by cases hg;exact Nat.le_refl _) ?_ ?_⟩
 ·exact ⟨w.heap.size,#[],0,setν_same,.inl I.kept.size,heap_alloc_new w _,if_pos rfl,rfl,fun i en p h=>by simp at h⟩
 ·have:DR (setν ν fr (.map (some w.heap.size))) (σ₁.upd o.dst .any [(fr,some (.mp []))] fr).nm (w.alloc (.map #[] 0)) (fun b=>if b=w.heap.size then 0 else G b) (setν ν fr (.map (some w.heap.size)) fr) (.own fr):=.own (upd_nm_fr ..) (by rw [setν_same];rfl)
  rw [setν_same] at this
  exact this
theorem ok_slcA {t e:TypeId} {x:Operand} {n s:Nat} {ts:List Tree} (hu:P.underlying t=some (.array n e)) (hs:(P.info? e).map (·.size)=some s) (ho:o.op = .slice t x none none none) (hx:σ.ev x=some (.ptr ts 0)):OpOk P o σ fr (.t (.sl n ts)) []:=
 ok_pure fun E σ₁ ν G w a hH I hev=>by
  obtain ⟨b,q,us,hv,hl,hcu,htr⟩:=ptr_of (hev x _ hx)
  obtain ⟨inf,hinf,hsz⟩:=Option.map_eq_some_iff.1 hs
  refine ⟨.slice (some ⟨b,q,none⟩) n n,?_,.t (.sl b q n n us ts hl hcu (Nat.le_refl _) htr)⟩
  unfold execOp
  rw [ho]
  simp [hv,Instr.sliceAt,run_underlying hu,Instr.sureAddr,Instr.sliceBounds,sizeOf,typeInfo,hinf,Addr.add_mid]
end
theorem ent_freeze {E:Env} {T:Nat->Option D} {H:Nat->Option AObj} {N:Nat} (t k:Nat) {e:TypeId} {ds:List D} {ts:List Tree} (ht:T t=some (.ref k 0)) (hk:H k=some (.box e ds)) (hl:ds.length=ts.length)
    (hw:∀ (i:Nat) (tr:Tree),ts[i]?=some tr->∃ d,ds[i]?=some d/\DWk H d (.t tr)):Ent E (mk T H N) (mk (fun x=>if t=x then some (.ptr ts 0) else T x) (fun j=>if k=j then none else H j) N):=by
 refine ent_of_act fun a w ⟨ν,G,I⟩=>?_
 obtain ⟨hn,g,cur,h1,h2,h3,h4,h5,h6⟩:=I.H k _ hk
 have hg:blk (ν k)=some g:=by rw [h1];rfl
 let G':Lim:=fun b=>if b=g then ts.length else G b
 have hcell:∀ b i u,Cell w G b i u->Cell w G' b i u:=fun b i u h=>by
  have hne:b≠g:=fun e=>by have:=h.2;rw [e,h4] at this;omega
  exact ⟨h.1,by show i < if b=g then _ else _;rw [if_neg hne];exact h.2⟩
 refine ⟨ν,G',I.kept,fun b i u h=>hcell b i u (I.keep b i u h),I.pin,fun b hb hX=>?_,I.sz,fun t' d h=>?_,fun j oj h=>?_,fun j1 o1 j2 o2 e1 e2 hne=>?_⟩
 ·have hne:b≠g:=fun e=>by
   subst e
   rcases h2 with h | h
   ·omega
   ·exact hX h
  show (if b=g then _ else _)=_
  rw [if_neg hne]
  exact I.g0 b hb hX
 ·by_cases htt:t=t'
  ·subst htt
   simp only [if_true,Option.some.injEq] at h
   subst h
   obtain ⟨v,hv,hd⟩:=I.T t _ ht
   obtain ⟨g',hg',hv',_⟩:=ref_of hd
   rw [hg] at hg'
   cases hg'
   refine ⟨v,hv,?_⟩
   rw [hv']
   have:=DR.ptr (ν:=ν) (nm:=(mk T H N).nm) (w:=w) (G:=G') (b:=g) (o:=0) (off:=0) (us:=cur.toList) (ts:=ts) (by rw [Array.length_toList,h5,hl]) (fun i u hu=>?_) (fun i u tr hu htr=>?_)
   ·simpa using this
   ·have hu':cur[i]?=some u:=by simpa using hu
    have hi:i < ts.length:=by rw [← hl,← h5];exact (Array.getElem?_eq_some_iff.1 hu').1
    exact ⟨by rw [Nat.zero_add,cell_of_row' h3];exact hu',by show _ < if g=g then _ else _;rw [if_pos rfl];omega⟩
   ·have hu':cur[i]?=some u:=by simpa using hu
    obtain ⟨d,hd,hwk⟩:=hw i tr htr
    have:=hwk E _ ν G w a.tmps (fun _ _ h=>h) I u (h6 i u d hu' hd).1
    cases this with | t h=>exact h.mono hcell
  ·simp only [if_neg htt] at h
   obtain ⟨v,hv,hd⟩:=I.T t' d h
   exact ⟨v,hv,hd.mono (fun _ h=>⟨h,rfl⟩) hcell⟩
 ·by_cases hj:k=j
  ·simp [if_pos hj] at h
  ·simp only [if_neg hj] at h
   obtain ⟨q1,q2⟩:=I.H j oj h
   refine ⟨q1,q2.mono q1 (fun _ h=>⟨h,rfl⟩) hcell (fun g' hg'=>⟨rfl,if_neg (fun e=>?_)⟩)⟩
   subst e
   exact I.dis j oj k _ h hk (fun e=>hj e.symm) g' hg' (foot_blk hg)
 ·have back:∀ j oj,(if k=j then none else H j)=some oj->H j=some oj:=fun j oj h=>by
   by_cases hj:k=j
   ·rw [if_pos hj] at h;cases h
   ·rw [if_neg hj] at h;exact h
  exact I.dis j1 o1 j2 o2 (back j1 o1 e1) (back j2 o2 e2) hne
end Go.Ab
/- The abstract machine: rows whose elements hold rows of the walk's own. -/
namespace Go.Ab
open Go.RowKit
section
variable {P:Program} {o:Oper} {σ:St} {fr:Nat}
theorem ok_idxT {t:TypeId} {x y:Operand} {q:Nat} {e e':TypeId} {m s n:Nat} {cs:List NC} {k:IntKind} {j:Int} (hs:elemSz P t=some m) (ho:o.op = .indexAddr t x y) (hx:σ.ev x=some (.own q)) (hq:σ.H q=some (.nst e e' m s n cs)) (hy:σ.ev y=some (.t (.v (.int k j)))) (h0:0<=j) (hn:j < n):
    OpOk P o σ fr (.ref q (j.toNat * m)) []:=
 ok_pure fun E σ₁ ν G w a hH I hev=>by
  have hv:=hev x _ hx
  have hj:=bool_of (hev y _ hy)
  obtain ⟨v,he⟩:∃ v,a.eval x=v:=⟨_,rfl⟩
  rw [he] at hv
  cases hv with
  | own hk h1=>
    obtain ⟨xs,r1,_⟩:=(I.H q _ (hH q _ hq)).2
    rcases r1.2 with ⟨_,hz⟩ | ⟨g,cap,cur,hvv,_⟩
    ·omega
    ·refine ⟨.pointer (some ⟨g,j.toNat * m,none⟩),?_,.ref hk (by rw [hvv];rfl)⟩
     unfold execOp
     rw [ho]
     have:=run_indexSl hs w g 0 n cap k j h0 hn
     rw [Nat.zero_add] at this
     simp [he,hj,hvv,this]
theorem ok_lenT {t:TypeId} {x:Operand} {q:Nat} {e e':TypeId} {m s n:Nat} {cs:List NC} {tys:Array TypeId} {el:TypeId} (hu:P.underlying t=some (.slice el)) (ho:o.op = .call { callee:=.builtin .len,args:=#[x],argTypes:=tys }) (hty:tys = #[t]) (hx:σ.ev x=some (.own q)) (hq:σ.H q=some (.nst e e' m s n cs)):OpOk P o σ fr (I n) []:=by
 intro E σ₁ a w hT hH h100 hf hd ⟨ν,G,I⟩ Q
 have hv:=I.ev (St.ev_le hT hx)
 obtain ⟨v,he⟩:∃ v,a.eval x=v:=⟨_,rfl⟩
 rw [he] at hv
 cases hv with
 | own hk h1=>
   obtain ⟨xs,r1,_⟩:=(I.H q _ (hH q _ hq)).2
   obtain ⟨ax,c,hvv⟩:∃ ax c,ν q = .slice ax n c:=by
    rcases r1.2 with ⟨hz,h0⟩ | ⟨g,cap,cur,hz,_⟩
    ·exact ⟨_,_,by rw [hz,h0]⟩
    ·exact ⟨_,_,hz⟩
   subst hty
   unfold Oper.wp
   have he':(execOp a.eval o).run P w = .ok (.value (.int .i64 n)) w:=by
    unfold execOp
    rw [ho]
    simp [resolve,invoke,builtin,he,hvv,Builtin.len_,run_underlying hu,goInt]
   rw [he',Oper.upon_value]
   exact ⟨put_defers ..,ν,G,I.put (.t (.v _ rfl)) hd fr a rfl⟩
end
def NC.slr:NC->Option Tree
 | .dat (.t t)=>some t
 | .inn q ts=>some (.sl q ts)
 | _=>none
end Go.Ab
/- The abstract machine: an inner row is lent out under a name of its own. -/
namespace Go.Ab
open Go.RowKit
end Go.Ab
/- The abstract machine: a cell of such a row is written over. -/
namespace Go.Ab
open Go.RowKit
section
variable {P:Program} {o:Oper} {σ:St} {fr:Nat}
end
end Go.Ab
/- The abstract machine: a row of one element that holds a row of the walk's own. -/
namespace Go.Ab
open Go.RowKit
section
variable {P:Program} {o:Oper} {σ:St} {fr:Nat}
end
end Go.Ab
/- The abstract machine: append of rows whose elements hold rows of the walk's own. -/
namespace Go.Ab
open Go.RowKit
section
variable {P:Program} {o:Oper} {σ:St} {fr:Nat}
inductive DstT (σ:St) (s:Operand) (e e':TypeId) (m sz:Nat):Option Nat->Nat->List NC->Prop
 | own {k n:Nat} {cs:List NC} (h:σ.ev s=some (.own k)) (hk:σ.H k=some (.nst e e' m sz n cs)):DstT σ s e e' m sz (some k) n cs
 | nil (h:σ.ev s=some (.t (.v (.slice none 0 0)))):DstT σ s e e' m sz none 0 []
end
end Go.Ab
