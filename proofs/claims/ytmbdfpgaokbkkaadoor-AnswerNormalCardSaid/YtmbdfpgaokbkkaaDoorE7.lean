/- The abstract machine, run: every operation. Conditions are in the theorems. -/
import Derived.Test.YtmbdfpgaokbkkaaDoorE6
import Derived.Laws.CopyRow
import Derived.ChangeKeysEq
import Derived.Lib.AppendStr
import Derived.Lib.OthersKept
import Derived.Lib.UnsafeStr
import Derived.OpenShut
import Derived.SizedLaws
import Derived.Lib.LaidTab
/- Operations: calls; every operation. -/
namespace Go.Ax
open Alg
open Go.RowKit Go.Ab
theorem renX_pl {f:Nat->Option Nat} {x y:X} (h:renX f x=some y):y.pl=true:=by
 cases x <;> simp only [renX] at h <;> first | (split at h <;> cases h <;> rfl) | (cases h <;> rfl) | cases h
theorem renH_keys {f:Nat->Option Nat} {H:Nat->Option XO}:∀ {al:List (Nat×Nat)} {H':XH},renH f H al=some H'->H'.map (·.1)=al.map (·.1)
 | [],H',h=>by cases h;rfl
 | (new,q)::l,H',h=>by
   unfold renH at h;split at h
   ·split at h
    ·split at h
     ·rename_i r hr
      cases h;rw [List.map_cons,List.map_cons,renH_keys hr]
     ·cases h
    ·cases h
   ·cases h
theorem allH_of {σ:Vw} {nm':Nat->Bool} {ρ:Nat->Nat} {f:Nat->Option Nat} (hf:∀ k k',f k=some k'->nm' k'=true/\k=ρ k'):∀ {al:List (Nat×Nat)} {H':XH},(∀ p ∈ al,ρ p.1=p.2)->renH f σ.H al=some H'->AllH false σ.den nm' ρ (HA H')
 | [],H',_,h=>by cases h;exact .nil
 | (new,q)::l,H',hp,h=>by
   unfold renH at h;split at h
   ·rename_i o ho
    split at h
    ·rename_i o' ho'
     split at h
     ·rename_i r hr
      cases h;have e:=hp (new,q) (List.mem_cons_self ..);simp only at e;exact .cons (by rw [e];exact den_H ho) (renO_ok hf ho') (allH_of hf (fun p hm=>hp p (List.mem_cons_of_mem _ hm)) hr)
     ·cases h
    ·cases h
   ·cases h
theorem allW_of {H2:List (Nat×AObj)} {nm':Nat->Bool} {ρ:Nat->Nat} {f:Nat->Option Nat} (hf:∀ k k',f k=some k'->nm' k'=true/\k=ρ k') {R:Wr} (hR:AllW H2 nm' ρ R):∀ {l:XH} {W:Wx},(∀ p ∈ l,Ab.look p.1 H2=some p.2.A)->backW f l=some W->AllW H2 nm' ρ (WA W++R)
 | [],W,_,h=>by cases h;exact hR
 | (k,o)::l,W,hp,h=>by
   unfold backW at h;split at h
   ·rename_i k' hk
    split at h
    ·rename_i o' ho'
     split at h
     ·rename_i r hr
      cases h;have e:=hp (k,o) (List.mem_cons_self ..);simp only at e;have:=allW_of hf hR (fun p hm=>hp p (List.mem_cons_of_mem _ hm)) hr;exact .cons (by rw [← (hf k k' hk).2];exact e) (renO_ok hf ho') this
     ·cases h
    ·cases h
   ·cases h
theorem allW_gone {H2:List (Nat×AObj)} {nm':Nat->Bool} {ρ:Nat->Nat} {H':XH}:∀ (rn:List (Nat×Nat)),AllW H2 nm' ρ (WA (gone H' rn))
 | []=>.nil
 | (new,q)::l=>by
   unfold gone;split
   ·exact allW_gone l
   ·exact .gone (allW_gone l)
theorem gone_mem {H':XH} {new q:Nat}:∀ {rn:List (Nat×Nat)},(new,q) ∈ rn->lk new H'=none->(q,none) ∈ gone H' rn
 | (n,q')::l,h,hn=>by
   unfold gone;rcases List.mem_cons.1 h with e | h
   ·cases e
    rw [hn];exact List.mem_cons_self ..
   ·split
    ·exact gone_mem h hn
    ·exact List.mem_cons_of_mem _ (gone_mem h hn)
theorem gone_key {H':XH} {q:Nat} {x:Option XO}:∀ {rn:List (Nat×Nat)},(q,x) ∈ gone H' rn->∃ new,(new,q) ∈ rn
 | (n,q')::l,h=>by
   unfold gone at h;split at h
   ·obtain ⟨new,hm⟩:=gone_key h
    exact ⟨new,List.mem_cons_of_mem _ hm⟩
   ·rcases List.mem_cons.1 h with e | h
    ·cases e;exact ⟨n,List.mem_cons_self ..⟩
    ·obtain ⟨new,hm⟩:=gone_key h
     exact ⟨new,List.mem_cons_of_mem _ hm⟩
theorem backW_key {f:Nat->Option Nat} {k':Nat} {x:Option XO}:∀ {l:XH} {W:Wx},backW f l=some W->(k',x) ∈ W->∃ k,f k=some k'
 | [],W,h,hm=>by cases h;cases hm
 | (k,o)::l,W,h,hm=>by
   unfold backW at h;split at h
   ·rename_i k2 hk
    split at h
    ·split at h
     ·rename_i r hr
      cases h;rcases List.mem_cons.1 hm with e | hm
      ·cases e;exact ⟨k,hk⟩
      ·exact backW_key hr hm
     ·cases h
    ·cases h
   ·cases h
theorem backW_mem {f:Nat->Option Nat} {k k':Nat} (hk:f k=some k'):∀ {l:XH} {W:Wx} {o:XO},backW f l=some W->lk k l=some o->∃ x,(k',x) ∈ W
 | [],W,o,h,hm=>by cases hm
 | (k1,o1)::l,W,o,h,hm=>by
   unfold backW at h;split at h
   ·rename_i k2 hk2
    split at h
    ·split at h
     ·rename_i r hr
      cases h;unfold lk at hm;split at hm
      ·rename_i he
       have:=Nat.eq_of_beq_eq_true he;subst this;rw [hk] at hk2;cases hk2;exact ⟨_,List.mem_cons_self ..⟩
      ·obtain ⟨x,hx⟩:=backW_mem hk hr hm
       exact ⟨x,List.mem_cons_of_mem _ hx⟩
     ·cases h
    ·cases h
   ·cases h
structure RbF (fr:Nat) (rn:List (Nat×Nat)):Prop where
 ren:∀ new q,(new,q) ∈ rn->50<=new/\new < 100/\¬ (fr<=q/\q < fr+8)/\lk new rn=some q
 nd:(rn.map (·.2)).Nodup
theorem rbOk_ok {fr:Nat} {rn:List (Nat×Nat)} (h:rbOk fr rn=true):RbF fr rn:=by
 unfold rbOk at h;rw [Bool.and_eq_true] at h;refine ⟨fun new q hm=>?_,nodupB_ok h.2⟩;have:=List.all_eq_true.1 h.1 _ hm;simp only [Bool.and_eq_true,Bool.or_eq_true] at this;obtain ⟨⟨⟨a,b⟩,c⟩,d⟩:=this;have a:=Nat.le_of_ble_eq_true a;have b:new < 100:=Nat.le_of_ble_eq_true b;refine ⟨a,b,fun ⟨c1,c2⟩=>?_,?_⟩
 ·rcases c with c | c
  ·have c:q < fr:=Nat.le_of_ble_eq_true c
   omega
  ·have c:=Nat.le_of_ble_eq_true c
   omega
 ·split at d
  ·rename_i z hz;rw [hz,Nat.eq_of_beq_eq_true d]
  ·cases d
def swap2 (p:Nat×Nat):Nat×Nat:=(p.2,p.1)
theorem rb_look {fr:Nat} {rn:List (Nat×Nat)} (F:RbF fr rn) {new q:Nat} (h:(new,q) ∈ rn):Ab.look q (rn.map swap2)=some new:=by
 obtain ⟨x,hx⟩:=look_some (l:=rn.map swap2) (k:=q) (List.mem_map.2 ⟨(q,new),List.mem_map.2 ⟨_,h,rfl⟩,rfl⟩);obtain ⟨p,hp,he⟩:=List.mem_map.1 (look_mem hx);cases he;rw [hx,nodup_snd F.nd h hp]
theorem evs_some {σ:Vw} {r:Res}:∀ {l:List Operand} {k:List X->O},σ.evs l k=some r->∃ xs,k xs=some r/\xs.length=l.length/\∀ (i:Nat) (x:X),xs[i]?=some x->∃ p,l[i]?=some p/\σ.ev p=some x
 | [],k,h=>⟨[],h,rfl,fun i p h=>by simp at h⟩
 | x::l,k,h=>by
   unfold Vw.evs at h;obtain ⟨y,hy,h⟩:=ob_some h;obtain ⟨xs,h1,h2,h3⟩:=evs_some h;refine ⟨y::xs,h1,by simp [h2],fun i p hp=>?_⟩;cases i with
   | zero=>simp at hp;subst hp;exact ⟨x,rfl,hy⟩
   | succ i=>exact h3 i p (by simpa using hp)
theorem OpN.ok {P:Program} {o:Oper} {σ:St} {fr:Nat} {d:D} {W:Wr} (h:OpN P o σ fr (fun _:Unit=>True) (fun _=>d) (fun _=>W)):OpOk P o σ fr d W:=fun E σ₁ a w h1 h2 h3 h4 h5 h6 Q=>Oper.wp_mono (fun _ _ ⟨q1,_,_,q2⟩=>⟨q1,q2⟩) (h E σ₁ a w h1 h2 h3 h4 h5 h6 Q)
theorem nodupB_lk:∀ {l:XH},nodupB (l.map (·.1))=true->∀ p ∈ l,lk p.1 l=some p.2
 | [],_,p,hp=>by cases hp
 | (k,o)::l,h,p,hp=>by
   rcases List.mem_cons.1 hp with e | hm
   ·subst e
    unfold lk;rw [show Nat.beq k k=true from Nat.beq_refl k]
   ·have hnd:=nodupB_ok h
    rw [List.map_cons,List.nodup_cons] at hnd;have hne:k≠p.1:=fun e=>hnd.1 (List.mem_map.2 ⟨p,hm,e.symm⟩)
    unfold lk;rw [ne_beq hne];unfold nodupB at h;simp only [List.map_cons] at h;split at h
    ·cases h
    ·exact nodupB_lk h p hm
section
variable {c:Cx} {σ:Vw} {κ:Nat->Bool} {fr:Nat} {o:Oper} {k:X->Wx->O} {r:Res}
def Enters (c:Cx) (σ:Vw) (o:Oper) (f:FuncId) (xs:List X):Prop:=∀ (E:Env) (σ₁:St) (ν:Nat->Value) (G:Lim) (w:World) (a:Act),(∀ t d,σ.den.T t=some d->σ₁.T t=some d)->(∀ k o,σ.den.H k=some o->σ₁.H k=some o)->Inv E σ₁ ν G w a.tmps->
 ∃ vals:List Value,(execOp a.eval o).run c.P w = .ok (.enter f vals.toArray) w/\vals.length=xs.length/\∀ (t:Nat) (x0:X),xs[t]?=some x0->∃ u,vals[t]?=some u/\DR ν σ₁.nm w G u x0.D
theorem gives_callZ (hG:GOk c.P c.G) {f:FuncId} {xs ys:List X} {g:Ent'} {els:O} (hrun:σ.On->Enters c σ o f xs) (hg:lk f c.G=some g) (hD:DWs σ.den.H (xs.map X.D) (ys.map X.D)) (h:callY σ fr g ys els k=some r):els=some r\/Gives c σ fr o k r:=by
 unfold callY at h;obtain ⟨rn,hrn⟩:∃ rn,numb 50 (reach σ.H 40 (namesL ys []) [])=rn:=⟨_,rfl⟩
 simp only [hrn] at h;split at h
 ·exact .inl h
 rename_i hrb;have F:=rbOk_ok hrb;split at h
 ·exact .inl h
 rename_i zs hzs;split at h
 ·exact .inl h
 rename_i H' hH';split at h
 case h_2=>exact .inl h
 rename_i pre res hres;split at h
 case h_2=>cases h
 rename_i hnd;obtain ⟨x,hx,h6⟩:=ob_some h;clear h;obtain ⟨W,hW,h7⟩:=ob_some h6;clear h6;obtain ⟨h8,hpre⟩:=ckg_some h7;clear h7;refine .inr ⟨x,_,h8,renX_pl hx,fun hon=>?_⟩;obtain ⟨hname,hE⟩:=hG f g hg;have hDoes:=hE zs H' pre res hres (hpre hon.g);have hf1:∀ k k',old rn k=some k'->decide (k' < 100)=true/\k=rnm rn k':=fun k k' hk=>by
  obtain ⟨_,b,_,d⟩:=F.ren _ _ (old_mem hk);exact ⟨decide_eq_true b,(rnm_lk d).symm⟩
 have hf2:∀ k k',backN fr rn k=some k'->backNm fr (rn.map swap2) k'=true/\k=back fr (rn.map swap2) k':=fun k k' hk=>by
  unfold backN at hk;split at hk
  ·rename_i hle
   have hle:=Nat.le_of_ble_eq_true hle;split at hk
   ·rename_i hlt
    have hlt:k < 108:=Nat.le_of_ble_eq_true hlt;cases hk;refine ⟨?_,?_⟩
    ·unfold backNm
     rw [Bool.or_eq_true,Bool.and_eq_true];exact .inl ⟨decide_eq_true (by omega),decide_eq_true (by omega)⟩
    ·unfold back
     rw [if_pos ⟨by omega,by omega⟩];omega
   ·cases hk
  ·have hm:=lk_mem hk
   obtain ⟨_,_,c3,_⟩:=F.ren _ _ hm;have hlook:=rb_look F hm;refine ⟨?_,?_⟩
   ·unfold backNm
    rw [Bool.or_eq_true,hlook];exact .inr rfl
   ·unfold back
    rw [if_neg c3];unfold rnm;rw [hlook]
 have hkeys:(HA H').map (·.1)=rn.map (·.1):=by
  rw [← renH_keys hH'];unfold HA;rw [List.map_map];rfl
 have hkey:∀ {p:Nat×AObj},p ∈ HA H'->∃ q,(p.1,q) ∈ rn:=fun {p} hp=>by
  have:p.1 ∈ rn.map (·.1):=hkeys ▸ List.mem_map.2 ⟨p,hp,rfl⟩;obtain ⟨⟨a,b⟩,hm,e⟩:=List.mem_map.1 this;simp only at e;subst e;exact ⟨b,hm⟩
 have hkey':∀ {new q:Nat},(new,q) ∈ rn->∃ p ∈ HA H',p.1=new:=fun {new q} hm=>by
  have:new ∈ (HA H').map (·.1):=hkeys ▸ List.mem_map.2 ⟨_,hm,rfl⟩;obtain ⟨p,hp,e⟩:=List.mem_map.1 this;exact ⟨p,hp,e⟩
 have hrnm:∀ {new q:Nat},(new,q) ∈ rn->rnm rn new=q:=fun hm=>rnm_lk (F.ren _ _ hm).2.2.2
 refine OpN.ok (ok_calln (ds:=zs.map X.D) (H:=HA H') (r':=fun _=>res.1.D) (H'':=fun _=>HA res.2) rn (rn.map swap2) ?_ hDoes.n (allH_of hf1 (fun p hp=>hrnm hp) hH') (fun _ _=>renX_ok hf2 _ _ hx) (fun _ _=>?_) (fun _ _=>?_) ?_)
 ·intro E σ₁ ν G w a hT hHH I
  obtain ⟨vals,hr,hvl,hval⟩:=hrun hon E σ₁ ν G w a hT hHH I;have hL:=(renL_ok hf1 ys zs hzs (H:=σ.den.H)).get;rw [Ds_map,Ds_map] at hL;have hlen:xs.length=zs.length:=by
   have e1:=hD.len;have e2:=hL.1;simp only [List.length_map] at e1 e2;omega
  refine ⟨vals,hr,by rw [List.length_map];omega,fun t d' ht=>?_⟩;have htl:t < zs.length:=by have:=(List.getElem?_eq_some_iff.1 ht).1;simpa using this
  obtain ⟨dy,hdy⟩:∃ dy,(ys.map X.D)[t]?=some dy:=⟨_,List.getElem?_eq_getElem (by rw [hL.1,List.length_map];exact htl)⟩
  obtain ⟨d0,hd0,hwk⟩:=hD.get t dy hdy;have hle:=hL.2 t dy d' hdy ht;rw [List.getElem?_map] at hd0;obtain ⟨x0,hx0,rfl⟩:=Option.map_eq_some_iff.1 hd0;obtain ⟨u,hu,hdr⟩:=hval t x0 hx0;exact ⟨u,dy,hu,hwk E σ₁ ν G w a.tmps hHH I u hdr,hle⟩
 ·have hlk:∀ p ∈ res.2,Ab.look p.1 (HA res.2)=some p.2.A:=fun p hp=>by
   rw [look_HA,nodupB_lk hnd p hp];rfl
  have:=allW_of hf2 (allW_gone (H2:=HA res.2) (nm':=backNm fr (rn.map swap2)) (ρ:=back fr (rn.map swap2)) (H':=res.2) rn) hlk hW;unfold WA at this ⊢;rw [List.map_append];exact this
 ·unfold callOk
  rw [Bool.and_eq_true];refine ⟨List.all_eq_true.2 fun p hp=>?_,List.all_eq_true.2 fun p hp=>?_⟩
  ·obtain ⟨q,hm⟩:=hkey hp
   rw [hrnm hm];have hq:∃ x,(q,x) ∈ W++gone res.2 rn:=by
    cases hlk:lk p.1 res.2 with
    | none=>exact ⟨none,List.mem_append_right _ (gone_mem hm hlk)⟩
    | some o=>
      obtain ⟨_,b,_,d⟩:=F.ren _ _ hm;have hbk:backN fr rn p.1=some q:=by
       unfold backN;rw [show Nat.ble 100 p.1=false by
        cases hble:Nat.ble 100 p.1 with
        | false=>rfl
        | true=>have:=Nat.le_of_ble_eq_true hble;omega]
       exact d
      obtain ⟨x,hx⟩:=backW_mem hbk hW hlk;exact ⟨x,List.mem_append_left _ hx⟩
   obtain ⟨x,hx⟩:=hq;obtain ⟨y,hy⟩:=look_some (l:=WA (W++gone res.2 rn)) (k:=q) (List.mem_map.2 ⟨(q,x.map XO.A),List.mem_map.2 ⟨_,hx,rfl⟩,rfl⟩);rw [hy];rfl
  ·obtain ⟨⟨q,x⟩,hm,rfl⟩:=List.mem_map.1 hp
   rw [Bool.or_eq_true];have hin:(∃ new,(new,q) ∈ rn)->(HA H').any (fun z=>rnm rn z.1 == q)=true:=fun ⟨new,hn⟩=>by
    obtain ⟨p,hp,e⟩:=hkey' hn;exact List.any_eq_true.2 ⟨p,hp,by rw [e,hrnm hn];exact beq_self_eq_true _⟩
   rcases List.mem_append.1 hm with hm | hm
   ·obtain ⟨k0,hk0⟩:=backW_key hW hm
    unfold backN at hk0;split at hk0
    ·rename_i hle
     have hle:=Nat.le_of_ble_eq_true hle;split at hk0
     ·rename_i hlt
      have hlt:k0 < 108:=Nat.le_of_ble_eq_true hlt;cases hk0;left;rw [Bool.and_eq_true];exact ⟨decide_eq_true (Nat.le_add_right ..),decide_eq_true (by simp only;omega)⟩
     ·cases hk0
    ·exact .inr (hin ⟨k0,lk_mem hk0⟩)
   ·exact .inr (hin (gone_key hm))
 ·unfold callOk0
  simp only [Bool.and_eq_true];refine ⟨⟨⟨List.all_eq_true.2 fun p hp=>?_,decide_eq_true ?_⟩,List.all_eq_true.2 fun p hp=>?_⟩,List.all_eq_true.2 fun p hp=>?_⟩
  ·obtain ⟨q,hm⟩:=hkey hp
   obtain ⟨a,b,_,_⟩:=F.ren _ _ hm;rw [Bool.and_eq_true];exact ⟨decide_eq_true a,decide_eq_true b⟩
  ·have:(HA H').map (fun p=>rnm rn p.1)=rn.map (·.2):=by
    have e:(HA H').map (fun p=>rnm rn p.1)=((HA H').map (·.1)).map (rnm rn):=by rw [List.map_map];rfl
    rw [e,hkeys,List.map_map];exact List.map_congr_left fun p hp=>hrnm hp
   rw [this];exact F.nd
  ·obtain ⟨q,hm⟩:=hkey hp
   rw [hrnm hm,rb_look F hm];exact beq_self_eq_true _
  ·obtain ⟨⟨new,q⟩,hm,rfl⟩:=List.mem_map.1 hp
   obtain ⟨p,hp',e⟩:=hkey' hm;refine List.any_eq_true.2 ⟨p,hp',?_⟩;rw [Bool.and_eq_true,e,hrnm hm];exact ⟨beq_self_eq_true _,beq_self_eq_true _⟩
theorem enters_fn (hσ:σ.Ok κ) {fo:Operand} {args:Array Operand} {tys:Array TypeId} {f:FuncId} {caps asL:List X} {fn:Func} {code:Code} (ho:o.op = .call { callee:=.value fo,args:=args,argTypes:=tys }) (hfo:σ.ev fo=some (.fn f caps)) (hl:asL.length=args.toList.length)
    (hev : ∀ (i : Nat) (x : X), asL[i]? = some x → ∃ p, args.toList[i]? = some p ∧ σ.ev p = some x) (hfn : c.P.funcs[f]? = some fn) (hname' : fn.name ≠ "runtime.NumGoroutine") (hb : fn.body = some code) (hon : σ.On) : Enters c σ o f (asL ++ caps) := by
 intro E σ₁ ν G w a hT hHH I;have hfv:=I.ev (St.ev_le hT (evV_D hσ hon hfo));obtain ⟨v,hv⟩:∃ v,a.eval fo=v:=⟨_,rfl⟩
 rw [hv] at hfv;unfold X.D at hfv;cases hfv with
 | @fn _ vs _ hvl hvd=>
   have hvl':vs.size=caps.length:=by rw [hvl,Ds_map,List.length_map]
   refine ⟨args.toList.map a.eval++vs.toList,?_,?_,fun t x0 hx0=>?_⟩
   ·unfold execOp
    rw [ho];have:(args.toList.map a.eval++vs.toList).toArray=args.map a.eval++vs:=by
     apply Array.ext';simp
    rw [this];simp only [resolve,hv,Deferred.ofValue,invoke,Sem.run_bind,Sem.run_pure,Result.andThen_ok,Array.empty_append];exact run_enter hfn hname' (by rw [hb];exact fun e=>by cases e) _ w
   ·simp only [List.length_append,List.length_map,Array.length_toList] at hl ⊢
    omega
   ·by_cases hlt:t < args.toList.length
    ·rw [List.getElem?_append_left (by omega)] at hx0
     obtain ⟨p,hp,hpv⟩:=hev t x0 hx0;refine ⟨a.eval p,?_,I.ev (St.ev_le hT (evV_D hσ hon hpv))⟩;rw [List.getElem?_append_left (by rw [List.length_map];exact hlt),List.getElem?_map,hp];rfl
    ·rw [List.getElem?_append_right (by omega),hl] at hx0
     have hi:t - args.toList.length < vs.size:=by rw [hvl'];exact (List.getElem?_eq_some_iff.1 hx0).1
     refine ⟨vs[t - args.toList.length],?_,hvd _ _ _ (Array.getElem?_eq_getElem hi) (by rw [Ds_map,List.getElem?_map,hx0];rfl)⟩;rw [List.getElem?_append_right (by rw [List.length_map];omega),List.length_map,Array.getElem?_toList,Array.getElem?_eq_getElem hi]
theorem gives_callY (hG:GOk c.P c.G) (hσ:σ.Ok κ) {fo:Operand} {args:Array Operand} {tys:Array TypeId} {f:FuncId} {caps asL ys:List X} {g:Ent'} {fn:Func} {code:Code} {els:O} (ho:o.op = .call { callee:=.value fo,args:=args,argTypes:=tys }) (hfo:σ.ev fo=some (.fn f caps)) (hl:asL.length=args.toList.length)
    (hev:∀ (i:Nat) (x:X),asL[i]?=some x->∃ p,args.toList[i]?=some p/\σ.ev p=some x) (hg:lk f c.G=some g) (hfn:c.P.funcs[f]?=some fn) (hb:fn.body=some code) (hD:DWs σ.den.H ((asL++caps).map X.D) (ys.map X.D)) (h:callY σ fr g ys els k=some r):els=some r\/Gives c σ fr o k r:=by
 obtain ⟨hname,hE⟩:=hG f g hg;have hname' : fn.name ≠ "runtime.NumGoroutine" := by
  unfold nameOk at hname;rw [hfn] at hname;simpa using hname
 exact gives_callZ hG (enters_fn hσ ho hfo hl hev hfn hname' hb) hg hD h
theorem gives_call (hG:GOk c.P c.G) (hσ:σ.Ok κ) {fo:Operand} {args:Array Operand} {tys:Array TypeId} {f:FuncId} {caps:List X} (ho:o.op = .call { callee:=.value fo,args:=args,argTypes:=tys }) (hfo:σ.ev fo=some (.fn f caps)) (h:σ.evs args.toList (fun xs=>callX c σ fr f (xs++caps) k)=some r):Gives c σ fr o k r:=by
 obtain ⟨asL,h1,hl,hev⟩:=evs_some h;clear h;unfold callX at h1;obtain ⟨g,hg,h2⟩:=ob_some h1;clear h1;obtain ⟨fn,hfn,h3⟩:=ob_some h2;clear h2;split at h3
 ·cases h3
 rename_i code hb;rcases gives_callY hG hσ ho hfo hl hev hg hfn hb (canons_ok c σ _ _) h3 with h | h
 ·rcases gives_callY hG hσ ho hfo hl hev hg hfn hb DWs.refl h with h | h
  ·cases h
  ·exact h
 ·exact h
theorem ok_mkifc {P:Program} {s:St} {t el:TypeId} {x:Operand} {q:Nat} {e:TypeId} {ds:List D} (ho:o.op = .makeInterface t x) (hu:P.underlying t=some (.pointer el)) (hx:s.ev x=some (.ref q 0)) (hq:s.H q=some (.box e ds)):OpOk P o s fr (.via q fun p v=>v = .iface t p) []:=
 ok_pure fun E σ₁ ν G w a hH I hev=>by
  obtain ⟨hn,g,cur,h1,_⟩:=I.H q _ (hH q _ hq);have hv:=hev x _ hx;obtain ⟨v,he⟩:∃ v,a.eval x=v:=⟨_,rfl⟩
  rw [he] at hv;cases hv with
  | @ref _ _ g' hk hg=>
    rw [h1] at hg;have hgg:g=g':=by simpa [blk] using hg
    subst hgg;refine ⟨.iface t (ν q),?_,.via hk rfl rfl⟩;unfold execOp;rw [ho];simp [Instr.makeInterface,run_underlying hu,he,h1]
theorem method_run {P:Program} {te:TypeId} {name:String} {f:FuncId} {off:Nat} (h:methX P te name=some (f,off)) (w:World) (g n:Nat):(Go.method (n+1) te (.pointer (some ⟨g,0,none⟩)) name).run P w = .ok (f,.pointer (some ⟨g,off,none⟩)) w:=by
 unfold methX at h;split at h
 ·cases h
 rename_i ti hti;split at h
 ·cases h
 rename_i m hm;rw [Array.find?_toList] at hm;unfold Go.method;split at h
 case h_2=>cases h
 rename_i f' hf;split at h
 ·rename_i hpath
  split at h
  ·rename_i hu
   cases h;simp [typeInfo,hti,hm,hpath,hf,Go.follow,Go.receiverAt,run_underlying hu,Go.Place.get]
  ·cases h
 ·rename_i s hpath
  split at h
  ·rename_i fs hd hus
   split at h
   ·rename_i fl hfl
    split at h
    ·rename_i hut hit
     split at h
     ·cases h
     ·rename_i hsz
      cases h;rename_i ti' _;have hsz':¬ ti'.size=0:=hsz;simp [typeInfo,hti,hm,hpath,hf,Go.follow,Go.receiverAt,run_underlying hus,run_underlying hut,Go.Place.get,hfl,hd,asAddr,fieldPlace,sizeOf,hit,if_neg hsz',Addr.add];exact fun h=>h.symm
    ·cases h
   ·cases h
  ·cases h
 ·cases h
theorem hd1 {α:Type} (V:α) (l:Array α):(#[V]++l)[0]?=some V:=by rw [Array.getElem?_append_left (Nat.zero_lt_one)];rfl
theorem ext1 {α:Type} (V:α) (l:Array α):(#[V]++l).extract 1=l:=by simp [Array.extract_append]
theorem toA {α β:Type} (V:β) (f:α->β) (l:Array α):(V::l.toList.map f).toArray = #[V]++l.map f:=by simp
theorem enters_inv (hσ:σ.Ok κ) {rv:Operand} {name:String} {args:Array Operand} {tys:Array TypeId} {f:FuncId} {off q te:Nat} {e:TypeId} {xs:List D} {asL:List X} {fn:Func} {code:Code} (ho:o.op = .call { callee:=.invoke rv name,args:=args,argTypes:=tys }) (hrv:σ.ev rv=some (.ifc q te)) (hq:σ.den.H q=some (.box e xs)) (hm:methX c.P te name=some (f,off)) (hl:asL.length=args.toList.length)
    (hev : ∀ (i : Nat) (x : X), asL[i]? = some x → ∃ p, args.toList[i]? = some p ∧ σ.ev p = some x) (hfn : c.P.funcs[f]? = some fn) (hname' : fn.name ≠ "runtime.NumGoroutine") (hb : fn.body = some code) (hon : σ.On) : Enters c σ o f (.ref q off :: asL) := by
 intro E σ₁ ν G w a hT hHH I;have hrv':=I.ev (St.ev_le hT (evV_D hσ hon hrv));obtain ⟨v,hv⟩:∃ v,a.eval rv=v:=⟨_,rfl⟩
 rw [hv] at hrv';unfold X.D at hrv';obtain ⟨hn,g,cur,h1,_⟩:=I.H q _ (hHH q _ hq);cases hrv' with
 | via hk hr h1'=>
   subst hr;refine ⟨.pointer (some ⟨g,off,none⟩)::args.toList.map a.eval,?_,by simp [hl],fun t x0 hx0=>?_⟩
   ·unfold execOp
    rw [ho];have hmr:=method_run hm w g (c.P.types.size+99);rw [h1] at hv;simp only [resolve,invoke,callMethod,hv,Sem.run_bind,Sem.run_pure,Result.andThen_ok];have hV:∀ V:Value,(#[V]++args.map a.eval)[0]?=some V/\(#[V]++args.map a.eval).extract 1=args.map a.eval/\(V::args.toList.map a.eval).toArray = #[V]++args.map a.eval:=fun V=>⟨hd1 V _,ext1 V _,toA V _ _⟩
    rw [(hV _).1,(hV _).2.2];simp only [Sem.run_bind,run_program,Result.andThen_ok];rw [(hV _).2.1,show c.P.types.size+Made.depth=c.P.types.size+99+1 from rfl,hmr];simp only [Result.andThen_ok];exact run_enter hfn hname' (by rw [hb];exact fun e=>by cases e) _ w
   ·cases t with
    | zero=>
      simp only [List.getElem?_cons_zero,Option.some.injEq] at hx0;subst hx0;exact ⟨_,rfl,.ref hk (by rw [h1];rfl)⟩
    | succ t=>
      rw [List.getElem?_cons_succ] at hx0;obtain ⟨p,hp,hpv⟩:=hev t x0 hx0;refine ⟨a.eval p,?_,I.ev (St.ev_le hT (evV_D hσ hon hpv))⟩;rw [List.getElem?_cons_succ,List.getElem?_map,hp];rfl
theorem gives_inv (hG:GOk c.P c.G) (hσ:σ.Ok κ) {rv:Operand} {name:String} {args:Array Operand} {tys:Array TypeId} {q te:Nat} {e:TypeId} {xs:List D} (ho:o.op = .call { callee:=.invoke rv name,args:=args,argTypes:=tys }) (hrv:σ.ev rv=some (.ifc q te)) (hq:σ.den.H q=some (.box e xs))
    (h:(ob (methX c.P te name) fun m=>σ.evs args.toList fun xs=>callX c σ fr m.1 (.ref q m.2::xs) k)=some r):Gives c σ fr o k r:=by
 obtain ⟨⟨f,off⟩,hm,h⟩:=ob_some h;obtain ⟨asL,h1,hl,hev⟩:=evs_some h;clear h;unfold callX at h1;obtain ⟨g,hg,h2⟩:=ob_some h1;clear h1;obtain ⟨fn,hfn,h3⟩:=ob_some h2;clear h2;split at h3
 ·cases h3
 rename_i code hb;have hname' : fn.name ≠ "runtime.NumGoroutine" := by
  obtain ⟨hname,_⟩:=hG f g hg;unfold nameOk at hname;rw [hfn] at hname;simpa using hname
 have hen:=enters_inv (c:=c) hσ ho hrv hq hm hl hev hfn hname' hb;rcases gives_callZ hG hen hg (canons_ok c σ _ _) h3 with h | h
 ·rcases gives_callZ hG hen hg DWs.refl h with h | h
  ·cases h
  ·exact h
 ·exact h
end
end Go.Ax
/- Parts of rows of the walk's own, and copy. -/
namespace Go.Ax
open Alg
open Go.RowKit Go.Ab
theorem rowset {E:Env} {σ₁:St} {ν:Nat->Value} {G:Lim} {w w':World} {a:Act} (I:Inv E σ₁ ν G w a.tmps) {k fr g:Nat} {ob ob':AObj} (hk:σ₁.H k=some ob) (hg:blk (ν k)=some g) (hG0:G g=0) (hf1:∀ w v g,foot w v ob g ↔ blk v=some g) (hf2:∀ w v g,foot w v ob' g ↔ blk v=some g)
    (s1:w'.os=w.os) (s2:w'.tape=w.tape) (s3:w'.output=w.output) (s4:w'.heap.size=w.heap.size) (s5:∀ b,b≠g->w'.heap[b]?=w.heap[b]?) (hcell:∀ b i u,Cell w G b i u->Cell w' G b i u)
    (hnew:ObjOk E ν σ₁.nm w' G k ob') {dst:Option Tmp} {v:Value} {d:D} (hd:∀ t,dst=some t->t < E.m) (hv:DR ν σ₁.nm w' G v d):Inv E (σ₁.upd dst d [(k,some ob')] fr) ν G w' (a.put dst v).tmps:=by
 have hob:=(I.H k ob hk).2;have hmay:E.may g:=hob.mayb hg;have hnm:∀ j,σ₁.nm j=true->(σ₁.upd dst d [(k,some ob')] fr).nm j=true/\ν j=ν j:=fun j hj=>⟨by simp [St.upd,hj],rfl⟩
 refine ⟨⟨s1.trans I.kept.os,s2.trans I.kept.tape,s3.trans I.kept.output,by rw [s4];exact I.kept.size,fun b hb hX=>?_⟩,fun b i u h=>hcell b i u (I.keep b i u h),I.pin,I.g0,?_,fun t' d' h=>?_,fun j oj h=>?_,fun j1 o1 j2 o2 h1 h2 hne=>?_⟩
 ·refine (s5 b (fun e=>?_)).trans (I.kept.block b hb hX)
  subst e;rcases hmay with h | h
  ·omega
  ·exact hX h
 ·cases dst <;> simp [Act.put,I.sz]
 ·simp only [St.upd] at h
  split at h
  ·rename_i he'
   cases h;have:=hd t' he';exact ⟨v,by simp [he',Act.put,I.sz,this],hv.mono hnm (fun _ _ _ h=>h)⟩
  ·rename_i he'
   obtain ⟨u,hu,hdu⟩:=I.T t' d' h;refine ⟨u,?_,hdu.mono hnm hcell⟩;cases dst with
   | none=>simpa [Act.put] using hu
   | some t''=>
     have hne:t''≠t':=fun e=>he' (by rw [e])
     simp only [Act.put];rw [Array.getElem?_setIfInBounds_ne hne];exact hu
 ·by_cases hj:j=k
  ·subst hj
   simp [St.upd,Ab.look] at h;subst h;have h1:=(I.H j ob hk).1;exact ⟨(hnm j h1).1,ObjOk.mono h1 hnm (fun _ _ _ h=>h) (fun _ _=>⟨rfl,rfl⟩) hnew⟩
  ·have h':σ₁.H j=some oj:=by simpa [St.upd,Ab.look,Ne.symm hj] using h
   obtain ⟨h1,h2⟩:=I.H j oj h';refine ⟨(hnm j h1).1,h2.mono h1 hnm hcell (fun g' hg'=>⟨s5 g' (fun e=>?_),rfl⟩)⟩;subst e;exact I.dis j oj k ob h' hk hj g' hg' (foot_blk hg)
 ·have back:∀ j oj,(σ₁.upd dst d [(k,some ob')] fr).H j=some oj->∃ oj',σ₁.H j=some oj'/\∀ g',foot w' (ν j) oj g'->foot w (ν j) oj' g':=fun j oj h=>by
   by_cases hj:j=k
   ·subst hj
    simp [St.upd,Ab.look] at h;subst h;exact ⟨ob,hk,fun g' hg'=>(hf1 _ _ _).2 ((hf2 _ _ _).1 hg')⟩
   ·have h':σ₁.H j=some oj:=by simpa [St.upd,Ab.look,Ne.symm hj] using h
    refine ⟨oj,h',fun g' hg'=>(foot_of fun b hb=>s5 b fun e=>?_).1 hg'⟩;subst e;exact I.dis j oj k ob h' hk hj b (foot_blk hb) (foot_blk hg)
  obtain ⟨o1',h1',f1⟩:=back j1 o1 h1;obtain ⟨o2',h2',f2⟩:=back j2 o2 h2;exact fun g' hg1 hg2=>I.dis j1 o1' j2 o2' h1' h2' hne g' (f1 g' hg1) (f2 g' hg2)
section
variable {P:Program} {o:Oper} {s:St} {fr:Nat}
theorem ok_slcO {t e e0:TypeId} {x:Operand} {lo hi:Option Operand} {sz n q:Nat} {ts:List Tree} {st:Bool} {a b:Option Int} (hs0:0 < sz) (hu:P.underlying t=some (.slice e)) (hs:sizeT P e=some sz) (ho:o.op = .slice t x lo hi none) (hx:s.ev x=some (.own q)) (hq:s.H q=some (.row e0 sz n ts st))
    (hlo:BndOk s lo a) (hhi:BndOk s hi b) (hok:slcOk n a b=true):OpOk P o s fr (.vw q (loN a * sz) (hiN n b - loN a)) []:=
 ok_pure fun E σ₁ ν G w ac hH I hev=>by
  have hd:=hev x _ hx;obtain ⟨kl,e1⟩:=hlo.run (ρ:=ac.eval) (fun x d h=>bool_of (hev x _ h));obtain ⟨kh,e2⟩:=hhi.run (ρ:=ac.eval) (fun x d h=>bool_of (hev x _ h));obtain ⟨g1,g2,g3,g4⟩:=slcOk_ok hok;obtain ⟨inf,hinf,hsz⟩:=Option.map_eq_some_iff.1 hs;obtain ⟨hv,hk⟩:=mp_of hd;obtain ⟨xs,r1,_⟩:=(I.H q _ (hH q _ hq)).2;rcases r1.2 with ⟨hz,h0⟩ | ⟨g,cap,cur,hz,_,_,hcap,_⟩
  ·subst h0
   have hb:=bounds_run (P:=P) (w:=w) (isS:=true) (n:=0) (cap:=0) (lo:=a) (hi:=b) (kl:=kl) (kh:=kh) g1 (by omega) g3 g4;have z1:hiN 0 b=0:=by omega
   have z2:loN a=0:=by omega
   rw [z1,z2] at hb;refine ⟨.slice none 0 0,?_,?_⟩
   ·unfold execOp
    rw [ho];simp only [hv,hz,e1,e2,Option.map_none];simp [Instr.sliceAt,Instr.slice,run_underlying hu,hb,sizeOf,typeInfo,hinf]
   ·rw [z1,z2]
    exact .vw0 hk rfl hz
  ·have hb:=bounds_run (P:=P) (w:=w) (isS:=true) (n:=n) (cap:=cap) (lo:=a) (hi:=b) (kl:=kl) (kh:=kh) g1 (by omega) g3 g4
   refine ⟨.slice (if cap=loN a then some ⟨g,0,none⟩ else some ((⟨g,0,none⟩:Addr).add (loN a * sz))) (hiN n b - loN a) (cap - loN a),?_,?_⟩
   ·unfold execOp
    rw [ho];simp only [hv,hz,e1,e2,Option.map_none];simp [Instr.sliceAt,Instr.slice,run_underlying hu,hb,sizeOf,typeInfo,hinf,hsz]
   ·by_cases hc:cap=loN a
    ·rw [if_pos hc]
     exact .vw hk (by rw [hz];rfl) (fun h=>by omega) (by omega) (fun h=>⟨n,by
      have h0:loN a=0:=(Nat.mul_eq_zero.1 h).resolve_right (by omega);rw [hz,h0,Nat.sub_zero]⟩)
    ·rw [if_neg hc,Addr.add_mid,Nat.zero_add]
     exact .vw hk (by rw [hz];rfl) (fun _=>rfl) (by omega) (fun h=>⟨n,by
      have h0:loN a=0:=(Nat.mul_eq_zero.1 h).resolve_right (by omega);rw [hz,h0,Nat.sub_zero,Nat.zero_mul]⟩)
inductive CSrc (s:St) (x:Operand) (sz:Nat):Nat->List Tree->Prop
 | src {n:Nat} {ts:List Tree} (h:Src s x n ts) (hl:ts.length=n * sz):CSrc s x sz n ts
 | vw {k off n N:Nat} {ts:List Tree} {e:TypeId} {st:Bool} (h:s.ev x=some (.vw k off n)) (hk:s.H k=some (.row e sz N ts st)) (hb:off+n * sz<=ts.length):CSrc s x sz n ((ts.drop off).take (n * sz))
theorem CSrc.rd {s σ₁:St} {x:Operand} {sz n:Nat} {ts:List Tree} (h:CSrc s x sz n ts) {E:Env} {ν:Nat->Value} {G:Lim} {w:World} {a:Act} (hT:∀ t d,s.T t=some d->σ₁.T t=some d) (hH:∀ k o,s.H k=some o->σ₁.H k=some o) (I:Inv E σ₁ ν G w a.tmps):
    ∃ ax c us,a.eval x = .slice ax n c/\us.length=n * sz/\ts.length=n * sz/\Rd w ax us/\(ax=none->c=0/\n=0)/\∀ (i:Nat) (u:Value) (t:Tree),us[i]?=some u->ts[i]?=some t->TR w G u t:=by
 cases h with
 | src h hl=>
   obtain ⟨ax,c,us,h1,h2,h3,h4,h5⟩:=h.rd hT hH I;exact ⟨ax,c,us,h1,h2.trans hl,hl,h3,h4,h5⟩
 | @vw k off _ N ts e st h hk hb=>
   have hv:=I.ev (St.ev_le hT h);obtain ⟨v,he⟩:∃ v,a.eval x=v:=⟨_,rfl⟩
   rw [he] at hv ⊢;have hlen:((ts.drop off).take (n * sz)).length=n * sz:=by rw [List.length_take,List.length_drop];omega
   cases hv with
   | vw0 hkn hc _=>exact ⟨none,_,[],rfl,by simp,hlen,Rd.nil,fun _=>⟨hc,rfl⟩,fun i u t h=>by simp at h⟩
   | @vw _ _ _ o c g hkn hg ho hn _=>
     obtain ⟨xs,r1,r2,r3,r4⟩:=(I.H _ _ (hH _ _ hk)).2;by_cases hn0:n=0
     ·subst hn0
      exact ⟨some ⟨g,o,none⟩,c,[],rfl,by simp,hlen,fun j u hj=>by simp at hj,(fun e=>by cases e),fun i u t h=>by simp at h⟩
     ·have ho':=ho (by omega)
      subst ho';refine ⟨some ⟨g,o,none⟩,c,(xs.drop o).take (n * sz),rfl,by rw [List.length_take,List.length_drop];omega,hlen,fun j u hj=>⟨_,rfl,?_⟩,(fun e=>by cases e),fun i u t hu ht=>?_⟩
      ·rw [List.getElem?_take] at hj
       split at hj
       ·rw [List.getElem?_drop] at hj
        have:=r1.cells (g:=g) (by rw [← ownsRow_blk r1];exact hg) _ u hj;rw [Addr.add_mid] at this ⊢;rw [Nat.zero_add] at this;exact this
       ·cases hj
      ·rw [List.getElem?_take] at hu ht
       split at hu
       ·rename_i hi
        rw [if_pos hi] at ht;rw [List.getElem?_drop] at hu ht;exact r3 _ u t hu ht
       ·cases hu
theorem owns_pre {w:World} {e s N cap n g:Nat} {xs:List Value} (h:w.ownsRow 0 e s (.slice (some ⟨g,0,none⟩) N cap) N xs) (hn:n<=N):w.ownsRow 0 e s (.slice (some ⟨g,0,none⟩) n cap) n (xs.take (n * s)):=by
 rcases h.2 with ⟨h1,_⟩ | ⟨g',cap',cur,h1,h2,h3,h4,h5,h6,h7⟩
 ·cases h1
 ·cases h1
  refine ⟨by rw [List.length_take,h.1];exact Nat.min_eq_left (Nat.mul_le_mul_right _ hn),.inr ⟨g,cap,cur,rfl,h2,h3,Nat.le_trans hn h4,h5,h6,?_⟩⟩;rw [← h7,List.take_take,Nat.min_eq_left (Nat.mul_le_mul_right _ hn)]
theorem ok_appCut {t e:TypeId} {z:Value} {size bytes:Nat} {x y:Operand} {k n N m:Nat} {ts ys:List Tree} (hT:AppT P t e z size bytes) (ho:o.op = .call { callee:=.builtin .append,args:=#[x,y],argTypes:=#[t,t] })
    (hs:s.ev x=some (.vw k 0 n)) (hk:s.H k=some (.row e size N ts false)) (hn:n<=N) (hx:CSrc s y size m ys) (hb:(n+m) * bytes<=140737488355328/\n+m<=maxLen):OpOk P o s fr (.own fr) [(fr,some (.row e size (n+m) (ts.take (n * size)++ys) false)),(k,none)]:=by
 intro E σ₁ a w hTT hHH h100 hf hd ⟨ν,G,I⟩ Q;obtain ⟨ax,c,us,hxv,hul,hyl,hrd,hnone,htr⟩:=hx.rd hTT hHH I;have hone:∀ u ∈ us,u.oneCell'=true:=fun u hu=>by
  obtain ⟨i,hi⟩:=List.mem_iff_getElem?.1 hu;have hlt:i < ys.length:=by rw [hyl,← hul];exact (List.getElem?_eq_some_iff.1 hi).1
  exact (htr i u _ hi (List.getElem?_eq_getElem hlt)).one
 have hrow:∃ v xs,a.eval x=v/\w.ownsRow 0 e size v n xs/\xs.length=(ts.take (n * size)).length/\(∀ (i:Nat) (u:Value) (t:Tree),xs[i]?=some u->(ts.take (n * size))[i]?=some t->TR w G u t)/\blk (ν k)=v.ownBlock /\
     (∀ g,v.ownBlock=some g->E.may g/\G g=0):=by
  have hv:=I.ev (St.ev_le hTT hs);obtain ⟨v,he⟩:∃ v,a.eval x=v:=⟨_,rfl⟩
  rw [he] at hv;obtain ⟨xs,r1,r2,r3,r4⟩:=(I.H _ _ (hHH _ _ hk)).2;have tk:∀ (i:Nat) (u:Value) (t:Tree),(xs.take (n * size))[i]?=some u->(ts.take (n * size))[i]?=some t->TR w G u t:=fun i u t hu ht=>by
   rw [List.getElem?_take] at hu ht;split at hu
   ·rename_i hi
    rw [if_pos hi] at ht;exact r3 i u t hu ht
   ·cases hu
  cases hv with
  | vw0 hkn hc hz=>
    subst hc;exact ⟨_,[],he,World.ownsRow_nil w 0 e size,by simp,(fun i u t h=>by simp at h),by rw [hz];rfl,fun g hg=>by cases hg⟩
  | @vw _ _ _ o1 c1 g hkn hg h1 h2 hp=>
    obtain ⟨N',hz⟩:=hp rfl;rw [hz] at r1;rcases r1.2 with ⟨h3,_⟩ | ⟨g',cap,cur,h3,hr⟩
    ·cases h3
    ·cases h3
     have own1:w.ownsRow 0 e size (.slice (some ⟨g,0,none⟩) N c1) N xs:=⟨r1.1,.inr ⟨g,c1,cur,rfl,hr⟩⟩;exact ⟨_,xs.take (n * size),he,owns_pre own1 hn,by rw [List.length_take,List.length_take,r2],tk,by rw [hz];rfl,fun g' hg'=>by
      cases hg';exact r4 g hg⟩
 obtain ⟨v,xs,hsv,hown,hxl,hxt,hkb,hmay⟩:=hrow;obtain ⟨v',w',hr,r2,q1,q2,q3,q4,q5,q6,q7⟩:=run_app (ty:=o.type) hT hown (m:=m) (c:=c) hul hrd (fun e=>(hnone e).1) hone hb.2 hb.1;unfold Oper.wp;have he:(execOp a.eval o).run P w = .ok (.value v') w':=by
  unfold execOp;rw [ho];simp [resolve,invoke,builtin,hsv,hxv,hr]
 rw [he,Oper.upon_value];have hcell:∀ b i u,Cell w G b i u->Cell w' (fun b=>if v'.ownBlock=some b then 0 else G b) b i u:=fun b i u h=>by
  by_cases hb':v.ownBlock=some b
  ·have hG:=(hmay b hb').2
   have h2:=h.2;rw [hG] at h2;omega
  ·refine ⟨(World.cell?_of_block (a:=⟨b,i,none⟩) (q5 b h.lt hb')).trans h.1,?_⟩
   have:v'.ownBlock≠some b:=fun e=>by
    rcases q7 b e with h' | h'
    ·have:=h.lt;omega
    ·exact hb' h'
   simp only [if_neg this];exact h.2
 have hblkv:∀ g,blk v'=some g->v'.ownBlock=some g:=fun g hg=>by rw [← ownsRow_blk r2];exact hg
 have hwr:appW (some k) fr (.row e size (n+m) (ts.take (n * size)++ys) false)=[(fr,some (.row e size (n+m) (ts.take (n * size)++ys) false)),(k,none)]:=rfl;rw [← hwr];refine ⟨put_defers ..,setν ν fr v',_,I.new h100 hf hd (some k) (o:=.row e size (n+m) (ts.take (n * size)++ys) false) (fun j'=>?_) q1 q2 q3 q4 (fun b hb hnk=>?_) hcell (fun j hj=>by cases hj;exact ⟨_,hHH _ _ hk⟩) (x:=v') (fun g hg=>?_) ?_ ?_⟩
 ·by_cases h:j'=fr
  ·subst h;simp [appW,Ab.look]
  ·by_cases h':j'=k
   ·subst h';simp [appW,Ab.look,h,Ne.symm h]
   ·simp [appW,Ab.look,h,Ne.symm h,h',Ne.symm h']
 ·have hne:v.ownBlock≠some b:=fun e=>hnk k rfl (by rw [hkb];exact e)
  refine ⟨q5 b hb hne,if_neg (fun e=>?_)⟩;rcases q7 b e with h | h
  ·omega
  ·exact hne h
 ·rcases q7 g (hblkv g hg) with h | h
  ·exact .inl h
  ·exact .inr ⟨k,rfl,by rw [hkb];exact h⟩
 ·refine ⟨xs++us,by rw [setν_same];exact r2,by rw [List.length_append,List.length_append,hxl,hul,hyl],fun i u t hu ht=>?_,fun g hg=>?_⟩
  ·by_cases hi:i < xs.length
   ·rw [List.getElem?_append_left hi] at hu
    rw [List.getElem?_append_left (by omega)] at ht;exact (hxt i u t hu ht).mono hcell
   ·rw [List.getElem?_append_right (by omega)] at hu
    rw [List.getElem?_append_right (by omega)] at ht;exact (htr _ u t hu (by rw [hxl];exact ht)).mono hcell
  ·rw [setν_same] at hg
   have hg':=hblkv g hg;refine ⟨?_,if_pos hg'⟩;rcases q7 g hg' with h | h
   ·exact .inl (Nat.le_trans I.kept.size h)
   ·exact (hmay g h).1
 ·have:DR (setν ν fr v') (σ₁.upd o.dst .any (appW (some k) fr (.row e size (n+m) (ts.take (n * size)++ys) false)) fr).nm w' (fun b=>if v'.ownBlock=some b then 0 else G b) (setν ν fr v' fr) (.own fr):=.own (upd_nm_fr ..) (by rw [setν_same];exact ownsRow_one r2)
  rw [setν_same] at this;exact this
theorem ok_copy {t t' e e0:TypeId} {x y:Operand} {q off n m N:Nat} {ts us:List Tree} (hu:P.underlying t=some (.slice e)) (hs:sizeT P e=some 1) (ho:o.op = .call { callee:=.builtin .copy,args:=#[x,y],argTypes:=#[t,t'] })
    (hx:(s.ev x=some (.own q)/\off=0/\n=N)\/s.ev x=some (.vw q off n)) (hq:s.H q=some (.row e0 1 N ts false)) (hy:CSrc s y 1 m us) (hb:off+n<=ts.length):
    OpOk P o s fr (I (min m n:Nat)) [(q,some (.row e0 1 N (ts.take off++us.take n++ts.drop (off+min m n)) false))]:=by
 intro E σ₁ a w hT hH h100 hf hd ⟨ν,G,I⟩ Q;obtain ⟨ax,c,cs,hyv,hcl,hul,hrd,hnone,htr⟩:=hy.rd hT hH I;rw [Nat.mul_one] at hcl hul;have hob:=(I.H q _ (hH q _ hq)).2;obtain ⟨xs,r1,r2,r3,r4⟩:=id hob;have hone:∀ v ∈ cs,v.oneCell'=true:=fun v hv=>by
  obtain ⟨i,hi⟩:=List.mem_iff_getElem?.1 hv;have hlt:i < us.length:=by rw [hul,← hcl];exact (List.getElem?_eq_some_iff.1 hi).1
  exact (htr i v _ hi (List.getElem?_eq_getElem hlt)).one
 -- the destination
 have hdst:∃ base cap,a.eval x = .slice base n cap/\((base=none/\n=0)\/∃ g o',base=some ⟨g,o',none⟩/\blk (ν q)=some g/\(0 < n->o'=off)):=by
  rcases hx with ⟨hx,h0,hn⟩ | hx
  ·obtain ⟨hv,_⟩:=mp_of (I.ev (St.ev_le hT hx))
   subst h0 hn;rcases r1.2 with ⟨hz,h0⟩ | ⟨g,cap,cur,hz,_⟩
   ·exact ⟨none,0,by rw [hv,hz,h0],.inl ⟨rfl,h0⟩⟩
   ·exact ⟨_,cap,by rw [hv,hz],.inr ⟨g,0,rfl,by rw [hz];rfl,fun _=>rfl⟩⟩
  ·have hv:=I.ev (St.ev_le hT hx)
   obtain ⟨v,he⟩:∃ v,a.eval x=v:=⟨_,rfl⟩
   rw [he] at hv ⊢;cases hv with
   | vw hk hg ho hn _=>exact ⟨_,_,rfl,.inr ⟨_,_,rfl,hg,ho⟩⟩
   | vw0 hk hc _=>exact ⟨none,_,rfl,.inl ⟨rfl,rfl⟩⟩
 obtain ⟨base,cap,hxv,hbase⟩:=hdst;obtain ⟨inf,hinf,hsz⟩:=Option.map_eq_some_iff.1 hs;have hmin:(cs.take n).length=min m n:=by rw [List.length_take,hcl,Nat.min_comm]
 have key:∃ w',(Builtin.copy_ #[t,t'] o.type #[.slice base n cap,.slice ax m c]).run P w = .ok (.int .i64 (min m n:Nat)) w' /\
     ((w'=w/\min m n=0)\/∃ g cur et,blk (ν q)=some g/\w.heap[g]?=some (.cells cur et (0,0))/\off+min m n<=cur.size/\(∀ i,i < N->cur.toList[i]?=xs[i]?)/\w'=w.setRow g (cur.toList.take off++cs.take n++cur.toList.drop (off+min m n)).toArray):=by
  by_cases h0:min m n=0
  ·refine ⟨w,?_,.inl ⟨rfl,h0⟩⟩
   have hN:Nat.min m n=0:=h0;cases base with
   | none=>
     cases ax with
     | none=>simp [Builtin.copy_,run_underlying hu,Builtin.lenOf,Builtin.firstCells,sizeOf,typeInfo,hinf,hN,goInt]
     | some ad=>
       have hl0:=run_loadCells_list (P:=P) w ad [] (by simp);simp only [List.length_nil] at hl0;simp [Builtin.copy_,run_underlying hu,Builtin.lenOf,Builtin.firstCells,sizeOf,typeInfo,hinf,hN,goInt,hl0]
   | some ab=>
     cases ax with
     | none=>simp [Builtin.copy_,run_underlying hu,Builtin.lenOf,Builtin.firstCells,sizeOf,typeInfo,hinf,hN,goInt,storeCells]
     | some ad=>
       have hl0:=run_loadCells_list (P:=P) w ad [] (by simp);simp only [List.length_nil] at hl0;simp [Builtin.copy_,run_underlying hu,Builtin.lenOf,Builtin.firstCells,sizeOf,typeInfo,hinf,hN,goInt,storeCells,hl0]
  ·rcases hbase with ⟨_,hn⟩ | ⟨g,o',rfl,hg,ho'⟩
   ·omega
   ·have ho'':=ho' (by omega)
    subst ho'';have hax:∃ ad,ax=some ad:=by
     cases ax with
     | none=>have:=(hnone rfl).2;omega
     | some ad=>exact ⟨ad,rfl⟩
    obtain ⟨ad,rfl⟩:=hax;rcases r1.2 with ⟨hz,_⟩ | ⟨g',cap',cur,hz,_,z2,z3,z4,z5,z6⟩
    ·rw [hz] at hg;cases hg
    ·rw [hz] at hg
     cases hg;have hxl:xs.length=N:=by rw [r1.1,Nat.mul_one]
     have hfit:o'+(cs.take n).length<=cur.size:=by rw [hmin,z5];omega
     refine ⟨_,?_,.inr ⟨_,cur,_,by rw [hz];rfl,z2,by rw [← hmin];exact hfit,fun i hi=>?_,rfl⟩⟩
     ·have:=run_copy_row (P:=P) w t t' o.type e _ o' n cap ad m c cur _ (cs.take n) hu (by rw [hinf];simp [hsz]) z2 (by rw [hmin]) (fun j v hj=>by
       rw [List.getElem?_take] at hj;split at hj
       ·obtain ⟨ad',he',hc'⟩:=hrd j v hj
        cases he';exact hc'
       ·cases hj) hfit (fun v hv=>hone v (List.mem_of_mem_take hv))
      rw [hmin] at this;exact this
     ·rw [← z6,List.getElem?_take,if_pos (by omega)]
 obtain ⟨w',hr,hw'⟩:=key;unfold Oper.wp;have he:(execOp a.eval o).run P w = .ok (.value (.int .i64 (min m n:Nat))) w':=by
  unfold execOp;rw [ho];simp [resolve,invoke,builtin,hxv,hyv,hr]
 rw [he,Oper.upon_value];have hxl:xs.length=N:=by rw [r1.1,Nat.mul_one]
 rcases hw' with ⟨rfl,h0⟩ | ⟨g,cur,et,hg,hcur,hfit,hsame,rfl⟩
 ·have hts:ts.take off++us.take n++ts.drop (off+min m n)=ts:=by
   have:us.take n=[]:=by
    apply List.eq_nil_of_length_eq_zero;rw [List.length_take,hul,Nat.min_comm];exact h0
   rw [this,h0,List.append_nil,Nat.add_zero,List.take_append_drop]
  rw [hts];refine ⟨put_defers ..,ν,G,?_⟩;have:=I.put (dst:=o.dst) (v:=.int .i64 (min m n:Nat)) (d:=Go.Ab.I (min m n:Nat)) (.t (.v _ rfl)) hd fr a rfl;refine ⟨this.kept,this.keep,this.pin,this.g0,this.sz,this.T,fun k ok hk=>?_,fun k ok k' ok' h1 h2=>?_⟩
  ·by_cases hkq:q=k
   ·subst hkq
    simp [St.upd,Ab.look] at hk;subst hk;exact this.H q _ (by simp [St.upd,Ab.look];exact hH q _ hq)
   ·exact this.H k ok (by simpa [St.upd,Ab.look,hkq] using hk)
  ·have conv:∀ k ok,(σ₁.upd o.dst (Go.Ab.I (min m n:Nat)) [(q,some (.row e0 1 N ts false))] fr).H k=some ok->(σ₁.upd o.dst (Go.Ab.I (min m n:Nat)) [] fr).H k=some ok:=fun k ok h=>by
    by_cases hkq:q=k
    ·subst hkq
     simp [St.upd,Ab.look] at h;subst h;simp [St.upd,Ab.look];exact hH q _ hq
    ·simpa [St.upd,Ab.look,hkq] using h
   exact this.dis k ok k' ok' (conv k ok h1) (conv k' ok' h2)
 ·have hG0:G g=0:=by simpa using (r4 g hg).2
  have hsz':cur.size=cur.toList.length:=by simp
  have s5:∀ b,b≠g->(w.setRow g (cur.toList.take off++cs.take n++cur.toList.drop (off+min m n)).toArray).heap[b]?=w.heap[b]?:=fun b hb=>setRow_other w g b _ hb
  have hcell:∀ b i u,Cell w G b i u->Cell (w.setRow g (cur.toList.take off++cs.take n++cur.toList.drop (off+min m n)).toArray) G b i u:=fun b i u h=>by
   have hne:b≠g:=fun e=>by have:=h.2;rw [e,hG0] at this;omega
   exact ⟨(World.cell?_of_block (a:=⟨b,i,none⟩) (s5 b hne)).trans h.1,h.2⟩
  have hcslen:(cur.toList.take off++cs.take n++cur.toList.drop (off+min m n)).length=cur.size:=by
   simp only [List.length_append,List.length_take,List.length_drop,hcl,hsz'];rw [hsz'] at hfit;omega
  have hnewrow:(w.setRow g (cur.toList.take off++cs.take n++cur.toList.drop (off+min m n)).toArray).ownsRow 0 e0 1 (ν q) N (xs.take off++cs.take n++xs.drop (off+min m n)):=by
   have hxs':xs=cur.toList.take N:=by
    apply List.ext_getElem?;intro i;rw [List.getElem?_take];by_cases hi:i < N
    ·rw [if_pos hi,hsame i hi]
    ·rw [if_neg hi,List.getElem?_eq_none (by omega)]
   have hoN:off+min m n<=N:=by rw [← r2,hxl] at hb;omega
   refine ⟨by simp only [List.length_append,List.length_take,List.length_drop,hxl,hcl];omega,?_⟩;rcases r1.2 with ⟨hz,_⟩ | ⟨g',cap',cur',hz,z1,z2,z3,z4,z5,z6⟩
   ·rw [hz] at hg;cases hg
   ·rw [hz] at hg
    cases hg;rw [hcur] at z2;cases z2;refine .inr ⟨_,cap',_,hz,z1,setRow_heap w _ cur _ _ (0,0) hcur,z3,z4,by rw [List.size_toArray,hcslen];exact z5,?_⟩;rw [Nat.mul_one];apply List.ext_getElem?;intro i;rw [List.getElem?_take];have hl1:(cur.toList.take off).length=off:=by rw [List.length_take];rw [hsz'] at hfit;omega
    have hl2:(xs.take off).length=off:=by rw [List.length_take,hxl];omega
    by_cases hi:i < N
    ·rw [if_pos hi]
     by_cases h1:i < off
     ·rw [List.append_assoc,List.append_assoc,List.getElem?_append_left (by omega),List.getElem?_append_left (by omega),List.getElem?_take,List.getElem?_take,if_pos h1,if_pos h1,hsame i hi]
     ·have h4:(cur.toList.take off).length<=i:=by omega
      have h5:(xs.take off).length<=i:=by omega
      rw [List.append_assoc,List.append_assoc,List.getElem?_append_right h4,List.getElem?_append_right h5,hl1,hl2];by_cases h2:i - off < min m n
      ·rw [List.getElem?_append_left (by rw [hmin];exact h2),List.getElem?_append_left (by rw [hmin];exact h2)]
      ·have h3:(cs.take n).length<=i - off:=by rw [hmin];omega
       rw [List.getElem?_append_right h3,List.getElem?_append_right h3,hmin,List.getElem?_drop,List.getElem?_drop,show off+min m n+(i - off - min m n)=i by omega,hsame i hi]
    ·rw [if_neg hi,List.getElem?_eq_none]
     simp only [List.length_append,List.length_take,List.length_drop,hxl,hcl];omega
  refine ⟨put_defers ..,ν,G,rowset (w':=w.setRow g (cur.toList.take off++cs.take n++cur.toList.drop (off+min m n)).toArray) (ob':=.row e0 1 N (ts.take off++us.take n++ts.drop (off+min m n)) false) I (hH q _ hq) hg hG0 (fun _ _ _=>Iff.rfl) (fun _ _ _=>Iff.rfl) rfl rfl rfl (setRow_size w g (cur.toList.take off++cs.take n++cur.toList.drop (off+min m n)).toArray) s5 hcell ⟨_,hnewrow,?_,fun i u tr hu' htr'=>?_,r4⟩ hd (.t (.v _ rfl))⟩
  ·simp only [List.length_append,List.length_take,List.length_drop,hcl,hul,r2]
  ·have hl1:(xs.take off).length=(ts.take off).length:=by simp [r2]
   have hl2:(cs.take n).length=(us.take n).length:=by simp [hcl,hul]
   rw [List.append_assoc] at hu' htr';by_cases h1:i < (xs.take off).length
   ·rw [List.getElem?_append_left h1] at hu'
    rw [List.getElem?_append_left (by omega)] at htr';rw [List.getElem?_take] at hu' htr';split at hu'
    ·rename_i hi
     rw [if_pos hi] at htr';exact (r3 i u tr hu' htr').mono hcell
    ·cases hu'
   ·rw [List.getElem?_append_right (by omega)] at hu'
    rw [List.getElem?_append_right (by omega),← hl1] at htr';by_cases h2:i - (xs.take off).length < (cs.take n).length
    ·rw [List.getElem?_append_left h2] at hu'
     rw [List.getElem?_append_left (by omega)] at htr';rw [List.getElem?_take] at hu' htr';split at hu'
     ·rename_i hi
      rw [if_pos hi] at htr';exact (htr _ u tr hu' htr').mono hcell
     ·cases hu'
    ·rw [List.getElem?_append_right (by omega)] at hu'
     rw [List.getElem?_append_right (by omega),← hl2] at htr';rw [List.getElem?_drop] at hu' htr';exact (r3 _ u tr hu' htr').mono hcell
end
end Go.Ax
/- Arrays in variables at places that are not known; rows cut at their ends; nil slices. -/
namespace Go.Ax
open Alg
open Go.RowKit Go.Ab
theorem listE_eq {τ:Ty}:∀ {xs:List X} {l:List τ.V},listE τ xs=some l->xs=l.map (X.e τ)
 | [],l,h=>by cases h;rfl
 | x::r,l,h=>by
   cases x with
   | e τ' y=>
     unfold listE at h;generalize teq τ' τ=p at h;cases p with
     | none=>cases h
     | some q=>
       obtain ⟨q⟩:=q;subst q;simp only at h;split at h
       ·rename_i l' hl
        cases h;rw [listE_eq hl];rfl
       ·cases h
   | _=>cases h
theorem selL_eq (τ:Ty) (off:Nat) (z:τ.V):∀ (l:List τ.V) (i:Nat),selL τ (off+i) z i l=(l.set off z).map (X.e τ)
 | [],i=>by simp [selL]
 | y::l,i=>by
   unfold selL;cases off with
   | zero=>
     have h0:Nat.beq (0+i) i=true:=by rw [Nat.zero_add];exact Nat.beq_refl i
     rw [h0];have:∀ (l:List τ.V) (j:Nat),0+i < j->selL τ (0+i) z j l=l.map (X.e τ):=by
      intro l
      induction l with
      | nil=>intro j _;rfl
      | cons y l ih=>
        intro j hj;unfold selL;have hb:Nat.beq (0+i) j=false:=by
         cases hb:Nat.beq (0+i) j with
         | false=>rfl
         | true=>have:=Nat.eq_of_beq_eq_true hb;omega
        rw [hb,ih (j+1) (by omega)];rfl
     rw [this l (i+1) (by omega)];rfl
   | succ off=>
     have hb:Nat.beq (off+1+i) i=false:=by
      cases hb:Nat.beq (off+1+i) i with
      | false=>rfl
      | true=>have:=Nat.eq_of_beq_eq_true hb;omega
     have ih:=selL_eq τ off z l (i+1);rw [show off+(i+1)=off+1+i by omega] at ih;rw [hb,ih];rfl
section
variable {c:Cx} {σ:Vw} {κ:Nat->Bool} {fr:Nat} {o:Oper} {r:Res}
theorem indexSym_ok {t:TypeId} {a x:X} {k:X->O} (h:indexSym c σ t a x k=some r):∃ y,k y=some r/\y.pl=true/\(σ.On->∀ {xa xn:Operand},o.op = .indexAddr t xa xn->σ.den.ev xa=some a.D->σ.den.ev xn=some x.D->OpOk c.P o σ.den fr y.D []):=by
 unfold indexSym at h;replace h:=asInt_some h;obtain ⟨ik,n,hx,h⟩:=h;split at h
 ·rename_i q off
  split at h
  ·rename_i m s hs
   obtain ⟨h1,h2⟩:=ckg_some h;refine ⟨_,h1,rfl,fun hon xa xn ho ha hn=>?_⟩;obtain ⟨g1,g2⟩:=of_decide_eq_true (h2 hon.g);rw [hx] at hn;exact ok_indexa (P:=c.P) (fr:=fr) ho hs ha hn g1 g2
  ·cases h
 ·cases h
theorem loadSym_ok {t:TypeId} {a:X} {k:X->O} (h:loadSym c σ t a k=some r):∃ y,k y=some r/\y.pl=true/\(σ.On->∀ {x:Operand},o.op = .load t x->σ.den.ev x=some a.D->OpOk c.P o σ.den fr y.D []):=by
 unfold loadSym at h;split at h
 ·rename_i q off hrw
  split at h
  ·rename_i e τ y xs hq
   split at h
   ·rename_i h1
    obtain ⟨l,hl,h⟩:=ob_some h;obtain ⟨z,h3,h4⟩:=gxg_some h;refine ⟨_,h3,rfl,fun hon x ho hx=>?_⟩;obtain ⟨_,g2⟩:=h4 hon.g;rw [Int.toNat_natCast] at g2;refine ld1 hrw ho hx (den_H hq) ?_;have e1:=listE_eq hl;show ((X.e τ y::xs).map X.D)[off]?=_;rw [e1,List.map_map,List.getElem?_map,g2];rfl
   ·cases h
  ·cases h
 ·cases h
theorem storeSym_ok {t:TypeId} {a y:X} {k:X->Wx->O} (h:storeSym c σ t a y k=some r):∃ W,k (.tup []) W=some r/\∀ {x z:Operand},o.op = .store t x z->σ.den.ev x=some a.D->σ.den.ev z=some y.D->y.val=true->OpOk c.P o σ.den fr (.tup []) (WA W):=by
 unfold storeSym at h;split at h
 ·rename_i q off τ z hm
  split at h
  ·rename_i h1
   split at h
   ·rename_i e xs hq
    obtain ⟨l,hl,h⟩:=ob_some h;obtain ⟨hlt,h⟩:=ck_some h;have hlt:=of_decide_eq_true hlt;refine ⟨_,h,fun ho hx hz hv=>?_⟩;have e1:=listE_eq hl;have e2:=selL_eq τ off z l 0;rw [Nat.add_zero] at e2;have hc:=cells_val hv;have hcl:(X.e τ z).cells=[X.e τ z]:=rfl;refine ok_store (d:=(X.e τ z).D) (ob':=(XO.box e (selL τ off z 0 l)).A) ho ?_ hx (.ev hz) (val_D hv) (den_H hq) ?_ ?_
    ·rw [hc,hcl];exact hm
    ·show (if off+(X.e τ z).D.cells.length<=(xs.map X.D).length then _ else none)=_
     rw [hc,hcl,e1,if_pos (by simp;omega),e2];simp only [XO.A]
     congr 2
     show splice ((l.map (X.e τ)).map X.D) off [(X.e τ z).D]=((l.set off z).map (X.e τ)).map X.D;rw [List.map_map,List.map_map,List.map_set,List.set_eq_take_append_cons_drop,if_pos (by simpa using hlt)];simp [splice]
    ·rw [hc,hcl];exact Nat.one_pos
   ·cases h
  ·cases h
 ·cases h
end
section
variable {P:Program} {o:Oper} {s:St} {fr:Nat}
theorem ok_cut {t e e0:TypeId} {x:Operand} {hi:Option Operand} {sz N q:Nat} {ts:List Tree} {n:Int} (hu:P.underlying t=some (.slice e)) (hs:sizeT P e=some sz) (ho:o.op = .slice t x none hi none) (hx:s.ev x=some (.own q)) (hq:s.H q=some (.row e0 sz N ts false))
    (hhi:BndOk s hi (some n)) (h0:0<=n) (hn:n<=N):OpOk P o s fr (.own fr) [(fr,some (.row e0 sz n.toNat (ts.take (n.toNat * sz)) false)),(q,none)]:=by
 intro E σ₁ a w hT hH h100 hf hd ⟨ν,G,I⟩ Q;obtain ⟨hv,hk⟩:=mp_of (I.ev (St.ev_le hT hx));obtain ⟨kh,e2⟩:=hhi.run (ρ:=a.eval) (fun x d h=>bool_of (I.ev (St.ev_le hT h)));obtain ⟨inf,hinf,hsz⟩:=Option.map_eq_some_iff.1 hs;have hqq:=hH q _ hq;have hob:=(I.H q _ hqq).2;obtain ⟨xs,r1,r2,r3,r4⟩:=id hob;have key:∃ v',(execOp a.eval o).run P w = .ok (.value v') w/\w.ownsRow 0 e0 sz v' n.toNat (xs.take (n.toNat * sz))/\(∀ g,blk v'=some g->blk (ν q)=some g):=by
  have hxl:=r1.1;rcases r1.2 with ⟨hz,h00⟩ | ⟨g,cap,cur,hz,q1,q2,q3,q4,q5,q6⟩
  ·subst h00
   have hb:=bounds_run (P:=P) (w:=w) (isS:=true) (n:=0) (cap:=0) (lo:=none) (hi:=some n) (kl:=.i64) (kh:=kh) (by simp [loN,hiN]) (by simp [hiN];omega) (fun _ h=>by cases h) (fun b h=>by cases h;exact h0);have z1:n.toNat=0:=by omega
   simp only [hiN,loN,z1] at hb;refine ⟨.slice none 0 0,?_,?_,fun g hg=>by cases hg⟩
   ·unfold execOp
    rw [ho];simp only [hv,hz,e2,Option.map_none,Option.map_some] at hb ⊢;simp [Instr.sliceAt,Instr.slice,run_underlying hu,hb,sizeOf,typeInfo,hinf]
   ·rw [z1]
    have:xs.take (0 * sz)=[]:=by simp
    rw [this];exact World.ownsRow_nil w 0 e0 sz
  ·have hb:=bounds_run (P:=P) (w:=w) (isS:=true) (n:=N) (cap:=cap) (lo:=none) (hi:=some n) (kl:=.i64) (kh:=kh) (by simp [loN,hiN]) (by simp only [hiN];omega) (fun _ h=>by cases h) (fun b h=>by cases h;exact h0)
   simp only [hiN,loN] at hb;refine ⟨.slice (some ⟨g,0,none⟩) n.toNat cap,?_,⟨?_,.inr ⟨g,cap,cur,rfl,q1,q2,by omega,q4,q5,?_⟩⟩,fun g' hg=>by rw [hz];exact hg⟩
   ·unfold execOp
    rw [ho];simp only [hv,hz,e2,Option.map_none,Option.map_some] at hb ⊢;have hadd0:(⟨g,0,none⟩:Addr).add 0=⟨g,0,none⟩:=by rw [Addr.add_mid]
    simp [Instr.sliceAt,Instr.slice,run_underlying hu,hb,sizeOf,typeInfo,hinf,hsz,hadd0]
   ·rw [List.length_take,hxl]
    exact Nat.min_eq_left (Nat.mul_le_mul_right _ (by omega))
   ·rw [← q6,List.take_take,Nat.min_eq_left (Nat.mul_le_mul_right _ (by omega))]
 obtain ⟨v',he,r2',hblk⟩:=key;unfold Oper.wp;rw [he,Oper.upon_value];have hG0:∀ g,blk (ν q)=some g->E.may g/\G g=0:=fun g hg=>by simpa using r4 g hg
 refine ⟨put_defers ..,setν ν fr v',_,I.new (G':=G) h100 hf hd (some q) (o:=.row e0 sz n.toNat (ts.take (n.toNat * sz)) false) (fun k=>?_) rfl rfl rfl (Nat.le_refl _) (fun b hb hnk=>⟨rfl,rfl⟩) (fun _ _ _ h=>h) (fun k hk=>by cases hk;exact ⟨_,hqq⟩) (x:=v') (fun g hg=>.inr ⟨q,rfl,hblk g hg⟩) ?_ ?_⟩
 ·by_cases h:k=fr
  ·subst h;simp [Ab.look]
  ·by_cases h':k=q
   ·subst h';simp [Ab.look,h,Ne.symm h]
   ·simp [Ab.look,h,Ne.symm h,h',Ne.symm h']
 ·refine ⟨xs.take (n.toNat * sz),by rw [setν_same];exact r2',by simp [r2],fun i u t hu ht=>?_,fun g hg=>?_⟩
  ·rw [List.getElem?_take] at hu ht
   split at hu
   ·rename_i hi
    rw [if_pos hi] at ht;exact r3 i u t hu ht
   ·cases hu
  ·rw [setν_same] at hg
   simpa using hG0 g (hblk g hg)
 ·have:DR (setν ν fr v') (σ₁.upd o.dst .any [(fr,some (.row e0 sz n.toNat (ts.take (n.toNat * sz)) false)),(q,none)] fr).nm w G (setν ν fr v' fr) (.own fr):=.own (upd_nm_fr ..) (by rw [setν_same];exact ownsRow_one r2')
  rw [setν_same] at this;exact this
theorem ok_nilslc {t e:TypeId} {x:Operand} {lo hi:Option Operand} {a b:Option Int} {sz:Nat} (hu:P.underlying t=some (.slice e)) (hs:sizeT P e=some sz) (ho:o.op = .slice t x lo hi none) (hx:s.ev x=some (.t (.v (.slice none 0 0)))) (hlo:BndOk s lo a) (hhi:BndOk s hi b) (hz:(zeroI a&&zeroI b)=true):OpOk P o s fr (.t (.v (.slice none 0 0))) []:=
 ok_pure fun E σ₁ ν G w ac hH I hev=>by
  have hd:=bool_of (hev x _ hx);obtain ⟨kl,e1⟩:=hlo.run (ρ:=ac.eval) (fun x d h=>bool_of (hev x _ h));obtain ⟨kh,e2⟩:=hhi.run (ρ:=ac.eval) (fun x d h=>bool_of (hev x _ h));obtain ⟨inf,hinf,hsz⟩:=Option.map_eq_some_iff.1 hs;rw [Bool.and_eq_true] at hz;have za:loN a=0/\∀ x,a=some x->0<=x:=by
   cases a with
   | none=>exact ⟨rfl,fun x h=>by cases h⟩
   | some x=>have:=of_decide_eq_true hz.1;subst this;exact ⟨rfl,fun x h=>by cases h;exact Int.le_refl _⟩
  have zb:hiN 0 b=0/\∀ x,b=some x->0<=x:=by
   cases b with
   | none=>exact ⟨rfl,fun x h=>by cases h⟩
   | some x=>have:=of_decide_eq_true hz.2;subst this;exact ⟨rfl,fun x h=>by cases h;exact Int.le_refl _⟩
  have hb:=bounds_run (P:=P) (w:=w) (isS:=true) (n:=0) (cap:=0) (lo:=a) (hi:=b) (kl:=kl) (kh:=kh) (by omega) (by omega) za.2 zb.2;rw [za.1,zb.1] at hb;refine ⟨.slice none 0 0,?_,.t (.v _ rfl)⟩;unfold execOp;rw [ho];simp only [hd,e1,e2,Option.map_none];simp [Instr.sliceAt,Instr.slice,run_underlying hu,hb,sizeOf,typeInfo,hinf]
theorem ok_cap0 {t e:TypeId} {x:Operand} (hu:P.underlying t=some (.slice e)) (ho:o.op = .call { callee:=.builtin .cap,args:=#[x],argTypes:=#[t] }) (hx:s.ev x=some (.t (.v (.slice none 0 0)))):OpOk P o s fr (I 0) []:=
 ok_pure fun E σ₁ ν G w ac hH I hev=>by
  have hd:=bool_of (hev x _ hx);refine ⟨.int .i64 0,?_,.t (.v _ rfl)⟩;unfold execOp;rw [ho];simp [resolve,invoke,builtin,hd,Builtin.cap_,run_underlying hu,goInt]
end
section
variable {c:Cx} {σ:Vw} {κ:Nat->Bool} {fr:Nat} {o:Oper} {k:X->Wx->O} {r:Res}
theorem gives_cut (hσ:σ.Ok κ) {t:TypeId} {x:Operand} {hi:Option Operand} {q:Nat} (ho:o.op = .slice t x none hi none) (hx:σ.ev x=some (.own q)) (h:σ.optI hi (fun hi=>cutX c σ fr t q hi k)=some r):Gives c σ fr o k r:=by
 obtain ⟨b,h,hb⟩:=optI_ok hσ h;unfold cutX at h;split at h
 ·rename_i e e' τ l n hu hq
  split at h
  ·rename_i m hm
   split at h
   ·rename_i hs
    have hs:=Nat.eq_of_beq_eq_true hs;subst hs;obtain ⟨hd,h⟩:=ck_some h;obtain ⟨h0,hn⟩:=of_decide_eq_true hd;refine ⟨_,_,h,rfl,fun hon=>?_⟩;have:=ok_cut (P:=c.P) (fr:=fr) hu hm ho (evV_D hσ hon hx) (den_H hq) (hb hon) h0 hn;unfold WA;simp only [List.map_cons,List.map_nil,Option.map_some,Option.map_none,XO.A,List.length_take];rw [flat_take (fun x=>encs_len τ x)] at this;rw [show min n.toNat l.length=n.toNat by omega];exact this
   ·cases h
  ·cases h
 ·cases h
theorem gives_nilslc (hσ:σ.Ok κ) {t:TypeId} {x:Operand} {lo hi:Option Operand} (ho:o.op = .slice t x lo hi none) (hx:σ.ev x=some .nilS) (h:σ.optI lo (fun lo=>σ.optI hi fun hi=>match c.P.underlying t with
        | some (.slice e)=>match sizeT c.P e with
          | some _=>ckg (σ.g.map (·.2)) (zeroI lo&&zeroI hi) (k .nilS [])
          | none=>none
        | _=>none)=some r):Gives c σ fr o k r:=by
  obtain ⟨a,h,ha⟩:=optI_ok hσ h;obtain ⟨b,h,hb⟩:=optI_ok hσ h;split at h
  ·rename_i e hu
   split at h
   ·rename_i m hm
    obtain ⟨h,hz⟩:=ckg_some h;exact ⟨_,_,h,rfl,fun hon=>ok_nilslc (P:=c.P) (fr:=fr) hu hm ho (evV_D hσ hon hx) (ha hon) (hb hon) (hz hon.g)⟩
   ·cases h
  ·cases h
end
theorem run_appZ {P:Program} {t t' ty e:TypeId} {z:Value} {s bytes:Nat} (hT:AppT P t e z s bytes) (ht':P.underlying t'=some (.int .i64)) {n:Nat} (hm:n<=maxLen) (hb:n * bytes<=140737488355328) (w:World):
    ∃ v' w',(Builtin.append_ #[t,t'] ty #[.slice none 0 0,.int .i64 n]).run P w = .ok v' w'/\w'.ownsRow 0 e s v' n (List.replicate n z.cells.toList).flatten/\Aft w w'/\∀ g,blk v'=some g->w.heap.size<=g:=by
 obtain ⟨i,hi,hz,h2,h3⟩:=info_parts hT.i;have hmx:n<=9223372036854775807:=by simp only [maxLen] at hm;omega
 have hw:IntKind.i64.wrap (n:Int)=n:=IntWalk.i64_in _ ⟨by omega,by omega⟩;have hneg:¬ ((n:Int) < 0):=by omega
 have hby:¬ (281474976710656 < (n:Int) * (i.bytes:Int)):=by
  rw [h3];have:((n * bytes:Nat):Int)<=281474976710656:=by omega
  rw [Int.natCast_mul] at this;omega
 by_cases hn:n=0
 ·subst hn
  refine ⟨.slice none 0 0,w,?_,by simpa using World.ownsRow_nil w 0 e s,Aft.refl w,fun g hg=>by cases hg⟩;simp [Builtin.append_,run_underlying hT.u,run_underlying ht',sizeOf,typeInfo,hi,Go.asInt,asIntOf,(show IntKind.i64.wrap 0=0 by decide)]
 ·have hs0:=hT.s
  have h63:¬ (9223372036854775807 < (n:Int)):=by omega
  have h48:¬ (281474976710656 < Builtin.nextslicecap n 0 * i.bytes):=by rw [nextslicecap_zero (by omega),h3];omega
  have hnz:¬ (n * i.size=0):=by rw [h2];exact Nat.ne_of_gt (Nat.mul_pos (by omega) hs0)
  have hnz':¬ (n=0\/i.size=0):=by rw [h2];omega
  have hge:=grownCap_ge w n 0 e;have hcm:grownCap w n 0 e<=maxLen:=grownCap_le_maxLen w n 0 e hm;have hzc:(Builtin.zeroCells z.cells n).toList=(List.replicate n z.cells.toList).flatten:=by
   have:=made_eq hT.z hT.s n;rw [← hT.z] at this;exact this
  have hzl:(Builtin.zeroCells z.cells n).size=n * s:=by rw [size_zeroCells,hT.z]
  refine ⟨.slice (some ⟨w.heap.size,0,none⟩) n (grownCap w n 0 e),w.drew.alloc (.cells (Builtin.zeroCells z.cells n++Builtin.zeroCells z.cells (grownCap w n 0 e - n)) e),?_,⟨?_,.inr ⟨w.heap.size,_,_,rfl,Nat.zero_le _,heap_alloc_new w.drew _,hge,hcm,?_,?_⟩⟩,⟨rfl,rfl,rfl,by simp,fun b hb=>heap_alloc_old w.drew _ hb⟩,fun g hg=>by cases hg;exact Nat.le_refl _⟩
  ·simp [Builtin.append_,run_underlying hT.u,run_underlying ht',sizeOf,typeInfo,zeroValue,hi,hz,Go.asInt,asIntOf,hw,hneg,hby,hn,h63,h48,Question.forced,run_firstCells_none,newRow,grownCap]
   exact fun h=>absurd h hnz
  ·rw [← hzc,Array.length_toList,hzl]
  ·rw [Array.size_append,hzl,size_zeroCells,hT.z,← Nat.add_mul]
   congr 1
   omega
  ·rw [Array.toList_append,← hzc,← hzl,← Array.length_toList]
   exact List.take_left
theorem ok_appZ {P:Program} {o:Oper} {σ:St} {fr:Nat} {t t' e:TypeId} {z:Value} {s bytes:Nat} (st:Bool) {x y:Operand} {n:Nat} {zt:List Tree} (hT:AppT P t e z s bytes) (hz:ZTs z.cells.toList zt) (ht':P.underlying t'=some (.int .i64)) (ho:o.op = .call { callee:=.builtin .append,args:=#[x,y],argTypes:=#[t,t'] })
    (hx:σ.ev x=some (.t (.v (.slice none 0 0)))) (hy:σ.ev y=some (I n)) (hb:n * bytes<=140737488355328/\n<=maxLen):OpOk P o σ fr (.own fr) [(fr,some (.row e s n (List.replicate n zt).flatten st))]:=by
 intro E σ₁ a w hTT hHH h100 hf hd ⟨ν,G,I⟩ Q;have hxv:=bool_of (I.ev (St.ev_le hTT hx));have hyv:=bool_of (I.ev (St.ev_le hTT hy));obtain ⟨v',w',hr,r1,hA,hbk⟩:=run_appZ (ty:=o.type) hT ht' hb.2 hb.1 w;have he:(execOp a.eval o).run P w = .ok (.value v') w':=by
  unfold execOp;rw [ho];simp [resolve,invoke,builtin,hxv,hyv,hr]
 unfold Oper.wp;rw [he,Oper.upon_value]
 let G':Lim:=fun b=>if blk v'=some b then (if st then n * s else 0) else G b
 have hG:∀ b,b < w.heap.size->G' b=G b:=fun b hb'=>if_neg (fun e=>by have:=hbk b e;omega)
 have hzr:=(hz.reps n).rel w' G';refine ⟨put_defers ..,_,_,I.fresh (G':=G') h100 hf hd hA hG (x:=v') (fun g hg=>hbk g hg) ?_ ?_⟩
 ·refine ⟨_,by rw [setν_same];exact r1,hzr.1,hzr.2,fun g hg=>?_⟩
  rw [setν_same] at hg;exact ⟨.inl (Nat.le_trans I.kept.size (hbk g hg)),if_pos hg⟩
 ·have:DR (setν ν fr v') (σ₁.upd o.dst .any [(fr,some (.row e s n (List.replicate n zt).flatten st))] fr).nm w' G' (setν ν fr v' fr) (.own fr):=.own (upd_nm_fr ..) (by rw [setν_same];exact ownsRow_one r1)
  rw [setν_same] at this;exact this
theorem run_appZo {P:Program} {t t' ty e:TypeId} {z:Value} {s bytes:Nat} (hT:AppT P t e z s bytes) (ht':P.underlying t'=some (.int .i64)) {w:World} {v:Value} {n:Nat} {xs:List Value} (hown:w.ownsRow 0 e s v n xs) {m:Nat}
    (h1:∀ u ∈ (List.replicate m z.cells.toList).flatten,u.oneCell'=true) (h63:n+m<=maxLen) (hbytes:(n+m) * bytes<=140737488355328):
    ∃ v' w',(Builtin.append_ #[t,t'] ty #[v,.int .i64 m]).run P w = .ok v' w'/\w'.ownsRow 0 e s v' (n+m) (xs++(List.replicate m z.cells.toList).flatten)/\w'.os=w.os/\w'.tape=w.tape/\w'.output=w.output/\w.heap.size<=w'.heap.size /\
     (∀ b,b < w.heap.size->v.ownBlock≠some b->w'.heap[b]?=w.heap[b]?)/\(∀ g i,v.ownBlock=some g->i < n * s->w'.cell? ⟨g,i,none⟩=w.cell? ⟨g,i,none⟩)/\∀ g,v'.ownBlock=some g->w.heap.size<=g\/v.ownBlock=some g:=by
 obtain ⟨i,hi,hz,h2,h3⟩:=info_parts hT.i;have hs0:=hT.s;have hmx:m<=9223372036854775807:=by simp only [maxLen] at h63;omega
 have hw:IntKind.i64.wrap (m:Int)=m:=IntWalk.i64_in _ ⟨by omega,by omega⟩;have hneg:¬ ((m:Int) < 0):=by omega
 have hmb:m * bytes<=(n+m) * bytes:=Nat.mul_le_mul_right _ (Nat.le_add_left _ _);have hby:¬ (281474976710656 < (m:Int) * (i.bytes:Int)):=by
  rw [h3];have:((m * bytes:Nat):Int)<=281474976710656:=by omega
  rw [Int.natCast_mul] at this;omega
 have hzc:(Builtin.zeroCells z.cells m).toList=(List.replicate m z.cells.toList).flatten:=by
  have:=made_eq hT.z hT.s m;rw [← hT.z] at this;exact this
 have hzl:(Builtin.zeroCells z.cells m).size=m * s:=by rw [size_zeroCells,hT.z]
 generalize hnews:(List.replicate m z.cells.toList).flatten=news at *
 have hnl:news.length=m * s:=by rw [← hzc,Array.length_toList,hzl]
 have hza:Builtin.zeroCells z.cells m=news.toArray:=by rw [← hzc]
 have hlen:(xs++news).length=(n+m) * s:=by rw [List.length_append,hown.1,hnl,Nat.add_mul]
 rcases hown.2 with ⟨rfl,rfl⟩ | ⟨g,cap,cur,rfl,_,hg,hnc,hcm,hcs,htake⟩
 ·have hx:xs=[]:=List.eq_nil_of_length_eq_zero (by simpa using hown.1)
  subst hx;obtain ⟨v',w',hr,r1,hA,hbk⟩:=run_appZ (ty:=ty) hT ht' (n:=m) (by omega) (by omega) w;refine ⟨v',w',hr,?_,hA.os,hA.tape,hA.output,hA.size,fun b hb _=>hA.block b hb,(fun g i hg _=>by cases hg),fun g hg=>.inl (hbk g (by rw [ownsRow_blk r1];exact hg))⟩;rw [Nat.zero_add,List.nil_append,← hnews];exact r1
 ·by_cases hm:m=0
  ·subst hm
   have:news=[]:=List.eq_nil_of_length_eq_zero (by simpa using hnl);subst this;refine ⟨_,w,?_,by simpa using hown,rfl,rfl,rfl,Nat.le_refl _,fun _ _ _=>rfl,fun _ _ _ _=>rfl,fun g hg=>.inr hg⟩;simp [Builtin.append_,run_underlying hT.u,run_underlying ht',sizeOf,typeInfo,hi,Go.asInt,asIntOf,(show IntKind.i64.wrap 0=0 by decide),hnc,storeCells]
  ·have hnz:¬ (m * i.size=0):=by rw [h2];exact Nat.ne_of_gt (Nat.mul_pos (by omega) hs0)
   by_cases hroom:n+m<=cap
   ·have hfit:n * i.size+news.length<=cur.size:=by rw [hnl,hcs,h2,← Nat.add_mul];exact Nat.mul_le_mul_right _ hroom
    have hst:=run_storeCells_at P g (n * i.size) e news 0 cur w hg (by simpa using hfit) h1;simp only [Nat.add_zero] at hst;have hr:(Builtin.append_ #[t,t'] ty #[.slice (some ⟨g,0,none⟩) n cap,.int .i64 m]).run P w = .ok (.slice (some ⟨g,0,none⟩) (n+m) cap) (w.setRow g (cur.toList.take (n * i.size)++news++cur.toList.drop (n * i.size+news.length)).toArray):=by
     simp [Builtin.append_,run_underlying hT.u,run_underlying ht',sizeOf,typeInfo,zeroValue,hi,hz,Go.asInt,asIntOf,hw,hneg,hby,hroom,hza,Addr.add_lit,hst];exact fun h=>absurd h hnz
    have r2:(w.setRow g (cur.toList.take (n * i.size)++news++cur.toList.drop (n * i.size+news.length)).toArray).ownsRow 0 e s (.slice (some ⟨g,0,none⟩) (n+m) cap) (n+m) (xs++news):=by
     refine ⟨hlen,.inr ⟨g,cap,_,rfl,Nat.zero_le _,setRow_heap w g cur _ e _ hg,hroom,hcm,?_,?_⟩⟩
     ·simp only [List.size_toArray,List.length_append,List.length_take,List.length_drop,Array.length_toList]
      rw [hnl,hcs,h2];have:(n+m) * s<=cap * s:=Nat.mul_le_mul_right _ hroom;rw [Nat.add_mul] at this;omega
     ·rw [h2,htake,← hlen]
      exact List.take_left
    refine ⟨_,_,hr,r2,rfl,rfl,rfl,by simp,fun b _ hb=>setRow_other w g b _ (fun e=>hb (by simp [Value.ownBlock,e])),fun g' j hg' hj=>?_,fun g' hg'=>.inr hg'⟩;have e1:g'=g:=by simpa [Value.ownBlock] using hg'.symm
    subst e1;have hx:xs[j]?=some (xs[j]'(by rw [hown.1];exact hj)):=List.getElem?_eq_getElem _;have c1:=hown.cells (g:=g') rfl j _ hx;have c2:=r2.cells (g:=g') rfl j _ (by rw [List.getElem?_append_left (by rw [hown.1];exact hj)];exact hx);rw [Addr.add_mid,Nat.zero_add] at c1 c2;rw [c1,c2]
   ·have holds:∀ j u,xs[j]?=some u->w.cell? ((⟨g,0,none⟩:Addr).add j)=some u:=hown.cells (g:=g) rfl
    have hfo:=run_firstCells_some (P:=P) w.drew i.size n ⟨g,0,none⟩ n cap xs (by rw [h2];exact hown.1) (by simpa using holds);have h48':¬ (281474976710656 < Builtin.nextslicecap (n+m) cap * i.bytes):=by
     have:=growslice_fits (need:=n+m) (old:=cap) (bytes:=bytes) (by omega) hbytes;rw [h3];omega
    have h63':¬ (9223372036854775807 < ((n:Int)+(m:Int))):=by simp only [maxLen] at h63;omega
    have hr:(Builtin.append_ #[t,t'] ty #[.slice (some ⟨g,0,none⟩) n cap,.int .i64 m]).run P w =
        .ok (.slice (some ⟨w.heap.size,0,none⟩) (n+m) (grownCap w (n+m) cap e)) (w.drew.alloc (.cells ((xs++news).toArray++Builtin.zeroCells z.cells (grownCap w (n+m) cap e - (n+m))) e)):=by
     simp [Builtin.append_,run_underlying hT.u,run_underlying ht',sizeOf,typeInfo,zeroValue,hi,hz,Go.asInt,asIntOf,hw,hneg,hby,hroom,h63',h48',Question.forced,hza,hfo,newRow,grownCap];rw [if_neg hnz]
     congr 3
     apply Array.ext';simp
    have hge:=grownCap_ge w (n+m) cap e;have hcm':grownCap w (n+m) cap e<=maxLen:=grownCap_le_maxLen w (n+m) cap e h63;refine ⟨_,_,hr,⟨hlen,.inr ⟨w.heap.size,_,_,rfl,Nat.zero_le _,heap_alloc_new w.drew _,hge,hcm',?_,?_⟩⟩,rfl,rfl,rfl,by simp,fun b hb _=>heap_alloc_old w.drew _ hb,fun g' j hg' hj=>?_,fun g' hg'=>?_⟩
    ·simp only [Array.size_append,List.size_toArray,size_zeroCells,hT.z,hlen,← Nat.add_mul]
     congr 1
     omega
    ·simp only [Array.toList_append]
     rw [← hlen];exact List.take_left
    ·have e1:g'=g:=by simpa [Value.ownBlock] using hg'.symm
     subst e1;exact World.cell?_of_block (a:=⟨g',j,none⟩) (heap_alloc_old w.drew _ (hown.lt g' rfl).2)
    ·simp only [Value.ownBlock,Option.some.injEq] at hg'
     exact .inl (by omega)
theorem run_appSt {P:Program} {t u ty e:TypeId} {i:TypeInfo} (ht:P.underlying t=some (.slice e)) (hu:P.underlying u=some .string) (hi:P.info? e=some i) (hz:i.zero=some (.int .u8 0)) (hsize:i.size=1) (hby:i.bytes=1)
    {w:World} {v:Value} {n:Nat} {xs:List Value} (hown:w.ownsRow 0 e 1 v n xs) (s:ByteArray) (h63:n+s.size<=maxLen) (hbytes:n+s.size<=140737488355328):
    ∃ v' w',(Builtin.append_ #[t,u] ty #[v,.string s]).run P w = .ok v' w'/\w'.ownsRow 0 e 1 v' (n+s.size) (xs++Lib.strCells s)/\w'.os=w.os/\w'.tape=w.tape/\w'.output=w.output/\w.heap.size<=w'.heap.size /\
     (∀ b,b < w.heap.size->v.ownBlock≠some b->w'.heap[b]?=w.heap[b]?)/\(∀ g i,v.ownBlock=some g->i < n * 1->w'.cell? ⟨g,i,none⟩=w.cell? ⟨g,i,none⟩)/\∀ g,v'.ownBlock=some g->w.heap.size<=g\/v.ownBlock=some g:=by
 obtain ⟨v',w',hr,r2,r3,r4⟩:=Lib.run_append_own_string (P:=P) w 0 t u ty e i ht hu hi hz hsize hby v n xs hown s h63 hbytes (Nat.zero_le _);have hxl:xs.length=n:=by simpa using hown.1
 have key:(v'.ownBlock=v.ownBlock/\(s.size=0\/v'.ownBlock≠none))\/(v'.ownBlock=some w.heap.size/\∀ b,b < w.heap.size->w'.heap[b]?=w.heap[b]?):=by
  rcases hown.2 with ⟨rfl,rfl⟩ | ⟨g,cap,cur,rfl,_,hg,hnc,hcm,hcs,htake⟩
  ·by_cases hm:s.size=0
   ·left
    rw [r4.2 ⟨rfl,hm⟩];exact ⟨rfl,.inl hm⟩
   ·right
    have hr':=run_append_nil_string (P:=P) w t u ty e i (.int .u8 0) ht hu hi hz s (by omega) (by simp only [maxLen] at h63;omega) (by rw [hby];omega);rw [hr'] at hr;cases hr;exact ⟨rfl,fun b hb=>heap_alloc_old _ _ hb⟩
  ·by_cases hroom:n+s.size<=cap
   ·left
    have hcs':cur.size=cap:=by simpa using hcs
    have hr':=Lib.run_append_room_string (P:=P) w t u ty e i ht hu hi hsize g n cap cur hg s hroom (by omega);rw [hr'] at hr;cases hr;exact ⟨rfl,.inr (by simp [Value.ownBlock])⟩
   ·right
    have holds:∀ j u,xs[j]?=some u->w.cell? ((⟨g,0,none⟩:Addr).add j)=some u:=hown.cells (g:=g) rfl
    have hr':=Lib.run_append_grow_string (P:=P) w t u ty e i (.int .u8 0) ht hu hi hz ⟨g,0,none⟩ n cap xs (by rw [hsize];simpa using hxl) holds s (by omega) (by simp only [maxLen] at h63;omega) (by rw [hby];exact growslice_fits (by omega) (by omega));rw [hr'] at hr;cases hr;exact ⟨rfl,fun b hb=>heap_alloc_old _ _ hb⟩
 refine ⟨v',w',hr,r2,r3.os,r3.tape,r3.output,r3.size,fun b hb hne=>r3.block b hb (fun e=>hne e.symm),fun g j hg hj=>?_,fun g hg=>?_⟩
 ·have hgl:g < w.heap.size:=(hown.lt g hg).2
  rcases key with ⟨k1,_⟩ | ⟨_,k2⟩
  ·have hx:xs[j]?=some (xs[j]'(by rw [hown.1];exact hj)):=List.getElem?_eq_getElem _
   have c1:=hown.cells hg j _ hx;have c2:=r2.cells (g:=g) (by rw [k1];exact hg) j _ (by rw [List.getElem?_append_left (by rw [hown.1];exact hj)];exact hx);rw [Addr.add_mid,Nat.zero_add] at c1 c2;rw [c1,c2]
  ·exact World.cell?_of_block (a:=⟨g,j,none⟩) (k2 g hgl)
 ·rcases key with ⟨k1,_⟩ | ⟨k1,_⟩
  ·exact .inr (by rw [← k1];exact hg)
  ·rw [k1] at hg;cases hg;exact .inl (Nat.le_refl _)
theorem byteT_ok {P:Program} {e:TypeId} (h:byteT P e=true):∃ i,P.info? e=some i/\i.zero=some (.int .u8 0)/\i.size=1/\i.bytes=1:=by
 unfold byteT at h;split at h
 ·rename_i i hi
  split at h
  ·rename_i hz
   rw [Bool.and_eq_true] at h;exact ⟨i,hi,hz,Nat.eq_of_beq_eq_true h.1,Nat.eq_of_beq_eq_true h.2⟩
  ·cases h
 ·cases h
theorem ok_appZo {P:Program} {o:Oper} {σ:St} {fr:Nat} {t t' e:TypeId} {z:Value} {size bytes:Nat} (st:Bool) {s x:Operand} {k n m:Nat} {ts zt:List Tree} (hT:AppT P t e z size bytes) (hz:ZTs z.cells.toList zt) (ht':P.underlying t'=some (.int .i64)) (ho:o.op = .call { callee:=.builtin .append,args:=#[s,x],argTypes:=#[t,t'] })
    (hs:σ.ev s=some (.own k)) (hk:σ.H k=some (.row e size n ts st)) (hx:σ.ev x=some (I m)) (hb:(n+m) * bytes<=140737488355328/\n+m<=maxLen):OpOk P o σ fr (.own fr) (appW (some k) fr (.row e size (n+m) (ts++(List.replicate m zt).flatten) st)):=by
 intro E σ₁ a w hTT hHH h100 hf hd ⟨ν,G,I⟩ Q;have hxv:=bool_of (I.ev (St.ev_le hTT hx));have hzr:=(hz.reps m).rel w G;have hone:∀ u ∈ (List.replicate m z.cells.toList).flatten,u.oneCell'=true:=fun u hu=>by
  obtain ⟨i,hi⟩:=List.mem_iff_getElem?.1 hu;have hlt:i < ((List.replicate m zt).flatten).length:=by rw [← hzr.1];exact (List.getElem?_eq_some_iff.1 hi).1
  exact (hzr.2 i u _ hi (List.getElem?_eq_getElem hlt)).one
 have hrow:∃ v xs,a.eval s=v/\w.ownsRow 0 e size v n xs/\xs.length=ts.length/\(∀ (i:Nat) (u:Value) (t:Tree),xs[i]?=some u->ts[i]?=some t->TR w G u t)/\(∀ k',some k'=some k->ν k'=v/\∃ ob,σ₁.H k'=some ob)/\(some k=none->v.ownBlock=none) /\
     (∀ g,v.ownBlock=some g->E.may g/\G g=if st then n * size else 0):=by
  have hv:=I.ev (St.ev_le hTT hs);obtain ⟨v,he⟩:∃ v,a.eval s=v:=⟨_,rfl⟩
  rw [he] at hv;cases hv with
  | own _ _=>
    obtain ⟨xs,r1,r2,r3,r4⟩:=(I.H _ _ (hHH _ _ hk)).2;exact ⟨_,xs,he,r1,r2,r3,(fun k' hk'=>by cases hk';exact ⟨rfl,_,hHH _ _ hk⟩),(fun e=>by cases e),fun g hg=>r4 g (blk_own hg)⟩
 obtain ⟨v,xs,hsv,hown,hxl,hxt,hk0,hk0n,hmay⟩:=hrow;obtain ⟨v',w',hr,r2,q1,q2,q3,q4,q5,q6,q7⟩:=run_appZo (ty:=o.type) hT ht' hown (m:=m) hone hb.2 hb.1;generalize hus:(List.replicate m z.cells.toList).flatten=us at *
 generalize hys:(List.replicate m zt).flatten=ys at *
 have hul:=hzr.1;have htr:=hzr.2;have hk0o:∃ k0,k0=some k:=⟨_,rfl⟩
 obtain ⟨k0,hk0e⟩:=hk0o;rw [← hk0e] at hk0 hk0n ⊢;unfold Oper.wp;have he:(execOp a.eval o).run P w = .ok (.value v') w':=by
  unfold execOp;rw [ho];simp [resolve,invoke,builtin,hsv,hxv,hr]
 rw [he,Oper.upon_value];have hcell:∀ b i u,Cell w G b i u->Cell w' (fun b=>if v'.ownBlock=some b then (if st then (n+m) * size else 0) else G b) b i u:=fun b i u h=>by
  by_cases hb':v.ownBlock=some b
  ·have hG:=(hmay b hb').2
   have h2:=h.2;rw [hG] at h2;cases st with
   | false=>simp at h2
   | true=>
     simp only [if_true] at h2 hG;refine ⟨(q6 b i hb' h2).trans h.1,?_⟩;show i < if v'.ownBlock=some b then (if true=true then (n+m) * size else 0) else G b
     split
     ·simp only [if_true]
      exact Nat.lt_of_lt_of_le h2 (Nat.mul_le_mul_right _ (Nat.le_add_right _ _))
     ·rw [hG];exact h2
  ·refine ⟨(World.cell?_of_block (a:=⟨b,i,none⟩) (q5 b h.lt hb')).trans h.1,?_⟩
   have:v'.ownBlock≠some b:=fun e=>by
    rcases q7 b e with h' | h'
    ·have:=h.lt;omega
    ·exact hb' h'
   simp only [if_neg this];exact h.2
 have hblkv:∀ g,blk v'=some g->v'.ownBlock=some g:=fun g hg=>by rw [← ownsRow_blk r2];exact hg
 refine ⟨put_defers ..,setν ν fr v',_,I.new h100 hf hd k0 (o:=.row e size (n+m) (ts++ys) st) (fun k=>?_) q1 q2 q3 q4 (fun b hb hnk=>?_) hcell (fun k hk=>(hk0 k hk).2) (x:=v') (fun g hg=>?_) ?_ ?_⟩
 ·cases k0 with
  | none=>
    by_cases h:k=fr
    ·subst h;simp [appW,Ab.look]
    ·simp [appW,Ab.look,h,Ne.symm h]
  | some j=>
    by_cases h:k=fr
    ·subst h;simp [appW,Ab.look]
    ·by_cases h':k=j
     ·subst h';simp [appW,Ab.look,h,Ne.symm h]
     ·simp [appW,Ab.look,h,Ne.symm h,h',Ne.symm h']
 ·have hne:v.ownBlock≠some b:=fun e=>by
   cases k0 with
   | none=>rw [hk0n rfl] at e;cases e
   | some j=>exact hnk j rfl (by rw [(hk0 j rfl).1,ownsRow_blk hown];exact e)
  refine ⟨q5 b hb hne,if_neg (fun e=>?_)⟩;rcases q7 b e with h | h
  ·omega
  ·exact hne h
 ·rcases q7 g (hblkv g hg) with h | h
  ·exact .inl h
  ·cases k0 with
   | none=>rw [hk0n rfl] at h;cases h
   | some j=>exact .inr ⟨j,rfl,by rw [(hk0 j rfl).1,ownsRow_blk hown];exact h⟩
 ·refine ⟨xs++us,by rw [setν_same];exact r2,by simp [hxl,hul],fun i u t hu ht=>?_,fun g hg=>?_⟩
  ·by_cases hi:i < xs.length
   ·rw [List.getElem?_append_left hi] at hu
    rw [List.getElem?_append_left (by omega)] at ht;exact (hxt i u t hu ht).mono hcell
   ·rw [List.getElem?_append_right (by omega)] at hu
    rw [List.getElem?_append_right (by omega)] at ht;exact (htr _ u t hu (by rw [hxl];exact ht)).mono hcell
  ·rw [setν_same] at hg
   have hg':=hblkv g hg;refine ⟨?_,if_pos hg'⟩;rcases q7 g hg' with h | h
   ·exact .inl (Nat.le_trans I.kept.size h)
   ·exact (hmay g h).1
 ·have:DR (setν ν fr v') (σ₁.upd o.dst .any (appW k0 fr (.row e size (n+m) (ts++ys) st)) fr).nm w' (fun b=>if v'.ownBlock=some b then (if st then (n+m) * size else 0) else G b) (setν ν fr v' fr) (.own fr):=.own (upd_nm_fr ..) (by rw [setν_same];exact ownsRow_one r2)
  rw [setν_same] at this;exact this
theorem ok_appSo {P:Program} {o:Oper} {σ:St} {fr:Nat} {t t' e:TypeId} {z:Value} {bytes:Nat} (st:Bool) {s x:Operand} {k n:Nat} {ts:List Tree} {tx:List UInt8} (hT:AppT P t e z 1 bytes) (hB:byteT P e=true) (ht':P.underlying t'=some .string) (ho:o.op = .call { callee:=.builtin .append,args:=#[s,x],argTypes:=#[t,t'] })
    (hs:σ.ev s=some (.own k)) (hk:σ.H k=some (.row e 1 n ts st)) (hx:σ.ev x=some (.t (.v (.string ⟨⟨tx⟩⟩)))) (hb:n+tx.length<=140737488355327):OpOk P o σ fr (.own fr) (appW (some k) fr (.row e 1 (n+tx.length) (ts++tx.map fun b=>Tree.v (.int .u8 b.toNat)) st)):=by
 intro E σ₁ a w hTT hHH h100 hf hd ⟨ν,G,I⟩ Q;have hxv:=bool_of (I.ev (St.ev_le hTT hx));obtain ⟨i,hi,hiz,his,hib⟩:=byteT_ok hB;have hst:P.underlying t=some (.slice e):=hT.u;have hrow:∃ v xs,a.eval s=v/\w.ownsRow 0 e 1 v n xs/\xs.length=ts.length/\(∀ (i:Nat) (u:Value) (t:Tree),xs[i]?=some u->ts[i]?=some t->TR w G u t)/\(∀ k',some k'=some k->ν k'=v/\∃ ob,σ₁.H k'=some ob)/\(some k=none->v.ownBlock=none) /\
     (∀ g,v.ownBlock=some g->E.may g/\G g=if st then n * 1 else 0):=by
  have hv:=I.ev (St.ev_le hTT hs);obtain ⟨v,he⟩:∃ v,a.eval s=v:=⟨_,rfl⟩
  rw [he] at hv;cases hv with
  | own _ _=>
    obtain ⟨xs,r1,r2,r3,r4⟩:=(I.H _ _ (hHH _ _ hk)).2;exact ⟨_,xs,he,r1,r2,r3,(fun k' hk'=>by cases hk';exact ⟨rfl,_,hHH _ _ hk⟩),(fun e=>by cases e),fun g hg=>r4 g (blk_own hg)⟩
 obtain ⟨v,xs,hsv,hown,hxl,hxt,hk0,hk0n,hmay⟩:=hrow;obtain ⟨v',w',hr,r2,q1,q2,q3,q4,q5,q6,q7⟩:=run_appSt (ty:=o.type) hst ht' hi hiz his hib hown ⟨⟨tx⟩⟩ (by show n+tx.length<=maxLen;simp only [maxLen];omega) (by show n+tx.length<=_;omega);have hsz:(⟨⟨tx⟩⟩:ByteArray).size=tx.length:=rfl;rw [hsz] at r2;obtain ⟨m,hm⟩:∃ m,tx.length=m:=⟨_,rfl⟩
 have hul:(Lib.strCells ⟨⟨tx⟩⟩).length=(tx.map fun b=>Tree.v (.int .u8 b.toNat)).length:=by simp [Lib.strCells]
 have htr:∀ (i:Nat) (u:Value) (t:Tree),(Lib.strCells ⟨⟨tx⟩⟩)[i]?=some u->(tx.map fun b=>Tree.v (.int .u8 b.toNat))[i]?=some t->TR w G u t:=fun i u t hu ht=>by
  simp only [Lib.strCells,List.getElem?_map] at hu ht;cases hb':tx[i]? with
  | none=>rw [hb'] at ht;cases ht
  | some b=>rw [hb'] at hu ht;cases hu;cases ht;exact .v _ rfl
 rw [hm] at r2 ⊢;generalize hus:Lib.strCells ⟨⟨tx⟩⟩=us at *
 generalize hys:(tx.map fun b=>Tree.v (.int .u8 b.toNat))=ys at *
 have hk0o:∃ k0,k0=some k:=⟨_,rfl⟩
 obtain ⟨k0,hk0e⟩:=hk0o;rw [← hk0e] at hk0 hk0n ⊢;unfold Oper.wp;have he:(execOp a.eval o).run P w = .ok (.value v') w':=by
  unfold execOp;rw [ho];simp [resolve,invoke,builtin,hsv,hxv,hr]
 rw [he,Oper.upon_value];have hcell:∀ b i u,Cell w G b i u->Cell w' (fun b=>if v'.ownBlock=some b then (if st then (n+m) * 1 else 0) else G b) b i u:=fun b i u h=>by
  by_cases hb':v.ownBlock=some b
  ·have hG:=(hmay b hb').2
   have h2:=h.2;rw [hG] at h2;cases st with
   | false=>simp at h2
   | true=>
     simp only [if_true] at h2 hG;refine ⟨(q6 b i hb' h2).trans h.1,?_⟩;show i < if v'.ownBlock=some b then (if true=true then (n+m) * 1 else 0) else G b
     split
     ·simp only [if_true]
      exact Nat.lt_of_lt_of_le h2 (Nat.mul_le_mul_right _ (Nat.le_add_right _ _))
     ·rw [hG];exact h2
  ·refine ⟨(World.cell?_of_block (a:=⟨b,i,none⟩) (q5 b h.lt hb')).trans h.1,?_⟩
   have:v'.ownBlock≠some b:=fun e=>by
    rcases q7 b e with h' | h'
    ·have:=h.lt;omega
    ·exact hb' h'
   simp only [if_neg this];exact h.2
 have hblkv:∀ g,blk v'=some g->v'.ownBlock=some g:=fun g hg=>by rw [← ownsRow_blk r2];exact hg
 refine ⟨put_defers ..,setν ν fr v',_,I.new h100 hf hd k0 (o:=.row e 1 (n+m) (ts++ys) st) (fun k=>?_) q1 q2 q3 q4 (fun b hb hnk=>?_) hcell (fun k hk=>(hk0 k hk).2) (x:=v') (fun g hg=>?_) ?_ ?_⟩
 ·cases k0 with
  | none=>
    by_cases h:k=fr
    ·subst h;simp [appW,Ab.look]
    ·simp [appW,Ab.look,h,Ne.symm h]
  | some j=>
    by_cases h:k=fr
    ·subst h;simp [appW,Ab.look]
    ·by_cases h':k=j
     ·subst h';simp [appW,Ab.look,h,Ne.symm h]
     ·simp [appW,Ab.look,h,Ne.symm h,h',Ne.symm h']
 ·have hne:v.ownBlock≠some b:=fun e=>by
   cases k0 with
   | none=>rw [hk0n rfl] at e;cases e
   | some j=>exact hnk j rfl (by rw [(hk0 j rfl).1,ownsRow_blk hown];exact e)
  refine ⟨q5 b hb hne,if_neg (fun e=>?_)⟩;rcases q7 b e with h | h
  ·omega
  ·exact hne h
 ·rcases q7 g (hblkv g hg) with h | h
  ·exact .inl h
  ·cases k0 with
   | none=>rw [hk0n rfl] at h;cases h
   | some j=>exact .inr ⟨j,rfl,by rw [(hk0 j rfl).1,ownsRow_blk hown];exact h⟩
 ·refine ⟨xs++us,by rw [setν_same];exact r2,by simp [hxl,hul],fun i u t hu ht=>?_,fun g hg=>?_⟩
  ·by_cases hi:i < xs.length
   ·rw [List.getElem?_append_left hi] at hu
    rw [List.getElem?_append_left (by omega)] at ht;exact (hxt i u t hu ht).mono hcell
   ·rw [List.getElem?_append_right (by omega)] at hu
    rw [List.getElem?_append_right (by omega)] at ht;exact (htr _ u t hu (by rw [hxl];exact ht)).mono hcell
  ·rw [setν_same] at hg
   have hg':=hblkv g hg;refine ⟨?_,if_pos hg'⟩;rcases q7 g hg' with h | h
   ·exact .inl (Nat.le_trans I.kept.size h)
   ·exact (hmay g h).1
 ·have:DR (setν ν fr v') (σ₁.upd o.dst .any (appW k0 fr (.row e 1 (n+m) (ts++ys) st)) fr).nm w' (fun b=>if v'.ownBlock=some b then (if st then (n+m) * 1 else 0) else G b) (setν ν fr v' fr) (.own fr):=.own (upd_nm_fr ..) (by rw [setν_same];exact ownsRow_one r2)
  rw [setν_same] at this;exact this
section
variable {c:Cx} {σ:Vw} {κ:Nat->Bool} {fr:Nat} {o:Oper} {k:X->Wx->O} {r:Res}
theorem u8_enc:∀ l:List UInt8,List.flatMap (encs .u8) l=l.map fun b=>Tree.v (.int .u8 b.toNat)
 | []=>rfl
 | b::l=>congrArg (fun ts=>Tree.v (.int .u8 b.toNat)::ts) (u8_enc l)
theorem growS_A (e:TypeId) (l s:List UInt8) (st:Bool):(XO.row e .u8 (l++s) st).A = .row e 1 (List.length l+List.length s) (List.flatMap (encs .u8) l++s.map fun b=>Tree.v (.int .u8 b.toNat)) st:=by
 have e1:(XO.row e .u8 (l++s) st).A = .row e 1 (List.length (l++s)) (List.flatMap (encs .u8) (l++s:List UInt8)) st:=rfl;rw [e1,u8_enc (l++s),u8_enc l,List.length_append,List.map_append]
theorem gives_appZ (hσ:σ.Ok κ) {t t':TypeId} {x y:Operand} {st:Bool} (ho:o.op = .call { callee:=.builtin .append,args:=#[x,y],argTypes:=#[t,t'] }) (h:appZ c σ fr st t t' x y k=some r):Gives c σ fr o k r:=by
 unfold appZ at h;obtain ⟨⟨e,τ,b⟩,hE,h⟩:=ob_some h;simp only at h;obtain ⟨v,hv,h2⟩:=ob_some h;clear h;obtain ⟨w,hw,h⟩:=ob_some h2;clear h2;split at h
 ·rename_i n ht
  unfold makeX at h;obtain ⟨h0,h⟩:=ck_some h;obtain ⟨hb,h⟩:=ck_some h;refine ⟨_,_,h,rfl,fun hon=>?_⟩;obtain ⟨z,hA,hz⟩:=appE_ok hE;have h0:(0:Int)<=(n:Int):=of_decide_eq_true (p:=(0:Int)<=(show Int from n)) h0;unfold lim at hb;have hb:=of_decide_eq_true hb;have hn:((Int.toNat n:Nat):Int)=n:=Int.toNat_of_nonneg h0;have hy1:σ.den.ev y=some (I (Int.toNat n:Nat)):=by
   rw [hn];exact evV_D hσ hon hw
  have:=ok_appZ (P:=c.P) (fr:=fr) st hA hz ht ho (evV_D hσ hon hv) hy1 ⟨hb.1,by simp only [maxLen];have:=hb.2;omega⟩;have hfl:∀ m:Nat,(List.replicate m τ.zero).flatMap (encs τ)=(List.replicate m (encs τ τ.zero)).flatten:=fun m=>by
   induction m with
   | zero=>rfl
   | succ m ih=>rw [List.replicate_succ,List.replicate_succ,List.flatMap_cons,List.flatten_cons,ih]
  unfold WA;simp only [List.map_cons,List.map_nil,Option.map_some,XO.A,List.length_replicate,hfl];exact this
 ·rename_i q n ht
  split at h
  ·rename_i e' τ' l st' hq
   generalize teq τ' τ=p at h;cases p with
   | none=>cases h
   | some g=>
     obtain ⟨g⟩:=g;subst g;simp only at h;split at h
     ·rename_i hb
      have hb:=Nat.eq_of_beq_eq_true hb;subst hb;have h:growZ τ' e' fr b q st' l n k=some r:=h;unfold growZ at h;obtain ⟨h0,h⟩:=ck_some h;obtain ⟨hb,h⟩:=ck_some h;refine ⟨_,_,h,rfl,fun hon=>?_⟩;obtain ⟨z,hA,hz⟩:=appE_ok hE;have h0:(0:Int)<=(n:Int):=of_decide_eq_true (p:=(0:Int)<=(show Int from n)) h0;unfold lim at hb;have hb:=of_decide_eq_true hb;have hn:((Int.toNat n:Nat):Int)=n:=Int.toNat_of_nonneg h0;have hy1:σ.den.ev y=some (I (Int.toNat n:Nat)):=by
       rw [hn];exact evV_D hσ hon hw
      have:=ok_appZo (P:=c.P) (fr:=fr) st' hA hz ht ho (k:=q) (n:=List.length l) (m:=Int.toNat n) (ts:=List.flatMap (encs τ') l) (evV_D hσ hon hv) (by rw [den_H hq];rfl) hy1 ⟨hb.1,by simp only [maxLen];have:=hb.2;omega⟩;have hfl:∀ m:Nat,(List.replicate m τ'.zero).flatMap (encs τ')=(List.replicate m (encs τ' τ'.zero)).flatten:=fun m=>by
       induction m with
       | zero=>rfl
       | succ m ih=>rw [List.replicate_succ,List.replicate_succ,List.flatMap_cons,List.flatten_cons,ih]
      unfold WA;simp only [List.map_cons,List.map_nil,Option.map_some,Option.map_none,XO.A];rw [List.length_append,List.length_replicate,List.flatMap_append,hfl];exact this
     ·cases h
  ·cases h
 ·rename_i q s ht
  split at h
  ·rename_i e' l st' hq
   split at h
   ·rename_i hb
    rw [Bool.and_eq_true] at hb;have hbe:=Nat.eq_of_beq_eq_true hb.1;subst hbe;have h:growS e' fr q st' l s k=some r:=h;unfold growS at h;obtain ⟨hl,h⟩:=ck_some h;refine ⟨_,_,h,rfl,fun hon=>?_⟩;obtain ⟨z,hA,hz⟩:=appE_ok hE;unfold lim at hl;have hl:=(of_decide_eq_true hl).2;have hA1:AppT c.P t e' z 1 b:=by
     obtain ⟨i,hi,_,his,_⟩:=byteT_ok hb.2;have hs:τ.size=1:=by
      have:=hA.i;rw [hi] at this;have h2:=congrArg (fun p=>p.2.1) (Option.some.inj this);simp only at h2;omega
     rw [← hs];exact hA
    have:=ok_appSo (P:=c.P) (fr:=fr) st' hA1 hb.2 ht ho (k:=q) (n:=List.length l) (ts:=List.flatMap (encs .u8) l) (tx:=s) (evV_D hσ hon hv) (by rw [den_H hq];rfl) (evV_D hσ hon hw) hl;unfold WA;simp only [List.map_cons,List.map_nil,Option.map_some,Option.map_none];rw [growS_A e' l s st'];exact this
   ·cases h
  ·cases h
 ·cases h
end
section
variable {c:Cx} {σ:Vw} {κ:Nat->Bool} {fr:Nat} {o:Oper} {k:X->Wx->O} {r:Res}
theorem run_nilEq {P:Program} {t:TypeId} {ms:_} (hu:P.underlying t=some (.interface ms)) (w:World):(Op.equal t .nilIface .nilIface).run P w = .ok true w:=by
 obtain ⟨d,hd⟩:∃ d,Op.maxDepth=d+1:=⟨9999,rfl⟩
 unfold Op.equal;rw [hd];simp [Op.equalIn,run_underlying hu]
theorem run_nilEq2 {P:Program} {t te:TypeId} {pe:Value} {ms:_} (hu:P.underlying t=some (.interface ms)) (w:World):(Op.equal t (.iface te pe) .nilIface).run P w = .ok false w:=by
 obtain ⟨d,hd⟩:∃ d,Op.maxDepth=d+1:=⟨9999,rfl⟩
 unfold Op.equal;rw [hd];simp [Op.equalIn,run_underlying hu]
theorem ok_vianil {P:Program} {s:St} {fr:Nat} {o:Oper} {op:BinOp} {xt yt:TypeId} {x:Operand} {cv:Value} {q j:Nat} {ms:_} {b:Bool} (hu:P.underlying xt=some (.interface ms)) (ho:o.op = .binOp op xt x (.const cv) yt) (hx:s.ev x=some (.via q (viaR (j+2)))) (hy:s.ev (.const cv)=some (.t (.v .nilIface))) (hop:(op = .eql/\b=decide (j=1))\/(op = .neq/\b=decide (j≠1))):OpOk P o s fr (.t (.v (.bool b))) []:=
 ok_pure fun _ _ _ _ w a _ _ hev=>by
  have h2:=bool_of (hev (.const cv) _ hy);refine ⟨.bool b,?_,.t (.v _ rfl)⟩;have hv:(j=1/\a.eval x = .nilIface)\/(j≠1/\∃ te pe,a.eval x = .iface te pe):=by
   have:=hev x _ hx;generalize a.eval x=v at this ⊢;cases this with | via hk h h1=>exact h
  have:=run_nilEq hu w;have g:∀ (te:TypeId) (pe:Value),eqGuard op xt x (.const cv) (.iface te pe) .nilIface=pure ():=fun te pe=>by cases op <;> rfl
  unfold execOp;rw [ho];simp only [h2];rcases hv with ⟨hj,hv⟩ | ⟨hj,te,pe,hv⟩
  ·rw [hv,eqGuard_nil_constR]
   rcases hop with ⟨rfl,rfl⟩ | ⟨rfl,rfl⟩ <;> simp [binOp,this,hj]
  ·rw [hv,g]
   have:=run_nilEq2 (te:=te) (pe:=pe) hu w;rcases hop with ⟨rfl,rfl⟩ | ⟨rfl,rfl⟩ <;> simp [binOp,this,hj]
theorem gives_nilEq (hσ:σ.Ok κ) {op:BinOp} {xt yt:TypeId} {x y:Operand} {v w:X} {b:Bool} (ho:o.op = .binOp op xt x y yt) (hx:σ.ev x=some v) (hy:σ.ev y=some w) (hn:nilEq c.P xt op v w y=some b) (h:k (.e .bo b) []=some r):Gives c σ fr o k r:=by
 unfold nilEq at hn;split at hn
 ·split at hn
  ·rename_i cv ms hu
   split at hn
   ·cases hn
    refine ⟨_,_,h,rfl,fun hon=>ok_bin (vr:=.bool true) ho (evV_D hσ hon hx) (evV_D hσ hon hy) (fun w=>?_) rfl⟩;rw [eqGuard_nil_constR];have:=run_nilEq hu w;simp [binOp,this]
   ·cases hn
    refine ⟨_,_,h,rfl,fun hon=>ok_bin (vr:=.bool false) ho (evV_D hσ hon hx) (evV_D hσ hon hy) (fun w=>?_) rfl⟩;rw [eqGuard_nil_constR];have:=run_nilEq hu w;simp [binOp,this]
   ·cases hn
  ·cases hn
 ·split at hn
  ·rename_i cv ms hu
   split at hn
   ·cases hn
    exact ⟨_,_,h,rfl,fun hon=>ok_vianil hu ho (evV_D hσ hon hx) (evV_D hσ hon hy) (.inl ⟨rfl,rfl⟩)⟩
   ·cases hn
    exact ⟨_,_,h,rfl,fun hon=>ok_vianil hu ho (evV_D hσ hon hx) (evV_D hσ hon hy) (.inr ⟨rfl,rfl⟩)⟩
   ·cases hn
  ·cases hn
 ·cases hn
end
def VOf (P:Program) (t:TypeId) (vs:List Value) (v:Value):Prop:=∃ dsc,P.underlying t=some dsc/\if dsc.isRow=true then v = .agg vs.toArray else vs=[v]
theorem run_partV {P:Program} {t:TypeId} {s off:Nat} {vs:List Value} {dsc:TypeDesc} (hu:P.underlying t=some dsc) (hs:sizeT P t=some s) (h1:dsc.isRow=false->s=1) (hl:((vs.drop off).take s).length=s) (w:World):∃ v,(part t vs.toArray off).run P w = .ok v w/\VOf P t ((vs.drop off).take s) v:=by
 obtain ⟨inf,hinf,hsz⟩:=Option.map_eq_some_iff.1 hs;cases hr:dsc.isRow with
 | true=>
   refine ⟨.agg ((vs.drop off).take s).toArray,?_,dsc,hu,by rw [if_pos hr]⟩;have hagg:(isAgg t).run P w = .ok true w:=by
    unfold isAgg;rw [Sem.run_bind,run_underlying hu w];cases dsc <;> simp_all [TypeDesc.isRow]
   simp [part,hagg,sizeOf,typeInfo,hinf,hsz]
 | false=>
   have h1:=h1 hr;subst h1;have hlt:off < vs.length:=by rw [List.length_take,List.length_drop] at hl;omega
   have hagg:(isAgg t).run P w = .ok false w:=by
    unfold isAgg;rw [Sem.run_bind,run_underlying hu w];cases dsc <;> simp_all [TypeDesc.isRow]
   refine ⟨vs[off],?_,dsc,hu,?_⟩
   ·simp [part,hagg,hlt]
   ·rw [hr]
    simp only [Bool.false_eq_true,if_false];rw [List.drop_eq_getElem_cons hlt,List.take_succ_cons,List.take_zero]
def CelOk (xs:List X) (vs:List Value):Prop:=xs.length=vs.length/\∀ (i:Nat) (x:X) (v:Value) (b:Value),xs[i]?=some x->vs[i]?=some v->x.D = .t (.v b)->v=b
theorem CelOk.chunk {xs:List X} {vs:List Value} (h:CelOk xs vs) (off s:Nat):CelOk ((xs.drop off).take s) ((vs.drop off).take s):=by
 refine ⟨by simp [h.1],fun i x v b hx hv hb=>?_⟩;rw [List.getElem?_take] at hx hv;split at hx
 ·rename_i hi
  rw [if_pos hi] at hv;rw [List.getElem?_drop] at hx hv;exact h.2 _ x v b hx hv hb
 ·cases hx
theorem eqG_row {P:Program} {n:Nat} {t:TypeId} {xs ys:List X} {r:Bool} (h:eqG P n t xs ys=some r):∃ dsc,P.underlying t=some dsc/\(dsc.isRow=false->xs.length=1):=by
 cases n with
 | zero=>cases h
 | succ n=>
   unfold eqG at h;split at h
   ·rename_i hu;refine ⟨_,hu,fun _=>?_⟩;split at h <;> first | rfl | cases h
   ·rename_i hu;refine ⟨_,hu,fun _=>?_⟩;split at h <;> first | rfl | cases h
   ·rename_i hu;refine ⟨_,hu,fun _=>?_⟩;split at h <;> first | rfl | cases h
   ·rename_i hu;exact ⟨_,hu,fun h=>by cases h⟩
   ·rename_i hu;exact ⟨_,hu,fun h=>by cases h⟩
   ·cases h
theorem chunkE_ok {P:Program} {n s off:Nat} {t:TypeId} {xs ys:List X} {r:Bool} (hs:sizeT P t=some s) (h:chunkE s off xs ys (eqG P n t)=some r) {vs us:List Value} (hv:CelOk xs vs) (hu:CelOk ys us)
    (ih:∀ {xs ys:List X} {r:Bool} {vs us:List Value} {v u:Value},eqG P n t xs ys=some r->CelOk xs vs->CelOk ys us->VOf P t vs v->VOf P t us u->∀ d w,(Op.equalIn (d+n) t v u).run P w = .ok r w) (d:Nat) (w:World):
    ∃ v u,(part t vs.toArray off).run P w = .ok v w/\(part t us.toArray off).run P w = .ok u w/\(Op.equalIn (d+n) t v u).run P w = .ok r w:=by
 unfold chunkE at h;split at h
 ·rename_i hb
  rw [Bool.and_eq_true] at hb;have hb1:=Nat.eq_of_beq_eq_true hb.1;have hb2:=Nat.eq_of_beq_eq_true hb.2;rw [takes_eq,drops_eq] at hb1 hb2;simp only [takes_eq,drops_eq] at h;obtain ⟨dsc,hd,h1⟩:=eqG_row h;have c1:=hv.chunk off s;have c2:=hu.chunk off s;have hs1:dsc.isRow=false->s=1:=fun hr=>by rw [← hb1];exact h1 hr
  obtain ⟨v,e1,v1⟩:=run_partV (vs:=vs) hd hs hs1 (by rw [← c1.1];exact hb1) w;obtain ⟨u,e2,u1⟩:=run_partV (vs:=us) hd hs hs1 (by rw [← c2.1];exact hb2) w;exact ⟨v,u,e1,e2,ih h c1 c2 v1 u1 d w⟩
 ·cases h
theorem beq_dec (a b:List UInt8):(a == b)=decide (a=b):=by by_cases h:a=b <;> simp [h]
theorem eqG_ok {P:Program}:∀ (n:Nat) (t:TypeId) {xs ys:List X} {r:Bool} {vs us:List Value} {v u:Value},eqG P n t xs ys=some r->CelOk xs vs->CelOk ys us->VOf P t vs v->VOf P t us u->∀ d w,(Op.equalIn (d+n) t v u).run P w = .ok r w
 | 0,t,xs,ys,r,vs,us,v,u,h,_,_,_,_=>by cases h
 | n+1,t,xs,ys,r,vs,us,v,u,h,hv,hu,⟨d1,e1,f1⟩,⟨d2,e2,f2⟩=>fun d w=>by
   have e12:d1=d2:=Option.some.inj (e1.symm.trans e2);subst e12;have one:∀ {x:X} {vs:List Value} {v b:Value},CelOk [x] vs->vs=[v]->x.D = .t (.v b)->v=b:=fun hc hv hd=>by
    subst hv;exact hc.2 0 _ _ _ rfl rfl hd
   unfold eqG at h;rw [show d+(n+1)=(d+n)+1 from rfl];split at h
   ·rename_i ki hui
    obtain rfl:=Option.some.inj (e1.symm.trans hui);simp only [TypeDesc.isRow,Bool.false_eq_true,if_false] at f1 f2;split at h
    ·rename_i k a k' b
     split at h
     ·rename_i hk
      have hk:=of_decide_eq_true hk;subst hk;cases h;rw [one hv f1 rfl,one hu f2 rfl,run_equalIn_int w (d+n) t k ki a b hui];rfl
     ·cases h
    ·rename_i a b
     cases h;rw [one (b:=.int .u8 (UInt8.toNat a:Int)) hv f1 rfl,one (b:=.int .u8 (UInt8.toNat b:Int)) hu f2 rfl,run_equalIn_int w (d+n) t .u8 ki _ _ hui]
     congr 1
     have:((UInt8.toNat a:Int) == (UInt8.toNat b:Int))=decide ((UInt8.toNat a:Int)=(UInt8.toNat b:Int)):=rfl;rw [this];unfold decU;rw [decide_eq_decide];exact ⟨fun h=>UInt8.toNat_inj.1 (by exact_mod_cast h),fun h=>by rw [h]⟩
    ·cases h
   ·rename_i hui
    obtain rfl:=Option.some.inj (e1.symm.trans hui);simp only [TypeDesc.isRow,Bool.false_eq_true,if_false] at f1 f2;split at h
    ·rename_i a b
     cases h;rw [one hv f1 rfl,one hu f2 rfl,run_equalIn_bool' w (d+n) t a b hui];rfl
    ·cases h
   ·rename_i hui
    obtain rfl:=Option.some.inj (e1.symm.trans hui);simp only [TypeDesc.isRow,Bool.false_eq_true,if_false] at f1 f2;split at h
    ·rename_i a b
     cases h;rw [one (b:=.string ⟨⟨a⟩⟩) hv f1 rfl,one (b:=.string ⟨⟨b⟩⟩) hu f2 rfl,run_equalIn_string w (d+n) t _ _ hui]
     congr 1
     rw [ByteArray.toList_eq,ByteArray.toList_eq];exact beq_dec a b
    ·cases h
   ·rename_i m e hui
    obtain rfl:=Option.some.inj (e1.symm.trans hui);simp only [TypeDesc.isRow,if_true] at f1 f2;subst f1 f2;split at h
    ·rename_i s hs
     obtain ⟨inf,hinf,hsz⟩:=Option.map_eq_some_iff.1 hs;rw [run_equalIn_array w (d+n) _ _ hui hinf];have hcell:P.cellsOf e=s:=by simp [Program.cellsOf,hinf,hsz]
     rw [hcell]
     revert h
     generalize List.range m=is;intro h
     induction is generalizing r with
     | nil=>cases h;simp [Op.eqItems]
     | cons i is ih=>
       have step:∀ {r1:Bool},chunkE s (i * s) xs ys (eqG P n e)=some r1->∀ {r2:Bool},(Op.eqItems (d+n) e s vs.toArray us.toArray is).run P w = .ok r2 w->(Op.eqItems (d+n) e s vs.toArray us.toArray (i::is)).run P w = .ok (r1&&r2) w:=fun {r1} h1 {r2} h2=>by
        obtain ⟨v,u,p1,p2,p3⟩:=chunkE_ok hs h1 hv hu (fun h1 h2 h3 h4 h5=>eqG_ok n e h1 h2 h3 h4 h5) d w;simp only [Op.eqItems,Sem.run_bind,p1,p2,p3,Result.andThen_ok];cases r1
        ·simp
        ·simpa using h2
       cases is with
       | nil=>
         have:=step h (r2:=true) (by simp [Op.eqItems])
         rwa [Bool.and_true] at this
       | cons i' is'=>
         unfold allE at h;split at h
         ·rename_i a ha
          split at h
          ·rename_i b hb
           cases h;exact step ha (ih b hb)
          ·cases h
         ·cases h
    ·cases h
   ·rename_i fs hui
    obtain rfl:=Option.some.inj (e1.symm.trans hui);simp only [TypeDesc.isRow,if_true] at f1 f2;subst f1 f2;split at h
    ·cases h
    ·rename_i hst
     have hfs:P.fieldsOf t=fs:=by simp [Program.fieldsOf,hui]
     rw [run_equalIn_struct w (d+n) t _ _ (by rw [hfs];exact hui) hst,hfs]
     revert h
     generalize fs.toList=l;intro h
     induction l generalizing r with
     | nil=>cases h;simp [Op.eqFields]
     | cons f l ih=>
       have step : ∀ {r1 : Bool}, (match sizeT P f.type with | some s => (match f.name == "_" with | true => none | false => chunkE s f.offset xs ys (eqG P n f.type)) | none => none) = some r1 → ∀ {r2 : Bool}, (Op.eqFields (d + n) vs.toArray us.toArray l).run P w = .ok r2 w → (Op.eqFields (d + n) vs.toArray us.toArray (f :: l)).run P w = .ok (r1 && r2) w := fun {r1} h1 {r2} h2 => by
        split at h1
        ·rename_i s hs
         split at h1
         ·cases h1
         ·rename_i hnm
          have hne : f.name ≠ "_" := by simpa using hnm
          obtain ⟨v,u,p1,p2,p3⟩:=chunkE_ok hs h1 hv hu (fun h1 h2 h3 h4 h5=>eqG_ok n f.type h1 h2 h3 h4 h5) d w;simp only [Op.eqFields,hne,ne_eq,not_false_eq_true,if_true,Sem.run_bind,p1,p2,p3,Result.andThen_ok];cases r1
          ·simp
          ·simpa using h2
        ·cases h1
       cases l with
       | nil=>
         have:=step h (r2:=true) (by simp [Op.eqFields])
         rwa [Bool.and_true] at this
       | cons f' l'=>
         unfold allE at h;split at h
         ·rename_i a ha
          split at h
          ·rename_i b hb
           cases h;exact step ha (ih b hb)
          ·cases h
         ·cases h
   ·cases h
section
variable {c:Cx} {σ:Vw} {κ:Nat->Bool} {fr:Nat} {o:Oper} {k:X->Wx->O} {r:Res}
theorem agg_cel {ν:Nat->Value} {nm:Nat->Bool} {w:World} {G:Lim} {v:Value} {xs:List X} (h:DR ν nm w G v (X.agg xs).D):∃ vs:Array Value,v = .agg vs/\CelOk xs vs.toList:=by
 unfold X.D at h;rw [Ds_map] at h;cases h with
 | @agg vs _ hl hr h1=>
   refine ⟨vs,rfl,by simpa using hl.symm,fun i x v b hx hv hb=>?_⟩;have:=hr i v x.D (by simpa using hv) (by rw [List.getElem?_map,hx];rfl);rw [hb] at this;exact bool_of this
theorem gives_eqAgg (hσ:σ.Ok κ) {op:BinOp} {xt yt:TypeId} {x y:Operand} {v w:X} {b:Bool} (ho:o.op = .binOp op xt x y yt) (hx:σ.ev x=some v) (hy:σ.ev y=some w) (hn:eqAgg c.P op xt v w=some b) (h:k (.e .bo b) []=some r):Gives c σ fr o k r:=by
 refine ⟨_,_,h,rfl,fun hon=>?_⟩;unfold eqAgg at hn;split at hn
 case h_2=>cases hn
 split at hn
 case h_2=>cases hn
 rename_i xs _ ys;split at hn
 case h_2=>cases hn
 rename_i hrow hg;refine ok_pure fun E σ₁ ν G w a hH I hev=>⟨.bool b,?_,.t (.v _ rfl)⟩
 obtain ⟨vs,hvs,c1⟩:=agg_cel (hev x _ (evV_D hσ hon hx));obtain ⟨us,hus,c2⟩:=agg_cel (hev y _ (evV_D hσ hon hy));obtain ⟨dsc,g1,g2⟩:=rowT_get hrow;have hV:∀ zs:Array Value,VOf c.P xt zs.toList (.agg zs):=fun zs=>⟨dsc,g1,by rw [if_pos g2]⟩
 have hrun:∀ r0,eqG c.P 12 xt xs ys=some r0->(Op.equalIn 10000 xt (.agg vs) (.agg us)).run c.P w = .ok r0 w:=fun r0 h0=>eqG_ok 12 xt h0 c1 c2 (hV vs) (hV us) 9988 w
 have hgd:=run_eqGuard_agg (P:=c.P) w op xt x y vs us hg;unfold execOp;rw [ho];simp only [hvs,hus,Sem.run_bind,hgd,Result.andThen_ok];split at hn
 ·rw [run_eql_struct,hrun b hn]
  rfl
 ·split at hn
  ·rename_i b0 h0
   cases hn;rw [run_neq_struct,hrun b0 h0];rfl
  ·cases hn
 ·cases hn
end
end Go.Ax
/- A string's iterator; a builder's bytes as a string. -/
namespace Go.Ax
open Alg
open Go.RowKit Go.Ab
section
variable {P:Program} {o:Oper} {σ:St} {fr:Nat}
theorem ok_range {t:TypeId} {x:Operand} {s:ByteArray} (hu:P.underlying t=some .string) (ho:o.op = .range t x) (hx:σ.ev x=some (.t (.v (.string s)))):OpOk P o σ fr (.own fr) [(fr,some (.it s 0))]:=by
 intro E σ₁ a w hT hH h100 hf hd ⟨ν,G,I⟩ Q;have hvx:=bool_of (I.ev (St.ev_le hT hx));unfold Oper.wp;have hr:(execOp a.eval o).run P w = .ok (.value (.pointer (some ⟨w.heap.size,0,none⟩))) (w.alloc (.stringIter s 0)):=by
  unfold execOp;rw [ho];simp [hvx,run_range_string w t s hu,World.iter]
 rw [hr,Oper.upon_value];have hA:Aft w (w.alloc (.stringIter s 0)):=(Aft.refl w).alloc _;refine ⟨put_defers ..,_,_,I.fresh (G':=fun b=>if b=w.heap.size then 0 else G b) h100 hf hd hA (fun b hb=>if_neg (by omega)) (x:=.pointer (some ⟨w.heap.size,0,none⟩)) (fun g hg=>by cases hg;exact Nat.le_refl _) ?_ ?_⟩
 ·exact ⟨w.heap.size,setν_same,.inl I.kept.size,heap_alloc_new w _,if_pos rfl⟩
 ·have:DR (setν ν fr (.pointer (some ⟨w.heap.size,0,none⟩))) (σ₁.upd o.dst .any [(fr,some (.it s 0))] fr).nm (w.alloc (.stringIter s 0)) (fun b=>if b=w.heap.size then 0 else G b) (setν ν fr (.pointer (some ⟨w.heap.size,0,none⟩)) fr) (.own fr):=.own (upd_nm_fr ..) (by rw [setν_same];rfl)
  rw [setν_same] at this;exact this
theorem ok_next0 {x:Operand} {s:ByteArray} {pos q:Nat} (ho:o.op = .next x true) (hx:σ.ev x=some (.own q)) (hq:σ.H q=some (.it s pos)) (h:¬ pos < s.size):OpOk P o σ fr (.tup [.t (.v (.bool false))]) []:=
 ok_pure fun E σ₁ ν G w ac hH I hev=>by
  obtain ⟨hv,hk⟩:=mp_of (hev x _ hx);obtain ⟨g,h1,h2,h3,h4⟩:=(I.H q _ (hH q _ hq)).2;refine ⟨.tuple #[.bool false],?_,.tup rfl fun i u d hu hd=>?_⟩
  ·unfold execOp
   rw [ho];simp [hv,h1,Lib.run_next_end_at w g s pos o.type h3 h]
  ·match i,hu,hd with
   | 0,hu,hd=>cases hu;cases hd;exact .t (.v _ rfl)
   | i+1,hu,hd=>simp at hd
theorem ok_next1 {x:Operand} {s:ByteArray} {pos q:Nat} (ho:o.op = .next x true) (hx:σ.ev x=some (.own q)) (hq:σ.H q=some (.it s pos)) (h:pos < s.size) (ha:(s[pos]'h).toNat < 128):
    OpOk P o σ fr (.tup [.t (.v (.bool true)),.t (.v (.int .i64 pos)),.t (.v (.int .i32 (s[pos]'h).toNat))]) [(q,some (.it s (pos+1)))]:=by
 intro E σ₁ a w hT hH h100 hf hd ⟨ν,G,I⟩ Q;obtain ⟨hv,hk⟩:=mp_of (I.ev (St.ev_le hT hx));obtain ⟨g,h1,h2,h3,h4⟩:=(I.H q _ (hH q _ hq)).2;unfold Oper.wp;have hr:(execOp a.eval o).run P w = .ok (.value (.tuple #[.bool true,.int .i64 pos,.int .i32 (s[pos]'h).toNat])) (w.iterAt g s (pos+1)):=by
  unfold execOp;rw [ho];simp [hv,h1,Lib.run_next_ascii_at w g s pos o.type h3 h ha]
 rw [hr,Oper.upon_value];have s5:∀ b,b≠g->(w.iterAt g s (pos+1)).heap[b]?=w.heap[b]?:=fun b hb=>by
  simp only [World.iterAt];rw [Array.getElem?_setIfInBounds_ne (Ne.symm hb)]
 have hcell:∀ b i u,Cell w G b i u->Cell (w.iterAt g s (pos+1)) G b i u:=fun b i u h=>by
  have hne:b≠g:=fun e=>by have:=h.2;rw [e,h4] at this;omega
  exact ⟨(World.cell?_of_block (a:=⟨b,i,none⟩) (s5 b hne)).trans h.1,h.2⟩
 refine ⟨put_defers ..,ν,G,rowset (w':=w.iterAt g s (pos+1)) (ob':=.it s (pos+1)) I (hH q _ hq) (by rw [h1];rfl) h4 (fun _ _ _=>Iff.rfl) (fun _ _ _=>Iff.rfl) rfl rfl rfl (by simp [World.iterAt]) s5 hcell ⟨g,h1,h2,Lib.iterAt_heap w g s pos _ h3,h4⟩ hd (.tup rfl fun i u d hu hd'=>?_)⟩
 match i,hu,hd' with
 | 0,hu,hd'=>cases hu;cases hd';exact .t (.v _ rfl)
 | 1,hu,hd'=>cases hu;cases hd';exact .t (.v _ rfl)
 | 2,hu,hd'=>cases hu;cases hd';exact .t (.v _ rfl)
 | i+3,hu,hd'=>simp at hd'
theorem rowdrop {E:Env} {σ₁:St} {ν:Nat->Value} {G:Lim} {w w':World} {a:Act} (I:Inv E σ₁ ν G w a.tmps) {k g:Nat} {ob:AObj} (hk:σ₁.H k=some ob) (hg:blk (ν k)=some g)
    (s1:w'.os=w.os) (s2:w'.tape=w.tape) (s3:w'.output=w.output) (s4:w'.heap.size=w.heap.size) (s5:∀ b,b≠g->w'.heap[b]?=w.heap[b]?) (hcell:∀ b i u,Cell w G b i u->Cell w' G b i u)
    {dst:Option Tmp} {v:Value} {d:D} (hd:∀ t,dst=some t->t < E.m) (hv:DR ν σ₁.nm w' G v d):Inv E (σ₁.upd dst d [(k,none)] fr) ν G w' (a.put dst v).tmps:=by
 have hmay:E.may g:=(I.H k ob hk).2.mayb hg;have hnm:∀ j,σ₁.nm j=true->(σ₁.upd dst d [(k,none)] fr).nm j=true/\ν j=ν j:=fun j hj=>⟨by simp [St.upd,hj],rfl⟩
 have back:∀ j oj,(σ₁.upd dst d [(k,none)] fr).H j=some oj->j≠k/\σ₁.H j=some oj:=fun j oj h=>by
  by_cases hj:j=k
  ·subst hj;simp [St.upd,Ab.look] at h
  ·exact ⟨hj,by simpa [St.upd,Ab.look,Ne.symm hj] using h⟩
 refine ⟨⟨s1.trans I.kept.os,s2.trans I.kept.tape,s3.trans I.kept.output,by rw [s4];exact I.kept.size,fun b hb hX=>?_⟩,fun b i u h=>hcell b i u (I.keep b i u h),I.pin,I.g0,?_,fun t' d' h=>?_,fun j oj h=>?_,fun j1 o1 j2 o2 h1 h2 hne=>?_⟩
 ·refine (s5 b (fun e=>?_)).trans (I.kept.block b hb hX)
  subst e;rcases hmay with h | h
  ·omega
  ·exact hX h
 ·cases dst <;> simp [Act.put,I.sz]
 ·simp only [St.upd] at h
  split at h
  ·rename_i he'
   cases h;have:=hd t' he';exact ⟨v,by simp [he',Act.put,I.sz,this],hv.mono hnm (fun _ _ _ h=>h)⟩
  ·rename_i he'
   obtain ⟨u,hu,hdu⟩:=I.T t' d' h;refine ⟨u,?_,hdu.mono hnm hcell⟩;cases dst with
   | none=>simpa [Act.put] using hu
   | some t''=>
     have hne:t''≠t':=fun e=>he' (by rw [e])
     simp only [Act.put];rw [Array.getElem?_setIfInBounds_ne hne];exact hu
 ·obtain ⟨hj,h'⟩:=back j oj h
  obtain ⟨h1,h2⟩:=I.H j oj h';refine ⟨(hnm j h1).1,h2.mono h1 hnm hcell (fun g' hg'=>⟨s5 g' (fun e=>?_),rfl⟩)⟩;subst e;exact I.dis j oj k ob h' hk hj g' hg' (foot_blk hg)
 ·obtain ⟨n1,e1⟩:=back j1 o1 h1
  obtain ⟨n2,e2⟩:=back j2 o2 h2;have f:∀ j oj,j≠k->σ₁.H j=some oj->∀ g',foot w' (ν j) oj g'->foot w (ν j) oj g':=fun j oj hj h g' hg'=>(foot_of fun b hb=>s5 b fun e=>by
   subst e;exact I.dis j oj k ob h hk hj b (foot_blk hb) (foot_blk hg)).1 hg'
  exact fun g' hg1 hg2=>I.dis j1 o1 j2 o2 e1 e2 hne g' (f j1 o1 n1 e1 g' hg1) (f j2 o2 n2 e2 g' hg2)
theorem freeze_heap (w:World) (g n:Nat):(w.freeze ⟨g,0,none⟩ n).os=w.os/\(w.freeze ⟨g,0,none⟩ n).tape=w.tape/\(w.freeze ⟨g,0,none⟩ n).output=w.output/\(w.freeze ⟨g,0,none⟩ n).heap.size=w.heap.size/\(∀ b,b≠g->(w.freeze ⟨g,0,none⟩ n).heap[b]?=w.heap[b]?) /\
    ∀ b i,(w.freeze ⟨g,0,none⟩ n).cell? ⟨b,i,none⟩=w.cell? ⟨b,i,none⟩:=by
 unfold World.freeze;split
 ·exact ⟨rfl,rfl,rfl,rfl,fun _ _=>rfl,fun _ _=>rfl⟩
 ·refine ⟨rfl,rfl,rfl,by simp,fun b hb=>by simp [Array.getElem?_modify,Ne.symm hb],fun b i=>?_⟩
  simp only [World.cell?,Array.getElem?_modify];by_cases h:g=b
  ·subst h
   rw [if_pos rfl];cases w.heap[g]? with
   | none=>rfl
   | some o=>
     cases o with
     | cells c e fz=>obtain ⟨lo,hi⟩:=fz;rfl
     | _=>rfl
  ·rw [if_neg h]
theorem via_of {ν:Nat->Value} {nm:Nat->Bool} {w:World} {G:Lim} {v:Value} {k:Nat} {r:Value->Value->Prop} (h:DR ν nm w G v (.via k r)):r (ν k) v:=by
 cases h with | via hk h h1=>exact h
theorem tr_v {w:World} {G:Lim} {u x:Value} (h:TR w G u (.v x)):u=x:=by
 cases h with | v _ _=>rfl
theorem ok_sdata {t e' e:TypeId} {x:Operand} {q s n:Nat} {ts:List Tree} {st:Bool} (hu:P.underlying o.type=some (.pointer e')) (ho:o.op = .call { callee:=.builtin .unsafeSliceData,args:=#[x],argTypes:=#[t] })
    (hx:σ.ev x=some (.own q)) (hq:σ.H q=some (.row e s n ts st)):OpOk P o σ fr (.via q (viaR 1)) []:=by
 intro E σ₁ a w hT hH h100 hf hd ⟨ν,G,I⟩ Q;obtain ⟨hv,hk⟩:=mp_of (I.ev (St.ev_le hT hx));obtain ⟨xs,r1,_⟩:=(I.H q _ (hH q _ hq)).2;have fin:∀ (p:Option Addr) (w':World),Aft w w'->(Builtin.unsafeSliceData_ #[t] o.type #[ν q]).run P w = .ok (.pointer p) w'->viaR 1 (ν q) (.pointer p)->o.wp P a w (fun a' w'=>a'.defers=a.defers/\R E (σ₁.upd o.dst (.via q (viaR 1)) [] fr) a'.tmps w') Q:=fun p w' hA hr hR=>by
  unfold Oper.wp;have he:(execOp a.eval o).run P w = .ok (.value (.pointer p)) w':=by
   unfold execOp;rw [ho];simp [resolve,invoke,builtin,hv,hr]
  rw [he,Oper.upon_value];exact ⟨put_defers ..,ν,G,(I.aft hA fun _ _=>rfl).put (.via hk hR rfl) hd fr a rfl⟩
 rcases r1.2 with ⟨hz,h0⟩ | ⟨g,cap,cur,hz,_,r2,r3,r4,r5,_⟩
 ·exact fin none w (Aft.refl w) (by rw [hz];exact Lib.run_unsafeSliceData_nil ..) ⟨_,rfl,fun a' n' c' he hn'=>by rw [hz] at he;cases he;omega⟩
 ·by_cases hc:cap=0
  ·subst hc
   refine fin _ _ ((Aft.refl w).alloc _) (by rw [hz,Nat.le_zero.1 r3];exact Lib.run_unsafeSliceData_zero w _ _ e' hu ⟨g,0,none⟩ 0 (e,cur.size) (by simp [World.shape?,r2])) ⟨_,rfl,fun a' n' c' he hn'=>?_⟩;rw [hz] at he;cases he;omega
  ·exact fin (some ⟨g,0,none⟩) w (Aft.refl w) (by rw [hz];exact Lib.run_unsafeSliceData_row _ _ _ _ _ _ hc) ⟨_,rfl,fun a' n' c' he hn'=>by rw [hz] at he;cases he;rfl⟩
theorem ok_sdata0 {t:TypeId} {x:Operand} (ho:o.op = .call { callee:=.builtin .unsafeSliceData,args:=#[x],argTypes:=#[t] }) (hx:σ.ev x=some (.t (.v (.slice none 0 0)))):OpOk P o σ fr (.t (.v (.pointer none))) []:=
 ok_pure fun E σ₁ ν G w a hH I hev=>by
  have hv:=bool_of (hev x _ hx);refine ⟨_,?_,.t (.v _ rfl)⟩;unfold execOp;rw [ho];simp [resolve,invoke,builtin,hv,Lib.run_unsafeSliceData_nil]
theorem ok_ustr {pt it e:TypeId} {x y:Operand} {q:Nat} {l:List UInt8} {st:Bool} (hp:P.underlying pt=some (.pointer e)) (hc:P.cellsOf e=1) (ho:o.op = .call { callee:=.builtin .unsafeString,args:=#[x,y],argTypes:=#[pt,it] })
    (hx:σ.ev x=some (.via q (viaR 1))) (hy:σ.ev y=some (.t (.v (.int .i64 l.length)))) (hq:σ.H q=some (.row e 1 l.length (l.map fun b=>.v (.int .u8 b.toNat)) st)):OpOk P o σ fr (.t (.v (.string ⟨l.toArray⟩))) [(q,none)]:=by
 intro E σ₁ a w hT hH h100 hf hd ⟨ν,G,I⟩ Q;have hvy:=bool_of (I.ev (St.ev_le hT hy));have hvx:=I.ev (St.ev_le hT hx);have hqn:=hH q _ hq;obtain ⟨xs,r1,r2,r3,r4⟩:=(I.H q _ hqn).2;obtain ⟨p,hpv,hpr⟩:∃ p,a.eval x = .pointer p/\∀ a' n' c',ν q = .slice a' n' c'->0 < n'->p=a':=by
  exact via_of hvx
 have hr0:xs.length=l.length:=by rw [r2,List.length_map]
 have fin:∀ w',(Builtin.unsafeString_ #[pt,it] o.type #[.pointer p,.int .i64 l.length]).run P w = .ok (.string ⟨l.toArray⟩) w'->(∀ v',ν q=v'->(∃ (g:Nat),blk v'=some g/\w'=w.freeze ⟨g,0,none⟩ l.length)\/w'=w)->o.wp P a w (fun a' w'=>a'.defers=a.defers/\R E (σ₁.upd o.dst (.t (.v (.string ⟨l.toArray⟩))) [(q,none)] fr) a'.tmps w') Q:=fun w' hr hw'=>by
  unfold Oper.wp;have he:(execOp a.eval o).run P w = .ok (.value (.string ⟨l.toArray⟩)) w':=by
   unfold execOp;rw [ho];simp [resolve,invoke,builtin,hpv,hvy,hr]
  rw [he,Oper.upon_value];rcases hw' _ rfl with ⟨g,hg,rfl⟩ | rfl
  ·obtain ⟨s1,s2,s3,s4,s5,s6⟩:=freeze_heap w g l.length
   exact ⟨put_defers ..,ν,G,rowdrop I hqn hg s1 s2 s3 s4 s5 (fun b i u h=>⟨(s6 b i).trans h.1,h.2⟩) hd (.t (.v _ rfl))⟩
  ·have:=I.put (dst:=o.dst) (v:=.string ⟨l.toArray⟩) (d:=.t (.v (.string ⟨l.toArray⟩))) (.t (.v _ rfl)) hd fr a rfl
   have back:∀ j oj,(σ₁.upd o.dst (.t (.v (.string ⟨l.toArray⟩))) [(q,none)] fr).H j=some oj->(σ₁.upd o.dst (.t (.v (.string ⟨l.toArray⟩))) [] fr).H j=some oj:=fun j oj h=>by
    by_cases hj:j=q
    ·subst hj;simp [St.upd,Ab.look] at h
    ·simpa [St.upd,Ab.look,Ne.symm hj] using h
   exact ⟨put_defers ..,ν,G,this.kept,this.keep,this.pin,this.g0,this.sz,this.T,fun j oj h=>this.H j oj (back j oj h),fun j1 o1 j2 o2 h1 h2=>this.dis j1 o1 j2 o2 (back j1 o1 h1) (back j2 o2 h2)⟩
 rcases Nat.eq_zero_or_pos l.length with h0 | h0
 ·have:l=[]:=List.eq_nil_of_length_eq_zero h0
  subst this;refine fin w ?_ (fun _ _=>.inr rfl);exact Lib.run_unsafeString_none w pt it o.type p
 ·rcases r1.2 with ⟨hz,hn⟩ | ⟨g,cap,cur,hz,_,q2,q3,q4,q5,q6⟩
  ·omega
  ·have hpe:=hpr _ _ _ hz h0
   subst hpe;refine fin _ (Lib.run_unsafeString_row w pt it o.type e hp hc g cur.size (by simp [World.shape?,q2]) l (fun e=>by subst e;simp at h0) (by omega) (by simp only [maxLen] at q4;omega) fun j b hb=>?_) (fun v' hv'=>.inl ⟨g,by rw [← hv',hz];rfl,rfl⟩);have hj:j < l.length:=(List.getElem?_eq_some_iff.1 hb).1;have hxj:xs[j]?=some xs[j]:=List.getElem?_eq_getElem (by omega);have ht:=r3 j _ _ hxj (by rw [List.getElem?_map,hb];rfl);have hcell:=row_cell r1 (by rw [hz];rfl) (i:=j) (by omega);rw [Addr.add_mid,Nat.zero_add,hcell,hxj];rw [tr_v ht]
theorem ok_ustr0 {pt it:TypeId} {x y:Operand} (ho:o.op = .call { callee:=.builtin .unsafeString,args:=#[x,y],argTypes:=#[pt,it] }) (hx:σ.ev x=some (.t (.v (.pointer none)))) (hy:σ.ev y=some (.t (.v (.int .i64 0)))):OpOk P o σ fr (.t (.v (.string ⟨#[]⟩))) []:=
 ok_pure fun E σ₁ ν G w a hH I hev=>by
  have hv:=bool_of (hev x _ hx);have hvy:=bool_of (hev y _ hy);refine ⟨_,?_,.t (.v _ rfl)⟩;unfold execOp;rw [ho];have hr:=Lib.run_unsafeString_none (P:=P) w pt it o.type none;simp [resolve,invoke,builtin,hv,hvy,hr];rfl
end
section
variable {c:Cx} {σ:Vw} {κ:Nat->Bool} {fr:Nat} {o:Oper} {k:X->Wx->O} {r:Res}
theorem gives_range (hσ:σ.Ok κ) {t:TypeId} {x:Operand} {s:List UInt8} (ho:o.op = .range t x) (hu:c.P.underlying t=some .string) (hx:σ.ev x=some (.e .tx s)) (h:k (.own fr) [(fr,some (.it s 0))]=some r):Gives c σ fr o k r:=
 ⟨_,_,h,rfl,fun hon=>ok_range hu ho (evV_D hσ hon hx)⟩
theorem gives_next (hσ:σ.Ok κ) {x:Operand} {q:Nat} {s:List UInt8} {pos:Int} (ho:o.op = .next x true) (hx:σ.ev x=some (.own q)) (hq:σ.H q=some (.it s pos)) (h:nextX s pos q k=some r):Gives c σ fr o k r:=by
 unfold nextX at h;rcases br_some h with ⟨_,h⟩ | ⟨hb,h⟩
 ·obtain ⟨b,h0,hb,h⟩:=gx_some h
  obtain ⟨ha,h⟩:=ck_some h;have ha:=of_decide_eq_true ha;have hlt:pos.toNat < (⟨s.toArray⟩:ByteArray).size:=by
   have:=(List.getElem?_eq_some_iff.1 hb).1;exact this
  have hbv:(⟨s.toArray⟩:ByteArray)[pos.toNat]'hlt=b:=by
   have:=(List.getElem?_eq_some_iff.1 hb).2;exact this
  refine ⟨_,_,h,rfl,fun hon=>?_⟩;have:=ok_next1 (P:=c.P) (fr:=fr) ho (evV_D hσ hon hx) (den_H hq) hlt (by rw [hbv];exact ha);rw [hbv] at this;have e1:(pos.toNat:Int)=pos:=by omega
  have e2:(pos+1).toNat=pos.toNat+1:=by omega
  rw [e1] at this;unfold WA;simp only [List.map_cons,List.map_nil,Option.map_some,XO.A,e2];exact this
 ·have hb:=of_decide_eq_false hb
  exact ⟨_,_,h,rfl,fun hon=>ok_next0 (P:=c.P) (fr:=fr) ho (evV_D hσ hon hx) (den_H hq) (fun hc=>hb (by have:pos.toNat < s.length:=hc;omega))⟩
theorem u8_trees:∀ l:List UInt8,List.flatMap (encs .u8) l=List.map (fun b:UInt8=>Tree.v (.int .u8 b.toNat)) l
 | []=>rfl
 | b::l=>congrArg (fun ts=>Tree.v (.int .u8 b.toNat)::ts) (u8_trees l)
theorem decI_t {a b:Int} (h:decI a b=true):a=b:=of_decide_eq_true h
theorem gives_sdata (hσ:σ.Ok κ) {t:TypeId} {x:Operand} {v:X} (ho:o.op = .call { callee:=.builtin .unsafeSliceData,args:=#[x],argTypes:=#[t] }) (hx:σ.ev x=some v) (h:sdataX c σ o.type v k=some r):Gives c σ fr o k r:=by
 unfold sdataX at h;split at h
 ·rename_i e' hu
  split at h
  ·rename_i q
   split at h
   ·rename_i e τ l st hq
    exact ⟨_,_,h,rfl,fun hon=>ok_sdata (P:=c.P) (fr:=fr) hu ho (evV_D hσ hon hx) (den_H hq)⟩
   ·cases h
  ·exact ⟨_,_,h,rfl,fun hon=>ok_sdata0 (P:=c.P) (fr:=fr) ho (evV_D hσ hon hx)⟩
  ·cases h
 ·cases h
theorem gives_ustr (hσ:σ.Ok κ) {pt it:TypeId} {x y:Operand} {v w:X} (ho:o.op = .call { callee:=.builtin .unsafeString,args:=#[x,y],argTypes:=#[pt,it] }) (hx:σ.ev x=some v) (hy:σ.ev y=some w) (h:ustrX c σ pt v w k=some r):Gives c σ fr o k r:=by
 unfold ustrX at h;split at h
 ·rename_i e hu
  split at h
  ·rename_i q n
   split at h
   ·rename_i e0 l st hq
    split at h
    ·rename_i hc
     rw [Bool.and_eq_true] at hc;obtain ⟨hn,h2⟩:=ck_some h;clear h;have hn:n=(List.length (α:=UInt8) l:Int):=decI_t hn;subst hn;have he:e0=e:=Nat.eq_of_beq_eq_true hc.1;subst he;refine ⟨_,_,h2,rfl,fun hon=>?_⟩;have:σ.den.H q=some (.row e0 1 (List.length (α:=UInt8) l) (List.flatMap (encs .u8) l) st):=den_H hq;have this:=this.trans (congrArg (fun ts=>some (AObj.row e0 1 (List.length (α:=UInt8) l) ts st)) (u8_trees l));exact ok_ustr (P:=c.P) (fr:=fr) hu (Nat.eq_of_beq_eq_true hc.2) ho (evV_D hσ hon hx) (evV_D hσ hon hy) this
    ·cases h
   ·cases h
  ·rename_i n
   obtain ⟨hn,h⟩:=ck_some h;have hn:n=(0:Int):=decI_t hn;subst hn;exact ⟨_,_,h,rfl,fun hon=>ok_ustr0 (P:=c.P) (fr:=fr) ho (evV_D hσ hon hx) (evV_D hσ hon hy)⟩
  ·cases h
 ·cases h
end
end Go.Ax
/- Arrays: values and variables of many cells of one kind. -/
namespace Go.Ax
open Alg
open Go.RowKit Go.Ab
theorem flatD_one {τ:Ty} (h:τ.one=true) (l:List τ.V):(List.flatMap (encs τ) l).map D.t=l.map fun y=>D.t (enc1 τ y):=by
 induction l with
 | nil=>rfl
 | cons x l ih=>rw [List.flatMap_cons,List.map_append,encs_one h,ih];rfl
theorem arrR_some {σ:Vw} {v:X} {q off:Nat} {e:TypeId} {τ:Ty} {l:List τ.V} (h:arrR σ v=some (q,off,e,⟨τ,l⟩)):v = .ref q off/\σ.H q=some (.arr e τ l):=by
 unfold arrR at h;split at h
 ·split at h
  ·rename_i hq
   cases h;exact ⟨rfl,hq⟩
  ·cases h
 ·cases h
theorem flatA_some {P:Program} {e:TypeId} {τ:Ty} {n:Nat} (h:flatA P e=some (τ,n)):∃ cs:Array Value,(P.info? e).bind (·.zero)=some (.agg cs)/\constOk (.agg cs)=true/\(ofVal (.agg cs)) = .agg ((List.flatMap (encs τ) (List.replicate n τ.zero)).map .t)/\cs.toList=List.replicate n (match (enc1 τ τ.zero) with | .v u=>u | _=>.nilFunc)/\cs.size=n/\τ.one=true:=by
 unfold flatA at h;split at h
 case h_2=>cases h
 rename_i cs hz;split at h
 case h_2=>cases h
 split at h
 case h_2=>cases h
 rename_i z r hcs;split at h
 case h_2=>cases h
 rename_i τ' hb hr;cases h;have hrep:r=List.replicate r.length z:=by
  refine List.eq_replicate_iff.2 ⟨rfl,fun v hv=>?_⟩;have:=List.all_eq_true.1 hr v hv;unfold sameV at this;split at this
  ·rename_i a b;rw [beq_iff_eq] at this;rw [this]
  ·rename_i k a k' b
   rw [Bool.and_eq_true,decide_eq_true_eq,decide_eq_true_eq] at this;rw [this.1,this.2]
  ·cases this
 have hn:cs.size=r.length+1:=by rw [← Array.length_toList,hcs];rfl
 have hall:cs.toList=List.replicate cs.size z:=by rw [hcs,hn,List.replicate_succ,← hrep]
 have key:τ.one=true/\enc1 τ τ.zero = .v z/\z.oneCell'=true:=by
  unfold baseTy at hb;split at hb <;> cases hb <;> exact ⟨rfl,rfl,rfl⟩
 refine ⟨cs,hz,?_,?_,by rw [key.2.1];exact hall,rfl,key.1⟩
 ·show (cs.toList.all fun x=>x.oneCell')=true
  rw [hall];exact List.all_eq_true.2 fun v hv=>by rw [List.eq_of_mem_replicate hv];exact key.2.2
 ·rw [flatD_one key.1]
  show D.agg (cs.toList.map fun c=>D.t (.v c))=_;rw [hall,List.map_replicate,List.map_replicate,key.2.1]
section
variable {c:Cx} {σ:Vw} {κ:Nat->Bool} {fr:Nat} {o:Oper} {k:X->Wx->O} {r:Res}
theorem gives_allocA {e:TypeId} {τ:Ty} {n:Nat} (ho:o.op = .alloc e) (hf:flatA c.P e=some (τ,n)) (h:k (.ref fr 0) [(fr,some (.arr e τ (List.replicate n τ.zero)))]=some r):Gives c σ fr o k r:=by
 obtain ⟨cs,hz,h1,h2,_⟩:=flatA_some hf;refine ⟨_,_,h,rfl,fun _=>?_⟩;have:=ok_alloc (σ:=σ.den) (fr:=fr) ho hz h1;rw [h2] at this;exact this
theorem gives_buildA {t:TypeId} {ps:Array (Nat×Operand)} {τ:Ty} {n:Nat} {pl:List (Nat×Nat)} (ho:o.op = .build t ps) (hps:ps.toList=[]) (hf:flatA c.P t=some (τ,n)) (hp:places c.P t=some pl) (h:k (.ag τ (List.replicate n τ.zero)) []=some r):Gives c σ fr o k r:=by
 obtain ⟨cs,hz,h1,h2,_⟩:=flatA_some hf;refine ⟨_,_,h,rfl,fun _=>?_⟩;have hB:=built_one hz (fun u hu=>List.all_eq_true.1 h1 u hu) hp;have:=ok_build (σ:=σ.den) (fr:=fr) (out:=cs.toList.map fun u=>.t (.v u)) hB ho (by rw [hps];exact .nil) rfl;have h2:D.agg (cs.toList.map fun u=>.t (.v u))=_:=h2;rw [h2] at this;unfold X.D;exact this
theorem gives_boxA (hσ:σ.Ok κ) {e:TypeId} {x:Operand} {τ:Ty} {l:List τ.V} (ho:o.op = .box e x) (hx:σ.ev x=some (.ag τ l)) (h:k (.ref fr 0) [(fr,some (.arr e τ l))]=some r):Gives c σ fr o k r:=by
 refine ⟨_,_,h,rfl,fun hon=>?_⟩;have hd:=evV_D hσ hon hx;unfold X.D at hd;exact ok_box (P:=c.P) (fr:=fr) ho hd rfl
theorem gives_loadA (hσ:σ.Ok κ) {t e:TypeId} {x:Operand} {v:X} {q off:Nat} {τ:Ty} {l:List τ.V} (ho:o.op = .load t x) (hx:σ.ev x=some v) (ha:arrR σ v=some (q,off,e,⟨τ,l⟩)) (h:loadA c t off τ l k=some r):Gives c σ fr o k r:=by
 obtain ⟨rfl,hq⟩:=arrR_some ha;unfold loadA at h;split at h
 ·rename_i h1 hrw hs
  obtain ⟨y,hy,h⟩:=gn_some h;refine ⟨_,_,h,rfl,fun hon=>?_⟩;have hd:=evV_D hσ hon hx;rw [e_D h1];refine ld1 (P:=c.P) (fr:=fr) hrw ho hd (den_H hq) ?_;show ((List.flatMap (encs τ) l).map D.t)[off]?=_;rw [flatD_one h1,List.getElem?_map,hy];rfl
 ·rename_i m h1 hrw hs
  obtain ⟨hb,h⟩:=ck_some h;have hb:=of_decide_eq_true hb;refine ⟨_,_,h,rfl,fun hon=>?_⟩;have hd:=evV_D hσ hon hx;obtain ⟨dsc,g1,g2⟩:=rowT_get hrw;unfold X.D;refine ok_loadn (P:=c.P) (fr:=fr) ho g1 g2 hs hd (den_H hq) ?_ ?_
  ·show (((List.flatMap (encs τ) l).map D.t).drop off).take _=_
   rw [flatD_one h1,flatD_one h1,List.map_take,List.map_drop]
  ·rw [flatD_one h1,List.length_map,List.length_take,List.length_drop]
   omega
 ·cases h
theorem gives_storeA (hσ:σ.Ok κ) {t e:TypeId} {x y:Operand} {v w:X} {q off:Nat} {τ:Ty} {l:List τ.V} (ho:o.op = .store t x y) (hx:σ.ev x=some v) (hy:σ.ev y=some w) (ha:arrR σ v=some (q,off,e,⟨τ,l⟩)) (h:storeA c t q off e τ l w k=some r):Gives c σ fr o k r:=by
 obtain ⟨rfl,hq⟩:=arrR_some ha;unfold storeA at h;split at h
 ·rename_i τ' y' h1 hs
  split at h
  case h_2=>cases h
  rename_i hτ _;have hτ':=hτ;subst hτ';obtain ⟨z,hz,h⟩:=gn_some h;have hlt:=(List.getElem?_eq_some_iff.1 hz).1;refine ⟨_,_,h,rfl,fun hon=>?_⟩;have hd:=evV_D hσ hon hx;have hdy:=evV_D hσ hon hy;rw [e_D h1] at hdy;refine ok_store (P:=c.P) (fr:=fr) (ob':=(XO.arr e τ' (l.set off y')).A) ho (by rw [show (D.t (enc1 τ' y')).cells.length=1 from rfl];exact hs) hd (.ev hdy) rfl (den_H hq) ?_ (Nat.succ_pos _);show (if off+1<=((List.flatMap (encs τ') l).map D.t).length then some (AObj.box e (splice _ off [D.t (enc1 τ' y')])) else none)=_;rw [if_pos (by rw [flatD_one h1,List.length_map];omega)];show _=some (AObj.box e _);rw [flatD_one h1,flatD_one h1,splice_one (by rw [List.length_map];exact hlt),List.map_set]
 ·rename_i m τ' l' h1 hs
  split at h
  case h_2=>cases h
  rename_i hτ _;have hτ':=hτ;subst hτ';have main:∀ (h9:0 < m/\List.length l'=m/\off+m<=l.length),σ.On->OpOk c.P o σ.den fr (.tup []) [(q,some (XO.arr e τ' (l.take off++l'++l.drop (off+m))).A)]:=fun hb hon=>by
   have hd:=evV_D hσ hon hx;have hdy:=evV_D hσ hon hy;unfold X.D at hdy;have hlen:(List.map D.t (List.flatMap (encs τ') l')).length=m:=by rw [flatD_one h1,List.length_map];exact hb.2.1
   refine ok_store (P:=c.P) (fr:=fr) (ob':=(XO.arr e τ' (l.take off++l'++l.drop (off+m))).A) ho (by rw [show (D.agg (List.map D.t (List.flatMap (encs τ') l'))).cells.length=m from hlen];exact hs) hd (.ev hdy) rfl (den_H hq) ?_ (by rw [show (D.agg (List.map D.t (List.flatMap (encs τ') l'))).cells.length=m from hlen];exact hb.1);show (if off+(List.map D.t (List.flatMap (encs τ') l')).length<=((List.flatMap (encs τ') l).map D.t).length then some (AObj.box e (splice _ off (List.map D.t (List.flatMap (encs τ') l')))) else none)=_;rw [if_pos (by rw [hlen,flatD_one h1,List.length_map];omega)];show _=some (AObj.box e _);unfold splice;rw [hlen,flatD_one h1,flatD_one h1,flatD_one h1,List.map_append,List.map_append,List.map_take,List.map_drop]
  split at h
  ·rename_i h0 _
   have h0:=Nat.eq_of_beq_eq_true h0;subst h0;split at h
   ·obtain ⟨hb,h⟩:=ck_some h
    have hb:=of_decide_eq_true hb;refine ⟨_,_,h,rfl,fun hon=>?_⟩;have:=main ⟨hb.1,hb.2.1,by omega⟩ hon;rw [List.take_zero,List.nil_append,List.drop_eq_nil_of_le (by omega),List.append_nil] at this;exact this
   ·cases h
  ·obtain ⟨hb,h⟩:=ck_some h
   exact ⟨_,_,h,rfl,fun hon=>main (of_decide_eq_true hb) hon⟩
 ·cases h
theorem gives_idxA (hσ:σ.Ok κ) {t e:TypeId} {x y:Operand} {v w:X} {q off:Nat} {τ:Ty} {l:List τ.V} (ho:o.op = .indexAddr t x y) (hx:σ.ev x=some v) (hy:σ.ev y=some w) (ha:arrR σ v=some (q,off,e,⟨τ,l⟩)) (h:idxA c (σ.g.map (·.2)) t q off w k=some r):Gives c σ fr o k r:=by
 obtain ⟨rfl,hq⟩:=arrR_some ha;unfold idxA at h;obtain ⟨ik,n,hn,h⟩:=asInt_some h;split at h
 ·rename_i m s hs
  obtain ⟨h,hb⟩:=ckg_some h;refine ⟨_,_,h,rfl,fun hon=>?_⟩;have hb:=of_decide_eq_true (hb hon.g);have hd:=evV_D hσ hon hx;have hdy:=evV_D hσ hon hy;rw [hn] at hdy;exact ok_indexa (P:=c.P) (fr:=fr) ho hs hd hdy hb.1 hb.2
 ·cases h
theorem ok_indexw {P:Program} {s:St} {t e:TypeId} {x y:Operand} {m sz:Nat} {ds:List D} {ik:IntKind} {n:Int} (hu:P.underlying t=some (.array m e)) (he:rowT P e=some true) (hs:sizeT P e=some sz) (ho:o.op = .index t x y) (hx:s.ev x=some (.agg ds)) (hy:s.ev y=some (.t (.v (.int ik n)))) (hl:ds.length=m * sz) (h0:0<=n) (hn:n < m):
    OpOk P o s fr (.agg ((ds.drop (n.toNat * sz)).take sz)) []:=
 ok_pure fun _ _ _ _ w a _ _ hev=>by
  have h1:=hev x _ hx;have h2:=bool_of (hev y _ hy);obtain ⟨v,hv⟩:∃ v,a.eval x=v:=⟨_,rfl⟩
  rw [hv] at h1;cases h1 with
  | @agg vs _ hsz hr h1c=>
    obtain ⟨dsc,g1,g2⟩:=rowT_get he;obtain ⟨inf,hinf,hsz1⟩:=Option.map_eq_some_iff.1 hs;have hagg:(isAgg e).run P w = .ok true w:=by
     unfold isAgg;rw [Sem.run_bind,run_underlying g1 w];cases dsc <;> simp_all [TypeDesc.isRow]
    have hle:n.toNat * sz+sz<=ds.length:=by
     rw [hl,← Nat.succ_mul];exact Nat.mul_le_mul_right _ (by omega)
    refine ⟨.agg (vs.extract (n.toNat * sz) (n.toNat * sz+sz)),?_,.agg (by simp;omega) (fun i u d hu hd=>?_) (fun u hu=>?_)⟩
    ·unfold execOp
     rw [ho];simp [hv,h2,Instr.index,asIntOf,run_underlying hu,h0,hn,sizeOf,typeInfo,hinf,hsz1,part,hagg]
    ·rw [List.getElem?_take] at hd
     split at hd
     ·rename_i hi
      rw [List.getElem?_drop] at hd;rw [Array.getElem?_extract,if_pos (by omega)] at hu;exact hr _ _ _ hu hd
     ·cases hd
    ·obtain ⟨i,hi⟩:=List.mem_iff_getElem?.1 hu
     rw [Array.getElem?_toList,Array.getElem?_extract] at hi;split at hi
     ·exact h1c u (List.mem_iff_getElem?.2 ⟨_,by rw [Array.getElem?_toList];exact hi⟩)
     ·cases hi
theorem gives_indexA (hσ:σ.Ok κ) {t:TypeId} {x y:Operand} {w:X} {τ:Ty} {l:List τ.V} (ho:o.op = .index t x y) (hx:σ.ev x=some (.ag τ l)) (hy:σ.ev y=some w) (h:indexA c (σ.g.map (·.2)) t τ l w k=some r):Gives c σ fr o k r:=by
 unfold indexA at h;obtain ⟨ik,n,hn,h⟩:=asInt_some h;split at h
 case h_2=>cases h
 rename_i m0 e m s h1 hu hs;obtain ⟨hl',h9⟩:=ck_some h;have hl:=of_decide_eq_true hl';clear hl' h;have hms:m0=m/\sizeT c.P e=some s:=by
  unfold arrSz at hs;rw [hu] at hs;obtain ⟨i,hi,e1⟩:=Option.map_eq_some_iff.1 hs;cases e1;exact ⟨rfl,by unfold sizeT;rw [hi];rfl⟩
 obtain ⟨rfl,hsz⟩:=hms;split at h9
 ·rename_i he
  obtain ⟨y',h,hg⟩:=gxg_some h9;refine ⟨_,_,h,rfl,fun hon=>?_⟩;obtain ⟨g1,g2⟩:=hg hon.g;have hd:=evV_D hσ hon hx;have hdy:=evV_D hσ hon hy;rw [hn] at hdy;unfold X.D at hd;rw [flatD_one h1] at hd;rw [e_D h1];exact ok_indexv (P:=c.P) (fr:=fr) hu he hsz ho hd hdy (by rw [List.length_map];omega) g1 (by rw [List.getElem?_map,g2];rfl)
 ·rename_i he
  obtain ⟨h,hb⟩:=ckg_some h9;refine ⟨_,_,h,rfl,fun hon=>?_⟩;have hb:=of_decide_eq_true (hb hon.g);have hd:=evV_D hσ hon hx;have hdy:=evV_D hσ hon hy;rw [hn] at hdy;unfold X.D at hd;rw [flatD_one h1] at hd;have:=ok_indexw (P:=c.P) (fr:=fr) hu he hsz ho hd hdy (by rw [List.length_map];omega) hb.1 hb.2;rw [← List.map_drop,← List.map_take,← flatD_one h1] at this;unfold X.D;exact this
 ·cases h9
end
end Go.Ax
/- Every operation. -/
namespace Go.Ax
open Alg
open Go.RowKit Go.Ab
theorem plK_some {x:X} {k:X->Wx->O} {r:Res} (h:plK x k=some r):x.pl=true/\k x []=some r:=by
 unfold plK at h;split at h
 ·rename_i hp;exact ⟨hp,h⟩
 ·cases h
theorem arr1 {α:Type} {a:Array α} {x:α} (h:a.toList=[x]):a = #[x]:=Array.ext' h
theorem arr2 {α:Type} {a:Array α} {x y:α} (h:a.toList=[x,y]):a = #[x,y]:=Array.ext' h
theorem arr3 {α:Type} {a:Array α} {x y z:α} (h:a.toList=[x,y,z]):a = #[x,y,z]:=Array.ext' h
theorem arr0 {α:Type} {a:Array α} (h:a.toList=[]):a = #[]:=Array.ext' h
section
variable {c:Cx} {σ:Vw} {κ:Nat->Bool} {fr:Nat} {o:Oper} {k:X->Wx->O} {r:Res}
theorem gives_nil (hσ:σ.Ok κ) {x:Operand} (ho:o.op = .nilCheck x) (h:(ob (σ.ev x) fun v=>match v with
    | .ref ..=>k v []
    | .rr ..=>k v []
    | .pt ..=>k v []
    | .fn ..=>k v []
    | _=>none)=some r):Gives c σ fr o k r:=by
  obtain ⟨v,hv,h⟩:=ob_some h;have hp:=ev_pl hv;cases v with
  | ref q off=>exact ⟨_,_,h,rfl,fun hon=>ok_nilCheck ho (evV_D hσ hon hv) (.inl ⟨_,_,rfl⟩)⟩
  | rr q i j s=>exact ⟨_,_,h,rfl,fun hon=>ok_nilCheck ho (evV_D hσ hon hv) (.inl ⟨_,_,rfl⟩)⟩
  | pt τ y j=>exact ⟨_,_,h,rfl,fun hon=>ok_nilCheck ho (evV_D hσ hon hv) (.inr (.inl ⟨_,_,rfl⟩))⟩
  | fn f xs=>exact ⟨_,_,h,rfl,fun hon=>ok_nilCheck ho (evV_D hσ hon hv) (.inr (.inr ⟨_,_,rfl⟩))⟩
  | _=>cases h
theorem gives_func (hσ:σ.Ok κ) {f:FuncId} {first caps:Array Operand} (ho:o.op = .makeFunc (.func f) first caps) (hf:first.toList=[]) (h:σ.evs caps.toList (fun xs=>k (.fn f xs) [])=some r):Gives c σ fr o k r:=by
 obtain ⟨xs,h,hl,hev⟩:=evs_some h;rw [arr0 hf] at ho;refine ⟨_,_,h,rfl,fun hon=>?_⟩;unfold X.D;rw [Ds_map];refine ok_makeFunc ho (by rw [List.length_map,hl,Array.length_toList]) (fun i x d hx hd=>?_);rw [List.getElem?_map] at hd;obtain ⟨y,hy,rfl⟩:=Option.map_eq_some_iff.1 hd;obtain ⟨p,hp,hpv⟩:=hev i y hy;rw [Array.getElem?_toList,hx] at hp;cases hp;exact evV_D hσ hon hpv
theorem gives_conv' (hσ:σ.Ok κ) {s d:TypeId} {x:Operand} (ho:o.op = .convert s d x) (h:(ob (σ.ev x) fun v=>match c.P.underlying s,c.P.underlying d,v with
    | some (.slice e),some .string,v=>match c.P.underlying e with
      | some (.int .u8)=>ob (σ.src .u8 v) fun l=>k (.e .tx l) []
      | _=>none
    | some .string,some (.slice e),.e .tx l=>match c.P.underlying e with
      | some (.int .u8)=>k (.e (.sl .u8) l) []
      | _=>none
    | _,_,v=>convX c.P s d v fun r=>k r [])=some r):Gives c σ fr o k r:=by
  obtain ⟨v,hv,h⟩:=ob_some h;split at h
  ·rename_i hs hd
   split at h
   ·rename_i he
    obtain ⟨l,hl,h⟩:=ob_some h;exact gives_bytes hσ hs he hd ho hv hl h
   ·cases h
  ·rename_i hs hd
   split at h
   ·rename_i he
    exact gives_tobytes hσ hs hd he ho hv h
   ·cases h
  ·exact gives_conv hσ ho hv h
theorem gives_extract (hσ:σ.Ok κ) {x:Operand} {n:Nat} (ho:o.op = .extract x n) (h:(ob (σ.ev x) fun v=>match v with
    | .tup xs=>ob xs[n]? fun r=>plK r k
    | _=>none)=some r):Gives c σ fr o k r:=by
  obtain ⟨v,hv,h⟩:=ob_some h;split at h
  ·rename_i xs
   obtain ⟨y,hy,h⟩:=ob_some h;obtain ⟨hp,h⟩:=plK_some h;refine ⟨_,_,h,hp,fun hon=>?_⟩;have hD:=evV_D hσ hon hv;unfold X.D at hD;rw [Ds_map] at hD;exact ok_extract ho hD (by rw [List.getElem?_map,hy];rfl)
  ·cases h
theorem gives_litN (hσ:σ.Ok κ) {t e e':TypeId} {n b q:Nat} {τ τ':Ty} {l:List τ'.V} {ps:Array (Nat×Operand)} (ho:o.op = .buildSlice t n ps) (hE:appE c t=some (e,τ,b)) (hp:nestP σ n ps.toList=some (q,e',⟨τ',l⟩)) (hτ:τ = .sl τ')
    (h:k (.own fr) [(fr,some (.nest e e' τ' [l])),(q,none)]=some r):Gives c σ fr o k r:=by
 subst hτ;obtain ⟨z,hA,hz⟩:=appE_ok hE;unfold nestP at hp;split at hp
 case h_2=>cases hp
 rename_i x hps;split at hp
 case h_2=>cases hp
 rename_i hn;have hn:=Nat.eq_of_beq_eq_true hn;subst hn;split at hp
 case h_2=>cases hp
 rename_i q' hx;split at hp
 case h_2=>cases hp
 rename_i e1 τ1 l1 hq;cases hp;rw [arr1 hps] at ho;refine ⟨_,_,h,rfl,fun hon=>?_⟩;have h1:∀ u ∈ z.cells.toList,u.oneCell'=true:=by
  clear ho hps h hA;generalize z.cells.toList=l at hz;generalize encs (.sl τ') (Ty.zero (.sl τ'))=m at hz
  induction hz with
  | nil=>intro u hu;cases hu
  | v h r ih=>
    intro u hu;rcases List.mem_cons.1 hu with rfl | hu
    ·exact h
    ·exact ih u hu
  | sl r ih=>
    intro u hu;rcases List.mem_cons.1 hu with rfl | hu
    ·rfl
    ·exact ih u hu
 have hs1:z.cells.toList.length=1:=by rw [Array.length_toList];exact hA.z
 obtain ⟨zv,hzv⟩:∃ zv,z.cells.toList=[zv]:=by
  match z.cells.toList,hs1 with
  | [zv],_=>exact ⟨zv,rfl⟩
 have hL:=LitT.of hA h1 1 (by show 1 * 1<=2 ^ 24;decide);rw [hzv] at hL;exact ok_litN (P:=c.P) (fr:=fr) hL ho (evV_D hσ hon hx) (den_H hq)
theorem gives_litU (hσ:σ.Ok κ) {t e e':TypeId} {n b q:Nat} {τ τ':Ty} {l:List τ'.V} {ps:Array (Nat×Operand)} (ho:o.op = .buildSlice t n ps) (hE:appE c t=some (e,τ,b)) (hp:nestP σ n ps.toList=some (q,e',⟨τ',l⟩)) (hτ:τ = .sl τ')
    (h:k (.own fr) [(fr,some (.nst e e' τ' .un [(l,())] none)),(q,none)]=some r):Gives c σ fr o k r:=by
 subst hτ;obtain ⟨z,hA,hz⟩:=appE_ok hE;unfold nestP at hp;split at hp
 case h_2=>cases hp
 rename_i x hps;split at hp
 case h_2=>cases hp
 rename_i hn;have hn:=Nat.eq_of_beq_eq_true hn;subst hn;split at hp
 case h_2=>cases hp
 rename_i q' hx;split at hp
 case h_2=>cases hp
 rename_i e1 τ1 l1 hq;cases hp;rw [arr1 hps] at ho;refine ⟨_,_,h,rfl,fun hon=>?_⟩;have h1:∀ u ∈ z.cells.toList,u.oneCell'=true:=by
  clear ho hps h hA;generalize z.cells.toList=l at hz;generalize encs (.sl τ') (Ty.zero (.sl τ'))=m at hz
  induction hz with
  | nil=>intro u hu;cases hu
  | v h r ih=>
    intro u hu;rcases List.mem_cons.1 hu with rfl | hu
    ·exact h
    ·exact ih u hu
  | sl r ih=>
    intro u hu;rcases List.mem_cons.1 hu with rfl | hu
    ·rfl
    ·exact ih u hu
 have hs1:z.cells.toList.length=1:=by rw [Array.length_toList];exact hA.z
 obtain ⟨zv,hzv⟩:∃ zv,z.cells.toList=[zv]:=by
  match z.cells.toList,hs1 with
  | [zv],_=>exact ⟨zv,rfl⟩
 have hL:=LitT.of hA h1 1 (by show 1 * 1<=2 ^ 24;decide);rw [hzv] at hL;have hp1:PartsW σ.den (#[(0,x)]:Array (Nat×Operand)).toList [(0,X.D (.own q))]:=.cons (evV_D hσ hon hx) DWk.refl .nil;have:=ok_litT (P:=c.P) (fr:=fr) (i0:=0) (out:=[X.D (.own q)]) hL ho hp1 rfl rfl (fun i d hi hd=>by
  obtain ⟨i',rfl⟩:∃ i',i=i'+1:=⟨i - 1,by omega⟩
  simp at hd) (den_H hq)
 exact this
theorem nsTy_size {τ κ ρ:Ty} (h:nsTy τ=some (κ,ρ)):τ.size=1+ρ.size:=by
 unfold nsTy at h;split at h
 ·cases h;rfl
 ·cases h;rfl
 ·cases h
theorem ZTs_one {l:List Value} {m:List Tree} (hz:ZTs l m):∀ u ∈ l,u.oneCell'=true:=by
 induction hz with
 | nil=>intro u hu;cases hu
 | v h r ih=>
   intro u hu;rcases List.mem_cons.1 hu with rfl | hu
   ·exact h
   ·exact ih u hu
 | sl r ih=>
   intro u hu;rcases List.mem_cons.1 hu with rfl | hu
   ·rfl
   ·exact ih u hu
theorem gives_litNst (hσ:σ.Ok κ) {t e e':TypeId} {n b q:Nat} {τ κ':Ty} {l:List κ'.V} {ys:List X} {ps:Array (Nat×Operand)} (ho:o.op = .buildSlice t n ps) (hE:appE c t=some (e,τ,b)) (hp:nstP σ n ps.toList=some (q,e',⟨κ',l⟩,ys))
    (h:litNst σ fr e e' q κ' l ys k τ=some r):Gives c σ fr o k r:=by
 unfold litNst at h;split at h
 case h_2=>cases h
 rename_i κ1 ρ;split at h
 case h_2=>cases h
 rename_i hκ _;have hκ':=hκ.down;subst hκ';split at h
 case h_2=>cases h
 rename_i hle;have hle:=Nat.le_of_ble_eq_true hle;split at h
 case h_2=>cases h
 rename_i rr hj;obtain ⟨z,hA,hz⟩:=appE_ok hE;change AppT c.P t e z (1+ρ.size) b at hA;unfold nstP at hp;split at hp
 case h_2=>cases hp
 rename_i x hps;split at hp
 case h_2=>cases hp
 rename_i hn;have hn:=Nat.eq_of_beq_eq_true hn;subst hn;split at hp
 case h_2=>cases hp
 rename_i q' ys' hx;split at hp
 case h_2=>cases hp
 rename_i e1 τ1 l1 hq;cases hp;rw [arr1 hps] at ho;refine ⟨_,_,h,rfl,fun hon=>?_⟩;have h1:=ZTs_one hz;have hs1:z.cells.toList.length=1+ρ.size:=by rw [Array.length_toList];exact hA.z
 have hL:=LitT.of hA h1 1 (by omega);have hzs:(List.replicate 1 z.cells.toList).flatten=z.cells.toList:=by simp
 rw [hzs] at hL;have hev:=evV_D hσ hon hx;unfold X.D Ds at hev;have hw:DWs σ.den.H (Ds ys) ((encs ρ rr).map .t):=by
  rw [Ds_map];have h2:DWs σ.den.H (ys.map X.D) ((ys.map σ.give).map X.D):=by
   rw [List.map_map];exact DWs.of_map (f:=X.D) (g:=X.D ∘ σ.give) fun x _=>give_ok σ x
  exact h2.trans (joinAll_ok hj)
 have hpw:PartsW σ.den (#[(0,x)]:Array (Nat×Operand)).toList [(0,.agg (X.D (.own q)::(encs ρ rr).map .t))]:=.cons hev (DWk.agg (.cons DWk.refl hw)) .nil;have hol:(X.D (.own q)::(encs ρ rr).map D.t).length=1+ρ.size:=by rw [List.length_cons,List.length_map,encs_len,Nat.add_comm]
 have hf:fillD ((List.range 1).map fun i=>(i * (1+ρ.size),1+ρ.size)) (z.cells.toList.map fun u=>.t (.v u)) [(0,.agg (X.D (.own q)::(encs ρ rr).map .t))]=some (X.D (.own q)::(encs ρ rr).map .t):=by
  show fillD [(0 * (1+ρ.size),1+ρ.size)] _ _=_;unfold fillD;show (if (D.agg _).val&&((D.agg (X.D (.own q)::(encs ρ rr).map .t)).cells.length == 1+ρ.size)&&decide (0 * (1+ρ.size)+(D.agg (X.D (.own q)::(encs ρ rr).map .t)).cells.length<=(z.cells.toList.map fun u=>D.t (.v u)).length) then _ else _)=_;have hc:(D.agg (X.D (.own q)::(encs ρ rr).map .t)).cells=X.D (.own q)::(encs ρ rr).map .t:=rfl;rw [hc,hol,List.length_map,hs1,if_pos (by simp [D.val])];unfold fillD
  congr 1
  rw [Nat.zero_mul];show (z.cells.toList.map fun u=>D.t (.v u)).take 0++_++(z.cells.toList.map fun u=>D.t (.v u)).drop (0+_)=_;rw [List.take_zero,List.nil_append,List.drop_eq_nil_of_le (by rw [hol,List.length_map,hs1];omega),List.append_nil]
 have:=ok_litT (P:=c.P) (fr:=fr) (i0:=0) hL ho hpw hf rfl (fun i d hi hd=>by
  obtain ⟨i',rfl⟩:∃ i',i=i'+1:=⟨i - 1,by omega⟩
  rw [List.getElem?_cons_succ,List.getElem?_map] at hd;obtain ⟨t,_,rfl⟩:=Option.map_eq_some_iff.1 hd;exact ⟨t,rfl⟩) (den_H hq)
 have hcell:(((X.D (.own q)::(encs ρ rr).map .t).map NC.dat).set 0 (.inn (List.length l) (List.flatMap (encs κ') l)))=lentN (1+ρ.size) (List.flatMap cellsN [(l,rr)]) none:=by
  show NC.inn _ _::((encs ρ rr).map D.t).map NC.dat=(cellsN (l,rr)++[]);rw [List.append_nil,List.map_map];rfl
 rw [hcell] at this;exact this
theorem nstW_some {w:X} {q:Nat} {e1 e1':TypeId} {κ' ρ:Ty} {l:List (List κ'.V×ρ.V)} (h:nstW σ w=some (q,e1,e1',⟨κ',ρ,l⟩)):w = .own q/\σ.H q=some (.nst e1 e1' κ' ρ l none):=by
 unfold nstW at h;split at h
 ·split at h
  ·rename_i q' e e' κ'' ρ' l' hq
   cases h;exact ⟨rfl,hq⟩
  ·cases h
 ·cases h
theorem gives_appNst (hσ:σ.Ok κ) {t e e1 e1':TypeId} {x y:Operand} {v w:X} {bt q:Nat} {τ0 κ' ρ:Ty} {l':List (List κ'.V×ρ.V)} (ho:o.op = .call { callee:=.builtin .append,args:=#[x,y],argTypes:=#[t,t] }) (hE:appE c t=some (e,τ0,bt))
    (hx:σ.ev x=some v) (hy:σ.ev y=some w) (hw:nstW σ w=some (q,e1,e1',⟨κ',ρ,l'⟩)) (h:appNst σ e fr bt v q e1 e1' κ' ρ l' k τ0=some r):Gives c σ fr o k r:=by
 unfold appNst at h;split at h
 case h_2=>cases h
 rename_i κ1 ρ1 hns;have hsz:=nsTy_size hns;split at h
 case h_2=>cases h
 rename_i hκ _;have hκ':=hκ.down;subst hκ';split at h
 case h_2=>cases h
 rename_i hρ _;have hρ':=hρ.down;subst hρ';split at h
 case h_2=>cases h
 rename_i he;have he:=Nat.eq_of_beq_eq_true he;subst he;obtain ⟨z,hA,_⟩:=appE_ok hE;rw [hsz] at hA;obtain ⟨rfl,hq⟩:=nstW_some hw;split at h
 ·obtain ⟨hb,h⟩:=ck_some h
  refine ⟨_,_,h,rfl,fun hon=>?_⟩;unfold lim at hb;have hb:=of_decide_eq_true hb;have:=ok_appT (P:=c.P) (fr:=fr) (ls:=[]) hA ho (.nil (evV_D hσ hon hx)) (evV_D hσ hon hy) (den_H hq) (by simp) (fun i d h=>by simp at h) (cellsN_noLent l') ⟨by rw [Nat.zero_add];exact hb.1,by simp only [maxLen];omega⟩;rw [Nat.zero_add] at this;exact this
 ·split at h
  case h_2=>cases h
  rename_i q0 e0 e0' κ0 ρ0 l hv;obtain ⟨rfl,hq0⟩:=nstW_some hv;split at h
  case h_2=>cases h
  rename_i hκ0 _;split at h
  case h_2=>cases h
  rename_i hρ0 _;have h0:=hκ0;have h0':=hρ0;subst h0 h0';split at h
  case h_2=>cases h
  rename_i hc;simp only [Bool.and_eq_true,Bool.not_eq_true'] at hc;obtain ⟨⟨c1,c2⟩,c3⟩:=hc;have c1:=Nat.eq_of_beq_eq_true c1;have c2:=Nat.eq_of_beq_eq_true c2;have c3:=beq_ne c3;subst c1 c2;obtain ⟨hb,h⟩:=ck_some h;refine ⟨_,_,h,rfl,fun hon=>?_⟩;unfold lim at hb;have hb:=of_decide_eq_true hb;have:=ok_appT (P:=c.P) (fr:=fr) hA ho (.own (evV_D hσ hon hx) (den_H hq0)) (evV_D hσ hon hy) (den_H hq) (fun e=>c3 (Option.some.inj e)) (cellsN_noLent l) (cellsN_noLent l') ⟨hb.1,by simp only [maxLen];omega⟩;have e1:lentN (1+ρ0.size) (List.flatMap cellsN l) none++lentN (1+ρ0.size) (List.flatMap cellsN l') none=lentN (1+ρ0.size) (List.flatMap cellsN (l++l')) none:=by
   show List.flatMap cellsN l++List.flatMap cellsN l'=List.flatMap cellsN (l++l');rw [List.flatMap_append]
  rw [e1,← List.length_append] at this;exact this
theorem nestW_some {w:X} {q:Nat} {e1 e1':TypeId} {τ:Ty} {l:List (List τ.V)} (h:nestW σ w=some (q,e1,e1',⟨τ,l⟩)):w = .own q/\σ.H q=some (.nest e1 e1' τ l):=by
 unfold nestW at h;split at h
 ·split at h
  ·rename_i q' e e' τ' l' hq
   cases h;exact ⟨rfl,hq⟩
  ·cases h
 ·cases h
theorem gives_appN (hσ:σ.Ok κ) {t e e1 e1':TypeId} {x y:Operand} {v w:X} {bt q:Nat} {τ0 τ:Ty} {l':List (List τ.V)} (ho:o.op = .call { callee:=.builtin .append,args:=#[x,y],argTypes:=#[t,t] }) (hE:appE c t=some (e,τ0,bt)) (hτ:τ0 = .sl τ)
    (hx:σ.ev x=some v) (hy:σ.ev y=some w) (hw:nestW σ w=some (q,e1,e1',⟨τ,l'⟩)) (h:appN σ e fr bt v q e1 e1' τ l' k=some r):Gives c σ fr o k r:=by
 subst hτ;obtain ⟨z,hA,_⟩:=appE_ok hE;obtain ⟨rfl,hq⟩:=nestW_some hw;unfold appN at h;split at h
 case h_2=>cases h
 rename_i he;have he:=Nat.eq_of_beq_eq_true he;subst he;split at h
 ·obtain ⟨hb,h⟩:=ck_some h
  refine ⟨_,_,h,rfl,fun hon=>?_⟩;unfold lim at hb;have hb:=of_decide_eq_true hb;have:=ok_appN (P:=c.P) (fr:=fr) hA ho (.nil (evV_D hσ hon hx)) (evV_D hσ hon hy) (den_H hq) (by simp) (by rw [List.length_map,List.length_nil];exact ⟨by rw [Nat.zero_add];exact hb.1,by simp only [maxLen];omega⟩);exact this
 ·split at h
  case h_2=>cases h
  rename_i q0 e0 e0' τ0 l hv;obtain ⟨rfl,hq0⟩:=nestW_some hv;split at h
  case h_2=>cases h
  rename_i hτ _;have hτ':=hτ;subst hτ';split at h
  case h_2=>cases h
  rename_i hc;simp only [Bool.and_eq_true,Bool.not_eq_true'] at hc;obtain ⟨⟨c1,c2⟩,c3⟩:=hc;have c1:=Nat.eq_of_beq_eq_true c1;have c2:=Nat.eq_of_beq_eq_true c2;have c3:=beq_ne c3;subst c1 c2;obtain ⟨hb,h⟩:=ck_some h;refine ⟨_,_,h,rfl,fun hon=>?_⟩;unfold lim at hb;have hb:=of_decide_eq_true hb;have:=ok_appN (P:=c.P) (fr:=fr) hA ho (.own (evV_D hσ hon hx) (den_H hq0)) (evV_D hσ hon hy) (den_H hq) (fun e=>c3 (Option.some.inj e)) (by rw [List.length_map,List.length_map];exact ⟨hb.1,by simp only [maxLen];omega⟩);unfold WA;simp only [List.map_cons,List.map_nil,Option.map_some,Option.map_none,XO.A];rw [← List.map_append] at this;exact this
theorem key_enc {d:TypeDesc} {τ:Ty} (h:keyT d τ=true) (x:τ.V):enc1 τ x = .v (kv τ x)/\MapKept.IsKey d (kv τ x)/\τ.one=true:=by
 unfold keyT at h;split at h
 ·exact ⟨rfl,(of_decide_eq_true h).symm,rfl⟩
 ·exact ⟨rfl,rfl,rfl⟩
 ·exact ⟨rfl,trivial,rfl⟩
 ·exact ⟨rfl,trivial,rfl⟩
 ·cases h
theorem decI_eq {a b:Int} (h:decI a b=true):a=b:=of_decide_eq_true h
theorem decI_of {a b:Int} (h:a=b):decI a b=true:=decide_eq_true h
theorem decB_eq {a b:Bool} (h:decB a b=true):a=b:=of_decide_eq_true h
theorem decB_of {a b:Bool} (h:a=b):decB a b=true:=decide_eq_true h
theorem key_eq {d:TypeDesc} {τ:Ty} (h:keyT d τ=true) (x y:τ.V):keq τ x y=true ↔ kv τ x=kv τ y:=by
 unfold keyT at h;split at h
 ·show decI x y=true ↔ _
  exact ⟨fun e=>congrArg (Value.int _) (decI_eq e),fun e=>decI_of (Value.int.inj e).2⟩
 ·show decU x y=true ↔ _
  unfold decU;simp only [decide_eq_true_eq,kv,Value.int.injEq,true_and];constructor
  ·intro e;rw [e]
  ·intro e;exact UInt8.toNat_inj.1 (by omega)
 ·show decT x y=true ↔ _
  unfold decT;simp only [decide_eq_true_eq,kv,Value.string.injEq];constructor
  ·intro e;rw [e]
  ·intro e
   have:=congrArg (fun b:ByteArray=>b.data.toList) e;exact this
 ·show decB x y=true ↔ _
  exact ⟨fun e=>congrArg Value.bool (decB_eq e),fun e=>decB_of (Value.bool.inj e)⟩
 ·cases h
theorem kval_some {τ:Ty} {x:X} {kf:τ.V->O} (h:kval τ x kf=some r):∃ y,kf y=some r/\(τ.one=true->x.D = .t (enc1 τ y)):=by
 unfold kval at h;split at h
 ·rename_i τ' y
  split at h
  ·rename_i he _
   have he':=he;subst he';exact ⟨y,h,fun h1=>e_D h1 y⟩
  ·cases h
 ·cases h
theorem lookX_some {τ:Ty} {x:τ.V} {kf:X->O} {k0:O}:∀ {l:List (τ.V×X)},lookX τ x kf k0 l=some r->
    (∃ j y v,l[j]?=some (y,v)/\keq τ y x=true/\(∀ (m:Nat) (p:τ.V×X),m < j->l[m]?=some p->keq τ p.1 x=false)/\kf v=some r)\/((∀ p ∈ l,keq τ p.1 x=false)/\k0=some r)
 | [],h=>.inr ⟨fun p hp=>(by cases hp),h⟩
 | (y,v)::l,h=>by
   rcases br_some h with ⟨hb,h⟩ | ⟨hb,h⟩
   ·exact .inl ⟨0,y,v,rfl,hb,fun m p hm=>by omega,h⟩
   ·rcases lookX_some h with ⟨j,y',v',h1,h2,h3,h4⟩ | ⟨h1,h2⟩
    ·refine .inl ⟨j+1,y',v',by simpa using h1,h2,fun m p hm hp=>?_,h4⟩
     cases m with
     | zero=>simp at hp;subst hp;exact hb
     | succ m=>exact h3 m p (by omega) (by simpa using hp)
    ·refine .inr ⟨fun p hp=>?_,h2⟩
     rcases List.mem_cons.1 hp with rfl | hp
     ·exact hb
     ·exact h1 p hp
theorem okX_D {cm b:Bool} {x:X}:(okX cm x b).D=okD cm x.D b:=by
 cases cm with
 | false=>rfl
 | true=>
   show (X.tup [x,.e .bo b]).D=_;simp only [X.D,Ds];rfl
theorem gives_mkmap {t:TypeId} (ho:o.op = .makeMap t none) {τ:Ty} (h:k (.own fr) [(fr,some (.mp τ []))]=some r):Gives c σ fr o k r:=
 ⟨_,_,h,rfl,fun _=>ok_mkmap ho⟩
theorem gives_insert (hσ:σ.Ok κ) {t kt et:TypeId} {m x y:Operand} {a b v:X} (ho:o.op = .insert t m x y) (hu:c.P.underlying t=some (.map kt et)) (hm:σ.ev m=some a) (hx:σ.ev x=some b) (hy:σ.ev y=some v) (h:mputX c σ kt a b v k=some r):Gives c σ fr o k r:=by
 unfold mputX at h;split at h
 case h_2=>cases h
 rename_i d q hd;split at h
 case h_2=>cases h
 rename_i τ l hq;split at h
 case h_2=>cases h
 rename_i hc;rw [Bool.and_eq_true] at hc;obtain ⟨hc,hv⟩:=hc;obtain ⟨z,h,hz⟩:=kval_some h;obtain ⟨hn,h⟩:=ck_some h;refine ⟨_,_,h,rfl,fun hon=>?_⟩;obtain ⟨k1,k2,k3⟩:=key_enc hc z;have hx':=evV_D hσ hon hx;rw [hz k3,k1] at hx';have hks:∀ p ∈ (l.map fun p=>(kv τ p.1,p.2.D)),MapKept.IsKey d p.1:=fun p hp=>by
  obtain ⟨p',_,rfl⟩:=List.mem_map.1 hp;exact (key_enc hc p'.1).2.1
 have:=ok_mput (P:=c.P) (fr:=fr) hu hd ho (evV_D hσ hon hm) (den_H hq) hx' k2 hks (fun p hp e=>by
  obtain ⟨p',hp',rfl⟩:=List.mem_map.1 hp;have h1:=List.all_eq_true.1 hn p' hp';rw [(key_eq hc p'.1 z).2 e] at h1;cases h1) (evV_D hσ hon hy)
 unfold X.D WA;simp only [List.map_cons,List.map_nil,Option.map_some,XO.A,List.map_append];exact this
theorem gives_lookup (hσ:σ.Ok κ) {t kt et:TypeId} {m x:Operand} {cm:Bool} {a b z:X} (ho:o.op = .lookup t m x cm) (hu:c.P.underlying t=some (.map kt et)) (hm:σ.ev m=some a) (hx:σ.ev x=some b) (hz:zeroX c.P et=some z) (h:mgetX c σ kt a b z cm (fun r=>plK r k)=some r):Gives c σ fr o k r:=by
 unfold mgetX at h;split at h
 case h_2=>cases h
 rename_i d q hd;split at h
 case h_2=>cases h
 rename_i τ l hq;split at h
 case h_2=>cases h
 rename_i hc;obtain ⟨y,h,hy⟩:=kval_some h;obtain ⟨k1,k2,k3⟩:=key_enc hc y;have hks:∀ p ∈ (l.map fun p=>(kv τ p.1,p.2.D)),MapKept.IsKey d p.1:=fun p hp=>by
  obtain ⟨p',_,rfl⟩:=List.mem_map.1 hp;exact (key_enc hc p'.1).2.1
 rcases lookX_some h with ⟨j,y',v,h1,h2,h3,h4⟩ | ⟨h1,h2⟩
 ·obtain ⟨hp,h⟩:=plK_some h4
  refine ⟨_,_,h,hp,fun hon=>?_⟩;have hx':=evV_D hσ hon hx;rw [hy k3,k1] at hx';rw [okX_D];refine ok_mget (P:=c.P) (fr:=fr) hu hd ho (evV_D hσ hon hm) (den_H hq) hx' k2 hks (j:=j) (by rw [List.getElem?_map,h1];show some (kv τ y',v.D)=_;rw [(key_eq hc y' y).1 h2]) (fun m p hm hp e=>?_);rw [List.getElem?_map] at hp;obtain ⟨p',hp',rfl⟩:=Option.map_eq_some_iff.1 hp;have:=h3 m p' hm hp';rw [(key_eq hc p'.1 y).2 e] at this;cases this
 ·obtain ⟨hp,h⟩:=plK_some h2
  refine ⟨_,_,h,hp,fun hon=>?_⟩;have hx':=evV_D hσ hon hx;rw [hy k3,k1] at hx';rw [okX_D];unfold zeroX at hz;split at hz
  case h_2=>cases hz
  rename_i w hw;have hD:z.D=ofVal w/\constOk w=true:=⟨(ofVX_cells hz).2.1,(ofVX_cells hz).1⟩;rw [hD.1];refine ok_mget0 (P:=c.P) (fr:=fr) hu hd ho (evV_D hσ hon hm) (den_H hq) hx' k2 hks (fun p hp e=>?_) hw hD.2;obtain ⟨p',hp',rfl⟩:=List.mem_map.1 hp;have:=h1 p' hp';rw [(key_eq hc p'.1 y).2 e] at this;cases this
theorem gives_slcA (hσ:σ.Ok κ) {t:TypeId} {x:Operand} {τ:Ty} {y:τ.V} {j:Nat} (ho:o.op = .slice t x none none none) (hx:σ.ev x=some (.pt τ y j)) (h:slcA c t (.pt τ y j) (fun r=>k r [])=some r):Gives c σ fr o k r:=by
 unfold slcA at h;split at h
 case h_2=>cases h
 rename_i n e hu;obtain rfl | ⟨j',rfl⟩:j=0\/∃ j',j=j'+1:=by cases j;exact .inl rfl;exact .inr ⟨_,rfl⟩
 case inr=>cases h
 simp only at h;split at h
 case h_2=>cases h
 rename_i τ' _;split at h
 case h_2=>cases h
 rename_i m hm;split at h
 case h_2=>cases h
 split at h
 case h_2=>cases h
 rename_i l hl;split at h
 case h_2=>cases h
 rename_i hn;have hn:=Nat.eq_of_beq_eq_true hn;refine ⟨_,_,h,rfl,fun hon=>?_⟩;have:=ok_slcA (P:=c.P) (fr:=fr) hu hm ho (evV_D hσ hon hx);rw [splitP_ok _ _ _ _ hl,← hn] at this;exact this
theorem loV_eq (a:Option Int):loV a=loN a:=by cases a <;> rfl
theorem hiV_eq (n:Nat) (b:Option Int):hiV n b=hiN n b:=by cases b <;> rfl
theorem gives_slcO (hσ:σ.Ok κ) {t e0:TypeId} {x:Operand} {lo hi:Option Operand} {q:Nat} {τ:Ty} {l:List τ.V} (ho:o.op = .slice t x lo hi none) (hx:σ.ev x=some (.own q)) (hq:σ.H q=some (.row e0 τ l false)) (h:σ.optI lo (fun lo=>σ.optI hi fun hi=>slcO c σ t q τ l lo hi k)=some r):Gives c σ fr o k r:=by
 obtain ⟨a,h,ha⟩:=optI_ok hσ h;obtain ⟨b,h,hb⟩:=optI_ok hσ h;unfold slcO at h;split at h
 case h_2=>cases h
 rename_i e hu;split at h
 case h_2=>cases h
 rename_i m hm;split at h
 case h_2=>cases h
 rename_i hs;rw [Bool.and_eq_true] at hs;have hs0:=Nat.le_of_ble_eq_true hs.2;have hs:=Nat.eq_of_beq_eq_true hs.1;subst hs;obtain ⟨h,hok⟩:=ckg_some h;refine ⟨_,_,h,rfl,fun hon=>?_⟩;have:=ok_slcO (P:=c.P) (fr:=fr) hs0 hu hm ho (evV_D hσ hon hx) (den_H hq) (ha hon) (hb hon) (hok hon.g);rw [← loV_eq,← hiV_eq] at this;exact this
theorem copySrc_ok (hσ:σ.Ok κ) {τ:Ty} {w:X} {y:Operand} {kf:List τ.V->O} (hy:σ.ev y=some w) (h:copySrc σ τ w kf=some r):∃ src,kf src=some r/\(σ.On->τ.size=1->CSrc σ.den y 1 src.length (src.flatMap (encs τ))):=by
 unfold copySrc at h;split at h
 ·rename_i q i n s
  split at h
  case h_2=>cases h
  rename_i e τ' l st hq;split at h
  case h_2=>cases h
  rename_i hτ _;have hτ':=hτ;subst hτ';split at h
  case h_2=>cases h
  rename_i hs;have hs:=Nat.eq_of_beq_eq_true hs;subst hs;obtain ⟨hb,h⟩:=ck_some h;have hb:=of_decide_eq_true hb;refine ⟨_,h,fun hon h1=>?_⟩;have hq':σ.den.H q=some (.row e 1 l.length (l.flatMap (encs τ')) st):=by
   have h0:σ.den.H q=some (.row e τ'.size l.length (l.flatMap (encs τ')) st):=den_H hq;rw [h1] at h0;exact h0
  have hv:=evV_D hσ hon hy;unfold X.D at hv;rw [h1] at hv;have hl:=encs_flat_len l;rw [h1] at hl;have:=CSrc.vw (sz:=1) hv hq' (by rw [hl];omega);have e1:((List.flatMap (encs τ') l).drop (i * 1)).take (n * 1)=List.flatMap (encs τ') ((l.drop i).take n):=by
   have e2:=flat_drop (f:=encs τ') (s:=1) (fun x=>by rw [encs_len τ' x,h1]) l i;have e3:=flat_take (f:=encs τ') (s:=1) (fun x=>by rw [encs_len τ' x,h1]) (l.drop i) n;rw [e2,e3]
  rw [e1] at this;have e4:((l.drop i).take n).length=n:=by rw [List.length_take,List.length_drop];omega
  show CSrc σ.den y 1 ((l.drop i).take n).length (List.flatMap (encs τ') ((l.drop i).take n));rw [e4];exact this
 ·obtain ⟨l,hl,h⟩:=ob_some h
  refine ⟨l,h,fun hon h1=>.src (src_ok (evV_D hσ hon hy) hl) ?_⟩;have:=encs_flat_len l;rw [h1] at this;exact this
theorem gives_copyTo (_hσ:σ.Ok κ) {t t' e0:TypeId} {x y:Operand} {q i n:Nat} {τ:Ty} {l src:List τ.V} (ho:o.op = .call { callee:=.builtin .copy,args:=#[x,y],argTypes:=#[t,t'] }) (hx:σ.On->(σ.den.ev x=some (.own q)/\i=0/\n=l.length)\/σ.den.ev x=some (.vw q i n)) (hq:σ.H q=some (.row e0 τ l false))
    (hy:σ.On->τ.size=1->CSrc σ.den y 1 src.length (src.flatMap (encs τ))) (h:copyTo c t q i n e0 τ l src k=some r):Gives c σ fr o k r:=by
 unfold copyTo at h;split at h
 case h_2=>cases h
 rename_i hm;obtain ⟨e,he,hs⟩:=Option.bind_eq_some_iff.1 hm;split at h
 case h_2=>cases h
 rename_i h1;have h1:=Nat.eq_of_beq_eq_true h1;obtain ⟨hb,h⟩:=ck_some h;have hb:=of_decide_eq_true hb;refine ⟨_,_,h,rfl,fun hon=>?_⟩;have hu:c.P.underlying t=some (.slice e):=by
  unfold elemT at he;split at he
  ·rename_i e' hu;cases he;exact hu
  ·cases he
 have hq':σ.den.H q=some (.row e0 1 l.length (l.flatMap (encs τ)) false):=by
  have h0:σ.den.H q=some (.row e0 τ.size l.length (l.flatMap (encs τ)) false):=den_H hq;rw [h1] at h0;exact h0
 have hl:=encs_flat_len l;rw [h1,Nat.mul_one] at hl;have hf:∀ x:τ.V,(encs τ x).length=1:=fun x=>by rw [encs_len τ x,h1]
 have:=ok_copy (P:=c.P) (fr:=fr) hu hs ho (hx hon) hq' (hy hon h1) (by rw [hl];exact hb);have e1:=flat_take (f:=encs τ) (s:=1) hf l i;have e2:=flat_take (f:=encs τ) (s:=1) hf src n;have e3:=flat_drop (f:=encs τ) (s:=1) hf l (i+min src.length n);rw [Nat.mul_one] at e1 e2 e3;rw [e1,e2,e3,← List.flatMap_append,← List.flatMap_append] at this;have e4:(l.take i++src.take n++l.drop (i+min src.length n)).length=l.length:=by
  simp only [List.length_append,List.length_take,List.length_drop];omega
 have hA:(XO.row e0 τ (l.take i++src.take n++l.drop (i+min src.length n)) false).A = .row e0 1 l.length (List.flatMap (encs τ) (l.take i++src.take n++l.drop (i+min src.length n))) false:=by
  show AObj.row e0 τ.size (l.take i++src.take n++l.drop (i+min src.length n)).length _ false=_;rw [e4,h1]
 show OpOk c.P o σ.den fr _ [(q,some (XO.row e0 τ (l.take i++src.take n++l.drop (i+min src.length n)) false).A)];rw [hA];exact this
theorem gives_copy (hσ:σ.Ok κ) {t t':TypeId} {x y:Operand} {v w:X} (ho:o.op = .call { callee:=.builtin .copy,args:=#[x,y],argTypes:=#[t,t'] }) (hx:σ.ev x=some v) (hy:σ.ev y=some w) (h:copyX c σ t v w k=some r):Gives c σ fr o k r:=by
 unfold copyX at h;split at h
 ·rename_i q
  split at h
  case h_2=>cases h
  rename_i e τ l hq;obtain ⟨src,h,hs⟩:=copySrc_ok hσ hy h;exact gives_copyTo hσ ho (fun hon=>.inl ⟨evV_D hσ hon hx,rfl,rfl⟩) hq hs h
 ·rename_i q i n s
  split at h
  case h_2=>cases h
  rename_i e τ l hq;split at h
  case h_2=>cases h
  rename_i hb;have hb:=Nat.eq_of_beq_eq_true hb;subst hb;obtain ⟨src,h,hs⟩:=copySrc_ok hσ hy h;refine gives_copyTo hσ ho (fun hon=>.inr ?_) hq hs h;have:=evV_D hσ hon hx;unfold X.D at this;rw [Nat.mul_one] at this;exact this
 ·cases h
theorem gives_appV (hσ:σ.Ok κ) {t e:TypeId} {x y:Operand} {v w:X} {bt:Nat} {τ:Ty} {p:Nat×Nat×Nat} (ho:o.op = .call { callee:=.builtin .append,args:=#[x,y],argTypes:=#[t,t] }) (hE:appE c t=some (e,τ,bt))
    (hx:σ.ev x=some v) (hp:preV v=some p) (hy:σ.ev y=some w) (h:appV σ e τ bt fr p w k=some r):Gives c σ fr o k r:=by
 unfold preV at hp;split at hp
 case h_2=>cases hp
 rename_i q i n s;split at hp
 case h_2=>cases hp
 rename_i hi;have hi:=Nat.eq_of_beq_eq_true hi;subst hi;cases hp;unfold appV at h;simp only at h;split at h
 case h_2=>cases h
 rename_i e' τ' l hq;split at h
 case h_2=>cases h
 rename_i hτ _;have hτ':=hτ;subst hτ';split at h
 case h_2=>cases h
 rename_i hc;simp only [Bool.and_eq_true] at hc;have he:=Nat.eq_of_beq_eq_true hc.1;have hs:=Nat.eq_of_beq_eq_true hc.2.1;have h1:=Nat.eq_of_beq_eq_true hc.2.2;subst he hs;obtain ⟨hn,h⟩:=ck_some h;have hn:=of_decide_eq_true hn;obtain ⟨src,h,hsrc⟩:=copySrc_ok hσ hy h;obtain ⟨hb,h⟩:=ck_some h;obtain ⟨z,hA,_⟩:=appE_ok hE;refine ⟨_,_,h,rfl,fun hon=>?_⟩;unfold lim at hb;have hb:=of_decide_eq_true hb;rw [h1] at hA;have hv:=evV_D hσ hon hx;have hq':=den_H hq;have hq':σ.den.H q=some (.row e' 1 l.length (l.flatMap (encs τ')) false):=by
  have h0:σ.den.H q=some (.row e' τ'.size l.length (l.flatMap (encs τ')) false):=hq';rw [h1] at h0;exact h0
 have:=ok_appCut (P:=c.P) (fr:=fr) hA ho hv hq' hn (hsrc hon h1) ⟨hb.1,by simp only [maxLen];omega⟩;have e3:=flat_take (f:=encs τ') (s:=1) (fun x=>by rw [encs_len τ' x,h1]) l n;rw [e3,← List.flatMap_append] at this;have e4:((l.take n)++src).length=n+src.length:=by rw [List.length_append,List.length_take,Nat.min_eq_left hn]
 rw [← e4,← h1] at this;exact this
theorem run_app2 {P:Program} {t t' ty:TypeId} {vs:Array Value} {w:World} (h:bothSl P t t'=true):(Builtin.append_ #[t,t'] ty vs).run P w=(Builtin.append_ #[t,t] ty vs).run P w:=by
 unfold bothSl at h;split at h
 ·rename_i e e' h1 h2
  unfold Builtin.append_;cases vs[0]? with
  | none=>rfl
  | some s=>cases vs[1]? with
    | none=>rfl
    | some x=>cases s <;> simp [Sem.run_bind,run_underlying h1,run_underlying h2]
 ·cases h
theorem ok_same {P:Program} {o o':Oper} {s:St} {fr:Nat} {d:D} {W:Wr} (hd:o'.dst=o.dst) (hr:∀ ρ w,(execOp ρ o).run P w=(execOp ρ o').run P w) (h:OpOk P o' s fr d W):OpOk P o s fr d W:=by
 intro E s₁ a w h1 h2 h3 h4 h5 h6 Q;have:=h E s₁ a w h1 h2 h3 h4 (fun t ht=>h5 t (hd ▸ ht)) h6 Q;rw [hd] at this;unfold Oper.wp at this ⊢;rw [hr];unfold Oper.upon at this ⊢;rw [hd] at this;exact this
theorem gives_appS (hσ:σ.Ok κ) {st:Bool} {t:TypeId} {x y:Operand} (ho:o.op = .call { callee:=.builtin .append,args:=#[x,y],argTypes:=#[t,t] }) (h:appS c σ fr st t x y k=some r):Gives c σ fr o k r:=by
 unfold appS at h;obtain ⟨⟨e,τ,bt⟩,hE,h⟩:=ob_some h;simp only at h;obtain ⟨v,hv,h1⟩:=ob_some h;clear h;obtain ⟨w,hw,h2⟩:=ob_some h1;clear h1;split at h2
 ·rename_i p hp
  exact gives_appV hσ ho hE hv hp hw h2
 rename_i hnp;clear hnp;split at h2
 ·rename_i q e1 e1' τ1 l' hnw
  split at h2
  ·rename_i hτ _
   split at h2
   ·exact gives_appN hσ ho hE hτ.down hv hw hnw h2
   ·cases h2
  ·cases h2
 split at h2
 ·rename_i q e1 e1' κ' ρ l' hnw
  exact gives_appNst hσ ho hE hv hw hnw h2
 obtain ⟨l',hl',h⟩:=ob_some h2;clear h2;refine gives_append hσ ho hE hv hw hl' (st:=st) ?_;split at h
 ·rename_i q
  split at h
  ·rename_i e' τ' l st' hq
   generalize teq τ' τ=p at h;cases p with
   | none=>cases h
   | some g=>
     obtain ⟨g⟩:=g;subst g;simp only at h;split at h
     ·rename_i hb
      have hb:=Nat.eq_of_beq_eq_true hb;subst hb;exact .inl ⟨q,st',l,rfl,hq,h⟩
     ·cases h
  ·cases h
 ·exact .inr ⟨rfl,h⟩
 ·cases h
theorem gives_built (hσ:σ.Ok κ) {st:Bool} {b:Builtin} {args:Array Operand} {tys:Array TypeId} (ho:o.op = .call { callee:=.builtin b,args:=args,argTypes:=tys }) (h:stepX c σ fr st { o with op:=.call { callee:=.builtin b,args:=args,argTypes:=tys } } k=some r):Gives c σ fr o k r:=by
 unfold stepX at h;simp only at h;split at h
 ·rename_i x t ha ht
  cases arr1 ha;cases arr1 ht;obtain ⟨v,hv,h⟩:=ob_some h;exact gives_len hσ ho hv h
 ·rename_i x y t t' ha ht
  cases arr2 ha;cases arr2 ht;split at h
  ·exact gives_appZ hσ ho h
  rename_i he;rcases Bool.or_eq_true_iff.1 he with he | he
  ·have he:=Nat.eq_of_beq_eq_true he
   subst he;exact gives_appS (st:=st) hσ ho h
  ·obtain ⟨x1,W1,g1,g2,g3⟩:=gives_appS (st:=st) (o:={ o with op:=.call { callee:=.builtin .append,args:=#[x,y],argTypes:=#[t,t] } }) hσ rfl h
   refine ⟨x1,W1,g1,g2,fun hon=>ok_same (o':={ o with op:=.call { callee:=.builtin .append,args:=#[x,y],argTypes:=#[t,t] } }) rfl (fun ρ w=>?_) (g3 hon)⟩;unfold execOp;rw [ho];simp [resolve,invoke,builtin,run_app2 he]
 ·rename_i x t ha ht
  cases arr1 ha;cases arr1 ht;obtain ⟨v,hv,h⟩:=ob_some h;exact gives_sdata hσ ho hv h
 ·rename_i x y t t' ha ht
  cases arr2 ha;cases arr2 ht;obtain ⟨v,hv,h⟩:=ob_some h;obtain ⟨w,hw,h⟩:=ob_some h;exact gives_ustr hσ ho hv hw h
 ·rename_i x t ha ht
  cases arr1 ha;cases arr1 ht;obtain ⟨v,hv,h⟩:=ob_some h;split at h
  ·rename_i e hu
   exact ⟨_,_,h,rfl,fun hon=>ok_cap0 (P:=c.P) (fr:=fr) hu ho (evV_D hσ hon hv)⟩
  ·cases h
 ·rename_i x y t t' ha ht
  cases arr2 ha;cases arr2 ht;obtain ⟨v,hv,h⟩:=ob_some h;obtain ⟨w,hw,h⟩:=ob_some h;exact gives_copy hσ ho hv hw h
 ·rename_i x y ha
  cases arr2 ha;obtain ⟨v,hv,h⟩:=ob_some h;obtain ⟨w,hw,h⟩:=ob_some h;split at h
  ·unfold maxX at h
   exact ⟨_,_,h,rfl,fun hon=>ok_maxi ho (evV_D hσ hon hv) (evV_D hσ hon hw)⟩
  ·cases h
 ·rename_i x y z ha
  cases arr3 ha;obtain ⟨v,hv,h1⟩:=ob_some h;clear h;obtain ⟨w,hw,h2⟩:=ob_some h1;clear h1;obtain ⟨u,hu,h3⟩:=ob_some h2;clear h2;split at h3
  ·unfold maxX at h3
   exact ⟨_,_,h3,rfl,fun hon=>ok_max3 ho (evV_D hσ hon hv) (evV_D hσ hon hw) (evV_D hσ hon hu)⟩
  ·cases h3
 ·rename_i x y ha
  cases arr2 ha;obtain ⟨v,hv,h⟩:=ob_some h;obtain ⟨w,hw,h⟩:=ob_some h;split at h
  ·unfold minX at h
   exact ⟨_,_,h,rfl,fun hon=>ok_mini ho (evV_D hσ hon hv) (evV_D hσ hon hw)⟩
  ·cases h
 ·cases h
theorem stepX_ok (hG:GOk c.P c.G):StepX c:=by
 intro σ κ fr st o k r hσ h;obtain ⟨op,hop⟩:∃ op,o.op=op:=⟨_,rfl⟩
 cases op with
 | move x=>
   unfold stepX at h;rw [hop] at h;obtain ⟨v,hv,h⟩:=ob_some h;exact ⟨_,_,h,ev_pl hv,fun hon=>ok_move hop (evV_D hσ hon hv)⟩
 | assign x=>
   unfold stepX at h;rw [hop] at h;obtain ⟨v,hv,h⟩:=ob_some h;exact ⟨_,_,h,ev_pl hv,fun hon=>ok_assign hop (evV_D hσ hon hv)⟩
 | pick b x y=>
   unfold stepX at h;rw [hop] at h;exact gives_pick hσ hop h
 | alloc e=>
   unfold stepX at h;rw [hop] at h;simp only at h;split at h
   ·rename_i hf
    exact gives_allocA hop hf h
   ·obtain ⟨z,hz,h⟩:=ob_some h
    exact gives_alloc hop hz h
 | box e x=>
   unfold stepX at h;rw [hop] at h;obtain ⟨v,hv,h⟩:=ob_some h;split at h
   ·exact gives_boxA hσ hop hv h
   split at h
   ·rename_i hval
    exact gives_box hσ hop hv hval h
   ·cases h
 | build t ps=>
   unfold stepX at h;rw [hop] at h;simp only at h;split at h
   ·rename_i hf hps hpl
    exact gives_buildA hop hps hf hpl h
   ·obtain ⟨z,hz,h⟩:=ob_some h
    obtain ⟨pl,hp,h⟩:=ob_some h;exact gives_build hσ hop hz hp h
 | buildSlice t n ps=>
   unfold stepX at h;rw [hop] at h;obtain ⟨⟨e,τ,b⟩,hE,h⟩:=ob_some h;simp only at h;split at h
   ·rename_i q e' τ' l hnp
    split at h
    ·rename_i hτ _
     split at h
     ·split at h
      ·exact gives_litU hσ hop hE hnp hτ.down h
      ·exact gives_litN hσ hop hE hnp hτ.down h
     ·cases h
    ·cases h
   split at h
   ·rename_i q e' κ' l ys hnp
    exact gives_litNst hσ hop hE hnp h
   split at h
   ·rename_i hle
    exact gives_lit hσ hop hE (Nat.le_of_ble_eq_true hle) h
   ·cases h
 | makeMap t m=>
   unfold stepX at h;rw [hop] at h;cases m with
   | none=>
     simp only at h;split at h
     ·split at h
      ·exact gives_mkmap hop h
      ·cases h
     ·cases h
   | some _=>cases h
 | insert t m x y=>
   unfold stepX at h;rw [hop] at h;simp only at h;split at h
   ·rename_i kt et hu
    obtain ⟨a,ha,h⟩:=ob_some h;obtain ⟨b,hb,h⟩:=ob_some h;obtain ⟨v,hv,h⟩:=ob_some h;exact gives_insert hσ hop hu ha hb hv h
   ·cases h
 | range t x=>
   unfold stepX at h;rw [hop] at h;simp only at h;split at h
   ·rename_i hu
    obtain ⟨v,hv,h⟩:=ob_some h;split at h
    ·exact gives_range hσ hop hu hv h
    ·cases h
   ·cases h
 | next i b=>
   unfold stepX at h;rw [hop] at h;cases b with
   | true=>
     simp only at h;obtain ⟨v,hv,h⟩:=ob_some h;split at h
     ·split at h
      ·rename_i hq
       exact gives_next hσ hop hv hq h
      ·cases h
     ·cases h
   | false=>cases h
 | lookup t m x cm=>
   unfold stepX at h;rw [hop] at h;simp only at h;split at h
   ·rename_i kt et hu
    obtain ⟨a,ha,h⟩:=ob_some h;obtain ⟨b,hb,h⟩:=ob_some h;obtain ⟨z,hz,h⟩:=ob_some h;exact gives_lookup hσ hop hu ha hb hz h
   ·cases h
 | load t a=>
   unfold stepX at h;rw [hop] at h;obtain ⟨v,hv,h⟩:=ob_some h;split at h
   ·rename_i ha
    exact gives_loadA hσ hop hv ha h
   cases st with
   | true=>
     obtain ⟨y,h,_,hok⟩:=loadX_ok (fr:=fr) (o:=o) h;obtain ⟨hp,h⟩:=plK_some h;exact ⟨_,_,h,hp,fun hon=>hok hop (evV_D hσ hon hv)⟩
   | false=>
     obtain ⟨y,h,hp,hok⟩:=loadSym_ok (fr:=fr) (o:=o) h;exact ⟨_,_,h,hp,fun hon=>hok hon hop (evV_D hσ hon hv)⟩
 | store t a y=>
   unfold stepX at h;rw [hop] at h;obtain ⟨v,hv,h⟩:=ob_some h;obtain ⟨w,hw,h⟩:=ob_some h;split at h
   ·rename_i ha
    exact gives_storeA hσ hop hv hw ha h
   split at h
   ·rename_i hval
    cases st with
    | true=>
      obtain ⟨W,h,hok⟩:=storeX_ok (fr:=fr) (o:=o) h;refine ⟨_,_,h,rfl,fun hon=>?_⟩;unfold X.D;exact hok hop (evV_D hσ hon hv) (evV_D hσ hon hw) hval
    | false=>
      obtain ⟨W,h,hok⟩:=storeSym_ok (fr:=fr) (o:=o) h;refine ⟨_,_,h,rfl,fun hon=>?_⟩;unfold X.D;exact hok hop (evV_D hσ hon hv) (evV_D hσ hon hw) hval
   ·cases h
 | nilCheck x=>
   unfold stepX at h;rw [hop] at h;exact gives_nil hσ hop h
 | binOp op xt x y yt=>
   unfold stepX at h;rw [hop] at h;obtain ⟨v,hv,h⟩:=ob_some h;obtain ⟨w,hw,h⟩:=ob_some h;split at h
   ·rename_i b hn
    exact gives_nilEq hσ hop hv hw hn h
   split at h
   ·rename_i b hn
    exact gives_eqAgg hσ hop hv hw hn h
   ·obtain ⟨z,h,hp,hok⟩:=binX_ok (fr:=fr) (o:=o) (σ:=σ.den) h
    exact ⟨_,_,h,hp,fun hon=>hok hon.g hop (evV_D hσ hon hv) (evV_D hσ hon hw)⟩
 | unOp op t x=>
   unfold stepX at h;rw [hop] at h;simp only at h;obtain ⟨v,hv,h'⟩:=ob_some h;clear h;split at h'
   ·unfold notX at h'
    exact ⟨_,_,h',rfl,fun hon=>ok_not hop (evV_D hσ hon hv)⟩
   ·unfold negX at h'
    exact ⟨_,_,h',rfl,fun hon=>ok_negk hop (evV_D hσ hon hv)⟩
   ·cases h'
 | convert s d x=>
   unfold stepX at h;rw [hop] at h;exact gives_conv' hσ hop h
 | makeInterface t x=>
   unfold stepX at h;rw [hop] at h;obtain ⟨v,hv,h⟩:=ob_some h;split at h
   ·rename_i ik n hu
    exact ⟨_,_,h,rfl,fun hon=>ok_mkIface hop hu (evV_D hσ hon hv)⟩
   ·rename_i el q hu
    split at h
    ·rename_i e xs hq
     exact ⟨_,_,h,rfl,fun hon=>ok_mkifc hop hu (evV_D hσ hon hv) (den_H hq)⟩
    ·rename_i hq
     exact ⟨_,_,h,rfl,fun hon=>ok_mkifc hop hu (evV_D hσ hon hv) (den_H hq)⟩
    ·cases h
   ·cases h
 | makeFunc g first caps=>
   unfold stepX at h;rw [hop] at h;cases g with
   | func f=>
     simp only at h;split at h
     ·rename_i hf
      exact gives_func hσ hop hf h
     ·cases h
   | _=>cases h
 | makeSlice t n m=>
   unfold stepX at h;rw [hop] at h;simp only at h;split at h
   ·rename_i he
    obtain ⟨v,hv,h⟩:=ob_some h;split at h
    ·obtain ⟨⟨e,τ,b⟩,hE,h⟩:=ob_some h
     split at h
     ·rename_i hτ _
      have hτ':τ=_:=hτ;subst hτ';exact gives_makeN hσ hop he hv hE h
     ·exact gives_make hσ hop he hv hE h
    ·cases h
   ·cases h
 | slice t x lo hi mx=>
   unfold stepX at h;rw [hop] at h;cases mx with
   | none=>
     obtain ⟨v,hv,h⟩:=ob_some h;split at h
     ·exact gives_nilslc hσ hop hv h
     ·exact gives_slcA hσ hop hv h
     ·split at h
      ·rename_i hq
       cases st with
       | true=>exact gives_slcO hσ hop hv hq h
       | false=>
         cases lo with
         | none=>exact gives_cut hσ hop hv h
         | some x=>
           obtain ⟨w,_,h⟩:=ob_some h;obtain ⟨_,n,_,h⟩:=asInt_some h;obtain ⟨_,h,_⟩:=optI_ok hσ h;cases h
      ·exact gives_slice hσ hop hv h
     ·exact gives_slice hσ hop hv h
   | some _=>cases h
 | fieldAddr s x f=>
   unfold stepX at h;rw [hop] at h;obtain ⟨v,hv,h⟩:=ob_some h;obtain ⟨y,h,hp,hok⟩:=fieldAddrX_ok (fr:=fr) (o:=o) (σ:=σ) h;exact ⟨_,_,h,hp,fun hon=>hok hop (evV_D hσ hon hv)⟩
 | field s x f=>
   unfold stepX at h;rw [hop] at h;obtain ⟨v,hv,h⟩:=ob_some h;obtain ⟨y,h,hok⟩:=fieldX_ok (fr:=fr) (o:=o) (σ:=σ) h;obtain ⟨hp,h⟩:=plK_some h;exact ⟨_,_,h,hp,fun hon=>hok hop (evV_D hσ hon hv)⟩
 | indexAddr t x n=>
   unfold stepX at h;rw [hop] at h;obtain ⟨v,hv,h⟩:=ob_some h;obtain ⟨w,hw,h⟩:=ob_some h;split at h
   ·rename_i ha
    exact gives_idxA hσ hop hv hw ha h
   cases st with
   | true=>
     obtain ⟨y,h,hp,hok⟩:=indexAddrX_ok (fr:=fr) (o:=o) h;exact ⟨_,_,h,hp,fun hon=>hok hon hop (evV_D hσ hon hv) (evV_D hσ hon hw)⟩
   | false=>
     obtain ⟨y,h,hp,hok⟩:=indexSym_ok (fr:=fr) (o:=o) h;exact ⟨_,_,h,hp,fun hon=>hok hon hop (evV_D hσ hon hv) (evV_D hσ hon hw)⟩
 | index t x n=>
   unfold stepX at h;rw [hop] at h;obtain ⟨v,hv,h⟩:=ob_some h;obtain ⟨w,hw,h⟩:=ob_some h;split at h
   ·exact gives_indexA hσ hop hv hw h
   obtain ⟨y,h,hp,hok⟩:=indexX_ok (fr:=fr) (o:=o) h;exact ⟨_,_,h,hp,fun hon=>hok hon hop (evV_D hσ hon hv) (evV_D hσ hon hw)⟩
 | extract x n=>
   unfold stepX at h;rw [hop] at h;exact gives_extract hσ hop h
 | call cl=>
   obtain ⟨cal,args,tys⟩:=cl;cases cal with
   | builtin b=>
     refine gives_built hσ (st:=st) hop ?_;unfold stepX at h ⊢;rw [hop] at h;exact h
   | value f=>
     unfold stepX at h;rw [hop] at h;obtain ⟨v,hv,h⟩:=ob_some h;split at h
     ·exact gives_call hG hσ hop hv h
     ·cases h
   | invoke rv name=>
     unfold stepX at h;rw [hop] at h;obtain ⟨v,hv,h⟩:=ob_some h;split at h
     ·split at h
      ·rename_i hq
       exact gives_inv hG hσ hop hv (den_H hq) h
      ·rename_i hq
       exact gives_inv hG hσ hop hv (den_H hq) h
      ·cases h
     ·cases h
 | _=>unfold stepX at h;rw [hop] at h;cases h
end
end Go.Ax
/- Panics. -/
namespace Go.Ax
open Alg
open Go.RowKit Go.Ab
def GpOk (P:Program) (G:List (Nat×EntP)):Prop:=∀ f g,lk f G=some g->nameOk P f=true/\EOkP P f g
theorem GpOk.nil {P:Program}:GpOk P []:=fun f g h=>by cases h
theorem GpOk.cons {P:Program} {f:Nat} {g:EntP} {G:List (Nat×EntP)} (hn:nameOk P f=true) (h:EOkP P f g) (k:GpOk P G):GpOk P ((f,g)::G):=fun f' g' h'=>by
 unfold lk at h';split at h'
 ·rename_i hb
  have hb:=Nat.eq_of_beq_eq_true hb;subst hb;cases h';exact ⟨hn,h⟩
 ·exact k f' g' h'
section
variable {c:Cx} {σ:Vw} {κ:Nat->Bool} {fr:Nat} {o:Oper} {k:X->Wx->O} {kp:Value->Wx->O} {r:Res}
theorem ckg_of {g:Option Bool} {b:Bool} {k:O} {r:Res} (hg:g=none) (h:b=true) (hk:k=some r):ckg g b k=some r:=by
 subst hg h;exact hk
theorem pan_callY (hG:GpOk c.P c.Gp) (hσ:σ.Ok κ) (hgn:σ.g=none) {fo:Operand} {args:Array Operand} {tys:Array TypeId} {f:FuncId} {caps asL ys:List X} {g:EntP} {fn:Func} {code:Code} {els:O} (ho:o.op = .call { callee:=.value fo,args:=args,argTypes:=tys }) (hfo:σ.ev fo=some (.fn f caps)) (hl:asL.length=args.toList.length)
    (hev:∀ (i:Nat) (x:X),asL[i]?=some x->∃ p,args.toList[i]?=some p/\σ.ev p=some x) (hg:lk f c.Gp=some g) (hfn:c.P.funcs[f]?=some fn) (hb:fn.body=some code) (hD:DWs σ.den.H ((asL++caps).map X.D) (ys.map X.D)) (h:callPY σ fr g ys els k kp=some r):els=some r\/Gives c σ fr o k r\/∃ v W,kp v W=some r/\(σ.On->OpPan c.P o σ.den fr v (WA W)):=by
 have h0:=h;unfold callPY at h;obtain ⟨rn,hrn⟩:∃ rn,numb 50 (reach σ.H 40 (namesL ys []) [])=rn:=⟨_,rfl⟩
 simp only [hrn] at h;split at h
 ·exact .inl h
 rename_i hrb;have F:=rbOk_ok hrb;split at h
 ·exact .inl h
 rename_i zs hzs;split at h
 ·exact .inl h
 rename_i H' hH';split at h
 case h_2=>exact .inl h
 rename_i pre bb rn0 pv H2 hres;split at h
 case h_2=>cases h
 rename_i hnd2;rw [Bool.and_eq_true] at hnd2;obtain ⟨hnd1,hnd⟩:=hnd2;obtain ⟨hpre,h⟩:=ck_some h;obtain ⟨hname,hE⟩:=hG f g hg;have hcase:(bb=some true/\(ob (renX (backN fr rn) rn0.1) fun x=>ob (backW (backN fr rn) rn0.2) fun W=>k x (W++gone rn0.2 rn))=some r)\/(bb≠some true/\(ob (backW (backN fr rn) H2) fun W=>kp pv (W++gone H2 rn))=some r):=by
  unfold brO at h;split at h
  ·rename_i b0
   rcases br_some h with ⟨hb1,h⟩ | ⟨hb1,h⟩
   ·exact .inl ⟨by rw [hb1],h⟩
   ·exact .inr ⟨by rw [hb1];simp,h⟩
  ·exact .inr ⟨by simp,h⟩
 rcases hcase with ⟨hb1,h⟩ | ⟨hb1,h⟩
 ·-- it comes back
  have hG':GOk c.P [(f,fun xs H=>match g xs H with | some (pre,b,r,_)=>some (pre&&(b == some true),r) | none=>none)]:=GOk.cons hname (fun xs H pre' r' he hp=>by
   split at he
   ·rename_i p b r0 rp hq
    have he:=Option.some.inj he;have e1:=congrArg Prod.fst he;have e2:=congrArg Prod.snd he;simp only at e1 e2;rw [hp,Bool.and_eq_true] at e1;rw [← e2];exact (hE xs H _ _ _ _ hq e1.1).1 (eq_of_beq e1.2)
   ·cases he) GOk.nil
  refine .inr ?_;rcases gives_callY (c:=⟨c.P,c.ex,_,[]⟩) (k:=k) (els:=none) hG' hσ ho hfo hl hev (by unfold lk;rw [Nat.beq_refl]) hfn hb hD (by
   unfold callY;simp only [hrn];rw [hrb];simp only [hzs,hH',hres,hnd1];obtain ⟨x,hx,h6⟩:=ob_some h;obtain ⟨W,hW,h7⟩:=ob_some h6;rw [hx];show ob (backW (backN fr rn) rn0.2) _=some r;rw [hW];exact ckg_of (by rw [hgn];rfl) (by rw [hpre,hb1];rfl) h7) with h8 | h8
  ·cases h8
  ·exact .inl h8
 obtain ⟨W,hW,h8⟩:=ob_some h;refine .inr (.inr ⟨pv,_,h8,fun hon=>?_⟩);have hname' : fn.name ≠ "runtime.NumGoroutine" := by
  unfold nameOk at hname;rw [hfn] at hname;simpa using hname
 have hDoes:=(hE zs H' _ _ _ _ hres hpre).2 hb1 pv rfl;have hf1:∀ k k',old rn k=some k'->decide (k' < 100)=true/\k=rnm rn k':=fun k k' hk=>by
  obtain ⟨_,b,_,d⟩:=F.ren _ _ (old_mem hk);exact ⟨decide_eq_true b,(rnm_lk d).symm⟩
 have hf2:∀ k k',backN fr rn k=some k'->backNm fr (rn.map swap2) k'=true/\k=back fr (rn.map swap2) k':=fun k k' hk=>by
  unfold backN at hk;split at hk
  ·rename_i hle
   have hle:=Nat.le_of_ble_eq_true hle;split at hk
   ·rename_i hlt
    have hlt:k < 108:=Nat.le_of_ble_eq_true hlt;cases hk;refine ⟨?_,?_⟩
    ·unfold backNm
     rw [Bool.or_eq_true,Bool.and_eq_true];exact .inl ⟨decide_eq_true (by omega),decide_eq_true (by omega)⟩
    ·unfold back
     rw [if_pos ⟨by omega,by omega⟩];omega
   ·cases hk
  ·have hm:=lk_mem hk
   obtain ⟨_,_,c3,_⟩:=F.ren _ _ hm;have hlook:=rb_look F hm;refine ⟨?_,?_⟩
   ·unfold backNm
    rw [Bool.or_eq_true,hlook];exact .inr rfl
   ·unfold back
    rw [if_neg c3];unfold rnm;rw [hlook]
 have hkeys:(HA H').map (·.1)=rn.map (·.1):=by
  rw [← renH_keys hH'];unfold HA;rw [List.map_map];rfl
 have hkey:∀ {p:Nat×AObj},p ∈ HA H'->∃ q,(p.1,q) ∈ rn:=fun {p} hp=>by
  have:p.1 ∈ rn.map (·.1):=hkeys ▸ List.mem_map.2 ⟨p,hp,rfl⟩;obtain ⟨⟨a,b⟩,hm,e⟩:=List.mem_map.1 this;simp only at e;subst e;exact ⟨b,hm⟩
 have hkey':∀ {new q:Nat},(new,q) ∈ rn->∃ p ∈ HA H',p.1=new:=fun {new q} hm=>by
  have:new ∈ (HA H').map (·.1):=hkeys ▸ List.mem_map.2 ⟨_,hm,rfl⟩;obtain ⟨p,hp,e⟩:=List.mem_map.1 this;exact ⟨p,hp,e⟩
 have hrnm:∀ {new q:Nat},(new,q) ∈ rn->rnm rn new=q:=fun hm=>rnm_lk (F.ren _ _ hm).2.2.2
 refine ok_callpan (ds:=zs.map X.D) (H:=HA H') (H'':=HA H2) rn (rn.map swap2) ?_ hDoes (allH_of hf1 (fun p hp=>hrnm hp) hH') ?_ ?_ ?_
 ·intro E σ₁ ν G w a hT hHH I
  have hfv:=I.ev (St.ev_le hT (evV_D hσ hon hfo));obtain ⟨v,hv⟩:∃ v,a.eval fo=v:=⟨_,rfl⟩
  rw [hv] at hfv;unfold X.D at hfv;cases hfv with
  | @fn _ vs _ hvl hvd=>
    have hL:=(renL_ok hf1 ys zs hzs (H:=σ.den.H)).get;rw [Ds_map,Ds_map] at hL;have hlen:args.toList.length+caps.length=zs.length:=by
     have e1:=hD.len;have e2:=hL.1;simp only [List.length_map,List.length_append] at e1 e2;omega
    have hvl':vs.size=caps.length:=by rw [hvl,Ds_map,List.length_map]
    refine ⟨args.toList.map a.eval++vs.toList,?_,?_,fun t d' ht=>?_⟩
    ·unfold execOp
     rw [ho];have:(args.toList.map a.eval++vs.toList).toArray=args.map a.eval++vs:=by
      apply Array.ext';simp
     rw [this];simp only [resolve,hv,Deferred.ofValue,invoke,Sem.run_bind,Sem.run_pure,Result.andThen_ok,Array.empty_append];exact run_enter hfn hname' (by rw [hb];exact fun e=>by cases e) _ w
    ·simp only [List.length_append,List.length_map,Array.length_toList] at hlen ⊢
     omega
    ·have htl:t < zs.length:=by have:=(List.getElem?_eq_some_iff.1 ht).1;simpa using this
     obtain ⟨dy,hdy⟩:∃ dy,(ys.map X.D)[t]?=some dy:=⟨_,List.getElem?_eq_getElem (by rw [hL.1,List.length_map];exact htl)⟩
     obtain ⟨d0,hd0,hwk⟩:=hD.get t dy hdy;have hle:=hL.2 t dy d' hdy ht;rw [List.getElem?_map] at hd0;obtain ⟨x0,hx0,rfl⟩:=Option.map_eq_some_iff.1 hd0;have hval:∃ u,(args.toList.map a.eval++vs.toList)[t]?=some u/\DR ν σ₁.nm w G u x0.D:=by
      by_cases hlt:t < args.toList.length
      ·rw [List.getElem?_append_left (by omega)] at hx0
       obtain ⟨p,hp,hpv⟩:=hev t x0 hx0;refine ⟨a.eval p,?_,I.ev (St.ev_le hT (evV_D hσ hon hpv))⟩;rw [List.getElem?_append_left (by rw [List.length_map];exact hlt),List.getElem?_map,hp];rfl
      ·rw [List.getElem?_append_right (by omega),hl] at hx0
       have hi:t - args.toList.length < vs.size:=by rw [hvl'];exact (List.getElem?_eq_some_iff.1 hx0).1
       refine ⟨vs[t - args.toList.length],?_,hvd _ _ _ (Array.getElem?_eq_getElem hi) (by rw [Ds_map,List.getElem?_map,hx0];rfl)⟩;rw [List.getElem?_append_right (by rw [List.length_map];omega),List.length_map,Array.getElem?_toList,Array.getElem?_eq_getElem hi]
     obtain ⟨u,hu,hdr⟩:=hval;exact ⟨u,dy,hu,hwk E σ₁ ν G w a.tmps hHH I u hdr,hle⟩
 ·have hlk:∀ p ∈ H2,Ab.look p.1 (HA H2)=some p.2.A:=fun p hp=>by
   rw [look_HA,nodupB_lk hnd p hp];rfl
  have:=allW_of hf2 (allW_gone (H2:=HA H2) (nm':=backNm fr (rn.map swap2)) (ρ:=back fr (rn.map swap2)) (H':=H2) rn) hlk hW;unfold WA at this ⊢;rw [List.map_append];exact this
 ·unfold callOk
  rw [Bool.and_eq_true];refine ⟨List.all_eq_true.2 fun p hp=>?_,List.all_eq_true.2 fun p hp=>?_⟩
  ·obtain ⟨q,hm⟩:=hkey hp
   rw [hrnm hm];have hq:∃ x,(q,x) ∈ W++gone H2 rn:=by
    cases hlk:lk p.1 H2 with
    | none=>exact ⟨none,List.mem_append_right _ (gone_mem hm hlk)⟩
    | some o=>
      obtain ⟨_,b,_,d⟩:=F.ren _ _ hm;have hbk:backN fr rn p.1=some q:=by
       unfold backN;rw [show Nat.ble 100 p.1=false by
        cases hble:Nat.ble 100 p.1 with
        | false=>rfl
        | true=>have:=Nat.le_of_ble_eq_true hble;omega]
       exact d
      obtain ⟨x,hx⟩:=backW_mem hbk hW hlk;exact ⟨x,List.mem_append_left _ hx⟩
   obtain ⟨x,hx⟩:=hq;obtain ⟨y,hy⟩:=look_some (l:=WA (W++gone H2 rn)) (k:=q) (List.mem_map.2 ⟨(q,x.map XO.A),List.mem_map.2 ⟨_,hx,rfl⟩,rfl⟩);rw [hy];rfl
  ·obtain ⟨⟨q,x⟩,hm,rfl⟩:=List.mem_map.1 hp
   rw [Bool.or_eq_true];have hin:(∃ new,(new,q) ∈ rn)->(HA H').any (fun z=>rnm rn z.1 == q)=true:=fun ⟨new,hn⟩=>by
    obtain ⟨p,hp,e⟩:=hkey' hn;exact List.any_eq_true.2 ⟨p,hp,by rw [e,hrnm hn];exact beq_self_eq_true _⟩
   rcases List.mem_append.1 hm with hm | hm
   ·obtain ⟨k0,hk0⟩:=backW_key hW hm
    unfold backN at hk0;split at hk0
    ·rename_i hle
     have hle:=Nat.le_of_ble_eq_true hle;split at hk0
     ·rename_i hlt
      have hlt:k0 < 108:=Nat.le_of_ble_eq_true hlt;cases hk0;left;rw [Bool.and_eq_true];exact ⟨decide_eq_true (Nat.le_add_right ..),decide_eq_true (by simp only;omega)⟩
     ·cases hk0
    ·exact .inr (hin ⟨k0,lk_mem hk0⟩)
   ·exact .inr (hin (gone_key hm))
 ·unfold callOk0
  simp only [Bool.and_eq_true];refine ⟨⟨⟨List.all_eq_true.2 fun p hp=>?_,decide_eq_true ?_⟩,List.all_eq_true.2 fun p hp=>?_⟩,List.all_eq_true.2 fun p hp=>?_⟩
  ·obtain ⟨q,hm⟩:=hkey hp
   obtain ⟨a,b,_,_⟩:=F.ren _ _ hm;rw [Bool.and_eq_true];exact ⟨decide_eq_true a,decide_eq_true b⟩
  ·have:(HA H').map (fun p=>rnm rn p.1)=rn.map (·.2):=by
    have e:(HA H').map (fun p=>rnm rn p.1)=((HA H').map (·.1)).map (rnm rn):=by rw [List.map_map];rfl
    rw [e,hkeys,List.map_map];exact List.map_congr_left fun p hp=>hrnm hp
   rw [this];exact F.nd
  ·obtain ⟨q,hm⟩:=hkey hp
   rw [hrnm hm,rb_look F hm];exact beq_self_eq_true _
  ·obtain ⟨⟨new,q⟩,hm,rfl⟩:=List.mem_map.1 hp
   obtain ⟨p,hp',e⟩:=hkey' hm;refine List.any_eq_true.2 ⟨p,hp',?_⟩;rw [Bool.and_eq_true,e,hrnm hm];exact ⟨beq_self_eq_true _,beq_self_eq_true _⟩
theorem pan_call (hG:GpOk c.P c.Gp) (hσ:σ.Ok κ) {fo:Operand} {args:Array Operand} {tys:Array TypeId} {f:FuncId} {caps:List X} {g:EntP} (ho:o.op = .call { callee:=.value fo,args:=args,argTypes:=tys }) (hfo:σ.ev fo=some (.fn f caps)) (hg:lk f c.Gp=some g) (hgn:σ.g=none) (h:σ.evs args.toList (fun xs=>callP c σ fr f g (xs++caps) k kp)=some r):Gives c σ fr o k r\/∃ v W,kp v W=some r/\(σ.On->OpPan c.P o σ.den fr v (WA W)):=by
 obtain ⟨asL,h1,hl,hev⟩:=evs_some h;clear h;unfold callP at h1;obtain ⟨fn,hfn,h3⟩:=ob_some h1;clear h1;split at h3
 ·cases h3
 rename_i code hb;rcases pan_callY hG hσ hgn ho hfo hl hev hg hfn hb (canons_ok c σ _ _) h3 with h | h
 ·rcases pan_callY hG hσ hgn ho hfo hl hev hg hfn hb DWs.refl h with h | h
  ·cases h
  ·exact h
 ·exact h
theorem panX_ok (hG:GpOk c.P c.Gp):PanOk c:=fun σ κ fr o k kp els r hσ hgn h=>by
 unfold panX at h;split at h
 ·rename_i x ho
  obtain ⟨v,hv,h⟩:=ob_some h;split at h
  case h_2=>cases h
  rename_i t w;refine .inr (.inr ⟨_,_,h,fun hon=>?_⟩);intro E σ₁ a wd hT hH h100 hf hR;obtain ⟨ν,G,I⟩:=id hR;have hd:=I.ev (St.ev_le hT (evV_D hσ hon hv));have he:a.eval x = .iface t w:=bool_of hd;unfold Oper.wp execOp;rw [ho];have:(Instr.panic (a.eval x)).run c.P wd = .halt (.panic (.iface t w)) wd:=by rw [he];rfl
  simp only [this,Sem.run_bind,Result.andThen];exact ⟨rfl,rfl,ν,G,I.put (dst:=none) (v:=undef) (d:=.any) .any (fun _ h=>by cases h) fr a rfl⟩
 ·rename_i f args tys ho
  split at h
  ·rename_i g caps hf
   split at h
   ·rename_i gp hg
    exact .inr (pan_call hG hσ ho hf hg hgn h)
   ·exact .inl h
  ·exact .inl h
 ·exact .inl h
end
end Go.Ax
/- What a printed text needs. -/
namespace Go.Ax
open Alg
open Go.RowKit Go.Ab
theorem ctx_ok {c:Cx} (hm:c.P.follows .mixedOrders=true) (hG:GOk c.P c.G) (hGp:GpOk c.P c.Gp):CxOk c:=⟨hm,stepX_ok hG,panX_ok hGp⟩
def HintOk' (c:Cx) (M:Nat) (h:Hint) (code:Code):Prop:=match h with
 | .sub _ _ _ _ I1 I2 I3 L=>SubOk c M code I1 I2 I3 L
 | .d=>True
 | .reg ..=>True
 | .seq x y=>match code with
   | .seq a b=>HintOk' c M x a/\HintOk' c M y b
   | _=>False
 | .cond x y=>match code with
   | .cond _ a b=>HintOk' c M x a/\HintOk' c M y b
   | _=>False
 | .block x=>match code with
   | .block _ a=>HintOk' c M x a
   | .scope a=>HintOk' c M x a
   | _=>False
theorem hk_of {c:Cx} {M:Nat}:∀ (h:Hint) (code:Code),HintOk' c M h code->HintOk c M h code
 | .sub ..,code,h=>by
   unfold HintOk;cases code <;> exact h
 | .d,code,_=>hk_d code
 | .reg a b d,code,_=>by
   cases code with
   | seq a b=>exact ⟨hk_d a,hk_d b⟩
   | cond x a b=>exact ⟨hk_d a,hk_d b⟩
   | block i a=>exact hk_d a
   | scope a=>exact hk_d a
   | _=>exact trivial
 | .seq x y,code,h=>by
   cases code with
   | seq a b=>exact ⟨hk_of x a h.1,hk_of y b h.2⟩
   | _=>exact h.elim
 | .cond x y,code,h=>by
   cases code with
   | cond z a b=>exact ⟨hk_of x a h.1,hk_of y b h.2⟩
   | _=>exact h.elim
 | .block x,code,h=>by
   cases code with
   | block i a=>exact hk_of x a h
   | scope a=>exact hk_of x a h
   | _=>exact h.elim
def atC:List Nat->Code->Code
 | [],c=>c
 | 0::l,.seq a _=>atC l a
 | 1::l,.seq _ b=>atC l b
 | 0::l,.cond _ a _=>atC l a
 | 1::l,.cond _ _ b=>atC l b
 | 0::l,.block _ a=>atC l a
 | 0::l,.loop a=>atC l a
 | 0::l,.scope a=>atC l a
 | _,c=>c
theorem Does.wk {P:Program} {f:FuncId} {ds ds':List D} {H:List (Nat×AObj)} {r:D} {H':List (Nat×AObj)} (h:Does P f ds' H r H') (hw:DWs (fun k=>Ab.look k H) ds ds'):Does P f ds H r H':=fun E w vs h1 h2 h3 ⟨ν,G,I⟩=>by
 refine h E w vs h1 h2 (h3.trans hw.len) ⟨ν,G,{ I with T:=fun t d' ht=>?_ }⟩;obtain ⟨d,hd,hwk⟩:=hw.get t d' ht;obtain ⟨v,hv,hr⟩:=I.T t d hd;exact ⟨v,hv,hwk E _ ν G w vs (fun _ _ h=>h) I v hr⟩
theorem DWs.two {H:Nat->Option AObj} {a b a' b':D} (h:DWk H a a') (k:DWk H b b'):DWs H [a,b] [a',b']:=.cons h (.cons k .nil)
theorem EOk.e0 {P:Program} {f:FuncId} {g:Bool×Res} (h:g.1=true->Does P f [] [] g.2.1.D (HA g.2.2)):EOk P f (E0 g):=fun xs H pre r he hp=>by
 unfold E0 at he;split at he
 ·cases he;exact h hp
 ·cases he
theorem EOk.e1 {P:Program} {f:FuncId} {a:Ty} {g:a.V->Bool×Res} (h:∀ x,(g x).1=true->Does P f [(toX a x).D] [] (g x).2.1.D (HA (g x).2.2)):EOk P f (E1 a g):=fun xs H pre r he hp=>by
 unfold E1 at he;split at he
 ·split at he
  ·rename_i y hy
   have he:=Option.some.inj he;have h1:=congrArg Prod.fst he;have h2:=congrArg Prod.snd he;simp only at h1 h2;rw [← h2];exact Does.wk (h y (h1.trans hp)) (.cons (tyX_ok hy) .nil)
  ·cases he
 ·cases he
theorem EOk.e2 {P:Program} {f:FuncId} {a b:Ty} {g:a.V->b.V->Bool×Res} (h:∀ x y,(g x y).1=true->Does P f [(toX a x).D,(toX b y).D] [] (g x y).2.1.D (HA (g x y).2.2)):EOk P f (E2 a b g):=fun xs H pre r he hp=>by
 unfold E2 at he;split at he
 ·split at he
  ·rename_i y hy
   split at he
   ·rename_i z hz
    have he:=Option.some.inj he;have h1:=congrArg Prod.fst he;have h2:=congrArg Prod.snd he;simp only at h1 h2;rw [← h2];exact Does.wk (h y z (h1.trans hp)) (.cons (tyX_ok hy) (.cons (tyX_ok hz) .nil))
   ·cases he
  ·cases he
 ·cases he
theorem EOk.e3 {P:Program} {f:FuncId} {a b d:Ty} {g:a.V->b.V->d.V->Bool×Res} (h:∀ x y z,(g x y z).1=true->Does P f [(toX a x).D,(toX b y).D,(toX d z).D] [] (g x y z).2.1.D (HA (g x y z).2.2)):EOk P f (E3 a b d g):=fun xs H pre r he hp=>by
 unfold E3 at he;split at he
 ·split at he
  ·rename_i y hy
   split at he
   ·rename_i z hz
    split at he
    ·rename_i u hu
     have he:=Option.some.inj he;have h1:=congrArg Prod.fst he;have h2:=congrArg Prod.snd he;simp only at h1 h2;rw [← h2];exact Does.wk (h y z u (h1.trans hp)) (.cons (tyX_ok hy) (.cons (tyX_ok hz) (.cons (tyX_ok hu) .nil)))
    ·cases he
   ·cases he
  ·cases he
 ·cases he
theorem EOk.e4 {P:Program} {f:FuncId} {a b d e:Ty} {g:a.V->b.V->d.V->e.V->Bool×Res} (h:∀ x y z u,(g x y z u).1=true->Does P f [(toX a x).D,(toX b y).D,(toX d z).D,(toX e u).D] [] (g x y z u).2.1.D (HA (g x y z u).2.2)):EOk P f (E4 a b d e g):=fun xs H pre r he hp=>by
 unfold E4 at he;split at he
 ·split at he
  ·rename_i y hy
   split at he
   ·rename_i z hz
    split at he
    ·rename_i u hu
     split at he
     ·rename_i v hv
      have he:=Option.some.inj he;have h1:=congrArg Prod.fst he;have h2:=congrArg Prod.snd he;simp only at h1 h2;rw [← h2];exact Does.wk (h y z u v (h1.trans hp)) (.cons (tyX_ok hy) (.cons (tyX_ok hz) (.cons (tyX_ok hu) (.cons (tyX_ok hv) .nil))))
     ·cases he
    ·cases he
   ·cases he
  ·cases he
 ·cases he
def exNe (a b:Nat):Bool:=!(Nat.beq a b)
theorem exNe_ok {a b:Nat} (h:exNe a b=true):a≠b:=fun e=>by
 subst e;simp [exNe] at h
theorem ue_some {τ:Ty} {x:X} {y:τ.V} (h:ue τ x=some y):x = .e τ y:=by
 unfold ue at h;split at h
 ·rename_i τ' z
  generalize teq τ' τ=p at h;cases p with
  | none=>cases h
  | some q=>obtain ⟨q⟩:=q;subst q;cases h;rfl
 ·cases h
theorem ur_some {e:TypeId} {τ:Ty} {st:Bool} {x:XO} {l:List τ.V} (h:ur e τ st x=some l):x = .row e τ l st:=by
 unfold ur at h;split at h
 ·rename_i e' τ' z st'
  split at h
  ·rename_i hb
   rw [Bool.and_eq_true] at hb;have h1:=Nat.eq_of_beq_eq_true hb.1;have h2:=eq_of_beq hb.2;subst h1 h2;generalize teq τ' τ=p at h;cases p with
   | none=>cases h
   | some q=>obtain ⟨q⟩:=q;subst q;cases h;rfl
  ·cases h
 ·cases h
theorem uz_some {e:TypeId} {τ:Ty} {x:XO} {l:List τ.V} (h:uz e τ x=some l):x = .arr e τ l:=by
 unfold uz at h;split at h
 ·rename_i e' τ' z
  split at h
  ·rename_i hb
   have h1:=Nat.eq_of_beq_eq_true hb;subst h1;generalize teq τ' τ=p at h;cases p with
   | none=>cases h
   | some y=>
     obtain ⟨g⟩:=y;subst g;cases h;rfl
  ·cases h
 ·cases h
theorem EOk.f1 {P:Program} {f:FuncId} {a:Ty} {q:FuncId} {g:a.V->Bool×Res} (h:∀ x,(g x).1=true->Does P f [(toX a x).D,(X.fn q []).D] [] (g x).2.1.D (HA (g x).2.2)):EOk P f (Ef1 a q g):=fun xs H pre r he hp=>by
 unfold Ef1 at he;split at he
 ·split at he
  ·rename_i hb
   have hb:=Nat.eq_of_beq_eq_true hb;subst hb;split at he
   ·rename_i y hy
    have he:=Option.some.inj he;have h1:=congrArg Prod.fst he;have h2:=congrArg Prod.snd he;simp only at h1 h2;rw [← h2];exact Does.wk (h y (h1.trans hp)) (.cons (tyX_ok hy) (.cons DWk.refl .nil))
   ·cases he
  ·cases he
 ·cases he
theorem EOk.f2 {P:Program} {f:FuncId} {a b:Ty} {q:FuncId} {g:a.V->b.V->Bool×Res} (h:∀ x y,(g x y).1=true->Does P f [(toX a x).D,(toX b y).D,(X.fn q []).D] [] (g x y).2.1.D (HA (g x y).2.2)):EOk P f (Ef2 a b q g):=fun xs H pre r he hp=>by
 unfold Ef2 at he;split at he
 ·split at he
  ·rename_i hb
   have hb:=Nat.eq_of_beq_eq_true hb;subst hb;split at he
   ·rename_i y hy
    split at he
    ·rename_i z hz
     have he:=Option.some.inj he;have h1:=congrArg Prod.fst he;have h2:=congrArg Prod.snd he;simp only at h1 h2;rw [← h2];exact Does.wk (h y z (h1.trans hp)) (.cons (tyX_ok hy) (.cons (tyX_ok hz) (.cons DWk.refl .nil)))
    ·cases he
   ·cases he
  ·cases he
 ·cases he
theorem EOk.or {P:Program} {f:FuncId} {g g':Ent'} (h:EOk P f g) (k:EOk P f g'):EOk P f (Eor g g'):=fun xs H pre r he hp=>by
 unfold Eor at he;split at he
 ·rename_i r' hr
  cases he;exact h xs H pre r hr hp
 ·exact k xs H pre r he hp
end Go.Ax
/- Contracts of library functions. -/
namespace Go.Ax
open Alg
open Go.RowKit Go.Ab
theorem Does.lib {P:Program} {f:FuncId} {ds:List D} {d:D} (h:∀ (w:World),tabPr w->∀ (G:Lim) (ν:Nat->Value) (nm:Nat->Bool) (vs:Array Value),vs.size=ds.length->(∀ (i:Nat) (d':D),ds[i]?=some d'->∃ v,vs[i]?=some v/\DR ν nm w G v d')->
    Calls P f vs w fun e w'=>∃ v,e = .returned v/\Aft w w'/\∃ G',(∀ b,b < w.heap.size->G' b=G b)/\∀ ν nm,DR ν nm w' G' v d):Does P f ds [] d []:=by
 intro E w vs hE0 hm hsz ⟨ν,G,I⟩;refine (h w (hE0 ▸ E.tab E.w0 (Nat.le_refl _) fun _ _ _=>rfl) G ν _ vs hsz (fun i d' hd=>I.T i d' hd)).mono ?_;rintro e w' ⟨v,rfl,hA,G',hG,hd⟩;have J:=I.aft hA hG;exact ⟨v,rfl,ν,G',⟨J.kept.os,J.kept.tape,J.kept.output,J.kept.size,J.kept.block⟩,J.keep,J.pin,J.g0,rfl,fun t d' ht=>by
  cases t with
  | zero=>cases ht;exact ⟨v,rfl,hd _ _⟩
  | succ t=>exact absurd (show (none:Option D)=some _ from ht) (by simp),fun k o hk=>absurd (show (none:Option AObj)=some _ from hk) (by simp),fun k o k' o' hk=>absurd (show (none:Option AObj)=some _ from hk) (by simp)⟩
abbrev DoK (P:Program) (f:FuncId) (xs:List X) (H:XH) (R:Res):Prop:=Does P f (xs.map X.D) (HA H) R.1.D (HA R.2)
end Go.Ax
/- What came in as an argument and reads as data is data of the run. -/
namespace Go.Ax
open Go.RowKit Go.Ab Go.WideShapes
def DR0 (w:World) (G:Lim) (v:Value) (d:D):Prop:=DR (fun _=>.nilFunc) (fun _=>false) w G v d
def blkSize (w:World) (b:Nat):Nat:=match w.heap[b]? with | some (.cells c _ _)=>c.size | _=>0
theorem cell_blk {w:World} {b i:Nat} {u:Value} (hc:w.cell? ⟨b,i,none⟩=some u):Cell w (blkSize w) b i u:=by
 refine ⟨hc,?_⟩;unfold World.cell? at hc;unfold blkSize;split at hc
 ·rename_i cs _ _ hh
  rw [hh];simp only [Option.isSome_none,Bool.false_eq_true,if_false] at hc ⊢;exact (Array.getElem?_eq_some_iff.1 hc).1
 ·cases hc
theorem spot_none {w:World} {a:Addr} {u:Value} (h:w.cell? a=some u):a=⟨a.block,a.off,none⟩:=by
 obtain ⟨b,o,s⟩:=a;cases s with
 | none=>rfl
 | some s=>
   unfold World.cell? at h;split at h <;> simp at h
def bytesTy:Ty->Nat
 | .i .i64=>8
 | .i .u64=>8
 | .i _=>1
 | .u8=>1
 | .bo=>1
 | .tx=>16
 | .ex=>1
 | .un=>0
 | .sl _=>24
 | .pr a b=>bytesTy a+bytesTy b
def flB (P:Program) (q:Ty->TypeId->Bool):Ty->Nat->List Field->Bool
 | τ,o,[f]=>q τ f.type&&Nat.beq f.offset o&&Nat.beq (P.cellsOf f.type) τ.size
 | .pr a b,o,f::g::fs=>q a f.type&&Nat.beq f.offset o&&Nat.beq (P.cellsOf f.type) a.size&&flB P q b (o+a.size) (g::fs)
 | _,_,_=>false
def arB (q:Ty->TypeId->Bool) (e:TypeId):Ty->Nat->Bool
 | τ,1=>q τ e
 | .pr a b,n+2=>q a e&&arB q e b (n+1)
 | _,_=>false
def tyB (P:Program):Nat->Ty->TypeId->Bool
 | 0,_,_=>false
 | n+1,τ,t=>match τ,P.underlying t with
   | .i k,some (.int k')=>decide (k'=k)
   | .u8,some (.int .u8)=>true
   | .bo,some .bool=>true
   | .tx,some .string=>true
   | .sl a,some (.slice e)=>tyB P n a e&&Nat.beq (P.cellsOf e) a.size&&(Nat.ble (bytesTy a) (P.bytesOf e)&&Nat.blt 0 a.size)
   | .pr a b,some (.struct fs)=>Nat.beq (P.cellsOf t) (a.size+b.size)&&flB P (tyB P n) (.pr a b) 0 fs.toList
   | .pr a b,some (.array k e)=>Nat.beq (P.cellsOf t) (a.size+b.size)&&arB (fun τ e=>tyB P n τ e&&Nat.beq (P.cellsOf e) τ.size) e (.pr a b) k
   | _,_=>false
def OkV:(τ:Ty)->τ.V->Prop
 | .i k,x=>(Lit.int k x).wf=true
 | .sl e,l=>∀ y,List.Mem y (show List e.V from l)->OkV e y
 | .pr a b,x=>OkV a x.1/\OkV b x.2
 | _,_=>True
def SzV:(τ:Ty)->τ.V->Prop
 | .tx,s=>List.length (α:=UInt8) s<=reachBytes
 | .sl e,l=>List.length (α:=e.V) l * bytesTy e<=reachBytes/\∀ y,List.Mem y (show List e.V from l)->SzV e y
 | .pr a b,x=>SzV a x.1/\SzV b x.2
 | _,_=>True
def RelC (w:World) (cs:List Value) (ts:List Tree):Prop:=cs.length=ts.length/\∀ (i:Nat) (u:Value) (t:Tree),cs[i]?=some u->ts[i]?=some t->TR w (blkSize w) u t
theorem RelC.one {w:World} {u:Value} {t:Tree} (h:TR w (blkSize w) u t):RelC w [u] [t]:=⟨rfl,fun i u' t' hu ht=>by
 cases i with
 | zero=>cases hu;cases ht;exact h
 | succ i=>cases hu⟩
theorem RelC.app {w:World} {a b:List Value} {s t:List Tree} (h:RelC w a s) (k:RelC w b t):RelC w (a++b) (s++t):=⟨by rw [List.length_append,List.length_append,h.1,k.1],fun i u x hu hx=>by
 by_cases hi:i < a.length
 ·rw [List.getElem?_append_left hi] at hu
  rw [List.getElem?_append_left (by rw [← h.1];exact hi)] at hx;exact h.2 i u x hu hx
 ·rw [List.getElem?_append_right (by omega)] at hu
  rw [List.getElem?_append_right (by have:=h.1;omega)] at hx;rw [h.1] at hu;exact k.2 _ u x hu hx⟩
theorem listOfN {α:Type} {Q:Nat->α->Prop}:∀ n:Nat,(∀ i,i < n->∃ v,Q i v)->∃ l:List α,l.length=n/\∀ (i:Nat) (v:α),l[i]?=some v->Q i v
 | 0,_=>⟨[],rfl,fun i v h=>by cases h⟩
 | n+1,h=>by
   obtain ⟨l,hl,hQ⟩:=listOfN n fun i hi=>h i (by omega)
   obtain ⟨v,hv⟩:=h n (by omega);refine ⟨l++[v],by simp [hl],fun i u hu=>?_⟩;by_cases hi:i < n
   ·rw [List.getElem?_append_left (by omega)] at hu
    exact hQ i u hu
   ·have hlt:=(List.getElem?_eq_some_iff.1 hu).1
    have:i=n:=by simp [hl] at hlt;omega
    subst this;rw [List.getElem?_append_right (by omega),hl,Nat.sub_self] at hu;cases hu;exact hv
theorem flat_get {α:Type} {f:α->List Tree} {s:Nat} (h:∀ x,(f x).length=s):∀ (l:List α) (q r:Nat) (x:α),l[q]?=some x->r < s->(l.flatMap f)[q * s+r]?=(f x)[r]?
 | [],q,r,x,hx,_=>by cases hx
 | y::l,0,r,x,hx,hr=>by
   cases hx;rw [List.flatMap_cons,Nat.zero_mul,Nat.zero_add,List.getElem?_append_left (by rw [h];exact hr)]
 | y::l,q+1,r,x,hx,hr=>by
   rw [List.flatMap_cons,List.getElem?_append_right (by rw [h,Nat.add_mul];omega),h,show (q+1) * s+r - s=q * s+r by rw [Nat.add_mul];omega];exact flat_get h l q r x hx hr
theorem weights_all {H:Type} {P:Program} {e:TypeId}:∀ {l:List (DataW H)} {d:DataW H} {m:Nat},d ∈ l->m ∈ d.weights P e->m ∈ DataW.weightsAll P e l
 | [],d,m,h,_=>by cases h
 | x::l,d,m,h,hm=>by
   simp only [DataW.weightsAll,List.mem_append];rcases List.mem_cons.1 h with rfl | h
   ·exact .inl hm
   ·exact .inr (weights_all h hm)
section
variable {H:Type} {enc:TypeId×Value->H} {P:Program} {w:World} {base:Nat} {spare:Nat->Bool} {held:Bool}
def Opens (enc:TypeId×Value->H) (P:Program) (w:World) (base:Nat) (spare:Nat->Bool) (held:Bool) (τ:Ty) (t:TypeId):Prop:=
 ∀ (fuel:Nat) (cs:List Value) (x:DataW H×List MemPlace),DataW.trod enc P w base spare held fuel t cs=some x->
  ∃ v:τ.V,OkV τ v/\RelC w cs (encs τ v)/\((∀ m ∈ x.1.weights P t,m<=reachBytes)->SzV τ v)
theorem opens_fl {q:Ty->TypeId->Bool} (hq:∀ τ t,q τ t=true->Opens enc P w base spare held τ t) (n:Nat):∀ (fs:List Field) (τ:Ty) (o:Nat) (cs:List Value) (xs:List (DataW H×List MemPlace)),flB P q τ o fs=true->cs.length=o+τ.size->xs.length=fs.length->
    (∀ (i:Nat) (f:Field),fs[i]?=some f->DataW.trod enc P w base spare held n f.type ((cs.drop f.offset).take (P.cellsOf f.type))=xs[i]?)->
    ∃ v:τ.V,OkV τ v/\RelC w (cs.drop o) (encs τ v)/\((∀ m ∈ DataW.weightsEach P (fs.map (·.type)) (xs.map (·.1)),m<=reachBytes)->SzV τ v)
 | [],τ,o,cs,xs,h,_,_,_=>by cases τ <;> simp [flB] at h
 | [f],τ,o,cs,xs,h,hl,hx,ht=>by
   have h':(q τ f.type&&Nat.beq f.offset o&&Nat.beq (P.cellsOf f.type) τ.size)=true:=by cases τ <;> simpa [flB] using h
   simp only [Bool.and_eq_true] at h';obtain ⟨⟨h1,h2⟩,h3⟩:=h';have h2:=Nat.eq_of_beq_eq_true h2;have h3:=Nat.eq_of_beq_eq_true h3
   match xs,hx with
   | [x],_=>
     have g:=ht 0 f rfl;rw [h2,h3,List.take_of_length_le (by rw [List.length_drop];omega)] at g;obtain ⟨v,v1,v2,v3⟩:=hq τ f.type h1 n _ x g;refine ⟨v,v1,v2,fun hm=>v3 fun m hm'=>hm m ?_⟩;simp [DataW.weightsEach,hm']
 | f::g::fs,τ,o,cs,xs,h,hl,hx,ht=>by
   cases τ with
   | pr a b=>
     simp only [flB,Bool.and_eq_true] at h;obtain ⟨⟨⟨h1,h2⟩,h3⟩,h4⟩:=h;have h2:=Nat.eq_of_beq_eq_true h2;have h3:=Nat.eq_of_beq_eq_true h3
     match xs,hx with
     | x::xs,hx=>
       have e:=ht 0 f rfl;rw [h2,h3] at e;obtain ⟨v,v1,v2,v3⟩:=hq a f.type h1 n _ x e;have hsz:(Ty.pr a b).size=a.size+b.size:=rfl;obtain ⟨u,u1,u2,u3⟩:=opens_fl hq n (g::fs) b (o+a.size) cs xs h4 (by omega) (by simpa using hx) fun i f' hf=>ht (i+1) f' hf
       refine ⟨(v,u),⟨v1,u1⟩,?_,fun hm=>⟨v3 fun m hm'=>hm m ?_,u3 fun m hm'=>hm m ?_⟩⟩
       ·have hd:cs.drop o=(cs.drop o).take a.size++cs.drop (o+a.size):=by
         rw [← List.drop_drop,List.take_append_drop]
        rw [hd];exact v2.app u2
       ·simp only [List.map_cons,DataW.weightsEach,List.mem_append]
        exact .inl hm'
       ·simp only [List.map_cons,DataW.weightsEach,List.mem_append] at hm' ⊢
        exact .inr hm'
   | _=>simp [flB] at h
theorem trod_array {t e:TypeId} {n fuel:Nat} {cs:List Value} {x:DataW H×List MemPlace} (ht:P.underlying t=some (.array n e)) (h:DataW.trod enc P w base spare held fuel t cs=some x):
    ∃ xs:List (DataW H×List MemPlace),x.1 = .agg (xs.map (·.1))/\cs.length=P.cellsOf t/\xs.length=n/\∃ m,∀ i,i < n->DataW.trod enc P w base spare held m e ((cs.drop (i * P.cellsOf e)).take (P.cellsOf e))=xs[i]?:=by
 cases fuel with
 | zero=>cases h
 | succ m=>
   unfold DataW.trod at h;rw [ht] at h;split at h <;> simp_all;obtain ⟨hl,xs,hp,hd⟩:=h;refine ⟨xs,by rw [← hd],by simpa using Lib.mapM_length hp,m,fun i hi=>?_⟩;obtain ⟨u,hu,hfu⟩:=Lib.mapM_at hp i i (by rw [List.getElem?_range hi]);rw [hu];exact hfu
theorem opens_ar {q:Ty->TypeId->Bool} (hq:∀ τ t,q τ t=true->Opens enc P w base spare held τ t/\P.cellsOf t=τ.size) (m:Nat) (e:TypeId):∀ (n:Nat) (τ:Ty) (cs:List Value) (xs:List (DataW H×List MemPlace)),arB q e τ n=true->cs.length=τ.size->xs.length=n->
    (∀ i,i < n->DataW.trod enc P w base spare held m e ((cs.drop (i * P.cellsOf e)).take (P.cellsOf e))=xs[i]?)->
    ∃ v:τ.V,OkV τ v/\RelC w cs (encs τ v)/\((∀ m ∈ DataW.weightsAll P e (xs.map (·.1)),m<=reachBytes)->SzV τ v)
 | 0,τ,cs,xs,h,_,_,_=>by cases τ <;> simp [arB] at h
 | 1,τ,cs,xs,h,hl,hx,ht=>by
   have h':q τ e=true:=by cases τ <;> simpa [arB] using h
   obtain ⟨h1,h2⟩:=hq τ e h'
   match xs,hx with
   | [x],_=>
     have g:=ht 0 (by omega);rw [Nat.zero_mul,List.drop_zero,List.take_of_length_le (by omega)] at g;obtain ⟨v,v1,v2,v3⟩:=h1 m _ x g;exact ⟨v,v1,v2,fun hm=>v3 fun k hk=>hm k (by simp [DataW.weightsAll,hk])⟩
 | n+2,τ,cs,xs,h,hl,hx,ht=>by
   cases τ with
   | pr a b=>
     simp only [arB,Bool.and_eq_true] at h;obtain ⟨h1,h2⟩:=h;obtain ⟨h3,h4⟩:=hq a e h1
     match xs,hx with
     | x::xs,hx=>
       have g:=ht 0 (by omega);rw [Nat.zero_mul,List.drop_zero,h4] at g;obtain ⟨v,v1,v2,v3⟩:=h3 m _ x g;have hsz:(Ty.pr a b).size=a.size+b.size:=rfl;obtain ⟨u,u1,u2,u3⟩:=opens_ar hq m e (n+1) b (cs.drop a.size) xs h2 (by rw [List.length_drop];omega) (by simpa using hx) fun i hi=>by
        have:=ht (i+1) (by omega);rw [List.drop_drop,h4];rw [h4,Nat.add_mul,Nat.one_mul,Nat.add_comm] at this;exact this
       refine ⟨(v,u),⟨v1,u1⟩,?_,fun hm=>⟨v3 fun k hk=>hm k ?_,u3 fun k hk=>hm k ?_⟩⟩
       ·have:=v2.app u2
        rw [List.take_append_drop] at this;exact this
       ·simp only [List.map_cons,DataW.weightsAll,List.mem_append]
        exact .inl hk
       ·simp only [List.map_cons,DataW.weightsAll,List.mem_append]
        exact .inr hk
   | _=>simp [arB] at h
theorem opens (n:Nat):∀ (τ:Ty) (t:TypeId),tyB P n τ t=true->Opens enc P w base spare held τ t:=by
 induction n with
 | zero=>intro τ t h;cases h
 | succ n ih=>
   intro τ t h fuel cs x hx;unfold tyB at h;split at h
   ·rename_i k k' hu
    have:=of_decide_eq_true h;subst this;obtain ⟨z,rfl,rfl,hw⟩:=DataW.trod_int hu hx;exact ⟨z,hw,.one (.v _ rfl),fun _=>trivial⟩
   ·rename_i hu
    obtain ⟨z,rfl,rfl,hw⟩:=DataW.trod_int hu hx;have hb:0<=z/\z < 256:=by
     simp [Lit.wf] at hw;have h1:IntKind.u8.min=0:=rfl;have h2:IntKind.u8.max=255:=rfl;omega
    refine ⟨UInt8.ofNat z.toNat,trivial,?_,fun _=>trivial⟩;have e:encs .u8 (UInt8.ofNat z.toNat)=[.v (.int .u8 z)]:=by
     show [Tree.v (.int .u8 ((UInt8.ofNat z.toNat).toNat:Int))]=_;rw [UInt8.toNat_ofNat',show ((z.toNat % 2 ^ 8:Nat):Int)=z by omega]
    rw [e];exact .one (.v _ rfl)
   ·rename_i hu
    obtain ⟨z,rfl,rfl⟩:=DataW.trod_bool hu hx;exact ⟨z,trivial,.one (.v _ rfl),fun _=>trivial⟩
   ·rename_i hu
    obtain ⟨z,rfl,rfl,hs⟩:=DataW.trod_string hu hx;refine ⟨z.data.toList,trivial,.one (.v _ rfl),fun hm=>?_⟩;exact hm _ (by simp [DataW.weights])
   ·rename_i a e hu
    simp only [Bool.and_eq_true] at h;obtain ⟨⟨h1,h2⟩,h3,h4⟩:=h;have h2:=Nat.eq_of_beq_eq_true h2;have h3:=Nat.le_of_ble_eq_true h3;rcases DataW.trod_slice hu hx with ⟨rfl,rfl⟩ | ⟨ad,len,cap,elems,rest,m,_,rfl,rfl,hb,hlc,hcap,hel,hE,_,_⟩
    ·exact ⟨[],(fun y hy=>by cases hy),.one (.nil fun _=>rfl),fun _=>⟨by simp,fun y hy=>by cases hy⟩⟩
    ·have hs:0 < a.size:=Nat.le_of_ble_eq_true h4
     rw [h2] at hE;have hk:∀ i,i < len->∃ v:a.V,OkV a v/\(∃ ci,w.cells? base (ad.add (i * a.size)) a.size=some ci/\RelC w ci (encs a v))/\((∀ y ∈ elems.map (·.1),∀ m ∈ y.weights P e,m<=reachBytes)->SzV a v):=by
      intro i hi;have g:=hE i hi;rw [List.getElem?_eq_getElem (by omega)] at g;obtain ⟨ci,hci,hti⟩:=Option.bind_eq_some_iff.1 g;obtain ⟨v,v1,v2,v3⟩:=ih a e h1 m ci _ hti;exact ⟨v,v1,⟨ci,hci,v2⟩,fun hm=>v3 fun m' hm'=>hm _ (List.mem_map.2 ⟨_,List.getElem_mem _,rfl⟩) m' hm'⟩
     obtain ⟨l,hl,hQ⟩:=listOfN (Q:=fun i v=>OkV a v/\(∃ ci,w.cells? base (ad.add (i * a.size)) a.size=some ci/\RelC w ci (encs a v))/\((∀ y ∈ elems.map (·.1),∀ m ∈ y.weights P e,m<=reachBytes)->SzV a v)) len hk;have hmem:∀ y ∈ l,∃ i,l[i]?=some y:=fun y hy=>List.mem_iff_getElem?.1 hy
     refine ⟨l,fun y hy=>?_,?_,fun hm=>⟨?_,fun y hy=>?_⟩⟩
     ·obtain ⟨i,hi⟩:=hmem y hy
      exact (hQ i y hi).1
     ·show RelC w _ [.sl (List.length l) (List.flatMap (encs a) l)]
      rw [hl];by_cases h0:len=0
      ·subst h0
       have:l=[]:=List.length_eq_zero_iff.1 hl;subst this;exact .one (.nil fun hh=>by cases hh)
      ·-- each cell
       have cellAt:∀ i y,l[i]?=some y->∀ r,r < a.size->∃ u t,w.cell? ⟨ad.block,ad.off+(i * a.size+r),none⟩=some u/\(encs a y)[r]?=some t/\TR w (blkSize w) u t/\ad.spot=none:=by
        intro i y hy r hr;have spot0:∀ {j:Nat} {y':a.V},l[j]?=some y'->∃ ci,w.cells? base (ad.add (j * a.size)) a.size=some ci/\RelC w ci (encs a y'):=fun hy'=>(hQ _ _ hy').2.1
        obtain ⟨y0,hy0⟩:∃ y0,l[0]?=some y0:=⟨_,List.getElem?_eq_getElem (by omega)⟩
        obtain ⟨c0,hc0,_⟩:=spot0 hy0;have hsp:ad.spot=none:=by
         unfold World.cells? at hc0;split at hc0
         ·obtain ⟨u,_,hu⟩:=Lib.mapM_at hc0 0 0 (by rw [List.getElem?_range hs])
          have:=spot_none hu;simp [Addr.add] at this;have h5:=congrArg Addr.spot this;exact h5
         ·cases hc0
        obtain ⟨ci,hci,hrel⟩:=spot0 hy;unfold World.cells? at hci;split at hci
        ·obtain ⟨u,hu,hcu⟩:=Lib.mapM_at hci r r (by rw [List.getElem?_range hr])
         have hlen:=hrel.1;rw [encs_len] at hlen;obtain ⟨t,ht⟩:∃ t,(encs a y)[r]?=some t:=⟨_,List.getElem?_eq_getElem (by rw [encs_len];exact hr)⟩
         refine ⟨u,t,?_,ht,hrel.2 r u t hu ht,hsp⟩;have:(ad.add (i * a.size)).add r=⟨ad.block,ad.off+(i * a.size+r),none⟩:=by
          obtain ⟨b,o,s⟩:=ad;simp only at hsp;subst hsp;unfold Addr.add;by_cases e1:i * a.size=0 <;> by_cases e2:r=0 <;> simp [e1,e2,Nat.add_assoc]
         rw [← this];exact hcu
        ·cases hci
       obtain ⟨y0,hy0⟩:∃ y0,l[0]?=some y0:=⟨_,List.getElem?_eq_getElem (by omega)⟩
       obtain ⟨_,_,_,_,_,hsp⟩:=cellAt 0 y0 hy0 0 hs;have hflat:(List.flatMap (encs a) l).length=len * a.size:=by rw [encs_flat_len,hl]
       have all:∀ j,j < len * a.size->∃ u t,w.cell? ⟨ad.block,ad.off+j,none⟩=some u/\(List.flatMap (encs a) l)[j]?=some t/\TR w (blkSize w) u t:=by
        intro j hj;have hq:j / a.size < len:=Nat.div_lt_of_lt_mul (by rw [Nat.mul_comm];exact hj);have hr:=Nat.mod_lt j hs;have hj':j / a.size * a.size+j % a.size=j:=by rw [Nat.mul_comm];exact Nat.div_add_mod j a.size
        obtain ⟨y,hy⟩:∃ y,l[j / a.size]?=some y:=⟨_,List.getElem?_eq_getElem (by omega)⟩
        obtain ⟨u,t,h4,h5,h6,_⟩:=cellAt _ y hy _ hr;rw [hj'] at h4;refine ⟨u,t,h4,?_,h6⟩;rw [← h5,← flat_get (fun x=>encs_len a x) l _ _ y hy hr,hj']
       obtain ⟨us,hus,hU⟩:=listOfN (Q:=fun j u=>w.cell? ⟨ad.block,ad.off+j,none⟩=some u/\∃ t,(List.flatMap (encs a) l)[j]?=some t/\TR w (blkSize w) u t) (len * a.size) fun j hj=>by
        obtain ⟨u,t,h4,h5,h6⟩:=all j hj;exact ⟨u,h4,t,h5,h6⟩
       have had:ad=⟨ad.block,ad.off,none⟩:=by
        obtain ⟨b,o,s⟩:=ad;simp only at hsp;subst hsp;rfl
       rw [had];refine .one (.sl ad.block ad.off len cap us _ (by rw [hus,hflat]) (fun i u hi=>cell_blk (hU i u hi).1) hlc fun i u t hu ht=>?_);obtain ⟨_,t',h5,h6⟩:=hU i u hu;rw [ht] at h5;cases h5;exact h6
     ·have:=hm ((elems.map (·.1)).length+(rest.map (·.1)).length |> (· * P.bytesOf e)) (by simp [DataW.weights,hu])
      simp only [List.length_map] at this;have h4:len * bytesTy a<=(elems.length+rest.length) * P.bytesOf e:=Nat.mul_le_mul (by omega) h3;show List.length l * _<=_;rw [hl];omega
     ·obtain ⟨i,hi⟩:=hmem y hy
      refine (hQ i y hi).2.2 fun d hd m hm'=>hm m ?_
      have:m ∈ DataW.weightsAll P e (elems.map (·.1)):=weights_all hd hm';simp only [DataW.weights,hu,List.mem_cons,List.mem_append];exact .inr (.inl this)
   ·rename_i a b fs hu
    simp only [Bool.and_eq_true] at h;obtain ⟨h1,h2⟩:=h;have h1:=Nat.eq_of_beq_eq_true h1;obtain ⟨xs,m,rfl,rfl,hl,hxl,hf⟩:=DataW.trod_struct hu hx;obtain ⟨v,v1,v2,v3⟩:=opens_fl ih m fs.toList (.pr a b) 0 cs xs h2 (by rw [hl,h1];simp [Ty.size]) (by rw [hxl];simp) fun i f hi=>hf i f (by simpa using hi)
    refine ⟨v,v1,by simpa using v2,fun hm=>v3 fun m' hm'=>hm m' ?_⟩;simp only [DataW.weights,hu];exact hm'
   ·rename_i a b k e hu
    simp only [Bool.and_eq_true] at h;obtain ⟨h1,h2⟩:=h;have h1:=Nat.eq_of_beq_eq_true h1;obtain ⟨xs,hx1,hl,hxl,m,hf⟩:=trod_array hu hx;obtain ⟨v,v1,v2,v3⟩:=opens_ar (fun τ t h=>by
     simp only [Bool.and_eq_true] at h;exact ⟨ih τ t h.1,Nat.eq_of_beq_eq_true h.2⟩) m e k (.pr a b) cs xs h2 (by rw [hl,h1];rfl) hxl hf
    refine ⟨v,v1,v2,fun hm=>v3 fun m' hm'=>hm m' ?_⟩;rw [hx1];simp only [DataW.weights,hu];exact hm'
   ·cases h
def argD (τ:Ty) (x:τ.V):D:=match τ.one with | true=>.t (enc1 τ x) | false=>.agg ((encs τ x).map .t)
theorem RelC.cell {τ:Ty} {v:τ.V} {u:Value} (h1:τ.one=true) (h:RelC w [u] (encs τ v)):DR0 w (blkSize w) u (argD τ v):=by
 unfold argD;rw [h1];rw [encs_one h1] at h;exact .t (h.2 0 _ _ rfl rfl)
theorem okWide_arr {n:Nat} {e t:TypeId} {r:Reach} {b0:Nat} {v:Value} (ht:P.underlying t=some (.array n e)) (h:Value.okWide P w r b0 t v):∃ cs,v = .agg cs/\cs.size=P.cellsOf t:=by
 simp only [Value.okWide,ht] at h;obtain ⟨cs,h1,h2,_⟩:=h;exact ⟨cs,h1,h2⟩
theorem arg_of {n:Nat} {τ:Ty} {t:TypeId} (hτ:tyB P n τ t=true) {r:Reach} {b0:Nat} {v:Value} {d:DataW H} {ps:List MemPlace} (hval:Value.okWide P w r b0 t v) (hd:DataW.Trod enc P w base spare held t v d ps):
    ∃ x:τ.V,OkV τ x/\DR0 w (blkSize w) v (argD τ x)/\((∀ m ∈ d.weights P t,m<=reachBytes)->SzV τ x):=by
 obtain ⟨fuel,hf⟩:=hd;obtain ⟨x,x1,x2,x3⟩:=opens n τ t hτ fuel _ _ hf;refine ⟨x,x1,?_,x3⟩;cases n with
 | zero=>cases hτ
 | succ n=>
   unfold tyB at hτ;split at hτ
   ·rename_i hu
    obtain ⟨z,rfl⟩:=okWide_int hu hval;exact RelC.cell rfl x2
   ·rename_i hu
    obtain ⟨z,rfl⟩:=okWide_int hu hval;exact RelC.cell rfl x2
   ·rename_i hu
    obtain ⟨z,rfl⟩:=okWide_bool hu hval;exact RelC.cell rfl x2
   ·rename_i hu
    obtain ⟨z,rfl⟩:=okWide_string hu hval;exact RelC.cell rfl x2
   ·rename_i hu
    obtain ⟨a,l,c,rfl⟩:=okWide_slice hu hval;exact RelC.cell rfl x2
   ·rename_i a b fs hu
    obtain ⟨cs,rfl,hcs⟩:=okWide_struct hu hval;have hc:(Value.agg cs).cells.toList=cs.toList:=rfl;rw [hc] at x2;refine .agg (by have:=x2.1;simpa using this) (fun i u d' hu' hd'=>?_) fun u hu'=>?_
    ·rw [List.getElem?_map] at hd'
     obtain ⟨tr,ht,rfl⟩:=Option.map_eq_some_iff.1 hd';exact .t (x2.2 i u tr (by simpa using hu') ht)
    ·obtain ⟨i,hi⟩:=List.mem_iff_getElem?.1 hu'
     obtain ⟨tr,ht⟩:∃ tr,(encs (.pr a b) x)[i]?=some tr:=⟨_,List.getElem?_eq_getElem (by rw [← x2.1];exact (List.getElem?_eq_some_iff.1 hi).1)⟩
     exact (x2.2 i u tr hi ht).one
   ·rename_i a b k e hu
    obtain ⟨cs,rfl,hcs⟩:=okWide_arr hu hval;have hc:(Value.agg cs).cells.toList=cs.toList:=rfl;rw [hc] at x2;refine .agg (by have:=x2.1;simpa using this) (fun i u d' hu' hd'=>?_) fun u hu'=>?_
    ·rw [List.getElem?_map] at hd'
     obtain ⟨tr,ht,rfl⟩:=Option.map_eq_some_iff.1 hd';exact .t (x2.2 i u tr (by simpa using hu') ht)
    ·obtain ⟨i,hi⟩:=List.mem_iff_getElem?.1 hu'
     obtain ⟨tr,ht⟩:∃ tr,(encs (.pr a b) x)[i]?=some tr:=⟨_,List.getElem?_eq_getElem (by rw [← x2.1];exact (List.getElem?_eq_some_iff.1 hi).1)⟩
     exact (x2.2 i u tr hi ht).one
   ·cases hτ
end
end Go.Ax
