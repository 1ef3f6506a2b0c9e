/- A builder: its first byte, its growth. Conditions are in the theorems. -/
import Derived.Test.YtipllfcmdnellaaDoorF0
import Derived.Test.YtipllfcmdnellaaDoorE7
import Derived.Lib.Builder
import Derived.Lib.UnsafeStr
import Derived.Lib.FrozenHead
import Derived.KernelRfl
import Derived.Lib.MakeNoZero
import Derived.Laws.IdiomCopy
import Derived.WalkKit
/- A builder's look at its own address. -/
namespace Go.Proofs
open Go Go.RowKit
set_option maxHeartbeats 1000000 in
set_option maxRecDepth 100000 in
theorem copy_used (b:Nat) (w:World) (h0:w.cell? ⟨b,0,none⟩=some (.pointer (some ⟨b,0,none⟩))):
    Calls Tryd.prog 52 #[.pointer (some ⟨b,0,none⟩)] w fun e w'=>e = .returned (.tuple #[])/\w'=w:=by
 obtain ⟨j,hj,_⟩:∃ j,Tryd.prog.info? 74=some j/\j.size=2:=Option.map_eq_some_iff.1 (by kernel_rfl:(Tryd.prog.info? 74).map (·.size)=some 2)
 go_enter Tryd.func52,Tryd.ntmps52
 go_wp2
 rw [Lib.run_neq_ptr_same w _ Tryd.underlying71 hj]
 go_wp2
 go_end0
 exact ⟨rfl,rfl⟩
set_option maxHeartbeats 1000000 in
set_option maxRecDepth 100000 in
theorem copy_fresh (b:Nat) (w:World) (h0:w.cell? ⟨b,0,none⟩=some (.pointer none)) (hsh:w.shape? b=some (74,2)) (hfz:w.frozen? ⟨b,0,none⟩=false):
    Calls Tryd.prog 52 #[.pointer (some ⟨b,0,none⟩)] w fun e w'=>e = .returned (.tuple #[])/\w'=w.setCell ⟨b,0,none⟩ (.pointer (some ⟨b,0,none⟩)):=by
 obtain ⟨j,hj,hjs⟩:∃ j,Tryd.prog.info? 74=some j/\j.size=2:=Option.map_eq_some_iff.1 (by kernel_rfl:(Tryd.prog.info? 74).map (·.size)=some 2)
 go_enter Tryd.func52,Tryd.ntmps52
 go_wp2
 rw [Lib.run_to_unsafe w ⟨b,0,none⟩ Tryd.underlying71 Tryd.underlying109 hj (by rw [hjs];decide) hsh (Nat.zero_lt_succ 1)];simp only [Result.andThen];rw [Oper.upon_value]
 go_wp2
 rw [run_callFunc_extern Tryd.func63 (by kernel_rfl) (by kernel_rfl) (by kernel_rfl) (e:=Extern.AbiNoEscape.same) (by kernel_rfl)];rw [Lib.run_noEscape];simp only [Result.andThen];rw [Oper.upon_value]
 go_wp2
 rw [Lib.run_from_unsafe w ⟨b,0,none⟩ Tryd.underlying109 Tryd.underlying71 hj hsh (by kernel_rfl)];simp only [Result.andThen];rw [Oper.upon_value]
 go_wp2
 go_end0
 exact ⟨rfl,rfl⟩
open Go.Ax Go.Ab
theorem copy_does (d:D) (H:List (Nat×AObj)):Does Tryd.prog 52 [.ref 50 0] ((50,.box 74 [.via 50 (viaR 0),d])::H) (.tup []) ((50,.box 74 [.via 50 (viaR 0),d])::H):=by
 intro E w vs hE0 hm hsz ⟨ν,G,I⟩;obtain ⟨v,hv,hdv⟩:=I.T 0 (.ref 50 0) rfl;obtain ⟨g0,hg,rfl,hnm⟩:=ref_of hdv;have hvs:vs = #[.pointer (some ⟨g0,0,none⟩)]:=by
  apply Array.ext';have h1:vs.size=1:=hsz
  match h:vs.toList with
  | [a]=>
    have:vs[0]?=some a:=by rw [← Array.getElem?_toList,h];rfl
    rw [hv] at this;cases this;rfl
  | []=>rw [← Array.length_toList,h] at h1;cases h1
  | a::b::l=>rw [← Array.length_toList,h] at h1;cases h1
 subst hvs;have hob0:=I.H 50 _ (show Ab.look 50 ((50,AObj.box 74 [.via 50 (viaR 0),d])::H)=some _ from rfl);obtain ⟨_,g,cur,h1,h2,h3,h4,h5,h6⟩:=id hob0;rw [h1] at hg;cases hg;obtain ⟨c0,c1,hcur⟩:∃ c0 c1,cur = #[c0,c1]:=by
  have h5:cur.size=2:=h5;refine ⟨cur[0],cur[1],?_⟩;apply Array.ext
  ·exact h5
  ·intro i h7 h8
   match i,h7,h8 with
   | 0,_,_=>rfl
   | 1,_,_=>rfl
 subst hcur;have hc0:=(h6 0 c0 _ rfl rfl).1;have hc1:=h6 1 c1 d rfl rfl;have hrel:c0 = .pointer none\/c0 = .pointer (some ⟨g,0,none⟩):=by
  have:=via_of hc0;rw [h1] at this;exact this
 have fin:∀ w',(∃ x,(x = .pointer none\/x = .pointer (some ⟨g,0,none⟩))/\w'.heap[g]?=some (.cells #[x,c1] 74 (0,0)))->w'.os=w.os->w'.tape=w.tape->w'.output=w.output->w'.heap.size=w.heap.size->(∀ b,b≠g->w'.heap[b]?=w.heap[b]?)->
     ∃ v,Ending.returned (.tuple #[]) = .returned v/\R { E with m:=1 } (res (.tup []) ((50,.box 74 [.via 50 (viaR 0),d])::H)) #[v] w':=fun w' ⟨x,hx,hxg⟩ s1 s2 s3 s4 s5=>by
  have hcell:∀ b i u,Cell w G b i u->Cell w' G b i u:=fun b i u h=>by
   have hne:b≠g:=fun e=>by have:=h.2;rw [e,h4] at this;omega
   exact ⟨(World.cell?_of_block (a:=⟨b,i,none⟩) (s5 b hne)).trans h.1,h.2⟩
  have J:=rowset (a:=⟨#[.pointer (some ⟨g,0,none⟩)],[]⟩) (w':=w') (ob':=.box 74 [.via 50 (viaR 0),d]) (fr:=100) (dst:=none) (v:=.tuple #[]) (d:=.any) I (k:=50) rfl (by rw [h1];rfl) h4 (fun _ _ _=>Iff.rfl) (fun _ _ _=>Iff.rfl) s1 s2 s3 s4 s5 hcell
   ⟨g,_,h1,h2,hxg,h4,rfl,fun i u e hu he=>by
    match i,hu,he with
    | 0,hu,he=>cases hu;cases he;exact ⟨.via hob0.1 (by rw [h1];exact hx) (by rcases hx with rfl | rfl <;> rfl),by rcases hx with rfl | rfl <;> rfl⟩
    | 1,hu,he=>cases hu;cases he;exact ⟨hc1.1.mono (fun _ h=>⟨h,rfl⟩) hcell,hc1.2⟩
    | i+2,hu,he=>simp at he⟩ (fun _ h=>by cases h) .any
  have hHeq:∀ k o,Ab.look k ((50,AObj.box 74 [.via 50 (viaR 0),d])::H)=some o->((mk (fun t=>Ab.look t []) (fun k=>Ab.look k ((50,AObj.box 74 [.via 50 (viaR 0),d])::H)) 100).upd none .any [(50,some (.box 74 [.via 50 (viaR 0),d]))] 100).H k=some o:=fun k o h=>by
   simp only [St.upd,Ab.look] at h ⊢;by_cases e:50=k
   ·rw [if_pos e] at h ⊢;exact h
   ·rw [if_neg e] at h ⊢;simp only [if_neg e];exact h
  exact ⟨_,rfl,ν,G,⟨J.kept.os,J.kept.tape,J.kept.output,J.kept.size,J.kept.block⟩,J.keep,J.pin,J.g0,rfl,fun t d' ht=>by
   cases t with
   | zero=>cases ht;exact ⟨_,rfl,.tup rfl fun i u d hu hd=>by simp at hd⟩
   | succ t=>exact absurd (show (none:Option D)=some _ from ht) (by simp),fun k o hk=>by
     obtain ⟨q1,q2⟩:=J.H k o (hHeq k o hk);have hn:∀ j,(decide (j < 100)||(decide (100<=j)&&decide (j < 100+8)))=true->decide (j < 108)=true/\ν j=ν j:=fun j hj=>⟨by simp at hj ⊢;omega,rfl⟩
     exact ⟨(hn k q1).1,q2.mono q1 hn (fun _ _ _ h=>h) (fun _ _=>⟨rfl,rfl⟩)⟩,fun k o k' o' hk hk'=>J.dis k o k' o' (hHeq k o hk) (hHeq k' o' hk')⟩
 rcases hrel with rfl | rfl
 ·refine (copy_fresh g w (by simp [World.cell?,h3]) (by simp [World.shape?,h3]) (by simp [World.frozen?,h3])).mono ?_
  rintro e w' ⟨rfl,rfl⟩;have hlt:g < w.heap.size:=heap_lt h3;exact fin _ ⟨_,.inr rfl,by simp [World.setCell,Array.getElem?_modify,h3]⟩ rfl rfl rfl (by simp [World.setCell]) (fun b hb=>by simp [World.setCell,Array.getElem?_modify,Ne.symm hb])
 ·refine (copy_used g w (by simp [World.cell?,h3])).mono ?_
  rintro e w' ⟨rfl,rfl⟩;exact fin _ ⟨_,.inr rfl,h3⟩ rfl rfl rfl rfl (fun _ _=>rfl)
theorem w52io {xs:List X} {H:XH} {d:Option (Bool×List UInt8)} (h:w52in xs H=some d):xs=[.ref 50 0]/\H=w52H d:=by
 unfold w52in at h;split at h
 ·split at h
  ·rename_i he
   have he:=Nat.eq_of_beq_eq_true he;subst he;split at h
   ·cases h;exact ⟨rfl,rfl⟩
   ·cases h
  ·cases h
 ·split at h
  ·rename_i he
   have he:=Nat.eq_of_beq_eq_true he;subst he;split at h
   ·split at h
    ·rename_i h2;cases h;rw [ur_some h2];exact ⟨rfl,rfl⟩
    ·split at h
     ·rename_i h2;cases h;rw [ur_some h2];exact ⟨rfl,rfl⟩
     ·cases h
   ·cases h
  ·cases h
 ·cases h
theorem w52ok (N:Nat):EOk Tryd.prog 52 (w52e N):=entR_ok (az:=fun _=>[.ref 50 0]) w52io (fun d _=>by
 cases d with
 | none=>exact copy_does _ _
 | some p=>exact copy_does _ _)
end Go.Proofs
/- A builder's Grow, ahead of its first byte. -/
namespace Go.Proofs
open Go Go.RowKit
structure Grew (b:Nat) (w w':World):Prop where
 os:w'.os=w.os
 tape:w'.tape=w.tape
 output:w'.output=w.output
 size:w'.heap.size=w.heap.size+1
 old:∀ i,i≠b->i < w.heap.size->w'.heap[i]?=w.heap[i]?
 new:∃ cs:Array Value,cs.size<=maxLen/\w'.heap[w.heap.size]?=some (.cells cs 5 (0,0))/\w'.heap[b]?=some (.cells #[.pointer (some ⟨b,0,none⟩),.slice (some ⟨w.heap.size,0,none⟩) 0 cs.size] 74 (0,0))
theorem grew_mk (b:Nat) (w:World) (cs:Array Value) (hbk:w.heap[b]?=some (.cells #[.pointer (some ⟨b,0,none⟩),.slice none 0 0] 74 (0,0))) (hm:cs.size<=maxLen):Grew b w (((w.setCell ⟨b,1,none⟩ (.slice (some ⟨w.heap.size,0,none⟩) 0 cs.size)).alloc (.cells cs 5)).drew.drew.drew):=by
 have hlt:b < w.heap.size:=by
  rcases Nat.lt_or_ge b w.heap.size with h' | h'
  ·exact h'
  ·simp [Array.getElem?_eq_none h'] at hbk
 have hh:(((w.setCell ⟨b,1,none⟩ (.slice (some ⟨w.heap.size,0,none⟩) 0 cs.size)).alloc (.cells cs 5)).drew.drew.drew).heap=(w.setCell ⟨b,1,none⟩ (.slice (some ⟨w.heap.size,0,none⟩) 0 cs.size)).heap.push (.cells cs 5):=rfl;have hs:(w.setCell ⟨b,1,none⟩ (.slice (some ⟨w.heap.size,0,none⟩) 0 cs.size)).heap.size=w.heap.size:=by simp [World.setCell]
 refine ⟨rfl,rfl,rfl,?_,fun i hne hi=>?_,cs,hm,?_,?_⟩
 ·rw [hh,Array.size_push,hs]
 ·rw [hh,Array.getElem?_push_lt (by rw [hs];exact hi),← Array.getElem?_eq_getElem]
  simp [World.setCell,Array.getElem?_modify,Ne.symm hne]
 ·have e:=Array.getElem?_push_size (xs:=(w.setCell ⟨b,1,none⟩ (.slice (some ⟨w.heap.size,0,none⟩) 0 cs.size)).heap) (x:=Obj.cells cs 5)
  rw [hs] at e;rw [hh];exact e
 ·rw [hh,Array.getElem?_push_lt (by rw [hs];exact hlt),← Array.getElem?_eq_getElem]
  simp [World.setCell,Array.getElem?_modify,hbk]
set_option maxHeartbeats 2000000 in
set_option maxRecDepth 1000000 in
theorem grow_fresh (b n:Nat) (w:World) (hbk:w.heap[b]?=some (.cells #[.pointer (some ⟨b,0,none⟩),.slice none 0 0] 74 (0,0))) (hn:n<=140737488355328):
    Calls Tryd.prog 64 #[.pointer (some ⟨b,0,none⟩),.int .i64 n] w fun e w'=>e = .returned (.tuple #[])/\Grew b w w':=by
 obtain ⟨cs,hrun,hle,hmax⟩:=Lib.run_makeNoZero (P:=Tryd.prog) w.drew #[3] 72 5 Tryd.underlying72 n (by omega);have hw:IntKind.i64.wrap (IntKind.i64.wrap 0+(n:Int))=n:=by
  rw [IntKind.wrap_i64,IntKind.wrap_i64];omega
 have hcall:(callFunc 72 #[.int .i64 (IntKind.i64.wrap (IntKind.i64.wrap 0+(n:Int)))]).run Tryd.prog w.drew = .ok (.value (.slice (some ⟨w.drew.heap.size,0,none⟩) n cs.size)) (w.drew.drew.drew.alloc (.cells cs 5)):=by
  rw [hw,run_callFunc_extern Tryd.func72 (by kernel_rfl) (by kernel_rfl) (by kernel_rfl) (e:=Extern.BytealgMakeNoZero.makeNoZero #[3] #[72]) (by kernel_rfl),hrun];rfl
 have c1:w.drew.cell? ⟨b,1,none⟩=some (.slice none 0 0):=by
  have:w.drew.heap[b]?=_:=hbk;rw [Lib.cell_of_heap this];rfl
 have hlt:b < w.heap.size:=by
  rcases Nat.lt_or_ge b w.heap.size with h' | h'
  ·exact h'
  ·simp [Array.getElem?_eq_none h'] at hbk
 have c2:(w.alloc (.cells cs 5)).cell? ⟨b,1,none⟩=some (.slice none 0 0):=by
  have:(w.alloc (.cells cs 5)).heap[b]?=_:=(Lib.alloc_old w _ b hlt).trans hbk;rw [Lib.cell_of_heap this];rfl
 have f2:(w.alloc (.cells cs 5)).frozen? ⟨b,1,none⟩=false:=Lib.frozen_of_heap ((Lib.alloc_old w _ b hlt).trans hbk) 1;have hcopy:∀ W:World,(Builtin.copy_ #[72,72] 3 #[.slice (some ⟨w.heap.size,0,none⟩) 0 cs.size,.slice none 0 0]).run Tryd.prog W = .ok (goInt 0) W:=
  fun W=>run_copy_none W 72 72 3 5 _ _ 0 cs.size 0 0 Tryd.underlying72 (by kernel_rfl) rfl
 clear hw;have hfin:=grew_mk b w cs hbk (hmax (by unfold maxLen;omega))
 go_enter Tryd.func64,Tryd.ntmps64
 go_wp2
 go_region
 all_goals (go_wp2;go_end0;exact ⟨rfl,hfin⟩)
end Go.Proofs
/- A builder's Grow, ahead of its first byte: the contract. -/
namespace Go.Proofs
open Go Go.RowKit
theorem copy_any (b:Nat) (w:World) (p:Value) (hp:p = .pointer none\/p = .pointer (some ⟨b,0,none⟩)) (hbk:w.heap[b]?=some (.cells #[p,.slice none 0 0] 74 (0,0))):
    Calls Tryd.prog 52 #[.pointer (some ⟨b,0,none⟩)] w fun e w'=>e = .returned (.tuple #[])/\w'.heap[b]?=some (.cells #[.pointer (some ⟨b,0,none⟩),.slice none 0 0] 74 (0,0))/\w'.os=w.os/\w'.tape=w.tape/\w'.output=w.output/\w'.heap.size=w.heap.size/\∀ i,i≠b->w'.heap[i]?=w.heap[i]?:=by
 rcases hp with rfl | rfl
 ·refine (copy_fresh b w (by simp [World.cell?,hbk]) (by simp [World.shape?,hbk]) (by simp [World.frozen?,hbk])).mono ?_
  rintro e w' ⟨rfl,rfl⟩;exact ⟨rfl,by simp [World.setCell,Array.getElem?_modify,hbk],rfl,rfl,rfl,by simp [World.setCell],fun i hi=>by simp [World.setCell,Array.getElem?_modify,Ne.symm hi]⟩
 ·refine (copy_used b w (by simp [World.cell?,hbk])).mono ?_
  rintro e w' ⟨rfl,rfl⟩;exact ⟨rfl,hbk,rfl,rfl,rfl,rfl,fun _ _=>rfl⟩
set_option maxHeartbeats 2000000 in
set_option maxRecDepth 1000000 in
theorem grow_all (b n:Nat) (w:World) (p:Value) (hp:p = .pointer none\/p = .pointer (some ⟨b,0,none⟩)) (hbk:w.heap[b]?=some (.cells #[p,.slice none 0 0] 74 (0,0))) (h0:0 < n) (hn:n<=140737488355328):
    Calls Tryd.prog 53 #[.pointer (some ⟨b,0,none⟩),.int .i64 n] w fun e w'=>e = .returned (.tuple #[])/\Grew b w w':=by
 go_enter Tryd.func53,Tryd.ntmps53
 go_wp2_with (go_at_call 52;refine (copy_any b w p hp hbk).mono ?_)
 rintro e w1 ⟨rfl,h1,s1,s2,s3,s4,s5⟩;have c1:w1.drew.cell? ⟨b,1,none⟩=some (.slice none 0 0):=by
  have:w1.drew.heap[b]?=_:=h1;rw [Lib.cell_of_heap this];rfl
 go_wp2
 go_region
 all_goals go_wp2_with (go_at_call 64;refine (grow_fresh b n w1.drew h1 hn).mono ?_;rintro e w' ⟨rfl,hG⟩)
 all_goals first
  | (go_end0;exact ⟨rfl,hG.os.trans s1,hG.tape.trans s2,hG.output.trans s3,hG.size.trans (congrArg (· + 1) s4),fun i hi hl=>(hG.old i hi (by show i < w1.heap.size;omega)).trans (s5 i hi),by
      obtain ⟨cs,q1,q2,q3⟩:=hG.new;have q2:w'.heap[w1.heap.size]?=_:=q2;have q3:w'.heap[b]?=some (.cells #[.pointer (some ⟨b,0,none⟩),.slice (some ⟨w1.heap.size,0,none⟩) 0 cs.size] 74 (0,0)):=q3;rw [s4] at q2 q3;exact ⟨cs,q1,q2,q3⟩⟩)
  | (exfalso;omega)
end Go.Proofs
/- A builder's Grow, in the run's words. -/
namespace Go.Proofs
open Go Go.RowKit Go.Ax Go.Ab
theorem grow_does (n:Int) (h0:0 < n) (hn:n<=140737488355328):Does Tryd.prog 53 [.ref 50 0,.t (.v (.int .i64 n))] [(50,.box 74 [.via 50 (viaR 0),.t (.v (.slice none 0 0))])] (.tup []) [(50,.box 74 [.via 50 (viaR 0),.own 100]),(100,.row 5 1 0 [] true)]:=by
 intro E w vs hE0 hm hsz ⟨ν,G,I⟩;obtain ⟨v,hv,hdv⟩:=I.T 0 (.ref 50 0) rfl;obtain ⟨u,hu,hdu⟩:=I.T 1 (.t (.v (.int .i64 n))) rfl;obtain ⟨g0,hg,rfl,hnm⟩:=ref_of hdv;have:=bool_of hdu;subst this;have hvs:vs = #[.pointer (some ⟨g0,0,none⟩),.int .i64 n]:=by
  apply Array.ext';have h1:vs.size=2:=hsz
  match h:vs.toList with
  | [a,b]=>
    have e1:vs[0]?=some a:=by rw [← Array.getElem?_toList,h];rfl
    have e2:vs[1]?=some b:=by rw [← Array.getElem?_toList,h];rfl
    rw [hv] at e1;rw [hu] at e2;cases e1;cases e2;rfl
  | []=>rw [← Array.length_toList,h] at h1;cases h1
  | [a]=>rw [← Array.length_toList,h] at h1;cases h1
  | a::b::c::l=>rw [← Array.length_toList,h] at h1;simp at h1
 subst hvs;obtain ⟨_,g,cur,h1,h2,h3,h4,h5,h6⟩:=I.H 50 _ (show Ab.look 50 [(50,AObj.box 74 [.via 50 (viaR 0),.t (.v (.slice none 0 0))])]=some _ from rfl);rw [h1] at hg;cases hg;obtain ⟨c0,c1,hcur⟩:∃ c0 c1,cur = #[c0,c1]:=by
  have h5:cur.size=2:=h5;refine ⟨cur[0],cur[1],?_⟩;apply Array.ext
  ·exact h5
  ·intro i h7 h8
   match i,h7,h8 with
   | 0,_,_=>rfl
   | 1,_,_=>rfl
 subst hcur;have hrel:c0 = .pointer none\/c0 = .pointer (some ⟨g,0,none⟩):=by
  have:=via_of (h6 0 c0 _ rfl rfl).1;rw [h1] at this;exact this
 have:=bool_of (h6 1 c1 (.t (.v (.slice none 0 0))) rfl rfl).1;subst this;have hlt:g < w.heap.size:=heap_lt h3;have hnn:((n.toNat:Nat):Int)=n:=by omega
 have hc:=grow_all g n.toNat w c0 hrel h3 (by omega) (by omega);rw [hnn] at hc;refine hc.mono ?_;rintro e w' ⟨rfl,hG⟩;obtain ⟨cs,q1,q2,q3⟩:=hG.new;have hX:∀ b,b < w.heap.size->¬ E.X b->b≠g:=fun b hb hx e=>by
  subst e;rcases h2 with h | h
  ·rw [hE0] at h;omega
  ·exact hx h
 have hcell:∀ b i u,Cell w G b i u->Cell w' (fun b=>if b=w.heap.size then 0 else G b) b i u:=fun b i u h=>by
  have hne:b≠g:=fun e=>by have:=h.2;rw [e,h4] at this;omega
  have hb:b < w.heap.size:=h.lt;refine ⟨(World.cell?_of_block (a:=⟨b,i,none⟩) (hG.old b hne hb)).trans h.1,?_⟩;show i < if b=w.heap.size then 0 else G b
  rw [if_neg (by omega)];exact h.2
 obtain ⟨ν',hν'⟩:∃ ν':Nat->Value,ν'=fun k=>if k=100 then .slice (some ⟨w.heap.size,0,none⟩) 0 cs.size else ν k:=⟨_,rfl⟩
 have n50:ν' 50 = .pointer (some ⟨g,0,none⟩):=by rw [hν'];exact h1
 have n100:ν' 100 = .slice (some ⟨w.heap.size,0,none⟩) 0 cs.size:=by rw [hν'];rfl
 have two:∀ k o,Ab.look k [(50,AObj.box 74 [.via 50 (viaR 0),.own 100]),(100,.row 5 1 0 [] true)]=some o->(k=50/\o = .box 74 [.via 50 (viaR 0),.own 100])\/(k=100/\o = .row 5 1 0 [] true):=fun k o hk=>by
  unfold Ab.look at hk;split at hk
  ·rename_i e;cases hk;exact .inl ⟨e.symm,rfl⟩
  ·unfold Ab.look at hk
   split at hk
   ·rename_i e;cases hk;exact .inr ⟨e.symm,rfl⟩
   ·cases hk
 refine ⟨_,rfl,ν',fun b=>if b=w.heap.size then 0 else G b,⟨by rw [hG.os,hE0],by rw [hG.tape,hE0],by rw [hG.output,hE0],by rw [hG.size,hE0];omega,fun b hb hx=>?_⟩,fun b i u h=>hcell b i u (I.keep b i u h),fun k a1 a2=>?_,fun b hb hx=>?_,rfl,fun t d' ht=>?_,fun k o hk=>?_,fun k o k' o' hk hk' hne f=>?_⟩
 ·rw [hE0] at hb ⊢
  exact hG.old b (hX b hb hx) hb
 ·have a2:k < 100:=a2
  rw [hν'];show (if k=100 then _ else ν k)=_;rw [if_neg (by omega)];exact I.pin k a1 a2
 ·have hb':b < w.heap.size:=by rw [← hE0];exact hb
  show (if b=w.heap.size then 0 else G b)=_;rw [if_neg (by omega)];exact I.g0 b hb hx
 ·cases t with
  | zero=>cases ht;exact ⟨_,rfl,.tup rfl fun i u d hu hd=>by simp at hd⟩
  | succ t=>exact absurd (show (none:Option D)=some _ from ht) (by simp)
 ·rcases two k o hk with ⟨rfl,rfl⟩ | ⟨rfl,rfl⟩
  ·refine ⟨by decide,g,_,n50,h2,q3,?_,rfl,fun i u d hu hd=>?_⟩
   ·show (if g=w.heap.size then 0 else G g)=0
    rw [if_neg (by omega)];exact h4
   ·match i,hu,hd with
    | 0,hu,hd=>
      cases hu;cases hd;exact ⟨.via (by decide) (by rw [n50];exact .inr rfl) rfl,rfl⟩
    | 1,hu,hd=>
      cases hu;cases hd;have:DR ν' (fun k=>decide (k < 108)) w' (fun b=>if b=w.heap.size then 0 else G b) (ν' 100) (.own 100):=.own (by decide) (by rw [n100];rfl);rw [n100] at this;exact ⟨this,rfl⟩
    | i+2,hu,hd=>simp at hd
  ·refine ⟨by decide,[],⟨rfl,.inr ⟨w.heap.size,cs.size,cs,by rw [n100],Nat.zero_le _,q2,Nat.zero_le _,q1,by rw [Nat.mul_one],rfl⟩⟩,rfl,fun i u t hu _=>by simp at hu,fun b hb=>?_⟩
   rw [n100] at hb;cases hb;exact ⟨.inl (by show E.w0.heap.size<=_;rw [hE0];exact Nat.le_refl _),if_pos rfl⟩
 ·have b50:∀ f,foot w' (ν' 50) (AObj.box 74 [.via 50 (viaR 0),.own 100]) f->f=g:=fun f h=>by
   have h:blk (ν' 50)=some f:=h;rw [n50] at h;cases h;rfl
  have b100:∀ f,foot w' (ν' 100) (AObj.row 5 1 0 [] true) f->f=w.heap.size:=fun f h=>by
   have h:blk (ν' 100)=some f:=h;rw [n100] at h;cases h;rfl
  rcases two k o hk with ⟨rfl,rfl⟩ | ⟨rfl,rfl⟩ <;> rcases two k' o' hk' with ⟨rfl,rfl⟩ | ⟨rfl,rfl⟩
  ·exact absurd rfl hne
  ·intro a b;have:=b50 _ a;have:=b100 _ b;omega
  ·intro a b;have:=b100 _ a;have:=b50 _ b;omega
  ·exact absurd rfl hne
theorem nilB {α:Type} {l:List X} {o:Option α} {d:α} (h:(match l with | [.via 50 0,.nilS]=>o | _=>none)=some d):l=[.via 50 0,.nilS]/\o=some d:=by
 split at h
 ·exact ⟨rfl,h⟩
 ·cases h
theorem w53io {xs:List X} {H:XH} {d:Int} (h:w53in xs H=some d):xs=[.ref 50 0,.e (.i .i64) d]/\H=[(50,.box 74 [.via 50 0,.nilS])]:=by
 unfold w53in at h;split at h
 ·rename_i x e l
  generalize hb:Nat.beq e 74=b at h;cases b with
  | false=>cases h
  | true=>
    have he:=Nat.eq_of_beq_eq_true hb;subst he;obtain ⟨rfl,h⟩:=nilB (l:=l) (o:=ue (.i .i64) x) (d:=d) h;rw [ue_some h];exact ⟨rfl,rfl⟩
 ·cases h
theorem w53ok (N:Nat):EOk Tryd.prog 53 (w53e N):=entR_ok (az:=fun d=>[.ref 50 0,.e (.i .i64) d]) (HH:=fun _=>[(50,.box 74 [.via 50 0,.nilS])]) w53io (fun d h=>by
 have h:=of_decide_eq_true h;exact grow_does d h.1 h.2)
end Go.Proofs
