/- Lines of codes. Conditions are in the theorems. -/
import Derived.Test.YtihfefggdgiodaaGreatDoorF1
import Derived.Lib.ItoaMem
import Derived.Lib.ItoaLen
import Derived.Test.YtihfefggdgiodaaGreatDoorF0
import Derived.Lib.AppendIntMem
open Array renaming getElem?_eq_getElem->iM,getElem?_eq_some_iff->eF,replicate->k4
open List renaming getElem?_append_right->eE,length_append->bF,length_cons->dK
open Nat renaming eq_of_beq_eq_true->bH,le_refl->bX,le_trans->iR,lt_of_lt_of_le->kL,zero_add->cY,zero_lt_one->aXA
/- The codes of a line, given one by one: rounds and ranges. -/
namespace Go.It
open Go Go.RowKit Go.Ab Go.Ax Go.Proofs
theorem aQr{P0:Nat}{l:Nat}{L:List (List UInt8)}{J:Nat->World->Prop}{X:World->Nat->Prop}(R:Rc Tryz.prog P0 l L J X){Y k n:Nat}{x:List UInt8}{u:Value}{A:World}{b:Act}{ro:Option Nat}(hsz:b.tmps.size=37)(e2:b.eval (.tmp 2) = .pointer (some ⟨Y,0,none⟩))(ex:b.eval (.tmp 5)=u)
    (hY:A.heap[Y]?=some (.cells #[.func (.yield l) #[] #[]] 57 (0,0))) (hJ:J k A) (hx:L[k]?=some x) (hby:By A u x) (hu:∀g,aQ u=some g->P0<=g/\¬ X A g) {Q:Exit->Act->World->Prop} (hQ:∀a' B,J (k+1) B->Kz X A B->Q .normal a' B):
    (Code.seq (Code.region 5 [R2,R1,R0,RZ].toArray false) (Code.cond (Operand.tmp 21) Code.ret Code.skip)).wpIn (Fr ro) n Tryz.prog Q b A:=by
 obtain⟨q,uq,ur⟩:=kT (P:=Tryz.prog) (t:=57) (b:=false) (by kernel_rfl);refine wpIn_seq (wpIn_region_lit ?_);refine cK rfl (nd rfl) (qO uq ur e2 (Fh hY)) ?_;refine cK rfl (nd rfl) (kF (v:=u) (by simp[bE,hsz,ex])) ?_;refine L0 rfl (nd rfl) (Kv (l:=l) (u:=u) (by simp[bE,bD,hsz]) (by simp[bE,bD,hsz])) (R.y k x u A hJ hx hby hu) ?_;rintro e B ⟨rfl,hJ2,hk2⟩;refine⟨_,rfl,?_⟩;refine cK rfl (nd rfl) (Kw (b:=true) (by simp[bE,bD,hsz])) (wpListIn_nil ?_);exact wpIn_cond (t:=false) (by simp[bE,bD,hsz]) (wpIn_skip (hQ _ _ hJ2 hk2))
theorem aQq{P0:Nat}{l:Nat}{L:List (List UInt8)}{J:Nat->World->Prop}{X:World->Nat->Prop}(R:Rc Tryz.prog P0 l L J X){Y k n:Nat}{x:List UInt8}{u:Value}{A:World}{b:Act}{ro:Option Nat}(hsz:b.tmps.size=37)(e2:b.eval (.tmp 2) = .pointer (some ⟨Y,0,none⟩))(ex:b.eval (.tmp 6)=u)
    (hY:A.heap[Y]?=some (.cells #[.func (.yield l) #[] #[]] 57 (0,0))) (hJ:J k A) (hx:L[k]?=some x) (hby:By A u x) (hu:∀g,aQ u=some g->P0<=g/\¬ X A g) {Q:Exit->Act->World->Prop} (hQ:∀a' B,J (k+1) B->Kz X A B->Q .normal a' B):
    (Code.seq (Code.region 9 [FG,FF,FE,FD].toArray false) (Code.cond (Operand.tmp 36) Code.ret Code.skip)).wpIn (Fr ro) n Tryz.prog Q b A:=by
 obtain⟨q,uq,ur⟩:=kT (P:=Tryz.prog) (t:=57) (b:=false) (by kernel_rfl);refine wpIn_seq (wpIn_region_lit ?_);refine cK rfl (nd rfl) (qO uq ur e2 (Fh hY)) ?_;refine cK rfl (nd rfl) (kF (v:=u) (by simp[bE,hsz,ex])) ?_;refine L0 rfl (nd rfl) (Kv (l:=l) (u:=u) (by simp[bE,bD,hsz]) (by simp[bE,bD,hsz])) (R.y k x u A hJ hx hby hu) ?_;rintro e B ⟨rfl,hJ2,hk2⟩;refine⟨_,rfl,?_⟩;refine cK rfl (nd rfl) (Kw (b:=true) (by simp[bE,bD,hsz])) (wpListIn_nil ?_);exact wpIn_cond (t:=false) (by simp[bE,bD,hsz]) (wpIn_skip (hQ _ _ hJ2 hk2))
theorem aRF{w0:World}(hT:hM w0 λ_=>False){P0:Nat}{l:Nat}{L:List (List UInt8)}{J:Nat->World->Prop}{X:World->Nat->Prop}(R:Rc Tryz.prog P0 l L J X){Y k0 c':Nat}{s':List UInt8}{w:World}{a:Act}(hsz:a.tmps.size=37)(e2:a.eval (.tmp 2) = .pointer (some ⟨Y,0,none⟩))(eg:a.eval (.tmp 16) = .func (.func 58) #[] #[.pointer (some ⟨c',0,none⟩)])
    (hY:w.heap[Y]?=some (.cells #[.func (.yield l) #[] #[]] 57 (0,0))) (hYX:¬ X w Y) (hJ:J k0 w) (hBd:P0<=w.heap.size) (hA0:bB w0 w) (hX0:∀j,X w j->w0.heap.size<=j) (hc:w.cell? ⟨c',0,none⟩=some (.string ⟨⟨s'⟩⟩)) (hcX:¬ X w c') (hs:s'.length<=20000)
    (hsub:∀i x,(bV s')[i]?=some x->L[k0+i]?=some x) {Q:Exit->Act->World->Prop}
    (hQ:∀D A,w.heap.size<=D->¬ X A D->Kz X w A->J (k0+s'.length) A->A.heap[Y]?=some (.cells #[.func (.yield l) #[] #[]] 57 (0,0))->A.heap[D]?=some (.deferred (some []))->Q .normal { a with defers:={ target:=.collected D,args:=#[] }::a.defers } A):
    (Code.rangeFunc (Operand.tmp 16) #[17] (Code.region 4 [aBq].toArray false) (Code.block 1 (Code.seq (Code.region 5 [R2,R1,R0,RZ].toArray false) (Code.cond (Operand.tmp 21) Code.ret Code.skip)))).wp Tryz.prog Q a w:=by
 have hYl:=(eF.1 hY).1;refine MP (gf:=58) (lb:=#[.pointer (some ⟨c',0,none⟩)]) (L:=bV s') (pr:=λj=>j<w0.heap.size\/j=c') eg Se (λk A=>J (k0+k) A/\A.heap[Y]?=some (.cells #[.func (.yield l) #[] #[]] 57 (0,0))) X ?_ (λk A j h=>R.lt (k0+k) A j h.1) ⟨hJ,hY⟩ ?_ (λW hW=>Sr hT hs (hA0.trans hW) ((World.cell?_of_block (a:=⟨c',0,none⟩) (hW.block c' (World.block_lt_of_cell? _ _ hc))).trans hc)) ?_ ?_
 .rintro k A B row ⟨h1,h2⟩ hgr hrow
  obtain⟨i1,i2⟩:=R.ab (k0+k) A B row h1 hgr (λr e=>⟨iR hBd (hrow r e).1,(hrow r e).2⟩);exact⟨⟨i1,(hgr.block Y (eF.1 h2).1 (λe=>by have:=(hrow Y e.symm).1;omega)).trans h2⟩,i2⟩
 .rintro j (hj|rfl)
  .exact⟨kL hj hA0.size,λh=>by have:=hX0 j h;omega⟩
  .exact⟨World.block_lt_of_cell? _ _ hc,hcX⟩
 .rintro l' k x u A hl' hk ⟨hJk,hYk⟩ hx hby hu
  have g2:=C8 (tm:=a.tmps) (p:=17) (t':=2) (u:=u) (ds:=[]) (by rw[hsz];decide);have gr:=C8 (tm:=a.tmps) (p:=17) (t':=17) (u:=u) (ds:=[]) (by rw[hsz];decide);rw[C9,e2]at g2;rw[aE rfl]at gr;rw[aC (by decide)]at g2;generalize hb:({ tmps:=a.tmps.setIfInBounds 17 u,defers:=[] }:Act)=b at g2 gr ⊢;have gs:b.tmps.size=37:=by rw[<-hb];simp[hsz]
  clear hb;refine wpIn_region_lit ?_;refine cK (ro:=some l') rfl (nd rfl) (mO (v:=u) gr) (wpListIn_nil ?_);refine⟨rfl,λA₂ ⟨hJ2,hY2⟩ hby2 hu2 hk2=>?_⟩;refine wpIn_block (aQr (ro:=some l') R (by simp[bD,gs]) (by simp[bE,gs,g2]) (by simp[bE,gs]) hY2 hJ2 (hsub k x hx) hby2 (λg hg=>⟨iR hBd (hu2 g hg).1,(hu2 g hg).2⟩) λa' B hJB hkB=>?_);refine⟨rfl,⟨hJB,?_⟩,hkB⟩;refine(hkB.block Y (eF.1 hY2).1 λh=>?_).trans hY2;rcases hk2.x Y h with h1|h1
  .exact hYX h1
  .omega
 .rintro D A hD hDX hk ⟨hJA,hYA⟩ hda
  rw[mV]at hJA;exact hQ D A hD hDX hk hJA hYA hda
theorem aRE{w0:World}(hT:hM w0 λ_=>False){P0:Nat}{l:Nat}{L:List (List UInt8)}{J:Nat->World->Prop}{X:World->Nat->Prop}(R:Rc Tryz.prog P0 l L J X){Y k0 c':Nat}{s':List UInt8}{w:World}{a:Act}(hsz:a.tmps.size=37)(e2:a.eval (.tmp 2) = .pointer (some ⟨Y,0,none⟩))(eg:a.eval (.tmp 31) = .func (.func 58) #[] #[.pointer (some ⟨c',0,none⟩)])
    (hY:w.heap[Y]?=some (.cells #[.func (.yield l) #[] #[]] 57 (0,0))) (hYX:¬ X w Y) (hJ:J k0 w) (hBd:P0<=w.heap.size) (hA0:bB w0 w) (hX0:∀j,X w j->w0.heap.size<=j) (hc:w.cell? ⟨c',0,none⟩=some (.string ⟨⟨s'⟩⟩)) (hcX:¬ X w c') (hs:s'.length<=20000)
    (hsub:∀i x,(bV s')[i]?=some x->L[k0+i]?=some x) {Q:Exit->Act->World->Prop}
    (hQ:∀D A,w.heap.size<=D->¬ X A D->Kz X w A->J (k0+s'.length) A->A.heap[Y]?=some (.cells #[.func (.yield l) #[] #[]] 57 (0,0))->A.heap[D]?=some (.deferred (some []))->Q .normal { a with defers:={ target:=.collected D,args:=#[] }::a.defers } A):
    (Code.rangeFunc (Operand.tmp 31) #[32] (Code.region 8 [LG].toArray false) (Code.block 3 (Code.seq (Code.region 9 [FG,FF,FE,FD].toArray false) (Code.cond (Operand.tmp 36) Code.ret Code.skip)))).wp Tryz.prog Q a w:=by
 have hYl:=(eF.1 hY).1;refine MP (gf:=58) (lb:=#[.pointer (some ⟨c',0,none⟩)]) (L:=bV s') (pr:=λj=>j<w0.heap.size\/j=c') eg Se (λk A=>J (k0+k) A/\A.heap[Y]?=some (.cells #[.func (.yield l) #[] #[]] 57 (0,0))) X ?_ (λk A j h=>R.lt (k0+k) A j h.1) ⟨hJ,hY⟩ ?_ (λW hW=>Sr hT hs (hA0.trans hW) ((World.cell?_of_block (a:=⟨c',0,none⟩) (hW.block c' (World.block_lt_of_cell? _ _ hc))).trans hc)) ?_ ?_
 .rintro k A B row ⟨h1,h2⟩ hgr hrow
  obtain⟨i1,i2⟩:=R.ab (k0+k) A B row h1 hgr (λr e=>⟨iR hBd (hrow r e).1,(hrow r e).2⟩);exact⟨⟨i1,(hgr.block Y (eF.1 h2).1 (λe=>by have:=(hrow Y e.symm).1;omega)).trans h2⟩,i2⟩
 .rintro j (hj|rfl)
  .exact⟨kL hj hA0.size,λh=>by have:=hX0 j h;omega⟩
  .exact⟨World.block_lt_of_cell? _ _ hc,hcX⟩
 .rintro l' k x u A hl' hk ⟨hJk,hYk⟩ hx hby hu
  have g2:=C8 (tm:=a.tmps) (p:=32) (t':=2) (u:=u) (ds:=[]) (by rw[hsz];decide);have gr:=C8 (tm:=a.tmps) (p:=32) (t':=32) (u:=u) (ds:=[]) (by rw[hsz];decide);rw[C9,e2]at g2;rw[aE rfl]at gr;rw[aC (by decide)]at g2;generalize hb:({ tmps:=a.tmps.setIfInBounds 32 u,defers:=[] }:Act)=b at g2 gr ⊢;have gs:b.tmps.size=37:=by rw[<-hb];simp[hsz]
  clear hb;refine wpIn_region_lit ?_;refine cK (ro:=some l') rfl (nd rfl) (mO (v:=u) gr) (wpListIn_nil ?_);refine⟨rfl,λA₂ ⟨hJ2,hY2⟩ hby2 hu2 hk2=>?_⟩;refine wpIn_block (aQq (ro:=some l') R (by simp[bD,gs]) (by simp[bE,gs,g2]) (by simp[bE,gs]) hY2 hJ2 (hsub k x hx) hby2 (λg hg=>⟨iR hBd (hu2 g hg).1,(hu2 g hg).2⟩) λa' B hJB hkB=>?_);refine⟨rfl,⟨hJB,?_⟩,hkB⟩;refine(hkB.block Y (eF.1 hY2).1 λh=>?_).trans hY2;rcases hk2.x Y h with h1|h1
  .exact hYX h1
  .omega
 .rintro D A hD hDX hk ⟨hJA,hYA⟩ hda
  rw[mV]at hJA;exact hQ D A hD hDX hk hJA hYA hda
end Go.It
/- The codes of a line, given one by one. -/
namespace Go.It
open Go Go.RowKit Go.Ab Go.Ax Go.Proofs
theorem Kz.put{X:World->Nat->Prop}{W A:World}(h:Kz X W A){D:Nat}{o:Obj}(hD:W.heap.size<=D)(hX:∀j,X (A.putObj D o) j->X A j):Kz X W (A.putObj D o):=
 ⟨h.os,h.tape,h.output,by rw[World.putObj_size];exact h.size,λj hj hx=>(World.putObj_heap_other (by omega)).trans (h.block j hj hx),λj hj=>h.x j (hX j hj)⟩
theorem Rc.mark{P:Program}{P0 l:Nat}{L:List (List UInt8)}{J:Nat->World->Prop}{X:World->Nat->Prop}(R:Rc P P0 l L J X){k D:Nat}{A W:World}(hJ:J k A)(hD:P0<=D)(hda:A.heap[D]?=some (.deferred (some [])))(hW:W.heap.size<=D)(hK:Kz X W A):
    J k (A.putObj D (.deferred none))/\Kz X W (A.putObj D (.deferred none)):=by
 obtain⟨h1,h2⟩:=R.ab k A _ (some D) hJ (grownBy_putObj' A D (.deferred none)) (λr e=>by cases e;exact⟨hD,_,hda,rfl⟩);exact⟨h1,hK.put hW h2⟩
theorem aEF:kM Tryz.prog 23 5 1 1 (List.replicate 1 (Value.int .u8 0).cells.toList).flatten:=kM.of (z:=.int .u8 0) (bytes:=1) ⟨by kernel_rfl,by kernel_rfl,rfl,by decide⟩ (by simp[Value.cells,Value.oneCell']) 1 (by decide)
theorem aEE(A:World):By (A.alloc (.cells #[.int .u8 0] 5)) (.slice (some ⟨A.heap.size,0,none⟩) 1 1) [0]:=by
 refine .sl A.heap.size 0 _ 1 [.int .u8 0] _ (by rfl) (λi v hv=>?_) (bX _) (λi v t hv ht=>?_)
 .match i,hv with
  |0,hv=>
    cases hv;refine⟨by show World.cell? _ ⟨A.heap.size,0,none⟩=_;simp only[World.cell?];rw[heap_alloc_new];rfl,?_⟩;unfold jC;rw[heap_alloc_new];exact aXA
 .match i,hv,ht with
  |0,hv,ht=>
    cases hv;cases ht;exact .v _ rfl
theorem forget{φ:Act->Prop}{F:Fence}{n:Nat}{P:Program}{c:Code}{Q:Exit->Act->World->Prop}{a:Act}{w:World}(h:φ a)(k:∀b,φ b->c.wpIn F n P Q b w):c.wpIn F n P Q a w:=k a h
theorem aVO{φ:Act->Prop}{F:Fence}{n:Nat}{P:Program}{ops:Array Oper}{l:List Oper}{Q:Exit->Act->World->Prop}{a:Act}{w:World}(h:φ a)(k:∀b,φ b->wpListIn F n P ops Q l b w):wpListIn F n P ops Q l a w:=k a h
theorem L2{ro:Option Nat}{n:Nat}{P:Program}{ops:Array Oper}{rest:List Oper}{o:Oper}{a:Act}{w:World}{Q:Exit->Act->World->Prop}{t:Nat}(hd:o.dst=some t)(hw:Region.wanted o (yielded ops a.tmps)=false)(h:wpListIn (Fr ro) n P ops Q rest (a.put (some t) undef) w):wpListIn (Fr ro) n P ops Q (o::rest) a w:=aUR hw (hd ▸ h)
theorem Uc{a:Act}{b:Bool}(he:a.eval (.tmp 24) = .bool b)(hs:a.tmps.size=37):Region.wanted AK (yielded [CV,CU,CT,AK,AJ,AI,AH,CS].toArray a.tmps)=!b:=(GH (j:=2) (t:=24) (b:=b) (c:=false) rfl rfl he (by omega)).trans (by cases b <;> rfl)
theorem Ub{a:Act}{b:Bool}(he:a.eval (.tmp 24) = .bool b)(hs:a.tmps.size=37):Region.wanted AJ (yielded [CV,CU,CT,AK,AJ,AI,AH,CS].toArray a.tmps)=!b:=(GH (j:=2) (t:=24) (b:=b) (c:=false) rfl rfl he (by omega)).trans (by cases b <;> rfl)
theorem Ua{a:Act}{b:Bool}(he:a.eval (.tmp 24) = .bool b)(hs:a.tmps.size=37):Region.wanted AI (yielded [CV,CU,CT,AK,AJ,AI,AH,CS].toArray a.tmps)=!b:=(GH (j:=2) (t:=24) (b:=b) (c:=false) rfl rfl he (by omega)).trans (by cases b <;> rfl)
theorem U9{a:Act}{b:Bool}(he:a.eval (.tmp 24) = .bool b)(hs:a.tmps.size=37):Region.wanted AH (yielded [CV,CU,CT,AK,AJ,AI,AH,CS].toArray a.tmps)=!b:=(GH (j:=2) (t:=24) (b:=b) (c:=false) rfl rfl he (by omega)).trans (by cases b <;> rfl)
theorem aTo{w0:World}(hT:hM w0 λ_=>False){l:Nat}{L:List (List UInt8)}{J:Nat->World->Prop}{X:World->Nat->Prop}{W:World}(R:Rc Tryz.prog W.heap.size l L J X)(hA:bB w0 W)(hX:∀j,X W j->w0.heap.size<=j){dg ct:List UInt8}(hct:ct.length<=20000)(_hc0:ct≠[])(hL:L=bV dg++([0]::bV ct)){A B:World}{D:Nat}(hWD:W.heap.size<=D)(hDX:¬ X A D)(hkW:Kz X W A)(hda:A.heap[D]?=some (.deferred (some [])))(hAB:Kz X A B)(hY:B.heap[W.heap.size]?=some (.cells #[.func (.yield l) #[] #[]] 57 (0,0)))(hYX:¬ X B W.heap.size)(j6:J (dg.length+1) B)
    {e:Act} (es:e.tmps.size=37) (ed:e.defers=[{ target:=.collected D,args:=#[] }]) (e2:e.eval (.tmp 2) = .pointer (some ⟨W.heap.size,0,none⟩)) (e3:e.eval (.tmp 3) = .string ⟨⟨ct⟩⟩):
    (Code.seq (Code.region 7 [RY,RX].toArray false) (Code.block 2 (Code.rangeFunc (Operand.tmp 31) #[32] (Code.region 8 [LG].toArray false) (Code.block 3 (Code.seq (Code.region 9 [FG,FF,FE,FD].toArray false) (Code.cond (Operand.tmp 36) Code.ret Code.skip)))))).wpIn Fence.wide 9 Tryz.prog (bodyPostM Fence.wide 9 Tryz.prog Tryz.f78 λe W'=>(∃v,e=Ending.returned v)/\J L.length W'/\Kz X W W') e B:=by
 have hkB:=hkW.trans hAB;refine wpIn_seq (wpIn_region_lit ?_);refine cK rfl (nd rfl) (kF (v:=.string ⟨⟨ct⟩⟩) e3) ?_;refine AN rfl (nd rfl) (RJ aCv (show _=Value.string ⟨⟨ct⟩⟩by simp[bE,es]) rfl) (aDH ct) ?_;rintro e1 B1 ⟨rfl,h7⟩;refine⟨_,rfl,wpListIn_nil ?_⟩;have hA7:bB B B1:=h7 ▸ (bB.refl B).alloc _;have hc7:B1.cell? ⟨B.heap.size,0,none⟩=some (.string ⟨⟨ct⟩⟩):=by rw[h7];simp only[World.cell?];rw[heap_alloc_new];rfl
 clear h7;obtain⟨j7,x7⟩:=R.ab.dI j6 hA7;have hkB1:Kz X W B1:=hkB.trans (Kz.dI hA7 x7);have hAB1:Kz X A B1:=hAB.trans (Kz.dI hA7 x7);have hY7:B1.heap[W.heap.size]?=some (.cells #[.func (.yield l) #[] #[]] 57 (0,0)):=(hA7.block _ (eF.1 hY).1).trans hY;have hXB1:∀j,X B1 j->w0.heap.size<=j:=λj hj=>by
  rcases hkB1.x j hj with h|h
  .exact hX j h
  .exact iR hA.size h
 refine forget (φ:=λb=>b.tmps.size=37/\b.defers=[{ target:=.collected D,args:=#[] }]/\b.eval (.tmp 2) = .pointer (some ⟨W.heap.size,0,none⟩)/\b.eval (.tmp 31) = .func (.func 58) #[] #[.pointer (some ⟨B.heap.size,0,none⟩)])
  ⟨by simp[bD,es],by simp[put_defers,ed],by simp[bE,bD,es,e2],by simp[bE,bD,es]⟩ λb ⟨bs,bd,b2,b31⟩=>?_
 have hlen:L.length=dg.length+1+ct.length:=by rw[hL,bF,dK,mV,mV];omega
 refine wpIn_block (wpIn_wide.2 (aRE hT R bs b2 b31 hY7 (λh=>hYX (x7 _ h)) j7 hkB1.size (Kz.old hA hkB1 hX) hXB1 hc7 (λh=>by have:=R.lt _ _ _ j6 (x7 _ h);exact absurd this (Nat.lt_irrefl _)) hct (λi x hi=>?_) λD2 A2 hD2 hDX2 hk2 hJ2 hY2 hda2=>?_))
 .rw[hL,eE (by rw[mV];omega),mV,show dg.length+1+i-dg.length=i+1 by omega]
  exact hi
 have hA2:Kz X A A2:=hAB1.trans hk2;have hDA:=(eF.1 hda).1;have hd1:A2.heap[D]?=some (.deferred (some [])):=(hA2.block D hDA hDX).trans hda;have hne:D≠D2:=λe=>by have:=hAB1.size;omega
 have hW2:W.heap.size<=D2:=iR hkB1.size hD2;show LeavesInM Fence.wide 9 Tryz.prog Tryz.f78 _ _ ({ target:=.collected D2,args:=#[] }::b.defers) .returning A2;rw[bd];rw[<-hlen]at hJ2;obtain⟨j8,k8⟩:=R.mark hJ2 hW2 hda2 hW2 (hkB1.trans hk2);have hd8:(A2.putObj D2 (.deferred none)).heap[D]?=some (.deferred (some [])):=(World.putObj_heap_other hne).trans hd1;obtain⟨j9,k9⟩:=R.mark j8 hWD hd8 hWD k8;refine⟨(by intro h;cases h),.inl ⟨D2,_,rfl,run_takeDeferred hda2,?_⟩⟩;refine⟨(by intro h;cases h),.inl ⟨D,_,rfl,run_takeDeferred hd8,?_⟩⟩;exact⟨_,results_none (by kernel_rfl) _ _ _,⟨_,rfl⟩,j9,k9⟩
theorem aTp{w0:World}(hT:hM w0 λ_=>False){l:Nat}{L:List (List UInt8)}{J:Nat->World->Prop}{X:World->Nat->Prop}{W:World}(R:Rc Tryz.prog W.heap.size l L J X)(hA:bB w0 W)(hX:∀j,X W j->w0.heap.size<=j){dg ct:List UInt8}(hct:ct.length<=20000)(hL:L=bV dg++(if ct=[]then[]else[0]::bV ct)){A:World}{D:Nat}(hWD:W.heap.size<=D)(hDX:¬ X A D)(hkW:Kz X W A)(hda:A.heap[D]?=some (.deferred (some [])))(hY:A.heap[W.heap.size]?=some (.cells #[.func (.yield l) #[] #[]] 57 (0,0)))(hYX:¬ X A W.heap.size)(hJ:J dg.length A)
    {e:Act} (es:e.tmps.size=37) (ed:e.defers=[{ target:=.collected D,args:=#[] }]) (e2:e.eval (.tmp 2) = .pointer (some ⟨W.heap.size,0,none⟩)) (e3:e.eval (.tmp 3) = .string ⟨⟨ct⟩⟩):
    (Code.seq (Code.seq (Code.region 6 [CV,CU,CT,AK,AJ,AI,AH,CS].toArray false) (Code.cond (Operand.tmp 29) Code.ret Code.skip)) (Code.seq (Code.region 7 [RY,RX].toArray false) (Code.block 2 (Code.rangeFunc (Operand.tmp 31) #[32] (Code.region 8 [LG].toArray false) (Code.block 3 (Code.seq (Code.region 9 [FG,FF,FE,FD].toArray false) (Code.cond (Operand.tmp 36) Code.ret Code.skip))))))).wpIn Fence.wide 9 Tryz.prog (bodyPostM Fence.wide 9 Tryz.prog Tryz.f78 λe W'=>(∃v,e=Ending.returned v)/\J L.length W'/\Kz X W W') e A:=by
 have u9:Tryz.prog.underlying 9=some .string:=by kernel_rfl
 obtain⟨q57,uq,ur⟩:=kT (P:=Tryz.prog) (t:=57) (b:=false) (by kernel_rfl);refine wpIn_seq (wpIn_seq (wpIn_region_lit ?_));refine cK rfl (nd rfl) (kF (v:=.string ⟨⟨ct⟩⟩) e3) ?_;refine cK rfl (nd rfl) (aRY (a:=ct) (b:=[]) u9 (by simp[bE,es]) (oD _ _)) ?_;refine cK rfl (nd rfl) (kF (v:=.bool (decide (ct=[]))) (by simp[bE,bD,es])) ?_;refine aVO (φ:=λb=>b.tmps.size=37/\b.defers=[{ target:=.collected D,args:=#[] }]/\b.eval (.tmp 2) = .pointer (some ⟨W.heap.size,0,none⟩)/\b.eval (.tmp 3) = .string ⟨⟨ct⟩⟩/\b.eval (.tmp 24) = .bool (decide (ct=[])))
  ⟨by simp[bD,es],by simp only[put_defers,ed],by simp[bE,bD,es,e2],by simp[bE,bD,es,e3],by simp[bE,bD,es]⟩ λb ⟨bs,bd,b2,b3,b24⟩=>?_
 clear es ed e2 e3;by_cases hc0:ct=[]
 .rw[aE hc0,List.append_nil]at hL
  rw[aL hc0]at b24;refine L2 (t:=25) rfl (Uc (b:=true) (by simp[b24]) (by simp[bs])) ?_;refine L2 (t:=26) rfl (Ub (b:=true) (by simp[bE,bs,b24]) (by simp[bD,bs])) ?_;refine L2 (t:=27) rfl (Ua (b:=true) (by simp[bE,bD,bs,b24]) (by simp[bD,bs])) ?_;refine L2 (t:=28) rfl (U9 (b:=true) (by simp[bE,bD,bs,b24]) (by simp[bD,bs])) ?_;refine cK rfl (nd rfl) (aB2 (b:=true) (u:=.bool true) (v:=undef) (by simp[bE,bD,bs,b24]) (oD _ _) (by simp[bE,bD,bs])) (wpListIn_nil ?_);refine wpIn_cond (t:=true) (by simp[bE,bD,bs]) (wpIn_ret ?_);show LeavesInM Fence.wide 9 Tryz.prog Tryz.f78 _ _ (Act.put _ _ _).defers .returning A;simp only[put_defers,bd];refine⟨(by intro h;cases h),.inl ⟨D,_,rfl,run_takeDeferred hda,?_⟩⟩;obtain⟨j5,k5⟩:=R.mark hJ hWD hda hWD hkW;refine⟨_,results_none (by kernel_rfl) _ _ _,⟨_,rfl⟩,?_,k5⟩;rw[hL,mV];exact j5
 .rw[aC hc0]at hL
  rw[aZ hc0]at b24;refine L1 (Uc (b:=false) (by simp[b24]) (by simp[bs])) ?_;refine cK rfl (nd rfl) (qO uq ur (by simp[b2]) (Fh hY)) ?_;refine L1 (Ub (b:=false) (by simp[bE,bs,b24]) (by simp[bD,bs])) ?_;refine cK rfl (nd rfl) (aB3 (v:=.int .u8 0) aEF (oD _ _) rfl) ?_;have hA5:bB A (A.alloc (.cells #[.int .u8 0] 5)):=(bB.refl A).alloc _;obtain⟨j5,x5⟩:=R.ab.dI hJ hA5;refine L1 (Ua (b:=false) (by simp[bE,bD,bs,b24]) (by simp[bD,bs])) ?_;refine L0 rfl (nd rfl) (Kv (l:=l) (u:=.slice (some ⟨A.heap.size,0,none⟩) 1 1) (by simp[bE,bD,bs]) (by simp[bE,bD,bs])) (R.y dg.length [0] _ _ j5 ?_ (aEE A) (λg hg=>?_)) ?_
  .rw[hL,eE (by rw[mV];exact bX _),mV,Nat.sub_self]
   rfl
  .cases hg
   exact⟨hkW.size,λh=>by have:=R.lt _ _ _ hJ (x5 _ h);exact absurd this (Nat.lt_irrefl _)⟩
  rintro e1 B ⟨rfl,j6,k6⟩;refine⟨_,rfl,?_⟩;refine L1 (U9 (b:=false) (by simp[bE,bD,bs,b24]) (by simp[bD,bs])) ?_;refine cK rfl (nd rfl) (Kw (b:=true) (by simp[bE,bD,bs])) ?_;refine cK rfl (nd rfl) (aB2 (b:=false) (u:=.bool true) (v:=.bool false) (by simp[bE,bD,bs,b24]) (oD _ _) (by simp[bE,bD,bs])) (wpListIn_nil ?_);refine wpIn_cond (t:=false) (by simp[bE,bD,bs]) (wpIn_skip ?_);have hAB:Kz X A B:=(Kz.dI hA5 x5).trans k6;have hYA:=(eF.1 hY).1;have hYB:B.heap[W.heap.size]?=some (.cells #[.func (.yield l) #[] #[]] 57 (0,0)):=(hAB.block _ hYA hYX).trans hY;have hYX':¬ X B W.heap.size:=λh=>by
   rcases hAB.x _ h with h1|h1
   .exact hYX h1
   .omega
  exact aTo hT R hA hX hct hc0 hL hWD hDX hkW hda hAB hYB hYX' j6 (by simp[bD,bs]) (by simp only[put_defers,bd]) (by simp[bE,bD,bs,b2]) (by simp[bE,bD,bs,b3])
theorem aTr(hitoa:∀(n:Nat)(W:World),hM W (λ_=>False)->n<=20000->Calls Tryz.prog 80 #[.int .i64 (n:Int)] W λe W'=>e = .returned (.string ⟨⟨Lib.itoa (n:Int)⟩⟩)/\bB W W'){w0:World}(hT:hM w0 λ_=>False){c:Nat}{s:List UInt8}(hs:s.length<=20000){W:World}(hA:bB w0 W)(hc:W.cell? ⟨c,0,none⟩=some (.string ⟨⟨s⟩⟩)):
    It Tryz.prog 78 #[.pointer (some ⟨c,0,none⟩)] (cB s) W (λj=>j<w0.heap.size\/j=c):=by
 intro l J X R h0 hpr;have hX:∀j,X W j->w0.heap.size<=j:=λj hj=>by
  rcases Nat.lt_or_ge j w0.heap.size with h|h
  .exact absurd hj (hpr j (.inl h))
  .exact h
 have hTA:∀{A:World},bB w0 A->hM A λ_=>False:=λ{A} h=>hT.cS h.size (λb hb _=>h.block b hb) (λ_ h=>h.elim)
 have hcl:=World.block_lt_of_cell? _ _ hc;have hcA:∀{A:World},bB W A->A.cell? ⟨c,0,none⟩=some (.string ⟨⟨s⟩⟩):=λ{A} h=>(World.cell?_of_block (a:=⟨c,0,none⟩) (h.block c hcl)).trans hc
 have u9:Tryz.prog.underlying 9=some .string:=by kernel_rfl
 have hm:Tryz.f78.ntmps=37:=by kernel_rfl
 obtain⟨q57,uq,ur⟩:=kT (P:=Tryz.prog) (t:=57) (b:=false) (by kernel_rfl);have hle:=uX s;obtain⟨n,hn⟩:∃n,n=s.length-(cL s).length:=⟨_,rfl⟩
 obtain⟨dg,hdg⟩:∃dg,dg=Lib.itoa (n:Int):=⟨_,rfl⟩
 have hdl:dg.length<=21:=hdg ▸ Lib.itoa_length_le (n:Int) (by omega) (by omega);obtain⟨ct,hct⟩:∃ct,ct=cL s:=⟨_,rfl⟩
 have hcl':ct.length=(cL s).length:=by rw[hct]
 have hL:cB s=bV dg++(if ct=[]then[]else[0]::bV ct):=by
  unfold cB;rw[<-hn,<-hdg,<-hct]
 rw[hL]at R ⊢;obtain⟨L,hLe⟩:∃L,L=bV dg++(if ct=[]then[]else[0]::bV ct):=⟨_,rfl⟩
 rw[<-hLe]at R ⊢;refine callsIn_wide.1 (callsIn_of_wp_marks (F:=Fence.wide) (n:=9) Tryz.func78 aW8 trivial ?_);have hsz:=Fl (vs:=#[Value.func (.yield l) #[] #[]] ++ #[.pointer (some ⟨c,0,none⟩)]) (ds:=[]) hm (by simp);have e0:=vV (vs:=#[Value.func (.yield l) #[] #[]] ++ #[.pointer (some ⟨c,0,none⟩)]) (n:=Tryz.f78.ntmps) (ds:=[]) (t:=0) (v:=.func (.yield l) #[] #[]) (by simp);have e1:=vV (vs:=#[Value.func (.yield l) #[] #[]] ++ #[.pointer (some ⟨c,0,none⟩)]) (n:=Tryz.f78.ntmps) (ds:=[]) (t:=1) (v:=.pointer (some ⟨c,0,none⟩)) (by simp);generalize ha:({ tmps:=(#[Value.func (.yield l) #[] #[]] ++ #[Value.pointer (some ⟨c,0,none⟩)])++k4 (Tryz.f78.ntmps-(#[Value.func (.yield l) #[] #[]] ++ #[Value.pointer (some ⟨c,0,none⟩)]).size) undef,defers:=[] }:Act)=a at hsz e0 e1 ⊢;have hd0:a.defers=[]:=by rw[<-ha]
 clear ha;refine wpIn_seq (wpIn_region_lit ?_);refine cK rfl (nd rfl) (RL e0) (wpListIn_nil ?_);have hA1:bB W (W.alloc (.cells #[.func (.yield l) #[] #[]] 57)):=(bB.refl W).alloc _;have hY1:(W.alloc (.cells #[.func (.yield l) #[] #[]] 57)).heap[W.heap.size]?=some (.cells #[.func (.yield l) #[] #[]] 57 (0,0)):=heap_alloc_new _ _;show Code.wpIn Fence.wide 9 Tryz.prog _ _ _ (W.alloc (.cells #[.func (.yield l) #[] #[]] 57));generalize W.alloc (.cells #[.func (.yield l) #[] #[]] 57)=W1 at hA1 hY1 ⊢;refine wpIn_seq (wpIn_region_lit ?_);refine cK rfl (nd rfl) (qO u9 rfl (by simp[bE,hsz,e1]) (hcA hA1)) ?_;refine AN rfl (nd rfl) (Ky aVn (show _=Value.string ⟨⟨s⟩⟩by simp[bE,bD,hsz]) (oD _ _) rfl) (aQL (hTA (hA.trans hA1)) hs) ?_;rintro e W2 ⟨rfl,hA2⟩;rw[<-hct];refine⟨_,rfl,?_⟩;refine cK rfl (nd rfl) (mO (v:=.string ⟨⟨ct⟩⟩) (by simp[bE,bD,hsz])) (wpListIn_nil ?_);refine wpIn_seq (wpIn_region_lit ?_);refine cK rfl (nd rfl) (qO u9 rfl (by simp[bE,bD,hsz,e1]) (hcA (hA1.trans hA2))) ?_;refine cK rfl (nd rfl) (Kx (s:=s) u9 (by simp[bE,bD,hsz])) ?_;refine cK rfl (nd rfl) (kF (v:=.string ⟨⟨ct⟩⟩) (by simp[bE,bD,hsz])) ?_;refine cK rfl (nd rfl) (Kx (s:=ct) u9 (by simp[bE,bD,hsz])) ?_;refine cK rfl (nd rfl) (aRS (m:=(s.length:Int)) (n:=(ct.length:Int)) (by simp[bE,bD,hsz]) (by simp[bE,bD,hsz]) ⟨by omega,by omega⟩) ?_;refine AN rfl (nd rfl) (RJ aVm (show _=Value.int .i64 (n:Int)by simp[bE,bD,hsz];omega) rfl) (hitoa n W2 (hTA ((hA.trans hA1).trans hA2)) (by omega)) ?_;rintro e W3 ⟨rfl,hA3⟩;rw[<-hdg];refine⟨_,rfl,?_⟩;refine AN rfl (nd rfl) (RJ aCv (show _=Value.string ⟨⟨dg⟩⟩by simp[bE,bD,hsz]) rfl) (aDH dg) ?_;rintro e W4 ⟨rfl,h4⟩;refine⟨_,rfl,?_⟩;refine cK rfl (nd rfl) (mO (v:=.func (.func 58) #[] #[.pointer (some ⟨W3.heap.size,0,none⟩)]) (by simp[bE,bD,hsz])) (wpListIn_nil ?_);refine wpIn_seq (wpIn_seq (wpIn_region_lit ?_));refine cK rfl (nd rfl) (kF (v:=.func (.func 58) #[] #[.pointer (some ⟨W3.heap.size,0,none⟩)]) (by simp[bE,bD,hsz])) (wpListIn_nil ?_);have hA4:bB W3 W4:=h4 ▸ (bB.refl W3).alloc _;have hW3:bB W W3:=(hA1.trans hA2).trans hA3;have hW4:bB W W4:=hW3.trans hA4;have hc4:W4.cell? ⟨W3.heap.size,0,none⟩=some (.string ⟨⟨dg⟩⟩):=by rw[h4];simp only[World.cell?];rw[heap_alloc_new];rfl
 have hY4:W4.heap[W.heap.size]?=some (.cells #[.func (.yield l) #[] #[]] 57 (0,0)):=(((hA2.trans hA3).trans hA4).block _ (eF.1 hY1).1).trans hY1;obtain⟨j4,x4⟩:=R.ab.dI h0 hW4;have hnX:∀j,W.heap.size<=j->¬ X W j:=λj hj hx=>by have:=R.lt 0 W j h0 hx;omega
 clear h4;refine forget (φ:=λb=>b.tmps.size=37/\b.defers=[]/\b.eval (.tmp 2) = .pointer (some ⟨W.heap.size,0,none⟩)/\b.eval (.tmp 3) = .string ⟨⟨ct⟩⟩/\b.eval (.tmp 16) = .func (.func 58) #[] #[.pointer (some ⟨W3.heap.size,0,none⟩)])
  ⟨by simp[bD,hsz],by simp[put_defers,hd0],by simp[bE,bD,hsz],by simp[bE,bD,hsz],by simp[bE,bD,hsz]⟩ λb ⟨bs,bd,b2,b3,b16⟩=>?_
 clear hsz hd0 e0 e1 a;refine wpIn_block (wpIn_wide.2 (aRF hT R bs b2 b16 hY4 (λh=>hnX _ (bX _) (x4 _ h)) j4 hW4.size (hA.trans hW4) (λj hj=>hX j (x4 j hj)) hc4 (λh=>hnX _ hW3.size (x4 _ h)) (by omega) (λi x hi=>?_) λD A hD hDX hk hJ hY hda=>?_))
 .rw[cY]
  rw[hLe];exact(List.getElem?_append_left (List.getElem?_eq_some_iff.1 hi).1).trans hi
 have hkW:Kz X W A:=(Kz.dI hW4 x4).trans hk;rw[cY]at hJ;have hWD:W.heap.size<=D:=iR hW4.size hD;have hYX:¬ X A W.heap.size:=λh=>by
  rcases hk.x _ h with h1|h1
  .exact hnX _ (bX _) (x4 _ h1)
  .have:=(eF.1 hY4).1
   omega
 exact aTp hT R hA hX (by omega) hLe hWD hDX hkW hda hY hYX hJ (e:={ b with defers:={ target:=.collected D,args:=#[] }::b.defers }) bs (by rw[bd]) (by rw[C9];exact b2) (by rw[C9];exact b3)
end Go.It
/- Collect, as a contract. -/
namespace Go.It
open Go Go.RowKit Go.Ab Go.Ax Go.Proofs
theorem aUN(n:Nat)(W:World)(hT:hM W λ_=>False)(h:n<=20000):Calls Tryz.prog 80 #[.int .i64 (n:Int)] W λe W'=>e = .returned (.string ⟨⟨Lib.itoa (n:Int)⟩⟩)/\bB W W':=by
 refine(Tryz.strconv_Itoa n (by omega) (by omega) W (hT W (bX _) λ_ _ _=>rfl).1).mono ?_;rintro e w' ⟨rfl,k,os,rfl⟩;exact⟨rfl,Lib.below_grow W.heap.size W (bX _) k os⟩
theorem aVq (vs : Array Value) (w : World) : (callFunc 57 vs).run Tryz.prog w = .ok (.enter 57 vs) w := o9 Tryz.func57 (by rw [show Tryz.f57.name = "slices.AppendSeq[[][]byte,[]byte]" from rfl]; decide) (fun h => by cases h) vs w
theorem aVo (vs : Array Value) (w : World) : (callFunc 78 vs).run Tryz.prog w = .ok (.enter 78 vs) w := o9 Tryz.func78 (by rw [show Tryz.f78.name = "dactyl/listing.line$1" from rfl]; decide) (fun h => by cases h) vs w
theorem aWK{w0:World}{gf:Nat}{lb:Array Value}{L:List (List UInt8)}{pr:Nat->Prop}(hpr:∀j,pr j->j<w0.heap.size)(hne:∀x∈L,x≠[])(hL:L.length<=100000)
    (hit:∀W,bB w0 W->It Tryz.prog gf lb L W pr) (eg:∀args w,(callFunc gf args).run Tryz.prog w = .ok (.enter gf args) w):
    Calls Tryz.prog 35 #[.func (.func gf) #[] lb] w0 λe W'=>∃v us,e = .returned v/\oQ W' w0.heap.size L L.length v us/\bB w0 W':=by
 have hm:Tryz.f35.ntmps=5:=by kernel_rfl
 refine callsIn_wide.1 (callsIn_of_wp_marks (F:=Fence.wide) (n:=9) Tryz.func35 aWc trivial ?_);have hsz:=Fl (vs:=#[Value.func (.func gf) #[] lb]) (ds:=[]) hm (by simp);have e0:=vV (vs:=#[Value.func (.func gf) #[] lb]) (n:=Tryz.f35.ntmps) (ds:=[]) (t:=0) (v:=.func (.func gf) #[] lb) (by simp);generalize ha:({ tmps:=#[Value.func (.func gf) #[] lb]++k4 (Tryz.f35.ntmps - #[Value.func (.func gf) #[] lb].size) undef,defers:=[] }:Act)=a at hsz e0 ⊢;have hd0:a.defers=[]:=by rw[<-ha]
 clear ha;refine wpIn_seq (wpIn_region_lit ?_);refine cK rfl (nd rfl) (mO (v:=.slice none 0 0) (oD _ _)) (wpListIn_nil ?_);refine wpIn_seq (wpIn_region_lit ?_);refine cK rfl (nd rfl) (kF (v:=.func (.func gf) #[] lb) (by simp[bE,hsz,e0])) ?_;refine AN rfl (nd rfl) (Ky aVq (oD _ _) (show _=Value.func (.func gf) #[] lb by simp[bE,bD,hsz]) rfl) (aWn hpr hne hL hit eg) ?_;rintro e W' ⟨v,us,rfl,hB,hA⟩;refine⟨_,rfl,?_⟩;refine cK rfl (nd rfl) (mO (v:=v) (by simp[bE,bD,hsz])) (wpListIn_nil ?_);refine wpIn_ret ?_;show LeavesInM Fence.wide 9 Tryz.prog Tryz.f35 _ _ (Act.put _ _ _).defers .returning _;rw[put_defers,put_defers,put_defers,put_defers,hd0];refine⟨_,results_tmp (t:=2) (show Tryz.f35.results = #[.tmp 2]by kernel_rfl) _ _ _,v,us,aO Ending.returned ?_,hB,hA⟩;have:=bE (a:=((a.put (some 2) (.slice none 0 0)).put (some 3) (.func (.func gf) #[] lb)).put (some 4) v) (t:=2) (t':=2) (v:=v) (by simp[bD,hsz]);simpa[Act.eval,Act.put]using this
theorem By.tr{A:World}{u:Value}{x:List UInt8}(h:By A u x){G:bQ}(hG:∀g,aQ u=some g->jC A g<=G g):TR A G u (.sl x.length (x.flatMap (aI .u8))):=by
 unfold By at h;have hts:∀t∈x.flatMap (aI .u8),∃c0:UInt8,t = .v (.int .u8 (UInt8.toNat c0)):=λt ht'=>by
  obtain⟨c0,_,hc0⟩:=List.mem_flatMap.1 ht';exact⟨c0,List.mem_singleton.1 hc0⟩
 generalize x.flatMap (aI .u8)=ts0 at h hts ⊢;generalize x.length=n0 at h ⊢;cases h with
 |nil h=>exact .nil h
 |sl b o n c us ts hl hc hn h=>
   refine .sl b o _ c us _ hl (λi v hv=>?_) hn (λi v t hv ht=>?_)
   .obtain⟨h1,h2⟩:=hc i v hv
    exact⟨h1,kL h2 (hG b rfl)⟩
   .have q:=h i v t hv ht
    obtain⟨c0,rfl⟩:=hts t (List.mem_of_getElem? ht);cases q with
    |v _ h1=>exact .v _ h1
theorem aVi(L:List (List UInt8)):L.flatMap (aI (.sl .u8))=L.map λx=>Tree.sl x.length (x.flatMap (aI .u8)):=by
 induction L with
 |nil=>rfl
 |cons x L ih=>exact aO (Tree.sl x.length (x.flatMap (aI .u8)) :: ·) ih
theorem oQ.tr{A:World}{n:Nat}{L:List (List UInt8)}{v:Value}{us:List Value}(h:oQ A n L L.length v us){G:bQ}(hG:∀g,n<=g->jC A g<=G g):TR A G v (.sl L.length (L.flatMap (aI (.sl .u8)))):=by
 rw[aVi];have hlen:us.length=L.length:=by simpa using h.row.1
 have hb:=h.row;rcases hb.2 with⟨rfl,h0⟩|⟨g,cap,cur,rfl,hg,hh,hc,_,hcs,htk⟩
 .rw[h0]
  have:L=[]:=List.length_eq_zero_iff.1 h0;rw[this];exact .nil λ_=>rfl
 .refine .sl g 0 _ cap us _ (by rw[List.length_map];exact hlen) (λi u hu=>?_) hc (λi u t hu ht=>?_)
  .have hcell:A.cell? ⟨g,i,none⟩=some u:=by
    have:=hb.cells rfl i u hu
    rwa [show(⟨(⟨g,0,none⟩:Addr).block,0,none⟩:Addr).add i=⟨g,i,none⟩by rw[Addr.add_mid,cY]]at this
   rw[cY];refine⟨hcell,kL (Sz hcell).2 (hG g hg)⟩
  .obtain⟨x,hx,hby,hbl⟩:=h.el i u hu
   rw[List.getElem?_map,hx]at ht;cases ht;exact hby.tr λg' hg'=>hG g' (hbl g' hg').1
theorem KQ{α:Type}{vs:Array α}{x:α}(h:vs.size=1)(h0:vs[0]?=some x):vs = #[x]:=by
 apply Array.ext_getElem?;intro i;cases i with
 |zero=>rw[h0];rfl
 |succ i=>rw[Array.getElem?_eq_none (by omega)];simp
theorem aDF{gf:Nat}{L:List (List UInt8)}{s:List UInt8}(_hs:s.length<=20000)(hne:∀x∈L,x≠[])(hL:L.length<=100000)(eg:∀args w,(callFunc gf args).run Tryz.prog w = .ok (.enter gf args) w)
    (hit:∀{w0:World},(hM w0 λ_=>False)->∀{c:Nat}{W:World},bB w0 W->W.cell? ⟨c,0,none⟩=some (.string ⟨⟨s⟩⟩)->It Tryz.prog gf #[.pointer (some ⟨c,0,none⟩)] L W (λj=>j<w0.heap.size\/j=c)):
    cN Tryz.prog 35 [.fn gf [.ref 50 0]] [(50,.box 9 [.t (.v (.string ⟨⟨s⟩⟩))])] (.t (.sl L.length (L.flatMap (aI (.sl .u8))))) [(50,.box 9 [.t (.v (.string ⟨⟨s⟩⟩))])]:=by
 intro E w vs hE0 hm hsz ⟨ν,G,I⟩;obtain⟨v,hv,hdv⟩:=I.T 0 (.fn gf [.ref 50 0]) rfl;obtain rfl:=KQ hsz hv;obtain⟨_,g,cur,h1,h2,h3,h4,h5,h6⟩:=I.H 50 _ (show Ab.look 50 [(50,aM.box 9 [.t (.v (.string ⟨⟨s⟩⟩))])]=some _ from rfl);have hvf:v = .func (.func gf) #[] #[.pointer (some ⟨g,0,none⟩)]:=by
  cases hdv with
  |fn hl h=>
    rename_i cs;obtain⟨c0,hc0⟩:∃c0,cs[0]?=some c0:=⟨_,iM (by rw[hl];decide)⟩
    obtain rfl:=KQ hl hc0;obtain⟨g',hg',rfl,_⟩:=nZ (h 0 c0 _ rfl rfl);rw[h1]at hg';cases hg';rfl
 subst hvf;obtain⟨c0,hc0⟩:∃c0,cur[0]?=some c0:=⟨_,iM (by rw[h5];exact aXA)⟩
 obtain rfl:=KQ h5 hc0;have:=bY (h6 0 c0 (.t (.v (.string ⟨⟨s⟩⟩))) rfl rfl).1;subst this;have hcell:w.cell? ⟨g,0,none⟩=some (.string ⟨⟨s⟩⟩):=by simp[World.cell?,h3]
 have hgl:=FR h3;have hTab:hM w λ_=>False:=hE0 ▸ E.tC.cS (bX _) (λ_ _ _=>rfl) (λ_ h=>h.elim)
 refine(aWK (pr:=λj=>j<w.heap.size\/j=g) (λj hj=>hj.elim id λe=>e ▸ hgl) hne hL (λW hW=>hit hTab hW ((World.cell?_of_block (a:=⟨g,0,none⟩) (hW.block g hgl)).trans hcell)) eg).mono ?_;rintro e W' ⟨v,us,rfl,hB,hA⟩;have J:=I.dI (G':=λb=>if b<w.heap.size then G b else jC W' b) hA (λb hb=>aE hb);refine⟨v,rfl,ν,_,⟨J.kept.os,J.kept.tape,J.kept.output,J.kept.size,J.kept.block⟩,J.cS,J.eL,J.g0,rfl,λt d ht=>?_,λk o hk=>?_,J.cF⟩
 .cases t with
  |zero=>
    cases ht;exact⟨v,rfl,.t (hB.tr λb hb=>by rw[aC (by omega)];exact bX _)⟩
  |succ t=>exact absurd (show(none:Option D)=some _ from ht) (by simp)
 .obtain⟨q1,q2⟩:=J.H k o hk
  have hn:∀j,(decide (j<100))=true->decide (j<108)=true/\ν j=ν j:=λj hj=>⟨by simp at hj ⊢;omega,rfl⟩
  exact⟨(hn k q1).1,q2.mono q1 hn (λ_ _ _ h=>h) (λ_ _=>⟨rfl,rfl⟩)⟩
end Go.It
namespace Go.Proofs
open Go Go.RowKit Go.Ab Go.Ax Go.It
theorem Su{s x:List UInt8}(h:x∈bV s):x≠[]:=by
 obtain⟨i,_,rfl⟩:=List.mem_map.1 h;exact aDM _ _
theorem aTs{s x:List UInt8}(h:x∈cB s):x≠[]:=by
 rcases List.mem_append.1 h with h|h
 .exact Su h
 .split at h
  .cases h
  .rcases List.mem_cons.1 h with rfl|h
   .simp
   .exact Su h
theorem aTt{s:List UInt8}(h:s.length<=20000):(cB s).length<=40000:=by
 unfold cB;rw[bF,mV];have h1:=Lib.itoa_length_le ((s.length-(cL s).length:Nat):Int) (by omega) (by omega);have h2:=uX s;split
 .simp;omega
 .rw[dK,mV];omega
theorem aDG{g:Nat}{xs:List X}{H:XH}{d:List UInt8}(h:Lp g xs H=some d):xs=[.fn g [.ref 50 0]]/\H=[(50,.box 9 [.e .tx d])]:=by
 unfold Lp at h;split at h
 .rename_i f e x
  split at h
  .rename_i hf
   split at h
   .rename_i he
    have hf:=bH hf;have he:=bH he;subst hf he;rw[b7 h];exact⟨rfl,rfl⟩
   .cases h
  .cases h
 .cases h
theorem aUJ(N:Nat):aV Tryz.prog 35 (aCS N):=Cb (az:=λs=>[.fn 58 [.ref 50 0]]) (HH:=λs=>[(50,.box 9 [.e .tx s])]) aDG (λs h=>by
 have h:s.length<=20000:=cH h;exact aDF h (λx hx=>Su hx) (show(bV s).length<=100000 by rw[mV];omega) Se (λhT _ _ hA hc=>Sr hT h hA hc))
theorem aCR(N:Nat):aV Tryz.prog 35 (SC N):=Cb (az:=λs=>[.fn 78 [.ref 50 0]]) (HH:=λs=>[(50,.box 9 [.e .tx s])]) aDG (λs h=>by
 have h:s.length<=20000:=cH h;exact aDF h (λx hx=>aTs hx) (show(cB s).length<=100000 by have:=aTt h;omega) aVo (λhT _ _ hA hc=>aTr aUN hT h hA hc))
end Go.Proofs
