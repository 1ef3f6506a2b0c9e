/- Where a cell is changed. Conditions are in the theorems. -/
import Derived.Test.YtihfefggdgiodaaGreatDoorE7
import Derived.Test.YtihfefggdgiodaaGreatDoorProg
import Derived.KernelRfl
import Derived.Test.YtihfefggdgiodaaGreatDoorF8
open Int renaming toNat_natCast->iT
open List renaming getElem?_map->cD,length_append->bF,length_map->cQ,length_set->iI
open Option renaming map_eq_some_iff->b9
open Option.some renaming injEq->gD
open UInt8 renaming ofNat->gP
/- Calls, rows that hold rows of the walk's own, pages as trees. -/
namespace Go.Proofs
open Go Go.RowKit Go.Ab Go.Ax
theorem aV9{E:Env}{T:Nat->Option D}{H:Nat->Option aM}{N:Nat}(k:Nat)(e':TypeId)(s:Nat){e:TypeId}{m n:Nat}{ts:List Tree}(hk:H k=some (.row e m n ts false)):
    cV E (mk T H N) (mk T (λj=>if k=j then some (.bI e e' m s n (ts.map λt=>NC.dH (.t t)))else H j) N):=by
 refine pJ λa w ⟨ν,G,I⟩=>?_
 obtain⟨hn,hob⟩:=I.H k _ hk;obtain⟨xs,r1,r2,r3,r4⟩:=id hob;have no:∀(i q:Nat)(l:List Tree),(ts.map λt=>NC.dH (.t t))[i]?≠some (.cE q l):=λi q l h=>by
  rw[cD]at h;obtain⟨t,_,e⟩:=b9.1 h;cases e
 refine⟨ν,G,I.kept,I.cS,I.eL,I.g0,I.sz,I.T,λj o hj=>?_,λj1 o1 j2 o2 h1 h2 hne=>?_⟩
 .by_cases hjk:k=j
  .subst hjk
   simp only[fH,gD]at hj;subst hj;refine⟨hn,xs,r1,by rw[r2,cQ],λi x d hx hc=>?_,λi x q l _ hc=>absurd hc (no i q l),λi j x y q q' l l' _ _ _ hc=>absurd hc (no i q l),λi x q l _ hc=>absurd hc (no i q l),λg hg=>⟨(r4 g hg).1,by simpa using(r4 g hg).2⟩⟩;rw[cD]at hc;obtain⟨t,ht,e⟩:=b9.1 hc;cases e;have:=r3 i x t hx ht;exact⟨.t this,this.one⟩
  .simp only[aC hjk]at hj
   exact I.H j o hj
 .have back:∀j o,(if k=j then some (.bI e e' m s n (ts.map λt=>NC.dH (.t t)))else H j)=some o->∃o',H j=some o'/\∀g,bK w (ν j) o g->bK w (ν j) o' g:=λj o h=>by
   by_cases hj:k=j
   .subst hj
    simp only[fH,gD]at h;subst h;refine⟨_,hk,λg hg=>?_⟩;rcases hg with hg|⟨_,i,_,q,l,_,hc,_⟩
    .exact hg
    .exact absurd hc (no i q l)
   .rw[aC hj]at h;exact⟨o,h,λ_ h=>h⟩
  obtain⟨p1,hp1,f1⟩:=back j1 o1 h1;obtain⟨p2,hp2,f2⟩:=back j2 o2 h2;exact λg hg hg'=>I.cF j1 p1 j2 p2 hp1 hp2 hne g (f1 g hg) (f2 g hg')
section
variable{P:Program}{o:Oper}{σ:St}{fr:Nat}
theorem LZ{t:TypeId}{x y:Operand}{q:Nat}{e e':TypeId}{m s n r:Nat}{cs:List NC}(hs:lJ P t=some m)(ho:o.op = .indexAddr t x y)(hx:σ.ev x=some (.own q))(hq:σ.H q=some (.bI e e' m s n cs))(hy:σ.ev y=some (I (r:Nat)))(hn:r<n):
    aU P o σ fr (.ref q (r*m)) []:=by
 have:=aBc (P:=P) (fr:=fr) hs ho hx hq hy (Int.natCast_nonneg r) (by omega)
 rwa [iT]at this
inductive wA (σ:St):List Operand->List D->Prop
 |nil:wA σ [] []
 |cons {x:Operand} {y:Tree} {xs:List Operand} {ds:List D} (h:σ.ev x=some (.t y)) (r:wA σ xs ds):wA σ (x::xs) (.t y::ds)
theorem wA.len{xs:List Operand}{ds:List D}(h:wA σ xs ds):xs.length=ds.length:=by
 induction h with
 |nil=>rfl
 |cons _ _ ih=>simp[ih]
theorem wA.get{xs:List Operand}{ds:List D}(h:wA σ xs ds):∀(t:Nat)(d:D),ds[t]?=some d->∃x y,xs[t]?=some x/\σ.ev x=some (.t y)/\d = .t y:=by
 induction h with
 |nil=>intro t d h;simp at h
 |cons h r ih=>
   intro t d hd;cases t with
   |zero=>simp at hd;subst hd;exact⟨_,_,rfl,h,rfl⟩
   |succ t=>simpa using ih t d (by simpa using hd)
theorem FB {f : FuncId} {fn : Func} {xs : Array Operand} {tys : Array TypeId} {ds : List D} {r d : D} {H' : List (Nat × aM)} {W : Wr} (ho : o.op = .call { callee := .value (.func f), args := xs, argTypes := tys }) (hfn : P.funcs[f]? = some fn) (hname : fn.name ≠ "runtime.NumGoroutine") (hb : fn.body ≠ none)
    (hS:cN P f ds [] r H') (ha:wA σ xs.toList ds) (hres:dN false (λk=>Ab.look k H') (fU fr []) (back fr []) r d) (hW:mA H' (fU fr []) (back fr []) W) (hc:AW fr [] [] W=true):aU P o σ fr d W:=by
 refine A9.ok (aBf (ds:=ds) (H:=[]) (r':=λ_=>r) (H'':=λ_=>H') [] [] ?_ hS.n .nil (λ_ _=>hres) (λ_ _=>hW) (λ_ _=>hc) rfl);intro E σ₁ ν G w a hT hH I;refine⟨xs.toList.map a.eval,?_,by simp[<-ha.len],λt d' ht=>?_⟩
 .unfold execOp
  rw[ho];have:(xs.toList.map a.eval).toArray=xs.map a.eval:=by rw[<-Array.toList_map,Array.toArray_toList]
  rw[this];simp only[resolve,Act.eval,Deferred.ofValue,invoke,Sem.run_bind,Sem.run_pure,Result.andThen_ok,Array.append_empty,Array.empty_append];exact o9 hfn hname hb _ w
 .obtain⟨x,y,hx,hev,rfl⟩:=ha.get t d' ht
  exact⟨a.eval x,.t y,by rw[cD,hx];rfl,I.ev (St.cP hT hev),.t rfl⟩
end
def rE(r:List UInt8):List Tree:=r.flatMap (aI .u8)
def pE(p:List (List UInt8)):List Tree:=p.flatMap (aI (.sl .u8))
theorem aRG(r:List UInt8):(rE r).length=r.length:=by
 induction r with
 |nil=>rfl
 |cons c t ih=>show((aI .u8 c)++rE t).length=_;rw[bF,ih];simp[aI];omega
theorem AD(p:List (List UInt8)):(pE p).length=p.length:=by
 induction p with
 |nil=>rfl
 |cons c t ih=>show((aI (.sl .u8) c)++pE t).length=_;rw[bF,ih];simp[aI];omega
theorem aRO{p:List (List UInt8)}{k:Nat}{r:List UInt8}(h:p[k]?=some r):(pE p)[k*1]?=some (.sl r.length (rE r)):=by
 have:=flat_get (f:=aI (.sl .u8)) (s:=1) (λ_=>rfl) h 0 (by decide);exact this
theorem aBS:∀(r:List UInt8)(j:Nat)(b:UInt8),j<r.length->cO (rE r) (j*1) [.v (.int .u8 b.toNat)]=rE (r.set j b)
 |[],j,b,h=>by simp at h
 |c::t,0,b,_=>rfl
 |c::t,j+1,b,h=>by
   have ih:=aBS t j b (by simpa using h);rw[Nat.mul_one]at ih ⊢;show cO (Tree.v (.int .u8 c.toNat)::rE t) (j+1) _=Tree.v (.int .u8 c.toNat)::rE (t.set j b);rw[<-ih];simp[cO]
theorem RH:∀(p:List (List UInt8))(k:Nat)(x:NC)(q:List UInt8) ,k<p.length->((((pE p).map λt=>NC.dH (.t t)).set (k*1) x).set (k*1) (.cE q.length (rE q))).map NC.lZ=(pE (p.set k q)).map some
 |[],k,x,q,h=>by simp at h
 |c::t,0,x,q,_=>by
   rw[List.set_set];show NC.lZ (.cE q.length (rE q))::((pE t).map _).map NC.lZ=(Tree.sl q.length (rE q)::pE t).map some;rw[List.map_map];rfl
 |c::t,k+1,x,q,h=>by
   have ih:=RH t k x q (by simpa using h);rw[Nat.mul_one]at ih ⊢;show NC.lZ (.dH (.t (.sl c.length (rE c))))::((((pE t).map λt=>NC.dH (.t t)).set k x).set k (.cE q.length (rE q))).map NC.lZ=(Tree.sl c.length (rE c)::pE (t.set k q)).map some;rw[ih];rfl
end Go.Proofs
/- Spoilt, where a cell of a copied row is changed. -/
namespace Go.Proofs
open Go Go.RowKit Go.Ab Go.Ax
theorem Tryz.mix:Tryz.prog.follows .mixedOrders=true:=by kernel_rfl
theorem aAc{x:Int}(h:-9223372036854775808<=x/\x<=9223372036854775807):-9223372036854775808<=x.tdiv 64/\x.tdiv 64<=9223372036854775807:=by
 have h1:(x.tdiv 64).natAbs=x.natAbs / 64:=Int.natAbs_tdiv x 64;omega
theorem aPv(b:UInt8):IntKind.u8.wrap b.toNat=b.toNat:=by
 have:=b.toNat_lt;rw[IntKind.wrap_u8];omega
theorem Tryz.CE:Tryz.prog.underlying 39=some (.slice 23):=by kernel_rfl
theorem Tryz.A6:kA Tryz.prog 39 23 (.slice none 0 0) 1 24:=⟨by kernel_rfl,by kernel_rfl,rfl,by decide⟩
theorem Tryz.aTn(len:Nat)(hl:len*1<=2^24):kM Tryz.prog 39 23 1 len (List.replicate len (Value.cells (.slice none 0 0)).toList).flatten:=kM.of Tryz.A6 (by simp[Value.cells,Value.oneCell']) len hl
theorem Tryz.oG:lJ Tryz.prog 39=some 1:=by kernel_rfl
theorem Tryz.Ep:iX Tryz.prog 23=some false:=by kernel_rfl
theorem Tryz.tE:Tryz.prog.underlying 23=some (.slice 5):=by kernel_rfl
theorem Tryz.s23:(Tryz.prog.info? 23).map (·.size)=some 1:=by kernel_rfl
theorem Tryz.u5:Tryz.prog.underlying 5=some (.int .u8):=by kernel_rfl
theorem Tryz.e23:lJ Tryz.prog 23=some 1:=by kernel_rfl
theorem Tryz.s5:(Tryz.prog.info? 5).map (·.size)=some 1:=by kernel_rfl
set_option maxRecDepth 100000 in
theorem aQ4(p:List (List UInt8))(at_ how by_:Int)(k:Nat)(r q:List UInt8)(j:Nat)(b:UInt8)(hp:p.length<=60000)(hr:r.length<=60000)(hk:p[k]?=some r)
    (hA:cN Tryz.prog 14 [I at_,I p.length] [] (I (k:Nat)) []) (hH:cN Tryz.prog 14 [I how,I 5] [] (I 4) [])
    (hF:cN Tryz.prog 13 [.t (.sl r.length (rE r)),I r.length] [] (.own 100) [(100,.row 5 1 r.length (rE r) false)])
    (hB:0<r.length->cN Tryz.prog 14 [I (by_.tdiv 64),I r.length] [] (I (j:Nat)) []/\j<r.length) (hC:cN Tryz.prog 14 [I by_,I 64] [] (I b.toNat) []) (hi:-9223372036854775808<=by_/\by_<=9223372036854775807)
    (hq1:0<r.length->q=r.set j b) (hq0:¬ 0<r.length->q=r):
    cN Tryz.prog 25 [.t (.sl p.length (pE p)),I at_,I how,I by_] [] (.t (.sl p.length (pE (p.set k q)))) []:=by
 refine aAp Tryz.func25 rfl (by simp[Tryz.f25]) λE hE=>?_
 have hdv:=aAc hi;have hkl:k<p.length:=(List.getElem?_eq_some_iff.1 hk).1;have hget:=aRO hk;have hoff:k*1<((pE p).map λt=>NC.dH (.t t)).length:=by rw[cQ,AD];omega
 have hce:(((pE p).map λt=>NC.dH (.t t)).set (k*1) (.dH (.own 372)))[k*1]?=some (.dH (.own 372)):=List.getElem?_set_self hoff;have hcl:((((pE p).map λt=>NC.dH (.t t)).set (k*1) (.dH (.own 372))).map NC.tell)[k*1]?=some (.own 372):=by rw[cD,hce];rfl
 refine kY ?_;refine nA 108 hE (by decide) rfl rfl ?_;refine fB (some 8) 108 rfl rfl rfl (qP rfl rfl) ?_;refine nX ?_;refine kY ?_;refine kY ?_;refine nA 132 hE (by decide) rfl rfl ?_;refine fB (some 11) 116 rfl rfl rfl (iC rfl rfl) ?_;refine fB (some 12) 124 rfl rfl rfl (oS (x:=.tmp 11) rfl (λh1=>by first|exact jU Tryz.CE rfl rfl (.t h1)|exact jU Tryz.CE rfl rfl (.own h1 rfl)|exact jU Tryz.CE rfl rfl (.nil h1))) ?_;refine fB (some 13) 132 rfl rfl rfl (AG rfl rfl rfl) ?_;refine nX ?_;refine AZ rfl (λhb0=>?_) (λhb0=>?_)
 .simp at hb0;subst hb0;simp at hkl
 .simp at hb0
  refine TM ?_;refine kY ?_;refine nA 172 hE (by decide) rfl rfl ?_;refine fB (some 19) 140 rfl rfl rfl (iC rfl rfl) ?_;refine fB (some 20) 148 rfl rfl rfl (iC rfl rfl) ?_;refine fB (some 21) 156 rfl rfl rfl (oS (x:=.tmp 20) rfl (λh1=>by first|exact jU Tryz.CE rfl rfl (.t h1)|exact jU Tryz.CE rfl rfl (.own h1 rfl)|exact jU Tryz.CE rfl rfl (.nil h1))) ?_;refine fB (some 22) 164 rfl rfl rfl (FB rfl Tryz.func14 (by simp[Tryz.f14]) (by simp[Tryz.f14]) (hA) (.cons rfl (.cons rfl (.nil))) (.t rfl) (.nil) rfl) ?_;refine fB (some 9) 172 rfl rfl rfl (qP rfl rfl) ?_;refine nX ?_;refine kY ?_;refine nA 204 hE (by decide) rfl rfl ?_;refine fB (some 23) 180 rfl rfl rfl (aTl false (Tryz.aTn _ (by decide)) rfl .nil .nil .nil) ?_;refine fB (some 24) 188 rfl rfl rfl (iC rfl rfl) ?_;refine fB (some 25) 196 rfl rfl rfl (oS (x:=.tmp 23) rfl (λh1=>oS (x:=.tmp 24) rfl (λh2=>by first|exact vB false Tryz.A6 rfl (.own h1 rfl) (.own h2 rfl) (by simp[AD]) ⟨by omega,(by unfold maxLen;omega)⟩|exact vB false Tryz.A6 rfl (.own h1 rfl) (.t h2) (by simp[AD]) ⟨by omega,(by unfold maxLen;omega)⟩|exact vB false Tryz.A6 rfl (.own h1 rfl) (.nil h2) (by simp[AD]) ⟨by omega,(by unfold maxLen;omega)⟩|exact vB false Tryz.A6 rfl (.nil h1) (.own h2 rfl) (by simp[AD]) ⟨by omega,(by unfold maxLen;omega)⟩|exact vB false Tryz.A6 rfl (.nil h1) (.t h2) (by simp[AD]) ⟨by omega,(by unfold maxLen;omega)⟩|exact vB false Tryz.A6 rfl (.nil h1) (.nil h2) (by simp[AD]) ⟨by omega,(by unfold maxLen;omega)⟩))) ?_;refine fB (some 10) 204 rfl rfl rfl (qP rfl rfl) ?_;refine nX ?_;refine kY ?_;refine kY ?_;refine nA 220 hE (by decide) rfl rfl ?_;refine fB (some 26) 212 rfl rfl rfl (iC rfl rfl) ?_;refine fB (some 27) 220 rfl rfl rfl (FB rfl Tryz.func14 (by simp[Tryz.f14]) (by simp[Tryz.f14]) (hH) (.cons rfl (.cons rfl (.nil))) (.t rfl) (.nil) rfl) ?_;refine nX ?_;refine aD4 ?_;refine kY ?_;refine nA 236 hE (by decide) rfl rfl ?_;refine fB (some 64) 228 rfl rfl rfl (AG rfl rfl rfl) ?_;refine fB (some 63) 236 rfl rfl rfl (qP rfl rfl) ?_;refine nX ?_;refine AZ rfl (λhb1=>?_) (λhb1=>?_)
  .simp at hb1
  .simp at hb1
   refine kY ?_;refine nA 252 hE (by decide) rfl rfl ?_;refine fB (some 74) 244 rfl rfl rfl (AG rfl rfl rfl) ?_;refine fB (some 73) 252 rfl rfl rfl (qP rfl rfl) ?_;refine nX ?_;refine AZ rfl (λhb2=>?_) (λhb2=>?_)
   .simp at hb2
   .simp at hb2
    refine kY ?_;refine nA 268 hE (by decide) rfl rfl ?_;refine fB (some 89) 260 rfl rfl rfl (AG rfl rfl rfl) ?_;refine fB (some 88) 268 rfl rfl rfl (qP rfl rfl) ?_;refine nX ?_;refine AZ rfl (λhb3=>?_) (λhb3=>?_)
    .simp at hb3
    .simp at hb3
     refine kY ?_;refine nA 284 hE (by decide) rfl rfl ?_;refine fB (some 109) 276 rfl rfl rfl (AG rfl rfl rfl) ?_;refine fB (some 108) 284 rfl rfl rfl (qP rfl rfl) ?_;refine nX ?_;refine AZ rfl (λhb4=>?_) (λhb4=>?_)
     .simp at hb4
     .simp at hb4
      refine kY ?_;refine rA (aV9 188 5 1 rfl) ?_;refine aD5 [[],[],[],[],[2,3],[2,3,4],[],[],[6,7],[6,7,8],[6,7,8,9],[2,3,4,5,6,7,8,9,10],[0,1,2,3,4,5,6,7,8,9,10,11],[0,1,2,3,4,5,6,7,8,9,10,11,12]] [[],[],[],[],[],[],[],[],[],[],[],[],[],[188]] Tryz.mix hE (by decide) (by kernel_rfl) 396 rfl (λhr0=>?_);refine fI hr0 rfl 284 1 rfl rfl (iC rfl (oE (by kernel_rfl) rfl)) rfl (λhr1=>?_);clear hr0;refine fI hr1 rfl 292 2 rfl rfl (iC rfl (oE (by kernel_rfl) rfl)) rfl (λhr2=>?_);clear hr1;refine fI hr2 rfl 300 3 rfl rfl (iC rfl (oE (by kernel_rfl) rfl)) rfl (λhr3=>?_);clear hr2;refine fI hr3 rfl 308 4 rfl rfl (iC rfl (oE (by kernel_rfl) rfl)) rfl (λhr4=>?_);clear hr3;refine fI hr4 rfl 316 5 rfl rfl (oS (x:=.tmp 30) (fP hr4 2 1 rfl (by kernel_rfl) rfl) (λh1=>oS (x:=.tmp 31) (fP hr4 3 0 rfl (by kernel_rfl) rfl) (λh2=>by first|exact aC1 Tryz.oG rfl h1 h2 (by omega)|exact SI Tryz.oG rfl h1 (by first|exact l5 hr4.ok (by kernel_rfl) rfl) h2 (by omega)|exact LD rfl Tryz.oG h1 h2 (by omega) (by omega)|exact Ez rfl Tryz.oG h1 (by first|exact l5 hr4.ok (by kernel_rfl) rfl) h2 (by omega) (by omega)))) rfl (λhr5=>?_);clear hr4;refine fI hr5 rfl 324 6 rfl rfl (Rn Tryz.Ep rfl (fP hr5 4 0 rfl (by kernel_rfl) rfl) hget) rfl (λhr6=>?_);clear hr5;refine fI hr6 rfl 332 7 rfl rfl (iC rfl (oE (by kernel_rfl) rfl)) rfl (λhr7=>?_);clear hr6;refine fI hr7 rfl 340 8 rfl rfl (iC rfl (oE (by kernel_rfl) rfl)) rfl (λhr8=>?_);clear hr7;refine fI hr8 rfl 348 9 rfl rfl (oS (x:=.tmp 34) (fP hr8 6 1 rfl (by kernel_rfl) rfl) (λh1=>oS (x:=.tmp 35) (fP hr8 7 0 rfl (by kernel_rfl) rfl) (λh2=>by first|exact aC1 Tryz.oG rfl h1 h2 (by omega)|exact SI Tryz.oG rfl h1 (by first|exact l5 hr8.ok (by kernel_rfl) rfl) h2 (by omega)|exact LD rfl Tryz.oG h1 h2 (by omega) (by omega)|exact Ez rfl Tryz.oG h1 (by first|exact l5 hr8.ok (by kernel_rfl) rfl) h2 (by omega) (by omega)))) rfl (λhr9=>?_);clear hr8;refine fI hr9 rfl 356 10 rfl rfl (Rn Tryz.Ep rfl (fP hr9 8 0 rfl (by kernel_rfl) rfl) hget) rfl (λhr10=>?_);clear hr9;refine fI hr10 rfl 364 11 rfl rfl (oS (x:=.tmp 37) (fP hr10 9 0 rfl (by kernel_rfl) rfl) (λh1=>by first|exact jU Tryz.tE rfl rfl (.t h1)|exact jU Tryz.tE rfl rfl (.own h1 (by first|exact l5 hr10.ok (by kernel_rfl) rfl))|exact jU Tryz.tE rfl rfl (.nil h1))) rfl (λhr11=>?_);clear hr10;refine fI hr11 rfl 372 12 rfl rfl (FB (d:=.own 372) (W:=[(372,some (.row 5 1 r.length (rE r) false))]) rfl Tryz.func13 (by simp[Tryz.f13]) (by simp[Tryz.f13]) (hF) (.cons (fP hr11 5 5 rfl (by kernel_rfl) rfl) (.cons (fP hr11 10 0 rfl (by kernel_rfl) rfl) (.nil))) (.own rfl rfl) (.cons rfl (.row rfl rfl) .nil) rfl) rfl (λhr12=>?_);clear hr11;refine fI hr12 rfl 380 13 rfl rfl (LZ Tryz.oG rfl (fP hr12 0 11 rfl (by kernel_rfl) rfl) (l5 hr12.ok (by kernel_rfl) rfl) (fP hr12 1 10 rfl (by kernel_rfl) rfl) (by omega)) rfl (λhr13=>?_);clear hr12;refine fI hr13 rfl 388 14 rfl rfl (RO Tryz.s23 rfl (fP hr13 12 0 rfl (by kernel_rfl) rfl) (fP hr13 11 1 rfl (by kernel_rfl) rfl) bR.refl (λν nm w G v h=>h.LA rfl) (l5 hr13.ok (by kernel_rfl) rfl) hoff) rfl (λhr14=>?_);clear hr13;refine aDa [some 28,some 29,some 30,some 31,some 32,some 33,some 34,some 35,some 36,some 37,some 38,some 39,some 40,none] hr14 rfl (by kernel_rfl) ?_;clear hr14;refine kY ?_;refine nA 444 hE (by decide) rfl rfl ?_;refine fB (some 41) 404 rfl rfl rfl (iC rfl rfl) ?_;refine fB (some 42) 412 rfl rfl rfl (iC rfl rfl) ?_;refine fB (some 43) 420 rfl rfl rfl (LZ Tryz.oG rfl rfl rfl rfl (by omega)) ?_;refine fB (some 44) 428 rfl rfl rfl (vG Tryz.Ep rfl rfl rfl hcl) ?_;refine fB (some 45) 436 rfl rfl rfl (oS (x:=.tmp 44) rfl (λh1=>by first|exact jU Tryz.tE rfl rfl (.t h1)|exact jU Tryz.tE rfl rfl (.own h1 rfl)|exact jU Tryz.tE rfl rfl (.nil h1))) ?_;refine fB (some 46) 444 rfl rfl rfl (RR rfl rfl rfl) ?_;refine nX ?_;refine AZ rfl (λhb5=>?_) (λhb5=>?_)
      .simp only[eC]at hb5
       replace hb5:0<r.length:=by omega
       have hst:j*1+1<=(rE r).length:=by rw[aRG];have:=(hB hb5).2;omega
       refine aD5 [[],[],[0,1],[0,1,2],[],[4],[],[],[6,7],[6,7,8],[6,7,8,9],[4,5,6,7,8,9,10],[],[4,5,6,7,8,9,10,11,12],[4,5,6,7,8,9,10,11,12,13],[0,1,2,3,4,5,6,7,8,9,10,11,12,13,14],[0,1,2,3,4,5,6,7,8,9,10,11,12,13,14,15]] [[],[],[],[],[],[],[],[],[],[],[],[],[],[],[],[],[372]] Tryz.mix hE (by decide) (by kernel_rfl) 580 rfl (λhr0=>?_);refine fI hr0 rfl 444 1 rfl rfl (iC rfl (oE (by kernel_rfl) rfl)) rfl (λhr1=>?_);clear hr0;refine fI hr1 rfl 452 2 rfl rfl (iC rfl (oE (by kernel_rfl) rfl)) rfl (λhr2=>?_);clear hr1;refine fI hr2 rfl 460 3 rfl rfl (LZ Tryz.oG rfl (fP hr2 0 1 rfl (by kernel_rfl) rfl) (l5 hr2.ok (by kernel_rfl) rfl) (fP hr2 1 0 rfl (by kernel_rfl) rfl) (by omega)) rfl (λhr3=>?_);clear hr2;refine fI hr3 rfl 468 4 rfl rfl (vG Tryz.Ep rfl (fP hr3 2 0 rfl (by kernel_rfl) rfl) (l5 hr3.ok (by kernel_rfl) rfl) hcl) rfl (λhr4=>?_);clear hr3;refine fI hr4 rfl 476 5 rfl rfl (iC rfl (oE (by kernel_rfl) rfl)) rfl (λhr5=>?_);clear hr4;refine fI hr5 rfl 484 6 rfl rfl (aRg rfl (fP hr5 4 0 rfl (by kernel_rfl) rfl) rfl (by omega) (by omega)) rfl (λhr6=>?_);clear hr5;refine fI hr6 rfl 492 7 rfl rfl (iC rfl (oE (by kernel_rfl) rfl)) rfl (λhr7=>?_);clear hr6;refine fI hr7 rfl 500 8 rfl rfl (iC rfl (oE (by kernel_rfl) rfl)) rfl (λhr8=>?_);clear hr7;refine fI hr8 rfl 508 9 rfl rfl (LZ Tryz.oG rfl (fP hr8 6 1 rfl (by kernel_rfl) rfl) (l5 hr8.ok (by kernel_rfl) rfl) (fP hr8 7 0 rfl (by kernel_rfl) rfl) (by omega)) rfl (λhr9=>?_);clear hr8;refine fI hr9 rfl 516 10 rfl rfl (vG Tryz.Ep rfl (fP hr9 8 0 rfl (by kernel_rfl) rfl) (l5 hr9.ok (by kernel_rfl) rfl) hcl) rfl (λhr10=>?_);clear hr9;refine fI hr10 rfl 524 11 rfl rfl (oS (x:=.tmp 56) (fP hr10 9 0 rfl (by kernel_rfl) rfl) (λh1=>by first|exact jU Tryz.tE rfl rfl (.t h1)|exact jU Tryz.tE rfl rfl (.own h1 (by first|exact l5 hr10.ok (by kernel_rfl) rfl))|exact jU Tryz.tE rfl rfl (.nil h1))) rfl (λhr11=>?_);clear hr10;refine fI hr11 rfl 532 12 rfl rfl (FB rfl Tryz.func14 (by simp[Tryz.f14]) (by simp[Tryz.f14]) ((hB hb5).1) (.cons (fP hr11 5 5 rfl (by kernel_rfl) rfl) (.cons (fP hr11 10 0 rfl (by kernel_rfl) rfl) (.nil))) (.t rfl) (.nil) rfl) rfl (λhr12=>?_);clear hr11;refine fI hr12 rfl 540 13 rfl rfl (iC rfl (oE (by kernel_rfl) rfl)) rfl (λhr13=>?_);clear hr12;refine fI hr13 rfl 548 14 rfl rfl (FB rfl Tryz.func14 (by simp[Tryz.f14]) (by simp[Tryz.f14]) (hC) (.cons (fP hr13 12 0 rfl (by kernel_rfl) rfl) (.cons rfl (.nil))) (.t rfl) (.nil) rfl) rfl (λhr14=>?_);clear hr13;refine fI hr14 rfl 556 15 rfl rfl (FA rfl (by kernel_rfl) Tryz.u5 (fP hr14 13 0 rfl (by kernel_rfl) rfl)) rfl (λhr15=>?_);clear hr14;refine fI hr15 rfl 564 16 rfl rfl (SI Tryz.e23 rfl (fP hr15 3 11 rfl (by kernel_rfl) rfl) (l5 hr15.ok (by kernel_rfl) rfl) (fP hr15 11 3 rfl (by kernel_rfl) rfl) (hB hb5).2) rfl (λhr16=>?_);clear hr15;refine fI hr16 rfl 572 17 rfl rfl (str (.ev (fP hr16 14 1 rfl (by kernel_rfl) rfl)) rfl Tryz.s5 (fP hr16 15 0 rfl (by kernel_rfl) rfl) rfl (l5 hr16.ok (by kernel_rfl) rfl) hst rfl (Nat.succ_pos _)) rfl (λhr17=>?_);clear hr16;refine aDa [some 47,some 48,some 49,some 50,some 51,some 52,some 53,some 54,some 55,some 56,some 57,some 58,some 59,some 60,some 61,some 62,none] hr17 rfl (by kernel_rfl) ?_;clear hr17;refine kY ?_;have e1:cO (rE r) (j*1) [.v (.int .u8 (IntKind.u8.wrap b.toNat))]=rE q:=by rw[aPv,hq1 hb5];exact aBS r j b (hB hb5).2
       have e2:r.length=q.length:=by rw[hq1 hb5,iI]
       refine rA (Sc 188 (k*1) 372 rfl hce rfl) ?_;rw[e1,e2];refine rA (Sb 188 rfl (RH p k _ q hkl)) ?_;refine rA (Lg 188 rfl) ?_;refine nA 596 hE (by decide) rfl rfl ?_;refine fB (some 124) 588 rfl rfl rfl (iC rfl rfl) ?_;refine fB (some 8) 596 rfl rfl rfl (qP rfl rfl) ?_;refine nX ?_;refine TN ?_;exact aBH [] rfl rfl (.rd (st:=true) rfl rfl rfl (Nat.zero_add _)) .nil rfl
      .simp only[Lk]at hb5
       replace hb5:¬ 0<r.length:=by omega
       refine TM ?_;refine kY ?_;have e1:rE r=rE q:=by rw[hq0 hb5]
       have e2:r.length=q.length:=by rw[hq0 hb5]
       refine rA (Sc 188 (k*1) 372 rfl hce rfl) ?_;rw[e1,e2];refine rA (Sb 188 rfl (RH p k _ q hkl)) ?_;refine rA (Lg 188 rfl) ?_;refine nA 460 hE (by decide) rfl rfl ?_;refine fB (some 124) 452 rfl rfl rfl (iC rfl rfl) ?_;refine fB (some 8) 460 rfl rfl rfl (qP rfl rfl) ?_;refine nX ?_;refine TN ?_;exact aBH [] rfl rfl (.rd (st:=true) rfl rfl rfl (Nat.zero_add _)) .nil rfl
end Go.Proofs
/- Spoilt: its contract. -/
namespace Go.Proofs
open Go Go.Ax Go.Ax.aA Go.RowKit Go.Ab
theorem aPq(N:Nat){b:List UInt8}(hb:b.length<=1000000):QT N b (b.length:Int)=some b:=by
 have hs:cA b none (some (min (b.length:Int) (b.length:Int)))=b:=by
  show b.take (min (b.length:Int) (b.length:Int)).toNat=b;rw[Int.min_self,iT,List.take_length]
 unfold QT QY QX;rw[hs,aP (show dJ b.length none (some (min (b.length:Int) (b.length:Int)))=true from aL (by rw[Int.min_self];omega)),aP (eT (by omega) (by omega))];rfl
def CD(p:List (List UInt8))(a b:Int):List (List UInt8):=
 p.set (fO a p.length).toNat (if 0<(p.getD (fO a p.length).toNat []).length then(p.getD (fO a p.length).toNat []).set (fO (b.tdiv 64) (p.getD (fO a p.length).toNat []).length).toNat (gP (fO b 64).toNat)else p.getD (fO a p.length).toNat [])
def Fp(p:List (List UInt8))(a h b:Int):Prop:=p.length<=60000/\(∀r∈p,r.length<=60000)/\iK a/\iK h/\iK b/\0<p.length/\fO h 5=4
theorem aQ7{p:List (List UInt8)}{a h b:Int}(H:Fp p a h b):cN Tryz.prog 25 [(X.e (.sl (.sl .u8)) p).D,(X.e (.i .i64) a).D,(X.e (.i .i64) h).D,(X.e (.i .i64) b).D] [] (X.e (.sl (.sl .u8)) (CD p a b)).D []:=by
 obtain⟨h1,h2,h3,h4,h5,h6,h7⟩:=H;have A:∀(n m:Int),iK n->cN Tryz.prog 14 [I n,I m] [] (I (fO n m)) []:=λn m hn=>Zm (Zn 0) (Pv 0 hn)
 have hk0:=A4 (n:=a) (m:=(p.length:Int)) (by omega);obtain⟨k,hk⟩:∃k:Nat,fO a p.length=k:=⟨(fO a p.length).toNat,by omega⟩
 have hkl:k<p.length:=by omega
 have g:=List.getElem?_eq_getElem hkl;have hr:=h2 _ (List.getElem_mem hkl);have eg:p.getD k []=p[k]:=by rw[List.getD_eq_getElem?_getD,g];rfl
 generalize hrr:p[k]=r at g hr eg;have hb0:=A4 (n:=b) (m:=64) (by omega);obtain⟨c,hc⟩:∃c:Nat,fO b 64=c:=⟨(fO b 64).toNat,by omega⟩
 have ec:((gP c).toNat:Int)=c:=by
  have:(gP c).toNat=c:=UInt8.toNat_ofNat_of_lt' (by show c<256;omega);omega
 have hdv:=aAc (x:=b) h5;have F:cN Tryz.prog 13 [.t (.sl r.length (rE r)),I r.length] [] (.own 100) [(100,.row 5 1 r.length (rE r) false)]:=aPn (aPp 0) (aPq 0 (by omega));have B:0<r.length->cN Tryz.prog 14 [I (b.tdiv 64),I r.length] [] (I ((fO (b.tdiv 64) r.length).toNat:Nat)) []/\(fO (b.tdiv 64) r.length).toNat<r.length:=λh0=>by
  have:=A4 (n:=b.tdiv 64) (m:=(r.length:Int)) (by omega);refine⟨?_,by omega⟩;rw[Int.toNat_of_nonneg this.1];exact A _ _ hdv
 unfold CD;rw[hk,iT,eg,hc,iT];have hA:=A a p.length h3;rw[hk]at hA;have hH:=A h 5 h4;rw[h7]at hH;have hC:=A b 64 h5;rw[hc,<-ec]at hC;have key:=aQ4 p a h b k r (if 0<r.length then r.set (fO (b.tdiv 64) r.length).toNat (gP c)else r) (fO (b.tdiv 64) r.length).toNat (gP c) h1 hr g hA hH F B hC h5 (λh=>aE h) (λh=>aC h);have e:∀q:List UInt8,D.t (.sl p.length (pE (p.set k q)))=(X.e (.sl (.sl .u8)) (p.set k q)).D:=λq=>by
  have h:(p.set k q).length=p.length:=iI ..;show D.t (Tree.sl p.length (pE (p.set k q)))=D.t (Tree.sl (p.set k q).length (pE (p.set k q)));rw[h]
 rw[e]at key;exact key
open Classical in
noncomputable def tG(N:Nat)(p:List (List UInt8))(a h b:Int):Bool:=yN N p a h b||decide (Fp p a h b)
noncomputable def pD(N:Nat)(p:List (List UInt8))(a h b:Int):List (List UInt8):=if yN N p a h b=true then JZ N p a h b else CD p a b
noncomputable def aCT(N:Nat):bO:=E4 (.sl (.sl .u8)) (.i .i64) (.i .i64) (.i .i64) λp a h b=>(tG N p a h b,(.e (.sl (.sl .u8)) (pD N p a h b),[]))
theorem aUK(N:Nat):aV Tryz.prog 25 (aCT N):=aV.e4 (λp a h b hp=>by
 have hp:tG N p a h b=true:=hp;show cN Tryz.prog 25 _ _ (X.D (.e (.sl (.sl .u8)) (pD N p a h b))) (HA []);unfold pD;by_cases hw:yN N p a h b=true
 .rw[aE hw]
  obtain⟨d,hd⟩:=Option.isSome_iff_exists.1 hw;have e:JZ N p a h b=d:=by unfold JZ;rw[hd];rfl
  rw[e];exact aM2 (aM3 N) hd
 .rw[aC hw]
  unfold tG at hp;rw[Bool.or_eq_true]at hp;rcases hp with hp|hp
  .exact absurd hp hw
  .exact aQ7 (@cH _ (Classical.propDecidable _) hp))
end Go.Proofs
