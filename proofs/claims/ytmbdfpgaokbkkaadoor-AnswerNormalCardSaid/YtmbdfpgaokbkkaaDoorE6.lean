/- The abstract machine, run: operations. Conditions are in the theorems. -/
import Derived.Test.YtmbdfpgaokbkkaaDoorE5
import Derived.Laws.IdiomStrings
import Derived.Lib.ConvBytes
/- Operations: parts of data, what is read, what is built. -/
namespace Go.Ax
open Alg
open Go.RowKit Go.Ab
theorem OpOk_wk {P:Program} {o:Oper} {σ:St} {fr:Nat} {d d':D} (h:OpOk P o σ fr d []) (hw:DWk σ.H d d'):OpOk P o σ fr d' []:=fun E σ₁ a w h1 h2 h3 h4 h5 h6 Q=>Oper.wp_mono (fun a' w' ⟨q1,ν,G,I⟩=>by
 refine ⟨q1,ν,G,I.kept,I.keep,I.pin,I.g0,I.sz,fun t x ht=>?_,I.H,I.dis⟩;simp only [St.upd] at ht;by_cases e:o.dst=some t
 ·rw [if_pos e] at ht
  cases ht;obtain ⟨v,hv,hd⟩:=I.T t d (by simp only [St.upd];rw [if_pos e]);exact ⟨v,hv,hw E _ ν G w' _ (fun k ob hk=>by simp only [St.upd,Ab.look];exact h2 k ob hk) I v hd⟩
 ·rw [if_neg e] at ht
  exact I.T t x (by simp only [St.upd];rw [if_neg e];exact ht)) (h E σ₁ a w h1 h2 h3 h4 h5 h6 Q)
theorem val_D {x:X} (h:x.val=true):x.D.val=true:=by
 cases x with
 | e τ y=>
   have h:τ.one=true:=h;rw [e_D h];rfl
 | tup xs=>cases h
 | cnd a b c=>cases h
 | bit a b=>cases h
 | pan a=>cases h
 | _=>rfl
theorem cells_val {x:X} (h:x.val=true):x.D.cells=x.cells.map X.D:=cells_D h (val_D h)
theorem drops_eq {α:Type}:∀ (n:Nat) (l:List α),drops n l=l.drop n
 | 0,l=>rfl
 | n+1,[]=>by simp [drops]
 | n+1,x::l=>by simp [drops,drops_eq n l]
theorem takes_eq {α:Type}:∀ (n:Nat) (l:List α),takes n l=l.take n
 | 0,l=>by simp [takes]
 | n+1,[]=>by simp [takes]
 | n+1,x::l=>by simp [takes,takes_eq n l]
theorem puts_eq {α:Type}:∀ (l:List α) (off:Nat) (new:List α),off+new.length<=l.length->puts l off new=splice l off new
 | [],off,new,h=>by
   simp at h;obtain ⟨rfl,rfl⟩:=h;rfl
 | x::l,0,[],_=>by simp [puts,splice]
 | x::l,0,y::new,h=>by
   have ih:=puts_eq l 0 new (by simp at h ⊢;omega);simp only [puts,ih,splice];simp
 | x::l,n+1,new,h=>by
   have ih:=puts_eq l n new (by simp at h ⊢;omega);simp only [puts,ih,splice,List.take_succ_cons,List.cons_append];rw [show n+1+new.length=(n+new.length)+1 by omega,List.drop_succ_cons]
theorem splice_map {α β:Type} (f:α->β) (l:List α) (off:Nat) (new:List α):(splice l off new).map f=splice (l.map f) off (new.map f):=by
 simp [splice]
theorem repl_eq {α:Type} (x:α):∀ n,repl x n=List.replicate n x
 | 0=>rfl
 | n+1=>by rw [repl,repl_eq x n,List.replicate_succ]
theorem putL_eq {α:Type} (l:List α) (i:Nat) (x:α):putL x i l=l.set i x:=by
 have:=putL_set (fun z:α=>z) l i x;simpa using this
theorem atX_ok:∀ (τ:Ty) (x:τ.V) (j m:Nat) (k:(τ':Ty)->τ'.V->O) (r:Res),atX τ x j m k=some r->∃ (τ':Ty) (y:τ'.V) (A B:List Tree),k τ' y=some r/\encs τ x=A++encs τ' y++B/\A.length=j/\m=τ'.size
 | .pr a b,x,j,m,k,r,h=>by
   unfold atX at h;split at h
   ·rename_i hb
    rw [Bool.and_eq_true] at hb;exact ⟨.pr a b,x,[],[],h,by simp,(Nat.eq_of_beq_eq_true hb.1).symm,Nat.eq_of_beq_eq_true hb.2⟩
   ·split at h
    ·obtain ⟨τ',y,A,B,h1,h2,h3,h4⟩:=atX_ok a x.1 j m k r h
     exact ⟨τ',y,A,B++encs b x.2,h1,by rw [encs,h2];simp,h3,h4⟩
    ·rename_i hlt
     obtain ⟨τ',y,A,B,h1,h2,h3,h4⟩:=atX_ok b x.2 (j - a.size) m k r h;have:¬ j < a.size:=fun hj=>by
      have:Nat.blt j a.size=true:=Nat.ble_eq_true_of_le hj;rw [this] at hlt;cases hlt
     exact ⟨τ',y,encs a x.1++A,B,h1,by rw [encs,h2];simp,by rw [List.length_append,encs_len,h3];omega,h4⟩
 | .un,x,j,m,k,r,h=>by unfold atX at h;cases h
 | .ex,x,j,m,k,r,h=>by
   unfold atX at h;split at h
   ·exact ⟨.ex,x,[],[],h,by simp,rfl,rfl⟩
   ·exact ⟨.i .i64,Ex.op x,[],[.v (.int .i64 (Ex.num x)),.sl (List.length (Ex.kids x)) ((Ex.kids x).flatMap encE)],h,(by have:=encs_ex x;exact this),rfl,rfl⟩
   ·exact ⟨.i .i64,Ex.num x,[.v (.int .i64 (Ex.op x))],[.sl (List.length (Ex.kids x)) ((Ex.kids x).flatMap encE)],h,(by have:=encs_ex x;exact this),rfl,rfl⟩
   ·exact ⟨.sl .ex,Ex.kids x,[.v (.int .i64 (Ex.op x)),.v (.int .i64 (Ex.num x))],[],h,(by have:=encs_ex x;exact this),rfl,rfl⟩
   ·cases h
 | .i a,x,j,m,k,r,h=>by
   unfold atX at h;split at h
   ·rename_i hb
    rw [Bool.and_eq_true] at hb;exact ⟨.i a,x,[],[],h,by simp,(Nat.eq_of_beq_eq_true hb.1).symm,Nat.eq_of_beq_eq_true hb.2⟩
   ·cases h
 | .u8,x,j,m,k,r,h=>by
   unfold atX at h;split at h
   ·rename_i hb
    rw [Bool.and_eq_true] at hb;exact ⟨.u8,x,[],[],h,by simp,(Nat.eq_of_beq_eq_true hb.1).symm,Nat.eq_of_beq_eq_true hb.2⟩
   ·cases h
 | .bo,x,j,m,k,r,h=>by
   unfold atX at h;split at h
   ·rename_i hb
    rw [Bool.and_eq_true] at hb;exact ⟨.bo,x,[],[],h,by simp,(Nat.eq_of_beq_eq_true hb.1).symm,Nat.eq_of_beq_eq_true hb.2⟩
   ·cases h
 | .tx,x,j,m,k,r,h=>by
   unfold atX at h;split at h
   ·rename_i hb
    rw [Bool.and_eq_true] at hb;exact ⟨.tx,x,[],[],h,by simp,(Nat.eq_of_beq_eq_true hb.1).symm,Nat.eq_of_beq_eq_true hb.2⟩
   ·cases h
 | .sl a,x,j,m,k,r,h=>by
   unfold atX at h;split at h
   ·rename_i hb
    rw [Bool.and_eq_true] at hb;exact ⟨.sl a,x,[],[],h,by simp,(Nat.eq_of_beq_eq_true hb.1).symm,Nat.eq_of_beq_eq_true hb.2⟩
   ·cases h
theorem flat_at {α:Type} {f:α->List Tree} {s:Nat} (hf:∀ x,(f x).length=s):∀ {l:List α} {i:Nat} {y:α},l[i]?=some y->∃ A B,l.flatMap f=A++f y++B/\A.length=i * s
 | [],i,y,h=>by simp at h
 | x::l,0,y,h=>by simp at h;subst h;exact ⟨[],l.flatMap f,by simp,by simp⟩
 | x::l,i+1,y,h=>by
   obtain ⟨A,B,h1,h2⟩:=flat_at hf (l:=l) (i:=i) (y:=y) (by simpa using h);exact ⟨f x++A,B,by rw [List.flatMap_cons,h1];simp,by rw [List.length_append,hf,h2,Nat.add_mul];omega⟩
theorem encs_flat_len {τ:Ty} (l:List τ.V):(l.flatMap (encs τ)).length=l.length * τ.size:=flat_len (fun x=>encs_len τ x) l
theorem DWk.ptr {H:Nat->Option AObj} {A ts B:List Tree} {off:Nat} (hA:A.length=off):DWk H (.ptr (A++ts++B) off) (.ptr ts 0):=fun _ s ν G w _ _ _ v hv=>by
 obtain ⟨b,q,us,rfl,hl,hc,ht⟩:=ptr_of hv;have hlen:us.length=A.length+ts.length+B.length:=by rw [hl];simp;omega
 have:=DR.ptr (ν:=ν) (nm:=s.nm) (w:=w) (G:=G) (b:=b) (o:=q+off) (off:=0) (us:=(us.drop off).take ts.length) (ts:=ts) (by simp;omega) (fun i u hu=>by
  rw [List.getElem?_take] at hu;split at hu
  ·rw [List.getElem?_drop] at hu
   have:=hc (off+i) u hu
   rwa [← Nat.add_assoc] at this
  ·cases hu) (fun i u t hu hti=>by
  rw [List.getElem?_take] at hu;split at hu
  ·rename_i hi
   rw [List.getElem?_drop] at hu;refine ht (off+i) u t hu ?_;rw [List.append_assoc,List.getElem?_append_right (by omega),List.getElem?_append_left (by omega),show off+i - A.length=i by omega];exact hti
  ·cases hu)
 exact this
theorem DWk.refrow {H:Nat->Option AObj} {q off:Nat} {e:TypeId} {s n:Nat} {A ts B:List Tree} (hq:H q=some (.row e s n (A++ts++B) true)) (hA:A.length=off):DWk H (.ref q off) (.ptr ts 0):=fun E st ν G w tm hH I v hv=>by
 obtain ⟨g,hg,rfl,_⟩:=ref_of hv;have htr:=I.rows _ _ _ _ _ _ (hH _ _ hq) rfl;obtain ⟨u,hu⟩:∃ u,ν q=u:=⟨_,rfl⟩
 rw [hu] at htr hg;obtain ⟨L,hL⟩:∃ L,A++ts++B=L:=⟨_,rfl⟩
 rw [hL] at htr;cases htr with
 | nil h=>
   have hts:ts=[]:=(List.append_eq_nil_iff.1 (List.append_eq_nil_iff.1 hL).1).2;subst hts;have:=DR.ptr (ν:=ν) (nm:=st.nm) (w:=w) (G:=G) (b:=g) (o:=off) (off:=0) (us:=[]) (ts:=[]) rfl (fun i u h=>by simp at h) (fun i u t h=>by simp at h);exact this
 | sl b o n c us ts' hl hc hn h=>
   simp only [blk,Option.some.injEq] at hg;subst hg
   -- a row of one's own begins at its block's first cell
   have ho:o=0:=by
    obtain ⟨_,xs,r1,_⟩:=I.H _ _ (hH _ _ hq);rcases r1.2 with ⟨hv,_⟩ | ⟨g,cap,cur,hv,_⟩
    ·rw [hu] at hv;cases hv
    ·rw [hu] at hv;cases hv;rfl
   subst ho;rw [← hL] at hl h;have h0:DR ν st.nm w G (.pointer (some ⟨b,0+off,none⟩)) (.ptr (A++ts++B) off):=.ptr hl hc h;rw [Nat.zero_add] at h0;exact DWk.ptr (H:=H) hA E st ν G w tm hH I _ h0
end Go.Ax
/- Operations: loads and stores, addresses, what is built. -/
namespace Go.Ax
open Alg
open Go.RowKit Go.Ab
abbrev Gives (c:Cx) (σ:Vw) (fr:Nat) (o:Oper) (k:X->Wx->O) (r:Res):Prop:=∃ x W,k x W=some r/\x.pl=true/\(σ.On->OpOk c.P o σ.den fr x.D (WA W))
theorem toT {τ:Ty} {y:τ.V} (h:τ.one=true):(encs τ y).map D.t=[(X.e τ y).D]:=by rw [encs_one h,e_D h];rfl
section
variable {c:Cx} {σ:Vw} {κ:Nat->Bool} {fr:Nat} {o:Oper} {r:Res}
theorem nest_row {τ:Ty} {l:List (List τ.V)} {i:Nat} {r:List τ.V} (h:l[i]?=some r):(l.map fun r=>(List.length r,List.flatMap (encs τ) r))[i]?=some (List.length r,List.flatMap (encs τ) r):=by rw [List.getElem?_map,h];rfl
theorem flat_one {τ:Ty} (h:τ.one=true) (r:List τ.V):List.flatMap (encs τ) r=r.map (enc1 τ):=flat_single (fun y=>encs_one h y) r
theorem lent_ne {i i' j s:Nat} (h1:1<=j) (h2:j < s):i' * s≠i * s+j:=fun e=>by
 rcases Nat.lt_trichotomy i' i with h | h | h
 ·have:=Nat.mul_le_mul_right s (show i'+1<=i by omega)
  rw [Nat.add_mul,Nat.one_mul] at this;omega
 ·subst h;omega
 ·have:=Nat.mul_le_mul_right s (show i+1<=i' by omega)
  rw [Nat.add_mul,Nat.one_mul] at this;omega
theorem lentN_get {κ ρ:Ty} {l:List (List κ.V×ρ.V)} {ln:Option (Int×Nat)} {i j:Nat} {y:List κ.V×ρ.V} (hy:l[i]?=some y) (h1:1<=j) (h2:j < 1+ρ.size):(lentN (1+ρ.size) (List.flatMap cellsN l) ln)[i * (1+ρ.size)+j]?=((encs ρ y.2)[j - 1]?).map fun t=>.dat (.t t):=by
 have hg:=fl_get (f:=cellsN) cellsN_len l i j y hy h2;have:(cellsN y)[j]?=((encs ρ y.2)[j - 1]?).map fun t=>.dat (.t t):=by
  obtain ⟨j',rfl⟩:∃ j',j=j'+1:=⟨j - 1,by omega⟩
  unfold cellsN;rw [List.getElem?_cons_succ,List.getElem?_map];rfl
 rw [this] at hg;unfold lentN;split
 ·exact hg
 ·rw [List.getElem?_set_ne (lent_ne h1 h2)];exact hg
theorem lentN_cut {κ ρ:Ty} {l:List (List κ.V×ρ.V)} {ln:Option (Int×Nat)} {i j:Nat} {y:List κ.V×ρ.V} (hy:l[i]?=some y) (h1:1<=j) {A B E:List Tree} (he:encs ρ y.2=A++E++B) (hA:A.length=j - 1):
    (((lentN (1+ρ.size) (List.flatMap cellsN l) ln).map NC.tell).drop (i * (1+ρ.size)+j)).take E.length=E.map .t:=by
 have hsz:(encs ρ y.2).length=ρ.size:=encs_len ρ y.2;have hl2:A.length+E.length+B.length=ρ.size:=by rw [he] at hsz;simp at hsz;omega
 apply List.ext_getElem?;intro p;rw [List.getElem?_take,List.getElem?_map];by_cases hp:p < E.length
 ·rw [if_pos hp,List.getElem?_drop,List.getElem?_map,Nat.add_assoc,lentN_get hy (by omega) (by omega),he,List.append_assoc,List.getElem?_append_right (by omega),List.getElem?_append_left (by omega),show j+p - 1 - A.length=p by omega,Option.map_map]
  rfl
 ·rw [if_neg hp,List.getElem?_eq_none (by omega)]
  rfl
theorem loadX_ok {t:TypeId} {a:X} {k:X->O} (h:loadX c σ t a k=some r):∃ y,k y=some r/\(a.pl=true->y.pl=true\/∃ q off,a = .ref q off)/\∀ {x:Operand},o.op = .load t x->σ.den.ev x=some a.D->OpOk c.P o σ.den fr y.D []:=by
 unfold loadX at h;split at h
 case h_2=>cases h
 rename_i rw m hrw hm;split at h
 ·rename_i q off
  split at h
  ·rename_i e xs hq
   have hq':=den_H hq;split at h
   ·split at h
    ·rename_i hb
     have hb:=Nat.eq_of_beq_eq_true hb;refine ⟨_,h,fun _=>.inr ⟨q,off,rfl⟩,fun ho hx=>?_⟩;unfold X.D;rw [Ds_map];refine ldn hrw hm ho hx hq' ?_ (by rw [List.length_map];exact hb);show (((xs.map X.D).drop off).take m)=_;rw [takes_eq,drops_eq,List.map_take,List.map_drop]
    ·cases h
   ·obtain ⟨y,hy,h⟩:=ob_some h
    refine ⟨y,h,fun _=>.inr ⟨q,off,rfl⟩,fun ho hx=>ld1 hrw ho hx hq' ?_⟩;show (xs.map X.D)[off]?=_;rw [List.getElem?_map,hy];rfl
  ·cases h
 ·rename_i q i j s
  split at h
  ·rename_i e τ l st hq
   have hq':=den_H hq;split at h
   ·rename_i hb
    have hb:=Nat.eq_of_beq_eq_true hb;subst hb;obtain ⟨y,hy,h⟩:=gn_some h;obtain ⟨τ',y',A,B,h,h2,h3,h4⟩:=atX_ok _ _ _ _ _ _ h;obtain ⟨A',B',g1,g2⟩:=flat_at (f:=encs τ) (fun x=>encs_len τ x) hy;have hcells:(XO.row e τ l st).A.cells=((A'++A)++encs τ' y'++(B++B')).map .t:=by
     show (l.flatMap (encs τ)).map D.t=_;rw [g1,h2];simp
    have hlen:(A'++A).length=i * τ.size+j:=by rw [List.length_append,g2,h3]
    split at h
    ·refine ⟨_,h,fun _=>.inl rfl,fun ho hx=>?_⟩
     unfold X.D;rw [Ds_map,cellsX_D];refine ldn hrw hm ho hx hq' ?_ (by rw [List.length_map,encs_len,h4]);rw [hcells,List.map_append,List.map_append,List.append_assoc,List.drop_append_of_le_length (by rw [List.length_map];omega),List.drop_eq_nil_of_le (by rw [List.length_map];omega),List.nil_append,List.take_append_of_le_length (by rw [List.length_map,encs_len,h4];exact Nat.le_refl _),List.take_of_length_le (by rw [List.length_map,encs_len,h4];exact Nat.le_refl _)]
    ·have h1:Ty.one τ'=true:=by assumption
     refine ⟨_,h,fun _=>.inl rfl,fun ho hx=>ld1 hrw ho hx hq' ?_⟩;rw [hcells,List.map_append,List.map_append,toT h1,List.append_assoc,List.getElem?_append_right (by rw [List.length_map];omega),List.length_map,hlen,Nat.sub_self];rfl
    ·cases h
   ·cases h
  ·rename_i e e' τ l hq
   have hq':=den_H hq;split at h
   ·rename_i hb
    rw [Bool.and_eq_true] at hb;have hb1:=Nat.eq_of_beq_eq_true hb.1;have hb2:=Nat.eq_of_beq_eq_true hb.2;subst hb1 hb2;obtain ⟨y,hy,h⟩:=gn_some h;refine ⟨_,h,fun _=>.inl rfl,fun ho hx=>?_⟩;have hx':σ.den.ev _=some (.ref q i):=hx.trans (by show some (D.ref q (i * 1+0))=_;rw [Nat.mul_one,Nat.add_zero]);exact ok_ldN hrw ho hx' hq' (nest_row hy)
   ·cases h
  ·rename_i e e' κ' ρ l ln hq
   have hq':=den_H hq;split at h
   ·rename_i hb
    have hb:=Nat.eq_of_beq_eq_true hb;subst hb;split at h
    ·rename_i hj
     have hj:=Nat.eq_of_beq_eq_true hj;subst hj;split at h
     ·rename_i i' q'
      obtain ⟨hi,h⟩:=ck_some h;have hi:=of_decide_eq_true hi;subst hi;obtain ⟨y,hy,h⟩:=gn_some h;refine ⟨_,h,fun _=>.inl rfl,fun ho hx=>ld1 hrw ho hx hq' ?_⟩;have hlt:=cellsN_lt (ρ:=ρ) (l:=l) (j:=0) (List.getElem?_eq_some_iff.1 hy).1 (by omega);show ((lentN (1+ρ.size) (List.flatMap cellsN l) (some (i',q'))).map NC.tell)[i'.toNat * (1+ρ.size)+0]?=some (.own q');rw [Nat.add_zero] at hlt ⊢;unfold lentN;rw [List.getElem?_map,List.getElem?_set_self hlt];rfl
     ·cases h
    ·rename_i hj
     have hj0:j≠0:=fun e=>by subst e;cases hj
     obtain ⟨y,hy,h⟩:=gn_some h;obtain ⟨τ',y',A,B,h,h2,h3,h4⟩:=atX_ok _ _ _ _ _ _ h;have hcut:=lentN_cut (ln:=ln) hy (by omega) h2 h3;rw [encs_len,← h4] at hcut;split at h
     ·refine ⟨_,h,fun _=>.inl rfl,fun ho hx=>?_⟩
      unfold X.D;rw [Ds_map,cellsX_D];exact ldn hrw hm ho hx hq' hcut (by rw [List.length_map,encs_len,h4])
     ·have h1:Ty.one τ'=true:=by assumption
      refine ⟨_,h,fun _=>.inl rfl,fun ho hx=>ld1 hrw ho hx hq' ?_⟩;have:=congrArg (fun l=>l[0]?) hcut;simp only [List.getElem?_take,List.getElem?_drop,Nat.add_zero] at this;rw [if_pos (by rw [h4,size_one h1];omega),toT h1] at this;exact this
     ·cases h
   ·cases h
  ·cases h
 ·rename_i q i j
  split at h
  ·rename_i e e' τ l hq
   have hq':=den_H hq;split at h
   ·rename_i h1
    obtain ⟨y,hy,h⟩:=gn_some h;obtain ⟨z,hz,h⟩:=gn_some h;refine ⟨_,h,fun _=>.inl rfl,fun ho hx=>?_⟩;rw [e_D h1];exact ok_ldS hrw ho hx hq' (nest_row hy) (by show (List.flatMap (encs τ) y)[j]?=_;rw [flat_one h1,List.getElem?_map,hz];rfl)
   ·cases h
  ·cases h
 ·rename_i τ y j
  obtain ⟨τ',y',A,B,h,h2,h3,h4⟩:=atX_ok _ _ _ _ _ _ h;split at h
  ·refine ⟨_,h,fun _=>.inl rfl,fun ho hx=>?_⟩
   unfold X.D;rw [Ds_map,cellsX_D];refine lpn hrw hm ho hx ?_ (by rw [encs_len,h4]);rw [h2,List.append_assoc,List.drop_append_of_le_length (by omega),List.drop_eq_nil_of_le (by omega),List.nil_append,List.take_append_of_le_length (by rw [encs_len,h4];exact Nat.le_refl _),List.take_of_length_le (by rw [encs_len,h4];exact Nat.le_refl _)]
  ·have h1:Ty.one τ'=true:=by assumption
   refine ⟨_,h,fun _=>.inl rfl,fun ho hx=>?_⟩;rw [e_D h1];refine lp1 hrw ho hx ?_;rw [h2,encs_one h1,List.append_assoc,List.getElem?_append_right (by omega),h3,Nat.sub_self];rfl
  ·cases h
 ·cases h
theorem splice_app_right {α:Type} {A B new:List α} {j:Nat} (h:A.length<=j):splice (A++B) j new=A++splice B (j - A.length) new:=by
 simp only [splice];rw [List.take_append,List.drop_append,List.take_of_length_le h,List.drop_eq_nil_of_le (by omega),List.nil_append,show j+new.length - A.length=j - A.length+new.length by omega];simp
theorem splice_app_left {α:Type} {A B new:List α} {j:Nat} (h:j+new.length<=A.length):splice (A++B) j new=splice A j new++B:=by
 simp only [splice];rw [List.take_append_of_le_length (by omega),List.drop_append_of_le_length h];simp
theorem setAt_ok {H:Nat->Option AObj}:∀ (τ:Ty) (x:τ.V) (j m:Nat) (xs:List X) (k:τ.V->O),setAt τ x j m xs k=some r->∃ (y:τ.V) (new:List Tree),k y=some r/\DWs H (xs.map X.D) (new.map .t)/\j+new.length<=τ.size/\encs τ y=splice (encs τ x) j new
 | .pr a b,x,j,m,xs,k,h=>by
   unfold setAt at h;split at h
   ·rename_i hb
    rw [Bool.and_eq_true] at hb;have hj:=Nat.eq_of_beq_eq_true hb.1;subst hj;obtain ⟨y,hy,h⟩:=ob_some h;refine ⟨y,encs _ y,h,joinAll_ok hy,by rw [encs_len];omega,?_⟩;simp [splice,encs_len,List.drop_eq_nil_of_le]
   ·split at h
    ·rename_i hlt
     have hlt:j < a.size:=Nat.le_of_ble_eq_true hlt;obtain ⟨y,new,h1,h2,h3,h4⟩:=setAt_ok (H:=H) a x.1 j m xs (fun y=>k (y,x.2)) h;refine ⟨(y,x.2),new,h1,h2,by simp only [Ty.size];omega,?_⟩;show encs a y++encs b x.2=splice (encs a x.1++encs b x.2) j new;have hA:=encs_len a x.1;rw [h4,splice_app_left (by omega)]
    ·rename_i hlt
     have hge:a.size<=j:=Nat.le_of_not_lt fun hj=>by
      have:Nat.blt j a.size=true:=Nat.ble_eq_true_of_le hj;rw [this] at hlt;cases hlt
     obtain ⟨y,new,h1,h2,h3,h4⟩:=setAt_ok (H:=H) b x.2 (j - a.size) m xs (fun y=>k (x.1,y)) h;refine ⟨(x.1,y),new,h1,h2,by simp only [Ty.size];omega,?_⟩;show encs a x.1++encs b y=splice (encs a x.1++encs b x.2) j new;have hA:=encs_len a x.1;rw [h4,splice_app_right (by omega),hA]
 | .ex,x,j,m,xs,k,h=>by
   unfold setAt at h;split at h
   ·obtain ⟨y,hy,h⟩:=ob_some h
    refine ⟨y,encs _ y,h,joinAll_ok hy,by rw [encs_len];omega,?_⟩;have h1:=encs_len .ex x;have h2:=encs_len .ex y;simp only [splice,List.take_zero,List.nil_append,Nat.zero_add];rw [List.drop_eq_nil_of_le (by omega),List.append_nil]
   ·cases h
 | .i a,x,j,m,xs,k,h=>by
   unfold setAt at h;split at h
   ·rename_i hb
    rw [Bool.and_eq_true] at hb;have hj:=Nat.eq_of_beq_eq_true hb.1;subst hj;obtain ⟨y,hy,h⟩:=ob_some h;exact ⟨y,encs _ y,h,joinAll_ok hy,by rw [encs_len];omega,rfl⟩
   ·cases h
 | .un,x,j,m,xs,k,h=>by unfold setAt at h;cases h
 | .u8,x,j,m,xs,k,h=>by
   unfold setAt at h;split at h
   ·rename_i hb
    rw [Bool.and_eq_true] at hb;have hj:=Nat.eq_of_beq_eq_true hb.1;subst hj;obtain ⟨y,hy,h⟩:=ob_some h;exact ⟨y,encs _ y,h,joinAll_ok hy,by rw [encs_len];omega,rfl⟩
   ·cases h
 | .bo,x,j,m,xs,k,h=>by
   unfold setAt at h;split at h
   ·rename_i hb
    rw [Bool.and_eq_true] at hb;have hj:=Nat.eq_of_beq_eq_true hb.1;subst hj;obtain ⟨y,hy,h⟩:=ob_some h;exact ⟨y,encs _ y,h,joinAll_ok hy,by rw [encs_len];omega,rfl⟩
   ·cases h
 | .tx,x,j,m,xs,k,h=>by
   unfold setAt at h;split at h
   ·rename_i hb
    rw [Bool.and_eq_true] at hb;have hj:=Nat.eq_of_beq_eq_true hb.1;subst hj;obtain ⟨y,hy,h⟩:=ob_some h;exact ⟨y,encs _ y,h,joinAll_ok hy,by rw [encs_len];omega,rfl⟩
   ·cases h
 | .sl a,x,j,m,xs,k,h=>by
   unfold setAt at h;split at h
   ·rename_i hb
    rw [Bool.and_eq_true] at hb;have hj:=Nat.eq_of_beq_eq_true hb.1;subst hj;obtain ⟨y,hy,h⟩:=ob_some h;exact ⟨y,encs _ y,h,joinAll_ok hy,by rw [encs_len];omega,rfl⟩
   ·cases h
theorem give_own (σ:Vw) (q:Nat):σ.give (.own q)=match σ.H q with | some (.row _ τ l true)=>.e (.sl τ) l | _=>.own q:=rfl
theorem cells_wk {x:X} {new:List Tree} (hv:x.val=true) (h:DWs σ.den.H ((σ.giveC x).cells.map X.D) (new.map .t)) (hl:x.cells.length=new.length):∃ d,DWk σ.den.H x.D d/\d.cells=new.map .t/\d.val=true:=by
 have one:x.cells=[x]->(σ.giveC x).cells=[σ.give x]->∃ d,DWk σ.den.H x.D d/\d.cells=new.map .t/\d.val=true:=fun e1 e2=>by
  rw [e1] at hl;rw [e2] at h
  match new,hl,h with
  | [t],_,h=>cases h with | cons h _=>exact ⟨.t t,(give_ok σ x).trans h,rfl,rfl⟩
 cases x with
 | agg xs=>
   refine ⟨.agg (new.map .t),?_,rfl,rfl⟩;have e:(σ.giveC (.agg xs)).cells.map X.D=(xs.map σ.give).map X.D:=rfl;rw [e] at h;have hw:DWs σ.den.H (xs.map X.D) ((xs.map σ.give).map X.D):=by
    rw [List.map_map];exact DWs.of_map (f:=X.D) (g:=X.D ∘ σ.give) fun x _=>give_ok σ x
   unfold X.D;rw [Ds_map];exact DWk.agg (hw.trans h)
 | tup xs=>cases hv
 | cnd a b c=>cases hv
 | bit a b=>cases hv
 | own q=>
   refine one rfl ?_;show (σ.give (.own q)).cells=_;rw [give_own];split <;> rfl
 | e τ y=>exact one rfl rfl
 | nilS=>exact one rfl rfl
 | ref a b=>exact one rfl rfl
 | rr a b d e=>exact one rfl rfl
 | pt a b d=>exact one rfl rfl
 | fn a b=>exact one rfl rfl
 | v w=>exact one rfl rfl
 | sub a b=>exact one rfl rfl
 | sref a b d=>exact one rfl rfl
 | vw a b d e=>exact one rfl rfl
 | via a b=>exact one rfl rfl
 | ifc a b=>exact one rfl rfl
 | ag τ l=>cases hv
 | pan v=>exact one rfl rfl
theorem flat_set {α:Type} {f:α->List Tree} {s:Nat} (hf:∀ x,(f x).length=s) {l:List α} {i:Nat} {y z:α} {A B new:List Tree} {j:Nat} (hl:l.flatMap f=A++f y++B) (hA:A.length=i * s) (hi:i < l.length) (hz:f z=splice (f y) j new) (hn:j+new.length<=s):
    (l.set i z).flatMap f=splice (l.flatMap f) (i * s+j) new:=by
 have h1:=flat_put hf (x:=z) (l:=l) (i:=i) hi;rw [← h1,hl,hz];have hy:=hf y;have hs:(splice (f y) j new).length=s:=by rw [splice_length (by omega),hy]
 rw [List.append_assoc];have e1:splice (A++(f y++B)) (i * s) (splice (f y) j new)=A++(splice (f y) 0 (splice (f y) j new)++B):=by
  rw [splice_app_right (by omega),hA,Nat.sub_self,splice_app_left (by omega)]
 have e2:splice (A++(f y++B)) (i * s+j) new=A++(splice (f y) j new++B):=by
  rw [splice_app_right (by omega),hA,show i * s+j - i * s=j by omega,splice_app_left (by omega)]
 rw [e1,e2]
 congr 2
 show (f y).take 0++splice (f y) j new++(f y).drop (0+(splice (f y) j new).length)=_;rw [List.take_zero,List.nil_append,List.drop_eq_nil_of_le (by omega),List.append_nil]
theorem asTrees_of (l:List Tree):asTrees (l.map .t)=some l:=by
 induction l with
 | nil=>rfl
 | cons x l ih=>simp [asTrees,ih]
theorem one_wk {x:X} {new:List Tree} (hv:x.val=true) (hna:∀ xs,x ≠ .agg xs) (h:DWs σ.den.H ((σ.giveC x).cells.map X.D) (new.map .t)):∃ t,new=[t]/\DWk σ.den.H x.D (.t t):=by
 have one:(σ.giveC x).cells=[σ.give x]->∃ t,new=[t]/\DWk σ.den.H x.D (.t t):=fun e2=>by
  rw [e2] at h
  match new,h with
  | [t],h=>cases h with | cons h _=>exact ⟨t,rfl,(give_ok σ x).trans h⟩
  | [],h=>cases h
  | _::_::_,h=>cases h with | cons _ r=>cases r
 cases x with
 | agg xs=>exact absurd rfl (hna xs)
 | tup xs=>cases hv
 | cnd a b c=>cases hv
 | bit a b=>cases hv
 | own q=>
   refine one ?_;show (σ.give (.own q)).cells=_;rw [give_own];split <;> rfl
 | e τ y=>exact one rfl
 | nilS=>exact one rfl
 | ref a b=>exact one rfl
 | rr a b d e=>exact one rfl
 | pt a b d=>exact one rfl
 | fn a b=>exact one rfl
 | v w=>exact one rfl
 | sub a b=>exact one rfl
 | sref a b d=>exact one rfl
 | vw a b d e=>exact one rfl
 | via a b=>exact one rfl
 | ifc a b=>exact one rfl
 | ag τ l=>cases hv
 | pan v=>exact one rfl
theorem splice_one {α:Type} {l:List α} {j:Nat} {x:α} (h:j < l.length):splice l j [x]=l.set j x:=by
 rw [List.set_eq_take_append_cons_drop,if_pos h];simp [splice]
theorem storeX_ok {t:TypeId} {a y:X} {k:X->Wx->O} (h:storeX c σ t a y k=some r):∃ W,k (.tup []) W=some r/\∀ {x z:Operand},o.op = .store t x z->σ.den.ev x=some a.D->σ.den.ev z=some y.D->y.val=true->OpOk c.P o σ.den fr (.tup []) (WA W):=by
 unfold storeX at h;split at h
 case h_2=>cases h
 rename_i m hm;split at h
 case h_2=>cases h
 rename_i hb;rw [Bool.and_eq_true] at hb;have hb1:=Nat.eq_of_beq_eq_true hb.1;have hb2:0 < m:=Nat.le_of_ble_eq_true hb.2;split at h
 ·rename_i q off
  split at h
  ·rename_i e xs hq
   have hq':=den_H hq;split at h
   ·rename_i hle
    have hle:=Nat.le_of_ble_eq_true hle;refine ⟨_,h,fun ho hx hz hv=>?_⟩;have hc:=cells_val hv;have hp:puts xs off y.cells=splice xs off y.cells:=puts_eq _ _ _ (by omega);refine ok_store (d:=y.D) (ob':=(XO.box e (puts xs off y.cells)).A) ho ?_ hx (.ev hz) (val_D hv) hq' ?_ ?_
    ·rw [hc,List.length_map,hb1];exact hm
    ·show (if off+y.D.cells.length<=(xs.map X.D).length then _ else none)=_
     rw [hc,List.length_map,List.length_map,if_pos (by omega),hp];simp only [XO.A,splice_map]
    ·rw [hc,List.length_map];omega
   ·cases h
  ·cases h
 ·rename_i q i j s
  split at h
  ·rename_i e τ l hq
   have hq':=den_H hq;split at h
   ·rename_i hs
    have hs:=Nat.eq_of_beq_eq_true hs;subst hs;obtain ⟨z0,hz0,h⟩:=gn_some h;obtain ⟨z1,new,h,h2,h3,h4⟩:=setAt_ok (H:=σ.den.H) τ z0 j m (σ.giveC y).cells _ h;refine ⟨_,h,fun ho hx hz hv=>?_⟩;have hgl:(σ.giveC y).cells.length=y.cells.length:=by
     have e1:=(DWs.len h2);cases y with
     | agg xs=>show (xs.map σ.give).length=xs.length;simp
     | own q=>
       show (σ.give (.own q)).cells.length=1;rw [give_own];split <;> rfl
     | _=>rfl
    have hnl:y.cells.length=new.length:=by
     have:=h2.len;simp only [List.length_map] at this;omega
    obtain ⟨d,hw,hdc,hdv⟩:=cells_wk hv h2 hnl;obtain ⟨A,B,g1,g2⟩:=flat_at (f:=encs τ) (fun x=>encs_len τ x) hz0;have hi:i < l.length:=(List.getElem?_eq_some_iff.1 hz0).1;have hset:=flat_set (f:=encs τ) (fun x=>encs_len τ x) (z:=z1) g1 g2 hi h4 h3;have hfl:=encs_flat_len l;have hbound:i * τ.size+j+new.length<=l.length * τ.size:=by
     have:(i+1) * τ.size<=l.length * τ.size:=Nat.mul_le_mul_right _ hi;rw [Nat.add_mul,Nat.one_mul] at this;omega
    refine ok_store (d:=d) (ob':=(XO.row e τ (l.set i z1) false).A) ho ?_ hx (.wk hz hw) hdv hq' ?_ ?_
    ·rw [hdc,List.length_map,← hnl,hb1];exact hm
    ·rw [hdc]
     show (if i * τ.size+j+(new.map D.t).length<=(l.flatMap (encs τ)).length/\false=false then (asTrees (new.map D.t)).map _ else none)=_;rw [List.length_map,if_pos ⟨by omega,rfl⟩,asTrees_of];simp only [Option.map_some,XO.A,hset,List.length_set]
    ·rw [hdc,List.length_map];omega
   ·cases h
  ·rename_i e e' κ' ρ l ln hq
   have hq':=den_H hq;split at h
   ·rename_i hs
    rw [Bool.and_eq_true] at hs;have hs1:=Nat.eq_of_beq_eq_true hs.1;have hs2:=Nat.eq_of_beq_eq_true hs.2;subst hs1 hs2;split at h
    ·rename_i hj
     have hj:=Nat.eq_of_beq_eq_true hj;subst hj;split at h
     ·rename_i q' i' q0
      obtain ⟨hi,h⟩:=ck_some h;have hi:=of_decide_eq_true hi;subst hi;obtain ⟨z0,hz0,h⟩:=gn_some h;refine ⟨_,h,fun ho hx hz hv=>?_⟩;have hlt:=cellsN_lt (ρ:=ρ) (l:=l) (j:=0) (List.getElem?_eq_some_iff.1 hz0).1 (by omega);rw [Nat.add_zero] at hlt;have hx':σ.den.ev _=some (.ref q (i'.toNat * (1+ρ.size))):=hx.trans (by show some (D.ref q (i'.toNat * (1+ρ.size)+0))=_;rw [Nat.add_zero]);have:=ok_stT (P:=c.P) (fr:=fr) hm ho hx' hz DWk.refl (fun ν nm w G v h=>h.oneCell rfl) hq' (by show _ < (lentN _ _ _).length;rw [lentN_len];exact hlt);have hA:(XO.nst e e' κ' ρ l (some (i',q'))).A = .nst e e' (1+ρ.size) κ'.size l.length ((lentN (1+ρ.size) (List.flatMap cellsN l) (some (i',q0))).set (i'.toNat * (1+ρ.size)) (.dat (.own q'))):=by
       show AObj.nst _ _ _ _ _ ((List.flatMap cellsN l).set _ _)=AObj.nst _ _ _ _ _ (((List.flatMap cellsN l).set _ _).set _ _);rw [List.set_set]
      show OpOk c.P o σ.den fr (.tup []) [(q,some (XO.nst e e' κ' ρ l (some (i',q'))).A)];rw [hA];exact this
     ·cases h
    ·rename_i hj
     have hj0:j≠0:=fun e=>by subst e;cases hj
     split at h
     ·cases h
     ·rename_i hna
      obtain ⟨z0,hz0,h⟩:=gn_some h;obtain ⟨z1,new,h,h2,h3,h4⟩:=setAt_ok (H:=σ.den.H) ρ z0.2 (j - 1) 1 (σ.giveC y).cells _ h;refine ⟨_,h,fun ho hx hz hv=>?_⟩;obtain ⟨t,rfl,hw⟩:=one_wk hv (fun xs e=>hna xs e) h2;have hj3:j < 1+ρ.size:=by simp at h3;omega
      have hi:i < l.length:=(List.getElem?_eq_some_iff.1 hz0).1;have hlt:=cellsN_lt (ρ:=ρ) (l:=l) (j:=j) hi hj3;have:=ok_stT (P:=c.P) (fr:=fr) hm ho hx hz hw (fun ν nm w G v h=>h.oneCell rfl) hq' (by show _ < (lentN _ _ _).length;rw [lentN_len];exact hlt);have hset:=fl_set (f:=cellsN) cellsN_len l i j z0 (z0.1,z1) (.dat (.t t)) hz0 hj3 (by
       obtain ⟨j',rfl⟩:∃ j',j=j'+1:=⟨j - 1,by omega⟩
       unfold cellsN;rw [List.set_cons_succ]
       congr 1
       rw [h4,splice_one (by rw [encs_len];omega),List.map_set];rfl)
      have hA:(XO.nst e e' κ' ρ (l.set i (z0.1,z1)) ln).A = .nst e e' (1+ρ.size) κ'.size l.length ((lentN (1+ρ.size) (List.flatMap cellsN l) ln).set (i * (1+ρ.size)+j) (.dat (.t t))):=by
       show AObj.nst _ _ _ _ (l.set i (z0.1,z1)).length (lentN _ (List.flatMap cellsN (l.set i (z0.1,z1))) ln)=_;rw [List.length_set,hset]
       congr 1
       unfold lentN;split
       ·rfl
       ·exact List.set_comm _ _ (fun e=>lent_ne (by omega) hj3 e.symm)
      show OpOk c.P o σ.den fr (.tup []) [(q,some (XO.nst e e' κ' ρ (l.set i (z0.1,z1)) ln).A)];rw [hA];exact this
   ·cases h
  ·cases h
 ·rename_i q i j
  split at h
  ·rename_i e e' τ l hq
   have hq':=den_H hq;split at h
   ·rename_i τ' z
    split at h
    ·rename_i he _
     have he':=he;subst he';split at h
     ·rename_i h1
      obtain ⟨y,hy,h⟩:=gn_some h;obtain ⟨z0,hz0,h⟩:=gn_some h;refine ⟨_,h,fun ho hx hz hv=>?_⟩;rw [e_D h1] at hz;have hm1:m=1:=hb1.symm;subst hm1;have:=ok_stS (P:=c.P) (fr:=fr) hm ho hx hz hq' (nest_row hy) (by show j < (List.flatMap (encs τ') y).length;rw [flat_one h1,List.length_map];exact (List.getElem?_eq_some_iff.1 hz0).1);have hA:(XO.nest e e' τ' (l.set i (y.set j (castV he z)))).A = .nest e e' τ'.size ((l.map fun r=>(List.length r,List.flatMap (encs τ') r)).set i (List.length y,(List.flatMap (encs τ') y).set j (enc1 τ' z))):=by
       show AObj.nest e e' τ'.size ((l.set i (y.set j z)).map fun r=>(List.length r,List.flatMap (encs τ') r))=_;rw [List.map_set,List.length_set,flat_one h1,flat_one h1,List.map_set]
      show OpOk c.P o σ.den fr (.tup []) [(q,some (XO.nest e e' τ' (l.set i (y.set j (castV he z)))).A)];rw [hA];exact this
     ·cases h
    ·cases h
   ·cases h
  ·cases h
 ·cases h
end
end Go.Ax
/- Operations: addresses, parts, rows that are made. -/
namespace Go.Ax
open Alg
open Go.RowKit Go.Ab
theorem asInt_some {x:X} {k:Int->O} {r:Res} (h:asInt x k=some r):∃ ik n,x.D = .t (.v (.int ik n))/\k n=some r:=by
 unfold asInt at h;split at h
 ·exact ⟨_,_,rfl,h⟩
 ·exact ⟨_,_,rfl,h⟩
 ·cases h
theorem listOf_ok {τ:Ty} (h1:τ.one=true):∀ {xs:List X} {l:List τ.V},listOf τ xs=some l->xs.length=l.length/\∀ (H:Nat->Option AObj) (i:Nat) (y:τ.V),l[i]?=some y->∃ x,xs[i]?=some x/\DWk H x.D (X.e τ y).D
 | [],l,h=>by cases h;exact ⟨rfl,fun H i y h=>by simp at h⟩
 | x::r,l,h=>by
   unfold listOf at h;split at h
   ·rename_i y hy
    split at h
    ·rename_i l' hl
     cases h;obtain ⟨e1,e2⟩:=listOf_ok h1 hl;refine ⟨by simp [e1],fun H i z hz=>?_⟩;cases i with
     | zero=>simp at hz;subst hz;exact ⟨x,rfl,by rw [e_D h1];exact one?_ok h1 hy⟩
     | succ i=>exact e2 H i z (by simpa using hz)
    ·cases h
   ·cases h
section
variable {P:Program} {o:Oper} {s:St} {fr:Nat}
theorem ok_indexv {t e:TypeId} {x y:Operand} {m:Nat} {ds:List D} {ik:IntKind} {n:Int} {d:D} (hu:P.underlying t=some (.array m e)) (he:rowT P e=some false) (hs:sizeT P e=some 1) (ho:o.op = .index t x y) (hx:s.ev x=some (.agg ds)) (hy:s.ev y=some (.t (.v (.int ik n)))) (hl:ds.length=m) (h0:0<=n) (hd:ds[n.toNat]?=some d):OpOk P o s fr d []:=
 ok_pure fun _ _ _ _ w a _ _ hev=>by
  have h1:=hev x _ hx;have h2:=bool_of (hev y _ hy);obtain ⟨v,hv⟩:∃ v,a.eval x=v:=⟨_,rfl⟩
  rw [hv] at h1;cases h1 with
  | @agg vs _ hsz hr h1c=>
    have hn:n.toNat < vs.size:=by rw [hsz];exact (List.getElem?_eq_some_iff.1 hd).1
    refine ⟨vs[n.toNat],?_,hr _ _ d (Array.getElem?_eq_getElem hn) hd⟩;obtain ⟨dsc,g1,g2⟩:=rowT_get he;obtain ⟨inf,hinf,hsz1⟩:=Option.map_eq_some_iff.1 hs;have hagg:(isAgg e).run P w = .ok false w:=by
     unfold isAgg;rw [Sem.run_bind,run_underlying g1 w];cases dsc <;> simp_all [TypeDesc.isRow]
    have hlt:n < (m:Int):=by omega
    unfold execOp;rw [ho];simp [hv,h2,Instr.index,asIntOf,run_underlying hu,h0,hlt,sizeOf,typeInfo,hinf,hsz1,part,hagg,hn]
theorem ok_field1 {t:TypeId} {x:Operand} {f:Nat} {fs:Array Field} {fl:Field} {ds:List D} {d:D} (hu:P.underlying t=some (.struct fs)) (hf:fs[f]?=some fl) (he:rowT P fl.type=some false) (ho:o.op = .field t x f) (hx:s.ev x=some (.agg ds)) (hd:ds[fl.offset]?=some d):OpOk P o s fr d []:=
 ok_pure fun _ _ _ _ w a _ _ hev=>by
  have h1:=hev x _ hx;obtain ⟨v,hv⟩:∃ v,a.eval x=v:=⟨_,rfl⟩
  rw [hv] at h1;cases h1 with
  | @agg vs _ hsz hr h1c=>
    have hn:fl.offset < vs.size:=by rw [hsz];exact (List.getElem?_eq_some_iff.1 hd).1
    refine ⟨vs[fl.offset],?_,hr _ _ d (Array.getElem?_eq_getElem hn) hd⟩;obtain ⟨dsc,g1,g2⟩:=rowT_get he;have hagg:(isAgg fl.type).run P w = .ok false w:=by
     unfold isAgg;rw [Sem.run_bind,run_underlying g1 w];cases dsc <;> simp_all [TypeDesc.isRow]
    unfold execOp;rw [ho];simp [hv,Instr.field,run_underlying hu,hf,part,asAgg,hagg,hn]
theorem ok_fieldn {t:TypeId} {x:Operand} {f m:Nat} {fs:Array Field} {fl:Field} {ds out:List D} (hu:P.underlying t=some (.struct fs)) (hf:fs[f]?=some fl) (he:rowT P fl.type=some true) (hm:sizeT P fl.type=some m) (ho:o.op = .field t x f) (hx:s.ev x=some (.agg ds)) (hd:(ds.drop fl.offset).take m=out) (hl:out.length=m):OpOk P o s fr (.agg out) []:=
 ok_pure fun _ _ ν G w a _ _ hev=>by
  have h1:=hev x _ hx;obtain ⟨v,hv⟩:∃ v,a.eval x=v:=⟨_,rfl⟩
  rw [hv] at h1;cases h1 with
  | @agg vs _ hsz hr h1c=>
    have hlen:fl.offset+m<=vs.size\/m=0:=by
     rw [← hd] at hl;simp at hl;omega
    refine ⟨.agg (vs.extract fl.offset (fl.offset+m)),?_,.agg ?_ (fun i u d hu' hd'=>?_) (fun u hu'=>?_)⟩
    ·obtain ⟨dsc,g1,g2⟩:=rowT_get he
     obtain ⟨inf,hinf,hsz1⟩:=Option.map_eq_some_iff.1 hm;have hagg:(isAgg fl.type).run P w = .ok true w:=by
      unfold isAgg;rw [Sem.run_bind,run_underlying g1 w];cases dsc <;> simp_all [TypeDesc.isRow]
     unfold execOp;rw [ho];simp [hv,Instr.field,run_underlying hu,hf,part,asAgg,hagg,sizeOf,typeInfo,hinf,hsz1]
    ·rw [hl];simp;omega
    ·rw [← hd,List.getElem?_take] at hd'
     split at hd'
     ·rename_i hi
      rw [List.getElem?_drop] at hd';rw [Array.getElem?_extract] at hu';split at hu'
      ·exact hr _ u d hu' hd'
      ·cases hu'
     ·cases hd'
    ·refine h1c u ?_
     rw [Array.toList_extract] at hu';exact List.mem_of_mem_drop (List.mem_of_mem_take (by simpa [List.extract] using hu'))
end
theorem splitP_ok {τ:Ty}:∀ (n:Nat) (σ:Ty) (y:σ.V) (l:List τ.V),splitP τ n σ y=some l->encs σ y=l.flatMap (encs τ)
 | 0,σ,y,l,h=>by unfold splitP at h;cases h
 | 1,σ,y,l,h=>by
   unfold splitP at h;split at h
   ·rename_i he _
    cases h;rw [List.flatMap_cons,castV_encs,List.flatMap_nil,List.append_nil]
   ·cases h
 | n+2,.pr a b,y,l,h=>by
   unfold splitP at h;split at h
   ·rename_i he _
    split at h
    ·rename_i l' hl
     cases h;rw [List.flatMap_cons,castV_encs,← splitP_ok (n+1) b y.2 l' hl];rfl
    ·cases h
   ·cases h
 | n+2,.i _,y,l,h=>by unfold splitP at h;cases h
 | n+2,.u8,y,l,h=>by unfold splitP at h;cases h
 | n+2,.bo,y,l,h=>by unfold splitP at h;cases h
 | n+2,.tx,y,l,h=>by unfold splitP at h;cases h
 | n+2,.ex,y,l,h=>by unfold splitP at h;cases h
 | n+2,.sl _,y,l,h=>by unfold splitP at h;cases h
section
variable {c:Cx} {σ:Vw} {κ:Nat->Bool} {fr:Nat} {o:Oper} {r:Res}
theorem indexAddrX_ok {t:TypeId} {a x:X} {k:X->O} (h:indexAddrX c σ t a x k=some r):∃ y,k y=some r/\y.pl=true/\(σ.On->∀ {xa xn:Operand},o.op = .indexAddr t xa xn->σ.den.ev xa=some a.D->σ.den.ev xn=some x.D->OpOk c.P o σ.den fr y.D []):=by
 unfold indexAddrX at h;replace h:=asInt_some h;obtain ⟨ik,n,hx,h⟩:=h;split at h
 ·rename_i τ l
  split at h
  ·rename_i s hs
   split at h
   ·rename_i hb
    have hb:=Nat.eq_of_beq_eq_true hb;subst hb;obtain ⟨y,h1,h2⟩:=gxg_some h;refine ⟨_,h1,rfl,fun hon xa xn ho ha hn=>?_⟩;obtain ⟨g1,g2⟩:=h2 hon.g;rw [hx] at hn;have hlt:n < (List.length l:Nat):=by have:=(List.getElem?_eq_some_iff.1 g2).1;omega
    have:=ok_indexp (P:=c.P) (fr:=fr) ho hs ha hn g1 hlt;obtain ⟨A,B,e1,e2⟩:=flat_at (f:=encs τ) (fun x=>encs_len τ x) g2;have e1':List.flatMap (encs τ) l=A++encs τ y++B:=e1;rw [e1'] at this;exact OpOk_wk this (DWk.ptr e2)
   ·cases h
  ·cases h
 ·rename_i q
  split at h
  ·rename_i e τ l st s hq hs
   split at h
   ·rename_i hb
    have hb:=Nat.eq_of_beq_eq_true hb;subst hb;split at h
    ·obtain ⟨y,h1,h2⟩:=gxg_some h
     refine ⟨_,h1,rfl,fun hon xa xn ho ha hn=>?_⟩;obtain ⟨g1,g2⟩:=h2 hon.g;rw [hx] at hn;have hlt:n < (l.length:Nat):=by have:=(List.getElem?_eq_some_iff.1 g2).1;omega
     have hq':σ.den.H q=some (.row e τ.size l.length (l.flatMap (encs τ)) true):=den_H hq;have:=ok_indexr (P:=c.P) (fr:=fr) ho hs ha hq' hn g1 hlt;obtain ⟨A,B,e1,e2⟩:=flat_at (f:=encs τ) (fun x=>encs_len τ x) g2;rw [e1] at hq';exact OpOk_wk this (DWk.refrow hq' e2)
    ·obtain ⟨h1,h2⟩:=ckg_some h
     refine ⟨_,h1,rfl,fun hon xa xn ho ha hn=>?_⟩;obtain ⟨g1,g2⟩:=of_decide_eq_true (h2 hon.g);rw [hx] at hn;have hq':σ.den.H q=some (.row e τ.size l.length (l.flatMap (encs τ)) false):=den_H hq;have:=ok_indexr (P:=c.P) (fr:=fr) ho hs ha hq' hn g1 g2;exact this
   ·cases h
  ·rename_i e e' τ l s hq hs
   split at h
   ·rename_i hb
    have hb:=Nat.eq_of_beq_eq_true hb;subst hb;obtain ⟨hd,h⟩:=ck_some h;refine ⟨_,h,rfl,fun hon xa xn ho ha hn=>?_⟩;obtain ⟨g1,g2⟩:=of_decide_eq_true hd;rw [hx] at hn;have:=ok_idxN (P:=c.P) (fr:=fr) hs ho ha (den_H hq) hn g1 (by rw [List.length_map];exact g2);have e:(X.rr q n.toNat 0 1).D = .ref q n.toNat:=by show D.ref q (n.toNat * 1+0)=_;rw [Nat.mul_one,Nat.add_zero]
    rw [e];exact this
   ·cases h
  ·rename_i e e' κ' ρ l ln s hq hs
   split at h
   ·rename_i hb
    have hb:=Nat.eq_of_beq_eq_true hb;subst hb;obtain ⟨h1,h2⟩:=ckg_some h;refine ⟨_,h1,rfl,fun hon xa xn ho ha hn=>?_⟩;obtain ⟨g1,g2⟩:=of_decide_eq_true (h2 hon.g);rw [hx] at hn;exact ok_idxT (P:=c.P) (fr:=fr) hs ho ha (den_H hq) hn g1 g2
   ·cases h
  ·cases h
 ·rename_i q i
  split at h
  ·rename_i e e' τ l s hq hs
   split at h
   ·rename_i hb
    have hb:=Nat.eq_of_beq_eq_true hb;subst hb;obtain ⟨y,hy,h⟩:=gn_some h;obtain ⟨hd,h⟩:=ck_some h;refine ⟨_,h,rfl,fun hon xa xn ho ha hn=>?_⟩;obtain ⟨g1,g2⟩:=of_decide_eq_true hd;rw [hx] at hn;exact ok_idxS (P:=c.P) (fr:=fr) hs ho ha (den_H hq) (nest_row hy) hn g1 g2
   ·cases h
  ·cases h
 ·rename_i q off
  split at h
  ·rename_i m s hs
   split at h
   ·rename_i hb
    obtain ⟨g1,g2⟩:=of_decide_eq_true hb;refine ⟨_,h,rfl,fun hon xa xn ho ha hn=>?_⟩;rw [hx] at hn;exact ok_indexa ho hs ha hn g1 g2
   ·cases h
  ·cases h
 ·rename_i ρ y0
  split at h
  ·rename_i m0 e m s hu hs
   split at h
   ·rename_i τ _
    split at h
    ·rename_i l hl
     split at h
     ·rename_i hb
      rw [Bool.and_eq_true] at hb;have hb1:=Nat.eq_of_beq_eq_true hb.1;have hb2:=Nat.eq_of_beq_eq_true hb.2;subst hb1;obtain ⟨y,h1,h2⟩:=gxg_some h;refine ⟨_,h1,rfl,fun hon xa xn ho ha hn=>?_⟩;obtain ⟨g1,g2⟩:=h2 hon.g;rw [hx] at hn;have hlt:n < (m:Nat):=by rw [← hb2];have:=(List.getElem?_eq_some_iff.1 g2).1;omega
      have:=ok_indexpa (P:=c.P) (fr:=fr) ho hs ha hn g1 hlt;obtain ⟨A,B,e1,e2⟩:=flat_at (f:=encs τ) (fun x=>encs_len τ x) g2;rw [Nat.zero_add,splitP_ok _ _ _ _ hl,e1] at this;exact OpOk_wk this (DWk.ptr e2)
     ·cases h
    ·cases h
   ·cases h
  ·cases h
 ·cases h
theorem indexX_ok {t:TypeId} {a x:X} {k:X->O} (h:indexX c t (σ.g.map (·.2)) a x k=some r):∃ y,k y=some r/\y.pl=true/\(σ.On->∀ {xa xn:Operand},o.op = .index t xa xn->σ.den.ev xa=some a.D->σ.den.ev xn=some x.D->OpOk c.P o σ.den fr y.D []):=by
 unfold indexX at h;replace h:=asInt_some h;obtain ⟨ik,n,hx,h⟩:=h;split at h
 ·rename_i l hu
  obtain ⟨y,h1,h2⟩:=gxg_some h;refine ⟨_,h1,rfl,fun hon xa xn ho ha hn=>?_⟩;obtain ⟨g1,g2⟩:=h2 hon.g;rw [hx] at hn;exact ok_indexs hu ho ha hn g1 g2
 ·rename_i m e τ y0 rs hu
  split at h
  ·rename_i hb he hs
   rw [Bool.and_eq_true] at hb;obtain ⟨hb1,hb2⟩:=hb;have hb2:=Nat.eq_of_beq_eq_true hb2;obtain ⟨l,hl,h⟩:=ob_some h;obtain ⟨y,h1,h2⟩:=gxg_some h;refine ⟨_,h1,rfl,fun hon xa xn ho ha hn=>?_⟩;obtain ⟨g1,g2⟩:=h2 hon.g;rw [hx] at hn;obtain ⟨e1,e2⟩:=listOf_ok hb1 hl;obtain ⟨x',hx',hw⟩:=e2 σ.den.H _ _ g2;have ha':σ.den.ev xa=some (.agg ((X.e τ y0::rs).map X.D)):=by rw [ha,X.D,Ds_map]
   refine OpOk_wk (ok_indexv hu he hs ho ha' hn (by simp [hb2]) g1 (d:=x'.D) (by rw [List.getElem?_map,hx'];rfl)) hw
  ·cases h
 ·cases h
theorem fieldAddrX_ok {t:TypeId} {f:Nat} {a:X} {k:X->O} (h:fieldAddrX c t f a k=some r):∃ y,k y=some r/\y.pl=true/\(∀ {xa:Operand},o.op = .fieldAddr t xa f->σ.den.ev xa=some a.D->OpOk c.P o σ.den fr y.D []):=by
 unfold fieldAddrX at h;obtain ⟨q,hq,h⟩:=ob_some h;split at h
 ·exact ⟨_,h,rfl,fun ho ha=>ok_fieldr ho hq ha⟩
 ·refine ⟨_,h,rfl,fun ho ha=>?_⟩
  have:=ok_fieldr (P:=c.P) (fr:=fr) ho hq ha
  rwa [Nat.add_assoc] at this
 ·exact ⟨_,h,rfl,fun ho ha=>ok_fieldp ho hq ha⟩
 ·cases h
theorem fieldX_ok {t:TypeId} {f:Nat} {a:X} {k:X->O} (h:fieldX c t f a k=some r):∃ y,k y=some r/\(∀ {xa:Operand},o.op = .field t xa f->σ.den.ev xa=some a.D->OpOk c.P o σ.den fr y.D []):=by
 unfold fieldX at h;split at h
 ·rename_i fs xs hu
  split at h
  ·rename_i fl hf
   split at h
   ·rename_i rw m hr hm
    split at h
    ·split at h
     ·rename_i hb
      have hb:=Nat.eq_of_beq_eq_true hb;refine ⟨_,h,fun {xa} ho ha=>?_⟩;have ha':σ.den.ev xa=some (.agg (xs.map X.D)):=by rw [ha,X.D,Ds_map]
      rw [X.D,Ds_map];refine ok_fieldn hu hf hr hm ho ha' ?_ (by rw [List.length_map];exact hb);rw [takes_eq,drops_eq,List.map_take,List.map_drop]
     ·cases h
    ·obtain ⟨y,hy,h⟩:=ob_some h
     refine ⟨y,h,fun {xa} ho ha=>?_⟩;have ha':σ.den.ev xa=some (.agg (xs.map X.D)):=by rw [ha,X.D,Ds_map]
     exact ok_field1 hu hf hr ho ha' (by rw [List.getElem?_map,hy];rfl)
   ·cases h
  ·cases h
 ·cases h
end
end Go.Ax
/- Operations: variables, literals, rows, slices, conversions. -/
namespace Go.Ax
open Alg
open Go.RowKit Go.Ab
theorem ofV1_D (v:Value) (h1:∀ vs,v ≠ .tuple vs) (h2:∀ cs,v ≠ .agg cs):(ofV1 v).D = .t (.v v):=by
 unfold ofV1;split
 ·split
  ·exact u8_D _ (of_decide_eq_true ‹_›)
  ·rfl
 all_goals rfl
theorem ofVX_cells {z:Value} {x:X} (h:ofVX z=some x):constOk z=true/\x.D=ofVal z/\x.cells.map X.D=z.cells.toList.map (fun u=>D.t (.v u))/\(∀ u ∈ z.cells.toList,u.oneCell'=true)/\(ofVal z).cells=x.cells.map X.D/\x.val=true:=by
 have hev:=ofVX_ev (σ:=⟨[],[],0⟩) h;unfold St.ev at hev;unfold ofVX at h;split at h
 ·rename_i cs
  split at h
  ·rename_i ha
   cases h;have hmem:∀ u ∈ cs.toList,u.oneCell'=true:=List.all_eq_true.1 ha
   have hc:(cs.toList.map ofV1).map X.D=cs.toList.map (fun u=>D.t (.v u)):=by
    rw [List.map_map];refine List.map_congr_left fun v hv=>ofV1_D v (fun vs e=>?_) (fun cs' e=>?_)
    ·have:=hmem v hv;rw [e] at this;cases this
    ·have:=hmem v hv;rw [e] at this;cases this
   refine ⟨ha,?_,hc,hmem,hc.symm,rfl⟩;unfold X.D;rw [Ds_map,hc];rfl
  ·cases h
 ·cases h
 ·rename_i h2 h3
  cases h;have hD:=ofV1_D z (fun vs e=>h3 vs e) (fun cs e=>h2 cs e);have hone:z.oneCell'=true:=by
   cases z with
   | agg cs=>exact absurd rfl (h2 cs)
   | tuple vs=>exact absurd rfl (h3 vs)
   | _=>rfl
  have hcz:z.cells.toList=[z]:=by rw [cells_one hone]
  have hov:ofVal z = .t (.v z):=by
   cases z with
   | agg cs=>exact absurd rfl (h2 cs)
   | _=>rfl
  have hxc:(ofV1 z).cells=[ofV1 z]:=by
   unfold ofV1;split
   ·split <;> rfl
   all_goals rfl
  refine ⟨?_,by rw [hD,hov],by rw [hxc,hcz];simp [hD],fun u hu=>?_,by rw [hov,hxc];simp [hD,D.cells],?_⟩
  ·cases z with
   | agg cs=>exact absurd rfl (h2 cs)
   | tuple vs=>exact absurd rfl (h3 vs)
   | _=>rfl
  ·rw [hcz] at hu;rw [List.mem_singleton.1 hu];exact hone
  ·unfold ofV1
   split
   ·split <;> rfl
   all_goals rfl
theorem zeroX_ok {P:Program} {t:TypeId} {x:X} (h:zeroX P t=some x):∃ z,(P.info? t).bind (·.zero)=some z/\ofVX z=some x:=by
 unfold zeroX at h;split at h
 ·exact ⟨_,‹_›,h⟩
 ·cases h
theorem mapO_mapM {α β:Type} {f:α->Option β}:∀ {l:List α} {r:List β},mapO f l=some r->l.mapM f=some r
 | [],r,h=>by cases h;rfl
 | x::l,r,h=>by
   unfold mapO at h;split at h
   ·rename_i y hy
    split at h
    ·rename_i r' hr
     cases h;simp [List.mapM_cons,hy,mapO_mapM hr]
    ·cases h
   ·cases h
theorem built_one {P:Program} {t:TypeId} {z:Value} {pl:List (Nat×Nat)} (hz:(P.info? t).bind (·.zero)=some z) (h1:∀ u ∈ z.cells.toList,u.oneCell'=true) (hp:places P t=some pl):BuildT P t z.cells.toList pl:=by
 refine ⟨h1,?_⟩;obtain ⟨i,hi,hz'⟩:=Option.bind_eq_some_iff.1 hz;unfold places at hp;split at hp
 ·rename_i fs hu
  have hm:=mapO_mapM hp;have hm':fs.toList.mapM (fun f=>(P.info? f.type).map fun i=>(f.offset,i.size))=some pl:=by
   rw [← hm]
   congr 1
   funext f
   unfold sizeT;cases P.info? f.type <;> rfl
  refine ⟨fun i=>pl.toArray[i]?,fun i p h=>by simpa using h,fun parts=>?_⟩;unfold Program.built;simp only [hi,hu,hz',hm']
 ·rename_i n e hu
  split at hp
  ·rename_i m hm
   cases hp;unfold sizeT at hm;obtain ⟨ie,hie,rfl⟩:=Option.map_eq_some_iff.1 hm;refine ⟨fun i=>some (i * ie.size,ie.size),fun i p h=>?_,fun parts=>?_⟩
   ·rw [List.getElem?_map] at h
    obtain ⟨j,hj,rfl⟩:=Option.map_eq_some_iff.1 h;have:=(List.getElem?_eq_some_iff.1 hj).2;simp at this;simp [this]
   ·unfold Program.built
    simp only [hi,hu,hz',hie]
  ·cases hp
 ·cases hp
theorem built_of {P:Program} {t:TypeId} {z:Value} {x:X} {pl:List (Nat×Nat)} (hz:(P.info? t).bind (·.zero)=some z) (hx:ofVX z=some x) (hp:places P t=some pl):BuildT P t z.cells.toList pl:=by
 obtain ⟨_,_,_,h1,_⟩:=ofVX_cells hx;exact built_one hz h1 hp
theorem evp_some {σ:Vw}:∀ {l:List (Nat×Operand)} {k:List (Nat×X)->O} {r:Res},σ.evp l k=some r->∃ xs,k xs=some r/\xs.length=l.length/\∀ (i:Nat) (p:Nat×X),xs[i]?=some p->∃ x,l[i]?=some (p.1,x)/\σ.ev x=some p.2
 | [],k,r,h=>⟨[],h,rfl,fun i p h=>by simp at h⟩
 | (i0,x)::l,k,r,h=>by
   unfold Vw.evp at h;obtain ⟨y,hy,h⟩:=ob_some h;obtain ⟨xs,h1,h2,h3⟩:=evp_some h;refine ⟨(i0,y)::xs,h1,by simp [h2],fun i p hp=>?_⟩;cases i with
   | zero=>simp at hp;subst hp;exact ⟨x,rfl,hy⟩
   | succ i=>exact h3 i p (by simpa using hp)
theorem parts_of {σ:Vw} {κ:Nat->Bool} (hσ:σ.Ok κ) (hon:σ.On):∀ (l:List (Nat×Operand)) (xs:List (Nat×X)) (ds:List (Nat×D)),xs.length=l.length->(∀ (i:Nat) (p:Nat×X),xs[i]?=some p->∃ x,l[i]?=some (p.1,x)/\σ.ev x=some p.2)->
    xs.length=ds.length->(∀ (i:Nat) (p:Nat×X) (q:Nat×D),xs[i]?=some p->ds[i]?=some q->p.1=q.1/\DWk σ.den.H p.2.D q.2)->PartsW σ.den l ds
 | [],[],[],_,_,_,_=>.nil
 | [],[],_::_,_,_,h,_=>by cases h
 | [],_::_,_,h,_,_,_=>by cases h
 | _::_,[],_,h,_,_,_=>by cases h
 | _::_,_::_,[],_,_,h,_=>by cases h
 | (i0,x0)::l,(i1,y)::xs,(i2,d)::ds,h1,h2,h3,h4=>by
   obtain ⟨x,e1,e2⟩:=h2 0 _ rfl;simp at e1;obtain ⟨rfl,rfl⟩:=e1;obtain ⟨e3,e4⟩:=h4 0 _ _ rfl rfl;simp only at e3 e4;subst e3;exact .cons (evV_D hσ hon e2) e4 (parts_of hσ hon l xs ds (by simpa using h1) (fun i p hp=>by simpa using h2 (i+1) p (by simpa using hp)) (by simpa using h3) (fun i p q hp hq=>h4 (i+1) p q (by simpa using hp) (by simpa using hq)))
theorem fillX_ok {pl:List (Nat×Nat)}:∀ (xs:List (Nat×X)) (cells:List X) (k:List X->O) (r:Res),fillX pl cells xs k=some r->∃ out,k out=some r/\fillD pl (cells.map X.D) (xs.map fun p=>(p.1,p.2.D))=some (out.map X.D)
 | [],cells,k,r,h=>⟨cells,h,rfl⟩
 | (i,x)::rest,cells,k,r,h=>by
   unfold fillX at h;split at h
   ·rename_i off m hp
    split at h
    ·rename_i hb
     simp only [Bool.and_eq_true] at hb;obtain ⟨⟨b1,b2⟩,b3⟩:=hb;have b2:=Nat.eq_of_beq_eq_true b2;have b3:=Nat.le_of_ble_eq_true b3;obtain ⟨out,h1,h2⟩:=fillX_ok rest _ k r h;refine ⟨out,h1,?_⟩;have hc:=cells_val b1;have hv:=val_D b1;simp only [List.map_cons,fillD,hp];rw [if_pos (by simp [hv,hc,b2];omega),hc,← splice_map,← puts_eq _ _ _ (by omega)];exact h2
    ·cases h
   ·cases h
theorem zone_ok {τ:Ty} (h1:τ.one=true) {l l':List Value} (h:zone τ l=some l'):∃ pre,l=pre++l'/\ZTs pre (encs τ τ.zero):=by
 cases l with
 | nil=>cases h
 | cons x r=>
   simp only [zone] at h;split at h
   ·rename_i hx
    cases h;refine ⟨[x],rfl,?_⟩;cases τ with
    | pr a b=>cases h1
    | ex=>cases h1
    | un=>cases h1
    | i k=>
      simp only [zchk1] at hx;split at hx
      ·rw [Bool.and_eq_true] at hx
       have e1:=of_decide_eq_true hx.1;have e2:=of_decide_eq_true hx.2;subst e1 e2;exact .v rfl .nil
      ·cases hx
    | u8=>
      simp only [zchk1] at hx;split at hx
      ·have e2:=of_decide_eq_true hx
       subst e2;exact .v rfl .nil
      ·cases hx
    | bo=>
      simp only [zchk1] at hx;split at hx
      ·exact .v rfl .nil
      ·cases hx
    | tx=>
      simp only [zchk1] at hx;split at hx
      ·rename_i s
       split at hx
       ·rename_i hs
        have:s=⟨⟨[]⟩⟩:=by
         apply ByteArray.ext;apply Array.ext';exact hs
        subst this;exact .v rfl .nil
       ·cases hx
      ·cases hx
    | sl e=>
      simp only [zchk1] at hx;split at hx
      ·exact .sl .nil
      ·cases hx
   ·cases h
theorem zchk_ok:∀ (τ:Ty) (l l':List Value),zchk τ l=some l'->∃ pre,l=pre++l'/\ZTs pre (encs τ τ.zero)
 | .pr a b,l,l',h=>by
   simp only [zchk] at h;split at h
   ·rename_i l1 h1
    obtain ⟨p1,e1,z1⟩:=zchk_ok a l l1 h1;obtain ⟨p2,e2,z2⟩:=zchk_ok b l1 l' h;refine ⟨p1++p2,by rw [e1,e2,List.append_assoc],?_⟩;have:encs (.pr a b) (Ty.zero (.pr a b))=encs a a.zero++encs b b.zero:=rfl;rw [this];exact z1.append z2
   ·cases h
 | .ex,l,l',h=>by
   simp only [zchk] at h;split at h
   ·rename_i l1 h1
    split at h
    ·rename_i l2 h2
     obtain ⟨p1,e1,z1⟩:=zone_ok rfl h1;obtain ⟨p2,e2,z2⟩:=zone_ok rfl h2;obtain ⟨p3,e3,z3⟩:=zone_ok rfl h;exact ⟨p1++(p2++p3),by rw [e1,e2,e3];simp,z1.append (z2.append z3)⟩
    ·cases h
   ·cases h
 | .un,l,l',h=>by cases h;exact ⟨[],rfl,.nil⟩
 | .i k,l,l',h=>zone_ok rfl h
 | .u8,l,l',h=>zone_ok rfl h
 | .bo,l,l',h=>zone_ok rfl h
 | .tx,l,l',h=>zone_ok rfl h
 | .sl e,l,l',h=>zone_ok rfl h
theorem appE_ok {c:Cx} {t e:TypeId} {τ:Ty} {b:Nat} (h:appE c t=some (e,τ,b)):∃ z,AppT c.P t e z τ.size b/\ZTs z.cells.toList (encs τ τ.zero):=by
 unfold appE at h;split at h
 ·rename_i e' he
  split at h
  ·rename_i τ' i hτ hi
   split at h
   ·rename_i z hz
    split at h
    ·rename_i hc
     split at h
     ·rename_i hb
      cases h;rw [Bool.and_eq_true] at hb;have h1:=Nat.eq_of_beq_eq_true hb.1;have hb2:=hb.2;rw [Bool.and_eq_true] at hb2;have h2:=Nat.eq_of_beq_eq_true hb2.1;have h3:=Nat.le_of_ble_eq_true hb2.2;obtain ⟨pre,hp,hz'⟩:=zchk_ok _ _ _ hc;rw [List.append_nil] at hp;refine ⟨z,⟨?_,by rw [hi];simp [hz,h1],h2,h3⟩,by rw [hp];exact hz'⟩;unfold elemT at he;split at he
      ·rename_i hu;cases he;exact hu
      ·cases he
     ·cases h
    ·cases h
   ·cases h
  ·cases h
 ·cases h
end Go.Ax
/- Operations: rows that are made, slices, conversions, calls. -/
namespace Go.Ax
open Alg
open Go.RowKit Go.Ab
section
variable {P:Program} {o:Oper} {s:St} {fr:Nat}
theorem ok_lit2 {t e:TypeId} {z:Value} {sz bytes len:Nat} (st:Bool) {parts:Array (Nat×Operand)} {ds:List (Nat×D)} {zt ts:List Tree} (hA:AppT P t e z sz bytes) (hz:ZTs z.cells.toList zt) (hl:len * sz<=2 ^ 24) (ho:o.op = .buildSlice t len parts) (hp:PartsW s parts.toList ds)
    (hf:fillD ((List.range len).map fun i=>(i * sz,sz)) ((List.replicate len zt).flatten.map .t) ds=some (ts.map .t)):OpOk P o s fr (.own fr) [(fr,some (.row e sz len ts st))]:=by
 have h1:∀ u ∈ z.cells.toList,u.oneCell'=true:=by
  clear hf hp ho hl hA;generalize z.cells.toList=l at hz
  induction hz with
  | nil=>intro u hu;cases hu
  | v h r ih=>
    intro u hu;rcases List.mem_cons.1 hu with rfl | hu
    ·exact h
    ·exact ih u hu
  | sl r ih=>
    intro u hu;rcases List.mem_cons.1 hu with rfl | hu
    ·rfl
    ·exact ih u hu
 have hB:=LitT.of hA h1 len hl;intro E σ₁ a w hT hHH h100 hf' hd ⟨ν,G,I⟩ Q;have hpl:∀ (i:Nat) (p:Nat×Nat),((List.range len).map fun i=>(i * sz,sz))[i]?=some p->(fun i=>some (i * sz,sz)) i=some p:=fun i p h=>by
  rw [List.getElem?_map] at h;obtain ⟨j,hj,rfl⟩:=Option.map_eq_some_iff.1 h;have:=(List.getElem?_eq_some_iff.1 hj).2;simp at this;simp [this]
 obtain ⟨g1,g2⟩:=hp.rel (fun x d d' hx hw=>hw _ _ _ _ _ _ hHH I _ (I.ev (St.ev_le hT hx)));have hzr:=(hz.reps len).rel w G;obtain ⟨cells,hres,hsz,hrel⟩:=fill_rel hpl _ ds (List.replicate len z.cells.toList).flatten.toArray ((List.replicate len zt).flatten.map .t) (ts.map .t) g1 g2 (by simpa using hzr.1) (fun i u d hu hdd=>by
     rw [List.getElem?_map] at hdd;obtain ⟨t',ht',rfl⟩:=Option.map_eq_some_iff.1 hdd;have hu':(List.replicate len z.cells.toList).flatten[i]?=some u:=by simpa using hu
     have htr:=hzr.2 i u t' hu' ht';exact ⟨.t htr,htr.one⟩) hf
 have hlen:ts.length=len * sz:=by
  have hfl:∀ (pl:List (Nat×Nat)) (ds:List (Nat×D)) (cs out:List D),fillD pl cs ds=some out->out.length=cs.length:=by
   intro pl ds
   induction ds with
   | nil=>intro cs out h;cases h;rfl
   | cons p r ih=>
     intro cs out h;obtain ⟨i,d⟩:=p;simp only [fillD] at h;split at h
     ·cases h
     ·split at h
      ·rename_i hc
       simp only [Bool.and_eq_true,beq_iff_eq,decide_eq_true_eq] at hc;rw [ih _ _ h,splice_length hc.2]
      ·cases h
  have:=hfl _ _ _ _ hf;simp only [List.length_map] at this;rw [this,← hzr.1];exact hB.zl
 have hr:=hB.run w (parts.map fun (i,x)=>(i,a.eval x)) cells (by rw [Array.toList_map];exact hres);unfold Oper.wp;have he:(execOp a.eval o).run P w = .ok (.value (.slice (some ⟨w.heap.size,0,none⟩) len len)) (w.alloc (.cells cells e)):=by
  unfold execOp;rw [ho];simp [hr]
 rw [he,Oper.upon_value];have hA':Aft w (w.alloc (.cells cells e)):=(Aft.refl w).alloc _;have hG:∀ b,b < w.heap.size->(fun b=>if b=w.heap.size then (if st then len * sz else 0) else G b) b=G b:=fun b hb=>if_neg (by omega)
 have hsz':cells.size=ts.length:=by rw [hsz];simp
 refine ⟨put_defers ..,_,_,I.fresh (G':=fun b=>if b=w.heap.size then (if st then len * sz else 0) else G b) h100 hf' hd hA' hG (x:=.slice (some ⟨w.heap.size,0,none⟩) len len) (fun g hg=>by cases hg;exact Nat.le_refl _) ?_ ?_⟩
 ·refine ⟨cells.toList,?_,?_,fun i u t hu ht=>?_,fun g hg=>?_⟩
  ·rw [setν_same]
   exact ⟨by simp [hsz',hlen],.inr ⟨w.heap.size,len,cells,rfl,Nat.zero_le _,heap_alloc_new w _,Nat.le_refl _,hB.ml,by rw [hsz',hlen],by rw [List.take_of_length_le (by simp [hsz',hlen])]⟩⟩
  ·simpa using hsz'
  ·have:=(hrel i u (.t t) (by simpa using hu) (by rw [List.getElem?_map,ht];rfl)).1
   cases this with | t h=>exact h.mono (fun _ _ _ h=>h.aft hA' hG)
  ·rw [setν_same] at hg
   cases hg;exact ⟨.inl I.kept.size,if_pos rfl⟩
 ·have:DR (setν ν fr (.slice (some ⟨w.heap.size,0,none⟩) len len)) (σ₁.upd o.dst .any [(fr,some (.row e sz len ts st))] fr).nm (w.alloc (.cells cells e)) (fun b=>if b=w.heap.size then (if st then len * sz else 0) else G b) (setν ν fr (.slice (some ⟨w.heap.size,0,none⟩) len len) fr) (.own fr):=.own (upd_nm_fr ..) (by rw [setν_same];rfl)
  rw [setν_same] at this;exact this
def loN (lo:Option Int):Nat:=match lo with | some a=>a.toNat | none=>0
def hiN (n:Nat) (hi:Option Int):Nat:=match hi with | some b=>b.toNat | none=>n
theorem slc_eq {α:Type} (l:List α) (lo hi:Option Int):slc l lo hi=(l.take (hiN l.length hi)).drop (loN lo):=by
 cases lo <;> cases hi <;> simp [slc,loN,hiN]
theorem slcOk_ok {n:Nat} {lo hi:Option Int} (h:slcOk n lo hi=true):loN lo<=hiN n hi/\hiN n hi<=n/\(∀ a,lo=some a->0<=a)/\∀ b,hi=some b->0<=b:=by
 cases lo <;> cases hi <;> simp [slcOk,loN,hiN] at h ⊢ <;> omega
theorem bounds_run {P:Program} {w:World} {isS:Bool} {n cap:Nat} {lo hi:Option Int} {kl kh:IntKind} (h1:loN lo<=hiN n hi) (h2:hiN n hi<=cap) (h3:∀ a,lo=some a->0<=a) (h4:∀ b,hi=some b->0<=b):
    (Instr.sliceBounds isS n cap (lo.map (.int kl)) (hi.map (.int kh)) none).run P w = .ok (loN lo,hiN n hi,cap) w:=by
 have hb:∀ (k:IntKind) (i:Int) (y:Nat) (code:BoundsCode),0<=i->i.toNat<=y->(Instr.sliceBound (.int k i) y code).run P w = .ok i.toNat w:=fun k i y code a b=>by
  have:i<=(y:Int):=by omega
  simp [Instr.sliceBound,asIntOf,a,this]
 cases lo with
 | none=>
   cases hi with
   | none=>simp [Instr.sliceBounds,loN,hiN]
   | some b=>simp only [hiN] at h2;simp [Instr.sliceBounds,loN,hiN,hb _ _ _ _ (h4 b rfl) h2]
 | some a=>
   cases hi with
   | none=>simp only [loN,hiN] at h1;simp [Instr.sliceBounds,loN,hiN,hb _ _ _ _ (h3 a rfl) h1]
   | some b=>
     simp only [loN,hiN] at h1 h2;simp [Instr.sliceBounds,loN,hiN,hb _ _ _ _ (h4 b rfl) h2,hb _ _ _ _ (h3 a rfl) h1]
def BndOk (s:St) (x:Option Operand) (v:Option Int):Prop:=match x,v with
 | none,none=>True
 | some x,some n=>∃ ik,s.ev x=some (.t (.v (.int ik n)))
 | _,_=>False
theorem BndOk.run {s:St} {x:Option Operand} {v:Option Int} (h:BndOk s x v) {ρ:Operand->Value} (hev:∀ x d,s.ev x=some (.t (.v d))->ρ x=d):∃ ik,x.map ρ=v.map (.int ik):=by
 cases x with
 | none=>cases v with
   | none=>exact ⟨.i64,rfl⟩
   | some n=>exact h.elim
 | some x=>cases v with
   | none=>exact h.elim
   | some n=>obtain ⟨ik,hk⟩:=h;exact ⟨ik,congrArg some (hev x _ hk)⟩
theorem ok_sliceS {t:TypeId} {x:Operand} {lo hi:Option Operand} {l:List UInt8} {a b:Option Int} (hu:P.underlying t=some .string) (ho:o.op = .slice t x lo hi none) (hx:s.ev x=some (TS l)) (hlo:BndOk s lo a) (hhi:BndOk s hi b) (hok:slcOk l.length a b=true):OpOk P o s fr (TS (slc l a b)) []:=
 ok_pure fun _ _ _ _ w ac _ _ hev=>by
  have h1:=bool_of (hev x _ hx);obtain ⟨kl,e1⟩:=hlo.run (ρ:=ac.eval) (fun x d h=>bool_of (hev x _ h));obtain ⟨kh,e2⟩:=hhi.run (ρ:=ac.eval) (fun x d h=>bool_of (hev x _ h));obtain ⟨g1,g2,g3,g4⟩:=slcOk_ok hok;refine ⟨.string ⟨⟨slc l a b⟩⟩,?_,.t (.v _ rfl)⟩;have hsz:(ByteArray.mk ⟨l⟩).size=l.length:=rfl;have hb:=bounds_run (P:=P) (w:=w) (isS:=false) (n:=l.length) (cap:=l.length) (lo:=a) (hi:=b) (kl:=kl) (kh:=kh) g1 g2 g3 g4;have hex:(ByteArray.mk ⟨l⟩).extract (loN a) (hiN l.length b)=⟨⟨slc l a b⟩⟩:=by
   apply ByteArray.ext;rw [ByteArray.data_extract];apply Array.ext';rw [slc_eq,Array.toList_extract];simp only [List.extract];rw [List.drop_take]
   try trace_state
  unfold execOp;rw [ho];simp only [h1,e1,e2,Option.map_none];simp [Instr.sliceAt,Instr.slice,run_underlying hu,hsz,hb,hex]
theorem ok_slice {t e:TypeId} {x:Operand} {lo hi:Option Operand} {sz n:Nat} {ts:List Tree} {d0:D} {a b:Option Int} (hu:P.underlying t=some (.slice e)) (hs:sizeT P e=some sz) (ho:o.op = .slice t x lo hi none) (hx:s.ev x=some d0) (hw:DWk s.H d0 (.t (.sl n ts))) (hts:ts.length=n * sz) (hlo:BndOk s lo a) (hhi:BndOk s hi b) (hok:slcOk n a b=true):
    OpOk P o s fr (.t (.sl (hiN n b - loN a) ((ts.take (hiN n b * sz)).drop (loN a * sz)))) []:=
 ok_pure fun E σ₁ ν G w ac hH I hev=>by
  have hd:=hw E σ₁ ν G w ac.tmps hH I _ (hev x _ hx);obtain ⟨kl,e1⟩:=hlo.run (ρ:=ac.eval) (fun x d h=>bool_of (hev x _ h));obtain ⟨kh,e2⟩:=hhi.run (ρ:=ac.eval) (fun x d h=>bool_of (hev x _ h));obtain ⟨g1,g2,g3,g4⟩:=slcOk_ok hok;obtain ⟨inf,hinf,hsz⟩:=Option.map_eq_some_iff.1 hs;obtain ⟨v,hv⟩:∃ v,ac.eval x=v:=⟨_,rfl⟩
  rw [hv] at hd;cases hd with
  | t hd=>
    cases hd with
    | @nil ad cap h0=>
      have hb:=bounds_run (P:=P) (w:=w) (isS:=true) (n:=0) (cap:=cap) (lo:=a) (hi:=b) (kl:=kl) (kh:=kh) g1 (by omega) g3 g4;have z1:hiN 0 b=0:=by omega
      have z2:loN a=0:=by omega
      rw [z1,z2] at hb;refine ⟨.slice (if cap=0 then ad else ad.map (·.add (0 * sz))) (0 - 0) (cap - 0),?_,?_⟩
      ·unfold execOp
       rw [ho];simp only [hv,e1,e2,Option.map_none];simp [Instr.sliceAt,Instr.slice,run_underlying hu,hb,sizeOf,typeInfo,hinf,hsz]
      ·rw [z1,z2]
       simp only [Nat.sub_zero,Nat.zero_mul,List.take_zero,List.drop_zero];refine .t (.nil fun he=>?_);split at he
       ·rename_i hc;exact hc
       ·exact h0 (by cases ad with | none=>rfl | some _=>cases he)
    | sl bl q _ cap us _ hl hc hn ht=>
      have hb:=bounds_run (P:=P) (w:=w) (isS:=true) (n:=n) (cap:=cap) (lo:=a) (hi:=b) (kl:=kl) (kh:=kh) g1 (by omega) g3 g4;refine ⟨.slice (if cap=loN a then some ⟨bl,q,none⟩ else some ((⟨bl,q,none⟩:Addr).add (loN a * sz))) (hiN n b - loN a) (cap - loN a),?_,?_⟩
      ·unfold execOp
       rw [ho];simp only [hv,e1,e2,Option.map_none];simp [Instr.sliceAt,Instr.slice,run_underlying hu,hb,sizeOf,typeInfo,hinf,hsz]
      ·by_cases hz:hiN n b - loN a=0
       ·have hnil:(ts.take (hiN n b * sz)).drop (loN a * sz)=[]:=by
         apply List.drop_eq_nil_of_le;rw [List.length_take];have:hiN n b * sz<=loN a * sz:=Nat.mul_le_mul_right _ (by omega);omega
        rw [hz,hnil];refine .t (.nil fun he=>?_);split at he <;> cases he
       ·have hne:¬ cap=loN a:=by omega
        rw [if_neg hne,Addr.add_mid];have hm1:hiN n b * sz<=n * sz:=Nat.mul_le_mul_right _ g2;have hm2:loN a * sz<=hiN n b * sz:=Nat.mul_le_mul_right _ g1;refine .t (.sl bl (q+loN a * sz) _ _ ((us.take (hiN n b * sz)).drop (loN a * sz)) _ (by simp;omega) (fun i u hi'=>?_) (by omega) (fun i u t' hu' ht'=>?_))
        ·rw [List.getElem?_drop,List.getElem?_take] at hi'
         split at hi'
         ·have:=hc _ u hi'
          rwa [← Nat.add_assoc] at this
         ·cases hi'
        ·rw [List.getElem?_drop,List.getElem?_take] at hu' ht'
         split at hu'
         ·rename_i hlt
          rw [if_pos hlt] at ht';exact ht _ u t' hu' ht'
         ·cases hu'
end
end Go.Ax
/- Operations: those that make, build and convert. -/
namespace Go.Ax
open Alg
open Go.RowKit Go.Ab
theorem litX_ok {τ:Ty} {σ:Vw}:∀ (xs:List (Nat×X)) (l:List τ.V) (k:List τ.V->O) (r:Res),litX τ σ l xs k=some r->∃ (ys:List (Nat×τ.V)) (out:List τ.V),k out=some r/\out.length=l.length/\xs.length=ys.length /\
    (∀ (i:Nat) (p:Nat×X) (q:Nat×τ.V),xs[i]?=some p->ys[i]?=some q->p.1=q.1/\DWk σ.den.H p.2.D (toX τ q.2).D) /\
    fillD ((List.range l.length).map fun i=>(i * τ.size,τ.size)) ((l.flatMap (encs τ)).map .t) (ys.map fun p=>(p.1,(toX τ p.2).D))=some ((out.flatMap (encs τ)).map .t)
 | [],l,k,r,h=>⟨[],l,h,rfl,rfl,fun i p q hp=>by simp at hp,rfl⟩
 | (i0,x)::rest,l,k,r,h=>by
   unfold litX at h;split at h
   ·rename_i hi
    have hi':i0 < l.length:=by simpa [Nat.blt_eq] using hi
    obtain ⟨y,hy,h⟩:=ob_some h;obtain ⟨ys,out,h1,h2,h3,h4,h5⟩:=litX_ok rest _ k r h;rw [putL_eq] at h2 h5;have hl:(l.set i0 y).length=l.length:=by simp
    rw [hl] at h2 h5;refine ⟨(i0,y)::ys,out,h1,h2,by simp [h3],fun i p q hp hq=>?_,?_⟩
    ·cases i with
     | zero=>simp at hp hq;subst hp hq;exact ⟨rfl,(giveC_ok σ x).trans (tyX_ok hy)⟩
     | succ i=>exact h4 i p q (by simpa using hp) (by simpa using hq)
    ·have hcell:(toX τ y).D.cells=(encs τ y).map .t/\(toX τ y).D.val=true:=by
      rw [toX_D];split
      ·rename_i h1
       rw [encs_one h1];exact ⟨rfl,rfl⟩
      ·exact ⟨rfl,rfl⟩
     obtain ⟨z,hz⟩:∃ z,l[i0]?=some z:=⟨_,List.getElem?_eq_getElem hi'⟩
     obtain ⟨A,B,hf,hA⟩:=flat_at (f:=encs τ) (s:=τ.size) (fun x=>encs_len τ x) hz;have hset:=flat_set (f:=encs τ) (s:=τ.size) (fun x=>encs_len τ x) (l:=l) (i:=i0) (y:=z) (z:=y) (A:=A) (B:=B) (new:=encs τ y) (j:=0) hf hA hi' (by
      have e1:=encs_len τ y;have e2:=encs_len τ z;unfold splice;rw [List.take_zero,List.nil_append,List.drop_eq_nil_of_le (by omega),List.append_nil]) (by rw [encs_len];omega)
     have hle:i0 * τ.size+τ.size<=l.length * τ.size:=by
      rw [← Nat.succ_mul];exact Nat.mul_le_mul_right _ hi'
     simp only [List.map_cons,fillD];rw [List.getElem?_map,List.getElem?_range hi'];simp only [Option.map_some];rw [hcell.1,hcell.2];simp only [List.length_map,encs_len,encs_flat_len];rw [if_pos (by simp [hle])];rw [← splice_map];rw [show i0 * τ.size+0=i0 * τ.size by omega] at hset;rw [← hset];exact h5
   ·cases h
section
variable {c:Cx} {σ:Vw} {κ:Nat->Bool} {fr:Nat} {o:Oper} {k:X->Wx->O} {r:Res}
theorem gives_box (hσ:σ.Ok κ) {e:TypeId} {x:Operand} {v:X} (ho:o.op = .box e x) (hx:σ.ev x=some v) (hv:v.val=true) (h:k (.ref fr 0) [(fr,some (.box e v.cells))]=some r):Gives c σ fr o k r:=
 ⟨_,_,h,rfl,fun hon=>by
  have:=ok_box (P:=c.P) (fr:=fr) ho (evV_D hσ hon hx) (val_D hv);rw [cells_val hv] at this;exact this⟩
theorem ok_allocB {P:Program} {s:St} {e:TypeId} {z:Value} (ho:o.op = .alloc e) (hz:(P.info? e).bind (·.zero)=some z) (hc:z.cells = #[.pointer none,.slice none 0 0]):OpOk P o s fr (.ref fr 0) [(fr,some (.box e [.via fr (viaR 0),.t (.v (.slice none 0 0))]))]:=by
 intro E σ₁ a w hT _ h100 hf hd ⟨ν,G,I⟩ Q;obtain ⟨i,hi,hz'⟩:=Option.bind_eq_some_iff.1 hz;unfold Oper.wp;have hr:(execOp a.eval o).run P w = .ok (.value (.pointer (some ⟨w.heap.size,0,none⟩))) (w.alloc (.cells z.cells e)):=by
  unfold execOp;rw [ho];simp [Instr.alloc,zeroValue,typeInfo,hi,hz',newVar,newRow]
 rw [hr,Oper.upon_value];have hA:Aft w (w.alloc (.cells z.cells e)):=(Aft.refl w).alloc _;refine ⟨put_defers ..,_,_,I.fresh (G':=fun b=>if b=w.heap.size then 0 else G b) h100 hf hd hA (fun b hb=>if_neg (by omega)) (x:=.pointer (some ⟨w.heap.size,0,none⟩)) (fun g hg=>by cases hg;exact Nat.le_refl _) ?_ (.ref (upd_nm_fr ..) (by rw [setν_same];rfl))⟩;refine ⟨w.heap.size,z.cells,setν_same,.inl I.kept.size,heap_alloc_new w _,if_pos rfl,by rw [hc];rfl,fun i u d' hu hd'=>?_⟩;rw [hc] at hu
 match i,hu,hd' with
 | 0,hu,hd'=>cases hu;cases hd';exact ⟨.via (upd_nm_fr ..) (.inl rfl) rfl,rfl⟩
 | 1,hu,hd'=>cases hu;cases hd';exact ⟨.t (.v _ rfl),rfl⟩
 | i+2,hu,hd'=>simp at hd'
theorem bdc_cases (fr:Nat) (l:List X):bdc fr l=l\/(l=[.v (.pointer none),.nilS]/\bdc fr l=[.via fr 0,.nilS]):=by
 unfold bdc;split
 ·exact .inr ⟨rfl,rfl⟩
 ·exact .inl rfl
theorem gives_alloc {e:TypeId} {z:X} (ho:o.op = .alloc e) (hz:zeroX c.P e=some z) (h:k (.ref fr 0) [(fr,some (.box e (bdc fr z.cells)))]=some r):Gives c σ fr o k r:=
 ⟨_,_,h,rfl,fun _=>by
  obtain ⟨v,h1,h2⟩:=zeroX_ok hz;obtain ⟨g1,_,g3,_,g5,_⟩:=ofVX_cells h2;rcases bdc_cases fr z.cells with e1 | ⟨e1,e2⟩
  ·have:=ok_alloc (P:=c.P) (σ:=σ.den) (fr:=fr) ho h1 g1
   rw [e1];rw [g5] at this;exact this
  ·have g3:[D.t (.v (.pointer none)),.t (.v (.slice none 0 0))]=v.cells.toList.map (fun u=>D.t (.v u)):=by rw [← g3,e1];rfl
   have hc:v.cells = #[.pointer none,.slice none 0 0]:=by
    apply Array.ext'
    match h:v.cells.toList,g3 with
    | [a,b],g3=>cases g3;rfl
   rw [e2];exact ok_allocB (P:=c.P) ho h1 hc⟩
theorem gives_build (hσ:σ.Ok κ) {t:TypeId} {ps:Array (Nat×Operand)} {z:X} {pl:List (Nat×Nat)} (ho:o.op = .build t ps) (hz:zeroX c.P t=some z) (hp:places c.P t=some pl) (h:σ.evp ps.toList (fun xs=>fillX pl z.cells xs fun cs=>k (.agg cs) [])=some r):Gives c σ fr o k r:=by
 obtain ⟨xs,h,hl,hev⟩:=evp_some h;obtain ⟨out,h,hf⟩:=fillX_ok xs z.cells _ r h;refine ⟨_,_,h,rfl,fun hon=>?_⟩;obtain ⟨v,h1,h2⟩:=zeroX_ok hz;obtain ⟨_,_,g3,_,_,_⟩:=ofVX_cells h2;have hb:=built_of h1 h2 hp;have hpt:=parts_of hσ hon ps.toList xs (xs.map fun p=>(p.1,p.2.D)) hl hev (by simp) (fun i p q hp hq=>by
  rw [List.getElem?_map,hp] at hq;cases hq;exact ⟨rfl,DWk.refl⟩)
 rw [g3] at hf;have:=ok_build (P:=c.P) (fr:=fr) hb ho hpt hf;unfold X.D;rw [Ds_map];exact this
theorem gives_lit (hσ:σ.Ok κ) {t e:TypeId} {n b:Nat} {τ:Ty} {st:Bool} {ps:Array (Nat×Operand)} (ho:o.op = .buildSlice t n ps) (hE:appE c t=some (e,τ,b)) (hle:n * τ.size<=16777216) (h:σ.evp ps.toList (fun xs=>litX τ σ (repl τ.zero n) xs fun l=>k (.own fr) [(fr,some (.row e τ l st))])=some r):Gives c σ fr o k r:=by
 obtain ⟨xs,h,hl,hev⟩:=evp_some h;obtain ⟨ys,out,h,h2,h3,h4,h5⟩:=litX_ok xs _ _ r h;refine ⟨_,_,h,rfl,fun hon=>?_⟩;obtain ⟨z,hA,hz⟩:=appE_ok hE;have hpt:=parts_of hσ hon ps.toList xs (ys.map fun p=>(p.1,(toX τ p.2).D)) hl hev (by simp [h3]) (fun i p q hp hq=>by
  rw [List.getElem?_map] at hq;obtain ⟨y,hy,rfl⟩:=Option.map_eq_some_iff.1 hq;exact h4 i p y hp hy)
 rw [repl_eq] at h2 h5;rw [List.length_replicate] at h2 h5;have hfl:∀ m:Nat,(List.replicate m τ.zero).flatMap (encs τ)=(List.replicate m (encs τ τ.zero)).flatten:=fun m=>by
  induction m with
  | zero=>rfl
  | succ m ih=>rw [List.replicate_succ,List.replicate_succ,List.flatMap_cons,List.flatten_cons,ih]
 rw [hfl] at h5;have:=ok_lit2 (P:=c.P) (fr:=fr) st hA hz (len:=n) (by omega) ho hpt h5;rw [← h2] at this;exact this
theorem R_swap {E:Env} {σ σ':St} (hT:σ'.T=σ.T) (hn:σ'.nm=σ.nm) {k:Nat} {o o':AObj} (hk:σ.H k=some o) (hH:∀ j,σ'.H j=if j=k then some o' else σ.H j) (ho:∀ ν nm w G,ObjOk E ν nm w G k o->ObjOk E ν nm w G k o'/\∀ g,foot w (ν k) o' g->foot w (ν k) o g)
    {tm:Array Value} {w:World} (h:R E σ tm w):R E σ' tm w:=by
 obtain ⟨T',H',n'⟩:=σ';obtain ⟨T,H,n⟩:=σ;simp only at hT hn hH hk;subst hT hn;obtain ⟨ν,G,I⟩:=h;have back:∀ j o1,H' j=some o1->∃ o2,H j=some o2/\∀ g,foot w (ν j) o1 g->foot w (ν j) o2 g:=fun j o1 hj=>by
  rw [hH] at hj;split at hj
  ·rename_i e
   subst e;cases hj;exact ⟨o,hk,(ho _ _ _ _ (I.H _ _ hk).2).2⟩
  ·exact ⟨o1,hj,fun _ h=>h⟩
 refine ⟨ν,G,I.kept,I.keep,I.pin,I.g0,I.sz,I.T,fun j o1 hj=>?_,fun j1 o1 j2 o2 h1 h2 hne=>?_⟩
 ·simp only at hj
  rw [hH] at hj;split at hj
  ·rename_i e
   subst e;cases hj;exact ⟨(I.H _ _ hk).1,(ho _ _ _ _ (I.H _ _ hk).2).1⟩
  ·exact I.H j o1 hj
 ·obtain ⟨p1,hp1,f1⟩:=back j1 o1 h1
  obtain ⟨p2,hp2,f2⟩:=back j2 o2 h2;exact fun g hg hg'=>I.dis j1 p1 j2 p2 hp1 hp2 hne g (f1 g hg) (f2 g hg')
theorem nils_get {n i:Nat} {x:Tree} (h:(List.replicate n [Tree.v (.slice none 0 0)]).flatten[i]?=some x):x = .v (.slice none 0 0):=by
 have hm:=List.mem_of_getElem? h;obtain ⟨l,hl,hx⟩:=List.mem_flatten.1 hm;rw [List.eq_of_mem_replicate hl] at hx;exact List.mem_singleton.1 hx
theorem OpOk.nils {P:Program} {o:Oper} {σ:St} {fr n:Nat} {e e':TypeId} {s:Nat} (h:OpOk P o σ fr (.own fr) [(fr,some (.row e 1 n (List.replicate n [Tree.v (.slice none 0 0)]).flatten false))]):
    OpOk P o σ fr (.own fr) [(fr,some (.nst e e' 1 s n (List.replicate n (NC.inn 0 []))))]:=fun E σ₁ a w h1 h2 h3 h4 h5 h6 Q=>
 Oper.wp_mono (fun a' w' ⟨q1,q2⟩=>⟨q1,by
  refine R_swap (σ:=σ₁.upd o.dst (.own fr) [(fr,some (.row e 1 n (List.replicate n [Tree.v (.slice none 0 0)]).flatten false))] fr) (σ':=σ₁.upd o.dst (.own fr) [(fr,some (.nst e e' 1 s n (List.replicate n (NC.inn 0 []))))] fr) (k:=fr) (o:=.row e 1 n (List.replicate n [Tree.v (.slice none 0 0)]).flatten false) (o':=.nst e e' 1 s n (List.replicate n (NC.inn 0 []))) rfl rfl (by simp [St.upd,Ab.look]) (fun j=>?_) (fun ν nm w G hob=>?_) q2
  ·simp only [St.upd,Ab.look]
   by_cases hej:fr=j
   ·subst hej;simp
   ·rw [if_neg hej,if_neg hej,if_neg (fun h=>hej h.symm)]
  ·obtain ⟨xs,r1,r2,r3,r4⟩:=hob
   have hl:(List.replicate n [Tree.v (.slice none 0 0)]).flatten.length=n:=by simp
   have hnil:∀ (i:Nat) (x:Value),xs[i]?=some x->x=Value.slice none 0 0:=fun i x hx=>by
    have hi:i < n:=by have:=(List.getElem?_eq_some_iff.1 hx).1;omega
    have ht:(List.replicate n [Tree.v (.slice none 0 0)]).flatten[i]?=some (List.replicate n [Tree.v (.slice none 0 0)]).flatten[i]:=List.getElem?_eq_getElem (by rw [hl];exact hi);have hr:=r3 i x _ hx ht;rw [nils_get ht] at hr;cases hr with
    | v=>rfl
   have hc:∀ (i:Nat) (c:NC),(List.replicate n (NC.inn 0 []))[i]?=some c->c = .inn 0 []:=fun i c h=>List.eq_of_mem_replicate (List.mem_of_getElem? h)
   refine ⟨⟨xs,r1,by rw [r2,hl,List.length_replicate],fun i x d _ h=>(by have:=hc i _ h;cases this),fun i x q ts hx h=>?_,fun i j x y q q' ts ts' _ hx _ _ _ g hg=>?_,fun i x q ts hx _ g hg=>?_,fun g hg=>⟨(r4 g hg).1,by simpa using (r4 g hg).2⟩⟩,fun g hg=>?_⟩
   ·have:=hc i _ h
    cases this;rw [hnil i x hx];exact ⟨[],World.ownsRow_nil w 0 e' s,rfl,fun i u t h=>by simp at h,fun g hg=>by cases hg⟩
   ·rw [hnil i x hx] at hg;cases hg
   ·rw [hnil i x hx] at hg;cases hg
   ·rcases hg with hg | ⟨g0,i,x,q,ts,a1,a2,a3,a4⟩
    ·exact hg
    ·have hi:i < xs.length:=by have:=(List.getElem?_eq_some_iff.1 a2).1;rw [List.length_replicate] at this;omega
     rw [row_cell r1 a1 hi] at a3;rw [hnil i x a3] at a4;cases a4⟩) (h E σ₁ a w h1 h2 h3 h4 h5 h6 Q)
theorem gives_make (hσ:σ.Ok κ) {t e:TypeId} {b:Nat} {τ:Ty} {x y:Operand} {z:Int} {st:Bool} (ho:o.op = .makeSlice t x y) (he:opEq x y=true) (hx:σ.ev x=some (.e (.i .i64) z)) (hE:appE c t=some (e,τ,b)) (h:makeX τ e fr b st z k=some r):Gives c σ fr o k r:=by
 unfold makeX at h;obtain ⟨h0,h⟩:=ck_some h;obtain ⟨hb,h⟩:=ck_some h;refine ⟨_,_,h,rfl,fun hon=>?_⟩;obtain ⟨v,hA,hz⟩:=appE_ok hE;have h0:=of_decide_eq_true h0;unfold lim at hb;have hb:=of_decide_eq_true hb;have hn:((z.toNat:Nat):Int)=z:=by omega
 have hx1:σ.den.ev x=some (I (z.toNat:Nat)):=by
  rw [hn];exact evV_D hσ hon hx
 have hy1:σ.den.ev y=some (I (z.toNat:Nat)):=by
  unfold opEq at he;split at he
  ·rw [← Nat.eq_of_beq_eq_true he];exact hx1
  ·rename_i k1 a k2 b'
   simp only [Bool.and_eq_true,decide_eq_true_eq,beq_iff_eq] at he;obtain ⟨rfl,rfl⟩:=he;exact hx1
  ·cases he
 have hm:z.toNat<=maxLen:=by simp only [maxLen];omega
 have:=ok_make (P:=c.P) (fr:=fr) st hA hz ho hx1 hy1 ⟨by rw [Nat.mul_comm];omega,hm⟩;have hfl:∀ m:Nat,(List.replicate m τ.zero).flatMap (encs τ)=(List.replicate m (encs τ τ.zero)).flatten:=fun m=>by
  induction m with
  | zero=>rfl
  | succ m ih=>rw [List.replicate_succ,List.replicate_succ,List.flatMap_cons,List.flatten_cons,ih]
 unfold WA;simp only [List.map_cons,List.map_nil,Option.map_some,XO.A,List.length_replicate,hfl];exact this
theorem gives_makeN (hσ:σ.Ok κ) {t e e':TypeId} {b:Nat} {τ:Ty} {x y:Operand} {z:Int} (ho:o.op = .makeSlice t x y) (he:opEq x y=true) (hx:σ.ev x=some (.e (.i .i64) z)) (hE:appE c t=some (e,.sl τ,b)) (h:makeN τ e e' fr b z k=some r):Gives c σ fr o k r:=by
 unfold makeN at h;obtain ⟨h0,h⟩:=ck_some h;obtain ⟨hb,h⟩:=ck_some h;refine ⟨_,_,h,rfl,fun hon=>?_⟩;obtain ⟨v,hA,hz⟩:=appE_ok hE;have h0:=of_decide_eq_true h0;unfold lim at hb;have hb:=of_decide_eq_true hb;have hn:((z.toNat:Nat):Int)=z:=by omega
 have hx1:σ.den.ev x=some (I (z.toNat:Nat)):=by
  rw [hn];exact evV_D hσ hon hx
 have hy1:σ.den.ev y=some (I (z.toNat:Nat)):=by
  unfold opEq at he;split at he
  ·rw [← Nat.eq_of_beq_eq_true he];exact hx1
  ·rename_i k1 a k2 b'
   simp only [Bool.and_eq_true,decide_eq_true_eq,beq_iff_eq] at he;obtain ⟨rfl,rfl⟩:=he;exact hx1
  ·cases he
 have hm:z.toNat<=maxLen:=by simp only [maxLen];omega
 have hz2:ZTs v.cells.toList [.v (.slice none 0 0)]:=by
  have hz:ZTs v.cells.toList [.sl 0 []]:=hz;generalize v.cells.toList=l at hz;cases hz with
  | sl r=>cases r;exact .v rfl .nil
 have:=ok_make (P:=c.P) (fr:=fr) false hA hz2 ho hx1 hy1 ⟨by rw [Nat.mul_comm];omega,hm⟩;have:=OpOk.nils (e':=e') (s:=τ.size) this;unfold WA;have hfl:∀ m:Nat,(List.replicate m (([],()):List τ.V×Ty.un.V)).flatMap cellsN=List.replicate m (NC.inn 0 []):=fun m=>by
  induction m with
  | zero=>rfl
  | succ m ih=>rw [List.replicate_succ,List.replicate_succ,List.flatMap_cons,ih];rfl
 simp only [List.map_cons,List.map_nil,Option.map_some,XO.A,List.length_replicate,lentN,hfl];exact this
end
end Go.Ax
/- Operations: appends, slices, conversions and the others that only reckon. -/
namespace Go.Ax
open Alg
open Go.RowKit Go.Ab
theorem flat_take {α:Type} {f:α->List Tree} {s:Nat} (hf:∀ x,(f x).length=s):∀ (l:List α) (n:Nat),(l.flatMap f).take (n * s)=(l.take n).flatMap f
 | [],n=>by simp
 | x::l,0=>by simp
 | x::l,n+1=>by
   rw [List.flatMap_cons,List.take_succ_cons,List.flatMap_cons,← flat_take hf l n,Nat.succ_mul,List.take_append,hf,List.take_of_length_le (by rw [hf];omega)]
   congr 2
   omega
theorem flat_drop {α:Type} {f:α->List Tree} {s:Nat} (hf:∀ x,(f x).length=s):∀ (l:List α) (n:Nat),(l.flatMap f).drop (n * s)=(l.drop n).flatMap f
 | [],n=>by simp
 | x::l,0=>by simp
 | x::l,n+1=>by
   rw [List.flatMap_cons,List.drop_succ_cons,← flat_drop hf l n,Nat.succ_mul,List.drop_append,hf,List.drop_eq_nil_of_le (by rw [hf];omega),List.nil_append]
   congr 1
   omega
section
variable {c:Cx} {σ:Vw} {κ:Nat->Bool} {fr:Nat} {o:Oper} {k:X->Wx->O} {r:Res}
theorem one?_sl {τ:Ty} {x:X} {l:List τ.V} (h:one? (.sl τ) x=some l):x = .e (.sl τ) l\/(x = .nilS/\l=[]):=by
 cases x with
 | e τ' y=>
   unfold one? at h;simp only at h;generalize teq τ' (.sl τ)=p at h;cases p with
   | none=>cases h
   | some q=>obtain ⟨q⟩:=q;subst q;cases h;exact .inl rfl
 | nilS=>unfold one? at h;cases h;exact .inr ⟨rfl,rfl⟩
 | _=>cases h
theorem src_one {τ:Ty} {xo:Operand} {x:X} {l:List τ.V} (hx:σ.den.ev xo=some x.D) (h:one? (.sl τ) x=some l):Src σ.den xo l.length (l.flatMap (encs τ)):=by
 rcases one?_sl h with rfl | ⟨rfl,rfl⟩
 ·exact .t hx
 ·exact .nil hx
theorem src_ok {τ:Ty} {xo:Operand} {x:X} {l:List τ.V} (hx:σ.den.ev xo=some x.D) (h:σ.src τ x=some l):Src σ.den xo l.length (l.flatMap (encs τ)):=by
 cases x with
 | own q=>
   unfold Vw.src at h;simp only at h;split at h
   ·rename_i e τ' l' st hq
    generalize teq τ' τ=p at h;cases p with
    | none=>cases h
    | some g=>
      obtain ⟨g⟩:=g;subst g;cases h;exact .own (e:=e) (s:=τ'.size) (st:=st) hx (by rw [den_H hq];rfl)
   ·cases h
 | _=>exact src_one hx h
theorem gives_append (hσ:σ.Ok κ) {t e:TypeId} {x y:Operand} {v w:X} {τ:Ty} {bt:Nat} {l':List τ.V} (ho:o.op = .call { callee:=.builtin .append,args:=#[x,y],argTypes:=#[t,t] }) (hE:appE c t=some (e,τ,bt)) (hx:σ.ev x=some v) (hy:σ.ev y=some w) (hl:σ.src τ w=some l') {st:Bool}
    (h:(∃ q st' l,v = .own q/\σ.H q=some (.row e τ l st')/\appX τ e fr bt [(q,none)] st' l l' k=some r)\/(v = .nilS/\ck (lim (List.length l') bt) (k (.own fr) [(fr,some (.row e τ l' st))])=some r)):Gives c σ fr o k r:=by
 obtain ⟨z,hA,_⟩:=appE_ok hE;rcases h with ⟨q,st',l,rfl,hq,h⟩ | ⟨rfl,h⟩
 ·unfold appX at h
  obtain ⟨hb,h⟩:=ck_some h;refine ⟨_,_,h,rfl,fun hon=>?_⟩;unfold lim at hb;have hb:=of_decide_eq_true hb;rw [List.length_append] at hb;have:=ok_append (P:=c.P) (fr:=fr) st' hA ho (.own (k:=q) (n:=l.length) (ts:=l.flatMap (encs τ)) (evV_D hσ hon hx) (by rw [den_H hq];rfl)) (src_ok (evV_D hσ hon hy) hl) (by rw [encs_flat_len]) ⟨hb.1,by simp only [maxLen];omega⟩;unfold WA;simp only [List.map_cons,List.map_nil,Option.map_some,Option.map_none,XO.A,List.length_append,List.flatMap_append];exact this
 ·obtain ⟨hb,h⟩:=ck_some h
  refine ⟨_,_,h,rfl,fun hon=>?_⟩;unfold lim at hb;have hb:=of_decide_eq_true hb;have:=ok_append (P:=c.P) (fr:=fr) st hA ho (.nil (evV_D hσ hon hx)) (src_ok (evV_D hσ hon hy) hl) (by rw [encs_flat_len]) ⟨by rw [Nat.zero_add];exact hb.1,by simp only [maxLen];omega⟩;rw [Nat.zero_add,List.nil_append] at this;exact this
theorem optI_ok (hσ:σ.Ok κ) {x:Option Operand} {f:Option Int->O} (h:σ.optI x f=some r):∃ v,f v=some r/\(σ.On->BndOk σ.den x v):=by
 unfold Vw.optI at h;split at h
 ·exact ⟨none,h,fun _=>trivial⟩
 ·obtain ⟨w,hw,h⟩:=ob_some h
  obtain ⟨ik,n,hn,h⟩:=asInt_some h;exact ⟨some n,h,fun hon=>⟨ik,by rw [evV_D hσ hon hw,hn]⟩⟩
theorem slice_row (hσ:σ.Ok κ) {t e:TypeId} {x:Operand} {lo hi:Option Operand} {v:X} {τ:Ty} {l:List τ.V} {a b:Option Int} (ho:o.op = .slice t x lo hi none) (hx:σ.ev x=some v) (ha:σ.On->BndOk σ.den lo a) (hb:σ.On->BndOk σ.den hi b) (hu:c.P.underlying t=some (.slice e)) (hm:sizeT c.P e=some τ.size) (hg:σ.give v = .e (.sl τ) l)
    (h:slcX τ (σ.g.map (·.2)) l a b (fun r=>k r [])=some r):Gives c σ fr o k r:=by
 unfold slcX at h;obtain ⟨h,hok⟩:=ckg_some h;refine ⟨_,_,h,rfl,fun hon=>?_⟩;have hw:=give_ok σ v;rw [hg] at hw;have:=ok_slice (P:=c.P) (fr:=fr) hu hm ho (evV_D hσ hon hx) (n:=l.length) (ts:=l.flatMap (encs τ)) hw (encs_flat_len l) (ha hon) (hb hon) (hok hon.g);rw [flat_take (fun x=>encs_len τ x),flat_drop (fun x=>encs_len τ x),← slc_eq] at this;have hlen:hiN l.length b - loN a=(slc l a b).length:=by
  obtain ⟨g1,g2,_,_⟩:=slcOk_ok (hok hon.g);rw [slc_eq,List.length_drop,List.length_take];omega
 rw [hlen] at this;exact this
theorem gives_slice (hσ:σ.Ok κ) {t:TypeId} {x:Operand} {lo hi:Option Operand} {v:X} (ho:o.op = .slice t x lo hi none) (hx:σ.ev x=some v) (h:σ.optI lo (fun lo=>σ.optI hi fun hi=>sliceX c σ t v lo hi fun r=>k r [])=some r):Gives c σ fr o k r:=by
 obtain ⟨a,h,ha⟩:=optI_ok hσ h;obtain ⟨b,h,hb⟩:=optI_ok hσ h;unfold sliceX at h;split at h
 ·rename_i e τ l hu hg
  split at h
  ·rename_i m hm
   split at h
   ·rename_i hs
    have hs:=Nat.eq_of_beq_eq_true hs;subst hs;exact slice_row hσ ho hx ha hb hu hm hg h
   ·cases h
  ·cases h
 ·rename_i l hu hg
  unfold slcT at h;obtain ⟨h,hok⟩:=ckg_some h;refine ⟨_,_,h,rfl,fun hon=>?_⟩;have hv:v = .e .tx l:=by
   unfold Vw.give at hg;split at hg
   ·split at hg
    ·cases hg
    ·cases hg
   ·exact hg
  subst hv;exact ok_sliceS (P:=c.P) (fr:=fr) hu ho (evV_D hσ hon hx) (ha hon) (hb hon) (hok hon.g)
 ·cases h
theorem flat8:∀ (l:List (Ty.V .u8)) (j:Nat) (x:Ty.V .u8),l[j]?=some x->(l.flatMap (encs .u8))[j]?=some (.v (.int .u8 (UInt8.toNat x:Int)))
 | [],j,x,h=>by simp at h
 | u::l,0,x,h=>by cases h;rfl
 | u::l,j+1,x,h=>flat8 l j x (by simpa using h)
theorem conv8 {P:Program} {s:St} {n:Int} (h:OpOk P o s fr (.t (.v (.int .u8 (IntKind.u8.wrap n)))) []):OpOk P o s fr (X.e .u8 (u8of n)).D []:=by
 rw [← u8of_toNat] at h;exact h
theorem conv8' {P:Program} {s:St} {u:UInt8} (h:OpOk P o s fr (.t (.v (.int .u8 (IntKind.u8.wrap (u.toNat:Int))))) []):OpOk P o s fr (X.e .u8 u).D []:=by
 have h8:IntKind.u8.wrap (u.toNat:Int)=(u.toNat:Int):=by
  rw [wrap8];have:=u.toNat_lt;omega
 rw [h8] at h;exact h
theorem gives_tobytes (hσ:σ.Ok κ) {s d e:TypeId} {x:Operand} {l:List UInt8} (hs:c.P.underlying s=some .string) (hd:c.P.underlying d=some (.slice e)) (he:c.P.underlying e=some (.int .u8)) (ho:o.op = .convert s d x) (hx:σ.ev x=some (.e .tx l)) (h:k (.e (.sl .u8) l) []=some r):Gives c σ fr o k r:=
 ⟨_,_,h,rfl,fun hon=>by
  intro E σ₁ a w hT hHH h100 hf hdst ⟨ν,G,I⟩ Q;have hv:a.eval x = .string ⟨⟨l⟩⟩:=bool_of (I.ev (St.ev_le hT (show σ.den.ev x=some (.t (.v (.string ⟨⟨l⟩⟩))) from evV_D hσ hon hx)));have hc:=Lib.run_convert_string_bytes (P:=c.P) w s d e ⟨⟨l⟩⟩ hs hd he;have hrun:(execOp a.eval o).run c.P w = .ok (.value (.slice (some ⟨w.heap.size,0,none⟩) l.length (grownCap w l.length 0 e))) (Lib.bytesWorld w e ⟨⟨l⟩⟩):=by
   unfold execOp;rw [ho];simp only [hv];simp only [Sem.run_bind,hc];rfl
  have hA:Aft w (Lib.bytesWorld w e ⟨⟨l⟩⟩):=⟨rfl,rfl,rfl,by rw [Lib.bytesWorld_size];omega,fun j hj=>Lib.bytesWorld_at_old w e _ j hj⟩;unfold Oper.wp;rw [hrun,Oper.upon_value];refine ⟨put_defers ..,ν,fun b=>if b < w.heap.size then G b else l.length,(I.aft hA (fun b hb=>if_pos hb)).put ?_ hdst fr a rfl⟩;refine .t ?_;show TR _ _ _ (.sl l.length (List.flatMap (encs .u8) l));cases hl:l with
  | nil=>exact .nil (fun h=>by cases h)
  | cons b0 l0=>
    rw [← hl];refine .sl w.heap.size 0 l.length _ (l.map fun b=>Value.int .u8 (b.toNat:Int)) _ (by rw [List.length_map];exact ((encs_flat_len (τ:=.u8) l).trans (Nat.mul_one _)).symm) (fun i u hu=>?_) (grownCap_ge _ _ _ _) (fun i u t hu ht=>?_)
    ·rw [List.getElem?_map] at hu
     obtain ⟨b,hb,rfl⟩:=Option.map_eq_some_iff.1 hu;have hi:=(List.getElem?_eq_some_iff.1 hb).1;refine ⟨?_,by show 0+i < if w.heap.size < w.heap.size then G w.heap.size else l.length;rw [if_neg (by omega),Nat.zero_add];exact hi⟩;rw [Nat.zero_add];have:=Lib.bytesWorld_cell w e ⟨⟨l⟩⟩ i hi;rw [this];have hb':l.getD i 0=b:=by rw [List.getD_eq_getElem?_getD,hb];rfl
     show some (Value.int .u8 (((l.getD i 0).toNat:Nat):Int))=_;rw [hb']
    ·rw [List.getElem?_map] at hu
     obtain ⟨b,hb,rfl⟩:=Option.map_eq_some_iff.1 hu;have:=flat8 l i b hb;rw [this] at ht;cases ht;exact .v _ rfl⟩
theorem gives_bytes (hσ:σ.Ok κ) {s d e:TypeId} {x:Operand} {v:X} {l:List UInt8} (hs:c.P.underlying s=some (.slice e)) (he:c.P.underlying e=some (.int .u8)) (hd:c.P.underlying d=some .string) (ho:o.op = .convert s d x) (hx:σ.ev x=some v) (hl:σ.src .u8 v=some l) (h:k (.e .tx l) []=some r):Gives c σ fr o k r:=
 ⟨_,_,h,rfl,fun hon=>by
  intro E σ₁ a w hT hHH h100 hf hdst ⟨ν,G,I⟩ Q;obtain ⟨ax,cp,us,hxv,hul,hrd,hnone,htr⟩:=(src_ok (evV_D hσ hon hx) hl).rd hT hHH I;have hc:(convert s d (a.eval x)).run c.P w = .ok (.string ⟨⟨l⟩⟩) w:=by
   rw [hxv];cases ax with
   | none=>
     have hl0:l=[]:=List.eq_nil_of_length_eq_zero (hnone rfl).2;subst hl0;simp [convert,run_underlying hs,run_underlying hd,run_underlying he,Conv.bytesToString];rfl
   | some ad=>
     refine run_convert_bytes_back (P:=c.P) w s d e ad cp l hs he hd (fun j hj=>?_);have hj':=flat8 l j l[j] (List.getElem?_eq_getElem hj);have hlen:(List.flatMap (encs .u8) l).length=l.length:=(encs_flat_len (τ:=.u8) l).trans (Nat.mul_one _);have hju:j < us.length:=by rw [hul];exact hlen ▸ hj
     obtain ⟨ad',e1,e2⟩:=hrd j us[j] (List.getElem?_eq_getElem hju);cases e1;have ht:=htr j us[j] _ (List.getElem?_eq_getElem hju) hj';rw [e2];generalize us[j]=u at ht;cases ht with
     | v _ _=>rfl
  unfold Oper.wp;have he:(execOp a.eval o).run c.P w = .ok (.value (.string ⟨⟨l⟩⟩)) w:=by
   unfold execOp;rw [ho];simp [hc]
  rw [he,Oper.upon_value];exact ⟨put_defers ..,ν,G,I.put (.t (.v _ rfl)) hdst fr a rfl⟩⟩
theorem gives_conv (hσ:σ.Ok κ) {s d:TypeId} {x:Operand} {v:X} (ho:o.op = .convert s d x) (hx:σ.ev x=some v) (h:convX c.P s d v (fun r=>k r [])=some r):Gives c σ fr o k r:=by
 unfold convX at h;split at h
 ·rename_i hs hd
  refine ⟨_,_,h,rfl,fun hon=>?_⟩;exact conv8 (ok_conv (P:=c.P) (fr:=fr) ho (by rw [hs];rfl) hd (evV_D hσ hon hx))
 ·rename_i hs hd
  refine ⟨_,_,h,rfl,fun hon=>?_⟩;exact conv8' (ok_conv (P:=c.P) (fr:=fr) ho (by rw [hs];rfl) hd (evV_D hσ hon hx))
 ·rename_i hs hd
  refine ⟨_,_,h,rfl,fun hon=>?_⟩;exact ok_conv (P:=c.P) (fr:=fr) ho (by rw [hs];rfl) hd (evV_D hσ hon hx)
 ·rename_i hs hd
  refine ⟨_,_,h,rfl,fun hon=>?_⟩;exact ok_conv (P:=c.P) (fr:=fr) ho (by rw [hs];rfl) hd (evV_D hσ hon hx)
 ·cases h
theorem gives_len (hσ:σ.Ok κ) {t:TypeId} {x:Operand} {v:X} (ho:o.op = .call { callee:=.builtin .len,args:=#[x],argTypes:=#[t] }) (hx:σ.ev x=some v) (h:lenX c σ t v (fun r=>k r [])=some r):Gives c σ fr o k r:=by
 unfold lenX at h;split at h
 ·rename_i v' e hu
  unfold Vw.len at h;split at h
  ·split at h
   ·rename_i q e' τ l st hq
    refine ⟨_,_,h,rfl,fun hon=>?_⟩;exact ok_len (P:=c.P) (fr:=fr) hu ho rfl (.own (evV_D hσ hon hx) (by rw [den_H hq];rfl))
   ·rename_i q e' e1 τ l hq
    refine ⟨_,_,h,rfl,fun hon=>?_⟩;have:=ok_lenN (P:=c.P) (fr:=fr) hu ho rfl (evV_D hσ hon hx) (den_H hq);rw [List.length_map] at this;exact this
   ·rename_i q e' e1 κ' ρ l ln hq
    refine ⟨_,_,h,rfl,fun hon=>?_⟩;exact ok_lenT (P:=c.P) (fr:=fr) hu ho rfl (evV_D hσ hon hx) (den_H hq)
   ·cases h
  ·split at h
   ·rename_i q i e' e1 τ l hq
    obtain ⟨y,hy,h⟩:=gn_some h;refine ⟨_,_,h,rfl,fun hon=>?_⟩;exact ok_lenS (P:=c.P) (fr:=fr) hu ho rfl (evV_D hσ hon hx) (den_H hq) (nest_row hy)
   ·cases h
  ·refine ⟨_,_,h,rfl,fun hon=>?_⟩
   exact ok_len (P:=c.P) (fr:=fr) hu ho rfl (.t (evV_D hσ hon hx))
  ·refine ⟨_,_,h,rfl,fun hon=>?_⟩
   exact ok_len (P:=c.P) (fr:=fr) hu ho rfl (.nil (evV_D hσ hon hx))
  ·cases h
 ·rename_i l hu
  refine ⟨_,_,h,rfl,fun hon=>?_⟩;exact ok_lens (P:=c.P) (fr:=fr) hu ho rfl (evV_D hσ hon hx)
 ·cases h
theorem bitOf_ok (hσ:σ.Ok κ) {b:Operand} {j:Nat} {q:Bool} (h:σ.bitOf b=some (j,q)) (hon:σ.On):σ.den.ev b=some (B q)/\κ (2 * j+1)=q/\κ (2 * j)=!q:=by
 unfold Vw.bitOf at h;split at h
 ·rename_i t
  split at h
  ·rename_i ht
   cases h;exact ⟨den_T ht,hσ.good _ _ ht⟩
  ·rename_i key cc j' q' ht
   split at h
   ·rename_i key' c' hg
    split at h
    ·rename_i hb
     have hb:=Nat.eq_of_beq_eq_true hb;subst hb;cases h;obtain ⟨h1,h2,h3⟩:=hσ.good _ _ ht;have hc:cc=true:=h1.trans ((hσ.g _ _ hg).symm.trans (hon _ _ hg));subst hc;exact ⟨den_T ht,by simpa using h2,by simpa using h3⟩
    ·cases h
   ·cases h
  ·cases h
 ·cases h
theorem evU_ok (hσ:σ.Ok κ) {key:Nat} {x:Operand} {v:X} (h:σ.evU key x=some v):v.pl=true/\(σ.On->κ key=true->σ.den.ev x=some v.D):=by
 unfold Vw.evU at h;split at h
 ·rename_i t
  split at h
  ·rename_i key' cc y ht
   split at h
   ·rename_i hb
    have hb:=Nat.eq_of_beq_eq_true hb;subst hb;obtain ⟨h1,h2⟩:=hσ.good _ _ ht;have hD:κ key'=true->σ.den.ev (.tmp t)=some y.D:=fun hk=>by
     have e:σ.den.ev (.tmp t)=some (X.cnd key' cc y).D:=den_T ht;rw [hk] at h1;subst h1;exact e
    split at h
    ·cases h
     exact ⟨rfl,fun _ hk=>hD hk⟩
    ·cases h
    ·rename_i n1 n2
     cases h;refine ⟨?_,fun _ hk=>hD hk⟩;cases v with
     | bit j q=>exact absurd rfl (n1 j q)
     | cnd a b c=>exact absurd rfl (n2 a b c)
     | _=>rfl
   ·refine ⟨unC_pl h,fun hon hk=>?_⟩
    cases cc with
    | true => 
      have e:σ.den.ev (.tmp t)=some (X.cnd key' true y).D:=den_T ht;rw [e,unC_D (hσ.good t _ ht) hσ.g hon h]
    | false=>
      exfalso;unfold unC at h;split at h
      ·rename_i he;cases he
      ·rename_i key2 c2 y2 he
       cases he;split at h
       ·rename_i key3 c3 hg
        split at h
        ·rename_i hb
         have hb:=Nat.eq_of_beq_eq_true hb;subst hb;have:=(hσ.good _ _ ht).1;rw [← hσ.g _ _ hg,hon _ _ hg] at this;cases this
        ·cases h
       ·cases h
      ·rename_i n1 n2
       exact n2 _ _ _ rfl
  ·rename_i y hy ht
   refine ⟨unC_pl h,fun hon hk=>?_⟩;have e:σ.den.ev (.tmp t)=some y.D:=den_T ht;rw [e,unC_D (hσ.good t y ht) hσ.g hon h]
  ·cases h
 ·exact ⟨ev_pl h,fun hon _=>evV_D hσ hon h⟩
theorem gives_pick (hσ:σ.Ok κ) {b x y:Operand} (ho:o.op = .pick b x y) (h:pickX σ b x y (fun r=>k r [])=some r):Gives c σ fr o k r:=by
 unfold pickX at h;split at h
 ·rename_i j q hbit
  obtain ⟨v,hv,h⟩:=ob_some h;obtain ⟨v',hv',h⟩:=ob_some h;obtain ⟨p1,d1⟩:=evU_ok hσ hv;obtain ⟨p2,d2⟩:=evU_ok hσ hv';have hT:∀ d,q=true->(σ.On->v.D=d)->σ.On->OpOk c.P o σ.den fr d []:=fun d hq hd hon=>by
   obtain ⟨h1,h2,h3⟩:=bitOf_ok hσ hbit hon;subst hq;rw [← hd hon];exact ok_pick_t ho h1 (d1 hon h2)
  have hF:∀ d,q=false->(σ.On->v'.D=d)->σ.On->OpOk c.P o σ.den fr d []:=fun d hq hd hon=>by
   obtain ⟨h1,h2,h3⟩:=bitOf_ok hσ hbit hon;subst hq;rw [← hd hon];exact ok_pick_f ho h1 (d2 hon h3)
  have hbr:br q (k v []) (k v' [])=some r->Gives c σ fr o k r:=fun h=>by
   rcases br_some h with ⟨hq,h⟩ | ⟨hq,h⟩
   ·exact ⟨_,_,h,p1,hT _ hq (fun _=>rfl)⟩
   ·exact ⟨_,_,h,p2,hF _ hq (fun _=>rfl)⟩
  split at h
  ·rename_i a a' h0
   split at h
   ·unfold andX at h
    refine ⟨_,_,h,rfl,fun hon=>?_⟩;cases q with
    | true=>exact hT _ rfl (fun _=>rfl) hon
    | false=>
      refine hF _ rfl (fun _=>?_) hon;have:(X.e .bo false) = .e .bo a':=by
       have e:σ.evU (2 * j) (.const (.bool false))=some (.e .bo false):=rfl;rw [e] at hv';exact Option.some.inj hv'
      exact congrArg X.D this.symm
   ·unfold orX at h
    refine ⟨_,_,h,rfl,fun hon=>?_⟩;cases q with
    | true=>
      refine hT _ rfl (fun _=>?_) hon;have:(X.e .bo true) = .e .bo a:=by
       have e:σ.evU (2 * j+1) (.const (.bool true))=some (.e .bo true):=rfl;rw [e] at hv;exact Option.some.inj hv
      exact congrArg X.D this.symm
    | false=>exact hF _ rfl (fun _=>rfl) hon
   ·exact hbr h
  ·exact hbr h
 ·obtain ⟨v,hv,h⟩:=ob_some h
  split at h
  ·rename_i q
   rcases br_some h with ⟨hq,h'⟩ | ⟨hq,h'⟩
   ·obtain ⟨w,hw,h''⟩:=ob_some h'
    subst hq;exact ⟨_,_,h'',ev_pl hw,fun hon=>ok_pick_t ho (evV_D hσ hon hv) (evV_D hσ hon hw)⟩
   ·obtain ⟨w,hw,h''⟩:=ob_some h'
    subst hq;exact ⟨_,_,h'',ev_pl hw,fun hon=>ok_pick_f ho (evV_D hσ hon hv) (evV_D hσ hon hw)⟩
  ·obtain ⟨w,hw,h''⟩:=ob_some h
   exact ⟨_,_,h'',ev_pl hw,fun hon=>ok_pick_t ho (evV_D hσ hon hv) (evV_D hσ hon hw)⟩
  ·obtain ⟨w,hw,h''⟩:=ob_some h
   exact ⟨_,_,h'',ev_pl hw,fun hon=>ok_pick_f ho (evV_D hσ hon hv) (evV_D hσ hon hw)⟩
  ·cases h
end
end Go.Ax
