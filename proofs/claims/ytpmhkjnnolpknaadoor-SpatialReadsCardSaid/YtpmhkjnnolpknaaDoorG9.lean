/- The page of a valid calculation. Conditions are in the theorems. -/
import Derived.Test.YtpmhkjnnolpknaaDoorG8
open List renaming length_append->cP,length_set->gF,mem_append->jF,mem_cons->dT,mem_map->dM,mem_range->l6,not_mem_nil->mX,sum_cons->BW
/- SpatialLayouts, in plain words: the page of a valid calculation. -/
namespace Go.Proofs
open Go Go.Ax Go.Ax.aB
def jL(r:Int)(a:List Int):Nat:=1+max (aD r) (aD (a.getD 0 0))
def gI(op:Int)(a:List Int):List (List UInt8):=
 if op=5 then qU (a.getD 0 0) (a.getD 1 0) (1+eH (a.getD 0 0) (a.getD 1 0) (aD (a.getD 1 0)))
 else if op=6 then rF (a.getD 0 0) (a.getD 1 0)
 else lS op a.dropLast (a.getLastD 0) ((eW op a).getD 0 0) (jL ((eW op a).getD 0 0) a)
theorem TE{a:List Int}(h:2<=a.length):a=a.dropLast++[a.getLastD 0]:=by
 have hne:a≠[]:=by intro he;subst he;simp at h
 rw[List.getLastD_eq_getLast?,List.getLast?_eq_some_getLast hne];exact(List.dropLast_concat_getLast hne).symm
theorem aFP:∀{r:List Int}{x:Int},0<=x->(∀y∈r,0<=y)->r.foldl max x<=x+r.sum
 |[],x,_,_=>by simp
 |y::r,x,hx,hr=>by
   have hy:=hr y (by simp);have:=aFP (r:=r) (x:=max x y) (by omega) λz hz=>hr z (by simp[hz])
   rw[List.foldl_cons,BW];have hs:0<=r.sum:=by
    have h2:∀l:List Int,(∀z∈l,0<=z)->0<=l.sum:=by
     intro l
     induction l with
     |nil=>intro _;simp
     |cons z l ih=>
       intro h;have:=h z (by simp);have:=ih λw hw=>h w (by simp[hw])
       rw[BW];omega
    exact h2 r λz hz=>hr z (by simp[hz])
   omega
theorem Cv{op:Int}{a:List Int}(V:gN op a)(ho:op=3\/op=4):eW op a=[(eW op a).getD 0 0]/\0<=(eW op a).getD 0 0/\(eW op a).getD 0 0<=8000000/\fD a+1<=jL ((eW op a).getD 0 0) a/\jL ((eW op a).getD 0 0) a<=8:=by
 have h2:=V.two;have h8:=V.eight;have hall:=V.all;have h7:∀z:Int,z<=8000000->aD z<=7:=λz hz=>N6 (by omega)
 rcases ho with rfl|rfl
 .have hs:=aEE hall
  have e:eW 3 a=[a.sum]:=rfl;rw[e];show[a.sum]=[a.sum]/\0<=a.sum/\a.sum<=8000000/\fD a+1<=jL a.sum a/\jL a.sum a<=8;refine⟨rfl,hs.1,by omega,?_,?_⟩
  .obtain⟨x,y,r,rfl⟩:=jN h2
   have:=aFP (r:=y::r) (x:=x) (hall x (by simp)).1 λz hz=>(hall z (by simp at hz ⊢;exact .inr hz)).1
   rw[Gk];have h3:=jW this;unfold jL;rw[BW];omega
  .unfold jL
   have h3:=h7 a.sum (by omega);have h4:aD (a.getD 0 0)<=6:=by
    obtain⟨x,y,r,rfl⟩:=jN h2;exact gJ (hall x (by simp)).2
   omega
 .have hl:=V.pair (by omega)
  have hsub:=V.sub rfl;obtain⟨x,y,r,rfl⟩:=jN h2;have hr:r=[]:=by simpa using hl
  subst hr;have hsub:y<=x:=hsub;have hx:=hall x (by simp);have hy:=hall y (by simp);show[x-y]=[x-y]/\0<=x-y/\x-y<=8000000/\fD [x,y]+1<=1+max (aD (x-y)) (aD x)/\1+max (aD (x-y)) (aD x)<=8;have h3:=jW (show x-y<=x by omega);have h4:=gJ hx.2;have h5:fD [x,y]=aD x:=by
   rw[Gk];show aD (max x y)=_;rw[show max x y=x by omega]
  exact⟨rfl,by omega,by omega,by omega,by omega⟩
theorem F4(x:List (List UInt8))(e:Int):(some (sS x e):O).bind Lq=some (x,e):=rfl
theorem aCp(x:List (List UInt8))(e:Int):(some (Ce x e):O).bind Lp=some (x,e):=rfl
def tD(op:Int)(a:List Int):List (List UInt8)×Int:=if fS op a=0 then(gI op a,0)else([],fS op a)
theorem Ss{op:Int}{a:List Int}(V:gN op a)(ho:op=3\/op=4):sP 100 op a ((eW op a).getD 0 0)=some (gI op a)/\rZ 100 op a ((eW op a).getD 0 0)=some (Fs op a.dropLast (a.getLastD 0) ((eW op a).getD 0 0) (jL ((eW op a).getD 0 0) a)) /\
    (Fs op a.dropLast (a.getLastD 0) ((eW op a).getD 0 0) (jL ((eW op a).getD 0 0) a)).map (·.map dG)=gI op a:=by
 obtain⟨_,r0,r1,hc,hw⟩:=Cv V ho;have hsp:=TE V.two;have hcols:=Dd V;have hp:gI op a=lS op a.dropLast (a.getLastD 0) ((eW op a).getD 0 0) (jL ((eW op a).getD 0 0) a):=by
  unfold gI;rw[aH (by omega),aH (by omega)]
 rw[hp];have hw2:jL ((eW op a).getD 0 0) a=1+max (aD ((eW op a).getD 0 0)) (aD (a.getD 0 0)):=rfl;generalize(eW op a).getD 0 0=r at *
 generalize jL r a=w at *
 generalize a.dropLast=ini at *
 generalize a.getLastD 0=z at *
 subst hsp;exact⟨aQ3 V ho ⟨r0,by omega⟩ hw2 hc,aKK V ho ⟨r0,by omega⟩ hw2 hc (by omega),aWN (by omega) (λx hx=>by have:=hcols x hx;omega) (by omega)⟩
theorem aT3{op:Int}{a:List Int}(h8:a.length<=90):qL 100 op a=some (tD op a):=by
 unfold qL w21 SL tD;have h13:=aVD (N:=100) (op:=op) (a:=a) (by omega) (by omega);rw[aL (aVC h13),aVA h13,aUz h13];unfold DD;by_cases hv:fS op a=0
 .have V:=wF hv
  rw[aJ hv,aJ hv];simp only[];rw[show decide ((0:Int)≠0)=false from rfl,aT,e9,e9,e9,e9];by_cases h3:op=3
  .obtain⟨hr,_⟩:=Cv V (.inl h3)
   obtain⟨p,_⟩:=Ss V (.inl h3);rw[aO (show(3:Int)=op by omega),aW,hr,gK,aL (aBO p),aBN p,F4]
  rw[bA (show ¬ (3:Int)=op by omega),aT];by_cases h4:op=4
  .obtain⟨hr,_⟩:=Cv V (.inr h4)
   obtain⟨p,_⟩:=Ss V (.inr h4);rw[aO (show(4:Int)=op by omega),aW,hr,gK,aL (aBO p),aBN p,F4]
  rw[bA (show ¬ (4:Int)=op by omega),aT];have hl:=V.pair (by omega);have hfr:=V.BE;obtain⟨x,y,r,rfl⟩:=jN V.two;have hr:r=[]:=by simpa using hl
  subst hr;have hx:=V.all x (by simp);have hy:=V.all y (by simp);by_cases h5:op=5
  .subst h5
   have p:=aQJ hx hy 5;rw[show decide ((5:Int)=5)=true from rfl,aW,show eW 5 [x,y]=[x*y]from rfl,gK,aL (aQH p),aQF p,F4];rfl
  .have h6:op=6:=by have:=V.Av;omega
   subst h6;have hy0:y≠0:=hfr rfl;have p:=aPn hx (b:=y) ⟨by omega,hy.2⟩ 6;have e:x.tdiv y=x / y:=Int.tdiv_eq_ediv_of_nonneg hx.1;rw[show decide ((5:Int)=6)=false from rfl,aT,show decide ((6:Int)=6)=true from rfl,aW,show eW 6 [x,y]=[x.tdiv y,x.tmod y]from rfl,gK,e,aL (aPl p),aPj p,F4];rfl
 .rw[aH hv,aH hv]
  simp only[];rw[aO (show fS op a≠0 from hv),aW,F4]
def Small(p:List (List UInt8)):Prop:=p.length<90/\∀l∈p,l.length<90
theorem aEM{p q:List (List UInt8)}(h:p.map (·.map dG)=q)(hq:Small q):Small p:=by
 subst h;refine⟨by simpa using hq.1,λl hl=>?_⟩;have:=hq.2 (l.map dG) (dM.2 ⟨l,hl,rfl⟩);simpa using this
theorem NQ{op:Int}{a:List Int}(V:gN op a):Small (gI op a):=by
 have h8:=V.eight;have hcols:=Dd V;by_cases ho:op=3\/op=4
 .obtain⟨_,r0,r1,hc,hw⟩:=Cv V ho
  have hsp:=TE V.two;have hp:gI op a=lS op a.dropLast (a.getLastD 0) ((eW op a).getD 0 0) (jL ((eW op a).getD 0 0) a):=by
   unfold gI;rw[aH (by omega),aH (by omega)]
  rw[hp];have hw2:jL ((eW op a).getD 0 0) a=1+max (aD ((eW op a).getD 0 0)) (aD (a.getD 0 0)):=rfl;generalize(eW op a).getD 0 0=r at *
  generalize jL r a=w at *
  generalize a.dropLast=ini at *
  generalize a.getLastD 0=z at *
  subst hsp;have hln:∀x:Int,aD x<=w->(bX w x.toNat 0).length=w:=λx hx=>lC (by show 0+aD x<=w;omega)
  refine⟨by simp[lS]at h8 ⊢;omega,λl hl=>?_⟩;unfold lS at hl;simp only[jF,dT,dM,mX,lW,List.cons_append]at hl;rcases hl with rfl|⟨x,hx,rfl⟩|rfl|rfl|rfl
  .simp[gL];omega
  .rw[hln x (by have:=hcols x (by simp[hx]);omega)];omega
  .rw[gF,hln z (by have:=hcols z (by simp);omega)];omega
  .simp;omega
  .rw[hln r (by omega)];omega
 .have hl:=V.pair (by omega)
  have hfr:=V.BE;have hopr:=V.Av;obtain⟨x,y,r,rfl⟩:=jN V.two;have hr:r=[]:=by simpa using hl
  subst hr;have hx:=V.all x (by simp);have hy:=V.all y (by simp);have l6x:=gJ hx.2;have l6y:=gJ hy.2;by_cases h5:op=5
  .subst h5
   show Small (qU x y (1+eH x y (aD y)));have hW:=xX hx hy (aD y) (by omega);obtain⟨wa,wb,wab⟩:=EE x y (aD y);have hpart:=λk (hk:k<aD y)=>ED x y hk
   generalize eH x y (aD y)=wd at *
   have hln:∀v:Int,aD v<=1+wd->(bX (1+wd) v.toNat 0).length=1+wd:=λv hv=>lC (by show 0+aD v<=_;omega)
   unfold qU;refine⟨by rw[cP,cP,GP];split <;> simp <;> omega,λl hl=>?_⟩;rcases jF.1 hl with hl|hl
   .rcases jF.1 hl with hl|hl
    .simp only[dT,mX,lW]at hl
     rcases hl with rfl|rfl|rfl
     .rw[hln x (by omega)];omega
     .rw[gF,hln y (by omega)];omega
     .simp;omega
    .unfold jQ at hl
     obtain⟨k,hk,rfl⟩:=dM.1 hl;rw[lC (by have:=hpart k (l6.1 hk);show k+aD (eB x y k)<=_;omega)];omega
   .split at hl
    .simp only[dT,mX,lW]at hl
     rcases hl with rfl|rfl
     .simp;omega
     .rw[hln (x*y) (by omega)];omega
    .cases hl
  .have h6:op=6:=by omega
   subst h6;have hy0:y≠0:=hfr rfl;show Small (rF x y);have hqa:x / y<=x:=Int.ediv_le_self _ hx.1;have hLa:aD (x / y)<=aD x:=jW hqa;unfold rF;refine⟨by rw[cP,Mi];simp;omega,λl hl=>?_⟩;rcases jF.1 hl with hl|hl
   .simp only[dT,mX,lW]at hl
    rcases hl with rfl|rfl
    .rw[lC (by show 0+aD (x / y)<=_;omega)];omega
    .rw[cP,cP,Dc,Dc];simp;omega
   .unfold kB at hl
    obtain⟨j,hj,hl⟩:=List.mem_flatMap.1 hl;have hj:=l6.1 hj;have h1:=n8 hx.1 (c:=aD (x / y)-1-j) (by omega) (GN hx.1 (show 0<y by omega) (aD (x / y)-1-j)).2;have h2:=n8 hx.1 (c:=aD (x / y)-1-j-1) (by omega) (GU hx.1 (show 0<y by omega) (aD (x / y)-1-j)).2;simp only[dT,mX,lW]at hl;rcases hl with rfl|rfl
    .rw[lC (by show _+aD (fW x y _)<=_;omega)];omega
    .rw[lC (by show _+aD (jT x y _)<=_;omega)];omega
theorem RH(x:List (List UInt8)):(some (AG x):O).bind K2=some x:=rfl
theorem aA8{op:Int}{a:List Int}(V:gN op a):∃q,vC 100 op a=some q/\q.map (·.map dG)=gI op a:=by
 have h8:=V.eight;have h14:=aUl (N:=100) (op:=op) (a:=a) (by omega) (by omega);unfold vC w46 RI;rw[aL (aUk h14),aUj h14];unfold DD;rw[aJ (aFD V)];simp only[];by_cases ho:op=3\/op=4
 .obtain⟨hr,_⟩:=Cv V ho
  obtain⟨_,p,e⟩:=Ss V ho;rw[bA (show ¬ op=5 by omega),aT,bA (show ¬ op=6 by omega),aT,hr,gK,aL (aKJ p),aKH p,RH];exact⟨_,rfl,e⟩
 .have hl:=V.pair (by omega)
  have hfr:=V.BE;have hopr:=V.Av;obtain⟨x,y,r,rfl⟩:=jN V.two;have hr:r=[]:=by simpa using hl
  subst hr;have hx:=V.all x (by simp);have hy:=V.all y (by simp);by_cases h5:op=5
  .subst h5
   have p:=aKn hx hy;rw[show decide ((5:Int)=5)=true from rfl,aW,gK];simp only[kT];rw[aL (aKl p),aKk p,RH];obtain⟨wa,wb,wab⟩:=EE x y (aD y);exact⟨_,rfl,aWs (by omega) (by omega) (by omega) (by omega) (λk hk=>by have:=ED x y hk;omega)⟩
  .have h6:op=6:=by omega
   subst h6;have hy0:y≠0:=hfr rfl;have p:=aK2 hx (b:=y) ⟨by omega,hy.2⟩;rw[show decide ((6:Int)=5)=false from rfl,aT,show decide ((6:Int)=6)=true from rfl,aW,gK];simp only[kT];rw[aL (aK1 p),aKZ p,RH];exact⟨_,rfl,a0K hx ⟨by omega,hy.2⟩⟩
theorem aTU{op:Int}{a:List Int}(h8:a.length<=90):Ac 100 op a=some (tD op a):=by
 unfold Ac w22 SJ tD;have h18:=SZ (N:=100) (op:=op) (a:=a) (by omega) (by omega);rw[aL (SY h18),SX h18];by_cases hv:fS op a=0
 .have V:=wF hv
  obtain⟨q,h46,he⟩:=aA8 V;have hs:=aEM he (NQ V);have h45:=aAl hs.1 hs.2;rw[he]at h45;rw[aJ hv,hv,show decide ((0:Int)≠0)=false from rfl,aT,aL (aA7 h46),aA6 h46,aL (aAi h45),aAh h45,aCp]
 .rw[aH hv,aO (show fS op a≠0 from hv),aW,aCp]
theorem aYm(op:Int)(a:List Int):Small (tD op a).1:=by
 unfold tD;split
 .rename_i hv
  exact NQ (wF hv)
 .exact⟨by simp,by simp⟩
end Go.Proofs
