/- Lemmas. -/
import Derived.Test.YtkgcnoghjibiaaaGreatDoorYTb5
set_option linter.unusedSimpArgs false
namespace Go.Proofs.YtkgcnoghjibiaaaGreatDoor.Ab
open Go Go.RowKit
theorem ni10 {q:QeaT} (hn:(q.states.map (·.name)).Nodup) {i j:Nat} (hi:i<q.states.length) (hj:j<q.states.length) (h:n19 q i=n19 q j):i=j:=by unfold n19 at h;rw[zU hi,zU hj] at h;have h1:=wZ hn i (by simpa using hi);have h2:=wZ hn j (by simpa using hj);simp only[uA] at h1 h2;have e:q.states[i].name=q.states[j].name:=h;rw[e,h2] at h1;exact h1.symm
theorem si_ {q:QeaT} (hn:(q.states.map (·.name)).Nodup) {i:Nat} (hi:i<q.states.length):(s20 q).any (λy=>n19 q i==y)=((m_ q)[i]? ==some true):=by
 rw[yY,yE];constructor
 .rintro⟨y,hy,e⟩;obtain⟨j,hj,rfl⟩:=zI.1 hy;have hj2:=rm10.1 hj;have:=ni10 hn hi hj2.1 (by simpa using e);subst this;simpa using hj2.2
 .intro h;exact⟨_,zI.2 ⟨i,rm10.2 ⟨hi,by simpa using h⟩,rfl⟩,by simp⟩
theorem sa15 {q:QeaT} {n:Int} (h:0<=n):s24 q n=n19 q n.toNat:=by unfold s24 n19 at?;rw[zY h];cases q.states[n.toNat]? <;> rfl
theorem sk_ {q:QeaT} (hn:(q.states.map (·.name)).Nodup) (hf:∀x∈segs q.trans 0,0<=x.1.from_∧x.1.from_<q.states.length):(((segs q.trans 0).map (trT q)).filter λx=>(s20 q).any λy=>x.from_==y)=(segK q).map (trT q):=by rw[List.filter_map];congr 1;refine tL λx hx=>?_;have h:=hf x hx;show (s20 q).any (λy=>s24 q x.1.from_==y)=onM (m_ q) x.1.from_;rw[sa15 h.1,si_ hn (by omega)];rfl
theorem sg_ {q:QeaT} (hn:(q.states.map (·.name)).Nodup) (hf:∀x∈segs q.trans 0,0<=x.1.from_∧x.1.from_<q.states.length):(((segs q.trans 0).map (trT q)).filter λx=>!(s20 q).any λy=>x.from_==y)=((segs q.trans 0).filter λx=>!onM (m_ q) x.1.from_).map (trT q):=by rw[List.filter_map];congr 1;refine tL λx hx=>?_;have h:=hf x hx;show (!(s20 q).any (λy=>s24 q x.1.from_==y))= !onM (m_ q) x.1.from_;rw[sa15 h.1,si_ hn (by omega)];rfl
theorem fk_ {α:Type} {p:α->Bool}:∀(m:List Bool) (l:List α),m.length=l.length->(∀(i:Nat) x,l[i]?=some x->p x=(m[i]? ==some true))->l.filter p=k11 m l
 | [],[],_,_ =>rfl
 | [],_ ::_,h,_ =>by simp at h
 | _ ::_,[],h,_ =>by simp at h
 | b::m,x::l,hl,h=>by
  have h0:=h 0 x rfl;have ih:=fk_ m l (by simpa using hl) λi y hy=>by have:=h (i+1) y (by simpa using hy);simpa using this
  rw[uI,ih];cases b <;> simp at h0 <;> rw[h0] <;> rfl
theorem sk10 {q:QeaT} (hn:(q.states.map (·.name)).Nodup) (hm:(m_ q).length=q.states.length):(q.states.filter λx=>(s20 q).any λy=>x.name==y)=k11 (m_ q) q.states:=by
 refine fk_ _ _ hm λi x hx=>?_;have hi:=(zX.1 hx).1;have e:n19 q i=x.name:=by unfold n19;rw[hx]
 rw[<-e,si_ hn hi]
theorem od_:∀(l:List TransT) (o:List Nat),(∀t∈l,0<=t.symbol)->ordL (o.map λ(n:Nat)=>(n:Int)) l=(dd o (l.map λt=>t.symbol.toNat)).map λ(n:Nat)=>(n:Int)
 | [],o,_ =>rfl
 | t::l,o,h=>by
  have h0:=h t zD;obtain⟨n,hn⟩:=zA h0;have e:t.symbol.toNat=n:=by omega
  have hl:∀t∈l,0<=t.symbol:=λx hx=>h x (zR _ hx);show ordL (o10 (o.map λ(n:Nat)=>(n:Int)) t.symbol) l=(dd o (t.symbol.toNat::l.map λt=>t.symbol.toNat)).map λ(n:Nat)=>(n:Int);rw[e];have hm:t.symbol∈(o.map λ(n:Nat)=>(n:Int))↔n∈o:=by
   rw[hn];constructor
   .intro hh;obtain⟨m,hm,e⟩:=zI.1 hh;have:m=n:=by omega
    exact this ▸ hm
   .exact λhh=>zI.2 ⟨n,hh,rfl⟩
  unfold o10
  conv=>rhs;unfold dd
  by_cases hx:n∈o
  .rw[zY hx];rw[zY (yE.2 ⟨_,hm.2 hx,by simp⟩)];exact od_ l o hl
  .rw[zK hx];rw[zK (λhh=>by
    obtain⟨y,hy,e⟩:=yE.1 hh;have e:t.symbol=y:=by simpa using e
    exact hx (hm.1 (e ▸ hy)))]
   have e2:(o.map λ(n:Nat)=>(n:Int))++[t.symbol]=(o++[n]).map λ(n:Nat)=>(n:Int):=by rw[hn];simp
   rw[e2];exact od_ l (o++[n]) hl
theorem doo_ {l:List TransT} {n:Nat} (h0:∀t∈l,0<=t.symbol∧t.symbol<(n:Int)) (h:allI (λi s=>s==(n:Int) - (ordL [] l).length+(i:Int)) (ordL [] l)=true):
  dd [] (l.map λt=>t.symbol.toNat)=List.range' (n - (dd [] (l.map λt=>t.symbol.toNat)).length) (dd [] (l.map λt=>t.symbol.toNat)).length∧(dd [] (l.map λt=>t.symbol.toNat)).length<=n:=by
 have e:=od_ l [] λt ht=>(h0 t ht).1;rw[yU] at e;rw[e,at10] at h;have hlt:∀x∈dd [] (l.map λt=>t.symbol.toNat),x<n:=λx hx=>by
  rw[dm_] at hx;rcases hx with hx | hx
  .cases hx
  .obtain⟨t,ht,rfl⟩:=zI.1 hx;have:=h0 t ht;omega
 have hlen:(dd [] (l.map λt=>t.symbol.toNat)).length<=n:=by
  have hp:(dd [] (l.map λt=>t.symbol.toNat)).length<=(List.range n).length:=by have:(dd [] (l.map λt=>t.symbol.toNat)).Nodup:=dn_ _ List.nodup_nil;rw[xE];exact ns_ this hlt
  simpa using hp
 refine⟨?_,hlen⟩;generalize dd [] (l.map λt=>t.symbol.toNat)=D at*;refine vW (by simp) λi h1 h2=>?_;have:=h i (D[i]:Int) (by rw[zS,zU h1];rfl);simp only[zQ,zB] at this;rw[List.getElem_range'];omega
theorem fz10 {α:Type} {f:Nat->α->Int}:∀{l:List α} {i:Nat},(f13 f l i).1=0->∀(j:Nat) x,l[j]?=some x->f (i+j) x=0:=by
 intro l
 induction l with
 | nil=>intro i _ j x h;cases h
 | cons y l ih=>
  intro i h j x hx;unfold f13 at h;by_cases e:f i y=0
  .rw[zY e] at h;cases j with
   | zero=>cases hx;exact e
   | succ j=>
    have:=ih h j x (by simpa using hx)
    rwa [show i+(j+1)=i+1+j by omega]
  .rw[zK e] at h;exact absurd h e
structure Fct (q:QeaT):Prop where
 nm:n12 q.name=true
 dl:q.decls.length<=32
 dx:∀d∈q.decls,n12 d.name=true∧d.types.length<=8∧∀k∈d.types,1<=k∧k<=3
 dn:(q.decls.map (·.name)).Nodup
 ql:q.quants.length<=8
 qx:∀x∈q.quants,n12 x.name=true∧1<=x.type∧x.type<=3
 fl:q.frees.length<=16
 fx:∀x∈q.frees,n12 x.name=true∧x.init.ok=true
 vn:q.vars.Nodup
 sl:q.states.length<=32
 sx:∀x∈q.states,n12 x.name=true
 sn:(q.states.map (·.name)).Nodup
 st:0<=q.start∧q.start<q.states.length
 yl:q.symbols.length<=64
 ys:∀s∈q.symbols,symS q s=true
 yn:q.symbols.Nodup
 nl:q.nodes.length<=2048
 tl:q.trans.length<=256
 tx:∀x∈segs q.trans 0,0<=x.2∧TIn q x.1 x.2 (endT x.1 x.2)∧t15 q x.1 x.2=(endT x.1 x.2,true)
 te:endA q.trans 0=q.nodes.length
 qs:∀v,v<q.quants.length->(q.symbols.any λs=>n13 s (v:Int))=true
 od:dd [] (symN q.trans)=List.range' (q.symbols.length - (dd [] (symN q.trans)).length) (dd [] (symN q.trans)).length
 ol:(dd [] (symN q.trans)).length<=q.symbols.length
theorem il10 {α:Type} {p:α->Bool} {l:List α} {i:Nat} {x:α} (hx:l[i]?=some x) (hp:p x=true):idxF p l<=(i:Int):=by
 unfold idxF;cases hf:l.findIdx? p with
 | none=>simp only;omega
 | some m=>
  obtain⟨h1,h2,h3⟩:=xA.1 hf;obtain⟨hi,e⟩:=zX.1 hx;have:¬i<m:=λh=>by have:=h3 i h;rw[e] at this;exact this hp
  simp only;omega
theorem nof_ {l:List DeclT} (h:∀(j:Nat) d,l[j]?=some d->¬idxF (λe=>e.name==d.name) l<(j:Int)):(l.map (·.name)).Nodup:=by rw[List.nodup_iff_pairwise_ne,wO];intro i j hi hj hij e;simp only[uA,zQ] at hi hj e;refine h j _ (zU hj) ?_;have h2:=il10 (p:=λe:DeclT=>e.name==l[j].name) (zU hi) (by simp [e]);omega
theorem ko_ {k:Int} (h:(k_ k==[])=false):1<=k∧k<=3:=by
 have:=kb_ k;rw[h] at this;have h2:decide (1<=k∧k<=3)=true:=by simpa using this
 exact of_decide_eq_true h2
theorem df10 {l:List DeclT} (h:(d10 l).1=0):l.length<=32∧(∀d∈l,n12 d.name=true∧d.types.length<=8∧∀k∈d.types,1<=k∧k<=3)∧(l.map (·.name)).Nodup:=by
 unfold d10 at h;split at h
 .cases h
 .rename_i hl;have hz:=fz10 h;have key:∀(j:Nat) d,l[j]?=some d->n12 d.name=true∧¬idxF (λe=>e.name==d.name) l<(j:Int)∧d.types.length<=8∧∀k∈d.types,1<=k∧k<=3:=λj d hd=>by
   have h1:=hz j d hd;rw[yS] at h1;unfold d13 at h1;split at h1
   .cases h1
   .rename_i a1;split at h1
    .cases h1
    .rename_i a2;split at h1
     .cases h1
     .rename_i a3;split at h1
      .cases h1
      .rename_i a4;refine⟨by simpa using a1,a2,by omega,λk hk=>ko_ ?_⟩;have:=wU.1 (by simpa using a4:(d.types.any λk=>k_ k==[])=false) k hk;simpa using this
  refine⟨by omega,λd hd=>?_,nof_ λj d hd=>(key j d hd).2.1⟩;obtain⟨j,hj⟩:=zM hd;have:=key j d hj;exact⟨this.1,this.2.2⟩
theorem fo12 {q:QeaT} (h:r10 q=true):Fct q:=by
 unfold r10 topR at h;simp only[zJ,zW,zB] at h;obtain⟨⟨h1,h2,h3,h4,h5⟩,h6,h7⟩:=h;unfold fewS at h2;simp only[zJ,zW] at h2;unfold h20 at h5;simp only[zJ] at h5;obtain⟨f1,f2,f3,f4,f5,f6⟩:=h2;obtain⟨e1,e2,e3,e4,e5⟩:=h5;unfold t26 at h6;simp only[zJ,zB] at h6;unfold s16 at h7;simp only[zJ] at h7;obtain⟨g1,g2,g3⟩:=h7;obtain⟨d1,d2,d3⟩:=df10 h1;have hv:=(ni_ _).1 e3;have hs:=(ni_ _).1 e4;have hall:allS (s26 q) q.trans 0 0=(true,(q.nodes.length:Int)):=by rw[<-h6.2,<-h6.1]
 have t1:=so21 q.trans 0 (xI _) (by omega) hall;have t2:=st_ q.trans 0 (xI _) (by omega) hall;have g2':=at10.1 g2;have hsy:∀t∈q.trans,0<=t.symbol∧t.symbol<(q.symbols.length:Int):=λt ht=>by obtain⟨x,hx,rfl⟩:=sm13 q.trans 0 t ht;exact (t1.2.2.2 x hx).2.hs
 have ho:=doo_ hsy g1;refine⟨e5,d1,d2,d3,by omega,λx hx=>?_,by omega,λx hx=>?_,hv.2,by omega,λx hx=>hs.1 _ (zI.2 ⟨x,hx,rfl⟩),hs.2,⟨h3,h4⟩,by omega,λs hs=>?_,?_,by omega,by omega,λx hx=>⟨(t1.2.2.2 x hx).1,(t1.2.2.2 x hx).2,t2 x hx⟩,t1.1.symm,λv hv=>?_,ho.1,ho.2⟩
 .obtain⟨i,hi⟩:=zM hx;have:=at10.1 e1 i x hi;unfold t35 at this;simp only[zJ,zW] at this;exact⟨hv.1 _ (uS _ (zI.2 ⟨x,hx,rfl⟩)),this⟩
 .obtain⟨i,hi⟩:=zM hx;exact⟨hv.1 _ (List.mem_append_right _ (zI.2 ⟨x,hx,rfl⟩)),at10.1 e2 i x hi⟩
 .obtain⟨i,hi⟩:=zM hs;have:=g2' i s hi;unfold symR at this;simp only[zJ] at this;exact this.1
 .rw[List.nodup_iff_pairwise_ne,wO];intro i j hi hj hij e;have:=g2' j _ (zU hj);unfold symR at this;simp only[zJ,yX,wU,zW] at this;exact this.2 q.symbols[i] (zG (i:=i) (by rw[yN,zY hij,zU hi])) e.symm
 .obtain⟨y,hy,_⟩:=as10 hv;exact at10.1 g3 v y hy
structure Fw (q:QeaT):Prop where
 dl:q.decls.length<=12
 ql:q.quants.length<=9
 fl:q.frees.length<=12
 sl:q.states.length<=12
 yl:q.symbols.length<=12
 tl:q.trans.length<=12
 nl:q.nodes.length<=40
 da:∀d∈q.decls,d.types.length<=12
 ya:∀s∈q.symbols,s.args.length<=12
 ta:∀t∈q.trans,t.sets.length<=12
theorem am11 {α:Type} {p:Nat->α->Bool} {l:List α} (h:allI p l=true) {x:α} (hx:x∈l):∃i,p i x=true:=by obtain⟨i,hi⟩:=zM hx;exact⟨i,at10.1 h i x hi⟩
theorem fw_of {q:QeaT} (h:fewQ q=true):Fw q:=by
 unfold fewQ f18 at h;simp only[zJ,zW] at h;obtain⟨⟨a1,a2,a3,a4,a5,a6,a7,a8⟩,b,c,d,e,f⟩:=h;refine⟨by omega,by omega,by omega,by omega,by omega,by omega,by omega,λx hx=>?_,λx hx=>?_,λx hx=>?_⟩
 .obtain⟨i,hi⟩:=am11 b hx;unfold f16 at hi;simp only[zJ,zW] at hi;omega
 .obtain⟨i,hi⟩:=am11 c hx;unfold f23 at hi;simp only[zJ,zW] at hi;omega
 .obtain⟨i,hi⟩:=am11 f hx;simp only[zW] at hi;omega
theorem at?_in {α:Type} {l:List α} {n:Int} (h0:0<=n) (h1:n<(l.length:Int)):∃x,at? l n=some x:=by obtain⟨k,rfl⟩:=zA h0;obtain⟨x,hx,_⟩:=as10 (l:=l) (i:=k) (by omega);exact⟨x,at?_nat hx⟩
theorem mm13 {α:Type} {l:List α} {a b:Int} (h0:0<=a) {x:α} (h:x∈mid l a b):∃j:Nat,l[j]?=some x∧a<=j∧(j:Int)<b:=by
 obtain⟨i,hi⟩:=zM h;unfold mid at hi;rw[yN] at hi;split at hi
 .rw[xX] at hi;exact⟨_,hi,by omega,by omega⟩
 .cases hi
theorem ta38 {q:QeaT} (F:Fct q) {t:TransT} (ht:t∈q.trans):∃a,(t,a)∈segs q.trans 0∧0<=a∧TIn q t a (endT t a):=by obtain⟨x,hx,rfl⟩:=sm13 q.trans 0 t ht;exact⟨x.2,hx,(F.tx x hx).1,(F.tx x hx).2.1⟩
theorem to11 {q:QeaT} (F:Fct q):T_ q.trans q.states.length:=λt ht=>by obtain⟨a,_,_,h⟩:=ta38 F ht;exact⟨h.hf,h.ht⟩
theorem to13 {q:QeaT} (F:Fct q) {x:TransT×Int} (hx:x∈segs q.trans 0):TrOk q x.1 x.2 (endT x.1 x.2):=by obtain⟨h0,hi,h1⟩:=F.tx x hx;have:=hi.hle;have:=hi.hub;exact tr_ok h0 (by omega) h1
theorem sf_:∀(l:List TransT) (a:Int) (x:TransT×Int),x∈segs l a->x.1∈l
 | [],_,_,h=>by cases h
 | t::l,a,x,h=>by
  rcases yV.1 h with rfl | h
  .exact zD
  .exact zR _ (sf_ l _ x h)
theorem ms_ {q:QeaT} (F:Fct q):∃s:Nat,q.start=(s:Int)∧s<q.states.length:=by obtain⟨s,hs⟩:=zA F.st.1;exact⟨s,hs,by have:=F.st.2;omega⟩
theorem ml13 {q:QeaT} (F:Fct q):(m_ q).length=q.states.length:=by obtain⟨s,hs,_⟩:=ms_ F;unfold m_;rw[hs,tm11];exact ml_ _ _ _
theorem mk_is {q:QeaT} (F:Fct q) (i:Nat):(m_ q)[i]?=some true↔Rch (e20 q) q.start.toNat i:=by obtain⟨s,hs,hl⟩:=ms_ F;unfold m_;rw[hs,tm11,zP];refine mi10 hl (λe he=>?_) i;obtain⟨t,ht,rfl⟩:=zI.1 he;have:=(to11 F t ht).2;show t.to_.toNat<_;omega
theorem mk_s {q:QeaT} (F:Fct q):(m_ q)[q.start.toNat]?=some true:=(mk_is F _).2 .refl
theorem mk_to {q:QeaT} (F:Fct q) {t:TransT} (ht:t∈q.trans) (h:(m_ q)[t.from_.toNat]?=some true):(m_ q)[t.to_.toNat]?=some true:=by rw[mk_is F] at h ⊢;exact .step h (zI.2 ⟨t,ht,rfl⟩)
theorem so_ {q:QeaT} (F:Fct q):∀x∈segK q,(0<=x.1.symbol∧x.1.symbol<q.symbols.length)∧0<=x.2∧(m_ q)[x.1.from_.toNat]?=some true∧(m_ q)[x.1.to_.toNat]?=some true:=λx hx=>by
 obtain⟨h1,h2⟩:=yP.1 hx;obtain⟨g0,g1,_⟩:=F.tx x h1;have h3:(m_ q)[x.1.from_.toNat]?=some true:=by simpa [onM] using h2
 exact⟨g1.hs,g0,h3,mk_to F (sf_ _ _ _ h1) h3⟩
theorem ao13 {q:QeaT} {a:ArgT} {k:Int} (h:argS q a k=true):A11 q a:=by
 unfold argS at h;refine⟨λe=>?_,λe=>?_⟩
 .rw[zK (by omega),zY e] at h;cases hx:at? q.quants a.n with
  | none=>rw[hx] at h;cases h
  | some y=>exact⟨y,rfl⟩
 .rw[zK (by omega),zK (by omega),zY e] at h;cases hx:at? q.frees a.n with
  | none=>rw[hx] at h;cases h
  | some y=>exact⟨y,rfl⟩
theorem sm15 {q:QeaT} {s:SymT} (h:symS q s=true):∀a∈s.args,∃k,argS q a k=true:=λa ha=>by obtain⟨i,d,h1,h2,h3,h4⟩:=sa10 h;obtain⟨j,hj⟩:=zM ha;have:=(zX.1 hj).1;obtain⟨k,hk,_⟩:=as10 (l:=d.types) (i:=j) (by omega);exact⟨k,h4 j a k hj hk⟩
theorem so16 {q:QeaT} {s:SymT} (h:symS q s=true) (hl:s.args.length<=1000):S12 q s:=by obtain⟨i,d,h1,h2,_⟩:=sa10 h;exact⟨⟨d,by rw[h1];exact at?_nat h2⟩,hl,λa ha=>(sm15 h a ha).elim λk hk=>ao13 hk⟩
theorem no_ {q:QeaT} (hq:q.nodes.length<=1000) {j:Nat} {x:NodeT} {e:ExT} (hx:q.nodes[j]?=some x) (he:(e11 q)[j]?=some e) (hk:e.kind≠0):N10 q x∧1<=x.op:=by
 have hj:=(zX.1 hx).1;cases nd_ok hx he hk with
 | leaf h=>
  unfold l_ at h;by_cases h1:x.op=1
  .exact⟨⟨λe=>by omega,λe=>by omega,λe=>by omega⟩,by omega⟩
  .rw[zK h1] at h;by_cases h2:x.op=2
   .rw[zY h2] at h;refine⟨⟨λ_ =>?_,λe=>by omega,λe=>by omega⟩,by omega⟩;split at h
    .cases hh:at? q.quants x.a with
     | none=>rw[hh] at h;cases h
     | some y=>exact⟨y,rfl⟩
    .cases h
   .rw[zK h2] at h;by_cases h3:x.op=3
    .rw[zY h3] at h;refine⟨⟨λe=>by omega,λ_ =>?_,λe=>by omega⟩,by omega⟩;split at h
     .cases hh:at? q.frees x.a with
      | none=>rw[hh] at h;cases h
      | some y=>exact⟨y,rfl⟩
     .cases h
    .rw[zK h3] at h;cases h
 | one h1 hv ha hb b hj0 hbx hbk hee=>exact⟨⟨λe=>by omega,λe=>by omega,λe=>by omega⟩,by omega⟩
 | two h1 hv hb b hj0 hbx hbk a k hak hkb hax hka hee=>
  have:=ex_lt hax;exact⟨⟨λe=>by omega,λe=>by omega,λe=>by omega⟩,by omega⟩
theorem si11 {q:QeaT}:∀(r:List SetT) (o:List Int) {a:Int},SetsOkQ q o a r->∀s∈r,(0<=s.expr∧s.expr<q.nodes.length)∧∃f,at? q.frees s.free=some f
 | [],_,_,_,s,hs=>by cases hs
 | x::r,o,a,h,s,hs=>by
  cases h with
  | cons f hf hn hw h=>
   rcases yV.1 hs with rfl | hs
   .obtain⟨i,e,h1,h2,_⟩:=we_ hw;have:=ex_lt h2;exact⟨by omega,f,hf⟩
   .exact si11 r _ h s hs
theorem to26 {q:QeaT} (F:Fct q) (W:Fw q) {x:TransT×Int} (hx:x∈segs q.trans 0):TrW q x.1 x.2:=by
 obtain⟨h0,hi,_⟩:=F.tx x hx;have hk:=to13 F hx;have hn:=W.nl;have hle:=hi.hle;have hub:=hi.hub;obtain⟨y,hy⟩:=at?_in hi.hs.1 hi.hs.2;obtain⟨j,hj,hyj⟩:=at?_some hy;have hym:=zG hyj;refine⟨at?_in hi.hf.1 hi.hf.2,at?_in hi.ht.1 hi.ht.2,⟨y,hy,so16 (F.ys y hym) (by have:=W.ya y hym;omega)⟩,hi.hg.imp id (λh=>h.1),?_,by have:=W.ta _ (sf_ _ _ _ hx);omega,λs hs=>?_,⟨h0,by omega⟩,⟨hle,hub⟩,λz hz=>?_⟩
 .rcases hk.gd with h | h
  .rw[h];exact⟨by omega,by omega⟩
  .obtain⟨i,e,h1,h2,_⟩:=we_ h;have:=ex_lt h2;exact⟨by omega,by omega⟩
 .obtain⟨h1,h2⟩:=si11 _ _ hk.st s hs;exact⟨⟨by omega,by omega⟩,h2⟩
 .obtain⟨i,h1,h2,h3⟩:=mm13 h0 hz;obtain⟨e,e1,e2,_⟩:=hk.bk.at_ i h2 h3;exact no_ (by omega) h1 e1 e2
theorem wo11 {q:QeaT} (F:Fct q) (W:Fw q):WrOk q:=by obtain⟨w1,w2,w3,w4,w5,w6,w7,w8,w9,w10⟩:=id W;refine⟨by omega,by omega,by omega,⟨by omega,by omega,by omega,by omega⟩,λd hd=>by have:=w8 d hd;omega,at?_in F.st.1 F.st.2,λs hs=>so16 (F.ys s hs) (by have:=w9 s hs;omega),λx hx=>to26 F W hx,λt ht=>?_⟩;obtain⟨a,_,_,h⟩:=ta38 F ht;exact h.hs
theorem ed10 {q:QeaT}:∀(r:Nat) (e:ExT),(e11 q)[r]?=some e->e.kind≠0->1<=e.depth∧e.depth<=(r:Int) - e.from_+1:=by
 intro r
 induction r using Nat.strongRecOn with
 | _ r ih=>
 intro e he hk;obtain⟨x,hx,_⟩:=as10 (l:=q.nodes) (i:=r) (ex_lt he);cases nd_ok hx he hk with
 | leaf h=>
  have h1:=lo_ h;rw[h1.1,h1.2];omega
 | one g1 hv ha hb b hj hbx hbk hee=>
  subst hee;have:=ih (r - 1) (by omega) b hbx hbk;simp only;omega
 | two g1 hv hb b hj hbx hbk a k hak hkb hax hka hee=>
  subst hee;have f1:=ex_fr hax hka;have f2:=ex_fr hbx hbk;have h1:=ih (r - 1) (by omega) b hbx hbk;have h2:=ih k (by omega) a hax hka;simp only;omega
def exAt (q:QeaT) (i:Nat):ExT:=((e11 q)[i]?).getD e0
theorem ei_ {q:QeaT} {i:Nat} {e:ExT} (h:(e11 q)[i]?=some e):exAt q i=e:=by unfold exAt;rw[h];rfl
def szB (q:QeaT) (A j:Nat):Int:=((A+j:Nat):Int) - (exAt q (A+j)).from_+1
def dpB (q:QeaT) (A j:Nat):Int:=(exAt q (A+j)).depth
theorem nl13 {q:QeaT} (F:Fct q) {i:Nat} {x:NodeT} {e:ExT} (h:l_ q i x=some e) (b:Int):T12 (n14 q b x):=by
 unfold l_ at h;unfold n14;by_cases h1:x.op=1
 .rw[zY h1] at h;rw[zY h1];split at h
  .rename_i hh;exact⟨rfl,rfl,.inl ⟨rfl,rfl,hh.2.2⟩⟩
  .cases h
 .rw[zK h1] at h;rw[zK h1];by_cases h2:x.op=2
  .rw[zY h2] at h;rw[zY h2];split at h
   .cases hh:at? q.quants x.a with
    | none=>rw[hh] at h;cases h
    | some y=>
     obtain⟨k,_,hk⟩:=at?_some hh;exact⟨rfl,rfl,.inr ⟨rfl,rfl,(F.qx y (zG hk)).1⟩⟩
   .cases h
  .rw[zK h2] at h;rw[zK h2];by_cases h3:x.op=3
   .rw[zY h3] at h;rw[zY h3];split at h
    .cases hh:at? q.frees x.a with
     | none=>rw[hh] at h;cases h
     | some y=>
      obtain⟨k,_,hk⟩:=at?_some hh;exact⟨rfl,rfl,.inr ⟨rfl,rfl,(F.fx y (zG hk)).1⟩⟩
    .cases h
   .rw[zK h3] at h;cases h
theorem sb11 {q:QeaT} (F:Fct q) {A B:Nat} (h:BlkOk q A B):SzOk ((mid q.nodes A B).map (n14 q A)) (szB q A) (dpB q A):=by
 have hl:=ml10 (l:=q.nodes) h.h0 h.h1 h.h2;refine⟨λj hj=>?_,λj x hx=>?_⟩
 .rw[zQ] at hj;obtain⟨e,e1,e2,e3⟩:=h.at_ (A+j) (by omega) (by omega);have f:=ex_fr e1 e2;have d:=ed10 _ _ e1 e2;unfold szB dpB;rw[ei_ e1];omega
 .rw[zS] at hx;cases hy:(mid q.nodes A B)[j]? with
  | none=>rw[hy] at hx;cases hx
  | some y=>
   rw[hy] at hx;cases hx;have hj:=(zX.1 hy).1;have hn:q.nodes[A+j]?=some y:=by
    unfold mid at hy;rw[yN] at hy;split at hy
    .rw[xX] at hy;simpa using hy
    .cases hy
   obtain⟨e,e1,e2,e3⟩:=h.at_ (A+j) (by omega) (by omega);have s0:szB q A j=((A+j:Nat):Int) - e.from_+1:=by unfold szB;rw[ei_ e1]
   have d0:dpB q A j=e.depth:=by unfold dpB;rw[ei_ e1]
   cases nd_ok hn e1 e2 with
   | leaf hlf=>
    have h1:=lo_ hlf;exact .lone (nl13 F hlf _) (by rw[s0,h1.2];omega) (by rw[d0,h1.1])
   | one g1 hv ha hb b hj0 hbx hbk hee=>
    subst hee;have f:=ex_fr hbx hbk;simp only at e3 s0 d0;have hjp:0<j:=by omega
    have e4:A+j - 1=A+(j - 1):=by omega
    rw[e4] at hbx;have s1:szB q A (j - 1)=((A+(j - 1):Nat):Int) - b.from_+1:=by unfold szB;rw[ei_ hbx]
    have d1:dpB q A (j - 1)=b.depth:=by unfold dpB;rw[ei_ hbx]
    have hN:n14 q A y=⟨y.op,y.a - A,0,[],v0⟩:=by unfold n14;rw[zK (by omega),zK (by omega),zK (by omega),zY g1]
    rw[hN];exact .one g1 rfl rfl hjp (by simp only;omega) rfl (by rw[s0,s1];omega) (by rw[d0,d1])
   | two g1 hv hb b hj0 hbx hbk a k hak hkb hax hka hee=>
    subst hee;have f1:=ex_fr hbx hbk;have f2:=ex_fr hax hka;simp only at e3 s0 d0;obtain⟨m,rfl⟩:∃m,k=A+m:=⟨k - A,by omega⟩;have hjp:0<j:=by omega
    have e4:A+j - 1=A+(j - 1):=by omega
    rw[e4] at hbx;have s1:szB q A (j - 1)=((A+(j - 1):Nat):Int) - b.from_+1:=by unfold szB;rw[ei_ hbx]
    have d1:dpB q A (j - 1)=b.depth:=by unfold dpB;rw[ei_ hbx]
    have s2:szB q A m=((A+m:Nat):Int) - a.from_+1:=by unfold szB;rw[ei_ hax]
    have d2:dpB q A m=a.depth:=by unfold dpB;rw[ei_ hax]
    have hN:n14 q A y=⟨y.op,y.a - A,y.b - A,[],v0⟩:=by unfold n14;rw[zK (by omega),zK (by omega),zK (by omega),zK (by omega)]
    rw[hN];exact .two g1 rfl rfl hjp (by simp only;omega) m (by simp only;omega) (by rw[s1];omega) (by rw[s0,s1,s2];omega) (by rw[d0,d1,d2])
theorem wo_ {q:QeaT} {A n:Nat} {a r k:Int} (ha:(A:Int)<=a) (hr:r<((A+n:Nat):Int)) (h:w_ (e11 q) a r k=true):W_ n (szB q A) (dpB q A) (a - A) (r - A):=by
 obtain⟨i,e,rfl,he,_,_,hf,har,hd⟩:=we_ h;obtain⟨j,rfl⟩:∃j,i=A+j:=⟨i - A,by omega⟩;refine⟨j,by omega,by omega,by omega,by omega,?_,?_⟩
 .unfold szB;rw[ei_ he];omega
 .unfold dpB;rw[ei_ he];exact hd
theorem so12 {q:QeaT} (F:Fct q) {A n:Nat}:∀(r:List SetT) (o:List Int) {a:Int},(A:Int)<=a->a<=q.nodes.length->SetsOkQ q o a r->endS r a<=((A+n:Nat):Int)->SetsT n (szB q A) (dpB q A) (a - A) (r.map (setT q A)) (endS r a - A)
 | [],_,a,_,_,_,_ =>.nil _
 | s::r,o,a,ha,hal,h,hb=>by
  cases h with
  | cons f hf hn hw h=>
   have w:=wi10 hw;rw[el10] at w;have hbk:=(sb_ r _ (a:=s.expr+1) (by omega) (by omega) h).h1;rw[ec11] at hb ⊢;obtain⟨k,_,hk⟩:=at?_some hf;have hnm:n12 (setT q A s).name=true:=by show n12 (f17 q s.free)=true;unfold f17;rw[hf];exact (F.fx f (zG hk)).1
   have ih:=so12 F r _ (a:=s.expr+1) (by omega) (by omega) h hb;rw[show s.expr+1 - (A:Int)=(setT q A s).expr+1 from by show _ =s.expr - (A:Int)+1;omega] at ih;exact .cons hnm (wo_ ha (by omega) hw) ih
theorem to25 {q:QeaT} (F:Fct q) {a:ArgT} {k:Int} (h:argS q a k=true):T11 (argT q a):=by
 unfold argS at h;unfold argT;by_cases h1:a.kind=1
 .rw[zY h1] at h ⊢;simp only[zJ,zB] at h;exact .inl ⟨rfl,rfl,h.2.1⟩
 .rw[zK h1] at h ⊢;by_cases h2:a.kind=2
  .rw[zY h2] at h ⊢;cases hx:at? q.quants a.n with
   | none=>rw[hx] at h;cases h
   | some y=>
    obtain⟨i,_,hi⟩:=at?_some hx;exact .inr (.inl ⟨rfl,(F.qx y (zG hi)).1,rfl⟩)
  .rw[zK h2] at h ⊢;by_cases h3:a.kind=3
   .rw[zY h3] at h ⊢;cases hx:at? q.frees a.n with
    | none=>rw[hx] at h;cases h
    | some y=>
     obtain⟨i,_,hi⟩:=at?_some hx;exact .inr (.inl ⟨rfl,(F.fx y (zG hi)).1,rfl⟩)
   .rw[zK h3];exact .inr (.inr ⟨rfl,rfl,rfl⟩)
theorem to19 {q:QeaT} (F:Fct q) {s:SymT} (h:symS q s=true) (hl:s.args.length<=1000):T10 (symT q s):=by
 obtain⟨i,d,h1,h2,_⟩:=sa10 h;refine⟨?_,by unfold symT;simpa using hl,λa ha=>?_⟩
 .show n12 (d15 q s.event)=true;unfold d15;rw[h1,at?_nat h2];exact (F.dx d (zG h2)).1
 .obtain⟨b,hb,rfl⟩:=zI.1 (show a∈s.args.map (argT q) from ha);obtain⟨k,hk⟩:=sm15 h b hb;exact to25 F hk
theorem so11 {q:QeaT} (F:Fct q) {n:Int} (h:0<=n∧n<(q.states.length:Int)):n12 (s24 q n)=true:=by obtain⟨x,hx⟩:=at?_in h.1 h.2;obtain⟨i,_,hi⟩:=at?_some hx;unfold s24;rw[hx];exact F.sx x (zG hi)
theorem so24 {q:QeaT} (F:Fct q) (W:Fw q) {n:Int} (h:0<=n∧n<(q.symbols.length:Int)):T10 (s36 q n):=by obtain⟨x,hx⟩:=at?_in h.1 h.2;obtain⟨i,_,hi⟩:=at?_some hx;have hm:=zG hi;unfold s36;rw[hx];exact to19 F (F.ys x hm) (by have:=W.ya x hm;omega)
theorem to24 {q:QeaT} (F:Fct q) (W:Fw q) {x:TransT×Int} (hx:x∈segs q.trans 0):TTrOk (trT q x):=by
 obtain⟨h0,hi,_⟩:=F.tx x hx;have hk:=to13 F hx;have hle:=hi.hle;have hub:=hi.hub;have hnl:=W.nl;obtain⟨t,a⟩:=x;dsimp only at h0 hi hk hle hub;obtain⟨A,rfl⟩:=zA h0;obtain⟨B,hB⟩:=zA (show 0<=endT t (A:Int) by omega);have hml:=ml10 (l:=q.nodes) h0 hle hub;have hlen:(trT q (t,(A:Int))).nodes.length=B - A:=by show ((mid q.nodes (A:Int) (endT t (A:Int))).map _).length=_;rw[zQ];omega
 refine⟨so11 F hi.hf,so11 F hi.ht,so24 F W hi.hs,by rw[hlen];omega,?_,szB q A,dpB q A,?_,?_,?_⟩
 .show (t.sets.map _).length<=1000;have:=W.ta _ (sf_ _ _ _ hx);rw[zQ];dsimp only at this;omega
 .have hbk:=hk.bk;rw[hB] at hbk;have:=sb11 F hbk;rw[<-hB] at this;exact this
 .show (if t.guard= -1 then -1 else t.guard - (A:Int))= -1∨W_ (trT q (t,(A:Int))).nodes.length (szB q A) (dpB q A) 0 (if t.guard= -1 then -1 else t.guard - (A:Int));rw[hlen];by_cases hg:t.guard= -1
  .left;rw[zY hg]
  .right;rw[zK hg];have hw:=hk.gd.resolve_left hg;have hst:=hk.st;rw[zK hg] at hst;have w:=wi10 hw;rw[el10] at w;have hbk:=(sb_ t.sets _ (a:=t.guard+1) (by omega) (by omega) hst).h1;have he:endT t (A:Int)=endS t.sets (t.guard+1):=by unfold endT;rw[zK hg]
   have:=wo_ (A:=A) (n:=B - A) (xI _) (by omega) hw;rw[Int.sub_self] at this;exact this
 .show SetsT (trT q (t,(A:Int))).nodes.length (szB q A) (dpB q A) (if (if t.guard= -1 then -1 else t.guard - (A:Int))= -1 then 0 else (if t.guard= -1 then -1 else t.guard - (A:Int))+1) (t.sets.map (setT q A)) ((trT q (t,(A:Int))).nodes.length:Nat);rw[hlen];have hst:=hk.st;by_cases hg:t.guard= -1
  .rw[zY hg] at hst;rw[zY (by rw[zY hg])];have he:endT t (A:Int)=endS t.sets (A:Int):=by unfold endT;rw[zY hg]
   have:=so12 F (A:=A) (n:=B - A) t.sets _ (xI _) (by omega) hst (by omega);rw[Int.sub_self,<-he,hB,show (B:Int) - (A:Int)=((B - A:Nat):Int) by omega] at this;exact this
  .rw[zK hg] at hst;have hw:=hk.gd.resolve_left hg;have w:=wi10 hw;rw[el10] at w;rw[zK (by rw[zK hg];omega),zK hg];have he:endT t (A:Int)=endS t.sets (t.guard+1):=by unfold endT;rw[zK hg]
   have:=so12 F (A:=A) (n:=B - A) t.sets _ (a:=t.guard+1) (by omega) (by omega) hst (by omega);rw[<-he,hB,show (B:Int) - (A:Int)=((B - A:Nat):Int) by omega,show t.guard+1 - (A:Int)=t.guard - (A:Int)+1 by omega] at this;exact this
theorem am13 {ts:List TTrT}:∀(gone:List TTrT) (own:List TSymT) (x:TSymT),x∈a24 own ts gone->x∈own∨∃g∈gone,x=g.on
 | [],_,_,h=>.inl h
 | g::gone,own,x,h=>by
  rcases am13 gone (a11 ts own g) x h with h | ⟨y,hy,e⟩
  .unfold a11 at h;split at h
   .rcases yB.1 h with h | h
    .exact .inl h
    .exact .inr ⟨g,zD,yZ.1 h⟩
   .exact .inl h
  .exact .inr ⟨y,zR _ hy,e⟩
theorem rl14 (n:Nat) (ks:List Nat):(r13 n ks).length<=n:=by have:=xH (λx=>decide (x∉ks)) (List.range n);rw[xE] at this;exact this
theorem om10 {q:QeaT} {s:TSymT} (h:s∈(t19 q).also):∃y∈q.symbols,s=symT q y:=by obtain⟨k,hk,rfl⟩:=zI.1 h;have hl:=(rm_.1 hk).1;obtain⟨y,hy,hm⟩:=as10 hl;exact⟨y,hm,sa12 hy⟩
theorem tm10 {q:QeaT} {x:TTrT} (h:x∈(t19 q).trans):∃y∈segs q.trans 0,x=trT q y:=by obtain⟨y,hy,e⟩:=zI.1 h;exact⟨y,hy,e.symm⟩
theorem tl11 (q:QeaT):(t19 q).trans.length=q.trans.length∧(t19 q).also.length<=q.symbols.length:=by
 refine⟨?_,?_⟩
 .show ((segs q.trans 0).map _).length=_;rw[zQ,sl11]
 .show ((r13 _ _).map _).length<=_;rw[zQ];exact rl14 _ _
theorem sa17 {q:QeaT} (W:Fw q) {n:Int}:(s36 q n).args.length<=12:=by
 unfold s36;cases hx:at? q.symbols n with
 | none=>exact wC _
 | some s=>
  obtain⟨i,_,hi⟩:=at?_some hx;have:=W.ya s (zG hi);show (s.args.map _).length<=12;rw[zQ];exact this
theorem to18 {q:QeaT} (F:Fct q) (W:Fw q) (st:List Str):TreeOk (cutT st (t19 q)):=by
 obtain⟨l1,l2⟩:=tl11 q;obtain⟨w1,w2,w3,w4,w5,w6,w7,w8,w9,w10⟩:=id W;have hf:∀p:TTrT->Bool,((t19 q).trans.filter p).length<=12:=λp=>by have:=xH p (t19 q).trans;omega
 have hsf:∀p:StateT->Bool,(q.states.filter p).length<=12:=λp=>by have:=xH p q.states;omega
 have hon:∀x∈(t19 q).trans,T10 x.on:=λx hx=>by obtain⟨y,hy,rfl⟩:=tm10 hx;exact (to24 F W hy).ho
 refine⟨F.nm,so11 F F.st,⟨by show q.decls.length<=_;omega,by show q.quants.length<=_;omega,by show q.frees.length<=_;omega,?_,?_,?_⟩,λd hd=>?_,λx hx=>F.qx x hx,λx hx=>F.fx x hx,λx hx=>?_,λx hx=>?_,λx hx=>?_⟩
 .have:=hsf λx=>st.any λy=>x.name==y;show (q.states.filter _).length<=_;omega
 .have h1:=al13 ((t19 q).trans.filter λx=>st.any λy=>x.from_==y) ((t19 q).trans.filter λx=>!st.any λy=>x.from_==y) (t19 q).also;have h2:=hf λx=>!st.any λy=>x.from_==y;show (a24 _ _ _).length<=_;omega
 .have:=hf λx=>st.any λy=>x.from_==y;show ((t19 q).trans.filter _).length<=_;omega
 .have h1:=F.dx d hd;have h2:=w8 d hd;exact⟨h1.1,h1.2.2,by omega⟩
 .exact F.sx x (yP.1 (show x∈q.states.filter _ from hx)).1
 .rcases am13 _ _ _ (show x∈a24 _ _ _ from hx) with h | ⟨g,hg,rfl⟩
  .obtain⟨y,hy,rfl⟩:=om10 h;exact to19 F (F.ys y hy) (by have:=w9 y hy;omega)
  .exact hon g (yP.1 hg).1
 .obtain⟨y,hy,rfl⟩:=tm10 (yP.1 (show x∈(t19 q).trans.filter _ from hx)).1;exact to24 F W hy
