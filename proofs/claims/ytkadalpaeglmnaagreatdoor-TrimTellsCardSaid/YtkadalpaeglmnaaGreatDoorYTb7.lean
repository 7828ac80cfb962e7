/-
  Lemmas. No claim is proved here.
-/
import Derived.Test.YtkadalpaeglmnaaGreatDoorYTa7
set_option linter.unusedSimpArgs false
namespace Go.Proofs.YtkadalpaeglmnaaGreatDoor.Ab
open Go Go.RowKit
theorem mm10 {q:QeaT} (hy:q.symbols.Nodup) {a:List Nat} (ha:∀x∈a,x<q.symbols.length) {k:Nat} (hk:k<q.symbols.length):symD q k∈a.map (symD q)↔k∈a:=by
 constructor
 ·intro h;obtain⟨x,hx,e⟩:=zI.1 h;have hxl:=ha x hx;unfold symD at e;rw[zY hxl,zY hk] at e;have h1:=wQ hy x hxl;have h2:=wQ hy k hk;have e2:q.symbols[x]=q.symbols[k]:=e;rw[e2,h2] at h1;rw[h1];exact hx
 ·exact fun h=>zI.2 ⟨k,h,rfl⟩
theorem pm13 {q:QeaT} (hy:q.symbols.Nodup) {a:List Nat} (ha:∀x∈a,x<q.symbols.length) {k:Nat} (hk:k<q.symbols.length):putY (a.map (symD q)) (symD q k)=(dd a [k]).map (symD q):=by
 unfold putY;show _ =(if k∈a then dd a [] else dd (a++[k]) []).map (symD q);by_cases h:k∈a
 ·rw[zG ((mm10 hy ha hk).2 h),zG h];rfl
 ·rw[zF (fun e=>h ((mm10 hy ha hk).1 e)),zF h];show _ =(a++[k]).map (symD q);rw[zR];rfl
theorem pa11 {q:QeaT} (hy:q.symbols.Nodup):∀(l:List Nat) (a:List Nat),(∀x∈a,x<q.symbols.length)→(∀x∈l,x<q.symbols.length)→(l.map (symD q)).foldl putY (a.map (symD q))=(dd a l).map (symD q)
 | [],a,_,_ =>rfl
 | k::l,a,ha,hl=>by
  have hk:=hl k yX;rw[yV,xU,pm13 hy ha hk];have e:dd a (k::l)=dd (dd a [k]) l:=dc_ [k] l a;rw[e];refine pa11 hy l _ (fun x hx=>?_) fun x hx=>hl x (zD _ hx);rcases (dm_ _ _ _).1 hx with h | h
  ·exact ha x h
  ·rw[yP.1 h];exact hk
theorem ds13:∀(a o:List Nat),(o++a).Nodup→dd o a=o++a
 | [],o,_ =>(xW o).symm
 | x::a,o,h=>by
  have hx:x∉o:=fun e=>by have:=(xD.1 h).2.2 x e x yX;exact this rfl
  show (if x∈o then dd o a else dd (o++[x]) a)=_;rw[zF hx,ds13 a (o++[x]) (by rw[yI];exact h),yI];rfl
theorem im10 {q:QeaT} (hy:q.symbols.Nodup):∀{a:List Nat},(∀x∈a,x<q.symbols.length)→∀{k:Nat},k<q.symbols.length→(a.map (symD q)).idxOf (symD q k)=a.idxOf k
 | [],_,_,_ =>rfl
 | x::a,ha,k,hk=>by
  rw[yV,List.idxOf_cons,List.idxOf_cons,im10 hy (fun y hy=>ha y (zD _ hy)) hk];have h1:=mm10 hy (a:=[x]) (fun y h=>ha y (by rw[yP.1 h];exact yX)) hk;simp only[yV,yF,yP] at h1;by_cases e:k=x
  ·subst e;simp
  ·have e2:symD q x≠symD q k:=fun h=>e (h1.1 h.symm);have e3:(x==k)=false:=by simp;exact fun h=>e h.symm
   have e4:(symD q x==symD q k)=false:=by simpa using e2
   rw[e3,e4]
theorem di_ {a:List Nat} {k:Nat} (r:List Nat):(dd a (k::r)).idxOf k=a.idxOf k:=by
 by_cases h:k∈a
 ·obtain⟨t,ht⟩:=da_ (k::r) a;rw[ht,List.idxOf_append,zG h]
 ·show (if k∈a then dd a r else dd (a++[k]) r).idxOf k=_;rw[zF h];obtain⟨t,ht⟩:=da_ r (a++[k]);rw[ht,yI];show (a++k::t).idxOf k=_;rw[im_ h,List.idxOf_eq_length h]
theorem sa20 {q:QeaT} {t:TransT} (h:0≤t.symbol∧t.symbol<q.symbols.length):symG q t.symbol=symD q t.symbol.toNat:=by
 obtain⟨k,hk⟩:=zS h.1;unfold symG symD;have e:at? q.symbols (k:Int)=q.symbols[k]? :=by unfold at?;rw[zG (vD k),zA]
 rw[hk,zA,e];cases q.symbols[k]? <;> rfl
theorem sf10 {q:QeaT} (hy:q.symbols.Nodup) {ix:Int→Nat} {on:Int→Bool} {nw:Int→Int} {P:List Nat}:∀(K:List (TransT×Int)) (a:List Nat) (ns:List NodeT) (ts:List TransT),(∀x∈a,x<q.symbols.length)→
  (∀x∈K,(0≤x.1.symbol∧x.1.symbol<q.symbols.length)∧0≤x.2∧on x.1.from_=true∧nw x.1.from_=(ix x.1.from_:Int)∧nw x.1.to_=(ix x.1.to_:Int))→dd a (K.map fun x=>x.1.symbol.toNat)=P→
  K.foldl (s15 q ix) (a.map (symD q),ns,ts.map (reT P))=(P.map (symD q),(K.foldl (t12 on nw q.nodes) (ns,ts)).1,(K.foldl (t12 on nw q.nodes) (ns,ts)).2.map (reT P))
 | [],a,ns,ts,_,_,hP=>by have hP:a=P:=hP;subst hP;rfl
 | (t,b)::K,a,ns,ts,ha,h,hP=>by
  obtain⟨hs,hb,ho,h1,h2⟩:=h _ yX;dsimp only at hs hb ho h1 h2;obtain⟨k,hk⟩:=zS hs.1;have hkl:k<q.symbols.length:=by omega
  have hP0:dd a (k::K.map fun x=>x.1.symbol.toNat)=P:=by rw[←hP,yV];simp [hk]
  have hP1:dd (dd a [k]) (K.map fun x=>x.1.symbol.toNat)=P:=by rw[←hP0];exact (dc_ [k] _ a).symm
  have hidx:(a.map (symD q)).idxOf (symD q k)=P.idxOf k:=by rw[im10 hy ha hkl,←hP0,di_]
  have e1:t12 on nw q.nodes (ns,ts) (t,b)=(ns++(mid q.nodes b (endT t b)).map (m10 (b - ns.length)),ts++[⟨nw t.from_,t.symbol,nw t.to_,if t.guard= -1 then -1 else t.guard - (b - ns.length),t.sets.map fun s=>⟨s.free,s.expr - (b - ns.length)⟩⟩]):=by unfold t12;rw[zG ho]
  have e2:s15 q ix (a.map (symD q),ns,ts.map (reT P)) (t,b)=((dd a [k]).map (symD q),ns++(mid q.nodes b (endT t b)).map (m10 (b - ns.length)),(ts++[(⟨nw t.from_,t.symbol,nw t.to_,if t.guard= -1 then -1 else t.guard - (b - ns.length),t.sets.map fun s=>⟨s.free,s.expr - (b - ns.length)⟩⟩:TransT)]).map (reT P)):=by unfold s15;dsimp only;rw[sa20 hs,hk,zA,pm13 hy ha hkl,zR,wY];unfold trN nsK reT;dsimp only;rw[hidx,h1,h2,zA,Int.toNat_of_nonneg hb];rfl
  rw[xU,xU,e1,e2];refine sf10 hy K (dd a [k]) _ _ (fun x hx=>?_) (fun x hx=>h x (zD _ hx)) hP1;rcases (dm_ _ _ _).1 hx with h | h
  ·exact ha x h
  ·rw[yP.1 h];exact hkl
theorem tf_ {on:Int→Bool} {nw:Int→Int} {ns:List NodeT}:∀(l:List (TransT×Int)) (acc:List NodeT×List TransT),l.foldl (t12 on nw ns) acc=(l.filter fun x=>on x.1.from_).foldl (t12 on nw ns) acc
 | [],_ =>rfl
 | x::l,acc=>by
  rw[xU,List.filter_cons];cases h:on x.1.from_ with
  | true=>rw[zG rfl,xU];exact tf_ l _
  | false=>
   rw[zF (by simp),show t12 on nw ns acc x=acc by unfold t12;rw[zF (by rw[h];simp)]];exact tf_ l acc
theorem dd_:∀(r o p:List Nat),(∀x∈r,x∉o)→dd (o++p) r=o++dd p r
 | [],o,p,_ =>rfl
 | x::r,o,p,h=>by
  have hx:=h x yX;have hr:∀y∈r,y∉o:=fun y hy=>h y (zD _ hy);unfold dd;by_cases hp:x∈p
  ·rw[zG hp,zG (uS _ hp)];exact dd_ r o p hr
  ·rw[zF hp,zF (fun hh=>(yB.1 hh).elim hx hp),yI];exact dd_ r o (p++[x]) hr
def g_ (ks o:List Nat) (x:Nat):List Nat:=if x∈ks∨x∈o then o else o++[x]
theorem ga_ {α:Type} (f:α→Nat) (g:α→Bool) (ks:List Nat):∀(l:List α) (o:List Nat),(∀x∈l,g x=false→f x∈ks)→
  (dd o (l.map f)).filter (fun x=>decide (x∉ks))=((l.filter g).map f).foldl (g_ ks) (o.filter fun x=>decide (x∉ks))
 | [],o,_ =>rfl
 | x::l,o,h=>by
  have hl:∀y∈l,g y=false→f y∈ks:=fun y hy=>h y (zD _ hy);rw[yV];unfold dd;have hnk:f x∈ks→(o++[f x]).filter (fun x=>decide (x∉ks))=o.filter fun x=>decide (x∉ks):=fun hk=>by rw[wA];simp [hk]
  cases hg:g x with
  | false=>
   have hk:=h x yX hg;rw[List.filter_cons_of_neg (by simp [hg])];split
   ·exact ga_ f g ks l o hl
   ·rw[ga_ f g ks l (o++[f x]) hl,hnk hk]
  | true=>
   rw[List.filter_cons_of_pos hg,yV,xU];by_cases hk:f x∈ks
   ·rw[show g_ ks (o.filter fun x=>decide (x∉ks)) (f x)=o.filter fun x=>decide (x∉ks) from zG (.inl hk)];split
    ·exact ga_ f g ks l o hl
    ·rw[ga_ f g ks l (o++[f x]) hl,hnk hk]
   ·by_cases ho:f x∈o
    ·rw[zG ho,show g_ ks (o.filter fun x=>decide (x∉ks)) (f x)=o.filter fun x=>decide (x∉ks) from zG (.inr (yG.2 ⟨ho,by simp [hk]⟩))];exact ga_ f g ks l o hl
    ·rw[zF ho,ga_ f g ks l (o++[f x]) hl];congr 1;rw[show g_ ks (o.filter fun x=>decide (x∉ks)) (f x)=(o.filter fun x=>decide (x∉ks))++[f x] from zF (fun hh=>hh.elim hk fun h9=>ho (yG.1 h9).1),wA];simp [hk]
theorem gp10 {α:Type} {f:α→Nat} {g:α→Bool} {n:Nat} {l:List α} (hd:dd [] (l.map f)=List.range' (n - (dd [] (l.map f)).length) (dd [] (l.map f)).length) (hn:(dd [] (l.map f)).length≤n):
  ((l.filter g).map f).foldl (g_ ((l.filter fun x=>!g x).map f)) (List.range (n - (dd [] (l.map f)).length))=(List.range n).filter fun x=>decide (x∉(l.filter fun x=>!g x).map f):=by
 generalize hks:(l.filter fun x=>!g x).map f=ks;have hm:∀x,x∈l.map f→n - (dd [] (l.map f)).length≤x:=fun x hx=>by have h1:=(dm_ (l.map f) [] x).2 (.inr hx);rw[hd] at h1;exact (List.mem_range'_1.1 h1).1
 have hk:∀x∈ks,x∈l.map f:=fun x hx=>by rw[←hks] at hx;obtain⟨y,hy,rfl⟩:=zI.1 hx;exact List.mem_map_of_mem (yG.1 hy).1
 have h:=ga_ f g ks l (List.range (n - (dd [] (l.map f)).length)) fun x hx hg=>by rw[←hks];exact List.mem_map_of_mem (yG.2 ⟨hx,by simp [hg]⟩)
 have e1:(List.range (n - (dd [] (l.map f)).length)).filter (fun x=>decide (x∉ks))=List.range (n - (dd [] (l.map f)).length):=by rw[List.filter_eq_self];intro x hx;have hx:=yS.1 hx;simp only[zU];exact fun hh=>by have:=hm x (hk x hh);omega
 have e2:dd (List.range (n - (dd [] (l.map f)).length)) (l.map f)=List.range n:=by
  have:=dd_ (l.map f) (List.range (n - (dd [] (l.map f)).length)) [] fun x hx hh=>by have:=yS.1 hh;have:=hm x hx;omega
  rw[xW] at this;rw[this];generalize (dd [] (l.map f)).length=k at*;rw[hd,List.range_eq_range',List.range_eq_range'];have e3:List.range' 0 n=List.range' 0 (n - k)++List.range' (0+1*(n - k)) k:=by rw[List.range'_append,Nat.sub_add_cancel hn]
  rw[e3];simp
 rw[e1,e2] at h;exact h.symm
def segK (q:QeaT):List (TransT×Int):=(segs q.trans 0).filter fun x=>onM (m_ q) x.1.from_
def ksQ (q:QeaT):List Nat:=(segK q).map fun x=>x.1.symbol.toNat
def ownS (q:QeaT):List SymT:=(r_ q.symbols.length (ksQ q)).map (symD q)
def ixQ (q:QeaT) (s:Int):Nat:=nu (m_ q) s.toNat
theorem ts12 {on:Int→Bool} {nw:Int→Int} {ns:List NodeT}:∀(l:List (TransT×Int)) (acc:List NodeT×List TransT),(∀x∈l,on x.1.from_=true)→symN (l.foldl (t12 on nw ns) acc).2=symN acc.2++l.map fun x=>x.1.symbol.toNat
 | [],acc,_ =>(xW _).symm
 | x::l,acc,h=>by rw[xU,ts12 l _ fun y hy=>h y (zD _ hy)];unfold t12;rw[zG (h x yX)];simp [symN]
theorem cs35 (q:QeaT):symN (cutQ q).trans=ksQ q:=by show symN ((segs q.trans 0).foldl (t12 (onM (m_ q)) (nwM (m_ q)) q.nodes) ([],[])).2=_;rw[tf_,ts12 _ _ fun x hx=>(yG.1 hx).2];rfl
theorem rn11 (n:Nat) (ks:List Nat):(r_ n ks).Nodup:=tS List.filter_sublist tE
theorem of10 {q:QeaT} (hy:q.symbols.Nodup):(ownS q).foldl putY []=ownS q:=by have h:=pa11 hy (r_ q.symbols.length (ksQ q)) [] (fun x hx=>by cases hx) fun x hx=>(rm_.1 hx).1;rw[ds13 _ _ (rn11 _ _)] at h;exact h
theorem mi12 {q:QeaT} (hy:q.symbols.Nodup) (hk:∀x∈segK q,(0≤x.1.symbol∧x.1.symbol<q.symbols.length)∧0≤x.2∧(m_ q)[x.1.from_.toNat]? =some true∧(m_ q)[x.1.to_.toNat]? =some true)
  (hs:(m_ q)[q.start.toNat]? =some true):m16 q (k11 (m_ q) q.states) (ixQ q q.start) (ownS q) (ixQ q) (segK q)=ordQ (cutQ q):=by
 have e:dd (r_ q.symbols.length (ksQ q)) (ksQ q)=perm q.symbols.length (ksQ q):=by have:=dd_ (ksQ q) (r_ q.symbols.length (ksQ q)) [] fun x hx h=>(rm_.1 h).2 hx;rw[xW] at this;exact this
 have hn:∀s,(m_ q)[s]? =some true→nwQ (m_ q) s=(nu (m_ q) s:Int):=fun s h=>by unfold nwQ;rw[zG h]
 have h:=sf10 hy (ix:=ixQ q) (on:=onM (m_ q)) (nw:=nwM (m_ q)) (segK q) (r_ q.symbols.length (ksQ q)) [] [] (fun x hx=>(rm_.1 hx).1) (fun x hx=>⟨(hk x hx).1,(hk x hx).2.1,(yG.1 hx).2,hn _ (hk x hx).2.2.1,hn _ (hk x hx).2.2.2⟩) e;unfold m16;rw[of10 hy];rw[yF] at h;show (⟨q.name,q.decls,q.quants,q.frees,_,_,((segK q).foldl (s15 q (ixQ q)) ((r_ q.symbols.length (ksQ q)).map (symD q),[],[])).1,_,_⟩:QeaT)=_;have h2:(segK q).foldl (s15 q (ixQ q)) (ownS q,[],[])=_ :=h;rw[h2,h];unfold ordQ;rw[cs35];unfold cutQ;simp only[segK,←tf_,nwM,hn _ hs];rfl
theorem na_ {α β:Type} [DecidableEq β] {f:α→β} {l:List α} (h:(l.map f).Nodup) {i j:Nat} {x y:α} (hx:l[i]? =some x) (hy:l[j]? =some y) (e:f x=f y):i=j:=by obtain⟨hi,e1⟩:=zZ.1 hx;obtain⟨hj,e2⟩:=zZ.1 hy;have h1:=wQ h i (by simpa using hi);have h2:=wQ h j (by simpa using hj);simp only[vT,e1,e2] at h1 h2;rw[e,h2] at h1;exact h1.symm
theorem ai_ {q:QeaT} (hv:q.vars.Nodup) {a b:ArgT} {k l:Int} (ha:argS q a k=true) (hb:argS q b l=true) (e:argT q a=argT q b):a=b:=by
 have hq:(q.quants.map (·.name)).Nodup:=(xD.1 hv).1;have hf:(q.frees.map (·.name)).Nodup:=(xD.1 hv).2.1;have hd:=(xD.1 hv).2.2;have cases4:∀{a:ArgT} {k:Int},argS q a k=true→(a.kind=1∧a.n=0∧argT q a=⟨1,[],a.value⟩)∨(∃i y,a.kind=2∧a.n=(i:Nat)∧q.quants[i]? =some y∧a.value=v0∧argT q a=⟨2,y.name,v0⟩)∨(∃i y,a.kind=3∧a.n=(i:Nat)∧q.frees[i]? =some y∧a.value=v0∧argT q a=⟨2,y.name,v0⟩)∨(a.kind=4∧a.n=0∧a.value=v0∧argT q a=⟨3,[],v0⟩):=by
  intro a k h;unfold argS at h;by_cases h1:a.kind=1
  ·rw[zG h1] at h;simp only[zK,zC] at h;exact .inl ⟨h1,h.1,by unfold argT;rw[zG h1]⟩
  ·rw[zF h1] at h;by_cases h2:a.kind=2
   ·rw[zG h2] at h;cases hx:at? q.quants a.n with
    | none=>rw[hx] at h;cases h
    | some y=>
     rw[hx] at h;simp only[zK,zC,zU] at h;obtain⟨i,hi,hy⟩:=at?_some hx;exact .inr (.inl ⟨i,y,h2,hi,hy,h.2,by unfold argT;rw[zF h1,zG h2,hx]⟩)
   ·rw[zF h2] at h;by_cases h3:a.kind=3
    ·rw[zG h3] at h;cases hx:at? q.frees a.n with
     | none=>rw[hx] at h;cases h
     | some y=>
      rw[hx] at h;simp only[zK,zC,zU] at h;obtain⟨i,hi,hy⟩:=at?_some hx;exact .inr (.inr (.inl ⟨i,y,h3,hi,hy,h.2,by unfold argT;rw[zF h1,zF h2,zG h3,hx]⟩))
    ·rw[zF h3] at h;simp only[zK,zC,zU] at h;exact .inr (.inr (.inr ⟨h.1,h.2.1,h.2.2,by unfold argT;rw[zF h1,zF h2,zF h3]⟩))
 obtain⟨ak,an,av⟩:=a;obtain⟨bk,bn,bv⟩:=b;rcases cases4 ha with ⟨a1,a2,a3⟩ | ⟨i,y,a1,a2,a3,a4,a5⟩ | ⟨i,y,a1,a2,a3,a4,a5⟩ | ⟨a1,a2,a3,a4⟩ <;> rcases cases4 hb with ⟨b1,b2,b3⟩ | ⟨j,z,b1,b2,b3,b4,b5⟩ | ⟨j,z,b1,b2,b3,b4,b5⟩ | ⟨b1,b2,b3,b4⟩ <;> simp_all
 ·have h:=na_ hq a3 b3 (by first | assumption | exact e);omega
 ·exact hd _ (List.mem_of_getElem? a3) _ (List.mem_of_getElem? b3) (by first | assumption | exact e)
 ·exact hd _ (List.mem_of_getElem? b3) _ (List.mem_of_getElem? a3) (by first | assumption | exact e.symm | exact Eq.symm (by assumption))
 ·have h:=na_ hf a3 b3 (by first | assumption | exact e);omega
theorem si12 {q:QeaT} (hv:q.vars.Nodup) (hd:(q.decls.map (·.name)).Nodup) {s t:SymT} (hs:symS q s=true) (ht:symS q t=true) (e:symT q s=symT q t):s=t:=by
 obtain⟨i,d,s1,s2,s3,s4⟩:=sa10 hs;obtain⟨j,c,t1,t2,t3,t4⟩:=sa10 ht;unfold symT d14 at e;rw[s1,t1,at?_nat s2,at?_nat t2,TSymT.mk.injEq] at e;have hij:=na_ hd s2 t2 e.1;subst hij;rw[s2] at t2;cases t2;have ha:s.args=t.args:=by
  have hl:s.args.length=t.args.length:=by rw[←s3,←t3]
  refine wJ hl fun k h1 h2=>?_;have hk:=s4 k _ _ (zY h1) (zY (show k<d.types.length by omega));have hk2:=t4 k _ _ (zY h2) (zY (show k<d.types.length by omega));refine ai_ hv hk hk2 ?_;have:=congrArg (fun l=>l[k]?) e.2;simpa [h1,h2] using this
 obtain⟨a,b⟩:=s;obtain⟨a',b'⟩:=t;simp_all
theorem ni10 {q:QeaT} (hn:(q.states.map (·.name)).Nodup) {i j:Nat} (hi:i<q.states.length) (hj:j<q.states.length) (h:n18 q i=n18 q j):i=j:=by unfold n18 at h;rw[zY hi,zY hj] at h;have h1:=wQ hn i (by simpa using hi);have h2:=wQ hn j (by simpa using hj);simp only[vT] at h1 h2;have e:q.states[i].name=q.states[j].name:=h;rw[e,h2] at h1;exact h1.symm
theorem si_ {q:QeaT} (hn:(q.states.map (·.name)).Nodup) {i:Nat} (hi:i<q.states.length):(s25 q).any (fun y=>n18 q i==y)=((m_ q)[i]? ==some true):=by
 rw[yY,yL];constructor
 ·rintro⟨y,hy,e⟩;obtain⟨j,hj,rfl⟩:=zI.1 hy;have hj2:=rm10.1 hj;have:=ni10 hn hi hj2.1 (by simpa using e);subst this;simpa using hj2.2
 ·intro h;exact⟨_,zI.2 ⟨i,rm10.2 ⟨hi,by simpa using h⟩,rfl⟩,by simp⟩
theorem sa14 {q:QeaT} {n:Int} (h:0≤n):s20 q n=n18 q n.toNat:=by unfold s20 n18 at?;rw[zG h];cases q.states[n.toNat]? <;> rfl
theorem sk_ {q:QeaT} (hn:(q.states.map (·.name)).Nodup) (hf:∀x∈segs q.trans 0,0≤x.1.from_∧x.1.from_<q.states.length):(((segs q.trans 0).map (trT q)).filter fun x=>(s25 q).any fun y=>x.from_==y)=(segK q).map (trT q):=by rw[List.filter_map];congr 1;refine tH fun x hx=>?_;have h:=hf x hx;show (s25 q).any (fun y=>s20 q x.1.from_==y)=onM (m_ q) x.1.from_;rw[sa14 h.1,si_ hn (by omega)];rfl
theorem sg_ {q:QeaT} (hn:(q.states.map (·.name)).Nodup) (hf:∀x∈segs q.trans 0,0≤x.1.from_∧x.1.from_<q.states.length):(((segs q.trans 0).map (trT q)).filter fun x=>!(s25 q).any fun y=>x.from_==y)=((segs q.trans 0).filter fun x=>!onM (m_ q) x.1.from_).map (trT q):=by rw[List.filter_map];congr 1;refine tH fun x hx=>?_;have h:=hf x hx;show (!(s25 q).any (fun y=>s20 q x.1.from_==y))= !onM (m_ q) x.1.from_;rw[sa14 h.1,si_ hn (by omega)];rfl
theorem fk_ {α:Type} {p:α→Bool}:∀(m:List Bool) (l:List α),m.length=l.length→(∀(i:Nat) x,l[i]? =some x→p x=(m[i]? ==some true))→l.filter p=k11 m l
 | [],[],_,_ =>rfl
 | [],_ ::_,h,_ =>by simp at h
 | _ ::_,[],h,_ =>by simp at h
 | b::m,x::l,hl,h=>by
  have h0:=h 0 x rfl;have ih:=fk_ m l (by simpa using hl) fun i y hy=>by have:=h (i+1) y (by simpa using hy);simpa using this
  rw[List.filter_cons,ih];cases b <;> simp at h0 <;> rw[h0] <;> rfl
theorem sk10 {q:QeaT} (hn:(q.states.map (·.name)).Nodup) (hm:(m_ q).length=q.states.length):(q.states.filter fun x=>(s25 q).any fun y=>x.name==y)=k11 (m_ q) q.states:=by
 refine fk_ _ _ hm fun i x hx=>?_;have hi:=(zZ.1 hx).1;have e:n18 q i=x.name:=by unfold n18;rw[hx]
 rw[←e,si_ hn hi]
theorem od_:∀(l:List TransT) (o:List Nat),(∀t∈l,0≤t.symbol)→ordL (o.map fun (n:Nat)=>(n:Int)) l=(dd o (l.map fun t=>t.symbol.toNat)).map fun (n:Nat)=>(n:Int)
 | [],o,_ =>rfl
 | t::l,o,h=>by
  have h0:=h t yX;obtain⟨n,hn⟩:=zS h0;have e:t.symbol.toNat=n:=by omega
  have hl:∀t∈l,0≤t.symbol:=fun x hx=>h x (zD _ hx);show ordL (o10 (o.map fun (n:Nat)=>(n:Int)) t.symbol) l=(dd o (t.symbol.toNat::l.map fun t=>t.symbol.toNat)).map fun (n:Nat)=>(n:Int);rw[e];have hm:t.symbol∈(o.map fun (n:Nat)=>(n:Int))↔n∈o:=by
   rw[hn];constructor
   ·intro hh;obtain⟨m,hm,e⟩:=zI.1 hh;have:m=n:=by omega
    exact this ▸ hm
   ·exact fun hh=>zI.2 ⟨n,hh,rfl⟩
  unfold o10
  conv=>rhs;unfold dd
  by_cases hx:n∈o
  ·rw[zG hx];rw[zG (yL.2 ⟨_,hm.2 hx,by simp⟩)];exact od_ l o hl
  ·rw[zF hx];rw[zF (fun hh=>by
    obtain⟨y,hy,e⟩:=yL.1 hh;have e:t.symbol=y:=by simpa using e
    exact hx (hm.1 (e ▸ hy)))]
   have e2:(o.map fun (n:Nat)=>(n:Int))++[t.symbol]=(o++[n]).map fun (n:Nat)=>(n:Int):=by rw[hn];simp
   rw[e2];exact od_ l (o++[n]) hl
theorem doo_ {l:List TransT} {n:Nat} (h0:∀t∈l,0≤t.symbol∧t.symbol<(n:Int)) (h:allI (fun i s=>s==(n:Int) - (ordL [] l).length+(i:Int)) (ordL [] l)=true):
  dd [] (l.map fun t=>t.symbol.toNat)=List.range' (n - (dd [] (l.map fun t=>t.symbol.toNat)).length) (dd [] (l.map fun t=>t.symbol.toNat)).length∧(dd [] (l.map fun t=>t.symbol.toNat)).length≤n:=by
 have e:=od_ l [] fun t ht=>(h0 t ht).1;rw[yF] at e;rw[e,at10] at h;have hlt:∀x∈dd [] (l.map fun t=>t.symbol.toNat),x<n:=fun x hx=>by
  rw[dm_] at hx;rcases hx with hx | hx
  ·cases hx
  ·obtain⟨t,ht,rfl⟩:=zI.1 hx;have:=h0 t ht;omega
 have hlen:(dd [] (l.map fun t=>t.symbol.toNat)).length≤n:=by
  have hp:(dd [] (l.map fun t=>t.symbol.toNat)).length≤(List.range n).length:=by have:(dd [] (l.map fun t=>t.symbol.toNat)).Nodup:=dn_ _ List.nodup_nil;rw[wG];exact ns_ this hlt
  simpa using hp
 refine⟨?_,hlen⟩;generalize dd [] (l.map fun t=>t.symbol.toNat)=D at*;refine wJ (by simp) fun i h1 h2=>?_;have:=h i (D[i]:Int) (by rw[zT,zY h1];rfl);simp only[zX,zC] at this;rw[List.getElem_range'];omega
theorem fz_ {α:Type} {f:Nat→α→Int}:∀{l:List α} {i:Nat},(f15 f l i).1=0→∀(j:Nat) x,l[j]? =some x→f (i+j) x=0:=by
 intro l
 induction l with
 | nil=>intro i _ j x h;cases h
 | cons y l ih=>
  intro i h j x hx;unfold f15 at h;by_cases e:f i y=0
  ·rw[zG e] at h;cases j with
   | zero=>cases hx;exact e
   | succ j=>
    have:=ih h j x (by simpa using hx)
    rwa [show i+(j+1)=i+1+j by omega]
  ·rw[zF e] at h;exact absurd h e
structure Fct (q:QeaT):Prop where
 nm:n12 q.name=true
 dl:q.decls.length≤32
 dx:∀d∈q.decls,n12 d.name=true∧d.types.length≤8∧∀k∈d.types,1≤k∧k≤3
 dn:(q.decls.map (·.name)).Nodup
 ql:q.quants.length≤8
 qx:∀x∈q.quants,n12 x.name=true∧1≤x.type∧x.type≤3
 fl:q.frees.length≤16
 fx:∀x∈q.frees,n12 x.name=true∧x.init.ok=true
 vn:q.vars.Nodup
 sl:q.states.length≤32
 sx:∀x∈q.states,n12 x.name=true
 sn:(q.states.map (·.name)).Nodup
 st:0≤q.start∧q.start<q.states.length
 yl:q.symbols.length≤64
 ys:∀s∈q.symbols,symS q s=true
 yn:q.symbols.Nodup
 nl:q.nodes.length≤2048
 tl:q.trans.length≤256
 tx:∀x∈segs q.trans 0,0≤x.2∧TIn q x.1 x.2 (endT x.1 x.2)∧t17 q x.1 x.2=(endT x.1 x.2,true)
 te:endA q.trans 0=q.nodes.length
 qs:∀v,v<q.quants.length→(q.symbols.any fun s=>n13 s (v:Int))=true
 od:dd [] (symN q.trans)=List.range' (q.symbols.length - (dd [] (symN q.trans)).length) (dd [] (symN q.trans)).length
 ol:(dd [] (symN q.trans)).length≤q.symbols.length
theorem il10 {α:Type} {p:α→Bool} {l:List α} {i:Nat} {x:α} (hx:l[i]? =some x) (hp:p x=true):idxF p l≤(i:Int):=by
 unfold idxF;cases hf:l.findIdx? p with
 | none=>simp only;omega
 | some m=>
  obtain⟨h1,h2,h3⟩:=wO.1 hf;obtain⟨hi,e⟩:=zZ.1 hx;have:¬i<m:=fun h=>by have:=h3 i h;rw[e] at this;exact this hp
  simp only;omega
theorem nof_ {l:List DeclT} (h:∀(j:Nat) d,l[j]? =some d→¬idxF (fun e=>e.name==d.name) l<(j:Int)):(l.map (·.name)).Nodup:=by rw[List.nodup_iff_pairwise_ne,vW];intro i j hi hj hij e;simp only[vT,zX] at hi hj e;refine h j _ (zY hj) ?_;have h2:=il10 (p:=fun e:DeclT=>e.name==l[j].name) (zY hi) (by simp [e]);omega
theorem ko_ {k:Int} (h:(k_ k==[])=false):1≤k∧k≤3:=by
 have:=kb_ k;rw[h] at this;have h2:decide (1≤k∧k≤3)=true:=by simpa using this
 exact of_decide_eq_true h2
theorem df_ {l:List DeclT} (h:(d10 l).1=0):l.length≤32∧(∀d∈l,n12 d.name=true∧d.types.length≤8∧∀k∈d.types,1≤k∧k≤3)∧(l.map (·.name)).Nodup:=by
 unfold d10 at h;split at h
 ·cases h
 ·rename_i hl;have hz:=fz_ h;have key:∀(j:Nat) d,l[j]? =some d→n12 d.name=true∧¬idxF (fun e=>e.name==d.name) l<(j:Int)∧d.types.length≤8∧∀k∈d.types,1≤k∧k≤3:=fun j d hd=>by
   have h1:=hz j d hd;rw[yT] at h1;unfold d12 at h1;split at h1
   ·cases h1
   ·rename_i a1;split at h1
    ·cases h1
    ·rename_i a2;split at h1
     ·cases h1
     ·rename_i a3;split at h1
      ·cases h1
      ·rename_i a4;refine⟨by simpa using a1,a2,by omega,fun k hk=>ko_ ?_⟩;have:=xR.1 (by simpa using a4:(d.types.any fun k=>k_ k==[])=false) k hk;simpa using this
  refine⟨by omega,fun d hd=>?_,nof_ fun j d hd=>(key j d hd).2.1⟩;obtain⟨j,hj⟩:=zN hd;have:=key j d hj;exact⟨this.1,this.2.2⟩
theorem fo_ {q:QeaT} (h:r14 q=true):Fct q:=by
 unfold r14 topR at h;simp only[zK,zU,zC] at h;obtain⟨⟨h1,h2,h3,h4,h5⟩,h6,h7⟩:=h;unfold fewS at h2;simp only[zK,zU] at h2;unfold h17 at h5;simp only[zK] at h5;obtain⟨f1,f2,f3,f4,f5,f6⟩:=h2;obtain⟨e1,e2,e3,e4,e5⟩:=h5;unfold t31 at h6;simp only[zK,zC] at h6;unfold s16 at h7;simp only[zK] at h7;obtain⟨g1,g2,g3⟩:=h7;obtain⟨d1,d2,d3⟩:=df_ h1;have hv:=(ni_ _).1 e3;have hs:=(ni_ _).1 e4;have hall:allS (s21 q) q.trans 0 0=(true,(q.nodes.length:Int)):=by rw[←h6.2,←h6.1]
 have t1:=so16 q.trans 0 (wZ _) (by omega) hall;have t2:=st_ q.trans 0 (wZ _) (by omega) hall;have g2':=at10.1 g2;have hsy:∀t∈q.trans,0≤t.symbol∧t.symbol<(q.symbols.length:Int):=fun t ht=>by obtain⟨x,hx,rfl⟩:=sm_ q.trans 0 t ht;exact (t1.2.2.2 x hx).2.hs
 have ho:=doo_ hsy g1;refine⟨e5,d1,d2,d3,by omega,fun x hx=>?_,by omega,fun x hx=>?_,hv.2,by omega,fun x hx=>hs.1 _ (zI.2 ⟨x,hx,rfl⟩),hs.2,⟨h3,h4⟩,by omega,fun s hs=>?_,?_,by omega,by omega,fun x hx=>⟨(t1.2.2.2 x hx).1,(t1.2.2.2 x hx).2,t2 x hx⟩,t1.1.symm,fun v hv=>?_,ho.1,ho.2⟩
 ·obtain⟨i,hi⟩:=zN hx;have:=at10.1 e1 i x hi;unfold t35 at this;simp only[zK,zU] at this;exact⟨hv.1 _ (vN _ (zI.2 ⟨x,hx,rfl⟩)),this⟩
 ·obtain⟨i,hi⟩:=zN hx;exact⟨hv.1 _ (uS _ (zI.2 ⟨x,hx,rfl⟩)),at10.1 e2 i x hi⟩
 ·obtain⟨i,hi⟩:=zN hs;have:=g2' i s hi;unfold symR at this;simp only[zK] at this;exact this.1
 ·rw[List.nodup_iff_pairwise_ne,vW];intro i j hi hj hij e;have:=g2' j _ (zY hj);unfold symR at this;simp only[zK,yQ,xR,zU] at this;exact this.2 q.symbols[i] (List.mem_of_getElem? (i:=i) (by rw[yU,zG hij,zY hi])) e.symm
 ·obtain⟨y,hy,_⟩:=as10 hv;exact at10.1 g3 v y hy
structure Fw (q:QeaT):Prop where
 dl:q.decls.length≤12
 ql:q.quants.length≤9
 fl:q.frees.length≤12
 sl:q.states.length≤12
 yl:q.symbols.length≤12
 tl:q.trans.length≤12
 nl:q.nodes.length≤40
 da:∀d∈q.decls,d.types.length≤12
 ya:∀s∈q.symbols,s.args.length≤12
 ta:∀t∈q.trans,t.sets.length≤12
theorem am10 {α:Type} {p:Nat→α→Bool} {l:List α} (h:allI p l=true) {x:α} (hx:x∈l):∃i,p i x=true:=by obtain⟨i,hi⟩:=zN hx;exact⟨i,at10.1 h i x hi⟩
theorem fw_of {q:QeaT} (h:fewQ q=true):Fw q:=by
 unfold fewQ f19 at h;simp only[zK,zU] at h;obtain⟨⟨a1,a2,a3,a4,a5,a6,a7,a8⟩,b,c,d,e,f⟩:=h;refine⟨by omega,by omega,by omega,by omega,by omega,by omega,by omega,fun x hx=>?_,fun x hx=>?_,fun x hx=>?_⟩
 ·obtain⟨i,hi⟩:=am10 b hx;unfold f14 at hi;simp only[zK,zU] at hi;omega
 ·obtain⟨i,hi⟩:=am10 c hx;unfold f20 at hi;simp only[zK,zU] at hi;omega
 ·obtain⟨i,hi⟩:=am10 f hx;simp only[zU] at hi;omega
theorem at?_in {α:Type} {l:List α} {n:Int} (h0:0≤n) (h1:n<(l.length:Int)):∃x,at? l n=some x:=by obtain⟨k,rfl⟩:=zS h0;obtain⟨x,hx,_⟩:=as10 (l:=l) (i:=k) (by omega);exact⟨x,at?_nat hx⟩
theorem mm13 {α:Type} {l:List α} {a b:Int} (h0:0≤a) {x:α} (h:x∈mid l a b):∃j:Nat,l[j]? =some x∧a≤j∧(j:Int)<b:=by
 obtain⟨i,hi⟩:=zN h;unfold mid at hi;rw[yU] at hi;split at hi
 ·rw[yE] at hi;exact⟨_,hi,by omega,by omega⟩
 ·cases hi
theorem ta35 {q:QeaT} (F:Fct q) {t:TransT} (ht:t∈q.trans):∃a,(t,a)∈segs q.trans 0∧0≤a∧TIn q t a (endT t a):=by obtain⟨x,hx,rfl⟩:=sm_ q.trans 0 t ht;exact⟨x.2,hx,(F.tx x hx).1,(F.tx x hx).2.1⟩
theorem to10 {q:QeaT} (F:Fct q):T_ q.trans q.states.length:=fun t ht=>by obtain⟨a,_,_,h⟩:=ta35 F ht;exact⟨h.hf,h.ht⟩
theorem to13 {q:QeaT} (F:Fct q) {x:TransT×Int} (hx:x∈segs q.trans 0):TrOk q x.1 x.2 (endT x.1 x.2):=by obtain⟨h0,hi,h1⟩:=F.tx x hx;have:=hi.hle;have:=hi.hub;exact tr_ok h0 (by omega) h1
theorem sf_:∀(l:List TransT) (a:Int) (x:TransT×Int),x∈segs l a→x.1∈l
 | [],_,_,h=>by cases h
 | t::l,a,x,h=>by
  rcases yM.1 h with rfl | h
  ·exact yX
  ·exact zD _ (sf_ l _ x h)
theorem ms_ {q:QeaT} (F:Fct q):∃s:Nat,q.start=(s:Int)∧s<q.states.length:=by obtain⟨s,hs⟩:=zS F.st.1;exact⟨s,hs,by have:=F.st.2;omega⟩
theorem ml10 {q:QeaT} (F:Fct q):(m_ q).length=q.states.length:=by obtain⟨s,hs,_⟩:=ms_ F;unfold m_;rw[hs,tm_];exact ml_ _ _ _
theorem mk_is {q:QeaT} (F:Fct q) (i:Nat):(m_ q)[i]? =some true↔Rch (e15 q) q.start.toNat i:=by obtain⟨s,hs,hl⟩:=ms_ F;unfold m_;rw[hs,tm_,zA];refine mi10 hl (fun e he=>?_) i;obtain⟨t,ht,rfl⟩:=zI.1 he;have:=(to10 F t ht).2;show t.to_.toNat<_;omega
theorem mk_s {q:QeaT} (F:Fct q):(m_ q)[q.start.toNat]? =some true:=(mk_is F _).2 .refl
theorem mt_ {q:QeaT} (F:Fct q) {t:TransT} (ht:t∈q.trans) (h:(m_ q)[t.from_.toNat]? =some true):(m_ q)[t.to_.toNat]? =some true:=by rw[mk_is F] at h ⊢;exact .step h (zI.2 ⟨t,ht,rfl⟩)
theorem so_ {q:QeaT} (F:Fct q):∀x∈segK q,(0≤x.1.symbol∧x.1.symbol<q.symbols.length)∧0≤x.2∧(m_ q)[x.1.from_.toNat]? =some true∧(m_ q)[x.1.to_.toNat]? =some true:=fun x hx=>by
 obtain⟨h1,h2⟩:=yG.1 hx;obtain⟨g0,g1,_⟩:=F.tx x h1;have h3:(m_ q)[x.1.from_.toNat]? =some true:=by simpa [onM] using h2
 exact⟨g1.hs,g0,h3,mt_ F (sf_ _ _ _ h1) h3⟩
theorem ao10 {q:QeaT} {a:ArgT} {k:Int} (h:argS q a k=true):A11 q a:=by
 unfold argS at h;refine⟨fun e=>?_,fun e=>?_⟩
 ·rw[zF (by omega),zG e] at h;cases hx:at? q.quants a.n with
  | none=>rw[hx] at h;cases h
  | some y=>exact⟨y,rfl⟩
 ·rw[zF (by omega),zF (by omega),zG e] at h;cases hx:at? q.frees a.n with
  | none=>rw[hx] at h;cases h
  | some y=>exact⟨y,rfl⟩
theorem sm14 {q:QeaT} {s:SymT} (h:symS q s=true):∀a∈s.args,∃k,argS q a k=true:=fun a ha=>by obtain⟨i,d,h1,h2,h3,h4⟩:=sa10 h;obtain⟨j,hj⟩:=zN ha;have:=(zZ.1 hj).1;obtain⟨k,hk,_⟩:=as10 (l:=d.types) (i:=j) (by omega);exact⟨k,h4 j a k hj hk⟩
theorem so13 {q:QeaT} {s:SymT} (h:symS q s=true) (hl:s.args.length≤1000):S11 q s:=by obtain⟨i,d,h1,h2,_⟩:=sa10 h;exact⟨⟨d,by rw[h1];exact at?_nat h2⟩,hl,fun a ha=>(sm14 h a ha).elim fun k hk=>ao10 hk⟩
theorem no10 {q:QeaT} (hq:q.nodes.length≤1000) {j:Nat} {x:NodeT} {e:ExT} (hx:q.nodes[j]? =some x) (he:(e11 q)[j]? =some e) (hk:e.kind≠0):N10 q x∧1≤x.op:=by
 have hj:=(zZ.1 hx).1;cases nd_ok hx he hk with
 | leaf h=>
  unfold l_ at h;by_cases h1:x.op=1
  ·exact⟨⟨fun e=>by omega,fun e=>by omega,fun e=>by omega⟩,by omega⟩
  ·rw[zF h1] at h;by_cases h2:x.op=2
   ·rw[zG h2] at h;refine⟨⟨fun _ =>?_,fun e=>by omega,fun e=>by omega⟩,by omega⟩;split at h
    ·cases hh:at? q.quants x.a with
     | none=>rw[hh] at h;cases h
     | some y=>exact⟨y,rfl⟩
    ·cases h
   ·rw[zF h2] at h;by_cases h3:x.op=3
    ·rw[zG h3] at h;refine⟨⟨fun e=>by omega,fun _ =>?_,fun e=>by omega⟩,by omega⟩;split at h
     ·cases hh:at? q.frees x.a with
      | none=>rw[hh] at h;cases h
      | some y=>exact⟨y,rfl⟩
     ·cases h
    ·rw[zF h3] at h;cases h
 | one h1 hv ha hb b hj0 hbx hbk hee=>exact⟨⟨fun e=>by omega,fun e=>by omega,fun e=>by omega⟩,by omega⟩
 | two h1 hv hb b hj0 hbx hbk a k hak hkb hax hka hee=>
  have:=ex_lt hax;exact⟨⟨fun e=>by omega,fun e=>by omega,fun e=>by omega⟩,by omega⟩
theorem si11 {q:QeaT}:∀(r:List SetT) (o:List Int) {a:Int},SetsOk q o a r→∀s∈r,(0≤s.expr∧s.expr<q.nodes.length)∧∃f,at? q.frees s.free=some f
 | [],_,_,_,s,hs=>by cases hs
 | x::r,o,a,h,s,hs=>by
  cases h with
  | cons f hf hn hw h=>
   rcases yM.1 hs with rfl | hs
   ·obtain⟨i,e,h1,h2,_⟩:=we_ hw;have:=ex_lt h2;exact⟨by omega,f,hf⟩
   ·exact si11 r _ h s hs
theorem to18 {q:QeaT} (F:Fct q) (W:Fw q) {x:TransT×Int} (hx:x∈segs q.trans 0):TrW q x.1 x.2:=by
 obtain⟨h0,hi,_⟩:=F.tx x hx;have hk:=to13 F hx;have hn:=W.nl;have hle:=hi.hle;have hub:=hi.hub;obtain⟨y,hy⟩:=at?_in hi.hs.1 hi.hs.2;obtain⟨j,hj,hyj⟩:=at?_some hy;have hym:=List.mem_of_getElem? hyj;refine⟨at?_in hi.hf.1 hi.hf.2,at?_in hi.ht.1 hi.ht.2,⟨y,hy,so13 (F.ys y hym) (by have:=W.ya y hym;omega)⟩,hi.hg.imp id (fun h=>h.1),?_,by have:=W.ta _ (sf_ _ _ _ hx);omega,fun s hs=>?_,⟨h0,by omega⟩,⟨hle,hub⟩,fun z hz=>?_⟩
 ·rcases hk.gd with h | h
  ·rw[h];exact⟨by omega,by omega⟩
  ·obtain⟨i,e,h1,h2,_⟩:=we_ h;have:=ex_lt h2;exact⟨by omega,by omega⟩
 ·obtain⟨h1,h2⟩:=si11 _ _ hk.st s hs;exact⟨⟨by omega,by omega⟩,h2⟩
 ·obtain⟨i,h1,h2,h3⟩:=mm13 h0 hz;obtain⟨e,e1,e2,_⟩:=hk.bk.at_ i h2 h3;exact no10 (by omega) h1 e1 e2
theorem wo10 {q:QeaT} (F:Fct q) (W:Fw q):WrOk q:=by obtain⟨w1,w2,w3,w4,w5,w6,w7,w8,w9,w10⟩:=id W;refine⟨by omega,by omega,by omega,⟨by omega,by omega,by omega,by omega⟩,fun d hd=>by have:=w8 d hd;omega,at?_in F.st.1 F.st.2,fun s hs=>so13 (F.ys s hs) (by have:=w9 s hs;omega),fun x hx=>to18 F W hx,fun t ht=>?_⟩;obtain⟨a,_,_,h⟩:=ta35 F ht;exact h.hs
