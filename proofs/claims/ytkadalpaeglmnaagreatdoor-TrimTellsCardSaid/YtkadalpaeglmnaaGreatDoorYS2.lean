/-
  Lemmas. No claim is proved here.
-/
import Derived.Test.YtkadalpaeglmnaaGreatDoorYTb7
set_option linter.unusedSimpArgs false
set_option maxHeartbeats 4000000
namespace Go.Proofs.YtkadalpaeglmnaaGreatDoor.Ab
open Go Go.RowKit
theorem ed_ {q:QeaT}:∀(r:Nat) (e:ExT),(e11 q)[r]? =some e→e.kind≠0→1≤e.depth∧e.depth≤(r:Int) - e.from_+1:=by
 intro r
 induction r using Nat.strongRecOn with
 | _ r ih=>
 intro e he hk;obtain⟨x,hx,_⟩:=as10 (l:=q.nodes) (i:=r) (ex_lt he);cases nd_ok hx he hk with
 | leaf h=>
  have h1:=lo_ h;rw[h1.1,h1.2];omega
 | one g1 hv ha hb b hj hbx hbk hee=>
  subst hee;have:=ih (r - 1) (by omega) b hbx hbk;simp only;omega
 | two g1 hv hb b hj hbx hbk a k hak hkb hax hka hee=>
  subst hee;have f1:=ex_fr hax hka;have f2:=ex_fr hbx hbk;have h1:=ih (r - 1) (by omega) b hbx hbk;have h2:=ih k (by omega) a hax hka;simp only;omega
def exAt (q:QeaT) (i:Nat):ExT:=((e11 q)[i]?).getD e0
theorem ei_ {q:QeaT} {i:Nat} {e:ExT} (h:(e11 q)[i]? =some e):exAt q i=e:=by unfold exAt;rw[h];rfl
def szB (q:QeaT) (A j:Nat):Int:=((A+j:Nat):Int) - (exAt q (A+j)).from_+1
def dpB (q:QeaT) (A j:Nat):Int:=(exAt q (A+j)).depth
theorem nl13 {q:QeaT} (F:Fct q) {i:Nat} {x:NodeT} {e:ExT} (h:l_ q i x=some e) (b:Int):T12 (n14 q b x):=by
 unfold l_ at h;unfold n14;by_cases h1:x.op=1
 ·rw[zG h1] at h;rw[zG h1];split at h
  ·rename_i hh;exact⟨rfl,rfl,.inl ⟨rfl,rfl,hh.2.2⟩⟩
  ·cases h
 ·rw[zF h1] at h;rw[zF h1];by_cases h2:x.op=2
  ·rw[zG h2] at h;rw[zG h2];split at h
   ·cases hh:at? q.quants x.a with
    | none=>rw[hh] at h;cases h
    | some y=>
     obtain⟨k,_,hk⟩:=at?_some hh;exact⟨rfl,rfl,.inr ⟨rfl,rfl,(F.qx y (List.mem_of_getElem? hk)).1⟩⟩
   ·cases h
  ·rw[zF h2] at h;rw[zF h2];by_cases h3:x.op=3
   ·rw[zG h3] at h;rw[zG h3];split at h
    ·cases hh:at? q.frees x.a with
     | none=>rw[hh] at h;cases h
     | some y=>
      obtain⟨k,_,hk⟩:=at?_some hh;exact⟨rfl,rfl,.inr ⟨rfl,rfl,(F.fx y (List.mem_of_getElem? hk)).1⟩⟩
    ·cases h
   ·rw[zF h3] at h;cases h
theorem sb10 {q:QeaT} (F:Fct q) {A B:Nat} (h:BlkOk q A B):SzOk ((mid q.nodes A B).map (n14 q A)) (szB q A) (dpB q A):=by
 have hl:=ml11 (l:=q.nodes) h.h0 h.h1 h.h2;refine⟨fun j hj=>?_,fun j x hx=>?_⟩
 ·rw[zX] at hj;obtain⟨e,e1,e2,e3⟩:=h.at_ (A+j) (by omega) (by omega);have f:=ex_fr e1 e2;have d:=ed_ _ _ e1 e2;unfold szB dpB;rw[ei_ e1];omega
 ·rw[zT] at hx;cases hy:(mid q.nodes A B)[j]? with
  | none=>rw[hy] at hx;cases hx
  | some y=>
   rw[hy] at hx;cases hx;have hj:=(zZ.1 hy).1;have hn:q.nodes[A+j]? =some y:=by
    unfold mid at hy;rw[yU] at hy;split at hy
    ·rw[yE] at hy;simpa using hy
    ·cases hy
   obtain⟨e,e1,e2,e3⟩:=h.at_ (A+j) (by omega) (by omega);have s0:szB q A j=((A+j:Nat):Int) - e.from_+1:=by unfold szB;rw[ei_ e1]
   have d0:dpB q A j=e.depth:=by unfold dpB;rw[ei_ e1]
   cases nd_ok hn e1 e2 with
   | leaf hlf=>
    have h1:=lo_ hlf;exact .lone (nl13 F hlf _) (by rw[s0,h1.2];omega) (by rw[d0,h1.1])
   | one g1 hv ha hb b hj0 hbx hbk hee=>
    subst hee;have f:=ex_fr hbx hbk;simp only at e3 s0 d0;have hjp:0<j:=by omega
    have e4:A+j - 1=A+(j - 1):=by omega
    rw[e4] at hbx;have s1:szB q A (j - 1)=((A+(j - 1):Nat):Int) - b.from_+1:=by unfold szB;rw[ei_ hbx]
    have d1:dpB q A (j - 1)=b.depth:=by unfold dpB;rw[ei_ hbx]
    have hN:n14 q A y=⟨y.op,y.a - A,0,[],v0⟩:=by unfold n14;rw[zF (by omega),zF (by omega),zF (by omega),zG g1]
    rw[hN];exact .one g1 rfl rfl hjp (by simp only;omega) rfl (by rw[s0,s1];omega) (by rw[d0,d1])
   | two g1 hv hb b hj0 hbx hbk a k hak hkb hax hka hee=>
    subst hee;have f1:=ex_fr hbx hbk;have f2:=ex_fr hax hka;simp only at e3 s0 d0;obtain⟨m,rfl⟩:∃m,k=A+m:=⟨k - A,by omega⟩;have hjp:0<j:=by omega
    have e4:A+j - 1=A+(j - 1):=by omega
    rw[e4] at hbx;have s1:szB q A (j - 1)=((A+(j - 1):Nat):Int) - b.from_+1:=by unfold szB;rw[ei_ hbx]
    have d1:dpB q A (j - 1)=b.depth:=by unfold dpB;rw[ei_ hbx]
    have s2:szB q A m=((A+m:Nat):Int) - a.from_+1:=by unfold szB;rw[ei_ hax]
    have d2:dpB q A m=a.depth:=by unfold dpB;rw[ei_ hax]
    have hN:n14 q A y=⟨y.op,y.a - A,y.b - A,[],v0⟩:=by unfold n14;rw[zF (by omega),zF (by omega),zF (by omega),zF (by omega)]
    rw[hN];exact .two g1 rfl rfl hjp (by simp only;omega) m (by simp only;omega) (by rw[s1];omega) (by rw[s0,s1,s2];omega) (by rw[d0,d1,d2])
theorem wo_ {q:QeaT} {A n:Nat} {a r k:Int} (ha:(A:Int)≤a) (hr:r<((A+n:Nat):Int)) (h:w_ (e11 q) a r k=true):W_ n (szB q A) (dpB q A) (a - A) (r - A):=by
 obtain⟨i,e,rfl,he,_,_,hf,har,hd⟩:=we_ h;obtain⟨j,rfl⟩:∃j,i=A+j:=⟨i - A,by omega⟩;refine⟨j,by omega,by omega,by omega,by omega,?_,?_⟩
 ·unfold szB;rw[ei_ he];omega
 ·unfold dpB;rw[ei_ he];exact hd
theorem so12 {q:QeaT} (F:Fct q) {A n:Nat}:∀(r:List SetT) (o:List Int) {a:Int},(A:Int)≤a→a≤q.nodes.length→SetsOk q o a r→endS r a≤((A+n:Nat):Int)→SetsT n (szB q A) (dpB q A) (a - A) (r.map (setT q A)) (endS r a - A)
 | [],_,a,_,_,_,_ =>.nil _
 | s::r,o,a,ha,hal,h,hb=>by
  cases h with
  | cons f hf hn hw h=>
   have w:=wi10 hw;rw[el10] at w;have hbk:=(sb_ r _ (a:=s.expr+1) (by omega) (by omega) h).h1;rw[ec11] at hb ⊢;obtain⟨k,_,hk⟩:=at?_some hf;have hnm:n12 (setT q A s).name=true:=by show n12 (f16 q s.free)=true;unfold f16;rw[hf];exact (F.fx f (List.mem_of_getElem? hk)).1
   have ih:=so12 F r _ (a:=s.expr+1) (by omega) (by omega) h hb;rw[show s.expr+1 - (A:Int)=(setT q A s).expr+1 from by show _ =s.expr - (A:Int)+1;omega] at ih;exact .cons hnm (wo_ ha (by omega) hw) ih
theorem to20 {q:QeaT} (F:Fct q) {a:ArgT} {k:Int} (h:argS q a k=true):T11 (argT q a):=by
 unfold argS at h;unfold argT;by_cases h1:a.kind=1
 ·rw[zG h1] at h ⊢;simp only[zK,zC] at h;exact .inl ⟨rfl,rfl,h.2.1⟩
 ·rw[zF h1] at h ⊢;by_cases h2:a.kind=2
  ·rw[zG h2] at h ⊢;cases hx:at? q.quants a.n with
   | none=>rw[hx] at h;cases h
   | some y=>
    obtain⟨i,_,hi⟩:=at?_some hx;exact .inr (.inl ⟨rfl,(F.qx y (List.mem_of_getElem? hi)).1,rfl⟩)
  ·rw[zF h2] at h ⊢;by_cases h3:a.kind=3
   ·rw[zG h3] at h ⊢;cases hx:at? q.frees a.n with
    | none=>rw[hx] at h;cases h
    | some y=>
     obtain⟨i,_,hi⟩:=at?_some hx;exact .inr (.inl ⟨rfl,(F.fx y (List.mem_of_getElem? hi)).1,rfl⟩)
   ·rw[zF h3];exact .inr (.inr ⟨rfl,rfl,rfl⟩)
theorem to16 {q:QeaT} (F:Fct q) {s:SymT} (h:symS q s=true) (hl:s.args.length≤1000):T10 (symT q s):=by
 obtain⟨i,d,h1,h2,_⟩:=sa10 h;refine⟨?_,by unfold symT;simpa using hl,fun a ha=>?_⟩
 ·show n12 (d14 q s.event)=true;unfold d14;rw[h1,at?_nat h2];exact (F.dx d (List.mem_of_getElem? h2)).1
 ·obtain⟨b,hb,rfl⟩:=zI.1 (show a∈s.args.map (argT q) from ha);obtain⟨k,hk⟩:=sm14 h b hb;exact to20 F hk
theorem so11 {q:QeaT} (F:Fct q) {n:Int} (h:0≤n∧n<(q.states.length:Int)):n12 (s20 q n)=true:=by obtain⟨x,hx⟩:=at?_in h.1 h.2;obtain⟨i,_,hi⟩:=at?_some hx;unfold s20;rw[hx];exact F.sx x (List.mem_of_getElem? hi)
theorem so18 {q:QeaT} (F:Fct q) (W:Fw q) {n:Int} (h:0≤n∧n<(q.symbols.length:Int)):T10 (s30 q n):=by obtain⟨x,hx⟩:=at?_in h.1 h.2;obtain⟨i,_,hi⟩:=at?_some hx;have hm:=List.mem_of_getElem? hi;unfold s30;rw[hx];exact to16 F (F.ys x hm) (by have:=W.ya x hm;omega)
theorem to19 {q:QeaT} (F:Fct q) (W:Fw q) {x:TransT×Int} (hx:x∈segs q.trans 0):TTrOk (trT q x):=by
 obtain⟨h0,hi,_⟩:=F.tx x hx;have hk:=to13 F hx;have hle:=hi.hle;have hub:=hi.hub;have hnl:=W.nl;obtain⟨t,a⟩:=x;dsimp only at h0 hi hk hle hub;obtain⟨A,rfl⟩:=zS h0;obtain⟨B,hB⟩:=zS (show 0≤endT t (A:Int) by omega);have hml:=ml11 (l:=q.nodes) h0 hle hub;have hlen:(trT q (t,(A:Int))).nodes.length=B - A:=by show ((mid q.nodes (A:Int) (endT t (A:Int))).map _).length=_;rw[zX];omega
 refine⟨so11 F hi.hf,so11 F hi.ht,so18 F W hi.hs,by rw[hlen];omega,?_,szB q A,dpB q A,?_,?_,?_⟩
 ·show (t.sets.map _).length≤1000;have:=W.ta _ (sf_ _ _ _ hx);rw[zX];dsimp only at this;omega
 ·have hbk:=hk.bk;rw[hB] at hbk;have:=sb10 F hbk;rw[←hB] at this;exact this
 ·show (if t.guard= -1 then -1 else t.guard - (A:Int))= -1∨W_ (trT q (t,(A:Int))).nodes.length (szB q A) (dpB q A) 0 (if t.guard= -1 then -1 else t.guard - (A:Int));rw[hlen];by_cases hg:t.guard= -1
  ·left;rw[zG hg]
  ·right;rw[zF hg];have hw:=hk.gd.resolve_left hg;have hst:=hk.st;rw[zF hg] at hst;have w:=wi10 hw;rw[el10] at w;have hbk:=(sb_ t.sets _ (a:=t.guard+1) (by omega) (by omega) hst).h1;have he:endT t (A:Int)=endS t.sets (t.guard+1):=by unfold endT;rw[zF hg]
   have:=wo_ (A:=A) (n:=B - A) (wZ _) (by omega) hw;rw[Int.sub_self] at this;exact this
 ·show SetsT (trT q (t,(A:Int))).nodes.length (szB q A) (dpB q A) (if (if t.guard= -1 then -1 else t.guard - (A:Int))= -1 then 0 else (if t.guard= -1 then -1 else t.guard - (A:Int))+1) (t.sets.map (setT q A)) ((trT q (t,(A:Int))).nodes.length:Nat);rw[hlen];have hst:=hk.st;by_cases hg:t.guard= -1
  ·rw[zG hg] at hst;rw[zG (by rw[zG hg])];have he:endT t (A:Int)=endS t.sets (A:Int):=by unfold endT;rw[zG hg]
   have:=so12 F (A:=A) (n:=B - A) t.sets _ (wZ _) (by omega) hst (by omega);rw[Int.sub_self,←he,hB,show (B:Int) - (A:Int)=((B - A:Nat):Int) by omega] at this;exact this
  ·rw[zF hg] at hst;have hw:=hk.gd.resolve_left hg;have w:=wi10 hw;rw[el10] at w;rw[zF (by rw[zF hg];omega),zF hg];have he:endT t (A:Int)=endS t.sets (t.guard+1):=by unfold endT;rw[zF hg]
   have:=so12 F (A:=A) (n:=B - A) t.sets _ (a:=t.guard+1) (by omega) (by omega) hst (by omega);rw[←he,hB,show (B:Int) - (A:Int)=((B - A:Nat):Int) by omega,show t.guard+1 - (A:Int)=t.guard - (A:Int)+1 by omega] at this;exact this
theorem am12 {ts:List TTrT}:∀(gone:List TTrT) (own:List TSymT) (x:TSymT),x∈a21 own ts gone→x∈own∨∃g∈gone,x=g.on
 | [],_,_,h=>.inl h
 | g::gone,own,x,h=>by
  rcases am12 gone (a10 ts own g) x h with h | ⟨y,hy,e⟩
  ·unfold a10 at h;split at h
   ·rcases yB.1 h with h | h
    ·exact .inl h
    ·exact .inr ⟨g,yX,yP.1 h⟩
   ·exact .inl h
  ·exact .inr ⟨y,zD _ hy,e⟩
theorem rl13 (n:Nat) (ks:List Nat):(r_ n ks).length≤n:=by have:=xK (fun x=>decide (x∉ks)) (List.range n);rw[wG] at this;exact this
theorem om10 {q:QeaT} {s:TSymT} (h:s∈(t22 q).also):∃y∈q.symbols,s=symT q y:=by obtain⟨k,hk,rfl⟩:=zI.1 h;have hl:=(rm_.1 hk).1;obtain⟨y,hy,hm⟩:=as10 hl;exact⟨y,hm,sa11 hy⟩
theorem tm11 {q:QeaT} {x:TTrT} (h:x∈(t22 q).trans):∃y∈segs q.trans 0,x=trT q y:=by obtain⟨y,hy,e⟩:=zI.1 h;exact⟨y,hy,e.symm⟩
theorem tl11 (q:QeaT):(t22 q).trans.length=q.trans.length∧(t22 q).also.length≤q.symbols.length:=by
 refine⟨?_,?_⟩
 ·show ((segs q.trans 0).map _).length=_;rw[zX,sl10]
 ·show ((r_ _ _).map _).length≤_;rw[zX];exact rl13 _ _
theorem sa16 {q:QeaT} (W:Fw q) {n:Int}:(s30 q n).args.length≤12:=by
 unfold s30;cases hx:at? q.symbols n with
 | none=>exact xE _
 | some s=>
  obtain⟨i,_,hi⟩:=at?_some hx;have:=W.ya s (List.mem_of_getElem? hi);show (s.args.map _).length≤12;rw[zX];exact this
theorem to15 {q:QeaT} (F:Fct q) (W:Fw q) (st:List Str):TreeOk (cutT st (t22 q)):=by
 obtain⟨l1,l2⟩:=tl11 q;obtain⟨w1,w2,w3,w4,w5,w6,w7,w8,w9,w10⟩:=id W;have hf:∀p:TTrT→Bool,((t22 q).trans.filter p).length≤12:=fun p=>by have:=xK p (t22 q).trans;omega
 have hsf:∀p:StateT→Bool,(q.states.filter p).length≤12:=fun p=>by have:=xK p q.states;omega
 have hon:∀x∈(t22 q).trans,T10 x.on:=fun x hx=>by obtain⟨y,hy,rfl⟩:=tm11 hx;exact (to19 F W hy).ho
 refine⟨F.nm,so11 F F.st,⟨by show q.decls.length≤_;omega,by show q.quants.length≤_;omega,by show q.frees.length≤_;omega,?_,?_,?_⟩,fun d hd=>?_,fun x hx=>F.qx x hx,fun x hx=>F.fx x hx,fun x hx=>?_,fun x hx=>?_,fun x hx=>?_⟩
 ·have:=hsf fun x=>st.any fun y=>x.name==y;show (q.states.filter _).length≤_;omega
 ·have h1:=al12 ((t22 q).trans.filter fun x=>st.any fun y=>x.from_==y) ((t22 q).trans.filter fun x=>!st.any fun y=>x.from_==y) (t22 q).also;have h2:=hf fun x=>!st.any fun y=>x.from_==y;show (a21 _ _ _).length≤_;omega
 ·have:=hf fun x=>st.any fun y=>x.from_==y;show ((t22 q).trans.filter _).length≤_;omega
 ·have h1:=F.dx d hd;have h2:=w8 d hd;exact⟨h1.1,h1.2.2,by omega⟩
 ·exact F.sx x (yG.1 (show x∈q.states.filter _ from hx)).1
 ·rcases am12 _ _ _ (show x∈a21 _ _ _ from hx) with h | ⟨g,hg,rfl⟩
  ·obtain⟨y,hy,rfl⟩:=om10 h;exact to16 F (F.ys y hy) (by have:=w9 y hy;omega)
  ·exact hon g (yG.1 hg).1
 ·obtain⟨y,hy,rfl⟩:=tm11 (yG.1 (show x∈(t22 q).trans.filter _ from hx)).1;exact to19 F W hy
theorem sa_ {q:QeaT} {k:Nat} (h:k<q.symbols.length):q.symbols[k]? =some (symD q k):=by unfold symD;rw[zY h]
theorem sm10 {q:QeaT} {k:Nat} (h:k<q.symbols.length):symD q k∈q.symbols:=List.mem_of_getElem? (sa_ h)
theorem si10 {q:QeaT} (F:Fct q) {i j:Nat} (hi:i<q.symbols.length) (hj:j<q.symbols.length) (e:s27 q i=s27 q j):i=j:=by rw[sa11 (sa_ hi),sa11 (sa_ hj)] at e;have e2:=si12 F.vn F.dn (F.ys _ (sm10 hi)) (F.ys _ (sm10 hj)) e;refine na_ (f:=id) (by rw[tO];exact F.yn) (sa_ hi) (sa_ hj) e2
theorem to17 {q:QeaT} {x:TransT×Int} (h:0≤x.1.symbol):(trT q x).on=s27 q x.1.symbol.toNat:=by show s30 q x.1.symbol=s30 q (x.1.symbol.toNat:Int);rw[Int.toNat_of_nonneg h]
theorem as44 {q:QeaT} (F:Fct q) {k:Nat} (hk:k<q.symbols.length) {o:List Nat} (ho:∀x∈o,x<q.symbols.length):(o.map (s27 q)).any (fun y=>decide (s27 q k=y))=decide (k∈o):=by
 rw[yY,yL,zU];constructor
 ·rintro⟨y,hy,e⟩;obtain⟨i,hi,rfl⟩:=zI.1 hy;rw[si10 F hk (ho i hi) (by simpa using e)];exact hi
 ·exact fun h=>⟨_,zI.2 ⟨k,h,rfl⟩,by simp⟩
theorem ao12 {q:QeaT} (F:Fct q) {k:Nat} (hk:k<q.symbols.length) {K:List (TransT×Int)} (hK:∀x∈K,0≤x.1.symbol∧x.1.symbol<q.symbols.length):(K.map (trT q)).any (fun x=>decide (s27 q k=x.on))=decide (k∈K.map fun x=>x.1.symbol.toNat):=by
 rw[yY,yL,zU];constructor
 ·rintro⟨y,hy,e⟩;obtain⟨x,hx,rfl⟩:=zI.1 hy;have h:=hK x hx;rw[to17 h.1] at e;have e2:s27 q k=s27 q x.1.symbol.toNat:=by simpa using e
  exact zI.2 ⟨x,hx,(si10 F hk (by omega) e2).symm⟩
 ·intro h;obtain⟨x,hx,rfl⟩:=zI.1 h;exact⟨_,zI.2 ⟨x,hx,rfl⟩,by rw[to17 (hK x hx).1];simp⟩
theorem ag11 {q:QeaT} (F:Fct q) {K:List (TransT×Int)} (hK:∀x∈K,0≤x.1.symbol∧x.1.symbol<q.symbols.length):∀(g:List (TransT×Int)) (o:List Nat),(∀x∈g,0≤x.1.symbol∧x.1.symbol<q.symbols.length)→(∀x∈o,x<q.symbols.length)→
  a21 (o.map (s27 q)) (K.map (trT q)) (g.map (trT q))=((g.map fun x=>x.1.symbol.toNat).foldl (g_ (K.map fun x=>x.1.symbol.toNat)) o).map (s27 q)
 | [],_,_,_ =>rfl
 | x::g,o,hg,ho=>by
  have hx:=hg x yX;have hk:x.1.symbol.toNat<q.symbols.length:=by omega
  have e:a10 (K.map (trT q)) (o.map (s27 q)) (trT q x)=(g_ (K.map fun x=>x.1.symbol.toNat) o x.1.symbol.toNat).map (s27 q):=by
   unfold a10 g_;rw[to17 hx.1,ao12 F hk hK,as44 F hk ho];by_cases h1:x.1.symbol.toNat∈K.map fun x=>x.1.symbol.toNat
   ·rw[zF (by simp [h1]),zG (.inl h1)]
   ·by_cases h2:x.1.symbol.toNat∈o
    ·rw[zF (by simp [h2]),zG (.inr h2)]
    ·rw[zG ⟨by simpa using h1,by simpa using h2⟩,zF (fun h=>h.elim h1 h2),zR];rfl
  show a21 (a10 (K.map (trT q)) (o.map (s27 q)) (trT q x)) (K.map (trT q)) (g.map (trT q))=((g.map fun x=>x.1.symbol.toNat).foldl _ (g_ _ o x.1.symbol.toNat)).map (s27 q);rw[e];refine ag11 F hK g _ (fun y hy=>hg y (zD _ hy)) fun y hy=>?_;unfold g_ at hy;split at hy
  ·exact ho y hy
  ·rcases yB.1 hy with hy | hy
   ·exact ho y hy
   ·rw[yP.1 hy];exact hk
theorem ss10:∀(l:List TransT) (a:Int),(segs l a).map (fun x=>x.1.symbol.toNat)=symN l
 | [],_ =>rfl
 | t::l,a=>by show t.symbol.toNat::(segs l _).map _ =t.symbol.toNat::symN l;rw[ss10 l]
theorem rr10 {n:Nat} {l:List Nat} (h:dd [] l=List.range' (n - (dd [] l).length) (dd [] l).length) (hn:(dd [] l).length≤n):r_ n l=List.range (n - (dd [] l).length):=by have hp:r_ n l++dd [] l=List.range n:=pi_ h hn;have hl:=congrArg List.length hp;rw[zB,wG] at hl;have h2:=congrArg (List.take (r_ n l).length) hp;rw[List.take_left,List.take_range] at h2;rw[h2];congr 1;omega
theorem ai10 {q:QeaT} (F:Fct q):a21 (t22 q).also ((segK q).map (trT q)) (((segs q.trans 0).filter fun x=>!onM (m_ q) x.1.from_).map (trT q))=(ownS q).map (symT q):=by have hs:∀x∈segs q.trans 0,0≤x.1.symbol∧x.1.symbol<(q.symbols.length:Int):=fun x hx=>(F.tx x hx).2.1.hs;have h:=gp10 (f:=fun x:TransT×Int=>x.1.symbol.toNat) (g:=fun x=>!onM (m_ q) x.1.from_) (n:=q.symbols.length) (l:=segs q.trans 0) (by rw[ss10];exact F.od) (by rw[ss10];exact F.ol);simp only[Bool.not_not] at h;rw[ss10,←rr10 F.od F.ol] at h;show a21 ((r_ q.symbols.length (symN q.trans)).map (s27 q)) _ _ =_;rw[ag11 F (K:=segK q) (fun x hx=>hs x (yG.1 hx).1) _ _ (fun x hx=>hs x (yG.1 hx).1) fun x hx=>(rm_.1 hx).1];have h':List.foldl (g_ ((segK q).map fun x=>x.1.symbol.toNat)) (r_ q.symbols.length (symN q.trans)) (((segs q.trans 0).filter fun x=>!onM (m_ q) x.1.from_).map fun x=>x.1.symbol.toNat)=r_ q.symbols.length (ksQ q):=h;rw[h'];unfold ownS;rw[sV];exact vR fun k hk=>sa11 (sa_ (rm_.1 hk).1)
theorem sa17 {q:QeaT} (W:Fw q) (n:Int):(symG q n).args.length≤12:=by
 unfold symG;cases hx:at? q.symbols n with
 | none=>exact xE _
 | some s=>
  obtain⟨i,_,hi⟩:=at?_some hx;exact W.ya s (List.mem_of_getElem? hi)
theorem pm12 {a:List SymT} {s x:SymT} (h:x∈putY a s):x∈a∨x=s:=by
 unfold putY at h;split at h
 ·exact .inl h
 ·exact (yB.1 h).imp id yP.1
theorem pl10 (a:List SymT) (s:SymT):(putY a s).length≤a.length+1:=by unfold putY;split <;> simp
theorem pb_:∀(l a:List SymT),(l.foldl putY a).length≤a.length+l.length∧∀x∈l.foldl putY a,x∈a∨x∈l
 | [],a=>⟨zE _,fun x hx=>.inl hx⟩
 | s::l,a=>by
  obtain⟨h1,h2⟩:=pb_ l (putY a s);have h3:=pl10 a s;rw[xU];refine⟨by simp only[xX];omega,fun x hx=>?_⟩;rcases h2 x hx with h | h
  ·rcases pm12 h with h | rfl
   ·exact .inl h
   ·exact .inr yX
  ·exact .inr (zD _ h)
theorem mb_ {q:QeaT} (W:Fw q) (ix:Int→Nat):∀(K:List (TransT×Int)) (S:Made),(∀x∈S.1,x.args.length≤12)→
  (K.foldl (s15 q ix) S).1.length≤S.1.length+K.length∧(∀x∈(K.foldl (s15 q ix) S).1,x.args.length≤12)∧(K.foldl (s15 q ix) S).2.1.length≤S.2.1.length+40*K.length∧(K.foldl (s15 q ix) S).2.2.length=S.2.2.length+K.length
 | [],S,h=>⟨zE _,h,zE _,rfl⟩
 | x::K,S,h=>by
  have h1:=pl10 S.1 (symG q x.1.symbol);have h2:∀y∈(s15 q ix S x).1,y.args.length≤12:=fun y hy=>by
   rcases pm12 (show y∈putY S.1 (symG q x.1.symbol) from hy) with hy | rfl
   ·exact h y hy
   ·exact sa17 W _
  have h3:(s15 q ix S x).2.1.length≤S.2.1.length+40:=by have:=W.nl;show (nsK q x.2.toNat S.2.1 ((endT x.1 x.2).toNat - x.2.toNat)).length≤_;unfold nsK;rw[zB,zX,xY,uI];omega
  have h4:(s15 q ix S x).2.2.length=S.2.2.length+1:=by show (S.2.2++[_]).length=_;rw[zB];rfl
  have h5:(s15 q ix S x).1.length≤S.1.length+1:=h1;obtain⟨g1,g2,g3,g4⟩:=mb_ W ix K (s15 q ix S x) h2;rw[xU,xX];exact⟨by omega,g2,by omega,by omega⟩
theorem ks_lt {q:QeaT} (F:Fct q):∀x∈ksQ q,x<q.symbols.length:=fun x hx=>by obtain⟨y,hy,rfl⟩:=zI.1 hx;have:=(so_ F y hy).1;omega
theorem fi_ {q:QeaT} (F:Fct q):(segK q).foldl (s15 q (ixQ q)) ((ownS q).foldl putY [],[],[])=((perm q.symbols.length (ksQ q)).map (symD q),(cutQ q).nodes,(cutQ q).trans.map (reT (perm q.symbols.length (ksQ q)))):=by
 have hd:dd (r_ q.symbols.length (ksQ q)) (ksQ q)=perm q.symbols.length (ksQ q):=by have:=dd_ (ksQ q) (r_ q.symbols.length (ksQ q)) [] fun x hx h=>(rm_.1 h).2 hx;rw[xW] at this;exact this
 have hn:∀s,(m_ q)[s]? =some true→nwQ (m_ q) s=(nu (m_ q) s:Int):=fun s h=>by unfold nwQ;rw[zG h]
 have h:=sf10 F.yn (ix:=ixQ q) (on:=onM (m_ q)) (nw:=nwM (m_ q)) (segK q) (r_ q.symbols.length (ksQ q)) [] [] (fun x hx=>(rm_.1 hx).1) (fun x hx=>⟨(so_ F x hx).1,(so_ F x hx).2.1,(yG.1 hx).2,hn _ (so_ F x hx).2.2.1,hn _ (so_ F x hx).2.2.2⟩) hd;rw[yF] at h;rw[of10 F.yn];have h2:(segK q).foldl (s15 q (ixQ q)) (ownS q,[],[])=_ :=h;rw[h2];unfold cutQ;simp only[segK,←tf_]
theorem ci_ (q:QeaT) (P:List Nat):symN ((cutQ q).trans.map (reT P))=(ksQ q).map fun x=>P.idxOf x:=by rw[←cs35];unfold symN;rw[sV,sV];refine vR fun t _ =>?_;show ((P.idxOf t.symbol.toNat:Nat):Int).toNat=_;rw[zA];rfl
theorem pa12 {n:Nat} {ks:List Nat} (hl:∀x∈ks,x<n):perm (perm n ks).length (ks.map fun x=>(perm n ks).idxOf x)=List.range (perm n ks).length:=by
 have h:=pd_ hl;have hlen:=congrArg List.length h;rw[List.length_range'] at hlen;refine pi_ ?_ ?_
 ·rw[hlen];exact h
 ·rw[hlen];unfold perm;rw[zB];omega
theorem pl12 {q:QeaT} (F:Fct q):(perm q.symbols.length (ksQ q)).length=q.symbols.length:=by have h:=((List.perm_ext_iff_of_nodup (pn_ q.symbols.length (ksQ q)) tE).2 fun x=>(pm10 (ks_lt F) x).trans List.mem_range.symm).length_eq;rw[h,wG]
theorem ro12 {q:QeaT} (F:Fct q) (W:Fw q):RunOk (cutT (s25 q) (t22 q)) q (k11 (m_ q) q.states) (ixQ q q.start) (ownS q) (ixQ q) (segK q):=by
 obtain⟨w1,w2,w3,w4,w5,w6,w7,w8,w9,w10⟩:=id W;have hfr:∀x∈segs q.trans 0,0≤x.1.from_∧x.1.from_<(q.states.length:Int):=fun x hx=>(F.tx x hx).2.1.hf;have hto:∀x∈segs q.trans 0,0≤x.1.to_∧x.1.to_<(q.states.length:Int):=fun x hx=>(F.tx x hx).2.1.ht;have hown:∀s∈ownS q,s∈q.symbols:=fun s hs=>by obtain⟨k,hk,rfl⟩:=zI.1 hs;exact sm10 (rm_.1 hk).1
 have hol:(ownS q).length≤12:=by unfold ownS;rw[zX];have:=rl13 q.symbols.length (ksQ q);omega
 have hKl:(segK q).length≤12:=by have:=xK (fun x=>onM (m_ q) x.1.from_) (segs q.trans 0);rw[sl10] at this;unfold segK;omega
 have hstate:∀n:Int,0≤n∧n<(q.states.length:Int)→(m_ q)[n.toNat]? =some true→∃y,at? q.states n=some y∧(k11 (m_ q) q.states)[ixQ q n]? =some y:=fun n hn hm=>by obtain⟨y,hy⟩:=at?_in hn.1 hn.2;obtain⟨i,hi,hyi⟩:=at?_some hy;refine⟨y,hy,?_⟩;unfold ixQ;rw[ka12 hm,hi,zA];exact hyi
 refine {n1:=rfl,n2:=rfl,n3:=rfl,n4:=rfl,n5:=sk10 F.sn (ml10 F),n6:=?_,n7:=?_,n8:=sk_ F.sn hfr,d1:=by omega,d2:=fun x hx=>(F.dx x hx).2.1,d3:=F.dn,q1:=F.ql,f1:=F.fl,v1:=F.vn,s1:=?_,s2:=?_,a1:=fun s hs=>⟨F.ys s (hown s hs),by have:=w9 s (hown s hs);omega⟩,a2:=by omega,a3:=fun i hi=>?_,k0:=by omega,k1:=fun x hx=>?_,k2:=by omega,k3:=fun i hi=>?_,t1:=fun v hv=>?_,o1:=fun t ht=>?_,o2:=?_}
 ·obtain⟨y,h1,h2⟩:=hstate q.start F.st (mk_s F);refine⟨y,h2,?_⟩;show s20 q q.start=y.name;unfold s20;rw[h1]
 ·show a21 (t22 q).also ((t22 q).trans.filter _) ((t22 q).trans.filter _)=_;rw[show (t22 q).trans=(segs q.trans 0).map (trT q) from rfl,sk_ F.sn hfr,sg_ F.sn hfr];exact ai10 F
 ·have:=(ks10 (m_ q) q.states).length_le;omega
 ·rw[←km_];exact (ks10 _ _).nodup F.sn
 ·obtain⟨h1,h2⟩:=pb_ ((ownS q).take i) [];rw[xY,xL] at h1;refine⟨by omega,fun x hx=>?_⟩;rcases h2 x hx with h | h
  ·cases h
  ·have:=w9 x (hown x (wH h));omega
 ·have hm:=yG.1 hx;obtain⟨s1,s2,s3,s4⟩:=so_ F x hx;obtain⟨y,hy⟩:=at?_in s1.1 s1.2;obtain⟨i,_,hyi⟩:=at?_some hy;have hym:=List.mem_of_getElem? hyi;exact⟨to13 F hm.1,s2,⟨y,hy,F.ys y hym,by have:=w9 y hym;omega⟩,by have:=w10 _ (sf_ _ _ _ hm.1);omega,hstate _ (hfr x hm.1) s3,hstate _ (hto x hm.1) s4⟩
 ·obtain⟨p1,p2⟩:=pb_ (ownS q) [];have p3:∀x∈(ownS q).foldl putY [],x.args.length≤12:=fun x hx=>by
   rcases p2 x hx with h | h
   ·cases h
   ·exact w9 x (hown x h)
  obtain⟨g1,g2,g3,g4⟩:=mb_ W (ixQ q) ((segK q).take i) ((ownS q).foldl putY [],[],[]) p3;rw[xY] at g1 g3 g4;simp only[xL] at p1 g1 g3 g4;exact⟨by omega,fun x hx=>by have:=g2 x hx;omega,by omega,by omega⟩
 ·rw[fi_ F];obtain⟨s,hs,hv2⟩:=yL.1 (F.qs v hv);refine yL.2 ⟨s,?_,by rw[se10 (F.ys s hs)];exact hv2⟩;obtain⟨k,hk⟩:=zN hs;have hkl:=(zZ.1 hk).1;refine zI.2 ⟨k,(pm10 (ks_lt F) k).2 hkl,?_⟩;unfold symD;rw[hk]
 ·rw[fi_ F] at ht ⊢;obtain⟨u,hu,rfl⟩:=zI.1 ht;dsimp only;rw[zX];have hmem:u.symbol.toNat∈ksQ q:=by rw[←cs35];exact zI.2 ⟨u,hu,rfl⟩
  have hlt:=wP.2 ((pm10 (ks_lt F) u.symbol.toNat).2 (ks_lt F _ hmem));refine⟨vD _,?_⟩;show ((List.idxOf u.symbol.toNat _ :Nat):Int)<_;omega
 ·rw[fi_ F];dsimp only;rw[ci_,zX];exact pa12 (ks_lt F)
theorem sc_ {q q':QeaT} (hf:q'.frees=q.frees) (l:List ExT) (sets:List SetT):s11 q' l sets=s11 q l sets:=by funext a i s;unfold s11;rw[hf]
theorem to12 {q q':QeaT} (hf:q'.frees=q.frees) (hn:q'.nodes=q.nodes) (hs:q'.states=q.states) (hx:e11 q'=e11 q) {t:TransT} {s:Int} (h1:at? q'.symbols s=at? q.symbols t.symbol) (h2:inR s q'.symbols.length=inR t.symbol q.symbols.length) (a:Int):t17 q' ⟨t.from_,s,t.to_,t.guard,t.sets⟩ a=t17 q t a:=by unfold t17 r18;simp only[sc_ hf,hn,hs,hx,h1,h2]
theorem am13 {α β σ:Type} {f:σ→Nat→β→Bool×σ} {g:σ→Nat→α→Bool×σ} {h:α→β}:∀(l:List α),(∀x∈l,∀s i,f s i (h x)=g s i x)→∀(i:Nat) (s:σ),allS f (l.map h) i s=allS g l i s
 | [],_,_,_ =>rfl
 | x::l,hh,i,s=>by
  rw[yV];unfold allS;rw[hh x yX];split
  ·exact am13 l (fun y hy=>hh y (zD _ hy)) (i+1) _
  ·rfl
theorem ao_ {q q':QeaT} {f:Int→Int} (hf:q'.frees=q.frees) (hn:q'.nodes=q.nodes) (hs:q'.states=q.states) (hx:e11 q'=e11 q) (ht:q'.trans=q.trans.map fun t=>⟨t.from_,f t.symbol,t.to_,t.guard,t.sets⟩)
  (h:∀t∈q.trans,at? q'.symbols (f t.symbol)=at? q.symbols t.symbol∧inR (f t.symbol) q'.symbols.length=inR t.symbol q.symbols.length):allS (s21 q') q'.trans 0 0=allS (s21 q) q.trans 0 0:=by
 rw[ht];refine am13 _ (fun t htm s i=>?_) 0 0;unfold s21;rw[to12 hf hn hs hx (h t htm).1 (h t htm).2]
def p13 (q:QeaT):List Nat:=perm q.symbols.length (ksQ q)
theorem pe_ (q:QeaT):ordQ (cutQ q)=⟨q.name,q.decls,q.quants,q.frees,k11 (m_ q) q.states,nwM (m_ q) q.start,(p13 q).map (symD q),(cutQ q).nodes,(cutQ q).trans.map (reT (p13 q))⟩:=by unfold ordQ p13;rw[cs35];rfl
theorem pl_ {q:QeaT} (F:Fct q):(p13 q).length=q.symbols.length:=pl12 F
theorem pm_ {q:QeaT} (F:Fct q) (x:Nat):x∈p13 q↔x<q.symbols.length:=pm10 (ks_lt F) x
theorem tl12 {q:QeaT} {on:Int→Bool} {nw:Int→Int}:∀(l:List TransT) {a:Int} (acc:List NodeT×List TransT),0≤a→a≤q.nodes.length→(acc.1.length:Int)≤a→(∀x∈segs l a,0≤x.2∧TIn q x.1 x.2 (endT x.1 x.2))→
  (((segs l a).foldl (t12 on nw q.nodes) acc).1.length:Int)≤endA l a
 | [],a,acc,_,_,h,_ =>h
 | t::r,a,acc,h0,h1,hle,h=>by
  obtain⟨_,hk⟩:=h (t,a) yX;have hk:TIn q t a (endT t a):=hk;have k1:=hk.hle;have k2:=hk.hub;refine tl12 r _ (by omega) k2 ?_ fun x hx=>h x (zD _ hx);unfold t12;dsimp only;split
  ·have:=ml11 (l:=q.nodes) h0 k1 k2;simp only[zB,zX];omega
  ·omega
theorem tl10 {on:Int→Bool} {nw:Int→Int} {ns:List NodeT}:∀(l:List (TransT×Int)) (acc:List NodeT×List TransT),(l.foldl (t12 on nw ns) acc).2.length≤acc.2.length+l.length
 | [],_ =>zE _
 | x::l,acc=>by
  have h:=tl10 (on:=on) (nw:=nw) (ns:=ns) l (t12 on nw ns acc x);have h2:(t12 on nw ns acc x).2.length≤acc.2.length+1:=by
   unfold t12;split
   ·simp
   ·omega
  rw[xU,xX];omega
theorem tm13 {on:Int→Bool} {nw:Int→Int} {ns:List NodeT}:∀(l:List (TransT×Int)) (acc:List NodeT×List TransT),∀t∈(l.foldl (t12 on nw ns) acc).2,t∈acc.2∨∃x∈l,on x.1.from_=true∧t.symbol=x.1.symbol∧t.sets.length=x.1.sets.length
 | [],_,_,h=>.inl h
 | x::l,acc,t,h=>by
  rcases tm13 l (t12 on nw ns acc x) t h with h | ⟨y,hy,e⟩
  ·unfold t12 at h;split at h
   ·rename_i ho;rcases yB.1 h with h | h
    ·exact .inl h
    ·rw[yP.1 h];exact .inr ⟨x,yX,ho,rfl,by rw[zX]⟩
   ·exact .inl h
  ·exact .inr ⟨y,zD _ hy,e⟩
theorem tn_ {on:Int→Bool} {nw:Int→Int} {ns:List NodeT}:∀(l:List (TransT×Int)) (acc:List NodeT×List TransT),∀z∈(l.foldl (t12 on nw ns) acc).1,z∈acc.1∨∃y∈ns,z.value=y.value
 | [],_,_,h=>.inl h
 | x::l,acc,z,h=>by
  rcases tn_ l (t12 on nw ns acc x) z h with h | h
  ·unfold t12 at h;split at h
   ·rcases yB.1 h with h | h
    ·exact .inl h
    ·obtain⟨y,hy,rfl⟩:=zI.1 h;exact .inr ⟨y,uB (wH hy),rfl⟩
   ·exact .inl h
  ·exact .inr h
theorem th_ {on:Int→Bool} {nw:Int→Int} {ns:List NodeT}:∀(l:List (TransT×Int)) (acc:List NodeT×List TransT),∀x∈l,on x.1.from_=true→∃t∈(l.foldl (t12 on nw ns) acc).2,t.from_=nw x.1.from_∧t.to_=nw x.1.to_
 | [],_,_,h,_ =>by cases h
 | y::l,acc,x,h,ho=>by
  rcases yM.1 h with rfl | h
  ·obtain⟨r1,r2,e⟩:=ta_ (on:=on) (nw:=nw) (ns:=ns) l (t12 on nw ns acc x);rw[xU,e];unfold t12;rw[zG ho];exact⟨_,vN _ (uS _ (yP.2 rfl)),rfl,rfl⟩
  ·exact th_ l _ x h ho
theorem cm14 {q:QeaT} {t:TransT} (h:t∈(cutQ q).trans):∃x∈segK q,t.symbol=x.1.symbol∧t.sets.length=x.1.sets.length:=by
 rcases tm13 _ _ t (show t∈((segs q.trans 0).foldl (t12 (onM (m_ q)) (nwM (m_ q)) q.nodes) ([],[])).2 from h) with h | ⟨x,hx,ho,e⟩
 ·cases h
 ·exact⟨x,yG.2 ⟨hx,ho⟩,e⟩
theorem cs38 {q:QeaT} (F:Fct q) {t:TransT} (h:t∈(cutQ q).trans):0≤t.symbol∧t.symbol<(q.symbols.length:Int):=by obtain⟨x,hx,e,_⟩:=cm14 h;rw[e];exact (so_ F x hx).1
theorem cnl_ {q:QeaT} (F:Fct q):(cutQ q).nodes.length≤q.nodes.length:=by have:=tl12 (q:=q) (on:=onM (m_ q)) (nw:=nwM (m_ q)) q.trans ([],[]) (wZ 0) (by omega) (wZ 0) fun x hx=>⟨(F.tx x hx).1,(F.tx x hx).2.1⟩;rw[F.te] at this;have h2:((cutQ q).nodes.length:Int)≤q.nodes.length:=this;omega
theorem ctl_ (q:QeaT):(cutQ q).trans.length≤q.trans.length:=by have:=tl10 (on:=onM (m_ q)) (nw:=nwM (m_ q)) (ns:=q.nodes) (segs q.trans 0) ([],[]);rw[sl10,xL] at this;have h2:(cutQ q).trans.length≤0+q.trans.length:=this;omega
theorem ec12 {q q':QeaT} (h1:q'.quants=q.quants) (h2:q'.frees=q.frees) (h3:q'.nodes=q.nodes):∀n,exL q' n=exL q n
 | 0=>rfl
 | n+1=>by
  have hs:∀out i x,e12 q' out i x=e12 q out i x:=fun out i x=>by unfold e12 l_;rw[h1,h2]
  unfold exL;rw[h3,ec12 h1 h2 h3 n];cases q.nodes[n]? with
  | none=>rfl
  | some x=>simp only[hs]
theorem ec13 {q q':QeaT} (h1:q'.quants=q.quants) (h2:q'.frees=q.frees) (h3:q'.nodes=q.nodes):e11 q'=e11 q:=by unfold e11;rw[h3];exact ec12 h1 h2 h3 _
theorem ca11 {q:QeaT} (F:Fct q):allS (s21 (cutQ q)) (cutQ q).trans 0 0=(true,((cutQ q).nodes.length:Int)):=by
 have hm:(cutQ q).states.length=(m_ q).count true:=kl10 (ml10 F);have h:=to14 (q:=q) (q':=cutQ q) (on:=onM (m_ q)) (nw:=nwM (m_ q)) rfl rfl rfl (fun s h0 h1 ho=>by
  have h3:(m_ q)[s.toNat]? =some true:=by simpa [onM] using ho
  have h4:=nu_lt h3;unfold nwM nwQ;rw[zG h3];omega) q.trans 0 (a:=0) ([],[]) (wZ 0) (by omega) (wZ 0) F.tx (fun t ht ho=>by
  have h3:(m_ q)[t.from_.toNat]? =some true:=by simpa [onM] using ho
  have:=mt_ F ht h3;simpa [onM] using this) rfl
 exact h
theorem pa13 {q:QeaT} (F:Fct q) {k:Nat} (h:k<q.symbols.length):((p13 q).map (symD q))[(p13 q).idxOf k]? =q.symbols[k]? :=by have hlt:=wP.2 ((pm_ F k).2 h);rw[zT,zY hlt,uM hlt];exact (sa_ h).symm
theorem oa_ {q:QeaT} (F:Fct q):allS (s21 (ordQ (cutQ q))) (ordQ (cutQ q)).trans 0 0=(true,((cutQ q).nodes.length:Int)):=by
 rw[←ca11 F,pe_];refine ao_ (q:=cutQ q) (f:=fun n=>((p13 q).idxOf n.toNat:Nat)) rfl rfl rfl (ec13 rfl rfl rfl) rfl fun t ht=>?_;have h:=cs38 F ht;obtain⟨k,hk⟩:=zS h.1;have hkl:k<q.symbols.length:=by omega
 have hlt:=wP.2 ((pm_ F k).2 hkl);rw[hk,zA];refine⟨?_,?_⟩
 ·show at? ((p13 q).map (symD q)) (((p13 q).idxOf k:Nat):Int)=at? q.symbols (k:Int);rw[at?_nat (sa_ hkl)];exact at?_nat ((pa13 F hkl).trans (sa_ hkl))
 ·show inR (((p13 q).idxOf k:Nat):Int) ((p13 q).map (symD q)).length=inR (k:Int) q.symbols.length;unfold inR;rw[zX];have e1:decide (0≤(((p13 q).idxOf k:Nat):Int))=true:=by simp
  have e2:decide ((((p13 q).idxOf k:Nat):Int)<((p13 q).length:Nat))=true:=by simpa using hlt
  have e3:decide (0≤(k:Int))=true:=by simp
  have e4:decide ((k:Int)<(q.symbols.length:Nat))=true:=by simpa using hkl
  rw[e1,e2,e3,e4]
theorem oi10 {q:QeaT}:ordL [] (ordQ (cutQ q)).trans=(dd [] ((ksQ q).map fun x=>(p13 q).idxOf x)).map fun (n:Nat)=>(n:Int):=by
 rw[pe_];have h:=od_ ((cutQ q).trans.map (reT (p13 q))) [] fun t ht=>by obtain⟨u,_,rfl⟩:=zI.1 ht;exact vD _
 rw[yF] at h;rw[h];congr 2;exact ci_ q (p13 q)
theorem so17 (q:QeaT) (s:SymT):symS (ordQ (cutQ q)) s=symS q s:=rfl
theorem ro_ {q:QeaT} (h:r14 q=true):r14 (ordQ (cutQ q))=true:=by
 have F:=fo_ h;unfold r14 topR at h;simp only[zK,zU,zC] at h;obtain⟨⟨h1,h2,h3,h4,h5⟩,h6,h7⟩:=h;unfold fewS at h2;simp only[zK,zU] at h2;unfold h17 at h5;simp only[zK] at h5;obtain⟨f1,f2,f3,f4,f5,f6⟩:=h2;obtain⟨e1,e2,e3,e4,e5⟩:=h5;have hm:(k11 (m_ q) q.states).length=(m_ q).count true:=kl10 (ml10 F);have hkl:=(ks10 (m_ q) q.states).length_le;have hnu:=nu_lt (mk_s F);have hst:nwM (m_ q) q.start=(nu (m_ q) q.start.toNat:Int):=by unfold nwM nwQ;rw[zG (mk_s F)]
 have hpl:=pl_ F;have hsyl:(ordQ (cutQ q)).symbols.length=q.symbols.length:=by rw[pe_];show ((p13 q).map (symD q)).length=_;rw[zX,hpl]
 have hnl:=cnl_ F;have htl:=ctl_ q;have htl2:(ordQ (cutQ q)).trans.length=(cutQ q).trans.length:=by rw[pe_];show ((cutQ q).trans.map _).length=_;rw[zX]
 unfold r14 topR fewS h17 t31 s16;simp only[zK,zU,zC];refine⟨⟨h1,⟨f1,f2,?_,by omega,?_,by omega⟩,?_,?_,e1,e2,e3,?_,e5⟩,⟨?_,?_⟩,?_,?_,?_⟩
 ·show ((k11 (m_ q) q.states).length:Int)≤32;omega
 ·show ((cutQ q).nodes.length:Int)≤2048;omega
 ·show 0≤nwM (m_ q) q.start;rw[hst];omega
 ·show nwM (m_ q) q.start<((k11 (m_ q) q.states).length:Int);rw[hst,hm];omega
 ·show allI (n17 ((k11 (m_ q) q.states).map (·.name))) ((k11 (m_ q) q.states).map (·.name))=true;rw[←km_];exact nk10 e4
 ·rw[oa_ F]
 ·rw[oa_ F];rfl
 ·rw[oi10,hsyl];have hd:=pd_ (ks_lt F);rw[at10];intro i s hs;rw[zX];have hd2:dd [] ((ksQ q).map fun x=>(p13 q).idxOf x)=List.range' ((p13 q).length - (dd [] (ksQ q)).length) (dd [] (ksQ q)).length:=hd;rw[hd2] at hs ⊢;have hi:=(zZ.1 hs).1;rw[zX,List.length_range'] at hi;rw[zT,List.getElem?_range' hi] at hs;simp only[yW,zJ] at hs;rw[List.length_range'];have hle:(dd [] (ksQ q)).length≤(p13 q).length:=by
   unfold p13 perm;rw[zB];omega
  rw[zC];omega
 ·have hnd:((p13 q).map (symD q)).Nodup:=by
   show List.Pairwise (·≠·) _;rw[List.pairwise_map];refine List.Pairwise.imp_of_mem (fun {a b} ha hb hab e=>hab ?_) (pn_ q.symbols.length (ksQ q));exact na_ (f:=id) (by rw[tO];exact F.yn) (sa_ ((pm_ F a).1 ha)) (sa_ ((pm_ F b).1 hb)) e
  have hsy:(ordQ (cutQ q)).symbols=(p13 q).map (symD q):=by rw[pe_]
  rw[hsy,at10];intro i s hs;unfold symR;rw[so17,hsy];obtain⟨k,hk,rfl⟩:=zI.1 (List.mem_of_getElem? hs);rw[F.ys _ (sm10 ((pm_ F k).1 hk)),xG,yQ,xR];intro x hx e;have e:symD q k=x:=by simpa using e
  subst e;obtain⟨j,hj⟩:=zN hx;rw[yU] at hj;split at hj
  ·rename_i hji;have:=na_ (f:=id) (by rw[tO];exact hnd) hj hs rfl;omega
  ·cases hj
 ·rw[at10];intro v y hy;have hv:=(zZ.1 (show q.quants[v]? =some y from hy)).1;have hsy:(ordQ (cutQ q)).symbols=(p13 q).map (symD q):=by rw[pe_]
  rw[hsy];obtain⟨s,hs,hv2⟩:=yL.1 (F.qs v hv);refine yL.2 ⟨s,?_,hv2⟩;obtain⟨k,hk⟩:=zN hs;have hkl:=(zZ.1 hk).1;refine zI.2 ⟨k,(pm_ F k).2 hkl,?_⟩;unfold symD;rw[hk]
def r20:List Int→Str
 | []=>[]
 | k::r=>[44,32]++k_ k++r20 r
def j_:List Int→Str
 | []=>[]
 | k::r=>k_ k++r20 r
def t43 (d:DeclT):Str:=d.name++[40]++j_ d.types++[41]
theorem rs23 (r:List Int) (k:Int):r20 (r++[k])=r20 r++[44,32]++k_ k:=by
 induction r with
 | nil=>simp [r20]
 | cons x r ih=>simp [r20,ih]
theorem js10 (l:List Int) (k:Int):j_ (l++[k])=if l=[] then k_ k else j_ l++[44,32]++k_ k:=by
 cases l with
 | nil=>simp [j_,r20]
 | cons x r=>simp [j_,rs23]
def kOk (k:Int):Prop:=1≤k∧k≤3
theorem kc10 {k:Int} (h:kOk k):k=1∨k=2∨k=3:=by unfold kOk at h;omega
theorem kn_ {k:Int}:∀c∈k_ k,c≠40∧c≠44:=by
 unfold k_
 repeat' split
 all_goals decide
theorem rn13 (r:List Int):∀c∈r20 r,c≠40:=by
 induction r with
 | nil=>simp [r20]
 | cons k r ih=>
  intro c hc;simp only[r20,uF,uQ,yM,yB] at hc;rcases hc with rfl | rfl | hc | hc
  ·decide
  ·decide
  ·exact (kn_ c hc).1
  ·exact ih c hc
theorem jn_ (l:List Int):∀c∈j_ l,c≠40:=by
 cases l with
 | nil=>simp [j_]
 | cons k r=>
  intro c hc;simp only[j_,yB] at hc;rcases hc with hc | hc
  ·exact (kn_ c hc).1
  ·exact rn13 r c hc
theorem sl12 {a b:Str}:∀{j k:Str},(∀c∈j,c≠40)→(∀c∈k,c≠40)→a++[40]++j=b++[40]++k→a=b∧j=k:=by
 have key:∀(a b j k:Str),(∀c∈j,c≠40)→(∀c∈k,c≠40)→j++40::a=k++40::b→a=b∧j=k:=by
  intro a b j
  induction j with
  | nil=>
   intro k _ hk h;cases k with
   | nil=>simpa using h
   | cons c k=>simp at h;exact absurd h.1.symm (hk c (by simp))
  | cons c j ih=>
   intro k hj hk h;cases k with
   | nil=>simp at h;exact absurd h.1 (hj c (by simp))
   | cons d k=>
    simp at h;obtain⟨rfl,h⟩:=h;obtain⟨h1,h2⟩:=ih k (fun x hx=>hj x (by simp [hx])) (fun x hx=>hk x (by simp [hx])) h;exact⟨h1,by rw[h2]⟩
 intro j k hj hk h;have hr:=congrArg List.reverse h;simp only[List.reverse_append,List.reverse_cons,List.reverse_nil,uQ,yI,uF] at hr;obtain⟨h1,h2⟩:=key a.reverse b.reverse j.reverse k.reverse (fun c hc=>hj c (by simpa using hc)) (fun c hc=>hk c (by simpa using hc)) (by simpa using hr);exact⟨by simpa using congrArg List.reverse h1,by simpa using congrArg List.reverse h2⟩
theorem rh_ (r:List Int):r20 r=[]∨∃s,r20 r=44::s:=by
 cases r with
 | nil=>exact .inl rfl
 | cons k r=>exact .inr ⟨_,rfl⟩
theorem nr_ {a b:Int} {r s:Str} (ha:kOk a) (hb:kOk b) (_hr:r=[]∨∃t,r=44::t) (_hs:s=[]∨∃t,s=44::t) (h:k_ a++r=k_ b++s):a=b∧r=s:=by rcases kc10 ha with rfl | rfl | rfl <;> rcases kc10 hb with rfl | rfl | rfl <;> simp [k_] at h ⊢ <;> first | exact h | skip
theorem ri_:∀{r s:List Int},(∀k∈r,kOk k)→(∀k∈s,kOk k)→r20 r=r20 s→r=s
 | [],[],_,_,_ =>rfl
 | [],_ ::_,_,_,h=>by simp [r20] at h
 | _ ::_,[],_,_,h=>by simp [r20] at h
 | a::r,b::s,hr,hs,h=>by simp only[r20,yI] at h;obtain⟨h1,h2⟩:=nr_ (hr a (by simp)) (hs b (by simp)) (rh_ r) (rh_ s) (List.append_cancel_left h);rw[h1,ri_ (fun k hk=>hr k (by simp [hk])) (fun k hk=>hs k (by simp [hk])) h2]
theorem ji_ {r s:List Int} (hr:∀k∈r,kOk k) (hs:∀k∈s,kOk k) (h:j_ r=j_ s):r=s:=by
 have ne:∀{k:Int} {t:Str},kOk k→k_ k++t≠[]:=fun {k t} hk e=>by rcases kc10 hk with rfl | rfl | rfl <;> simp [k_] at e
 cases r with
 | nil=>cases s with
  | nil=>rfl
  | cons b s=>exact absurd h.symm (ne (hs b (by simp)))
 | cons a r=>cases s with
  | nil=>exact absurd h (ne (hr a (by simp)))
  | cons b s=>
   simp only[j_] at h;obtain⟨h1,h2⟩:=nr_ (hr a (by simp)) (hs b (by simp)) (rh_ r) (rh_ s) h;rw[h1,ri_ (fun k hk=>hr k (by simp [hk])) (fun k hk=>hs k (by simp [hk])) h2]
theorem ti10 {a b:DeclT} (ha:∀k∈a.types,kOk k) (hb:∀k∈b.types,kOk k):t43 a=t43 b↔a=b:=by
 constructor
 ·intro h;unfold t43 at h;obtain⟨h1,h2⟩:=sl12 (jn_ _) (jn_ _) (List.append_cancel_right h);obtain⟨n,t⟩:=a;obtain⟨m,s⟩:=b;dsimp only at*;rw[h1,ji_ ha hb h2]
 ·rintro rfl;rfl
variable {G:Nat→Option AV}
theorem q16 (a b:QuantT):(a==b)=(a.all==b.all&&(a.name==b.name&&(a.type==b.type&&true))):=by obtain⟨a1,a2,a3⟩:=a;obtain⟨b1,b2,b3⟩:=b;rw[yY];simp
theorem f27 (a b:FreeT):(a==b)=(a.name==b.name&&(a.init.kind==b.init.kind&&(a.init.int==b.init.int&&(a.init.str==b.init.str&&(a.init.bool==b.init.bool&&true))))):=by obtain⟨a1,a2,a3,a4,a5⟩:=a;obtain⟨b1,b2,b3,b4,b5⟩:=b;rw[yY];simp
theorem s32 (a b:StateT):(a==b)=(a.name==b.name&&(a.next==b.next&&(a.accept==b.accept&&true))):=by obtain⟨a1,a2,a3⟩:=a;obtain⟨b1,b2,b3⟩:=b;rw[yY];simp
theorem s36 (a b:SetT):(a==b)=(a.free==b.free&&(a.expr==b.expr&&true)):=by obtain⟨a1,a2⟩:=a;obtain⟨b1,b2⟩:=b;rw[yY];simp
theorem n21 (a b:NodeT):(a==b)=(a.op==b.op&&(a.a==b.a&&(a.b==b.b&&(a.value.kind==b.value.kind&&(a.value.int==b.value.int&&(a.value.str==b.value.str&&(a.value.bool==b.value.bool&&true))))))):=by obtain⟨a1,a2,a3,a4,a5,a6,a7⟩:=a;obtain⟨b1,b2,b3,b4,b5,b6,b7⟩:=b;rw[yY];simp
