/-
  Lemmas. No claim is proved here.
-/
import Derived.Test.YtkadalpaeglmnaaGreatDoorYTr4
set_option linter.unusedSimpArgs false
set_option maxHeartbeats 4000000
set_option maxRecDepth 100000
namespace Go.Proofs.YtkadalpaeglmnaaGreatDoor.Ab
open Go
theorem ep12 {q:QeaT} {j k:Nat} {b:ExT} (hj:j≤q.nodes.length) (h:(exL q j)[k]? =some b):(e11 q)[k]? =some b:=by have hk:=(zZ.1 h).1;rw[el_ q j hj] at hk;obtain⟨y,hy,_⟩:=as10 (l:=q.nodes) (i:=k) (by omega);rw[ea_ hy hk hj] at h;exact (ea_ hy (by omega) (zE _)).trans h
inductive NdOk (q:QeaT) (j:Nat) (x:NodeT) (e:ExT):Prop where
 | leaf (h:l_ q j x=some e)
 | one (h1:x.op=4∨x.op=5) (hv:x.value=v0) (ha:x.a=(j:Int) - 1) (hb:x.b=0) (b:ExT) (hj:0<j) (hbx:(e11 q)[j - 1]? =some b) (hk:b.kind≠0) (he:e=⟨o11 x.op b.kind b.kind,b.depth+1,b.from_⟩)
 | two (h1:6≤x.op∧x.op≤16) (hv:x.value=v0) (hb:x.b=(j:Int) - 1) (b:ExT) (hj:0<j) (hbx:(e11 q)[j - 1]? =some b) (hk:b.kind≠0) (a:ExT) (k:Nat) (hak:x.a=(k:Int)) (hkb:(k:Int)=b.from_ - 1) (hax:(e11 q)[k]? =some a) (hka:a.kind≠0)
   (he:e=⟨o11 x.op a.kind b.kind,max a.depth b.depth+1,a.from_⟩)
theorem nd_ok {q:QeaT} {j:Nat} {x:NodeT} {e:ExT} (hx:q.nodes[j]? =some x) (he:(e11 q)[j]? =some e) (hk:e.kind≠0):NdOk q j x e:=by
 have hj:=(zZ.1 hx).1;have e1:=ea_ hx (n:=q.nodes.length) hj (zE _);have e2:(exL q q.nodes.length)[j]? =some e:=he;rw[e1] at e2;cases e2;have hz:(⟨0,0,0⟩:ExT).kind=0:=rfl;unfold e12 at hk ⊢;cases hl:l_ q j x with
 | some e=>exact .leaf hl
 | none=>
  rw[hl] at hk;simp only at hk ⊢;split at hk
  ·exact absurd rfl hk
  rename_i hc;rw[zF hc];cases hb:at? (exL q j) ((j:Int) - 1) with
  | none=>rw[hb] at hk;exact absurd rfl hk
  | some b=>
   rw[hb] at hk;simp only at hk ⊢;obtain⟨i,ei,hi⟩:=at?_some hb;have hbx:(e11 q)[j - 1]? =some b:=by have:=ep12 (by omega) hi;rw[show j - 1=i by omega];exact this
   split at hk
   ·exact absurd rfl hk
   rename_i hbk;rw[zF hbk];split at hk
   ·rename_i h5;rw[zG h5];split at hk
    ·rename_i h6;rw[zG h6];exact .one (by omega) (Decidable.not_not.1 fun hn=>hc (.inr (.inr hn))) h6.1 h6.2 b (by omega) hbx hbk rfl
    ·exact absurd rfl hk
   ·rename_i h5;rw[zF h5];split at hk
    ·rename_i h6;rw[zG h6];cases ha:at? (exL q j) x.a with
     | none=>rw[ha] at hk;exact absurd rfl hk
     | some a=>
      rw[ha] at hk;simp only at hk ⊢;obtain⟨k,ek,hk2⟩:=at?_some ha;split at hk
      ·exact absurd rfl hk
      rename_i hak;rw[zF hak];exact .two (by omega) (Decidable.not_not.1 fun hn=>hc (.inr (.inr hn))) h6.1 b (by omega) hbx hbk a k ek (by omega) (ep12 (by omega) hk2) hak rfl
    ·exact absurd rfl hk
theorem ex_lt {q:QeaT} {j:Nat} {e:ExT} (he:(e11 q)[j]? =some e):j<q.nodes.length:=by
 have:=(zZ.1 he).1
 rwa [el10] at this
theorem ex_fr {q:QeaT} {j:Nat} {e:ExT} (he:(e11 q)[j]? =some e) (hk:e.kind≠0):0≤e.from_∧e.from_≤j:=ef_ q.nodes.length (zE _) j e he hk
theorem es13 {q:QeaT}:∀(r:Nat) (e:ExT),(e11 q)[r]? =some e→e.kind≠0→∀j:Nat,e.from_≤(j:Int)→j≤r→∃e',(e11 q)[j]? =some e'∧e'.kind≠0∧e.from_≤e'.from_:=by
 intro r
 induction r using Nat.strongRecOn with
 | _ r ih=>
 intro e he hk j h1 h2;rcases uH j r with hlt | hge
 case inr=>
  obtain rfl:j=r:=by omega
  exact⟨e,he,hk,wZ _⟩
 obtain⟨x,hx,_⟩:=as10 (l:=q.nodes) (i:=r) (ex_lt he);cases nd_ok hx he hk with
 | leaf h=>have:=lf_ h;omega
 | one g1 hv ha hb b hj hbx hbk hee=>
  subst hee;exact ih (r - 1) (by omega) b hbx hbk j h1 (by omega)
 | two g1 hv hb b hj hbx hbk a k hak hkb hax hka hee=>
  subst hee;simp only at h1;have f1:=ex_fr hax hka;have f2:=ex_fr hbx hbk;by_cases hc:b.from_≤j
  ·obtain⟨e',g1,g2,g3⟩:=ih (r - 1) (by omega) b hbx hbk j hc (by omega);exact⟨e',g1,g2,by simp only;omega⟩
  ·exact ih k (by omega) a hax hka j h1 (by omega)
structure BlkOk (q:QeaT) (a b:Int):Prop where
 h0:0≤a
 h1:a≤b
 h2:b≤q.nodes.length
 at_:∀j:Nat,a≤j→(j:Int)<b→∃e,(e11 q)[j]? =some e∧e.kind≠0∧a≤e.from_
theorem we_ {q:QeaT} {a r k:Int} (h:w_ (e11 q) a r k=true):∃(i:Nat) (e:ExT),r=i∧(e11 q)[i]? =some e∧e.kind=k∧k≠0∧e.from_=a∧a≤r∧e.depth≤64:=by
 unfold w_ at h;cases he:at? (e11 q) r with
 | none=>rw[he] at h;cases h
 | some e=>
  rw[he] at h;simp only[zK,zU,zC,yQ,xC] at h;obtain⟨i,hi,hx⟩:=at?_some he;obtain⟨h1,h2,h3,h4,h5⟩:=h;exact⟨i,e,hi,hx,h2,by simpa using h3,h4,h1,h5⟩
theorem wb_ {q:QeaT} {a r k:Int} (h0:0≤a) (h:w_ (e11 q) a r k=true):BlkOk q a (r+1):=by obtain⟨i,e,rfl,he,hk,hk0,hf,har,_⟩:=we_ h;have:=ex_lt he;refine⟨h0,by omega,by omega,fun j h1 h2=>?_⟩;obtain⟨e',g1,g2,g3⟩:=es13 i e he (by rw[hk];exact hk0) j (by omega) (by omega);exact⟨e',g1,g2,by omega⟩
theorem bn_ {q:QeaT} {a:Int} (h0:0≤a) (h:a≤q.nodes.length):BlkOk q a a:=⟨h0,wZ _,h,fun j h1 h2=>by omega⟩
theorem ba11 {q:QeaT} {a b c:Int} (h:BlkOk q a b) (g:BlkOk q b c):BlkOk q a c:=by
 refine⟨h.h0,by have:=h.h1;have:=g.h1;omega,g.h2,fun j h1 h2=>?_⟩;by_cases hc:(j:Int)<b
 ·exact h.at_ j h1 hc
 ·obtain⟨e,e1,e2,e3⟩:=g.at_ j (by omega) h2;exact⟨e,e1,e2,by have:=h.h1;omega⟩
inductive SetsOk (q:QeaT):List Int→Int→List SetT→Prop where
 | nil (o:List Int) (a:Int):SetsOk q o a []
 | cons {o:List Int} {a:Int} {s:SetT} {r:List SetT} (f:FreeT) (hf:at? q.frees s.free=some f) (hn:s.free∉o) (hw:w_ (e11 q) a s.expr f.init.kind=true) (h:SetsOk q (o++[s.free]) (s.expr+1) r):SetsOk q o a (s::r)
theorem so15 {q:QeaT}:∀(r p:List SetT) {a:Int},(allS (s11 q (e11 q) (p++r)) r p.length a).1=true→SetsOk q (p.map (·.free)) a r
 | [],p,a,_ =>.nil _ _
 | s::r,p,a,h=>by
  unfold allS at h;split at h
  ·rename_i hs;unfold s11 at hs h;cases hf:at? q.frees s.free with
   | none=>rw[hf] at hs;cases hs
   | some f=>
    rw[hf] at hs h;simp only at hs h;split at hs
    ·cases hs
    ·rename_i hn;rw[zF hn] at h;split at hs
     ·rename_i hw;rw[zG hw] at h;refine .cons f hf (fun hm=>hn ?_) hw ?_
      ·obtain⟨y,hy,e⟩:=zI.1 hm;rw[List.take_left' rfl,yL];exact⟨y,hy,by simp [e]⟩
      ·have e:p++s::r=(p++[s])++r:=by simp
       have:=so15 r (p++[s]) (a:=s.expr+1) (by rw[yI,zB];exact h);rw[zR] at this;exact this
     ·cases hs
  ·cases h
theorem sb_ {q:QeaT}:∀(r:List SetT) (o:List Int) {a:Int},0≤a→a≤q.nodes.length→SetsOk q o a r→BlkOk q a (endS r a)
 | [],_,a,h0,h1,_ =>bn_ h0 h1
 | s::r,o,a,h0,h1,h=>by
  cases h with
  | cons f hf hn hw h=>
   have hb:=wb_ h0 hw;rw[ec11];exact ba11 hb (sb_ r _ (by have:=hb.h0;have:=hb.h1;omega) hb.h2 h)
structure TrOk (q:QeaT) (t:TransT) (a b:Int):Prop where
 ok:TIn q t a b
 gd:t.guard= -1∨w_ (e11 q) a t.guard 3=true
 st:SetsOk q [] (if t.guard= -1 then a else t.guard+1) t.sets
 sy:∃s,at? q.symbols t.symbol=some s∧∀x∈mid q.nodes a b,x.op=2→n13 s x.a=true
 bk:BlkOk q a b
theorem tr_ok {q:QeaT} {t:TransT} {a b:Int} (h0:0≤a) (h1:a≤q.nodes.length) (h:t17 q t a=(b,true)):TrOk q t a b:=by
 have hk:=to11 h0 h1 h;unfold t17 at h;split at h
 ·cases h
 have rest:∀a1:Int,0≤a1→a1≤q.nodes.length→r18 q t a a1=(b,true)→SetsOk q [] a1 t.sets∧(∃s,at? q.symbols t.symbol=some s∧∀x∈mid q.nodes a b,x.op=2→n13 s x.a=true)∧BlkOk q a1 (endS t.sets a1):=by
  intro a1 h2 h3 h4;unfold r18 at h4;simp only at h4;split at h4
  ·rename_i hs;have ho:=so15 t.sets [] (a:=a1) hs;simp only[vH] at h4;rw[h4.1] at h4;refine⟨ho,?_,sb_ _ _ h2 h3 ho⟩;have h5:=h4.2;cases hsy:at? q.symbols t.symbol with
   | none=>rw[hsy] at h5;cases h5
   | some y=>
    rw[hsy] at h5;simp only[yH,xT,yQ,xC] at h5;exact⟨y,rfl,fun x hx hop=>(h5 x hx).resolve_left fun hh=>hh hop⟩
  ·cases h4
 have he:=hk.he;unfold endT at he;split at h
 ·rename_i hg;obtain⟨r1,r2,r3⟩:=rest a h0 h1 h;rw[zG hg] at he;exact⟨hk,.inl hg,by rw[zG hg];exact r1,r2,by rw[he];exact r3⟩
 ·rename_i hg;split at h
  ·rename_i hw;have hb:=wb_ h0 hw;obtain⟨r1,r2,r3⟩:=rest (t.guard+1) (by have:=hb.h0;have:=hb.h1;omega) hb.h2 h;rw[zF hg] at he;exact⟨hk,.inr hw,by rw[zF hg];exact r1,r2,by rw[he];exact ba11 hb r3⟩
  ·cases h
def t21 (x:DeclT):AV:=.agg [.str x.name,iv 0,iv 0,i10 x.types]
def t14 (x:QuantT):AV:=.agg [.bool x.all,.str x.name,iv 0,iv 0,iv x.type]
def t20 (x:FreeT):AV:=.agg [.str x.name,iv 0,iv 0,iv x.init.kind,iv x.init.int,.str x.init.str,.bool x.init.bool]
def t13 (x:StateT):AV:=.agg [.str x.name,iv 0,iv 0,.bool x.next,.bool x.accept]
structure TArgT where
 kind:Int
 name:Str
 value:Val
deriving DecidableEq
def t28 (a:TArgT):AV:=.agg [iv a.kind,.str a.name,iv a.value.kind,iv a.value.int,.str a.value.str,.bool a.value.bool,iv 0,iv 0]
structure TSymT where
 name:Str
 args:List TArgT
deriving DecidableEq
def t16 (l:List TArgT):AV:=.seq 8 (l.map t28)
def t27 (s:TSymT):AV:=.agg [.str s.name,t16 s.args,iv 0,iv 0]
structure TExT where
 op:Int
 a:Int
 b:Int
 name:Str
 value:Val
deriving DecidableEq
def tExV (x:TExT):AV:=.agg [iv x.op,iv x.a,iv x.b,.str x.name,iv x.value.kind,iv x.value.int,.str x.value.str,.bool x.value.bool,iv 0,iv 0]
def t30 (l:List TExT):AV:=.seq 10 (l.map tExV)
structure TSetT where
 name:Str
 expr:Int
deriving DecidableEq
def t36 (x:TSetT):AV:=.agg [.str x.name,iv 0,iv 0,iv x.expr]
def t19 (l:List TSetT):AV:=.seq 4 (l.map t36)
structure TTrT where
 from_:Str
 to_:Str
 on:TSymT
 nodes:List TExT
 guard:Int
 sets:List TSetT
deriving DecidableEq
def tTrV (t:TTrT):AV:=.agg [.str t.from_,iv 0,iv 0,.str t.to_,iv 0,iv 0,.str t.on.name,t16 t.on.args,iv 0,iv 0,t30 t.nodes,iv t.guard,t19 t.sets]
structure TreeT where
 name:Str
 decls:List DeclT
 quants:List QuantT
 frees:List FreeT
 states:List StateT
 start:Str
 also:List TSymT
 trans:List TTrT
def t24 (l:List DeclT):AV:=.seq 4 (l.map t21)
def t15 (l:List QuantT):AV:=.seq 5 (l.map t14)
def t23 (l:List FreeT):AV:=.seq 7 (l.map t20)
def t18 (l:List StateT):AV:=.seq 5 (l.map t13)
def t26 (l:List TSymT):AV:=.seq 4 (l.map t27)
def t34 (l:List TTrT):AV:=.seq 13 (l.map tTrV)
def t29 (t:TreeT):AV:=.agg [.str t.name,iv 0,iv 0,t24 t.decls,t15 t.quants,t23 t.frees,t18 t.states,.str t.start,iv 0,iv 0,t26 t.also,t34 t.trans]
def argT (q:QeaT) (a:ArgT):TArgT:=
 if a.kind=1 then ⟨1,[],a.value⟩
 else if a.kind=2 then ⟨2,match at? q.quants a.n with | some x=>x.name | none=>[],v0⟩
 else if a.kind=3 then ⟨2,match at? q.frees a.n with | some x=>x.name | none=>[],v0⟩
 else ⟨3,[],v0⟩
def d14 (q:QeaT) (n:Int):Str:=match at? q.decls n with | some x=>x.name | none=>[]
def symT (q:QeaT) (s:SymT):TSymT:=⟨d14 q s.event,s.args.map (argT q)⟩
def n14 (q:QeaT) (base:Int) (x:NodeT):TExT:=
 if x.op=1 then ⟨1,0,0,[],x.value⟩
 else if x.op=2 then ⟨17,0,0,match at? q.quants x.a with | some y=>y.name | none=>[],v0⟩
 else if x.op=3 then ⟨17,0,0,match at? q.frees x.a with | some y=>y.name | none=>[],v0⟩
 else if x.op=4∨x.op=5 then ⟨x.op,x.a - base,0,[],v0⟩
 else ⟨x.op,x.a - base,x.b - base,[],v0⟩
def f16 (q:QeaT) (n:Int):Str:=match at? q.frees n with | some x=>x.name | none=>[]
def s20 (q:QeaT) (n:Int):Str:=match at? q.states n with | some x=>x.name | none=>[]
def setT (q:QeaT) (base:Int) (s:SetT):TSetT:=⟨f16 q s.free,s.expr - base⟩
def s30 (q:QeaT) (n:Int):TSymT:=match at? q.symbols n with | some s=>symT q s | none=>⟨[],[]⟩
def trT (q:QeaT) (x:TransT×Int):TTrT:=
 ⟨s20 q x.1.from_,s20 q x.1.to_,s30 q x.1.symbol,(mid q.nodes x.2 (endT x.1 x.2)).map (n14 q x.2),if x.1.guard= -1 then -1 else x.1.guard - x.2,x.1.sets.map (setT q x.2)⟩
open Go.RowKit
variable {G:Nat→Option AV}
theorem t25 {α:Type} (f:α→AV) (l:List α):(l.map f).take l.length=l.map f:=zM (by simp)
def dE (q:QeaT):Ents:=numE (fun i:Nat=>iv (i:Int)) (q.decls.map (·.name)) 0
def vE (q:QeaT):Ents:=numE (fun i:Nat=>n11 ⟨2,(i:Int),0,v0⟩) (q.quants.map (·.name)) 0++numE (fun i:Nat=>n11 ⟨3,(i:Int),0,v0⟩) (q.frees.map (·.name)) 0
def sE (sl:List StateT):Ents:=numE (fun i:Nat=>iv (i:Int)) (sl.map (·.name)) 0
theorem vk_ (q:QeaT):k13 (vE q)=q.vars:=by unfold vE;rw[ka_,nk_,nk_];rfl
theorem df10 {q:QeaT} (hn:(q.decls.map (·.name)).Nodup) {i:Nat} {d:DeclT} (h:q.decls[i]? =some d):m12 false [1] (.str d.name) (e10 (dE q)) 0=some (some (i,iv (i:Int))):=by rw[me_,fy_ (j:=i) (v:=iv (i:Int)) ?_ (by unfold dE;rw[nk_];exact hn),yT];have:=na12 (f:=fun i:Nat=>iv (i:Int)) (k:=0) (show (q.decls.map (·.name))[i]? =some d.name by rw[zT,h];rfl);rw[yT] at this;exact this
theorem sf12 {sl:List StateT} (hn:(sl.map (·.name)).Nodup) {i:Nat} {d:StateT} (h:sl[i]? =some d):m12 false [1] (.str d.name) (e10 (sE sl)) 0=some (some (i,iv (i:Int))):=by rw[me_,fy_ (j:=i) (v:=iv (i:Int)) ?_ (by unfold sE;rw[nk_];exact hn),yT];have:=na12 (f:=fun i:Nat=>iv (i:Int)) (k:=0) (show (sl.map (·.name))[i]? =some d.name by rw[zT,h];rfl);rw[yT] at this;exact this
theorem qf_ {q:QeaT} (hn:q.vars.Nodup) {i:Nat} {d:QuantT} (h:q.quants[i]? =some d):m12 false [1] (.str d.name) (e10 (vE q)) 0=some (some (i,n11 ⟨2,(i:Int),0,v0⟩)):=by rw[me_,fy_ (j:=i) (v:=n11 ⟨2,(i:Int),0,v0⟩) ?_ (by rw[vk_];exact hn),yT];have:=na12 (f:=fun i:Nat=>n11 ⟨2,(i:Int),0,v0⟩) (k:=0) (show (q.quants.map (·.name))[i]? =some d.name by rw[zT,h];rfl);rw[yT] at this;unfold vE;rw[xJ (zZ.1 this).1];exact this
theorem ff_ {q:QeaT} (hn:q.vars.Nodup) {i:Nat} {d:FreeT} (h:q.frees[i]? =some d):m12 false [1] (.str d.name) (e10 (vE q)) 0=some (some (q.quants.length+i,n11 ⟨3,(i:Int),0,v0⟩)):=by rw[me_,fy_ (j:=q.quants.length+i) (v:=n11 ⟨3,(i:Int),0,v0⟩) ?_ (by rw[vk_];exact hn),yT];have:=na12 (f:=fun i:Nat=>n11 ⟨3,(i:Int),0,v0⟩) (k:=0) (show (q.frees.map (·.name))[i]? =some d.name by rw[zT,h];rfl);rw[yT] at this;unfold vE;rw[xV (by rw[nl10,zX];omega),nl10,zX,tF];exact this
def ckC (q:QeaT) (sl:List StateT) (st:Int) (c6 c7 c8:AV):AV:=.agg [.str q.name,.seq 2 (q.decls.map d11),.seq 3 (q.quants.map q11),.seq 5 (q.frees.map f10),.seq 3 (sl.map s13),iv st,c6,c7,c8,.mapc (e10 (dE q)),.mapc (e10 (vE q)),.mapc (e10 (sE sl))]
def ckS (q:QeaT) (sl:List StateT) (st:Int) (ys:List SymT) (ns:List NodeT) (ts:List TransT):AV:=ckC q sl st (.seq 2 (ys.map symV)) (.seq 7 (ns.map n11)) (.seq 5 (ts.map t11))
def ckB (q:QeaT) (sl:List StateT) (st:Int) (y n t:Nat):Nat×Box:=(1001,⟨false,tcc_,12,[ckC q sl st (.arr 1006 0 y) (.arr 1007 0 n) (.arr 1008 0 t)]⟩)
def HK (q:QeaT) (sl:List StateT) (st:Int) (ys:List SymT) (ns:List NodeT) (ts:List TransT):List (Nat×Box):=[ckB q sl st ys.length ns.length ts.length,(1006,⟨true,taS_,2,ys.map symV⟩),(1007,⟨true,taN_,7,ns.map n11⟩),(1008,⟨true,taT_,5,ts.map t11⟩)]
theorem fp12 (q:QeaT) (sl:List StateT) (st:Int) (c6 c7 c8:AV) (hn:(sl.map (·.name)).Nodup) {i:Nat} {d:StateT} (h:sl[i]? =some d):PQ G nc11 [.eptr (ckC q sl st c6 c7 c8) 0,.agg [.str d.name,iv 0,iv 0]] (.tup [iv (i:Int),.nili]):=by
 have hm:=sf12 hn h;refine pccf_ fun Φ h=>?_;unfold cc20
 repeat' (first|simp -implicitDefEqProofs only[go_sem,ckC,hm]|refine ag_ (fun hb=>?_) (fun hb=>?_)|refine⟨fun hb=>?_,fun hb=>?_⟩|fail)
 exact h _ ⟨_,_,rfl,rfl,.refl _⟩
theorem kqp_ (q:QeaT) (sl:List StateT) (st:Int) (c6 c7 c8:AV) {i:Nat} {d:QuantT} (h:q.quants[i]? =some d) (b:Int) (v:Val):PQ G ncck_ [.eptr (ckC q sl st c6 c7 c8) 0,n11 ⟨2,(i:Int),b,v⟩] (iv d.type):=by
 refine pcck_ fun Φ hh=>?_;unfold ccck_
 repeat' (first|simp -implicitDefEqProofs only[go_sem,ckC,n11,am_ h,q11]|refine ag_ (fun hb=>?_) (fun hb=>?_)|refine⟨fun hb=>?_,fun hb=>?_⟩|fail)
 exact hh _ ⟨_,_,rfl,rfl,.refl _⟩
theorem kfp_ (q:QeaT) (sl:List StateT) (st:Int) (c6 c7 c8:AV) {i:Nat} {d:FreeT} (h:q.frees[i]? =some d) (b:Int) (v:Val):PQ G ncck_ [.eptr (ckC q sl st c6 c7 c8) 0,n11 ⟨3,(i:Int),b,v⟩] (iv d.init.kind):=by
 refine pcck_ fun Φ hh=>?_;unfold ccck_
 repeat' (first|simp -implicitDefEqProofs only[go_sem,ckC,n11,am_ h,f10]|refine ag_ (fun hb=>?_) (fun hb=>?_)|refine⟨fun hb=>?_,fun hb=>?_⟩|fail)
 exact hh _ ⟨_,_,rfl,rfl,.refl _⟩
theorem ap11 (q:QeaT) (hn:q.vars.Nodup) (sl:List StateT) (st:Int) (c6 c7 c8:AV) (a:ArgT) (k:Int) (ha:argS q a k=true):PQ G ncca_ [.eptr (ckC q sl st c6 c7 c8) 0,t28 (argT q a),iv k] (.tup [argV a,.nili]):=by
 refine pcca_ fun Φ h=>?_;unfold ccca_;obtain⟨ak,n,v⟩:=a;unfold argS at ha;simp only at ha;have ek:∀k:Int,(k != k)=false:=fun k=>by simp
 by_cases h1:ak=1
 ·subst h1;rw[zG rfl] at ha;simp only[zK,zC] at ha;obtain⟨rfl,h2,rfl⟩:=ha;rw[show argT q ⟨1,0,v⟩=⟨1,[],v⟩ from rfl]
  repeat' (first|simp -implicitDefEqProofs only[go_sem,ckC,t28,ek]|refine ag_ (fun hb=>?_) (fun hb=>?_)|refine⟨fun hb=>?_,fun hb=>?_⟩|fail)
  exact h _ ⟨_,_,rfl,rfl,.refl _⟩
 rw[zF h1] at ha;by_cases h2:ak=2
 ·subst h2;rw[zG rfl] at ha;cases hq:at? q.quants n with
  | none=>rw[hq] at ha;cases ha
  | some y=>
   rw[hq] at ha;simp only[zK,zC,zU] at ha;obtain⟨rfl,rfl⟩:=ha;rw[show argT q ⟨2,n,v0⟩=⟨2,y.name,v0⟩ by simp [argT,hq]];obtain⟨i,rfl,hi⟩:=at?_some hq;have hm:=qf_ hn hi;have hk:=kqp_ (G:=G) q sl st c6 c7 c8 hi 0 v0;simp only[ckC,n11] at hk hm
   repeat' (first|simp -implicitDefEqProofs only[go_sem,ckC,t28,hm,ek]|refine ag_ (fun hb=>?_) (fun hb=>?_)|refine⟨fun hb=>?_,fun hb=>?_⟩|refine ac_ hk rfl rfl ?_|fail)
   exact h _ ⟨_,_,rfl,rfl,.refl _⟩
 rw[zF h2] at ha;by_cases h3:ak=3
 ·subst h3;rw[zG rfl] at ha;cases hq:at? q.frees n with
  | none=>rw[hq] at ha;cases ha
  | some y=>
   rw[hq] at ha;simp only[zK,zC,zU] at ha;obtain⟨rfl,rfl⟩:=ha;rw[show argT q ⟨3,n,v0⟩=⟨2,y.name,v0⟩ by simp [argT,hq]];obtain⟨i,rfl,hi⟩:=at?_some hq;have hm:=ff_ hn hi;have hk:=kfp_ (G:=G) q sl st c6 c7 c8 hi 0 v0;simp only[ckC,n11] at hk hm
   repeat' (first|simp -implicitDefEqProofs only[go_sem,ckC,t28,hm,ek]|refine ag_ (fun hb=>?_) (fun hb=>?_)|refine⟨fun hb=>?_,fun hb=>?_⟩|refine ac_ hk rfl rfl ?_|fail)
   exact h _ ⟨_,_,rfl,rfl,.refl _⟩
 rw[zF h3] at ha;simp only[zK,zC,zU] at ha;obtain⟨rfl,rfl,rfl⟩:=ha;rw[show argT q ⟨4,0,v0⟩=⟨3,[],v0⟩ from rfl]
 repeat' (first|simp -implicitDefEqProofs only[go_sem,ckC,t28,ek]|refine ag_ (fun hb=>?_) (fun hb=>?_)|refine⟨fun hb=>?_,fun hb=>?_⟩|fail)
 exact h _ ⟨_,_,rfl,rfl,.refl _⟩
theorem s1p_ (x s:SymT) (hx:x.args.length<9223372036854775807) (hs:s.args.length<9223372036854775807):PQ G nc10 [symV x,.eptr (iv s.event) 0,.eptr (symV s) 0] (.bool (decide (x=s))):=by
 have hc:=sEaAaAp_ (G:=G) x.args s.args hx hs;refine pccs1_ fun Φ h=>?_;unfold cccs1_;obtain⟨xe,xa⟩:=x;obtain⟨se,sa⟩:=s;simp only at hc;by_cases h1:xe=se
 ·subst h1;have e:decide ((⟨xe,xa⟩:SymT)=⟨xe,sa⟩)=decide (xa=sa):=by simp
  rw[e] at h
  repeat' (first|(simp -implicitDefEqProofs only[go_sem,symV,a_,show ((xe:Int)==xe)=true by simp])|refine ag_ (fun hb=>?_) (fun hb=>?_)|refine⟨fun hb=>?_,fun hb=>?_⟩|refine ac_ hc rfl rfl ?_|fail)
  exact h _ ⟨_,_,rfl,rfl,.refl _⟩
 ·have e:decide ((⟨xe,xa⟩:SymT)=⟨se,sa⟩)=false:=by simp [h1]
  rw[e] at h;have e1:(xe==se)=false:=by simpa using h1
  repeat' (first|simp -implicitDefEqProofs only[go_sem,symV,a_,e1]|refine ag_ (fun hb=>?_) (fun hb=>?_)|refine⟨fun hb=>?_,fun hb=>?_⟩|fail)
  exact h _ ⟨_,_,rfl,rfl,.refl _⟩
def putY (ys:List SymT) (s:SymT):List SymT:=if s∈ys then ys else ys++[s]
theorem il_ {s:SymT}:∀{l:List SymT} {j:Nat},l[j]? =some s→l.idxOf s≤j
 | [],_,h=>by cases h
 | x::r,0,h=>by cases h;simp
 | x::r,j+1,h=>by have:=il_ (l:=r) (j:=j) h;rw[List.idxOf_cons];cases (x==s) <;> simp <;> omega
theorem ii10 (ys:List SymT) (s:SymT):idxF (fun x=>decide (x=s)) ys=if s∈ys then ((ys.idxOf s:Nat):Int) else -1:=by
 split
 ·rename_i h;have hlt:=wP.2 h;refine ia10 (x:=s) (by rw[zY hlt,uM hlt]) (by simp) fun j y hj hy=>?_;rw[zO];rintro rfl;have:=il_ hy;omega
 ·rename_i h;refine in10 fun j y hj hy=>?_;rw[zO];rintro rfl;exact h (List.mem_of_getElem? hy)
theorem sa10 {q:QeaT} {s:SymT} (h:symS q s=true):∃(i:Nat) (d:DeclT),s.event=(i:Int)∧q.decls[i]? =some d∧d.types.length=s.args.length∧∀(j:Nat) a k,s.args[j]? =some a→d.types[j]? =some k→argS q a k=true:=by
 unfold symS at h;cases hd:at? q.decls s.event with
 | none=>rw[hd] at h;cases h
 | some d=>
  rw[hd] at h;simp only at h;obtain⟨i,hi,hx⟩:=at?_some hd;have key:∀(l:List ArgT) (k:List Int),zipB (argS q) l k=true→k.length=l.length∧∀(j:Nat) a x,l[j]? =some a→k[j]? =some x→argS q a x=true:=by
   intro l
   induction l with
   | nil=>intro k h;cases k with
    | nil=>exact⟨rfl,fun j a x ha=>by cases ha⟩
    | cons b r=>simp [zipB] at h
   | cons a r ih=>intro k h;cases k with
    | nil=>simp [zipB] at h
    | cons b s=>
     rw[zipB,zK] at h;obtain⟨h1,h2⟩:=ih s h.2;refine⟨by simp [h1],fun j y x hy hx=>?_⟩;cases j with
     | zero=>cases hy;cases hx;exact h.1
     | succ j=>exact h2 j y x hy hx
  obtain⟨k1,k2⟩:=key _ _ h;exact⟨i,d,hi,hx,k1,k2⟩
