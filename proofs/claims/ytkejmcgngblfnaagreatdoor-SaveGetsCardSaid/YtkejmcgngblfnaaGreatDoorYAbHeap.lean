/-
  What a call of a function with a contract does to a state. The contract of a function to which rows and variables are handed over, to read and to write, and what a call of it does to a state. No claim is proved here.
-/
import Derived.Test.YtkejmcgngblfnaaGreatDoorYAbView
namespace Go.Proofs.YtkejmcgngblfnaaGreatDoor.Ab
open Go Go.RowKit
section
variable {P:Program} {G:Nat→Option AV} {C:Ctx} {nm:N_} {F:Nat→Prop} {st:St} {a:Act} {w:World}
theorem vr11 {H:List (Nat×Box)} {c:AV}:∀{c':AV},view H c=some c'→∀i,i∈r13 c→∃b,hget H i=some b∧b.row=true:=by
 suffices h:∀(n:Nat) (c:AV),SizeOf.sizeOf c<n→∀{c':AV},view H c=some c'→∀i,i∈r13 c→∃b,hget H i=some b∧b.row=true from fun {_} hv=>h (SizeOf.sizeOf c+1) c (by omega) hv
 intro n
 induction n with
 | zero=>intro c h;omega
 | succ n ih=>
  have go:∀(cs:List AV),SizeOf.sizeOf cs<n+1→∀cs',view.go H cs=some cs'→∀i,i∈r13.go cs→∃b,hget H i=some b∧b.row=true:=by
   intro cs
   induction cs with
   | nil=>intro _ _ _ i hi;simp [r13.go] at hi
   | cons x xs ihx=>
    intro hs cs' h i hi
    simp only[view.go] at h
    split at h
    ·rename_i y ys hy hys
     simp only[r13.go,List.mem_append] at hi
     simp at hs
     rcases hi with hi | hi
     ·exact ih x (by omega) hy i hi
     ·exact ihx (by omega) ys hys i hi
    ·cases h
  intro c hs c' h i hi
  cases c <;> simp only[view,r13,Option.map_eq_some_iff,List.mem_singleton,List.not_mem_nil] at h hi
  case agg cs=>obtain⟨cs',h,_⟩:=h;exact go cs (by simp at hs;omega) cs' h i hi
  case tup cs=>obtain⟨cs',h,_⟩:=h;exact go cs (by simp at hs;omega) cs' h i hi
  case fn f cs=>obtain⟨cs',h,_⟩:=h;exact go cs (by simp at hs;omega) cs' h i hi
  case iface t v=>obtain⟨x,h,_⟩:=h;exact ih v (by simp at hs;omega) h i hi
  case arr j k n=>
   subst hi
   split at h
   ·rename_i b hb
    split at h
    ·rename_i hrow;exact⟨b,hb,hrow.1⟩
    ·cases h
   ·cases h
theorem vr_ {H:List (Nat×Box)} {cs cs':List AV} (h:v10 H cs=some cs'):∀i,i∈r10 cs→∃b,hget H i=some b∧b.row=true:=by
 induction cs generalizing cs' with
 | nil=>intro i hi;simp [r10] at hi
 | cons x xs ih=>
  intro i hi
  simp only[v10] at h
  split at h
  ·rename_i y ys hy hys
   simp only[r10,List.mem_append] at hi
   rcases hi with hi | hi
   ·exact vr11 hy i hi
   ·exact ih hys i hi
  ·cases h
theorem vr10 {F':Nat→Prop} (hbox:∀i b,hget st.heap i=some b→BoxR w F nm i b) (hF:∀b,F b→F' b) {cs cs':List AV} (h:v10 st.heap cs=some cs')
  (hr:∀i,i∈r10 cs→∀m,nm i=some m→F' m.g) {us:List Value} (hu:cs.length=us.length) (hrd:∀(j:Nat) c u,cs[j]? =some c→us[j]? =some u→Rd w F nm c u):
  cs'.length=us.length∧∀(j:Nat) c u,cs'[j]? =some c→us[j]? =some u→Rd w F' n_ c u:=by
 induction cs generalizing cs' us with
 | nil=>simp only[v10,Option.some.injEq] at h;subst h;exact⟨hu,by simp⟩
 | cons x xs ih=>
  simp only[v10] at h
  split at h
  ·rename_i y ys hy hys
   simp only[Option.some.injEq] at h
   subst h
   simp only[r10,List.mem_append] at hr
   cases us with
   | nil=>simp at hu
   | cons u us=>
    obtain⟨h1,h2⟩:=ih hys (fun i hi=>hr i (.inr hi)) (us:=us) (by simpa using hu) (fun j c u hc hu=>hrd (j+1) c u (by simpa using hc) (by simpa using hu))
    refine⟨by simp [h1],fun j c' u' hc hu'=>?_⟩
    cases j with
    | zero=>
     simp at hc hu'
     subst hc;subst hu'
     exact (hrd 0 x u (by simp) (by simp)).view hbox hF hy (fun i hi=>hr i (.inl hi))
    | succ j=>simp at hc hu';exact h2 j c' u' hc hu'
  ·cases h
theorem RelX.thaws:∀(rows:List Nat) {st:St} {F:Nat→Prop},RelX G C nm F st a w→(∀i,i∈rows→∀b,hget st.heap i=some b→b.row=true)→
  ∃F',(∀b,F b→F' b)∧(∀i,i∈rows→∀b m,hget st.heap i=some b→nm i=some m→F' m.g)∧RelX G C nm F' (st.thaws rows) a w
 | [],st,F,h,_ =>⟨F,fun _ h=>h,by simp,h⟩
 | i::is,st,F,h,hrow=>by
  cases hi:hget st.heap i with
  | none=>
   have e:st.thaw1 i=st:=by simp [St.thaw1,hi]
   obtain⟨F',h1,h2,h3⟩:=RelX.thaws is h (fun j hj=>hrow j (List.mem_cons_of_mem _ hj))
   refine⟨F',h1,fun j hj b m hb hm=>?_,by simp only[St.thaws,e];exact h3⟩
   rcases List.mem_cons.1 hj with e | hj
   ·subst e;rw[hi] at hb;cases hb
   ·exact h2 j hj b m hb hm
  | some b=>
   have h':=h.thaw1 hi (hrow i (by simp) b hi)
   have get:∀j c,hget (st.thaw1 i).heap j=some c→j≠i∧∃c',hget st.heap j=some c'∧c=t14 i b c':=by
    intro j c hj
    simp only[St.thaw1,hi] at hj
    rw[ht10] at hj
    split at hj
    ·cases hj
    ·rename_i hne
     obtain⟨c',hc',rfl⟩:=Option.map_eq_some_iff.1 hj
     exact⟨hne,c',hc',rfl⟩
   obtain⟨F',h1,h2,h3⟩:=RelX.thaws is h' (fun j hj c hc=>by
    obtain⟨_,c',hc',rfl⟩:=get j c hc
    have:=hrow j (List.mem_cons_of_mem _ hj) c' hc'
    simp [t14,this])
   refine⟨F',fun k hk=>h1 k (.inl hk),fun j hj c m hc hm=>?_,h3⟩
   by_cases e:j=i
   ·subst e;exact h1 _ (.inr ⟨m,hm,rfl⟩)
   ·rcases List.mem_cons.1 hj with e' | hj
    ·exact absurd e' e
    ·refine h2 j hj (t14 i b c) m ?_ hm
     simp only[St.thaw1,hi,ht10,if_neg e,hc,Option.map_some]
def b11 (st:St) (args:List AV) (r:AV):St:=if flat r then st else st.thaws (r10 args)
def v13 (r:AV) (H:List (Nat×Box)) (args:List AV):Option (List AV):=if flat r then v11 H args else v10 H args
theorem cs20 (h:RelX G C nm F st a w) {f:Nat} {args vargs args':List AV} {us:List Value} (hl:args.length=us.length)
  (hrd:∀(j:Nat) c u,args[j]? =some c→us[j]? =some u→Rd w F nm c u) {r:AV} (hv:v13 r st.heap args=some vargs) (hfit:FitL vargs args') (hc:P_ P G f args' r)
  {d:Option Nat} {st':St} (hp:(b11 st args r).put d r=some st'):
  Calls P f us.toArray w fun e w'=>∃v,e= .returned v∧Rel G C st' (a.put d v) w':=by
 obtain⟨hfl,hfa⟩:=hfit.at_
 have argsR:∀F1:Nat→Prop,(vargs.length=us.length∧∀(j:Nat) c u,vargs[j]? =some c→us[j]? =some u→Rd w F1 n_ c u)→A10 w F1 args' us.toArray:=by
  rintro F1 ⟨hlen,hrv⟩
  refine⟨by simp;omega,fun j c u hc hu=>?_⟩
  have hj:j<vargs.length:=by rw[hfl];exact (List.getElem?_eq_some_iff.1 hc).1
  have hjc:=List.getElem?_eq_getElem hj
  exact (hrv j _ u hjc (by simpa using hu)).fit (hfa j _ c hjc hc)
 have kept:∀{w':World},Below w.heap.size w w'→Kept C w':=fun hb=>
  ⟨hb.os.trans h.keep.os,hb.tape.trans h.keep.tape,hb.output.trans h.keep.output,Nat.le_trans h.keep.size hb.size,fun b hbs hbL=>(hb.block b (Nat.lt_of_lt_of_le hbs h.keep.size)).trans (h.keep.block b hbs hbL)⟩
 unfold v13 at hv
 unfold b11 at hp
 by_cases hfr:Ab.flat r=true
 ·rw[if_pos hfr] at hv hp
  have hlt:∀k,(F k∨Own nm st.heap k)→k<w.heap.size:=fun k hk=>by
   rcases hk with hk | ⟨i,b,m,hi,hm,rfl⟩
   ·exact h.good.1 k hk
   ·exact h.lt hi hm
  have hg:Good w (fun k=>F k∨Own nm st.heap k) G:=h.good.mono (fun _ _ =>rfl) (fun _ h=>.inl h) hlt
  refine (hc w _ us.toArray hg (argsR _ (vr12 h.box (fun _ h=>.inl h) (fun _ h=>.inr h) hv hl hrd))).mono ?_
  rintro e w' ⟨v,F2,rfl,hF2,hF2',hF2s,hr,hb⟩
  refine⟨v,rfl,?_⟩
  have h2:RelX G C nm F st a w':=h.world (kept hb) (fun _ h=>h) (fun _ h=>.inl h) (fun b hb'=>Nat.lt_of_lt_of_le (h.good.1 b hb') hb.size) (fun b hb'=>hb.block b hb')
  exact⟨nm,F,h2.put (hr.flat hfr) hp⟩
 ·rw[if_neg hfr] at hv hp
  obtain⟨F1,hF1,hrows,h1⟩:=RelX.thaws (G:=G) (C:=C) (nm:=nm) (a:=a) (w:=w) (r10 args) h (fun i hi b hb=>by
   obtain⟨b',hb',hrow⟩:=vr_ hv i hi
   rw[hb] at hb';cases hb';exact hrow)
  have hrv:=vr10 h.box hF1 hv (fun i hi m hm=>by
   obtain⟨b,hb,_⟩:=vr_ hv i hi
   exact hrows i hi b m hb hm) hl hrd
  refine (hc w F1 us.toArray ⟨h1.good.1,h1.good.2⟩ (argsR F1 hrv)).mono ?_
  rintro e w' ⟨v,F2,rfl,hF2,hF2',hF2s,hr,hb⟩
  refine⟨v,rfl,?_⟩
  have h2:RelX G C nm F2 (st.thaws (r10 args)) a w':=h1.world (kept hb) hF2 hF2' hF2s (fun b hb'=>hb.block b hb')
  exact⟨nm,F2,h2.put (hr.any nm) hp⟩
theorem cs18 (h:RelX G C nm F st a w) {f:Nat} {args vargs args':List AV} {us:List Value} (hl:args.length=us.length)
  (hrd:∀(j:Nat) c u,args[j]? =some c→us[j]? =some u→Rd w F nm c u) {r:AV} (hv:v11 st.heap args=some vargs) (hfit:FitL vargs args') (hc:P10 P G f args' r)
  {d:Option Nat} {st':St} (hp:st.put d r=some st'):
  Calls P f us.toArray w fun e w'=>∃v,e= .returned v∧Rel G C st' (a.put d v) w':=by
 obtain⟨hfl,hfa⟩:=hfit.at_
 have argsR:∀F1:Nat→Prop,(vargs.length=us.length∧∀(j:Nat) c u,vargs[j]? =some c→us[j]? =some u→Rd w F1 n_ c u)→A10 w F1 args' us.toArray:=by
  rintro F1 ⟨hlen,hrv⟩
  refine⟨by simp;omega,fun j c u hc hu=>?_⟩
  have hj:j<vargs.length:=by rw[hfl];exact (List.getElem?_eq_some_iff.1 hc).1
  have hjc:=List.getElem?_eq_getElem hj
  exact (hrv j _ u hjc (by simpa using hu)).fit (hfa j _ c hjc hc)
 have kept:∀{w':World},Below w.heap.size w w'→Kept C w':=fun hb=>
  ⟨hb.os.trans h.keep.os,hb.tape.trans h.keep.tape,hb.output.trans h.keep.output,Nat.le_trans h.keep.size hb.size,fun b hbs hbL=>(hb.block b (Nat.lt_of_lt_of_le hbs h.keep.size)).trans (h.keep.block b hbs hbL)⟩
 have hlt:∀k,(F k∨Own nm st.heap k)→k<w.heap.size:=fun k hk=>by
  rcases hk with hk | ⟨i,b,m,hi,hm,rfl⟩
  ·exact h.good.1 k hk
  ·exact h.lt hi hm
 have hg:Good w (fun k=>F k∨Own nm st.heap k) G:=h.good.mono (fun _ _ =>rfl) (fun _ h=>.inl h) hlt
 refine (hc w _ us.toArray hg (argsR _ (vr12 h.box (fun _ h=>.inl h) (fun _ h=>.inr h) hv hl hrd))).mono ?_
 rintro e w' ⟨v,F2,rfl,hF2,hF2s,hr,hb⟩
 refine⟨v,rfl,?_⟩
 have h2:RelX G C nm (fun b=>F b∨F2 b) st a w':=h.world (kept hb) (fun _ h=>.inl h) (fun b h=>h.elim .inl fun h=>.inr (hF2 b h)) (fun b hb'=>hb'.elim (fun hb'=>Nat.lt_of_lt_of_le (h.good.1 b hb') hb.size) (hF2s b)) (fun b hb'=>hb.block b hb')
 exact⟨nm,_,h2.put ((hr.mono (fun _ _ =>rfl) fun _ h=>.inr h).any nm) hp⟩
end
end Go.Proofs.YtkejmcgngblfnaaGreatDoor.Ab
namespace Go.Proofs.YtkejmcgngblfnaaGreatDoor.Ab
open Go Go.RowKit
structure HB (w:World) (F:Nat→Prop) (nm:N_) (H:List (Nat×Box)):Prop where
 box:∀i b,hget H i=some b→BoxR w F nm i b
 inj:∀i j b c m m',hget H i=some b→hget H j=some c→nm i=some m→nm j=some m'→m.g=m'.g→i=j
 fr:∀i b m,hget H i=some b→nm i=some m→¬F m.g
def H_ (P:Program) (G:Nat→Option AV) (f:Nat) (args:List AV) (H:List (Nat×Box)) (r:AV) (H':List (Nat×Box)):Prop:=
 ∀(w:World) (F:Nat→Prop) (nm:N_) (vs:Array Value),Good w F G→(vs.size=args.length∧∀(j:Nat) c u,args[j]? =some c→vs[j]? =some u→Rd w F nm c u)→HB w F nm H→
  Calls P f vs w fun e w'=>∃v F' nm',e= .returned v∧(∀b,F b→F' b)∧(∀b,F' b→F b∨w.heap.size≤b∨Own nm H b)∧(∀b,F' b→b<w'.heap.size)∧
   Rd w' F' nm' r v∧HB w' F' nm' H'∧(∀i b,hget H i=some b→b.row=false→nm' i=nm i∧∀b',hget H' i=some b'→b'.row=false)∧(∀k,Own nm' H' k→w.heap.size≤k∨Own nm H k)∧
   (w'.os=w.os∧w'.tape=w.tape∧w'.output=w.output∧w.heap.size≤w'.heap.size)∧∀k,k<w.heap.size→¬Own nm H k→w'.heap[k]? =w.heap[k]?
def look:List (Nat×Nat)→Nat→Option Nat
 | [],_ =>none
 | (a,b)::r,i=>if a=i then some b else look r i
def renO (I:List (Nat×Nat)):AV→Option AV
 | .arr i k n=>(look I i).map (.arr · k n)
 | .ref i k off=>(look I i).map (.ref · k off)
 | .agg cs=>(go I cs).map .agg
 | .tup cs=>(go I cs).map .tup
 | .fn f cs=>(go I cs).map (.fn f)
 | .iface t v=>(renO I v).map (.iface t)
 | .mapv i=>(look I i).map .mapv
 | v=>some v
where
 go (I:List (Nat×Nat)):List AV→Option (List AV)
 | []=>some []
 | c::cs=>match renO I c,go I cs with | some x,some xs=>some (x::xs) | _,_ =>none
def renB (I:List (Nat×Nat)) (b:Box):Option Box:=if b.row then some b else (renO.go I b.es).map fun es=>{b with es:=es}
theorem renO.go_at {I:List (Nat×Nat)}:∀{cs cs':List AV},renO.go I cs=some cs'→cs.length=cs'.length∧∀(j:Nat) c,cs[j]? =some c→∃c',renO I c=some c'∧cs'[j]? =some c'
 | [],cs',h=>by simp only[renO.go,Option.some.injEq] at h;subst h;simp
 | c::cs,cs',h=>by
  simp only[renO.go] at h
  split at h
  ·rename_i x xs hx hxs
   simp only[Option.some.injEq] at h
   subst h
   obtain⟨h1,h2⟩:=renO.go_at hxs
   refine⟨by simp [h1],fun j d hd=>?_⟩
   cases j with
   | zero=>simp at hd;subst hd;exact⟨x,hx,rfl⟩
   | succ j=>simp at hd ⊢;exact h2 j d hd
  ·cases h
theorem renO.go_back {I:List (Nat×Nat)} {cs cs':List AV} (h:renO.go I cs=some cs') {j:Nat} {c':AV} (hj:cs'[j]? =some c'):∃c,cs[j]? =some c∧renO I c=some c':=by
 obtain⟨h1,h2⟩:=renO.go_at h
 have hlt:j<cs.length:=by rw[h1];exact (List.getElem?_eq_some_iff.1 hj).1
 obtain⟨x,hx,hx'⟩:=h2 j _ (List.getElem?_eq_getElem hlt)
 rw[hj] at hx'
 cases hx'
 exact⟨_,List.getElem?_eq_getElem hlt,hx⟩
theorem rc_ {I:List (Nat×Nat)} {c c':AV} (h:renO I c=some c'):renO.go I c.cells=some c'.cells:=by
 cases c <;> simp only[renO,Option.map_eq_some_iff,Option.some.injEq] at h
 case agg cs=>obtain⟨x,h1,rfl⟩:=h;exact h1
 case tup cs=>obtain⟨x,h1,rfl⟩:=h;simp [AV.cells,renO.go,renO,h1]
 case fn f cs=>obtain⟨x,h1,rfl⟩:=h;simp [AV.cells,renO.go,renO,h1]
 case iface t v=>obtain⟨x,h1,rfl⟩:=h;simp [AV.cells,renO.go,renO,h1]
 case arr i k n=>obtain⟨x,h1,rfl⟩:=h;simp [AV.cells,renO.go,renO,h1]
 case ref i k n=>obtain⟨x,h1,rfl⟩:=h;simp [AV.cells,renO.go,renO,h1]
 case mapv i=>obtain⟨x,h1,rfl⟩:=h;simp [AV.cells,renO.go,renO,h1]
 all_goals subst h;simp [AV.cells,renO.go,renO]
section
variable {w:World} {F:Nat→Prop} {nm nm':N_} {I:List (Nat×Nat)}
theorem Rd.unren (hn:∀i j,look I i=some j→nm' i=nm j):∀{c c':AV} {v:Value},renO I c=some c'→Rd w F nm c' v→Rd w F nm' c v:=by
 suffices h:∀(n:Nat) (c:AV),SizeOf.sizeOf c<n→∀{c':AV} {v:Value},renO I c=some c'→Rd w F nm c' v→Rd w F nm' c v from fun {c _ _} h1 h2=>h (SizeOf.sizeOf c+1) c (by omega) h1 h2
 intro n
 induction n with
 | zero=>intro c h;omega
 | succ n ih=>
  have go:∀(cs cs':List AV) (us:List Value),SizeOf.sizeOf cs<n+1→renO.go I cs=some cs'→(∀(j:Nat) c u,cs'[j]? =some c→us[j]? =some u→Rd w F nm c u)→∀(j:Nat) c u,cs[j]? =some c→us[j]? =some u→Rd w F nm' c u:=by
   intro cs cs' us hs h hr j c u hc hu
   obtain⟨x,hx,hx'⟩:=(renO.go_at h).2 j c hc
   have:=List.sizeOf_lt_of_mem (List.mem_of_getElem? hc)
   exact ih c (by omega) hx (hr j x u hx' hu)
  intro c hs c' v h hr
  cases c <;> simp only[renO,Option.map_eq_some_iff,Option.some.injEq] at h
  case top=>exact .top _ _
  case undef=>subst h;cases hr;exact .undef _
  case bool=>subst h;cases hr;exact .bool _ _
  case int=>subst h;cases hr;exact .int _ _ _
  case str=>subst h;cases hr;exact .str _ _
  case agg cs=>
   obtain⟨x,h1,rfl⟩:=h
   cases hr with
   | agg _ _ us hl hr=>exact .agg _ _ _ ((renO.go_at h1).1.trans hl) (go cs x us (by simp at hs;omega) h1 hr)
  case tup cs=>
   obtain⟨x,h1,rfl⟩:=h
   cases hr with
   | tup _ _ us hl hr=>exact .tup _ _ _ ((renO.go_at h1).1.trans hl) (go cs x us (by simp at hs;omega) h1 hr)
  case fn f cs=>
   obtain⟨x,h1,rfl⟩:=h
   cases hr with
   | fn _ _ _ us hl hr=>exact .fn _ _ _ _ ((renO.go_at h1).1.trans hl) (go cs x us (by simp at hs;omega) h1 hr)
  case iface t x=>
   obtain⟨y,h1,rfl⟩:=h
   cases hr with
   | iface _ _ _ _ hr=>exact .iface _ _ _ _ (ih x (by simp at hs;omega) h1 hr)
  case arr i k m=>
   obtain⟨j,h1,rfl⟩:=h
   cases hr with
   | arr _ _ _ _ m' hi hn' hp=>exact .arr _ _ _ _ m' (by rw[hn i j h1];exact hi) hn' hp
   | arrE _ _ _ _ _ hk=>exact .arrE _ _ _ _ _ hk
   | arrN=>exact .arrN _ _
  case ref i k off=>
   obtain⟨j,h1,rfl⟩:=h
   cases hr with
   | ref _ _ _ _ m' hi=>exact .ref _ _ _ _ m' (by rw[hn i j h1];exact hi)
  case seq=>subst h;cases hr with
   | seq0=>exact .seq0 _ _ _ _
   | seq _ _ _ g o cap u h0 hF hc hm hsz hw h1 hr=>exact .seq _ _ _ _ _ _ u h0 hF hc hm hsz hw h1 hr
  case full=>subst h;cases hr with
   | full _ _ _ g o u h0 hF hm hsz hw h1 hr=>exact .full _ _ _ _ _ u h0 hF hm hsz hw h1 hr
  case nils=>subst h;cases hr;exact .nils _
  case eptr=>subst h;cases hr with
   | eptr _ _ _ g o u hF hw h1 hr=>exact .eptr _ _ _ _ _ u hF hw h1 hr
  case nilp=>subst h;cases hr;exact .nilp _
  case nilfn=>subst h;cases hr;exact .nilfn _
  case nili=>subst h;cases hr;exact .nili _
  case nilm=>subst h;cases hr;exact .nilm _
  case rawp b o=>subst h;cases hr;exact .rawp _ _ _
  case mapc es=>subst h;cases hr with
   | mapc _ _ g ents clock hF hh hbn hl ht hk hv=>exact .mapc _ _ _ ents clock hF hh hbn hl ht hk hv
  case mapv i=>
   obtain⟨j,h1,rfl⟩:=h
   cases hr with
   | mapv _ _ m' hi=>exact .mapv _ _ m' (by rw[hn i j h1];exact hi)
theorem Rd.ren (hn:∀i j,look I i=some j→nm' j=nm i):∀{c c':AV} {v:Value},renO I c=some c'→Rd w F nm c v→Rd w F nm' c' v:=by
 intro c c' v h hr
 induction hr generalizing c' with
 | top nm v=>simp only[renO,Option.some.injEq] at h;subst h;exact .top _ _
 | undef nm=>simp only[renO,Option.some.injEq] at h;subst h;exact .undef _
 | bool nm b=>simp only[renO,Option.some.injEq] at h;subst h;exact .bool _ _
 | int nm k n=>simp only[renO,Option.some.injEq] at h;subst h;exact .int _ _ _
 | str nm s=>simp only[renO,Option.some.injEq] at h;subst h;exact .str _ _
 | agg nm cs us hl hr ih=>
  simp only[renO,Option.map_eq_some_iff] at h
  obtain⟨x,h1,rfl⟩:=h
  refine .agg _ _ _ ((renO.go_at h1).1.symm.trans hl) fun j c u hc hu=>?_
  obtain⟨d,hd,hd'⟩:=renO.go_back h1 hc
  exact ih j d u hd hu hn hd'
 | tup nm cs us hl hr ih=>
  simp only[renO,Option.map_eq_some_iff] at h
  obtain⟨x,h1,rfl⟩:=h
  refine .tup _ _ _ ((renO.go_at h1).1.symm.trans hl) fun j c u hc hu=>?_
  obtain⟨d,hd,hd'⟩:=renO.go_back h1 hc
  exact ih j d u hd hu hn hd'
 | seq0 nm sz a cap=>simp only[renO,Option.some.injEq] at h;subst h;exact .seq0 _ _ _ _
 | full nm sz es g o u h0 hFg hm hs hw' h1 hr ih=>simp only[renO,Option.some.injEq] at h;subst h;exact .full _ _ _ _ _ u h0 hFg hm hs hw' h1 hr
 | seq nm sz es g o cap u h0 hFg hc hm hs hw' h1 hr ih=>simp only[renO,Option.some.injEq] at h;subst h;exact .seq _ _ _ _ _ _ u h0 hFg hc hm hs hw' h1 hr
 | nils nm=>simp only[renO,Option.some.injEq] at h;subst h;exact .nils _
 | arr nm i k n m hi hk hp=>
  simp only[renO,Option.map_eq_some_iff] at h
  obtain⟨j,h1,rfl⟩:=h
  exact .arr _ _ _ _ m (by rw[hn i j h1];exact hi) hk hp
 | arrE nm i k a cap hk=>
  simp only[renO,Option.map_eq_some_iff] at h
  obtain⟨j,h1,rfl⟩:=h
  exact .arrE _ _ _ _ _ hk
 | arrN nm i=>
  simp only[renO,Option.map_eq_some_iff] at h
  obtain⟨j,h1,rfl⟩:=h
  exact .arrN _ _
 | ref nm i k off m hi=>
  simp only[renO,Option.map_eq_some_iff] at h
  obtain⟨j,h1,rfl⟩:=h
  exact .ref _ _ _ _ m (by rw[hn i j h1];exact hi)
 | eptr nm e off g o u hFg hw' h1 hr ih=>simp only[renO,Option.some.injEq] at h;subst h;exact .eptr _ _ _ _ _ u hFg hw' h1 hr
 | nilp nm=>simp only[renO,Option.some.injEq] at h;subst h;exact .nilp _
 | fn nm f cs us hl hr ih=>
  simp only[renO,Option.map_eq_some_iff] at h
  obtain⟨x,h1,rfl⟩:=h
  refine .fn _ _ _ _ ((renO.go_at h1).1.symm.trans hl) fun j c u hc hu=>?_
  obtain⟨d,hd,hd'⟩:=renO.go_back h1 hc
  exact ih j d u hd hu hn hd'
 | nilfn nm=>simp only[renO,Option.some.injEq] at h;subst h;exact .nilfn _
 | nili nm=>simp only[renO,Option.some.injEq] at h;subst h;exact .nili _
 | nilm nm=>simp only[renO,Option.some.injEq] at h;subst h;exact .nilm _
 | rawp nm b o=>simp only[renO,Option.some.injEq] at h;subst h;exact .rawp _ _ _
 | mapc nm es g ents clock hFg hh hbn hl ht hk hv ihk ihv=>simp only[renO,Option.some.injEq] at h;subst h;exact .mapc _ _ _ ents clock hFg hh hbn hl ht hk hv
 | mapv nm i m hi=>
  simp only[renO,Option.map_eq_some_iff] at h
  obtain⟨j,h1,rfl⟩:=h
  exact .mapv _ _ m (by rw[hn i j h1];exact hi)
 | iface nm t c u hr ih=>
  simp only[renO,Option.map_eq_some_iff] at h
  obtain⟨x,h1,rfl⟩:=h
  exact .iface _ _ _ _ (ih hn h1)
theorem rs10 {b b2:Box} (h:renB I b=some b2):b2.row=b.row∧b2.ty=b.ty∧b2.sz=b.sz∧b.es.length=b2.es.length∧(b.row=true→b2.es=b.es)∧(b.row=false→renO.go I b.es=some b2.es):=by
 unfold renB at h
 split at h
 ·rename_i hr
  simp only[Option.some.injEq] at h
  subst h
  simp [hr]
 ·rename_i hr
  obtain⟨es,h1,rfl⟩:=Option.map_eq_some_iff.1 h
  exact⟨rfl,rfl,rfl,(renO.go_at h1).1,fun e=>absurd e hr,fun _ =>h1⟩
theorem Lies.unren (hn:∀i j,look I i=some j→nm' i=nm j) {m:Nm} {b b2:Box} (hb:renB I b=some b2) (h:Lies w F nm m b2):Lies w F nm' m b:=by
 obtain⟨r1,r2,r3,r4,r5,r6⟩:=rs10 hb
 rcases h with h | h
 case inr=>
  have hr:b.row=true:=r1 ▸ h.2.1
  have:b2=b:=by simp only[renB,hr,if_true,Option.some.injEq] at hb;exact hb.symm
  subst this
  exact .inr h
 obtain⟨h1,h2,h3,cs,h4,h5,h6,h7,h8,h9⟩:=h
 refine .inl ⟨by rw[h1,r3],by rw[h2,r2],by rw[←r3];exact h3,cs,h4,h5,by rw[r4];exact h6,h7,?_,?_⟩
 ·intro e he
  by_cases hr:b.row=true
  ·rw[←r3];exact h8 e (by rw[r5 hr];exact he)
  ·obtain⟨k,hk⟩:=List.getElem?_of_mem he
   obtain⟨x,hx,hx'⟩:=(renO.go_at (r6 (by simpa using hr))).2 k e hk
   rw[←r3,←h8 x (List.mem_of_getElem? hx'),(renO.go_at (rc_ hx)).1]
 ·intro k e j c he hc
  by_cases hr:b.row=true
  ·obtain⟨u,hu,hu1,hrd⟩:=h9 k e j c (by rw[r5 hr];exact he) hc
   rw[if_pos (by rw[r1];exact hr)] at hrd
   rw[if_pos hr]
   exact⟨u,hu,hu1,hrd⟩
  ·obtain⟨x,hx,hx'⟩:=(renO.go_at (r6 (by simpa using hr))).2 k e he
   obtain⟨y,hy,hy'⟩:=(renO.go_at (rc_ hx)).2 j c hc
   obtain⟨u,hu,hu1,hrd⟩:=h9 k x j y hx' hy'
   rw[if_neg (by rw[r1];exact hr)] at hrd
   rw[if_neg hr]
   exact⟨u,hu,hu1,hrd.unren hn hy⟩
theorem Lies.ren (hn:∀i j,look I i=some j→nm' j=nm i) {m:Nm} {b b2:Box} (hb:renB I b=some b2) (h:Lies w F nm m b):Lies w F nm' m b2:=by
 obtain⟨r1,r2,r3,r4,r5,r6⟩:=rs10 hb
 rcases h with h | h
 case inr=>
  have:b2=b:=by simp only[renB,h.2.1,if_true,Option.some.injEq] at hb;exact hb.symm
  subst this
  exact .inr h
 obtain⟨h1,h2,h3,cs,h4,h5,h6,h7,h8,h9⟩:=h
 refine .inl ⟨by rw[h1,r3],by rw[h2,r2],by rw[r3];exact h3,cs,h4,h5,by rw[←r4];exact h6,h7,?_,?_⟩
 ·intro e he
  by_cases hr:b.row=true
  ·rw[r3];exact h8 e (by rw[←r5 hr];exact he)
  ·obtain⟨k,hk⟩:=List.getElem?_of_mem he
   obtain⟨x,hx,hx'⟩:=renO.go_back (r6 (by simpa using hr)) hk
   rw[r3,←h8 x (List.mem_of_getElem? hx),(renO.go_at (rc_ hx')).1]
 ·intro k e j c he hc
  by_cases hr:b.row=true
  ·obtain⟨u,hu,hu1,hrd⟩:=h9 k e j c (by rw[←r5 hr];exact he) hc
   rw[if_pos hr] at hrd
   rw[if_pos (by rw[r1];exact hr)]
   exact⟨u,hu,hu1,hrd⟩
  ·obtain⟨x,hx,hx'⟩:=renO.go_back (r6 (by simpa using hr)) he
   obtain⟨y,hy,hy'⟩:=renO.go_back (rc_ hx') hc
   obtain⟨u,hu,hu1,hrd⟩:=h9 k x j y hx hy
   rw[if_neg hr] at hrd
   rw[if_neg (by rw[r1];exact hr)]
   exact⟨u,hu,hu1,hrd.ren hn hy'⟩
end
end Go.Proofs.YtkejmcgngblfnaaGreatDoor.Ab
