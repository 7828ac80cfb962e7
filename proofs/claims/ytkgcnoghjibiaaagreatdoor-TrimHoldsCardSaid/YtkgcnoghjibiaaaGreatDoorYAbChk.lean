/- Lemmas. -/
import Derived.Test.YtkgcnoghjibiaaaGreatDoorYAbView
import Derived.Stop.IfaceNil
set_option linter.unusedSimpArgs false
namespace Go.Proofs.YtkgcnoghjibiaaaGreatDoor.Ab
open Go Go.RowKit
section
variable {P:Program} {G:Nat->Option AV} {C:Ctx} {nm:N_} {F:Nat->Prop} {st:St} {a:Act} {w:World}
theorem vr11 {H:List (Nat×Box)} {c:AV}:∀{c':AV},view H c=some c'->∀i,i∈r14 c->∃b,hget H i=some b∧b.row=true:=by
 suffices h:∀(n:Nat) (c:AV),SizeOf.sizeOf c<n->∀{c':AV},view H c=some c'->∀i,i∈r14 c->∃b,hget H i=some b∧b.row=true from λ{_} hv=>h (SizeOf.sizeOf c+1) c (by omega) hv
 intro n
 induction n with
 | zero=>intro c h;omega
 | succ n ih=>
  have go:∀(cs:List AV),SizeOf.sizeOf cs<n+1->∀cs',view.go H cs=some cs'->∀i,i∈r14.go cs->∃b,hget H i=some b∧b.row=true:=by
   intro cs
   induction cs with
   | nil=>intro _ _ _ i hi;simp [r14.go] at hi
   | cons x xs ihx=>
    intro hs cs' h i hi;simp only[view.go] at h;split at h
    .rename_i y ys hy hys;simp only[r14.go,yB] at hi;simp at hs;rcases hi with hi | hi
     .exact ih x (by omega) hy i hi
     .exact ihx (by omega) ys hys i hi
    .cases h
  intro c hs c' h i hi;cases c <;> simp only[view,r14,zH,yZ,List.not_mem_nil] at h hi
  case agg cs=>obtain⟨cs',h,_⟩:=h;exact go cs (by simp at hs;omega) cs' h i hi
  case tup cs=>obtain⟨cs',h,_⟩:=h;exact go cs (by simp at hs;omega) cs' h i hi
  case fn f cs=>obtain⟨cs',h,_⟩:=h;exact go cs (by simp at hs;omega) cs' h i hi
  case iface t v=>obtain⟨x,h,_⟩:=h;exact ih v (by simp at hs;omega) h i hi
  case arr j k n=>
   subst hi;split at h
   .rename_i b hb;split at h
    .rename_i hrow;exact⟨b,hb,hrow.1⟩
    .cases h
   .cases h
theorem vr_ {H:List (Nat×Box)} {cs cs':List AV} (h:viewAll H cs=some cs'):∀i,i∈r11 cs->∃b,hget H i=some b∧b.row=true:=by
 induction cs generalizing cs' with
 | nil=>intro i hi;simp [r11] at hi
 | cons x xs ih=>
  intro i hi;simp only[viewAll] at h;split at h
  .rename_i y ys hy hys;simp only[r11,yB] at hi;rcases hi with hi | hi
   .exact vr11 hy i hi
   .exact ih hys i hi
  .cases h
theorem vr10 {F':Nat->Prop} (hbox:∀i b,hget st.heap i=some b->BoxR w F nm i b) (hF:∀b,F b->F' b) {cs cs':List AV} (h:viewAll st.heap cs=some cs')
  (hr:∀i,i∈r11 cs->∀m,nm i=some m->F' m.g) {us:List Value} (hu:cs.length=us.length) (hrd:∀(j:Nat) c u,cs[j]?=some c->us[j]?=some u->Rd w F nm c u):
  cs'.length=us.length∧∀(j:Nat) c u,cs'[j]?=some c->us[j]?=some u->Rd w F' n10 c u:=by
 induction cs generalizing cs' us with
 | nil=>simp only[viewAll,zZ] at h;subst h;exact⟨hu,by simp⟩
 | cons x xs ih=>
  simp only[viewAll] at h;split at h
  .rename_i y ys hy hys;simp only[zZ] at h;subst h;simp only[r11,yB] at hr;cases us with
   | nil=>simp at hu
   | cons u us=>
    obtain⟨h1,h2⟩:=ih hys (λi hi=>hr i (.inr hi)) (us:=us) (by simpa using hu) (λj c u hc hu=>hrd (j+1) c u (by simpa using hc) (by simpa using hu));refine⟨by simp [h1],λj c' u' hc hu'=>?_⟩;cases j with
    | zero=>
     simp at hc hu';subst hc;subst hu';exact (hrd 0 x u (by simp) (by simp)).view hbox hF hy (λi hi=>hr i (.inl hi))
    | succ j=>simp at hc hu';exact h2 j c' u' hc hu'
  .cases h
theorem RelX.thaws:∀(rows:List Nat) {st:St} {F:Nat->Prop},RelX G C nm F st a w->(∀i,i∈rows->∀b,hget st.heap i=some b->b.row=true)->
  ∃F',(∀b,F b->F' b)∧(∀i,i∈rows->∀b m,hget st.heap i=some b->nm i=some m->F' m.g)∧RelX G C nm F' (st.thaws rows) a w
 | [],st,F,h,_ =>⟨F,λ_ h=>h,by simp,h⟩
 | i::is,st,F,h,hrow=>by
  cases hi:hget st.heap i with
  | none=>
   have e:st.thaw1 i=st:=by simp [St.thaw1,hi]
   obtain⟨F',h1,h2,h3⟩:=RelX.thaws is h (λj hj=>hrow j (zR _ hj));refine⟨F',h1,λj hj b m hb hm=>?_,by simp only[St.thaws,e];exact h3⟩;rcases yV.1 hj with e | hj
   .subst e;rw[hi] at hb;cases hb
   .exact h2 j hj b m hb hm
  | some b=>
   have h':=h.thaw1 hi (hrow i (by simp) b hi);have get:∀j c,hget (st.thaw1 i).heap j=some c->j≠i∧∃c',hget st.heap j=some c'∧c=t36 i b c':=by
    intro j c hj;simp only[St.thaw1,hi] at hj;rw[ht10] at hj;split at hj
    .cases hj
    .rename_i hne;obtain⟨c',hc',rfl⟩:=zH.1 hj;exact⟨hne,c',hc',rfl⟩
   obtain⟨F',h1,h2,h3⟩:=RelX.thaws is h' (λj hj c hc=>by obtain⟨_,c',hc',rfl⟩:=get j c hc;have:=hrow j (zR _ hj) c' hc';simp [t36,this])
   refine⟨F',λk hk=>h1 k (.inl hk),λj hj c m hc hm=>?_,h3⟩;by_cases e:j=i
   .subst e;exact h1 _ (.inr ⟨m,hm,rfl⟩)
   .rcases yV.1 hj with e' | hj
    .exact absurd e' e
    .refine h2 j hj (t36 i b c) m ?_ hm;simp only[St.thaw1,hi,ht10,zK e,hc,yF]
def b_ (st:St) (args:List AV) (r:AV):St:=if flat r then st else st.thaws (r11 args)
def v10 (r:AV) (H:List (Nat×Box)) (args:List AV):Option (List AV):=if flat r then viewBs H args else viewAll H args
theorem cs20 (h:RelX G C nm F st a w) {f:Nat} {args vargs args':List AV} {us:List Value} (hl:args.length=us.length)
  (hrd:∀(j:Nat) c u,args[j]?=some c->us[j]?=some u->Rd w F nm c u) {r:AV} (hv:v10 r st.heap args=some vargs) (hfit:FitL vargs args') (hc:P_ P G f args' r)
  {d:Option Nat} {st':St} (hp:(b_ st args r).put d r=some st'):
  Calls P f us.toArray w λe w'=>∃v,e= .returned v∧Rel G C st' (a.put d v) w':=by
 obtain⟨hfl,hfa⟩:=hfit.at_;have argsR:∀F1:Nat->Prop,(vargs.length=us.length∧∀(j:Nat) c u,vargs[j]?=some c->us[j]?=some u->Rd w F1 n10 c u)->A10 w F1 args' us.toArray:=by
  rintro F1 ⟨hlen,hrv⟩;refine⟨by simp;omega,λj c u hc hu=>?_⟩;have hj:j<vargs.length:=by rw[hfl];exact (zX.1 hc).1
  have hjc:=zU hj;exact (hrv j _ u hjc (by simpa using hu)).fit (hfa j _ c hjc hc)
 have kept:∀{w':World},Below w.heap.size w w'->Kept C w':=λhb=>
  ⟨hb.os.trans h.keep.os,hb.tape.trans h.keep.tape,hb.output.trans h.keep.output,vY h.keep.size hb.size,λb hbs hbL=>(hb.block b (wJ hbs h.keep.size)).trans (h.keep.block b hbs hbL)⟩
 unfold v10 at hv;unfold b_ at hp;by_cases hfr:Ab.flat r=true
 .rw[zY hfr] at hv hp;have hlt:∀k,(F k∨Own nm st.heap k)->k<w.heap.size:=λk hk=>by
   rcases hk with hk | ⟨i,b,m,hi,hm,rfl⟩
   .exact h.good.1 k hk
   .exact h.lt hi hm
  have hg:Good w (λk=>F k∨Own nm st.heap k) G:=h.good.mono (λ_ _ =>rfl) (λ_ h=>.inl h) hlt;refine (hc w _ us.toArray hg (argsR _ (vr13 h.box (λ_ h=>.inl h) (λ_ h=>.inr h) hv hl hrd))).mono ?_;rintro e w' ⟨v,F2,rfl,hF2,hF2',hF2s,hr,hb⟩;refine⟨v,rfl,?_⟩;have h2:RelX G C nm F st a w':=h.world (kept hb) (λ_ h=>h) (λ_ h=>.inl h) (λb hb'=>wJ (h.good.1 b hb') hb.size) (λb hb'=>hb.block b hb');exact⟨nm,F,h2.put (hr.flat hfr) hp⟩
 .rw[zK hfr] at hv hp;obtain⟨F1,hF1,hrows,h1⟩:=RelX.thaws (G:=G) (C:=C) (nm:=nm) (a:=a) (w:=w) (r11 args) h (λi hi b hb=>by
   obtain⟨b',hb',hrow⟩:=vr_ hv i hi;rw[hb] at hb';cases hb';exact hrow)
  have hrv:=vr10 h.box hF1 hv (λi hi m hm=>by obtain⟨b,hb,_⟩:=vr_ hv i hi;exact hrows i hi b m hb hm) hl hrd
  refine (hc w F1 us.toArray ⟨h1.good.1,h1.good.2⟩ (argsR F1 hrv)).mono ?_;rintro e w' ⟨v,F2,rfl,hF2,hF2',hF2s,hr,hb⟩;refine⟨v,rfl,?_⟩;have h2:RelX G C nm F2 (st.thaws (r11 args)) a w':=h1.world (kept hb) hF2 hF2' hF2s (λb hb'=>hb.block b hb');exact⟨nm,F2,h2.put (hr.any nm) hp⟩
theorem cs16 (h:RelX G C nm F st a w) {f:Nat} {args vargs args':List AV} {us:List Value} (hl:args.length=us.length)
  (hrd:∀(j:Nat) c u,args[j]?=some c->us[j]?=some u->Rd w F nm c u) {r:AV} (hv:viewBs st.heap args=some vargs) (hfit:FitL vargs args') (hc:P10 P G f args' r)
  {d:Option Nat} {st':St} (hp:st.put d r=some st'):
  Calls P f us.toArray w λe w'=>∃v,e= .returned v∧Rel G C st' (a.put d v) w':=by
 obtain⟨hfl,hfa⟩:=hfit.at_;have argsR:∀F1:Nat->Prop,(vargs.length=us.length∧∀(j:Nat) c u,vargs[j]?=some c->us[j]?=some u->Rd w F1 n10 c u)->A10 w F1 args' us.toArray:=by
  rintro F1 ⟨hlen,hrv⟩;refine⟨by simp;omega,λj c u hc hu=>?_⟩;have hj:j<vargs.length:=by rw[hfl];exact (zX.1 hc).1
  have hjc:=zU hj;exact (hrv j _ u hjc (by simpa using hu)).fit (hfa j _ c hjc hc)
 have kept:∀{w':World},Below w.heap.size w w'->Kept C w':=λhb=>
  ⟨hb.os.trans h.keep.os,hb.tape.trans h.keep.tape,hb.output.trans h.keep.output,vY h.keep.size hb.size,λb hbs hbL=>(hb.block b (wJ hbs h.keep.size)).trans (h.keep.block b hbs hbL)⟩
 have hlt:∀k,(F k∨Own nm st.heap k)->k<w.heap.size:=λk hk=>by
  rcases hk with hk | ⟨i,b,m,hi,hm,rfl⟩
  .exact h.good.1 k hk
  .exact h.lt hi hm
 have hg:Good w (λk=>F k∨Own nm st.heap k) G:=h.good.mono (λ_ _ =>rfl) (λ_ h=>.inl h) hlt;refine (hc w _ us.toArray hg (argsR _ (vr13 h.box (λ_ h=>.inl h) (λ_ h=>.inr h) hv hl hrd))).mono ?_;rintro e w' ⟨v,F2,rfl,hF2,hF2s,hr,hb⟩;refine⟨v,rfl,?_⟩;have h2:RelX G C nm (λb=>F b∨F2 b) st a w':=h.world (kept hb) (λ_ h=>.inl h) (λb h=>h.elim .inl λh=>.inr (hF2 b h)) (λb hb'=>hb'.elim (λhb'=>wJ (h.good.1 b hb') hb.size) (hF2s b)) (λb hb'=>hb.block b hb');exact⟨nm,_,h2.put ((hr.mono (λ_ _ =>rfl) λ_ h=>.inr h).any nm) hp⟩
end
structure HB (w:World) (F:Nat->Prop) (nm:N_) (H:List (Nat×Box)):Prop where
 box:∀i b,hget H i=some b->BoxR w F nm i b
 inj:∀i j b c m m',hget H i=some b->hget H j=some c->nm i=some m->nm j=some m'->m.g=m'.g->i=j
 fr:∀i b m,hget H i=some b->nm i=some m->¬F m.g
def H_ (P:Program) (G:Nat->Option AV) (f:Nat) (args:List AV) (H:List (Nat×Box)) (r:AV) (H':List (Nat×Box)):Prop:=
 ∀(w:World) (F:Nat->Prop) (nm:N_) (vs:Array Value),Good w F G->(vs.size=args.length∧∀(j:Nat) c u,args[j]?=some c->vs[j]?=some u->Rd w F nm c u)->HB w F nm H->
  Calls P f vs w λe w'=>∃v F' nm',e= .returned v∧(∀b,F b->F' b)∧(∀b,F' b->F b∨w.heap.size<=b∨Own nm H b)∧(∀b,F' b->b<w'.heap.size)∧
   Rd w' F' nm' r v∧HB w' F' nm' H'∧(∀i b,hget H i=some b->b.row=false->nm' i=nm i∧∀b',hget H' i=some b'->b'.row=false)∧(∀k,Own nm' H' k->w.heap.size<=k∨Own nm H k)∧
   (w'.os=w.os∧w'.tape=w.tape∧w'.output=w.output∧w.heap.size<=w'.heap.size)∧∀k,k<w.heap.size->¬Own nm H k->w'.heap[k]? =w.heap[k]?
def look:List (Nat×Nat)->Nat->Option Nat
 | [],_ =>none
 | (a,b)::r,i=>if a=i then some b else look r i
def renO (I:List (Nat×Nat)):AV->Option AV
 | .arr i k n=>(look I i).map (.arr · k n)
 | .ref i k off=>(look I i).map (.ref · k off)
 | .agg cs=>(go I cs).map .agg
 | .tup cs=>(go I cs).map .tup
 | .fn f cs=>(go I cs).map (.fn f)
 | .iface t v=>(renO I v).map (.iface t)
 | .mapv i=>(look I i).map .mapv
 | v=>some v
where
 go (I:List (Nat×Nat)):List AV->Option (List AV)
 | []=>some []
 | c::cs=>match renO I c,go I cs with | some x,some xs=>some (x::xs) | _,_ =>none
def renB (I:List (Nat×Nat)) (b:Box):Option Box:=if b.row then some b else (renO.go I b.es).map λes=>{b with es:=es}
theorem renO.go_at {I:List (Nat×Nat)}:∀{cs cs':List AV},renO.go I cs=some cs'->cs.length=cs'.length∧∀(j:Nat) c,cs[j]?=some c->∃c',renO I c=some c'∧cs'[j]?=some c'
 | [],cs',h=>by simp only[renO.go,zZ] at h;subst h;simp
 | c::cs,cs',h=>by
  simp only[renO.go] at h;split at h
  .rename_i x xs hx hxs;simp only[zZ] at h;subst h;obtain⟨h1,h2⟩:=renO.go_at hxs;refine⟨by simp [h1],λj d hd=>?_⟩;cases j with
   | zero=>simp at hd;subst hd;exact⟨x,hx,rfl⟩
   | succ j=>simp at hd ⊢;exact h2 j d hd
  .cases h
theorem renO.go_back {I:List (Nat×Nat)} {cs cs':List AV} (h:renO.go I cs=some cs') {j:Nat} {c':AV} (hj:cs'[j]?=some c'):∃c,cs[j]?=some c∧renO I c=some c':=by
 obtain⟨h1,h2⟩:=renO.go_at h;have hlt:j<cs.length:=by rw[h1];exact (zX.1 hj).1
 obtain⟨x,hx,hx'⟩:=h2 j _ (zU hlt);rw[hj] at hx';cases hx';exact⟨_,zU hlt,hx⟩
theorem rc10 {I:List (Nat×Nat)} {c c':AV} (h:renO I c=some c'):renO.go I c.cells=some c'.cells:=by
 cases c <;> simp only[renO,zH,zZ] at h
 case agg cs=>obtain⟨x,h1,rfl⟩:=h;exact h1
 case tup cs=>obtain⟨x,h1,rfl⟩:=h;simp [AV.cells,renO.go,renO,h1]
 case fn f cs=>obtain⟨x,h1,rfl⟩:=h;simp [AV.cells,renO.go,renO,h1]
 case iface t v=>obtain⟨x,h1,rfl⟩:=h;simp [AV.cells,renO.go,renO,h1]
 case arr i k n=>obtain⟨x,h1,rfl⟩:=h;simp [AV.cells,renO.go,renO,h1]
 case ref i k n=>obtain⟨x,h1,rfl⟩:=h;simp [AV.cells,renO.go,renO,h1]
 case mapv i=>obtain⟨x,h1,rfl⟩:=h;simp [AV.cells,renO.go,renO,h1]
 all_goals subst h;simp [AV.cells,renO.go,renO]
section
variable {w:World} {F:Nat->Prop} {nm nm':N_} {I:List (Nat×Nat)}
theorem Rd.unren (hn:∀i j,look I i=some j->nm' i=nm j):∀{c c':AV} {v:Value},renO I c=some c'->Rd w F nm c' v->Rd w F nm' c v:=by
 suffices h:∀(n:Nat) (c:AV),SizeOf.sizeOf c<n->∀{c':AV} {v:Value},renO I c=some c'->Rd w F nm c' v->Rd w F nm' c v from λ{c _ _} h1 h2=>h (SizeOf.sizeOf c+1) c (by omega) h1 h2
 intro n
 induction n with
 | zero=>intro c h;omega
 | succ n ih=>
  have go:∀(cs cs':List AV) (us:List Value),SizeOf.sizeOf cs<n+1->renO.go I cs=some cs'->(∀(j:Nat) c u,cs'[j]?=some c->us[j]?=some u->Rd w F nm c u)->∀(j:Nat) c u,cs[j]?=some c->us[j]?=some u->Rd w F nm' c u:=by intro cs cs' us hs h hr j c u hc hu;obtain⟨x,hx,hx'⟩:=(renO.go_at h).2 j c hc;have:=List.sizeOf_lt_of_mem (zG hc);exact ih c (by omega) hx (hr j x u hx' hu)
  intro c hs c' v h hr;cases c <;> simp only[renO,zH,zZ] at h
  case top=>exact .top _ _
  case undef=>subst h;cases hr;exact .undef _
  case bool=>subst h;cases hr;exact .bool _ _
  case int=>subst h;cases hr;exact .int _ _ _
  case str=>subst h;cases hr;exact .str _ _
  case agg cs=>
   obtain⟨x,h1,rfl⟩:=h;cases hr with
   | agg _ _ us hl hr=>exact .agg _ _ _ ((renO.go_at h1).1.trans hl) (go cs x us (by simp at hs;omega) h1 hr)
  case tup cs=>
   obtain⟨x,h1,rfl⟩:=h;cases hr with
   | tup _ _ us hl hr=>exact .tup _ _ _ ((renO.go_at h1).1.trans hl) (go cs x us (by simp at hs;omega) h1 hr)
  case fn f cs=>
   obtain⟨x,h1,rfl⟩:=h;cases hr with
   | fn _ _ _ us hl hr=>exact .fn _ _ _ _ ((renO.go_at h1).1.trans hl) (go cs x us (by simp at hs;omega) h1 hr)
  case iface t x=>
   obtain⟨y,h1,rfl⟩:=h;cases hr with
   | iface _ _ _ _ hr=>exact .iface _ _ _ _ (ih x (by simp at hs;omega) h1 hr)
  case arr i k m=>
   obtain⟨j,h1,rfl⟩:=h;cases hr with
   | arr _ _ _ _ m' hi hn' hp=>exact .arr _ _ _ _ m' (by rw[hn i j h1];exact hi) hn' hp
   | arrE _ _ _ _ _ hk=>exact .arrE _ _ _ _ _ hk
   | arrN=>exact .arrN _ _
  case ref i k off=>
   obtain⟨j,h1,rfl⟩:=h;cases hr with
   | ref _ _ _ _ m' hi=>exact .ref _ _ _ _ m' (by rw[hn i j h1];exact hi)
  case seq=>subst h;cases hr with
   | seq0=>exact .seq0 _ _ _ _
   | seq _ _ _ g o cap u h0 hF hc hm hsz hw h1 hr=>exact .seq _ _ _ _ _ _ u h0 hF hc hm hsz hw h1 hr
  case full=>subst h;cases hr with
   | full _ _ _ g o u h0 hF hm hsz hw h1 hr=>exact .full _ _ _ _ _ u h0 hF hm hsz hw h1 hr
  case nils=>subst h;cases hr;exact .nils _
  case eptr=>subst h;cases hr with
   | eptr _ _ _ g o u hF hw h1 hr=>exact .eptr _ _ _ _ _ u hF hw h1 hr
  case nilp=>subst h;cases hr;exact .nilp _
  case nilfn=>subst h;cases hr;exact .nilfn _
  case nili=>subst h;cases hr;exact .nili _
  case nilm=>subst h;cases hr;exact .nilm _
  case rawp b o=>subst h;cases hr;exact .rawp _ _ _
  case mapc es=>subst h;cases hr with
   | mapc _ _ g ents clock hF hh hbn hl ht hk hv=>exact .mapc _ _ _ ents clock hF hh hbn hl ht hk hv
  case mapv i=>
   obtain⟨j,h1,rfl⟩:=h;cases hr with
   | mapv _ _ m' hi=>exact .mapv _ _ m' (by rw[hn i j h1];exact hi)
theorem Rd.ren (hn:∀i j,look I i=some j->nm' j=nm i):∀{c c':AV} {v:Value},renO I c=some c'->Rd w F nm c v->Rd w F nm' c' v:=by
 intro c c' v h hr
 induction hr generalizing c' with
 | top nm v=>simp only[renO,zZ] at h;subst h;exact .top _ _
 | undef nm=>simp only[renO,zZ] at h;subst h;exact .undef _
 | bool nm b=>simp only[renO,zZ] at h;subst h;exact .bool _ _
 | int nm k n=>simp only[renO,zZ] at h;subst h;exact .int _ _ _
 | str nm s=>simp only[renO,zZ] at h;subst h;exact .str _ _
 | agg nm cs us hl hr ih=>
  simp only[renO,zH] at h;obtain⟨x,h1,rfl⟩:=h;refine .agg _ _ _ ((renO.go_at h1).1.symm.trans hl) λj c u hc hu=>?_;obtain⟨d,hd,hd'⟩:=renO.go_back h1 hc;exact ih j d u hd hu hn hd'
 | tup nm cs us hl hr ih=>
  simp only[renO,zH] at h;obtain⟨x,h1,rfl⟩:=h;refine .tup _ _ _ ((renO.go_at h1).1.symm.trans hl) λj c u hc hu=>?_;obtain⟨d,hd,hd'⟩:=renO.go_back h1 hc;exact ih j d u hd hu hn hd'
 | seq0 nm sz a cap=>simp only[renO,zZ] at h;subst h;exact .seq0 _ _ _ _
 | full nm sz es g o u h0 hFg hm hs hw' h1 hr ih=>simp only[renO,zZ] at h;subst h;exact .full _ _ _ _ _ u h0 hFg hm hs hw' h1 hr
 | seq nm sz es g o cap u h0 hFg hc hm hs hw' h1 hr ih=>simp only[renO,zZ] at h;subst h;exact .seq _ _ _ _ _ _ u h0 hFg hc hm hs hw' h1 hr
 | nils nm=>simp only[renO,zZ] at h;subst h;exact .nils _
 | arr nm i k n m hi hk hp=>
  simp only[renO,zH] at h;obtain⟨j,h1,rfl⟩:=h;exact .arr _ _ _ _ m (by rw[hn i j h1];exact hi) hk hp
 | arrE nm i k a cap hk=>
  simp only[renO,zH] at h;obtain⟨j,h1,rfl⟩:=h;exact .arrE _ _ _ _ _ hk
 | arrN nm i=>
  simp only[renO,zH] at h;obtain⟨j,h1,rfl⟩:=h;exact .arrN _ _
 | ref nm i k off m hi=>
  simp only[renO,zH] at h;obtain⟨j,h1,rfl⟩:=h;exact .ref _ _ _ _ m (by rw[hn i j h1];exact hi)
 | eptr nm e off g o u hFg hw' h1 hr ih=>simp only[renO,zZ] at h;subst h;exact .eptr _ _ _ _ _ u hFg hw' h1 hr
 | nilp nm=>simp only[renO,zZ] at h;subst h;exact .nilp _
 | fn nm f cs us hl hr ih=>
  simp only[renO,zH] at h;obtain⟨x,h1,rfl⟩:=h;refine .fn _ _ _ _ ((renO.go_at h1).1.symm.trans hl) λj c u hc hu=>?_;obtain⟨d,hd,hd'⟩:=renO.go_back h1 hc;exact ih j d u hd hu hn hd'
 | nilfn nm=>simp only[renO,zZ] at h;subst h;exact .nilfn _
 | nili nm=>simp only[renO,zZ] at h;subst h;exact .nili _
 | nilm nm=>simp only[renO,zZ] at h;subst h;exact .nilm _
 | rawp nm b o=>simp only[renO,zZ] at h;subst h;exact .rawp _ _ _
 | mapc nm es g ents clock hFg hh hbn hl ht hk hv ihk ihv=>simp only[renO,zZ] at h;subst h;exact .mapc _ _ _ ents clock hFg hh hbn hl ht hk hv
 | mapv nm i m hi=>
  simp only[renO,zH] at h;obtain⟨j,h1,rfl⟩:=h;exact .mapv _ _ m (by rw[hn i j h1];exact hi)
 | iface nm t c u hr ih=>
  simp only[renO,zH] at h;obtain⟨x,h1,rfl⟩:=h;exact .iface _ _ _ _ (ih hn h1)
theorem rs11 {b b2:Box} (h:renB I b=some b2):b2.row=b.row∧b2.ty=b.ty∧b2.sz=b.sz∧b.es.length=b2.es.length∧(b.row=true->b2.es=b.es)∧(b.row=false->renO.go I b.es=some b2.es):=by
 unfold renB at h;split at h
 .rename_i hr;simp only[zZ] at h;subst h;simp [hr]
 .rename_i hr;obtain⟨es,h1,rfl⟩:=zH.1 h;exact⟨rfl,rfl,rfl,(renO.go_at h1).1,λe=>absurd e hr,λ_ =>h1⟩
theorem Lies.unren (hn:∀i j,look I i=some j->nm' i=nm j) {m:Nm} {b b2:Box} (hb:renB I b=some b2) (h:Lies w F nm m b2):Lies w F nm' m b:=by
 obtain⟨r1,r2,r3,r4,r5,r6⟩:=rs11 hb;rcases h with h | h
 case inr=>
  have hr:b.row=true:=r1 ▸ h.2.1;have:b2=b:=by simp only[renB,hr,xW,zZ] at hb;exact hb.symm
  subst this;exact .inr h
 obtain⟨h1,h2,h3,cs,h4,h5,h6,h7,h8,h9⟩:=h;refine .inl ⟨by rw[h1,r3],by rw[h2,r2],by rw[<-r3];exact h3,cs,h4,h5,by rw[r4];exact h6,h7,?_,?_⟩
 .intro e he;by_cases hr:b.row=true
  .rw[<-r3];exact h8 e (by rw[r5 hr];exact he)
  .obtain⟨k,hk⟩:=zM he;obtain⟨x,hx,hx'⟩:=(renO.go_at (r6 (by simpa using hr))).2 k e hk;rw[<-r3,<-h8 x (zG hx'),(renO.go_at (rc10 hx)).1]
 .intro k e j c he hc;by_cases hr:b.row=true
  .obtain⟨u,hu,hu1,hrd⟩:=h9 k e j c (by rw[r5 hr];exact he) hc;rw[zY (by rw[r1];exact hr)] at hrd;rw[zY hr];exact⟨u,hu,hu1,hrd⟩
  .obtain⟨x,hx,hx'⟩:=(renO.go_at (r6 (by simpa using hr))).2 k e he;obtain⟨y,hy,hy'⟩:=(renO.go_at (rc10 hx)).2 j c hc;obtain⟨u,hu,hu1,hrd⟩:=h9 k x j y hx' hy';rw[zK (by rw[r1];exact hr)] at hrd;rw[zK hr];exact⟨u,hu,hu1,hrd.unren hn hy⟩
theorem Lies.ren (hn:∀i j,look I i=some j->nm' j=nm i) {m:Nm} {b b2:Box} (hb:renB I b=some b2) (h:Lies w F nm m b):Lies w F nm' m b2:=by
 obtain⟨r1,r2,r3,r4,r5,r6⟩:=rs11 hb;rcases h with h | h
 case inr=>
  have:b2=b:=by simp only[renB,h.2.1,xW,zZ] at hb;exact hb.symm
  subst this;exact .inr h
 obtain⟨h1,h2,h3,cs,h4,h5,h6,h7,h8,h9⟩:=h;refine .inl ⟨by rw[h1,r3],by rw[h2,r2],by rw[r3];exact h3,cs,h4,h5,by rw[<-r4];exact h6,h7,?_,?_⟩
 .intro e he;by_cases hr:b.row=true
  .rw[r3];exact h8 e (by rw[<-r5 hr];exact he)
  .obtain⟨k,hk⟩:=zM he;obtain⟨x,hx,hx'⟩:=renO.go_back (r6 (by simpa using hr)) hk;rw[r3,<-h8 x (zG hx),(renO.go_at (rc10 hx')).1]
 .intro k e j c he hc;by_cases hr:b.row=true
  .obtain⟨u,hu,hu1,hrd⟩:=h9 k e j c (by rw[<-r5 hr];exact he) hc;rw[zY hr] at hrd;rw[zY (by rw[r1];exact hr)];exact⟨u,hu,hu1,hrd⟩
  .obtain⟨x,hx,hx'⟩:=renO.go_back (r6 (by simpa using hr)) he;obtain⟨y,hy,hy'⟩:=renO.go_back (rc10 hx') hc;obtain⟨u,hu,hu1,hrd⟩:=h9 k x j y hx hy;rw[zK hr] at hrd;rw[zK (by rw[r1];exact hr)];exact⟨u,hu,hu1,hrd.ren hn hy'⟩
end
def memb:List Nat->Nat->Bool
 | [],_ =>false
 | a::r,i=>if a=i then true else memb r i
def n15:List Nat->Bool
 | []=>true
 | a::r=>!memb r a&&n15 r
def l17:List (Nat×Nat)->Nat->Option Nat
 | [],_ =>none
 | (a,b)::r,j=>if b=j then some a else l17 r j
def ours:List (Nat×Nat)->List Nat
 | []=>[]
 | (_,b)::r=>b::ours r
def t29:List (Nat×Nat)->List Nat
 | []=>[]
 | (a,_)::r=>a::t29 r
def i14 (H:List (Nat×Box)) (i:Nat):Bool:=match hget H i with | some b=>!b.row | none=>false
def r_ (H:List (Nat×Box)):List (Nat×Nat)->List Nat
 | []=>[]
 | (i,j)::r=>if i14 H i then r_ H r else j::r_ H r
def purges:List Nat->AV->AV
 | [],v=>v
 | i::is,v=>purge i (purges is v)
def p15:List Nat->List (Nat×AV)->List (Nat×AV)
 | [],E=>E
 | i::is,E=>p13 i (p15 is E)
def p11:List Nat->Box->Box
 | [],b=>b
 | i::is,b=>p10 i (p11 is b)
def r23 (R A:List Nat):List (Nat×Box)->List (Nat×Box)
 | []=>[]
 | (j,b)::r=>if memb A j then r23 R A r else (j,p11 R b)::r23 R A r
def t42 (I:List (Nat×Nat)):List (Nat×Box)->Option (List (Nat×Box))
 | []=>some []
 | (i,b)::r=>match look I i,renB I b,t42 I r with
  | some j,some b2,some r2=>some ((j,b2)::r2)
  | _,_,_ =>none
def G_ (I:List (Nat×Nat)) (heap:List (Nat×Box)):List (Nat×Box)->Prop
 | []=>True
 | (i,b)::r=>(∃j b2,look I i=some j∧renB I b=some b2∧hget heap j=some b2)∧G_ I heap r
def n22 (N:Nat) (H:List (Nat×Box)):List (Nat×Nat)->Bool
 | []=>true
 | (i,j)::r=>((hget H i).isSome||decide (j<N))&&n22 N H r
def a17 (st:St) (I:List (Nat×Nat)) (H H2:List (Nat×Box)):St:=⟨st.N,p15 (r_ H I) st.env,happ H2 (r23 (r_ H I) (ours I) st.heap)⟩
theorem mm_ {l:List Nat} {i:Nat}:memb l i=true↔i∈l:=by
 induction l with
 | nil=>simp [memb]
 | cons a r ih=>
  simp only[memb,yV];split
  .rename_i h;simp [h]
  .rename_i h;rw[ih];exact⟨λx=>.inr x,λx=>x.elim (λe=>absurd e.symm h) id⟩
theorem nn_ {l:List Nat} (h:n15 l=true):l.Nodup:=by
 induction l with
 | nil=>exact List.nodup_nil
 | cons a r ih=>
  simp only[n15,zJ,yX] at h;exact sX.2 ⟨λhm=>by rw[mm_.2 hm] at h;simp at h,ih h.2⟩
theorem lm11 {I:List (Nat×Nat)} {i j:Nat} (h:look I i=some j):j∈ours I∧i∈t29 I:=by
 induction I with
 | nil=>simp [look] at h
 | cons x r ih=>
  obtain⟨a,b⟩:=x;simp only[look] at h;split at h
  .rename_i e;simp only[zZ] at h;subst e;subst h;simp [ours,t29]
  .simp only[ours,t29,yV];exact⟨.inr (ih h).1,.inr (ih h).2⟩
theorem lol_ {I:List (Nat×Nat)} (h2:(ours I).Nodup) {i j:Nat} (h:look I i=some j):l17 I j=some i:=by
 induction I with
 | nil=>simp [look] at h
 | cons x r ih=>
  obtain⟨a,b⟩:=x;simp only[ours,sX] at h2;simp only[look] at h;simp only[l17];split at h
  .rename_i e;simp only[zZ] at h;subst e;subst h;simp
  .rw[zK (λ(e:b=j)=>h2.1 (e ▸ (lm11 h).1))];exact ih h2.2 h
theorem lo10 {I:List (Nat×Nat)} (h1:(t29 I).Nodup) {i j:Nat} (h:l17 I j=some i):look I i=some j:=by
 have mem:∀{I:List (Nat×Nat)},l17 I j=some i->i∈t29 I:=by
  intro I
  induction I with
  | nil=>intro h;simp [l17] at h
  | cons x r ih=>
   obtain⟨a,b⟩:=x;intro h;simp only[l17] at h;split at h
   .simp only[zZ] at h;subst h;simp [t29]
   .simp only[t29,yV];exact .inr (ih h)
 induction I with
 | nil=>simp [l17] at h
 | cons x r ih=>
  obtain⟨a,b⟩:=x;simp only[t29,sX] at h1;simp only[l17] at h;simp only[look];split at h
  .rename_i e;simp only[zZ] at h;subst e;subst h;simp
  .rw[zK (λ(e:a=i)=>h1.1 (e ▸ mem h))];exact ih h1.2 h
theorem li10 {I:List (Nat×Nat)} (h2:(ours I).Nodup) {i i' j:Nat} (h:look I i=some j) (h':look I i'=some j):i=i':=by have e1:=lol_ h2 h;have e2:=lol_ h2 h';rw[e1] at e2;exact wL e2
theorem rm11 {H:List (Nat×Box)} {I:List (Nat×Nat)} {j:Nat} (h:j∈r_ H I):j∈ours I:=by
 induction I with
 | nil=>simp [r_] at h
 | cons x r ih=>
  obtain⟨a,b⟩:=x;simp only[r_] at h;simp only[ours,yV];split at h
  .exact .inr (ih h)
  .rcases yV.1 h with h | h
   .exact .inl h
   .exact .inr (ih h)
theorem ro_ {H:List (Nat×Box)} {I:List (Nat×Nat)} {i j:Nat} (h:look I i=some j) (hv:i14 H i=false):j∈r_ H I:=by
 induction I with
 | nil=>simp [look] at h
 | cons x r ih=>
  obtain⟨a,b⟩:=x;simp only[look] at h;simp only[r_];split at h
  .rename_i e;subst e;simp only[zZ] at h;subst h;rw[zK (by simp [hv])];simp
  .split
   .exact ih h
   .exact zR _ (ih h)
theorem G_.at_ {I:List (Nat×Nat)} {heap H:List (Nat×Box)} (h:G_ I heap H) {i:Nat} {b:Box} (hi:hget H i=some b):∃j b2,look I i=some j∧renB I b=some b2∧hget heap j=some b2:=by
 induction H with
 | nil=>simp [hget] at hi
 | cons x r ih=>
  obtain⟨k,c⟩:=x;simp only[hget] at hi;split at hi
  .rename_i e;simp only[zZ] at hi;subst e;subst hi;exact h.1
  .exact ih h.2 hi
theorem na14 {N:Nat} {H:List (Nat×Box)} {I:List (Nat×Nat)} (h:n22 N H I=true) {i j:Nat} (hi:look I i=some j) (hn:hget H i=none):j<N:=by
 induction I with
 | nil=>simp [look] at hi
 | cons x r ih=>
  obtain⟨a,b⟩:=x;simp only[n22,zJ,wH,zW] at h;simp only[look] at hi;split at hi
  .rename_i e;simp only[zZ] at hi;subst e;subst hi;rcases h.1 with h1 | h1
   .rw[hn] at h1;cases h1
   .exact h1
  .exact ih h.2 hi
theorem ta_ {I:List (Nat×Nat)} {H H2:List (Nat×Box)} (h:t42 I H=some H2) {j:Nat} {b2:Box} (hj:hget H2 j=some b2):∃i b,look I i=some j∧hget H i=some b∧renB I b=some b2:=by
 induction H generalizing H2 with
 | nil=>simp only[t42,zZ] at h;subst h;simp [hget] at hj
 | cons x r ih=>
  obtain⟨k,c⟩:=x;simp only[t42] at h;split at h
  .rename_i j' b' r2 e1 e2 e3;simp only[zZ] at h;subst h;simp only[hget] at hj;split at hj
   .rename_i e;simp only[zZ] at hj;subst e;subst hj;exact⟨k,c,e1,by simp [hget],e2⟩
   .rename_i hne;obtain⟨i,b,g1,g2,g3⟩:=ih e3 hj;refine⟨i,b,g1,?_,g3⟩;simp only[hget];rw[zK (λe=>by subst e;rw[e1] at g1;exact hne (wL g1))];exact g2
  .cases h
theorem pr_ (R:List Nat) (b:Box):(p11 R b).row=b.row:=by
 induction R with
 | nil=>rfl
 | cons i is ih=>simp only[p11,p10];split <;> simp_all
theorem pn10 (R:List Nat) (b:Box) (h:b.row=true):(p11 R b)=b:=by
 induction R with
 | nil=>rfl
 | cons i is ih=>simp only[p11,p10,ih,h,xW]
theorem hr10 (R A:List Nat) (H:List (Nat×Box)) (j:Nat) {b:Box} (h:hget (r23 R A H) j=some b):memb A j=false∧∃c,hget H j=some c∧b=p11 R c:=by
 induction H with
 | nil=>simp [r23,hget] at h
 | cons x r ih=>
  obtain⟨k,c⟩:=x;simp only[r23] at h;split at h
  .rename_i hk;obtain⟨h1,c',h2,h3⟩:=ih h;refine⟨h1,c',?_,h3⟩;simp only[hget];rw[zK (λe=>by subst e;rw[hk] at h1;cases h1)];exact h2
  .rename_i hk;simp only[hget] at h ⊢;split at h
   .rename_i e;subst e;simp only[zZ] at h;exact⟨by simpa using hk,c,by simp,h.symm⟩
   .rename_i e;rw[zK e];exact ih h
theorem ep10 (R:List Nat) (E:List (Nat×AV)) (t:Nat):eget (p15 R E) t=purges R (eget E t):=by
 induction R with
 | nil=>rfl
 | cons i is ih=>simp only[p15,purges,ep_,ih]
section
variable {P:Program} {G:Nat->Option AV} {C:Ctx} {nm nm':N_} {F F':Nat->Prop} {st:St} {a:Act} {w:World}
theorem Rd.purges {c:AV} {v:Value}:∀(R:List Nat) {nm nm':N_},Rd w F nm c v->(∀j,j∉R->nm' j=nm j)->Rd w F nm' (Ab.purges R c) v
 | [],nm,nm',h,hn=>by have:nm'=nm:=funext λj=>hn j (by simp);rw[this];exact h
 | i::is,nm,nm',h,hn=>by
  have h1:=Rd.purges is (nm':=λj=>if j=i then nm j else nm' j) h (λj hj=>by
   by_cases e:j=i
   .simp [e]
   .simp only[e,yI];exact hn j (by simp [e,hj]))
  exact h1.purge (i:=i) λj hj=>by simp [hj]
theorem Lies.purges {m:Nm} {b:Box}:∀(R:List Nat) {nm nm':N_},Lies w F nm m b->(∀j,j∉R->nm' j=nm j)->Lies w F nm' m (p11 R b)
 | [],nm,nm',h,hn=>by have:nm'=nm:=funext λj=>hn j (by simp);rw[this];exact h
 | i::is,nm,nm',h,hn=>by
  have h1:=Lies.purges is (nm':=λj=>if j=i then nm j else nm' j) h (λj hj=>by
   by_cases e:j=i
   .simp [e]
   .simp only[e,yI];exact hn j (by simp [e,hj]))
  exact h1.purge (i:=i) λj hj=>by simp [hj]
theorem cs17 (h:RelX G C nm F st a w) {f:Nat} {args args1 args':List AV} {us:List Value} (hl:args.length=us.length) (hrd:∀(j:Nat) c u,args[j]?=some c->us[j]?=some u->Rd w F nm c u)
  {I:List (Nat×Nat)} {H H' H2:List (Nat×Box)} {r r2:AV} (hfit:FitL args args1) (hargs:renO.go I args'=some args1) (hgive:G_ I st.heap H) (hd1:n15 (ours I)=true) (hd2:n15 (t29 I)=true) (hnew:n22 st.N H I=true)
  (hc:H_ P G f args' H r H') (hr:renO I r=some r2) (htake:t42 I H'=some H2) {d:Option Nat} {st':St} (hp:(a17 st I H H2).put d r2=some st'):
  Calls P f us.toArray w λe w'=>∃v,e= .returned v∧Rel G C st' (a.put d v) w':=by
 have n1:=nn_ hd1;have n2:=nn_ hd2;let nI:N_:=λi=>match look I i with | some j=>nm j | none=>none
 have hI:∀i j,look I i=some j->nI i=nm j:=λi j e=>by simp only[nI,e]
 obtain⟨hfl,hfa⟩:=hfit.at_;have hA:us.toArray.size=args'.length∧∀(j:Nat) c u,args'[j]?=some c->us.toArray[j]?=some u->Rd w F nI c u:=by
  obtain⟨e1,e2⟩:=renO.go_at hargs;refine⟨by simp;omega,λj c u hc hu=>?_⟩;obtain⟨x,hx,hx'⟩:=e2 j c hc;have hj:j<args.length:=by rw[hfl];exact (zX.1 hx').1
  have hjc:=zU hj;exact ((hrd j _ u hjc (by simpa using hu)).fit (hfa j _ x hjc hx')).unren hI hx
 have hB:HB w F nI H:=by
  refine⟨λi b hi=>?_,λi j b c m m' hi hj hm hm' hg=>?_,λi b m hi hm=>?_⟩
  .obtain⟨j,b2,e1,e2,e3⟩:=hgive.at_ hi;obtain⟨q1,q2,q3,q4,q5,q6⟩:=rs11 e2;rcases h.box j b2 e3 with ⟨g1,g2,g3,g4⟩ | ⟨m,g1,g2⟩
   .left;refine⟨by rw[hI i j e1];exact g1,yT (by rw[q4,g2];rfl),by rw[<-q1];exact g3,by rw[<-q3];exact g4⟩
   .exact .inr ⟨m,by rw[hI i j e1];exact g1,g2.unren hI e2⟩
  .obtain⟨j1,b1,e1,_,e3⟩:=hgive.at_ hi;obtain⟨j2,b2,e4,_,e6⟩:=hgive.at_ hj;rw[hI _ _ e1] at hm;rw[hI _ _ e4] at hm';obtain rfl:=h.inj j1 j2 b1 b2 m m' e3 e6 hm hm' hg;exact li10 n1 e1 e4
  .obtain⟨j1,b1,e1,_,e3⟩:=hgive.at_ hi;rw[hI _ _ e1] at hm;exact h.fr j1 b1 m e3 hm
 have ownI:∀k,Own nI H k->∃j b m,hget st.heap j=some b∧nm j=some m∧m.g=k∧j∈ours I:=by rintro k ⟨i,b,m,hi,hm,rfl⟩;obtain⟨j,b2,e1,_,e3⟩:=hgive.at_ hi;exact⟨j,b2,m,e3,by rw[<-hI i j e1];exact hm,rfl,(lm11 e1).1⟩
 refine (hc w F nI us.toArray h.good hA hB).mono ?_;rintro e w' ⟨v,F',nm',rfl,hF,hF',hFs,hrv,hB',hvar,hown,⟨hos,htape,hout,hsz⟩,hblk⟩;refine⟨v,rfl,?_⟩;let n2m:N_:=λj=>match l17 I j with | some i=>nm' i | none=>nm j
 have hN1:∀i j,look I i=some j->n2m j=nm' i:=λi j e=>by simp only[n2m,lol_ n1 e]
 have hN2:∀j,j∉r_ H I->n2m j=nm j:=λj hj=>by
  simp only[n2m];cases hlr:l17 I j with
  | none=>rfl
  | some i=>
   have hlk:=lo10 n2 hlr;cases hv:i14 H i with
   | false=>exact absurd (ro_ hlk hv) hj
   | true=>
    unfold i14 at hv;split at hv
    .rename_i b hb;simp only[(hvar i b hb (by simpa using hv)).1,hI i j hlk]
    .cases hv
 have notOwn:∀j b m,hget st.heap j=some b->nm j=some m->j∉ours I->¬Own nI H m.g:=by rintro j b m hj hm hni hO;obtain⟨j',b',m',g1,g2,g3,g4⟩:=ownI _ hO;exact hni (h.inj j j' b b' m m' hj g1 hm g2 g3.symm ▸ g4)
 have hFw:∀k,F k->w'.heap[k]? =w.heap[k]? :=λk hk=>hblk k (h.good.1 k hk) λhO=>by obtain⟨j',b',m',g1,g2,g3,g4⟩:=ownI _ hO;exact h.fr j' b' m' g1 g2 (g3 ▸ hk)
 have hk:Kept C w':=⟨hos.trans h.keep.os,htape.trans h.keep.tape,hout.trans h.keep.output,vY h.keep.size hsz,λb hb hL=>by
  rw[hblk b (wJ hb h.keep.size) (λhO=>by
   obtain⟨j',b',m',g1,g2,g3,g4⟩:=ownI _ hO;rcases h.own j' b' m' g1 g2 with g5 | g5
   .omega
   .exact hL (g3 ▸ g5))]
  exact h.keep.block b hb hL⟩
 -- the rows and variables b_ the call
 have get:∀j b,hget (a17 st I H H2).heap j=some b->(∃i b0,look I i=some j∧hget H' i=some b0∧renB I b0=some b)∨(j∉ours I∧∃c,hget st.heap j=some c∧b=p11 (r_ H I) c):=by
  intro j b hj;simp only[a17,hh10] at hj;split at hj
  .rename_i c hcj;simp only[zZ] at hj;subst hj;exact .inl (ta_ htake hcj)
  .obtain⟨g1,c,g2,g3⟩:=hr10 _ _ _ _ hj;exact .inr ⟨λhm=>(by rw[mm_.2 hm] at g1;cases g1),c,g2,g3⟩
 have blk:∀j c m1,j∉ours I->hget st.heap j=some c->nm j=some m1->w'.heap[m1.g]? =w.heap[m1.g]? :=λj c m1 hj hc hm=>hblk _ (h.lt hc hm) (notOwn j c m1 hc hm hj);have outside:∀j,j∉ours I->n2m j=nm j:=λj hj=>hN2 j λhm=>hj (rm11 hm);have theirsOwn:∀i j b0 m,look I i=some j->hget H' i=some b0->n2m j=some m->w.heap.size<=m.g∨∃j' b' m',hget st.heap j'=some b'∧nm j'=some m'∧m'.g=m.g∧j'∈ours I:=λi j b0 m e1 e2 hm=>by
  rw[hN1 i j e1] at hm;rcases hown m.g ⟨i,b0,m,e2,hm,rfl⟩ with g | g
  .exact .inl g
  .exact .inr (ownI _ g)
 have key:RelX G C n2m F' (a17 st I H H2) a w':=by
  refine⟨h.N,h.df,λt=>?_,λj b hj=>?_,λj j' b b' m m' hj hj' hm hm' hg=>?_,λj b m hj hm hf=>?_,λj b m hj hm=>?_,h.good.mono hFw hF hFs,λb hb=>hF b (h.f0 b hb),λb hb=>?_,hk,λj hj=>?_⟩
  .simp only[St.get,a17,ep10];exact ((h.env t).mono hFw hF).purges _ hN2
  .rcases get j b hj with ⟨i,b0,e1,e2,e3⟩ | ⟨hni,c,e1,rfl⟩
   .obtain⟨q1,q2,q3,q4,q5,q6⟩:=rs11 e3;rcases hB'.box i b0 e2 with ⟨g1,g2,g3,g4⟩ | ⟨m,g1,g2⟩
    .left;exact⟨by rw[hN1 i j e1];exact g1,yT (by rw[<-q4,g2];rfl),by rw[q1];exact g3,by rw[q3];exact g4⟩
    .exact .inr ⟨m,by rw[hN1 i j e1];exact g1,g2.ren hN1 e3⟩
   .rcases h.box j c e1 with ⟨g1,g2,g3,g4⟩ | ⟨m,g1,g2⟩
    .left;rw[pn10 _ _ g3];exact⟨by rw[outside j hni];exact g1,g2,g3,g4⟩
    .exact .inr ⟨m,by rw[outside j hni];exact g1,(g2.mono (blk j c m hni e1 g1) hFw hF).purges _ hN2⟩
  .rcases get j b hj with ⟨i,b0,e1,e2,e3⟩ | ⟨hni,c,e1,rfl⟩ <;> rcases get j' b' hj' with ⟨i',b0',e1',e2',e3'⟩ | ⟨hni',c',e1',rfl⟩
   .rw[hN1 i j e1] at hm;rw[hN1 i' j' e1'] at hm';obtain rfl:=hB'.inj i i' b0 b0' m m' e2 e2' hm hm' hg;rw[e1] at e1';exact wL e1'
   .exfalso;rw[outside j' hni'] at hm';rcases theirsOwn i j b0 m e1 e2 hm with g | ⟨j2,b2,m2,g1,g2,g3,g4⟩
    .have:=h.lt e1' hm';omega
    .exact hni' (h.inj j2 j' b2 c' m2 m' g1 e1' g2 hm' (by omega) ▸ g4)
   .exfalso;rw[outside j hni] at hm;rcases theirsOwn i' j' b0' m' e1' e2' hm' with g | ⟨j2,b2,m2,g1,g2,g3,g4⟩
    .have:=h.lt e1 hm;omega
    .exact hni (h.inj j2 j b2 c m2 m g1 e1 g2 hm (by omega) ▸ g4)
   .rw[outside j hni] at hm;rw[outside j' hni'] at hm';exact h.inj j j' c c' m m' e1 e1' hm hm' hg
  .rcases get j b hj with ⟨i,b0,e1,e2,e3⟩ | ⟨hni,c,e1,rfl⟩
   .rw[hN1 i j e1] at hm;exact hB'.fr i b0 m e2 hm hf
   .rw[outside j hni] at hm;rcases hF' _ hf with g | g | g
    .exact h.fr j c m e1 hm g
    .have:=h.lt e1 hm;omega
    .exact notOwn j c m e1 hm hni g
  .rcases get j b hj with ⟨i,b0,e1,e2,e3⟩ | ⟨hni,c,e1,rfl⟩
   .rcases theirsOwn i j b0 m e1 e2 hm with g | ⟨j2,b2,m2,g1,g2,g3,g4⟩
    .left;have:=h.keep.size;omega
    .rw[<-g3];exact h.own j2 b2 m2 g1 g2
   .rw[outside j hni] at hm;exact h.own j c m e1 hm
  .rcases hF' b hb with g | g | g
   .exact h.fb b g
   .right;left;have:=h.keep.size;omega
   .obtain⟨j',b',m',g1,g2,g3,g4⟩:=ownI _ g;rw[<-g3];exact .inr (h.own j' b' m' g1 g2)
  .obtain⟨v1,v2,v3⟩:=h.vn j hj;have notRow:j∉r_ H I->n2m j=C.n0 j:=λhn=>by rw[hN2 j hn];exact v2
   refine⟨v1,?_,λb hb=>?_⟩
   .by_cases hj':l17 I j=none
    .simp only[n2m,hj'];exact v2
    .obtain⟨i,hi⟩:=Option.ne_none_iff_exists'.1 hj';have hlk:=lo10 n2 hi;cases hH:hget H i with
     | none=>have:=na14 hnew hlk hH;omega
     | some b0=>
      obtain⟨j1,b1,e1,e2,e3⟩:=hgive.at_ hH;rw[hlk] at e1;cases e1;have hrow:=v3 b1 e3;rw[(rs11 e2).1] at hrow;rw[hN1 i j hlk,(hvar i b0 hH hrow).1,hI i j hlk];exact v2
   .rcases get j b hb with ⟨i,b0,e1,e2,e3⟩ | ⟨hni,c,e1,rfl⟩
    .rw[(rs11 e3).1];cases hH:hget H i with
     | none=>have:=na14 hnew e1 hH;omega
     | some b1=>
      obtain⟨j1,b2,e4,e5,e6⟩:=hgive.at_ hH;rw[e1] at e4;cases e4;have hrow:=v3 b2 e6;rw[(rs11 e5).1] at hrow;exact (hvar i b1 hH hrow).2 b0 e2
    .rw[pr_];exact v3 c e1
 exact⟨n2m,F',key.put (hrv.ren hN1 hr) hp⟩
end
def repV:AV->Value->Bool
 | .bool a,.bool b=>a==b
 | .int k a,.int k' b=>decide (k=k')&&a==b
 | .str s,.string b=>s==b.data.toList
 | .agg cs,.agg us=>go cs us.toList
 | .nils,.slice a n c=>a.isNone&&n==0&&c==0
 | .nilp,.pointer a=>a.isNone
 | .nilfn,.nilFunc=>true
 | .nili,.nilIface=>true
 | .nilm,.map a=>a.isNone
 | _,_ =>false
where
 go:List AV->List Value->Bool
 | [],[]=>true
 | c::cs,u::us=>repV c u&&go cs us
 | _,_ =>false
theorem rr_ {w:World} {F:Nat->Prop} {nm:N_}:∀{c:AV} {v:Value},repV c v=true->Rd w F nm c v:=by
 suffices h:∀(n:Nat) (c:AV),SizeOf.sizeOf c<n->∀{v:Value},repV c v=true->Rd w F nm c v from λ{c _} hv=>h (SizeOf.sizeOf c+1) c (by omega) hv
 intro n
 induction n with
 | zero=>intro c h;omega
 | succ n ih=>
  intro c hs v h;cases c <;> cases v <;> simp only[repV,zJ,zW,zB,zF] at h
  case bool.bool=>subst h;exact .bool _ _
  case int.int=>obtain⟨rfl,rfl⟩:=h;exact .int _ _ _
  case str.string s b=>subst h;exact .str _ _
  case agg.agg cs us=>
   have go:∀(cs:List AV) (us:List Value),SizeOf.sizeOf cs<n+1->repV.go cs us=true->cs.length=us.length∧∀(j:Nat) c u,cs[j]?=some c->us[j]?=some u->Rd w F nm c u:=by
    intro cs
    induction cs with
    | nil=>intro us _ h;cases us with
     | nil=>simp
     | cons u us=>simp [repV.go] at h
    | cons x xs ihx=>
     intro us hs h;cases us with
     | nil=>simp [repV.go] at h
     | cons u us=>
      simp only[repV.go,zJ] at h;simp at hs;obtain⟨h1,h2⟩:=ihx us (by omega) h.2;refine⟨by simp [h1],λj c u' hc hu=>?_⟩;cases j with
      | zero=>simp at hc hu;subst hc;subst hu;exact ih x (by omega) h.1
      | succ j=>simp at hc hu;exact h2 j c u' hc hu
   obtain⟨h1,h2⟩:=go cs us.toList (by simp at hs;omega) h;exact .agg _ _ _ h1 h2
  case nils.slice a n c=>
   obtain⟨⟨h1,rfl⟩,rfl⟩:=h;cases a with
   | none=>exact .nils _
   | some a=>simp at h1
  case nilp.pointer a=>
   cases a with
   | none=>exact .nilp _
   | some a=>simp at h
  case nilfn.nilFunc=>exact .nilfn _
  case nili.nilIface=>exact .nili _
  case nilm.map a=>
   cases a with
   | none=>exact .nilm _
   | some a=>simp at h
def c_:Operand->Opd->Bool
 | .tmp t,.t n=>t==n
 | .const v,.k c=>repV c v
 | .func f,.f n=>f==n&&decide (n<fnB)
 | .global g,.g n=>g==n
 | _,_ =>false
def c13:List Operand->List Opd->Bool
 | [],[]=>true
 | x::xs,y::ys=>c_ x y&&c13 xs ys
 | _,_ =>false
def c21:Option Operand->Option Opd->Bool
 | none,none=>true
 | some x,some y=>c_ x y
 | _,_ =>false
section
variable {P:Program} {G:Nat->Option AV} {C:Ctx} {nm:N_} {F:Nat->Prop} {st:St} {a:Act} {w:World}
theorem RelX.opd (h:RelX G C nm F st a w) {x:Operand} {y:Opd} (hx:c_ x y=true):Rd w F nm (st.ev G y) (a.eval x):=by
 refine h.ev ?_;cases x <;> cases y <;> simp only[c_,zB,zF,zJ,zW] at hx ⊢
 .exact hx
 .exact λw F nm=>rr_ hx
 .exact hx
 .exact hx
theorem RelX.opds (h:RelX G C nm F st a w) {xs:List Operand} {ys:List Opd} (hx:c13 xs ys=true):
  (evs G st ys).length=(xs.map a.eval).length∧∀(j:Nat) c u,(evs G st ys)[j]?=some c->(xs.map a.eval)[j]?=some u->Rd w F nm c u:=by
 induction xs generalizing ys with
 | nil=>cases ys with
  | nil=>simp [evs]
  | cons y ys=>simp [c13] at hx
 | cons x xs ih=>
  cases ys with
  | nil=>simp [c13] at hx
  | cons y ys=>
   simp only[c13,zJ] at hx;obtain⟨h1,h2⟩:=ih hx.2;refine⟨by simp [evs,h1],λj c u hc hu=>?_⟩;cases j with
   | zero=>simp [evs] at hc hu;subst hc;subst hu;exact h.opd hx.1
   | succ j=>simp [evs] at hc hu;exact h2 j c u hc (by simpa using hu)
end
def i10 (P:Program) (t:Nat):Bool:=match P.underlying t with
 | some (.struct _) | some (.array ..) | none=>false
 | _ =>true
def i_ (P:Program) (t:Nat):Bool:=match P.underlying t with
 | some (.struct _) | some (.array ..)=>true
 | _ =>false
def szIs (P:Program) (t n:Nat):Bool:=match P.info? t with | some i=>i.size==n | none=>false
def z_ (P:Program) (t:Nat) (z:AV):Bool:=match P.info? t with
 | some i=>match i.zero with | some v=>repV z v | none=>false
 | none=>false
def b14 (P:Program) (t n:Nat):Bool:=match P.info? t with | some i=>i.bytes==n | none=>false
def s30 (P:Program) (t:Nat) (e:Nat):Bool:=match P.underlying t with | some (.slice x)=>x==e | _ =>false
def c15 (place:Nat->Option (Nat×Nat)):List (Nat×Operand)->List (Nat×Nat×Opd)->Bool
 | [],[]=>true
 | (i,x)::xs,(off,n,y)::ys=>(match place i with | some (f,m)=>f==off&&m==n | none=>false)&&c_ x y&&c15 place xs ys
 | _,_ =>false
def c19 (P:Program) (t:Nat) (zs:List AV) (ps:List (Nat×Operand)) (qs:List (Nat×Nat×Opd)):Bool:=
 match P.info? t,P.underlying t with
 | some it,some (.array _ e)=>match it.zero,P.info? e with
  | some z,some ie=>repV (.agg zs) z&&c15 (λi=>some (i*ie.size,ie.size)) ps qs
  | _,_ =>false
 | some it,some (.struct fields)=>match it.zero,fields.toList.mapM (λf=>(P.info? f.type).map λi=>(f.offset,i.size)) with
  | some z,some places=>repV (.agg zs) z&&c15 (places.toArray[·]?) ps qs
  | _,_ =>false
 | _,_ =>false
def c17:List (Nat×Operand)->List (Nat×Opd)->Bool
 | [],[]=>true
 | (i,x)::xs,(j,y)::ys=>i==j&&c_ x y&&c17 xs ys
 | _,_ =>false
def k12 (P:Program) (rec:Nat->Option (List Nat)):List Field->Nat->Option (List Nat)
 | [],_ =>some []
 | f::fs,off=>if f.name≠ "_" ∧f.offset=off then match rec f.type with
    | some k=>if szIs P f.type k.length then (k12 P rec fs (off+k.length)).map (k++·) else none
    | none=>none
  else none
def k10 (P:Program):Nat->Nat->Option (List Nat)
 | 0,_ =>none
 | d+1,t=>match P.underlying t with
  | some (.int _)=>some [0]
  | some .string=>some [1]
  | some .bool=>some [2]
  | some (.struct fs)=>if P.stoodInHeld t then none else k12 P (k10 P d) fs.toList 0
  | _ =>none
def b11 (P:Program) (f:Nat):Bool:=decide (f<fnB)&&match P.funcs[f]? with | some fn=>fn.body.isSome&& !(fn.name== "runtime.NumGoroutine") | none=>false
def c10 (P:Program) (o:Op) (c:AOp):Bool:=
 match o,c with
 | .move x,.mov y | .assign x,.mov y=>c_ x y
 | .move (.const (.slice none 0 0)),.nilrow _ sz | .assign (.const (.slice none 0 0)),.nilrow _ sz=>decide (0<sz)
 | .pick c a b,.pick c' a' b'=>c_ c c'&&c_ a a'&&c_ b b'
 | .alloc e,.alloc ty sz z=>e==ty&&z_ P e z&&fits z sz&&decide (0<sz)
 | .box e x,.box ty sz y=>e==ty&&c_ x y&&decide (0<sz)
 | .build t ps,.build zs qs=>c19 P t zs ps.toList qs
 | .buildSlice t n ps,.mkrow ty sz n' z qs=>s30 P t ty&&szIs P ty sz&&decide (0<sz)&&n==n'&&decide (n*sz<=16777216)&&z_ P ty (zV z)&&fits (zV z) sz&&c17 ps.toList qs
 | .load t p,.load q=>c_ p q&&i10 P t
 | .load t p,.loadN q n=>c_ p q&&i_ P t&&szIs P t n
 | .store t p x,.store q y n=>c_ p q&&c_ x y&&szIs P t n
 | .binOp op _ x y _,.bin op' x' y'=>decide (op=op')&&c_ x x'&&c_ y y'
 | .binOp op t x y _,.eqA neg ks x' y'=>decide (op=if neg then .neq else .eql)&&c_ x x'&&c_ y y'&&i_ P t&&decide (k10 P 20 t=some ks)&& !P.eqGuardType P.depth t
 | .binOp op t x y _,.eqB neg x' y'=>decide (op=if neg then .neq else .eql)&&c_ x x'&&c_ y y'&&(match P.underlying t with | some .bool=>true | _ =>false)
 | .binOp op t x y _,.eqI neg x' y'=>decide (op=if neg then .neq else .eql)&&c_ x x'&&c_ y y'&&(match y with | .const _ =>true | _ =>false)&&P.isIface t
 | .makeInterface t x,.mki t' y=>t==t'&&c_ x y&&(match P.underlying t with | some (.interface _)=>false | some _ =>true | none=>false)
 | .unOp op _ x,.un op' y=>decide (op=op')&&c_ x y
 | .convert src dst x,.conv k y=>(P.underlying src).isSome&&(match P.underlying dst with | some (.int k')=>decide (k=k') | _ =>false)&&c_ x y
 | .field t x i,.fld y off=>(match P.underlying t with | some (.struct fs)=>(match fs[i]? with | some f=>f.offset==off&&i10 P f.type | none=>false) | _ =>false)&&c_ x y
 | .fieldAddr t x i,.faddr y off=>(match P.underlying t with | some (.struct fs)=>(match fs[i]? with | some f=>f.offset==off&&(match P.info? f.type with | some i=>decide (0<i.size) | none=>false) | none=>false) | _ =>false)&&c_ x y
 | .indexAddr t x i,.iaddr sz y j=>(match P.underlying t with | some (.slice e)=>szIs P e sz&&decide (0<sz) | _ =>false)&&c_ x y&&c_ i j
 | .index t x i,.idx y j=>(match P.underlying t with | some .string=>true | _ =>false)&&c_ x y&&c_ i j
 | .slice t x lo hi none,.slc z y lo' hi'=>(match P.underlying t with | some .string=>z==0 | some (.slice e)=>szIs P e z&&decide (0<z) | _ =>false)&&c_ x y&&c21 lo lo'&&c21 hi hi'
 | .call {callee:=.builtin .len,args,argTypes},.len b y=>(match args.toList,argTypes.toList with | [x],[t]=>c_ x y&&(match P.underlying t with | some .string=>b | some (.slice _)=>!b | _ =>false) | _,_ =>false)
 | .call {callee:=.builtin .append,args,argTypes},.app e sz bytes y z=>(match args.toList,argTypes.toList with
  | [x,u],[t,t']=>t==t'&&c_ x y&&c_ u z&&s30 P t e&&szIs P e sz&&decide (0<sz)&&b14 P e bytes&&decide (0<bytes)&&(match P.info? e with | some i=>(match i.zero with | some z=>z.cells.size==sz | none=>false) | none=>false)
  | _,_ =>false)
 | .call {callee:=.value x,args,argTypes:=_},.call f ys=>(match x with | .func g=>g==f | _ =>false)&&c13 args.toList ys&&b11 P f
 | .call {callee:=.value x,args,argTypes:=_},.callv y ys=>c_ x y&&c13 args.toList ys
 | .call {callee:=.value x,args,argTypes:=_},.callB f ys=>(match x with | .func g=>g==f | _ =>false)&&c13 args.toList ys&&b11 P f
 | .call {callee:=.value x,args,argTypes:=_},.callvB y ys=>c_ x y&&c13 args.toList ys
 | _,.bad=>true
 | .makeSlice t n c,.mks e sz bytes z n' c'=>s30 P t e&&szIs P e sz&&decide (0<sz)&&b14 P e bytes&&decide (0<bytes)&&z_ P e z&&fits z sz&&c_ n n'&&c_ c c'
 | .slice t x none none none,.slcG n y=>(match P.underlying t with | some (.array m e)=>m==n&&szIs P e 1&&decide (n<=1048576) | _ =>false)&&c_ x y
 | .call {callee:=.builtin .max,args,argTypes:=_},.mx mn y z=>(match args.toList with | [u,v]=>!mn&&c_ u y&&c_ v z | _ =>false)
 | .call {callee:=.builtin .min,args,argTypes:=_},.mx mn y z=>(match args.toList with | [u,v]=>mn&&c_ u y&&c_ v z | _ =>false)
 | .range t x,.rng y=>(match P.underlying t with | some .string=>true | _ =>false)&&c_ x y
 | .next x is,.nxt y=>is&&c_ x y
 | .makeMap t none,.mkmap=>(match P.underlying t with | some (.map ..)=>true | _ =>false)
 | .lookup t x k ok,.mget ok' ag ks z y j=>ok==ok'&&c_ x y&&c_ k j&&(match P.underlying t with | some (.map kt et)=>i_ P kt==ag&&decide (k10 P 20 kt=some ks)&&z_ P et z | _ =>false)
 | .mapUpdate t x k v,.mput ag ks y j u=>c_ x y&&c_ k j&&c_ v u&&(match P.underlying t with | some (.map kt _)=>i_ P kt==ag&&decide (k10 P 20 kt=some ks) | _ =>false)
 | .insert t x k v,.mput ag ks y j u=>c_ x y&&c_ k j&&c_ v u&&(match P.underlying t with | some (.map kt _)=>i_ P kt==ag&&decide (k10 P 20 kt=some ks) | _ =>false)
 | .extract x i,.ext y j=>c_ x y&&i==j
 | .nilCheck x,.nchk y=>c_ x y
 | .makeFunc (.func f) first caps,.mkfn f' ys=>f'==f+fnB*first.size&&decide (f<fnB)&&c13 (first.toList++caps.toList) ys
 | _,_ =>false
