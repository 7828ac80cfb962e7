/-
  From what holds b11 a function's abstract code to the function's contract. No claim is proved here.
-/
import Derived.Test.YtkejmcgngblfnaaGreatDoorYAbCode
namespace Go.Proofs.YtkejmcgngblfnaaGreatDoor.Ab
open Go Go.RowKit
inductive ARes where
 | t (n:Nat)
 | cell (t:Nat)
 | cells (t n:Nat)
structure AFun where
 N:Nat
 k:Nat
 res:List ARes
 body:AC
def a11:Nat→List AV→List (Nat×AV)
 | _,[]=>[]
 | i,v::vs=>(i,v)::a11 (i+1) vs
def r12 (st:St):List ARes→Option (List AV)
 | []=>some []
 | .t n::rs=>match r12 st rs with | some vs=>some (eget st.env n::vs) | none=>none
 | .cell t::rs=>match a27 st.heap (eget st.env t),r12 st rs with | some v,some vs=>some (v::vs) | _,_ =>none
 | .cells t n::rs=>match a22 st.heap (eget st.env t) n,r12 st rs with | some v,some vs=>some (v::vs) | _,_ =>none
def one:List AV→AV
 | [v]=>v
 | vs=>.tup vs
def H12 (A:AFun) (r:AV) (st:St):Prop:=∃vs r',r12 st A.res=some vs∧view st.heap (one vs)=some r'∧Fit r' r
def Post (A:AFun) (r:AV):AE→St→Prop
 | .exit _,_ =>False
 | _,st=>H12 A r st
def Runs (P:Program) (G:Nat→Option AV) (A:AFun) (args:List AV) (r:AV):Prop:=
 awp P G A.body (Post A r) ⟨A.N,a11 0 args,[]⟩
def c14 (P:Program):List ResultVar→List ARes→Bool
 | [],[]=>true
 | .tmp t::rs,.t n::qs=>t==n&&c14 P rs qs
 | .cell a t::rs,.cell b::qs=>a==b&&i10 P t&&c14 P rs qs
 | .cell a t::rs,.cells b n::qs=>a==b&&i_ P t&&szIs P t n&&c14 P rs qs
 | _,_ =>false
def chkF (P:Program) (fn:Func) (A:AFun):Bool:=
 fn.ntmps==A.N&&decide (A.k≤A.N)&&c14 P fn.results.toList A.res&&(match fn.body with | some c=>chkC P c A.body | none=>false)
section
variable {P:Program} {G:Nat→Option AV}
theorem ag10 (vs:List AV) (i t:Nat):eget (a11 i vs) t=if i≤t then (vs[t - i]?).getD .top else .top:=by
 induction vs generalizing i with
 | nil=>simp [a11,eget]
 | cons v vs ih=>
  simp only[a11,eget]
  split
  ·rename_i e;subst e;simp
  ·rw[ih]
   by_cases h:i+1≤t
   ·rw[if_pos h,if_pos (by omega),show t - i=(t - (i+1))+1 from by omega,List.getElem?_cons_succ]
   ·rw[if_neg h,if_neg (by omega)]
theorem rs11 {C:Ctx} {nm:N_} {F:Nat→Prop} {st:St} {a:Act} {w:World} (h:RelX G C nm F st a w):∀(rs:List ResultVar) (qs:List ARes) (vs:List AV),c14 P rs qs=true→r12 st qs=some vs→
  ∃us:List Value,(rs.mapM (fun (x:ResultVar)=>(match x with | .tmp t=>pure (a.tmps.getD t undef) | .cell b t=>do loadVar t (←asAddr (a.tmps.getD b undef)):Sem Value))).run P w= .ok us w∧vs.length=us.length∧∀(j:Nat) c u,vs[j]? =some c→us[j]? =some u→Rd w F nm c u
 | [],[],vs,_,hv=>by simp only[r12,Option.some.injEq] at hv;subst hv;exact⟨[],rfl,rfl,by simp⟩
 | .tmp t::rs,.t n::qs,vs,hc,hv=>by
  simp only[c14,Bool.and_eq_true,beq_iff_eq] at hc
  obtain⟨rfl,hc⟩:=hc
  simp only[r12] at hv
  split at hv
  ·rename_i vs' hvs
   simp only[Option.some.injEq] at hv
   subst hv
   obtain⟨us,h1,h2,h3⟩:=rs11 h rs qs vs' hc hvs
   refine⟨a.tmps.getD t undef::us,by simp only[List.mapM_cons,Sem.run_bind,Sem.run_pure,Result.andThen_ok,h1],by simp [h2],fun j c u hc hu=>?_⟩
   cases j with
   | zero=>simp only[List.getElem?_cons_zero,Option.some.injEq] at hc hu;subst hc;subst hu;exact h.env t
   | succ j=>simp at hc hu;exact h3 j c u hc hu
  ·cases hv
 | .cell b t::rs,.cell b'::qs,vs,hc,hv=>by
  simp only[c14,Bool.and_eq_true,beq_iff_eq] at hc
  obtain⟨⟨rfl,hl⟩,hc⟩:=hc
  simp only[r12] at hv
  split at hv
  ·rename_i v vs' hld hvs
   simp only[Option.some.injEq] at hv
   subst hv
   obtain⟨us,h1,h2,h3⟩:=rs11 h rs qs vs' hc hvs
   obtain⟨r,hr,hrd⟩:=as15 (P:=P) h (h.env b) hld hl
   have hr':(do loadVar t (←asAddr (a.tmps.getD b undef)):Sem Value).run P w= .ok r w:=by
    obtain⟨cs,off,hcs⟩:∃cs off,h14 st.heap (st.get b)=some (cs,off):=by
     unfold a27 at hld
     split at hld
     ·rename_i cs off e;exact⟨cs,off,e⟩
     ·cases hld
    obtain⟨g,ad,e,_⟩:=hs10 h (h.env b) hcs
    rw[e] at hr ⊢
    exact hr
   refine⟨r::us,by simp only[List.mapM_cons,Sem.run_bind,hr',Sem.run_pure,Result.andThen_ok,h1],by simp [h2],fun j c u hc hu=>?_⟩
   cases j with
   | zero=>simp at hc hu;subst hc;subst hu;exact hrd
   | succ j=>simp at hc hu;exact h3 j c u hc hu
  ·cases hv
 | .cell b t::rs,.cells b' n::qs,vs,hc,hv=>by
  simp only[c14,Bool.and_eq_true,beq_iff_eq] at hc
  obtain⟨⟨⟨rfl,hl⟩,hsz⟩,hc⟩:=hc
  simp only[r12] at hv
  split at hv
  ·rename_i v vs' hld hvs
   simp only[Option.some.injEq] at hv
   subst hv
   obtain⟨us,h1,h2,h3⟩:=rs11 h rs qs vs' hc hvs
   obtain⟨r,hr,hrd⟩:=as14 (P:=P) h (h.env b) hld hl hsz
   have hr':(do loadVar t (←asAddr (a.tmps.getD b undef)):Sem Value).run P w= .ok r w:=by
    obtain⟨cs,off,hcs⟩:∃cs off,h14 st.heap (st.get b)=some (cs,off):=by
     unfold a22 at hld
     split at hld
     ·rename_i cs off e;exact⟨cs,off,e⟩
     ·cases hld
    obtain⟨g,ad,e,_⟩:=hs10 h (h.env b) hcs
    rw[e] at hr ⊢
    exact hr
   refine⟨r::us,by simp only[List.mapM_cons,Sem.run_bind,hr',Sem.run_pure,Result.andThen_ok,h1],by simp [h2],fun j c u hc hu=>?_⟩
   cases j with
   | zero=>simp at hc hu;subst hc;subst hu;exact hrd
   | succ j=>simp at hc hu;exact h3 j c u hc hu
  ·cases hv
 | [],_ ::_,_,hc,_ =>by simp [c14] at hc
 | .tmp _ ::_,[],_,hc,_ =>by simp [c14] at hc
 | .cell _ _ ::_,[],_,hc,_ =>by simp [c14] at hc
 | .tmp _ ::_,.cell _ ::_,_,hc,_ =>by simp [c14] at hc
 | .tmp _ ::_,.cells _ _ ::_,_,hc,_ =>by simp [c14] at hc
 | .cell _ _ ::_,.t _ ::_,_,hc,_ =>by simp [c14] at hc
def H10 (A:AFun) (r:AV) (H':List (Nat×Box)) (st:St):Prop:=∃st1 vs,Weak st st1∧r12 st1 A.res=some vs∧Fit (one vs) r∧∀i b,hget H' i=some b→hget st1.heap i=some b
def P12 (A:AFun) (r:AV) (H':List (Nat×Box)):AE→St→Prop
 | .exit _,_ =>False
 | _,st=>H10 A r H' st
def R_ (P:Program) (G:Nat→Option AV) (A:AFun) (args:List AV) (H:List (Nat×Box)) (r:AV) (H':List (Nat×Box)):Prop:=
 awp P G A.body (P12 A r H') ⟨A.N,a11 0 args,H⟩
def h12 (N:Nat):List (Nat×Box)→Bool
 | []=>true
 | (i,_)::r=>decide (N≤i)&&h12 N r
theorem ha_ {N:Nat} {H:List (Nat×Box)} (h:h12 N H=true) {i:Nat} {b:Box} (hi:hget H i=some b):N≤i:=by
 induction H with
 | nil=>simp [hget] at hi
 | cons x r ih=>
  obtain⟨j,c⟩:=x
  simp only[h12,Bool.and_eq_true,decide_eq_true_eq] at h
  simp only[hget] at hi
  split at hi
  ·rename_i e;subst e;exact h.1
  ·exact ih h.2 hi
theorem rr10 {fn:Func} {A:AFun} {C:Ctx} {nm:N_} {F:Nat→Prop} {st:St} {a:Act} {w:World} (hx:RelX G C nm F st a w) {xs:List AV} (hres:c14 P fn.results.toList A.res=true) (hxs:r12 st A.res=some xs):
  ∃v,(results fn a.tmps).run P w= .ok v w∧Rd w F nm (one xs) v:=by
 obtain⟨us,h1,h2,h3⟩:=rs11 (P:=P) hx fn.results.toList A.res xs hres hxs
 have hmap:(fn.results.mapM (fun (x:ResultVar)=>(match x with | .tmp t=>pure (a.tmps.getD t undef) | .cell b t=>do loadVar t (←asAddr (a.tmps.getD b undef)):Sem Value))).run P w= .ok us.toArray w:=by
  rw[Array.mapM_eq_mapM_toList]
  simp only[Sem.run_map,h1,Result.andThen_ok]
 refine⟨(if hl:us.length=1 then us[0] else .tuple us.toArray),?_,?_⟩
 ·unfold results
  rw[Sem.run_bind]
  refine (congrArg (fun q=>Result.andThen q _) hmap).trans ?_
  simp
 ·match xs,us,h2 with
  | [x],[u],_ =>exact h3 0 x u rfl rfl
  | [],[],_ =>exact Rd.tup nm [] [] rfl (by simp)
  | x::y::xs,u::v::us,h2=>exact Rd.tup nm _ _ h2 h3
theorem H_.of_runs {f:Nat} {fn:Func} {A:AFun} {args:List AV} {H H':List (Nat×Box)} {r:AV} (hf:P.funcs[f]? =some fn) (hc:chkF P fn A=true) (hk:args.length=A.k) (hh:h12 A.N H=true) (h:R_ P G A args H r H'):H_ P G f args H r H':=by
 intro w F nm vs hg hargs hB
 simp only[chkF,Bool.and_eq_true,beq_iff_eq,decide_eq_true_eq] at hc
 obtain⟨⟨⟨hN,hkN⟩,hres⟩,hbody⟩:=hc
 split at hbody
 ·rename_i c hb
  let C:Ctx:=⟨w,F,Own nm H,fun i=>∃b,hget H i=some b∧b.row=false,nm⟩
  have h0:Rel G C ⟨A.N,a11 0 args,H⟩ {tmps:=vs++Array.replicate (fn.ntmps - vs.size) undef,defers:=[]} w:=by
   refine⟨nm,F,by simp [hN,hargs.1];omega,rfl,fun t=>?_,hB.box,hB.inj,hB.fr,fun i b m hi hm=>.inr ⟨i,b,m,hi,hm,rfl⟩,hg,fun _ h=>h,fun _ h=>.inl h,
    ⟨rfl,rfl,rfl,Nat.le_refl _,fun _ _ _ =>rfl⟩,fun i hi=>?_⟩
   ·simp only[St.get]
    rw[ag10]
    simp only[Nat.zero_le,if_true,Nat.sub_zero]
    cases ht:args[t]? with
    | none=>exact .top _ _
    | some c=>
     have hlt:t<vs.size:=by rw[hargs.1];exact (List.getElem?_eq_some_iff.1 ht).1
     have e:(vs++Array.replicate (fn.ntmps - vs.size) undef).getD t undef=vs[t]:=by
      simp [Array.getElem?_append,hlt]
     rw[e]
     exact hargs.2 t c _ ht (Array.getElem?_eq_getElem hlt)
   ·obtain⟨b,hb,hr⟩:=hi
    exact⟨ha_ hh hb,rfl,fun b' hb'=>by simp only at hb';rw[hb] at hb';cases hb';exact hr⟩
  refine calls_of_wp hf hb (wp_mono (as13 c A.body _ _ _ _ hbody h h0) fun e a' w' hq=>?_)
  have fin:∀st,H10 A r H' st→Rel G C st a' w'→a'.defers=[]∧∃v,(results fn a'.tmps).run P w'= .ok v w'∧
    ∃v' F' nm',Ending.returned v= .returned v'∧(∀b,F b→F' b)∧(∀b,F' b→F b∨w.heap.size≤b∨Own nm H b)∧(∀b,F' b→b<w'.heap.size)∧
   Rd w' F' nm' r v'∧HB w' F' nm' H'∧(∀i b,hget H i=some b→b.row=false→nm' i=nm i∧∀b',hget H' i=some b'→b'.row=false)∧(∀k,Own nm' H' k→w.heap.size≤k∨Own nm H k)∧
   (w'.os=w.os∧w'.tape=w.tape∧w'.output=w.output∧w.heap.size≤w'.heap.size)∧∀k,k<w.heap.size→¬Own nm H k→w'.heap[k]? =w.heap[k]? :=by
   rintro st ⟨st1,xs,hw,hxs,hfit,hH⟩ hrel
   obtain⟨nm1,F1,hx⟩:=hw _ _ _ _ hrel
   refine⟨hx.df,?_⟩
   obtain⟨v,hv,hrd⟩:=rr10 hx hres hxs
   refine⟨v,hv,v,F1,nm1,rfl,hx.f0,hx.fb,hx.good.1,hrd.fit hfit,⟨fun i b hi=>hx.box i b (hH i b hi),fun i j b c m m' hi hj=>hx.inj i j b c m m' (hH i b hi) (hH j c hj),fun i b m hi=>hx.fr i b m (hH i b hi)⟩,
    fun i b hi hr=>⟨(hx.vn i ⟨b,hi,hr⟩).2.1,fun b' hb'=>(hx.vn i ⟨b,hi,hr⟩).2.2 b' (hH i b' hb')⟩,fun k hk=>?_,⟨hx.keep.os,hx.keep.tape,hx.keep.output,hx.keep.size⟩,fun k hk hO=>hx.keep.block k hk hO⟩
   obtain⟨i,b,m,hi,hm,rfl⟩:=hk
   exact hx.own i b m (hH i b hi) hm
  cases e with
  | normal=>obtain⟨st,h1,h2⟩:=hq;exact fin st h1 h2
  | ret=>obtain⟨st,h1,h2⟩:=hq;exact fin st h1 h2
  | exit i=>obtain⟨st,h1,h2⟩:=hq;exact h1.elim
  | goto l=>exact hq.elim
  | panic ch=>exact hq.elim
  | outgrown=>exact hq.elim
 ·cases hbody
def H11 (A:AFun) (r:AV) (st:St):Prop:=∃i n b,r12 st A.res=some [.arr i 0 n]∧hget st.heap i=some b∧b.row=true∧0<b.sz∧n≤b.es.length∧(∀e∈b.es,flat e=true)∧r= .seq b.sz (b.es.take n)
def P11 (A:AFun) (r:AV):AE→St→Prop
 | .exit _,_ =>False
 | _,st=>H11 A r st
def R10 (P:Program) (G:Nat→Option AV) (A:AFun) (args:List AV) (r:AV):Prop:=
 awp P G A.body (P11 A r) ⟨A.N,a11 0 args,[]⟩
theorem flat.go_at:∀{cs:List AV},flat.go cs=true→∀(j:Nat) c,cs[j]? =some c→flat c=true
 | [],_,j,c,hc=>by simp at hc
 | x::xs,h,j,c,hc=>by
  simp only[Ab.flat.go,Bool.and_eq_true] at h
  cases j with
  | zero=>simp at hc;subst hc;exact h.1
  | succ j=>simp at hc;exact flat.go_at h.2 j c hc
theorem fc_ {e:AV} (h:flat e=true) (j:Nat) (c:AV) (hc:e.cells[j]? =some c):flat c=true:=by
 by_cases ha:∃cs,e= .agg cs
 ·obtain⟨cs,rfl⟩:=ha
  exact flat.go_at (show Ab.flat.go cs=true from h) j c hc
 ·have e2:e.cells=[e]:=by cases e <;> first | rfl | exact absurd ⟨_,rfl⟩ ha
  rw[e2] at hc
  match j,hc with
  | 0,hc=>cases hc;exact h
  | j+1,hc=>simp at hc
theorem Rd.seq_flat {w:World} {F F':Nat→Prop} {nm nm':N_} {sz:Nat} {es:List AV} {g o n cap:Nat} (h:Rd w F nm (.seq sz es) (.slice (some ⟨g,o,none⟩) n cap)) (hfl:∀e∈es,Ab.flat e=true) (hg:F' g):Rd w F' nm' (.seq sz es) (.slice (some ⟨g,o,none⟩) n cap):=by
 cases h with
 | seq0=>exact .seq0 _ _ _ _
 | seq _ _ _ _ _ _ u h0 hF hc hm hs hw h1 hr=>
  exact .seq _ _ _ _ _ _ u h0 hg hc hm hs hw h1 fun k e j c he hc=>(hr k e j c he hc).flat (fc_ (hfl e (List.mem_of_getElem? he)) j c hc)
theorem P_.of_runs {f:Nat} {fn:Func} {A:AFun} {args:List AV} {r:AV} (hf:P.funcs[f]? =some fn) (hc:chkF P fn A=true) (hk:args.length=A.k) (h:Runs P G A args r):P_ P G f args r:=by
 intro w F vs hg hargs
 simp only[chkF,Bool.and_eq_true,beq_iff_eq,decide_eq_true_eq] at hc
 obtain⟨⟨⟨hN,hkN⟩,hres⟩,hbody⟩:=hc
 split at hbody
 ·rename_i c hb
  have h0:Rel G ⟨w,F,fun _ =>False,fun _ =>False,n_⟩ ⟨A.N,a11 0 args,[]⟩ {tmps:=vs++Array.replicate (fn.ntmps - vs.size) undef,defers:=[]} w:=by
   refine⟨n_,F,by simp [hN,hargs.1];omega,rfl,fun t=>?_,fun i b hi=>by simp [hget] at hi,fun i j b c m m' hi=>by simp [hget] at hi,fun i b m hi=>by simp [hget] at hi,fun i b m hi=>by simp [hget] at hi,hg,fun _ h=>h,fun _ h=>.inl h,
    ⟨rfl,rfl,rfl,Nat.le_refl _,fun _ _ _ =>rfl⟩,fun _ h=>h.elim⟩
   simp only[St.get]
   rw[ag10]
   simp only[Nat.zero_le,if_true,Nat.sub_zero]
   cases ht:args[t]? with
   | none=>exact .top _ _
   | some c=>
    have hlt:t<vs.size:=by rw[hargs.1];exact (List.getElem?_eq_some_iff.1 ht).1
    have e:(vs++Array.replicate (fn.ntmps - vs.size) undef).getD t undef=vs[t]:=by
     simp [Array.getElem?_append,hlt]
    rw[e]
    exact hargs.2 t c _ ht (Array.getElem?_eq_getElem hlt)
  refine calls_of_wp hf hb (wp_mono (as13 c A.body _ _ _ _ hbody h h0) fun e a' w' hq=>?_)
  have fin:∀st,H12 A r st→Rel G ⟨w,F,fun _ =>False,fun _ =>False,n_⟩ st a' w'→a'.defers=[]∧∃v,(results fn a'.tmps).run P w'= .ok v w'∧
    ∃v' F',Ending.returned v= .returned v'∧(∀b,F b→F' b)∧(∀b,F' b→F b∨w.heap.size≤b)∧(∀b,F' b→b<w'.heap.size)∧Rd w' F' n_ r v'∧Below w.heap.size w w':=by
   rintro st ⟨xs,r',hxs,hview,hfit⟩ ⟨nm,F1,hx⟩
   refine⟨hx.df,?_⟩
   obtain⟨us,h1,h2,h3⟩:=rs11 (P:=P) hx fn.results.toList A.res xs hres hxs
   have hone:∃v,(results fn a'.tmps).run P w'= .ok v w'∧Rd w' F1 nm (one xs) v:=by
    have hmap:(fn.results.mapM (fun (x:ResultVar)=>(match x with | .tmp t=>pure (a'.tmps.getD t undef) | .cell b t=>do loadVar t (←asAddr (a'.tmps.getD b undef)):Sem Value))).run P w'= .ok us.toArray w':=by
     rw[Array.mapM_eq_mapM_toList]
     simp only[Sem.run_map,h1,Result.andThen_ok]
    refine⟨(if hl:us.length=1 then us[0] else .tuple us.toArray),?_,?_⟩
    ·unfold results
     rw[Sem.run_bind]
     refine (congrArg (fun q=>Result.andThen q _) hmap).trans ?_
     simp
    ·match xs,us,h2 with
     | [x],[u],_ =>exact h3 0 x u rfl rfl
     | [],[],_ =>exact Rd.tup nm [] [] rfl (by simp)
     | x::y::xs,u::v::us,h2=>exact Rd.tup nm _ _ h2 h3
   obtain⟨v,hv,hrd⟩:=hone
   refine⟨v,hv,v,fun k=>F1 k∨∃i b m,hget st.heap i=some b∧nm i=some m∧m.g=k,rfl,fun b hb=>.inl (hx.f0 b hb),fun b hb=>?_,fun b hb=>?_,?_,?_⟩
   ·rcases hb with hb | ⟨i,bx,m,hi,hm,rfl⟩
    ·exact (hx.fb b hb).imp id fun h=>h.elim id fun h=>h.elim
    ·rcases hx.own i bx m hi hm with h1 | h1
     ·exact .inr h1
     ·exact h1.elim
   ·rcases hb with hb | ⟨i,bx,m,hi,hm,rfl⟩
    ·exact hx.good.1 b hb
    ·exact hx.lt hi hm
   ·refine (hrd.view hx.box (fun b hb=>.inl hb) hview fun i hi m hm=>?_).fit hfit
    obtain⟨b,hb,_⟩:=vr11 hview i hi
    exact .inr ⟨i,b,m,hb,hm,rfl⟩
   ·exact⟨hx.keep.os,hx.keep.tape,hx.keep.output,hx.keep.size,fun k hk=>hx.keep.block k hk (fun h=>h)⟩
  cases e with
  | normal=>obtain⟨st,h1,h2⟩:=hq;exact fin st h1 h2
  | ret=>obtain⟨st,h1,h2⟩:=hq;exact fin st h1 h2
  | exit i=>obtain⟨st,h1,h2⟩:=hq;exact h1.elim
  | goto l=>exact hq.elim
  | panic ch=>exact hq.elim
  | outgrown=>exact hq.elim
 ·cases hbody
theorem P10.of_runs {f:Nat} {fn:Func} {A:AFun} {args:List AV} {r:AV} (hf:P.funcs[f]? =some fn) (hc:chkF P fn A=true) (hk:args.length=A.k) (h:R10 P G A args r):P10 P G f args r:=by
 intro w F vs hg hargs
 simp only[chkF,Bool.and_eq_true,beq_iff_eq,decide_eq_true_eq] at hc
 obtain⟨⟨⟨hN,hkN⟩,hres⟩,hbody⟩:=hc
 split at hbody
 ·rename_i c hb
  have h0:Rel G ⟨w,F,fun _ =>False,fun _ =>False,n_⟩ ⟨A.N,a11 0 args,[]⟩ {tmps:=vs++Array.replicate (fn.ntmps - vs.size) undef,defers:=[]} w:=by
   refine⟨n_,F,by simp [hN,hargs.1];omega,rfl,fun t=>?_,fun i b hi=>by simp [hget] at hi,fun i j b c m m' hi=>by simp [hget] at hi,fun i b m hi=>by simp [hget] at hi,fun i b m hi=>by simp [hget] at hi,hg,fun _ h=>h,fun _ h=>.inl h,
    ⟨rfl,rfl,rfl,Nat.le_refl _,fun _ _ _ =>rfl⟩,fun _ h=>h.elim⟩
   simp only[St.get]
   rw[ag10]
   simp only[Nat.zero_le,if_true,Nat.sub_zero]
   cases ht:args[t]? with
   | none=>exact .top _ _
   | some c=>
    have hlt:t<vs.size:=by rw[hargs.1];exact (List.getElem?_eq_some_iff.1 ht).1
    have e:(vs++Array.replicate (fn.ntmps - vs.size) undef).getD t undef=vs[t]:=by
     simp [Array.getElem?_append,hlt]
    rw[e]
    exact hargs.2 t c _ ht (Array.getElem?_eq_getElem hlt)
  refine calls_of_wp hf hb (wp_mono (as13 c A.body _ _ _ _ hbody h h0) fun e a' w' hq=>?_)
  have fin:∀st,H11 A r st→Rel G ⟨w,F,fun _ =>False,fun _ =>False,n_⟩ st a' w'→a'.defers=[]∧∃v,(results fn a'.tmps).run P w'= .ok v w'∧
    ∃v' F',Ending.returned v= .returned v'∧(∀b,F' b→w.heap.size≤b)∧(∀b,F' b→b<w'.heap.size)∧Rd w' F' n_ r v'∧Below w.heap.size w w':=by
   rintro st ⟨i,n,b,hxs,hb,hrow,hs0,hle,hfl,rfl⟩ ⟨nm,F1,hx⟩
   refine⟨hx.df,?_⟩
   obtain⟨v,hv,hrd⟩:=rr10 hx hres hxs
   refine⟨v,hv,v,fun k=>∃m,nm i=some m∧m.g=k,rfl,?_,?_,?_,?_⟩
   ·rintro k ⟨m,hm,rfl⟩
    rcases hx.own i b m hb hm with h1 | h1
    ·exact h1
    ·exact h1.elim
   ·rintro k ⟨m,hm,rfl⟩
    exact hx.lt hb hm
   ·have hrd':Rd w' F1 nm (.arr i 0 n) v:=hrd
    by_cases h0:0<n
    ·cases hrd' with
     | arr _ _ _ _ m hi hn hp=>
      rcases hx.box i b hb with ⟨hn,_⟩ | ⟨m',hm',hlies⟩
      ·rw[hi] at hn;cases hn
      rw[hi] at hm';cases hm'
      have:=(hlies.c hs0).seq (F':=fun k=>F1 k∨k=m.g) (k:=0) (n:=n) hrow (fun _ h=>.inl h) (.inr rfl) (by omega) h0 n_
      rw[List.drop_zero] at this
      exact this.seq_flat (fun e he=>hfl e (List.mem_of_mem_take he)) ⟨m,hi,rfl⟩
     | arrE _ _ _ _ _ hk=>exact absurd h0 (by omega)
     | arrN=>exact absurd h0 (by omega)
    ·obtain rfl:n=0:=by omega
     rw[List.take_zero]
     cases hrd' <;> exact .seq0 _ _ _ _
   ·exact⟨hx.keep.os,hx.keep.tape,hx.keep.output,hx.keep.size,fun k hk=>hx.keep.block k hk (fun h=>h)⟩
  cases e with
  | normal=>obtain⟨st,h1,h2⟩:=hq;exact fin st h1 h2
  | ret=>obtain⟨st,h1,h2⟩:=hq;exact fin st h1 h2
  | exit i=>obtain⟨st,h1,h2⟩:=hq;exact h1.elim
  | goto l=>exact hq.elim
  | panic ch=>exact hq.elim
  | outgrown=>exact hq.elim
 ·cases hbody
end
end Go.Proofs.YtkejmcgngblfnaaGreatDoor.Ab
