/- Lemmas. -/
import Derived.Test.YtkgcnoghjibiaaaGreatDoorYAbDrT
set_option linter.unusedSimpArgs false
namespace Go.Proofs.YtkgcnoghjibiaaaGreatDoor.Ab
open Go Go.RowKit
inductive AC where
 | skip
 | reg (ops:List AO) (kt:List Nat)
 | dreg (ops:List AO) (kt:List Nat)
 | dregT (ops:List AO) (ls:List Nat) (en fb:List (List Nat)) (f0:List Nat) (tr:DT) (ktm kt:List Nat)
 | seq (a b:AC)
 | cond (c:Opd) (a b:AC)
 | block (id:Nat) (a:AC)
 | loop (kt kb:List Nat) (a:AC)
 | exit (id:Nat)
 | ret
  /-- A way that is not gone. -/
 | bad
inductive AE where
 | normal
 | exit (id:Nat)
 | ret
def awp (P:Program) (G:Nat->Option AV):AC->(AE->St->Prop)->St->Prop
 | .skip,Q,st=>Q .normal st
 | .reg ops kt,Q,st=>opsP P G false ops st λst'=>Q .normal {st' with env:=st'.trimE kt}
 | .dreg ops kt,Q,st=>opsP P G true ops st λst'=>Q .normal {st' with env:=st'.trimE kt}
 | .dregT ops _ _ _ f0 tr ktm kt,Q,st=>opsP P G true (selC ops f0) st λX0=>t41 P G ops ktm (λX=>Q .normal {X with env:=X.trimE kt}) tr {X0 with env:=X0.trimE ktm}
 | .seq a b,Q,st=>awp P G a (λe st'=>match e with | .normal=>awp P G b Q st' | e=>Q e st') st
 | .cond c a b,Q,st=>match st.ev G c with
  | .bool β=>(β=true->awp P G a Q st)∧(β=false->awp P G b Q st)
  | _ =>False
 | .block id a,Q,st=>awp P G a (λe st'=>match e with | .exit j=>if j=id then Q .normal st' else Q (.exit j) st' | e=>Q e st') st
 | .loop kt kb a,Q,st=>∃(I:Nat->St->Prop) (n:Nat),(∃st0,Weak (st.trim kt kb) st0∧I n st0)∧∀n st,I n st->awp P G a (λe st'=>match e with | .normal=>∃m,m<n∧∃st0,Weak (st'.trim kt kb) st0∧I m st0 | e=>Q e st') st
 | .exit id,Q,st=>Q (.exit id) st
 | .ret,Q,st=>Q .ret st
 | .bad,_,_ =>False
def chkC (P:Program):Code->AC->Bool
 | _,.bad=>true
 | .skip,.skip=>true
 | .region _ ops draw,.reg aos _ =>!draw&&c16 P ops ops.toList aos
 | .region _ ops draw,.dreg aos _ =>draw&&P.follows .mixedOrders&&c16 P ops ops.toList aos&&dchk ops aos
 | .region _ ops draw,.dregT aos ls en fb f0 tr ktm kt=>draw&&P.follows .mixedOrders&&c16 P ops ops.toList aos&&d18 ops aos ls en fb f0 tr ktm kt
 | .seq a b,.seq c d=>chkC P a c&&chkC P b d
 | .scope a,.seq .skip c=>chkC P a c
 | .label _,.skip=>true
 | .cond x a b,.cond y c d=>c_ x y&&chkC P a c&&chkC P b d
 | .block i a,.block j c=>i==j&&chkC P a c
 | .loop a,.loop _ _ c=>chkC P a c
 | .exit i,.exit j=>i==j
 | .ret,.ret=>true
 | _,_ =>false
section
variable {P:Program} {G:Nat->Option AV} {C:Ctx} {st st':St} {a:Act} {w:World} {o:Oper}
def l24 (G:Nat->Option AV) (C:Ctx) (Q:AE->St->Prop):Exit->Act->World->Prop
 | .normal,a,w=>∃st,Q .normal st∧Rel G C st a w
 | .exit i,a,w=>∃st,Q (.exit i) st∧Rel G C st a w
 | .ret,a,w=>∃st,Q .ret st∧Rel G C st a w
 | _,_,_ =>False
theorem am15:∀{ac:AC} {Q Q':AE->St->Prop} {st:St},awp P G ac Q st->(∀e st,Q e st->Q' e st)->awp P G ac Q' st:=by
 intro ac
 induction ac with
 | skip=>intro Q Q' st h hq;exact hq _ _ h
 | reg ops kt=>intro Q Q' st h hq;exact om_ h λst' h'=>hq _ _ h'
 | dreg ops kt=>intro Q Q' st h hq;exact om_ h λst' h'=>hq _ _ h'
 | dregT ops ls en fb f0 tr ktm kt=>
  intro Q Q' st h hq;exact om_ h λX0 h=>tm_ (λX hX=>hq _ _ hX) _ _ h
 | seq a b iha ihb=>
  intro Q Q' st h hq;refine iha (Q:=_) h λe st' h'=>?_;cases e
  .exact ihb h' hq
  .exact hq _ _ h'
  .exact hq _ _ h'
 | cond c a b iha ihb=>
  intro Q Q' st h hq;simp only[awp] at h ⊢;split
  .rename_i β hβ;rw[hβ] at h;exact⟨λe=>iha (h.1 e) hq,λe=>ihb (h.2 e) hq⟩
  .rename_i hn;split at h
   .rename_i e;exact (hn _ e).elim
   .exact h.elim
 | block id a iha=>
  intro Q Q' st h hq;refine iha (Q:=_) h λe st' h'=>?_;cases e
  .exact hq _ _ h'
  .simp only at h' ⊢;split
   .rename_i e;rw[zY e] at h';exact hq _ _ h'
   .rename_i e;rw[zK e] at h';exact hq _ _ h'
  .exact hq _ _ h'
 | loop kt kb a iha=>
  intro Q Q' st h hq;obtain⟨I,n,h0,h⟩:=h;refine⟨I,n,h0,λn st hi=>iha (h n st hi) λe st' h'=>?_⟩;cases e
  .exact h'
  .exact hq _ _ h'
  .exact hq _ _ h'
 | exit id=>intro Q Q' st h hq;exact hq _ _ h
 | ret=>intro Q Q' st h hq;exact hq _ _ h
 | bad=>intro Q Q' st h hq;exact h.elim
theorem as14:∀(c:Code) (ac:AC) (Q:AE->St->Prop) (st:St) (a:Act) (w:World),chkC P c ac=true->awp P G ac Q st->Rel G C st a w->c.wp P (l24 G C Q) a w:=by
 intro c ac
 induction ac generalizing c with
 | skip=>
  intro Q st a w hc hk h;cases c <;> simp only[chkC,zF] at hc
  .exact wp_skip ⟨st,hk,h⟩
  .exact wp_label ⟨st,hk,h⟩
 | reg aos kt=>
  intro Q st a w hc hk h;cases c <;> simp only[chkC,zF,zJ,yX] at hc;obtain⟨hd,hc⟩:=hc;subst hd;refine wp_region_list (os11 _ _ _ _ _ _ hc hk h λst' a' w' h1 h2=>?_);obtain⟨nm,F,hx⟩:=h2;exact⟨_,h1,nm,F,hx.trimEnv kt⟩
 | dreg aos kt=>
  intro Q st a w hc hk h;cases c <;> simp only[chkC,zF,zJ] at hc;obtain⟨⟨⟨hd,hm⟩,hc⟩,hdc⟩:=hc;subst hd;exact ds10 hm hc hdc (K:=λst'=>Q .normal st') hk h λst' a' w' h1 h2=>⟨st',h1,h2⟩
 | dregT aos ls en fb f0 tr ktm kt=>
  intro Q st a w hc hk h;cases c <;> simp only[chkC,zF,zJ] at hc;obtain⟨⟨⟨hd,hm⟩,hc⟩,hdc⟩:=hc;subst hd;exact ds_ hm hc hdc (K:=λst'=>Q .normal st') hk h λst' a' w' h1 h2=>⟨st',h1,h2⟩
 | seq x y ihx ihy=>
  intro Q st a w hc hk h;cases c
  case seq c1 c2=>
   simp only[chkC,zJ] at hc;refine wp_seq (wp_mono (ihx _ _ _ _ _ hc.1 hk h) λe a' w' hq=>?_);cases e <;> simp only[l24,Exit.then] at hq ⊢
   .obtain⟨st',h1,h2⟩:=hq;exact ihy _ _ _ _ _ hc.2 h1 h2
   .exact hq
   .exact hq
  case scope c1=>
   cases x <;> simp only[chkC,zF] at hc;refine wp_scope_straight (wp_mono (ihy _ _ _ _ _ hc hk h) λe a' w' hq=>?_);cases e <;> exact hq
  all_goals (simp only[chkC,zF] at hc)
 | cond x y z ihy ihz=>
  intro Q st a w hc hk h;cases c <;> simp only[chkC,zF,zJ] at hc;obtain⟨⟨h1,h2⟩,h3⟩:=hc;simp only[awp] at hk;split at hk
  .rename_i β hβ;obtain⟨nm,F,hx⟩:=h;have hr:=hx.opd h1;rw[hβ] at hr;generalize hev:a.eval _ =v at hr;cases hr;refine wp_cond hev ?_;cases β
   .exact ihz _ _ _ _ _ h3 (hk.2 rfl) ⟨nm,F,hx⟩
   .exact ihy _ _ _ _ _ h2 (hk.1 rfl) ⟨nm,F,hx⟩
  .exact hk.elim
 | block id x ih=>
  intro Q st a w hc hk h;cases c <;> simp only[chkC,zF,zJ,zB] at hc;obtain⟨rfl,hc⟩:=hc;refine wp_block (wp_mono (ih _ _ _ _ _ hc hk h) λe a' w' hq=>?_);cases e <;> simp only[l24,Exit.inBlock] at hq ⊢
  .exact hq
  .obtain⟨st',h1,h2⟩:=hq;split
   .rename_i e;subst e;simp only[xW] at h1;exact⟨st',h1,h2⟩
   .rename_i e;rw[zK e] at h1;exact⟨st',h1,h2⟩
  .exact hq
 | loop kt kb x ih=>
  intro Q st a w hc hk h;cases c <;> simp only[chkC,zF] at hc;rename_i body;obtain⟨I,n,⟨st0,hw0,hI⟩,hround⟩:=hk;have trimR:∀{st:St} {a:Act} {w:World},Rel G C st a w->Rel G C (st.trim kt kb) a w:=λ⟨nm,F,hx⟩=>⟨nm,F,hx.trim kt kb⟩;intro b k cs;have key:∀n st a w,I n st->Rel G C st a w->∃e a' w',l24 G C Q e a' w'∧Arrives P (lone (b.at a (.code body:: .inLoop body::k)) cs w) b k cs e a' w':=by
   intro n
   induction n using Nat.strongRecOn with
   | _ n ihn=>
    intro st a w hI h;obtain⟨e,a₁,w₁,hq,harr⟩:=ih body _ st a w hc (hround n st hI) h b (.inLoop body::k) cs;cases e with
    | normal=>
     obtain⟨st',⟨m,hm,st2,hw2,hI'⟩,h'⟩:=hq;obtain⟨e₂,a₂,w₂,hq₂,harr₂⟩:=ihn m hm _ a₁ w₁ hI' (hw2 _ _ _ _ (trimR h'));exact⟨e₂,a₂,w₂,hq₂,.of_steps (Steps.trans harr (.one step_inLoop)) harr₂⟩
    | exit id=>obtain⟨st',h1,h2⟩:=hq;exact⟨.exit id,a₁,w₁,⟨st',h1,h2⟩,.pass (x:=.inLoop body) rfl (λ_ _ =>.inl (by simp)) harr⟩
    | ret=>obtain⟨st',h1,h2⟩:=hq;exact⟨.ret,a₁,w₁,⟨st',h1,h2⟩,.pass (x:=.inLoop body) rfl (λ_ _ =>.inl (by simp)) harr⟩
    | goto l=>exact hq.elim
    | panic ch=>exact hq.elim
    | outgrown=>exact hq.elim
  obtain⟨e,a',w',hq,harr⟩:=key n _ a w hI (hw0 _ _ _ _ (trimR h));exact⟨e,a',w',hq,.of_steps (.one step_loop) harr⟩
 | exit id=>
  intro Q st a w hc hk h;cases c <;> simp only[chkC,zF,zB] at hc;subst hc;exact wp_exit ⟨st,hk,h⟩
 | ret=>
  intro Q st a w hc hk h;cases c <;> simp only[chkC,zF] at hc;exact wp_ret ⟨st,hk,h⟩
 | bad=>intro Q st a w hc hk h;exact hk.elim
end
inductive ARes where
 | t (n:Nat)
 | cell (t:Nat)
 | cells (t n:Nat)
structure AFun where
 N:Nat
 k:Nat
 res:List ARes
 body:AC
def a14:Nat->List AV->List (Nat×AV)
 | _,[]=>[]
 | i,v::vs=>(i,v)::a14 (i+1) vs
def r19 (st:St):List ARes->Option (List AV)
 | []=>some []
 | .t n::rs=>match r19 st rs with | some vs=>some (eget st.env n::vs) | none=>none
 | .cell t::rs=>match a32 st.heap (eget st.env t),r19 st rs with | some v,some vs=>some (v::vs) | _,_ =>none
 | .cells t n::rs=>match a19 st.heap (eget st.env t) n,r19 st rs with | some v,some vs=>some (v::vs) | _,_ =>none
def one:List AV->AV
 | [v]=>v
 | vs=>.tup vs
def H12 (A:AFun) (r:AV) (st:St):Prop:=∃vs r',r19 st A.res=some vs∧view st.heap (one vs)=some r'∧Fit r' r
def Post (A:AFun) (r:AV):AE->St->Prop
 | .exit _,_ =>False
 | _,st=>H12 A r st
def Runs (P:Program) (G:Nat->Option AV) (A:AFun) (args:List AV) (r:AV):Prop:=
 awp P G A.body (Post A r) ⟨A.N,a14 0 args,[]⟩
def c14 (P:Program):List ResultVar->List ARes->Bool
 | [],[]=>true
 | .tmp t::rs,.t n::qs=>t==n&&c14 P rs qs
 | .cell a t::rs,.cell b::qs=>a==b&&i10 P t&&c14 P rs qs
 | .cell a t::rs,.cells b n::qs=>a==b&&i_ P t&&szIs P t n&&c14 P rs qs
 | _,_ =>false
def chkF (P:Program) (fn:Func) (A:AFun):Bool:=
 fn.ntmps==A.N&&decide (A.k<=A.N)&&c14 P fn.results.toList A.res&&(match fn.body with | some c=>chkC P c A.body | none=>false)
section
variable {P:Program} {G:Nat->Option AV}
theorem ag10 (vs:List AV) (i t:Nat):eget (a14 i vs) t=if i<=t then (vs[t - i]?).getD .top else .top:=by
 induction vs generalizing i with
 | nil=>simp [a14,eget]
 | cons v vs ih=>
  simp only[a14,eget];split
  .rename_i e;subst e;simp
  .rw[ih];by_cases h:i+1<=t
   .rw[zY h,zY (by omega),show t - i=(t - (i+1))+1 from by omega,yW]
   .rw[zK h,zK (by omega)]
theorem rs12 {C:Ctx} {nm:N_} {F:Nat->Prop} {st:St} {a:Act} {w:World} (h:RelX G C nm F st a w):∀(rs:List ResultVar) (qs:List ARes) (vs:List AV),c14 P rs qs=true->r19 st qs=some vs->
  ∃us:List Value,(rs.mapM (λ(x:ResultVar)=>(match x with | .tmp t=>pure (a.tmps.getD t undef) | .cell b t=>do loadVar t (<-asAddr (a.tmps.getD b undef)):Sem Value))).run P w= .ok us w∧vs.length=us.length∧∀(j:Nat) c u,vs[j]?=some c->us[j]?=some u->Rd w F nm c u
 | [],[],vs,_,hv=>by simp only[r19,zZ] at hv;subst hv;exact⟨[],rfl,rfl,by simp⟩
 | .tmp t::rs,.t n::qs,vs,hc,hv=>by
  simp only[c14,zJ,zB] at hc;obtain⟨rfl,hc⟩:=hc;simp only[r19] at hv;split at hv
  .rename_i vs' hvs;simp only[zZ] at hv;subst hv;obtain⟨us,h1,h2,h3⟩:=rs12 h rs qs vs' hc hvs;refine⟨a.tmps.getD t undef::us,by simp only[List.mapM_cons,Sem.run_bind,Sem.run_pure,Result.andThen_ok,h1],by simp [h2],λj c u hc hu=>?_⟩;cases j with
   | zero=>simp only[yK,zZ] at hc hu;subst hc;subst hu;exact h.env t
   | succ j=>simp at hc hu;exact h3 j c u hc hu
  .cases hv
 | .cell b t::rs,.cell b'::qs,vs,hc,hv=>by
  simp only[c14,zJ,zB] at hc;obtain⟨⟨rfl,hl⟩,hc⟩:=hc;simp only[r19] at hv;split at hv
  .rename_i v vs' hld hvs;simp only[zZ] at hv;subst hv;obtain⟨us,h1,h2,h3⟩:=rs12 h rs qs vs' hc hvs;obtain⟨r,hr,hrd⟩:=as18 (P:=P) h (h.env b) hld hl;have hr':(do loadVar t (<-asAddr (a.tmps.getD b undef)):Sem Value).run P w= .ok r w:=by
    obtain⟨cs,off,hcs⟩:∃cs off,h16 st.heap (st.get b)=some (cs,off):=by
     unfold a32 at hld;split at hld
     .rename_i cs off e;exact⟨cs,off,e⟩
     .cases hld
    obtain⟨g,ad,e,_⟩:=hs10 h (h.env b) hcs;rw[e] at hr ⊢;exact hr
   refine⟨r::us,by simp only[List.mapM_cons,Sem.run_bind,hr',Sem.run_pure,Result.andThen_ok,h1],by simp [h2],λj c u hc hu=>?_⟩;cases j with
   | zero=>simp at hc hu;subst hc;subst hu;exact hrd
   | succ j=>simp at hc hu;exact h3 j c u hc hu
  .cases hv
 | .cell b t::rs,.cells b' n::qs,vs,hc,hv=>by
  simp only[c14,zJ,zB] at hc;obtain⟨⟨⟨rfl,hl⟩,hsz⟩,hc⟩:=hc;simp only[r19] at hv;split at hv
  .rename_i v vs' hld hvs;simp only[zZ] at hv;subst hv;obtain⟨us,h1,h2,h3⟩:=rs12 h rs qs vs' hc hvs;obtain⟨r,hr,hrd⟩:=as16 (P:=P) h (h.env b) hld hl hsz;have hr':(do loadVar t (<-asAddr (a.tmps.getD b undef)):Sem Value).run P w= .ok r w:=by
    obtain⟨cs,off,hcs⟩:∃cs off,h16 st.heap (st.get b)=some (cs,off):=by
     unfold a19 at hld;split at hld
     .rename_i cs off e;exact⟨cs,off,e⟩
     .cases hld
    obtain⟨g,ad,e,_⟩:=hs10 h (h.env b) hcs;rw[e] at hr ⊢;exact hr
   refine⟨r::us,by simp only[List.mapM_cons,Sem.run_bind,hr',Sem.run_pure,Result.andThen_ok,h1],by simp [h2],λj c u hc hu=>?_⟩;cases j with
   | zero=>simp at hc hu;subst hc;subst hu;exact hrd
   | succ j=>simp at hc hu;exact h3 j c u hc hu
  .cases hv
 | [],_ ::_,_,hc,_ =>by simp [c14] at hc
 | .tmp _ ::_,[],_,hc,_ =>by simp [c14] at hc
 | .cell _ _ ::_,[],_,hc,_ =>by simp [c14] at hc
 | .tmp _ ::_,.cell _ ::_,_,hc,_ =>by simp [c14] at hc
 | .tmp _ ::_,.cells _ _ ::_,_,hc,_ =>by simp [c14] at hc
 | .cell _ _ ::_,.t _ ::_,_,hc,_ =>by simp [c14] at hc
def H10 (A:AFun) (r:AV) (H':List (Nat×Box)) (st:St):Prop:=∃st1 vs,Weak st st1∧r19 st1 A.res=some vs∧Fit (one vs) r∧∀i b,hget H' i=some b->hget st1.heap i=some b
def P12 (A:AFun) (r:AV) (H':List (Nat×Box)):AE->St->Prop
 | .exit _,_ =>False
 | _,st=>H10 A r H' st
def R10 (P:Program) (G:Nat->Option AV) (A:AFun) (args:List AV) (H:List (Nat×Box)) (r:AV) (H':List (Nat×Box)):Prop:=
 awp P G A.body (P12 A r H') ⟨A.N,a14 0 args,H⟩
def h25 (N:Nat):List (Nat×Box)->Bool
 | []=>true
 | (i,_)::r=>decide (N<=i)&&h25 N r
theorem ha13 {N:Nat} {H:List (Nat×Box)} (h:h25 N H=true) {i:Nat} {b:Box} (hi:hget H i=some b):N<=i:=by
 induction H with
 | nil=>simp [hget] at hi
 | cons x r ih=>
  obtain⟨j,c⟩:=x;simp only[h25,zJ,zW] at h;simp only[hget] at hi;split at hi
  .rename_i e;subst e;exact h.1
  .exact ih h.2 hi
theorem rr11 {fn:Func} {A:AFun} {C:Ctx} {nm:N_} {F:Nat->Prop} {st:St} {a:Act} {w:World} (hx:RelX G C nm F st a w) {xs:List AV} (hres:c14 P fn.results.toList A.res=true) (hxs:r19 st A.res=some xs):
  ∃v,(results fn a.tmps).run P w= .ok v w∧Rd w F nm (one xs) v:=by
 obtain⟨us,h1,h2,h3⟩:=rs12 (P:=P) hx fn.results.toList A.res xs hres hxs;have hmap:(fn.results.mapM (λ(x:ResultVar)=>(match x with | .tmp t=>pure (a.tmps.getD t undef) | .cell b t=>do loadVar t (<-asAddr (a.tmps.getD b undef)):Sem Value))).run P w= .ok us.toArray w:=by rw[Array.mapM_eq_mapM_toList];simp only[Sem.run_map,h1,Result.andThen_ok]
 refine⟨(if hl:us.length=1 then us[0] else .tuple us.toArray),?_,?_⟩
 .unfold results;rw[Sem.run_bind];refine (tM (λq=>Result.andThen q _) hmap).trans ?_;simp
 .match xs,us,h2 with
  | [x],[u],_ =>exact h3 0 x u rfl rfl
  | [],[],_ =>exact Rd.tup nm [] [] rfl (by simp)
  | x::y::xs,u::v::us,h2=>exact Rd.tup nm _ _ h2 h3
theorem H_.of_runs {f:Nat} {fn:Func} {A:AFun} {args:List AV} {H H':List (Nat×Box)} {r:AV} (hf:P.funcs[f]?=some fn) (hc:chkF P fn A=true) (hk:args.length=A.k) (hh:h25 A.N H=true) (h:R10 P G A args H r H'):H_ P G f args H r H':=by
 intro w F nm vs hg hargs hB;simp only[chkF,zJ,zB,zW] at hc;obtain⟨⟨⟨hN,hkN⟩,hres⟩,hbody⟩:=hc;split at hbody
 .rename_i c hb;let C:Ctx:=⟨w,F,Own nm H,λi=>∃b,hget H i=some b∧b.row=false,nm⟩;have h0:Rel G C ⟨A.N,a14 0 args,H⟩ {tmps:=vs++Array.replicate (fn.ntmps - vs.size) undef,defers:=[]} w:=by
   refine⟨nm,F,by simp [hN,hargs.1];omega,rfl,λt=>?_,hB.box,hB.inj,hB.fr,λi b m hi hm=>.inr ⟨i,b,m,hi,hm,rfl⟩,hg,λ_ h=>h,λ_ h=>.inl h,
    ⟨rfl,rfl,rfl,zN _,λ_ _ _ =>rfl⟩,λi hi=>?_⟩
   .simp only[St.get];rw[ag10];simp only[wC,xW,uE];cases ht:args[t]? with
    | none=>exact .top _ _
    | some c=>
     have hlt:t<vs.size:=by rw[hargs.1];exact (zX.1 ht).1
     have e:(vs++Array.replicate (fn.ntmps - vs.size) undef).getD t undef=vs[t]:=by simp [tB,hlt]
     rw[e];exact hargs.2 t c _ ht (yG hlt)
   .obtain⟨b,hb,hr⟩:=hi;exact⟨ha13 hh hb,rfl,λb' hb'=>by simp only at hb';rw[hb] at hb';cases hb';exact hr⟩
  refine calls_of_wp hf hb (wp_mono (as14 c A.body _ _ _ _ hbody h h0) λe a' w' hq=>?_)
  have fin:∀st,H10 A r H' st->Rel G C st a' w'->a'.defers=[]∧∃v,(results fn a'.tmps).run P w'= .ok v w'∧
    ∃v' F' nm',Ending.returned v= .returned v'∧(∀b,F b->F' b)∧(∀b,F' b->F b∨w.heap.size<=b∨Own nm H b)∧(∀b,F' b->b<w'.heap.size)∧
   Rd w' F' nm' r v'∧HB w' F' nm' H'∧(∀i b,hget H i=some b->b.row=false->nm' i=nm i∧∀b',hget H' i=some b'->b'.row=false)∧(∀k,Own nm' H' k->w.heap.size<=k∨Own nm H k)∧
   (w'.os=w.os∧w'.tape=w.tape∧w'.output=w.output∧w.heap.size<=w'.heap.size)∧∀k,k<w.heap.size->¬Own nm H k->w'.heap[k]? =w.heap[k]? :=by
   rintro st ⟨st1,xs,hw,hxs,hfit,hH⟩ hrel;obtain⟨nm1,F1,hx⟩:=hw _ _ _ _ hrel;refine⟨hx.df,?_⟩;obtain⟨v,hv,hrd⟩:=rr11 hx hres hxs
   refine⟨v,hv,v,F1,nm1,rfl,hx.f0,hx.fb,hx.good.1,hrd.fit hfit,⟨λi b hi=>hx.box i b (hH i b hi),λi j b c m m' hi hj=>hx.inj i j b c m m' (hH i b hi) (hH j c hj),λi b m hi=>hx.fr i b m (hH i b hi)⟩,
    λi b hi hr=>⟨(hx.vn i ⟨b,hi,hr⟩).2.1,λb' hb'=>(hx.vn i ⟨b,hi,hr⟩).2.2 b' (hH i b' hb')⟩,λk hk=>?_,⟨hx.keep.os,hx.keep.tape,hx.keep.output,hx.keep.size⟩,λk hk hO=>hx.keep.block k hk hO⟩
   obtain⟨i,b,m,hi,hm,rfl⟩:=hk;exact hx.own i b m (hH i b hi) hm
  cases e with
  | normal=>obtain⟨st,h1,h2⟩:=hq;exact fin st h1 h2
  | ret=>obtain⟨st,h1,h2⟩:=hq;exact fin st h1 h2
  | exit i=>obtain⟨st,h1,h2⟩:=hq;exact h1.elim
  | goto l=>exact hq.elim
  | panic ch=>exact hq.elim
  | outgrown=>exact hq.elim
 .cases hbody
def H11 (A:AFun) (r:AV) (st:St):Prop:=∃i n b,r19 st A.res=some [.arr i 0 n]∧hget st.heap i=some b∧b.row=true∧0<b.sz∧n<=b.es.length∧(∀e∈b.es,flat e=true)∧r= .seq b.sz (b.es.take n)
def P11 (A:AFun) (r:AV):AE->St->Prop
 | .exit _,_ =>False
 | _,st=>H11 A r st
def R11 (P:Program) (G:Nat->Option AV) (A:AFun) (args:List AV) (r:AV):Prop:=
 awp P G A.body (P11 A r) ⟨A.N,a14 0 args,[]⟩
theorem flat.go_at:∀{cs:List AV},flat.go cs=true->∀(j:Nat) c,cs[j]?=some c->flat c=true
 | [],_,j,c,hc=>by simp at hc
 | x::xs,h,j,c,hc=>by
  simp only[Ab.flat.go,zJ] at h;cases j with
  | zero=>simp at hc;subst hc;exact h.1
  | succ j=>simp at hc;exact flat.go_at h.2 j c hc
theorem fc_ {e:AV} (h:flat e=true) (j:Nat) (c:AV) (hc:e.cells[j]?=some c):flat c=true:=by
 by_cases ha:∃cs,e= .agg cs
 .obtain⟨cs,rfl⟩:=ha;exact flat.go_at (show Ab.flat.go cs=true from h) j c hc
 .have e2:e.cells=[e]:=by cases e <;> first | rfl | exact absurd ⟨_,rfl⟩ ha
  rw[e2] at hc
  match j,hc with
  | 0,hc=>cases hc;exact h
  | j+1,hc=>simp at hc
theorem Rd.seq_flat {w:World} {F F':Nat->Prop} {nm nm':N_} {sz:Nat} {es:List AV} {g o n cap:Nat} (h:Rd w F nm (.seq sz es) (.slice (some ⟨g,o,none⟩) n cap)) (hfl:∀e∈es,Ab.flat e=true) (hg:F' g):Rd w F' nm' (.seq sz es) (.slice (some ⟨g,o,none⟩) n cap):=by
 cases h with
 | seq0=>exact .seq0 _ _ _ _
 | seq _ _ _ _ _ _ u h0 hF hc hm hs hw h1 hr=>
  exact .seq _ _ _ _ _ _ u h0 hg hc hm hs hw h1 λk e j c he hc=>(hr k e j c he hc).flat (fc_ (hfl e (zG he)) j c hc)
theorem P_.of_runs {f:Nat} {fn:Func} {A:AFun} {args:List AV} {r:AV} (hf:P.funcs[f]?=some fn) (hc:chkF P fn A=true) (hk:args.length=A.k) (h:Runs P G A args r):P_ P G f args r:=by
 intro w F vs hg hargs;simp only[chkF,zJ,zB,zW] at hc;obtain⟨⟨⟨hN,hkN⟩,hres⟩,hbody⟩:=hc;split at hbody
 .rename_i c hb;have h0:Rel G ⟨w,F,λ_ =>False,λ_ =>False,n10⟩ ⟨A.N,a14 0 args,[]⟩ {tmps:=vs++Array.replicate (fn.ntmps - vs.size) undef,defers:=[]} w:=by
   refine⟨n10,F,by simp [hN,hargs.1];omega,rfl,λt=>?_,λi b hi=>by simp [hget] at hi,λi j b c m m' hi=>by simp [hget] at hi,λi b m hi=>by simp [hget] at hi,λi b m hi=>by simp [hget] at hi,hg,λ_ h=>h,λ_ h=>.inl h,
    ⟨rfl,rfl,rfl,zN _,λ_ _ _ =>rfl⟩,λ_ h=>h.elim⟩
   simp only[St.get];rw[ag10];simp only[wC,xW,uE];cases ht:args[t]? with
   | none=>exact .top _ _
   | some c=>
    have hlt:t<vs.size:=by rw[hargs.1];exact (zX.1 ht).1
    have e:(vs++Array.replicate (fn.ntmps - vs.size) undef).getD t undef=vs[t]:=by simp [tB,hlt]
    rw[e];exact hargs.2 t c _ ht (yG hlt)
  refine calls_of_wp hf hb (wp_mono (as14 c A.body _ _ _ _ hbody h h0) λe a' w' hq=>?_)
  have fin:∀st,H12 A r st->Rel G ⟨w,F,λ_ =>False,λ_ =>False,n10⟩ st a' w'->a'.defers=[]∧∃v,(results fn a'.tmps).run P w'= .ok v w'∧
    ∃v' F',Ending.returned v= .returned v'∧(∀b,F b->F' b)∧(∀b,F' b->F b∨w.heap.size<=b)∧(∀b,F' b->b<w'.heap.size)∧Rd w' F' n10 r v'∧Below w.heap.size w w':=by
   rintro st ⟨xs,r',hxs,hview,hfit⟩ ⟨nm,F1,hx⟩;refine⟨hx.df,?_⟩;obtain⟨us,h1,h2,h3⟩:=rs12 (P:=P) hx fn.results.toList A.res xs hres hxs;have hone:∃v,(results fn a'.tmps).run P w'= .ok v w'∧Rd w' F1 nm (one xs) v:=by
    have hmap:(fn.results.mapM (λ(x:ResultVar)=>(match x with | .tmp t=>pure (a'.tmps.getD t undef) | .cell b t=>do loadVar t (<-asAddr (a'.tmps.getD b undef)):Sem Value))).run P w'= .ok us.toArray w':=by rw[Array.mapM_eq_mapM_toList];simp only[Sem.run_map,h1,Result.andThen_ok]
    refine⟨(if hl:us.length=1 then us[0] else .tuple us.toArray),?_,?_⟩
    .unfold results;rw[Sem.run_bind];refine (tM (λq=>Result.andThen q _) hmap).trans ?_;simp
    .match xs,us,h2 with
     | [x],[u],_ =>exact h3 0 x u rfl rfl
     | [],[],_ =>exact Rd.tup nm [] [] rfl (by simp)
     | x::y::xs,u::v::us,h2=>exact Rd.tup nm _ _ h2 h3
   obtain⟨v,hv,hrd⟩:=hone;refine⟨v,hv,v,λk=>F1 k∨∃i b m,hget st.heap i=some b∧nm i=some m∧m.g=k,rfl,λb hb=>.inl (hx.f0 b hb),λb hb=>?_,λb hb=>?_,?_,?_⟩
   .rcases hb with hb | ⟨i,bx,m,hi,hm,rfl⟩
    .exact (hx.fb b hb).imp id λh=>h.elim id λh=>h.elim
    .rcases hx.own i bx m hi hm with h1 | h1
     .exact .inr h1
     .exact h1.elim
   .rcases hb with hb | ⟨i,bx,m,hi,hm,rfl⟩
    .exact hx.good.1 b hb
    .exact hx.lt hi hm
   .refine (hrd.view hx.box (λb hb=>.inl hb) hview λi hi m hm=>?_).fit hfit;obtain⟨b,hb,_⟩:=vr11 hview i hi;exact .inr ⟨i,b,m,hb,hm,rfl⟩
   .exact⟨hx.keep.os,hx.keep.tape,hx.keep.output,hx.keep.size,λk hk=>hx.keep.block k hk (λh=>h)⟩
  cases e with
  | normal=>obtain⟨st,h1,h2⟩:=hq;exact fin st h1 h2
  | ret=>obtain⟨st,h1,h2⟩:=hq;exact fin st h1 h2
  | exit i=>obtain⟨st,h1,h2⟩:=hq;exact h1.elim
  | goto l=>exact hq.elim
  | panic ch=>exact hq.elim
  | outgrown=>exact hq.elim
 .cases hbody
theorem P10.of_runs {f:Nat} {fn:Func} {A:AFun} {args:List AV} {r:AV} (hf:P.funcs[f]?=some fn) (hc:chkF P fn A=true) (hk:args.length=A.k) (h:R11 P G A args r):P10 P G f args r:=by
 intro w F vs hg hargs;simp only[chkF,zJ,zB,zW] at hc;obtain⟨⟨⟨hN,hkN⟩,hres⟩,hbody⟩:=hc;split at hbody
 .rename_i c hb;have h0:Rel G ⟨w,F,λ_ =>False,λ_ =>False,n10⟩ ⟨A.N,a14 0 args,[]⟩ {tmps:=vs++Array.replicate (fn.ntmps - vs.size) undef,defers:=[]} w:=by
   refine⟨n10,F,by simp [hN,hargs.1];omega,rfl,λt=>?_,λi b hi=>by simp [hget] at hi,λi j b c m m' hi=>by simp [hget] at hi,λi b m hi=>by simp [hget] at hi,λi b m hi=>by simp [hget] at hi,hg,λ_ h=>h,λ_ h=>.inl h,
    ⟨rfl,rfl,rfl,zN _,λ_ _ _ =>rfl⟩,λ_ h=>h.elim⟩
   simp only[St.get];rw[ag10];simp only[wC,xW,uE];cases ht:args[t]? with
   | none=>exact .top _ _
   | some c=>
    have hlt:t<vs.size:=by rw[hargs.1];exact (zX.1 ht).1
    have e:(vs++Array.replicate (fn.ntmps - vs.size) undef).getD t undef=vs[t]:=by simp [tB,hlt]
    rw[e];exact hargs.2 t c _ ht (yG hlt)
  refine calls_of_wp hf hb (wp_mono (as14 c A.body _ _ _ _ hbody h h0) λe a' w' hq=>?_)
  have fin:∀st,H11 A r st->Rel G ⟨w,F,λ_ =>False,λ_ =>False,n10⟩ st a' w'->a'.defers=[]∧∃v,(results fn a'.tmps).run P w'= .ok v w'∧
    ∃v' F',Ending.returned v= .returned v'∧(∀b,F' b->w.heap.size<=b)∧(∀b,F' b->b<w'.heap.size)∧Rd w' F' n10 r v'∧Below w.heap.size w w':=by
   rintro st ⟨i,n,b,hxs,hb,hrow,hs0,hle,hfl,rfl⟩ ⟨nm,F1,hx⟩;refine⟨hx.df,?_⟩;obtain⟨v,hv,hrd⟩:=rr11 hx hres hxs;refine⟨v,hv,v,λk=>∃m,nm i=some m∧m.g=k,rfl,?_,?_,?_,?_⟩
   .rintro k ⟨m,hm,rfl⟩;rcases hx.own i b m hb hm with h1 | h1
    .exact h1
    .exact h1.elim
   .rintro k ⟨m,hm,rfl⟩;exact hx.lt hb hm
   .have hrd':Rd w' F1 nm (.arr i 0 n) v:=hrd;by_cases h0:0<n
    .cases hrd' with
     | arr _ _ _ _ m hi hn hp=>
      rcases hx.box i b hb with ⟨hn,_⟩ | ⟨m',hm',hlies⟩
      .rw[hi] at hn;cases hn
      rw[hi] at hm';cases hm';have:=(hlies.c hs0).seq (F':=λk=>F1 k∨k=m.g) (k:=0) (n:=n) hrow (λ_ h=>.inl h) (.inr rfl) (by omega) h0 n10;rw[xO] at this;exact this.seq_flat (λe he=>hfl e (wG he)) ⟨m,hi,rfl⟩
     | arrE _ _ _ _ _ hk=>exact absurd h0 (by omega)
     | arrN=>exact absurd h0 (by omega)
    .obtain rfl:n=0:=by omega
     rw[wY];cases hrd' <;> exact .seq0 _ _ _ _
   .exact⟨hx.keep.os,hx.keep.tape,hx.keep.output,hx.keep.size,λk hk=>hx.keep.block k hk (λh=>h)⟩
  cases e with
  | normal=>obtain⟨st,h1,h2⟩:=hq;exact fin st h1 h2
  | ret=>obtain⟨st,h1,h2⟩:=hq;exact fin st h1 h2
  | exit i=>obtain⟨st,h1,h2⟩:=hq;exact h1.elim
  | goto l=>exact hq.elim
  | panic ch=>exact hq.elim
  | outgrown=>exact hq.elim
 .cases hbody
end
