/-
  The abstract code of a function, what holds b11 it, and that the model's code does as much. No claim is proved here.
-/
import Derived.Test.YtkejmcgngblfnaaGreatDoorYAbDrT
namespace Go.Proofs.YtkejmcgngblfnaaGreatDoor.Ab
open Go Go.RowKit
inductive AC where
 | skip
 | reg (ops:List AO) (kt:List Nat)
 | dreg (ops:List AO) (kt:List Nat)
 | dregA (ops:List AO) (k s:Nat) (ktm kt:List Nat)
 | dregC (ops:List AO) (ls sa sb:List Nat) (ph:List (List Nat×List Nat)) (ktm kt:List Nat)
 | dregT (ops:List AO) (ls:List Nat) (en fb:List (List Nat)) (f0:List Nat) (tr:DT) (ktm kt:List Nat)
 | seq (a b:AC)
 | cond (c:Opd) (a b:AC)
 | block (id:Nat) (a:AC)
 | loop (kt kb:List Nat) (a:AC)
 | exit (id:Nat)
 | ret
inductive AE where
 | normal
 | exit (id:Nat)
 | ret
def awp (P:Program) (G:Nat→Option AV):AC→(AE→St→Prop)→St→Prop
 | .skip,Q,st=>Q .normal st
 | .reg ops kt,Q,st=>opsP P G false ops st fun st'=>Q .normal {st' with env:=st'.trimE kt}
 | .dreg ops kt,Q,st=>opsP P G true ops st fun st'=>Q .normal {st' with env:=st'.trimE kt}
 | .dregA ops k s ktm kt,Q,st=>∃d ty sz z p x n st1,ops[k]? =some ⟨some d,.alloc ty sz z,none⟩∧ops[s]? =some ⟨none,.store p x n,none⟩∧e_ G (some d) (.alloc ty sz z) st=some st1∧
   opsP P G true ((ops.set k dumO).set s dumO) st fun stn=>opsP P G true ((ops.set k dumO).set s dumO) st1 fun stn1=>a14 d {stn with env:=stn.trimE ktm} {stn1 with env:=stn1.trimE ktm} (d_ ((ops.set k dumO).set s dumO))∧
    ∃stS,e_ G none (.store p x n) {stn1 with env:=stn1.trimE ktm}=some stS∧opsP P G true ((ops.set k dumO).set s dumO) {st1 with heap:=stS.heap} fun stn2=>
     a14 d {stn1 with env:=stn1.trimE ktm} {stn2 with env:=stn2.trimE ktm} (d_ ((ops.set k dumO).set s dumO))∧Q .normal {stn2 with env:=({stn2 with env:=stn2.trimE ktm}:St).trimE kt}
 | .dregC ops ls _ _ ph ktm kt,Q,st=>s10 P G ops ktm (fun X=>Q .normal {X with env:=X.trimE kt}) ls ph st
 | .dregT ops _ _ _ f0 tr ktm kt,Q,st=>opsP P G true (selC ops f0) st fun X0=>t15 P G ops ktm (fun X=>Q .normal {X with env:=X.trimE kt}) tr {X0 with env:=X0.trimE ktm}
 | .seq a b,Q,st=>awp P G a (fun e st'=>match e with | .normal=>awp P G b Q st' | e=>Q e st') st
 | .cond c a b,Q,st=>match st.ev G c with
  | .bool β=>(β=true→awp P G a Q st)∧(β=false→awp P G b Q st)
  | _ =>False
 | .block id a,Q,st=>awp P G a (fun e st'=>match e with | .exit j=>if j=id then Q .normal st' else Q (.exit j) st' | e=>Q e st') st
 | .loop kt kb a,Q,st=>∃(I:Nat→St→Prop) (n:Nat),(∃st0,Weak (st.trim kt kb) st0∧I n st0)∧∀n st,I n st→awp P G a (fun e st'=>match e with | .normal=>∃m,m<n∧∃st0,Weak (st'.trim kt kb) st0∧I m st0 | e=>Q e st') st
 | .exit id,Q,st=>Q (.exit id) st
 | .ret,Q,st=>Q .ret st
def chkC (P:Program):Code→AC→Bool
 | .skip,.skip=>true
 | .region _ ops draw,.reg aos _ =>!draw&&c12 P ops ops.toList aos
 | .region _ ops draw,.dreg aos _ =>draw&&P.follows .mixedOrders&&c12 P ops ops.toList aos&&dchk ops aos
 | .region _ ops draw,.dregA aos k s ktm _ =>draw&&P.follows .mixedOrders&&c12 P ops ops.toList aos&&(match (aos[k]?).bind (·.d) with | some d=>d13 ops aos k s d ktm | none=>false)
 | .region _ ops draw,.dregC aos ls sa sb ph ktm kt=>draw&&P.follows .mixedOrders&&c12 P ops ops.toList aos&&d12 ops aos ls sa sb ph ktm kt
 | .region _ ops draw,.dregT aos ls en fb f0 tr ktm kt=>draw&&P.follows .mixedOrders&&c12 P ops ops.toList aos&&d11 ops aos ls en fb f0 tr ktm kt
 | .seq a b,.seq c d=>chkC P a c&&chkC P b d
 | .scope a,.seq .skip c=>chkC P a c
 | .label _,.skip=>true
 | .cond x a b,.cond y c d=>c_ x y&&chkC P a c&&chkC P b d
 | .block i a,.block j c=>i==j&&chkC P a c
 | .loop a,.loop _ _ c=>chkC P a c
 | .exit i,.exit j=>i==j
 | .ret,.ret=>true
 | _,_ =>false
section
variable {P:Program} {G:Nat→Option AV} {C:Ctx} {st st':St} {a:Act} {w:World} {o:Oper}
def l23 (G:Nat→Option AV) (C:Ctx) (Q:AE→St→Prop):Exit→Act→World→Prop
 | .normal,a,w=>∃st,Q .normal st∧Rel G C st a w
 | .exit i,a,w=>∃st,Q (.exit i) st∧Rel G C st a w
 | .ret,a,w=>∃st,Q .ret st∧Rel G C st a w
 | _,_,_ =>False
theorem as13:∀(c:Code) (ac:AC) (Q:AE→St→Prop) (st:St) (a:Act) (w:World),chkC P c ac=true→awp P G ac Q st→Rel G C st a w→c.wp P (l23 G C Q) a w:=by
 intro c ac
 induction ac generalizing c with
 | skip=>
  intro Q st a w hc hk h
  cases c <;> simp only[chkC,Bool.false_eq_true] at hc
  ·exact wp_skip ⟨st,hk,h⟩
  ·exact wp_label ⟨st,hk,h⟩
 | reg aos kt=>
  intro Q st a w hc hk h
  cases c <;> simp only[chkC,Bool.false_eq_true,Bool.and_eq_true,Bool.not_eq_true'] at hc
  obtain⟨hd,hc⟩:=hc
  subst hd
  refine wp_region_list (os10 _ _ _ _ _ _ hc hk h fun st' a' w' h1 h2=>?_)
  obtain⟨nm,F,hx⟩:=h2
  exact⟨_,h1,nm,F,hx.trimEnv kt⟩
 | dreg aos kt=>
  intro Q st a w hc hk h
  cases c <;> simp only[chkC,Bool.false_eq_true,Bool.and_eq_true] at hc
  obtain⟨⟨⟨hd,hm⟩,hc⟩,hdc⟩:=hc
  subst hd
  exact ds12 hm hc hdc (K:=fun st'=>Q .normal st') hk h fun st' a' w' h1 h2=>⟨st',h1,h2⟩
 | dregA aos k s ktm kt=>
  intro Q st a w hc hk h
  cases c <;> simp only[chkC,Bool.false_eq_true,Bool.and_eq_true] at hc
  obtain⟨⟨⟨hd,hm⟩,hc⟩,hdc⟩:=hc
  subst hd
  obtain⟨d,ty,sz,z,p,x,n,st1,h1,h2,h3,h4⟩:=hk
  rw[h1] at hdc
  exact ds11 hm hc hdc h1 h2 h3 (K:=fun st'=>Q .normal st') h4 h fun st' a' w' h1 h2=>⟨st',h1,h2⟩
 | dregC aos ls sa sb ph ktm kt=>
  intro Q st a w hc hk h
  cases c <;> simp only[chkC,Bool.false_eq_true,Bool.and_eq_true] at hc
  obtain⟨⟨⟨hd,hm⟩,hc⟩,hdc⟩:=hc
  subst hd
  exact ds10 hm hc hdc (K:=fun st'=>Q .normal st') hk h fun st' a' w' h1 h2=>⟨st',h1,h2⟩
 | dregT aos ls en fb f0 tr ktm kt=>
  intro Q st a w hc hk h
  cases c <;> simp only[chkC,Bool.false_eq_true,Bool.and_eq_true] at hc
  obtain⟨⟨⟨hd,hm⟩,hc⟩,hdc⟩:=hc
  subst hd
  exact ds_ hm hc hdc (K:=fun st'=>Q .normal st') hk h fun st' a' w' h1 h2=>⟨st',h1,h2⟩
 | seq x y ihx ihy=>
  intro Q st a w hc hk h
  cases c
  case seq c1 c2=>
   simp only[chkC,Bool.and_eq_true] at hc
   refine wp_seq (wp_mono (ihx _ _ _ _ _ hc.1 hk h) fun e a' w' hq=>?_)
   cases e <;> simp only[l23,Exit.then] at hq ⊢
   ·obtain⟨st',h1,h2⟩:=hq;exact ihy _ _ _ _ _ hc.2 h1 h2
   ·exact hq
   ·exact hq
  case scope c1=>
   cases x <;> simp only[chkC,Bool.false_eq_true] at hc
   refine wp_scope_straight (wp_mono (ihy _ _ _ _ _ hc hk h) fun e a' w' hq=>?_)
   cases e <;> exact hq
  all_goals (simp only[chkC,Bool.false_eq_true] at hc)
 | cond x y z ihy ihz=>
  intro Q st a w hc hk h
  cases c <;> simp only[chkC,Bool.false_eq_true,Bool.and_eq_true] at hc
  obtain⟨⟨h1,h2⟩,h3⟩:=hc
  simp only[awp] at hk
  split at hk
  ·rename_i β hβ
   obtain⟨nm,F,hx⟩:=h
   have hr:=hx.opd h1
   rw[hβ] at hr
   generalize hev:a.eval _ =v at hr
   cases hr
   refine wp_cond hev ?_
   cases β
   ·exact ihz _ _ _ _ _ h3 (hk.2 rfl) ⟨nm,F,hx⟩
   ·exact ihy _ _ _ _ _ h2 (hk.1 rfl) ⟨nm,F,hx⟩
  ·exact hk.elim
 | block id x ih=>
  intro Q st a w hc hk h
  cases c <;> simp only[chkC,Bool.false_eq_true,Bool.and_eq_true,beq_iff_eq] at hc
  obtain⟨rfl,hc⟩:=hc
  refine wp_block (wp_mono (ih _ _ _ _ _ hc hk h) fun e a' w' hq=>?_)
  cases e <;> simp only[l23,Exit.inBlock] at hq ⊢
  ·exact hq
  ·obtain⟨st',h1,h2⟩:=hq
   split
   ·rename_i e;subst e;simp only[if_true] at h1;exact⟨st',h1,h2⟩
   ·rename_i e;rw[if_neg e] at h1;exact⟨st',h1,h2⟩
  ·exact hq
 | loop kt kb x ih=>
  intro Q st a w hc hk h
  cases c <;> simp only[chkC,Bool.false_eq_true] at hc
  rename_i body
  obtain⟨I,n,⟨st0,hw0,hI⟩,hround⟩:=hk
  have trimR:∀{st:St} {a:Act} {w:World},Rel G C st a w→Rel G C (st.trim kt kb) a w:=fun⟨nm,F,hx⟩=>⟨nm,F,hx.trim kt kb⟩
  intro b k cs
  have key:∀n st a w,I n st→Rel G C st a w→∃e a' w',l23 G C Q e a' w'∧Arrives P (lone (b.at a (.code body:: .inLoop body::k)) cs w) b k cs e a' w':=by
   intro n
   induction n using Nat.strongRecOn with
   | _ n ihn=>
    intro st a w hI h
    obtain⟨e,a₁,w₁,hq,harr⟩:=ih body _ st a w hc (hround n st hI) h b (.inLoop body::k) cs
    cases e with
    | normal=>
     obtain⟨st',⟨m,hm,st2,hw2,hI'⟩,h'⟩:=hq
     obtain⟨e₂,a₂,w₂,hq₂,harr₂⟩:=ihn m hm _ a₁ w₁ hI' (hw2 _ _ _ _ (trimR h'))
     exact⟨e₂,a₂,w₂,hq₂,.of_steps (Steps.trans harr (.one step_inLoop)) harr₂⟩
    | exit id=>obtain⟨st',h1,h2⟩:=hq;exact⟨.exit id,a₁,w₁,⟨st',h1,h2⟩,.pass (x:=.inLoop body) rfl (fun _ _ =>.inl (by simp)) harr⟩
    | ret=>obtain⟨st',h1,h2⟩:=hq;exact⟨.ret,a₁,w₁,⟨st',h1,h2⟩,.pass (x:=.inLoop body) rfl (fun _ _ =>.inl (by simp)) harr⟩
    | goto l=>exact hq.elim
    | panic ch=>exact hq.elim
    | outgrown=>exact hq.elim
  obtain⟨e,a',w',hq,harr⟩:=key n _ a w hI (hw0 _ _ _ _ (trimR h))
  exact⟨e,a',w',hq,.of_steps (.one step_loop) harr⟩
 | exit id=>
  intro Q st a w hc hk h
  cases c <;> simp only[chkC,Bool.false_eq_true,beq_iff_eq] at hc
  subst hc
  exact wp_exit ⟨st,hk,h⟩
 | ret=>
  intro Q st a w hc hk h
  cases c <;> simp only[chkC,Bool.false_eq_true] at hc
  exact wp_ret ⟨st,hk,h⟩
end
end Go.Proofs.YtkejmcgngblfnaaGreatDoor.Ab
