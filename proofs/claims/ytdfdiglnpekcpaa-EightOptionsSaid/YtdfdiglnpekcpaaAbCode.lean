/-
  The abstract code of a function, what holds behind it, and that the model's code does as much. No claim is proved here.
-/
import Derived.Test.YtdfdiglnpekcpaaAbEval3
namespace Go.Proofs.Ytdfdiglnpekcpaa.Ab
open Go Go.RowKit

inductive AC where
  | skip
  | reg (ops : List AO) (kt : List Nat)
  | seq (a b : AC)
  | cond (c : Opd) (a b : AC)
  | block (id : Nat) (a : AC)
  | loop (kt kb : List Nat) (a : AC)
  | exit (id : Nat)
  | ret

inductive AE where
  | normal
  | exit (id : Nat)
  | ret

/-- A call: its arguments, handed over; its contract; what it hands back, written. -/
def callP (P : Program) (G : Nat → Option AV) (f : Nat) (args : List AV) (d : Option Nat) (st : St) (K : St → Prop) : Prop :=
  ∃ vargs args' r st', viewAll st.heap args = some vargs ∧ FitL vargs args' ∧ PureC P G f args' r ∧ (behind st args r).put d r = some st' ∧ K st'

/-- One operation, whatever its guard says. -/
def stepP (P : Program) (G : Nat → Option AV) (d : Option Nat) (op : AOp) (st : St) (K : St → Prop) : Prop :=
  match op with
  | .call f xs => callP P G f (evs G st xs) d st K
  | .callv x xs => match st.ev G x with
    | .fn f caps => bodyB P f = true ∧ callP P G f (evs G st xs ++ caps) d st K
    | _ => False
  | op => match evalOp G d op st with
    | some st' => K st'
    | none => False

/-- What is known of a guard's slot. -/
def St.know (st : St) (t : Nat) (b : Bool) : St := { st with env := (t, .bool b) :: st.env }

def skipP (d : Option Nat) (st : St) (K : St → Prop) : Prop := match st.put d .undef with | some st' => K st' | none => False

def opP (P : Program) (G : Nat → Option AV) (o : AO) (st : St) (K : St → Prop) : Prop :=
  match o.g with
  | none => stepP P G o.d o.op st K
  | some (t, want) => match st.get t with
    | .bool b => (b = want → stepP P G o.d o.op (st.know t want) K) ∧ (b = (!want) → skipP o.d (st.know t (!want)) K)
    | .undef => skipP o.d st K
    | _ => False

def opsP (P : Program) (G : Nat → Option AV) : List AO → St → (St → Prop) → Prop
  | [], st, K => K st
  | o :: os, st, K => opP P G o st fun st' => opsP P G os st' K

def awp (P : Program) (G : Nat → Option AV) : AC → (AE → St → Prop) → St → Prop
  | .skip, Q, st => Q .normal st
  | .reg ops kt, Q, st => opsP P G ops st fun st' => Q .normal { st' with env := st'.trimE kt }
  | .seq a b, Q, st => awp P G a (fun e st' => match e with | .normal => awp P G b Q st' | e => Q e st') st
  | .cond c a b, Q, st => match st.ev G c with
    | .bool β => (β = true → awp P G a Q st) ∧ (β = false → awp P G b Q st)
    | _ => False
  | .block id a, Q, st => awp P G a (fun e st' => match e with | .exit j => if j = id then Q .normal st' else Q (.exit j) st' | e => Q e st') st
  | .loop kt kb a, Q, st => ∃ (I : Nat → St → Prop) (n : Nat), I n (st.trim kt kb) ∧ ∀ n st, I n st → awp P G a (fun e st' => match e with | .normal => ∃ m, m < n ∧ I m (st'.trim kt kb) | e => Q e st') st
  | .exit id, Q, st => Q (.exit id) st
  | .ret, Q, st => Q .ret st

/-! ### The check -/
def chkGuard (ops : Array Oper) (g : Option (Nat × Bool)) (g' : Option (Nat × Bool)) : Bool :=
  match g, g' with
  | none, none => true
  | some (j, b), some (t, b') => ((ops[j]?).bind (·.dst)) == some t && b == b'
  | _, _ => false
def isStore : AOp → Bool
  | .store .. => true
  | _ => false
def chkAO (P : Program) (ops : Array Oper) (o : Oper) (ao : AO) : Bool :=
  o.dst == ao.d && chkGuard ops o.guard ao.g && chkOp P o.op ao.op && (!isStore ao.op || o.dst.isNone)
def chkAOs (P : Program) (ops : Array Oper) : List Oper → List AO → Bool
  | [], [] => true
  | o :: os, ao :: aos => chkAO P ops o ao && chkAOs P ops os aos
  | _, _ => false
def chkC (P : Program) : Code → AC → Bool
  | .skip, .skip => true
  | .region _ ops draw, .reg aos _ => !draw && chkAOs P ops ops.toList aos
  | .seq a b, .seq c d => chkC P a c && chkC P b d
  | .cond x a b, .cond y c d => chkOpd x y && chkC P a c && chkC P b d
  | .block i a, .block j c => i == j && chkC P a c
  | .loop a, .loop _ _ c => chkC P a c
  | .exit i, .exit j => i == j
  | .ret, .ret => true
  | _, _ => false

section
variable {P : Program} {G : Nat → Option AV} {C : Ctx} {st st' : St} {a : Act} {w : World} {o : Oper}

theorem callP_mono {f : Nat} {args : List AV} {d : Option Nat} {K K' : St → Prop} (h : callP P G f args d st K) (hk : ∀ st, K st → K' st) : callP P G f args d st K' := by
  obtain ⟨a, b, c, d, h1, h2, h3, h4, h5⟩ := h
  exact ⟨a, b, c, d, h1, h2, h3, h4, hk _ h5⟩

theorem call_run {f : Nat} {args : Array Value} (hf : bodyB P f = true) (w : World) : (callFunc f args).run P w = .ok (.enter f args) w := by
  unfold bodyB at hf
  split at hf
  · rename_i fn hfn
    simp only [Bool.and_eq_true, Bool.not_eq_true'] at hf
    obtain ⟨h1, h2⟩ := hf
    simp only [callFunc, Sem.run_bind, run_program, Result.andThen_ok, hfn, h2, Bool.false_eq_true, if_false]
    rw [if_neg (by simpa [Option.isNone_iff_eq_none, Option.isSome_iff_ne_none] using h1)]
    rfl
  · cases hf

theorem map_arr (args : Array Operand) (f : Operand → Value) : (args.toList.map f).toArray = args.map f := by apply Array.ext'; simp

/-- One operation without its guard. -/
theorem step_sound (hL : ∀ b, ¬ C.L b) (h : Rel G C st a w) {ao : AO} (hd : o.dst = ao.d) (hc : chkOp P o.op ao.op = true) (hs : isStore ao.op = true → o.dst = none) {K : St → Prop} (hk : stepP P G ao.d ao.op st K)
    {K' : Act → World → Prop} {Q : Exit → Act → World → Prop} (hK : ∀ st' a' w', K st' → Rel G C st' a' w' → K' a' w') : o.wp P a w K' Q := by
  obtain ⟨nm, F, hx⟩ := h
  have enter : ∀ {f : Nat} {args : List AV} {us : List Value}, (execOp a.eval o).run P w = .ok (.enter f us.toArray) w → args.length = us.length →
      (∀ (j : Nat) c u, args[j]? = some c → us[j]? = some u → Rd w F nm c u) → callP P G f args ao.d st K → o.wp P a w K' Q := by
    intro f args us hr hl hrd hcp
    obtain ⟨vargs, args', r, st', h1, h2, h3, h4, h5⟩ := hcp
    rw [← hd] at h4
    unfold Oper.wp
    rw [hr, Oper.upon_enter]
    refine (call_sound hL hx hl hrd h1 h2 h3 h4).mono ?_
    rintro e w' ⟨v, rfl, hrel⟩
    exact hK _ _ _ h5 hrel
  have pure_ : ∀ {op : AOp}, ao.op = op → (∃ st', evalOp G ao.d op st = some st' ∧ K st') → o.wp P a w K' Q := by
    rintro op rfl ⟨st', he, hk⟩
    rw [← hd] at he
    unfold Oper.wp
    rcases evalOp_sound hL hx hc he (fun p x n e => hs (by rw [e]; rfl)) with ⟨v, w', hr, hrel⟩ | ⟨w', hr, hrel⟩
    · rw [hr, Oper.upon_value]; exact hK _ _ _ hk hrel
    · rw [hr, Oper.upon_skip]; exact hK _ _ _ hk hrel
  have plain : (match evalOp G ao.d ao.op st with | some st' => K st' | none => False) → ∃ st', evalOp G ao.d ao.op st = some st' ∧ K st' := by
    intro h
    split at h
    · rename_i st' he; exact ⟨st', he, h⟩
    · exact h.elim
  generalize hao : ao.op = aop at hk
  cases aop
  case call f xs =>
    rw [hao] at hc
    generalize hop : o.op = op at hc
    cases op <;> try (simp only [chkOp, Bool.false_eq_true] at hc; done)
    rename_i cl
    obtain ⟨callee, args, tys⟩ := cl
    cases callee <;> try (simp only [chkOp, Bool.false_eq_true] at hc; done)
    rename_i x
    simp only [chkOp, Bool.and_eq_true] at hc
    obtain ⟨⟨h1, h2⟩, h3⟩ := hc
    cases x <;> simp only [beq_iff_eq, Bool.false_eq_true] at h1
    subst h1
    obtain ⟨h4, h5⟩ := hx.opds h2
    refine enter ?_ h4 h5 hk
    have := call_run (args := (args.toList.map a.eval).toArray) h3 w
    simp only [execOp, hop, resolve, Sem.run_bind, Act.eval, Deferred.ofValue, Sem.run_pure, Result.andThen_ok, invoke]
    rw [map_arr] at this ⊢
    simpa using this
  case callv x xs =>
    rw [hao] at hc
    generalize hop : o.op = op at hc
    cases op <;> try (simp only [chkOp, Bool.false_eq_true] at hc; done)
    rename_i cl
    obtain ⟨callee, args, tys⟩ := cl
    cases callee <;> try (simp only [chkOp, Bool.false_eq_true] at hc; done)
    rename_i y
    simp only [chkOp, Bool.and_eq_true] at hc
    obtain ⟨h1, h2⟩ := hc
    have hy := hx.opd h1
    simp only [stepP] at hk
    split at hk
    · rename_i f caps hev
      rw [hev] at hy
      generalize hey : a.eval y = yv at hy
      cases hy with
      | fn _ _ _ us hl hr =>
        obtain ⟨h4, h5⟩ := hx.opds h2
        obtain ⟨hbo, hk⟩ := hk
        have hfn : ∀ vs, (callFunc f vs).run P w = .ok (.enter f vs) w := fun vs => call_run hbo w
        refine enter (us := args.toList.map a.eval ++ us) ?_ (by simp only [List.length_append]; omega) (fun j c u hc hu => ?_) hk
        · simp only [execOp, hop, resolve, Sem.run_bind, hey, Deferred.ofValue, Sem.run_pure, Result.andThen_ok, invoke]
          have := hfn ((args.toList.map a.eval).toArray ++ us.toArray)
          rw [← List.append_toArray, map_arr] at *
          simpa using this
        · rw [List.getElem?_append] at hc hu
          split at hc
          · rename_i hj
            rw [if_pos (by omega)] at hu
            exact h5 j c u hc hu
          · rename_i hj
            rw [if_neg (by omega), ← h4] at hu
            exact hr _ c u hc hu
    · exact hk.elim
  all_goals exact pure_ rfl (plain (by rw [hao]; exact hk))

theorem RelX.know {nm : Names} {F : Nat → Prop} (h : RelX G C nm F st a w) {t : Nat} {b : Bool} (ht : a.tmps.getD t undef = .bool b) : RelX G C nm F (st.know t b) a w := by
  refine ⟨h.N, h.df, fun t' => ?_, h.box, h.inj, h.fr, h.own, h.good, h.f0, h.fb, h.keep⟩
  simp only [St.get, St.know, eget]
  split
  · rename_i e; subst e; rw [ht]; exact .bool _ _
  · exact h.env t'

theorem yielded_bool {ops : Array Oper} {tmps : Array Value} {j t : Nat} {b : Bool} (hj : (ops[j]?).bind (·.dst) = some t) (ht : tmps.getD t undef = .bool b) : yielded ops tmps j = some b := by
  have : tmps[t]? = some (.bool b) := by
    rw [Array.getD_eq_getD_getElem?] at ht
    cases h : tmps[t]? with
    | none => rw [h] at ht; simp [undef] at ht
    | some v => rw [h] at ht; simp at ht; rw [ht]
  simp only [yielded, hj, Option.bind_some, this]
theorem yielded_undef {ops : Array Oper} {tmps : Array Value} {j t : Nat} (hj : (ops[j]?).bind (·.dst) = some t) (ht : tmps.getD t undef = undef) : yielded ops tmps j = none := by
  simp only [yielded, hj, Option.bind_some]
  rw [Array.getD_eq_getD_getElem?] at ht
  cases h : tmps[t]? with
  | none => rfl
  | some v => rw [h] at ht; simp [undef] at ht; subst ht; rfl

theorem skip_sound (h : Rel G C st a w) {d : Option Nat} {K : St → Prop} (hk : skipP d st K) : ∃ st', K st' ∧ Rel G C st' (a.put d undef) w := by
  obtain ⟨nm, F, hx⟩ := h
  unfold skipP at hk
  split at hk
  · rename_i st' hp; exact ⟨st', hk, nm, F, hx.put (.undef _) hp⟩
  · exact hk.elim

/-- One operation. -/
theorem op_sound (hL : ∀ b, ¬ C.L b) (h : Rel G C st a w) {ops : Array Oper} {ao : AO} (hc : chkAO P ops o ao = true) {K : St → Prop} (hk : opP P G ao st K)
    {K' : Act → World → Prop} {Q : Exit → Act → World → Prop} (hK : ∀ st' a' w', K st' → Rel G C st' a' w' → K' a' w') :
    if Region.wanted o (yielded ops a.tmps) then o.wp P a w K' Q else K' (a.put o.dst undef) w := by
  simp only [chkAO, Bool.and_eq_true, beq_iff_eq] at hc
  obtain ⟨⟨⟨hd, hg⟩, hop⟩, hs⟩ := hc
  have hs' : isStore ao.op = true → o.dst = none := fun e => by rw [e] at hs; simpa using hs
  unfold chkGuard at hg
  unfold opP at hk
  split at hg
  · rename_i e1 e2
    rw [e2] at hk
    simp only [Region.wanted, e1, if_true]
    exact step_sound hL h hd hop hs' hk hK
  · rename_i j b t b' e1 e2
    simp only [Bool.and_eq_true, beq_iff_eq] at hg
    obtain ⟨hj, rfl⟩ := hg
    rw [e2] at hk
    simp only at hk
    obtain ⟨nm, F, hx⟩ := h
    have ht := hx.env t
    split at hk
    · rename_i β hβ
      rw [hβ] at ht
      generalize hev : a.tmps.getD t undef = v at ht
      cases ht
      have hy := yielded_bool hj hev
      simp only [Region.wanted, e1, hy]
      by_cases hb : β = b
      · subst hb
        simp only [beq_self_eq_true, if_true]
        exact step_sound hL ⟨nm, F, hx.know hev⟩ hd hop hs' (hk.1 rfl) hK
      · have hb' : β = (!b) := by clear hk hβ; revert hb; cases β <;> cases b <;> decide
        subst hb'
        have hne : (some (!b) == some b) = false := by cases b <;> rfl
        simp only [hne, Bool.false_eq_true, if_false]
        obtain ⟨st', h1, h2⟩ := skip_sound (d := ao.d) ⟨nm, F, hx.know hev⟩ (hk.2 rfl)
        rw [hd]
        exact hK _ _ _ h1 h2
    · rename_i hβ
      rw [hβ] at ht
      generalize hev : a.tmps.getD t undef = v at ht
      cases ht
      have hy := yielded_undef hj hev
      simp only [Region.wanted, e1, hy]
      obtain ⟨st', h1, h2⟩ := skip_sound ⟨nm, F, hx⟩ hk
      rw [hd]
      exact hK _ _ _ h1 h2
    · exact hk.elim
  · cases hg

theorem ops_sound (hL : ∀ b, ¬ C.L b) {ops : Array Oper} {Q : Exit → Act → World → Prop} : ∀ (l : List Oper) (aos : List AO) (st : St) (a : Act) (w : World) (K : St → Prop), chkAOs P ops l aos = true → opsP P G aos st K → Rel G C st a w →
    (∀ st' a' w', K st' → Rel G C st' a' w' → Q .normal a' w') → wpList P ops Q l a w
  | [], [], st, a, w, K, _, hk, h, hK => hK st a w hk h
  | o :: l, ao :: aos, st, a, w, K, hc, hk, h, hK => by
    simp only [chkAOs, Bool.and_eq_true] at hc
    refine wpList_step fun K' hK' => ?_
    exact op_sound hL h hc.1 hk fun st' a' w' h1 h2 => hK' _ _ (ops_sound hL l aos st' a' w' K hc.2 h1 h2 hK)
  | [], _ :: _, _, _, _, _, hc, _, _, _ => by simp [chkAOs] at hc
  | _ :: _, [], _, _, _, _, hc, _, _, _ => by simp [chkAOs] at hc

/-- What is asked at an exit. -/
def liftQ (G : Nat → Option AV) (C : Ctx) (Q : AE → St → Prop) : Exit → Act → World → Prop
  | .normal, a, w => ∃ st, Q .normal st ∧ Rel G C st a w
  | .exit i, a, w => ∃ st, Q (.exit i) st ∧ Rel G C st a w
  | .ret, a, w => ∃ st, Q .ret st ∧ Rel G C st a w
  | _, _, _ => False

theorem awp_sound (hL : ∀ b, ¬ C.L b) : ∀ (c : Code) (ac : AC) (Q : AE → St → Prop) (st : St) (a : Act) (w : World), chkC P c ac = true → awp P G ac Q st → Rel G C st a w → c.wp P (liftQ G C Q) a w := by
  intro c ac
  induction ac generalizing c with
  | skip =>
    intro Q st a w hc hk h
    cases c <;> simp only [chkC, Bool.false_eq_true] at hc
    exact wp_skip ⟨st, hk, h⟩
  | reg aos kt =>
    intro Q st a w hc hk h
    cases c <;> simp only [chkC, Bool.false_eq_true, Bool.and_eq_true, Bool.not_eq_true'] at hc
    obtain ⟨hd, hc⟩ := hc
    subst hd
    refine wp_region_list (ops_sound hL _ _ _ _ _ _ hc hk h fun st' a' w' h1 h2 => ?_)
    obtain ⟨nm, F, hx⟩ := h2
    exact ⟨_, h1, nm, F, hx.trimEnv kt⟩
  | seq x y ihx ihy =>
    intro Q st a w hc hk h
    cases c <;> simp only [chkC, Bool.false_eq_true, Bool.and_eq_true] at hc
    refine wp_seq (wp_mono (ihx _ _ _ _ _ hc.1 hk h) fun e a' w' hq => ?_)
    cases e <;> simp only [liftQ, Exit.then] at hq ⊢
    · obtain ⟨st', h1, h2⟩ := hq; exact ihy _ _ _ _ _ hc.2 h1 h2
    · exact hq
    · exact hq
  | cond x y z ihy ihz =>
    intro Q st a w hc hk h
    cases c <;> simp only [chkC, Bool.false_eq_true, Bool.and_eq_true] at hc
    obtain ⟨⟨h1, h2⟩, h3⟩ := hc
    simp only [awp] at hk
    split at hk
    · rename_i β hβ
      obtain ⟨nm, F, hx⟩ := h
      have hr := hx.opd h1
      rw [hβ] at hr
      generalize hev : a.eval _ = v at hr
      cases hr
      refine wp_cond hev ?_
      cases β
      · exact ihz _ _ _ _ _ h3 (hk.2 rfl) ⟨nm, F, hx⟩
      · exact ihy _ _ _ _ _ h2 (hk.1 rfl) ⟨nm, F, hx⟩
    · exact hk.elim
  | block id x ih =>
    intro Q st a w hc hk h
    cases c <;> simp only [chkC, Bool.false_eq_true, Bool.and_eq_true, beq_iff_eq] at hc
    obtain ⟨rfl, hc⟩ := hc
    refine wp_block (wp_mono (ih _ _ _ _ _ hc hk h) fun e a' w' hq => ?_)
    cases e <;> simp only [liftQ, Exit.inBlock] at hq ⊢
    · exact hq
    · obtain ⟨st', h1, h2⟩ := hq
      split
      · rename_i e; subst e; simp only [if_true] at h1; exact ⟨st', h1, h2⟩
      · rename_i e; rw [if_neg e] at h1; exact ⟨st', h1, h2⟩
    · exact hq
  | loop kt kb x ih =>
    intro Q st a w hc hk h
    cases c <;> simp only [chkC, Bool.false_eq_true] at hc
    rename_i body
    obtain ⟨I, n, hI, hround⟩ := hk
    have trimR : ∀ {st : St} {a : Act} {w : World}, Rel G C st a w → Rel G C (st.trim kt kb) a w := fun ⟨nm, F, hx⟩ => ⟨nm, F, hx.trim kt kb⟩
    intro b k cs
    have key : ∀ n st a w, I n st → Rel G C st a w → ∃ e a' w', liftQ G C Q e a' w' ∧ Arrives P (lone (b.at a (.code body :: .inLoop body :: k)) cs w) b k cs e a' w' := by
      intro n
      induction n using Nat.strongRecOn with
      | _ n ihn =>
        intro st a w hI h
        obtain ⟨e, a₁, w₁, hq, harr⟩ := ih body _ st a w hc (hround n st hI) h b (.inLoop body :: k) cs
        cases e with
        | normal =>
          obtain ⟨st', ⟨m, hm, hI'⟩, h'⟩ := hq
          obtain ⟨e₂, a₂, w₂, hq₂, harr₂⟩ := ihn m hm _ a₁ w₁ hI' (trimR h')
          exact ⟨e₂, a₂, w₂, hq₂, .of_steps (Steps.trans harr (.one step_inLoop)) harr₂⟩
        | exit id => obtain ⟨st', h1, h2⟩ := hq; exact ⟨.exit id, a₁, w₁, ⟨st', h1, h2⟩, .pass (x := .inLoop body) rfl (fun _ _ => .inl (by simp)) harr⟩
        | ret => obtain ⟨st', h1, h2⟩ := hq; exact ⟨.ret, a₁, w₁, ⟨st', h1, h2⟩, .pass (x := .inLoop body) rfl (fun _ _ => .inl (by simp)) harr⟩
        | goto l => exact hq.elim
        | panic ch => exact hq.elim
        | outgrown => exact hq.elim
    obtain ⟨e, a', w', hq, harr⟩ := key n _ a w hI (trimR h)
    exact ⟨e, a', w', hq, .of_steps (.one step_loop) harr⟩
  | exit id =>
    intro Q st a w hc hk h
    cases c <;> simp only [chkC, Bool.false_eq_true, beq_iff_eq] at hc
    subst hc
    exact wp_exit ⟨st, hk, h⟩
  | ret =>
    intro Q st a w hc hk h
    cases c <;> simp only [chkC, Bool.false_eq_true] at hc
    exact wp_ret ⟨st, hk, h⟩
end
end Go.Proofs.Ytdfdiglnpekcpaa.Ab
