/-
  Abstract code, run by reckoning: what a call of known values comes to. No claim is proved here.
-/
import Derived.Test.YtgdlgdchdohdoaaGreatDoorQAbRun
namespace Go.Proofs.YtgdlgdchdohdoaaGreatDoor.Ab
open Go Go.RowKit

mutual
def aveq : AV → AV → Bool
  | .top, .top => true
  | .undef, .undef => true
  | .bool a, .bool b => a == b
  | .int k a, .int l b => decide (k = l) && a == b
  | .str a, .str b => a == b
  | .agg a, .agg b => aveqL a b
  | .tup a, .tup b => aveqL a b
  | .seq n a, .seq m b => n == m && aveqL a b
  | .full n a, .full m b => n == m && aveqL a b
  | .nils, .nils => true
  | .arr a b c, .arr x y z => a == x && (b == y && c == z)
  | .ref a b c, .ref x y z => a == x && (b == y && c == z)
  | .eptr a n, .eptr b m => n == m && aveq a b
  | .nilp, .nilp => true
  | .fn f a, .fn g b => f == g && aveqL a b
  | .nilfn, .nilfn => true
  | .nili, .nili => true
  | .iface t a, .iface u b => t == u && aveq a b
  | .mapv a, .mapv b => a == b
  | .nilm, .nilm => true
  | .rawp a b, .rawp x y => a == x && b == y
  | .mapc a, .mapc b => aveqL a b
  | _, _ => false
def aveqL : List AV → List AV → Bool
  | [], [] => true
  | a :: l, b :: k => aveq a b && aveqL l k
  | _, _ => false
end
mutual
theorem aveq_eq : ∀ (a b : AV), aveq a b = true → a = b
  | .top, b, h => by cases b <;> simp [aveq] at h; rfl
  | .undef, b, h => by cases b <;> simp [aveq] at h; rfl
  | .bool a, b, h => by cases b <;> simp [aveq] at h; rw [h]
  | .int k a, b, h => by cases b <;> simp [aveq] at h; rw [h.1, h.2]
  | .str a, b, h => by cases b <;> simp [aveq] at h; rw [h]
  | .agg a, b, h => by cases b <;> simp [aveq] at h; rw [aveqL_eq _ _ h]
  | .tup a, b, h => by cases b <;> simp [aveq] at h; rw [aveqL_eq _ _ h]
  | .seq n a, b, h => by cases b <;> simp [aveq] at h; rw [h.1, aveqL_eq _ _ h.2]
  | .full n a, b, h => by cases b <;> simp [aveq] at h; rw [h.1, aveqL_eq _ _ h.2]
  | .nils, b, h => by cases b <;> simp [aveq] at h; rfl
  | .arr a b c, x, h => by cases x <;> simp [aveq] at h; rw [h.1, h.2.1, h.2.2]
  | .ref a b c, x, h => by cases x <;> simp [aveq] at h; rw [h.1, h.2.1, h.2.2]
  | .eptr a n, x, h => by cases x <;> simp [aveq] at h; rw [h.1, aveq_eq _ _ h.2]
  | .nilp, b, h => by cases b <;> simp [aveq] at h; rfl
  | .fn f a, b, h => by cases b <;> simp [aveq] at h; rw [h.1, aveqL_eq _ _ h.2]
  | .nilfn, b, h => by cases b <;> simp [aveq] at h; rfl
  | .nili, b, h => by cases b <;> simp [aveq] at h; rfl
  | .iface t a, b, h => by cases b <;> simp [aveq] at h; rw [h.1, aveq_eq _ _ h.2]
  | .mapv a, b, h => by cases b <;> simp [aveq] at h; rw [h]
  | .nilm, b, h => by cases b <;> simp [aveq] at h; rfl
  | .rawp a b, x, h => by cases x <;> simp [aveq] at h; rw [h.1, h.2]
  | .mapc a, b, h => by cases b <;> simp [aveq] at h; rw [aveqL_eq _ _ h]
theorem aveqL_eq : ∀ (a b : List AV), aveqL a b = true → a = b
  | [], b, h => by cases b <;> simp [aveqL] at h; rfl
  | x :: a, b, h => by
    cases b with
    | nil => simp [aveqL] at h
    | cons y b =>
      rw [aveqL, Bool.and_eq_true] at h
      rw [aveq_eq x y h.1, aveqL_eq a b h.2]
end
def boxeq (a b : Box) : Bool := a.row == b.row && (a.ty == b.ty && (a.sz == b.sz && aveqL a.es b.es))
theorem boxeq_eq {a b : Box} (h : boxeq a b = true) : a = b := by
  unfold boxeq at h
  simp only [Bool.and_eq_true, beq_iff_eq] at h
  obtain ⟨a1, a2, a3, a4⟩ := a
  obtain ⟨b1, b2, b3, b4⟩ := b
  obtain ⟨h1, h2, h3, h4⟩ := h
  dsimp only at h1 h2 h3 h4
  rw [h1, h2, h3, aveqL_eq _ _ h4]
def namesA : AV → List Nat
  | .arr i _ _ => [i]
  | .ref i _ _ => [i]
  | .mapv i => [i]
  | .agg cs => go cs
  | .tup cs => go cs
  | .fn _ cs => go cs
  | .iface _ v => namesA v
  | _ => []
where
  go : List AV → List Nat
  | [] => []
  | c :: cs => namesA c ++ go cs
def reachX (H : List (Nat × Box)) : Nat → List Nat → List Nat → List Nat
  | 0, _, dn => dn
  | _ + 1, [], dn => dn
  | n + 1, i :: r, dn => if memb dn i then reachX H n r dn else match hget H i with
    | some b => reachX H n ((if b.row then [] else namesA.go b.es) ++ r) (dn ++ [i])
    | none => reachX H n r dn
def pickH (H : List (Nat × Box)) : List Nat → List (Nat × Box)
  | [] => []
  | i :: r => match hget H i with | some b => (i, b) :: pickH H r | none => pickH H r
theorem pickH_get {H : List (Nat × Box)} : ∀ {l : List Nat} {i : Nat} {b : Box}, hget (pickH H l) i = some b → hget H i = some b
  | [], i, b, h => by simp [pickH, hget] at h
  | j :: r, i, b, h => by
    unfold pickH at h
    split at h
    · rename_i c hc
      simp only [hget] at h
      split at h
      · rename_i e
        subst e
        rw [hc]
        exact h
      · exact pickH_get h
    · exact pickH_get h
/-- What is handed over, by their names. -/
def giveX (I : List (Nat × Nat)) (heap : List (Nat × Box)) : List Nat → Option (List (Nat × Box))
  | [] => some []
  | j :: r => match look I j, (hget heap j).bind (renB I), giveX I heap r with
    | some i, some b, some H => some ((i, b) :: H)
    | _, _, _ => none
def giveB (I : List (Nat × Nat)) (heap : List (Nat × Box)) : List (Nat × Box) → Bool
  | [] => true
  | (i, b) :: r => (match look I i with
    | some j => match renB I b, hget heap j with
      | some b2, some c => boxeq b2 c
      | _, _ => false
    | none => false) && giveB I heap r
theorem giveB_ok {I : List (Nat × Nat)} {heap : List (Nat × Box)} : ∀ {H : List (Nat × Box)}, giveB I heap H = true → GiveOK I heap H
  | [], _ => trivial
  | (i, b) :: r, h => by
    rw [giveB, Bool.and_eq_true] at h
    refine ⟨?_, giveB_ok h.2⟩
    have h := h.1
    split at h
    · rename_i j hj
      split at h
      · rename_i b2 c hb hc
        exact ⟨j, b2, hj, hb, by rw [hc, boxeq_eq h]⟩
      · cases h
    · cases h
structure XE where
  pc : Nat → List AV → Option AV
  hc : Nat → List AV → List (Nat × Box) → Option (AV × List (Nat × Box))
  mode : Nat → Nat
  body : Nat → Bool
  fr : List Nat
structure XOk (P : Program) (G : Nat → Option AV) (X : XE) : Prop where
  pc : ∀ f args r, X.pc f args = some r → PureC P G f args r
  hc : ∀ f args H r H', X.hc f args H = some (r, H') → HeapC P G f args H r H'
  body : ∀ f, X.body f = true → bodyB P f = true
def xpure (X : XE) (q : Bool) (f : Nat) (args : List AV) (d : Option Nat) (st : St) : Option St :=
  match viewBs st.heap args with
  | some b => match X.pc f b with
    | some r => if flat r = true then st.put d r else match viewAll st.heap args with
      | some a => if aveqL a b = true ∧ (q = true → quietR args r = true) then (st.thaws (rowsAll args)).put d r else none
      | none => none
    | none => none
  | none => none
/-- Names that are free. -/
def freeX (st : St) (d : Option Nat) (fr : List Nat) : List Nat := (match d with | some d => d :: fr.filter (fun j => j != d) | none => fr).filter fun j => (hget st.heap j).isNone && decide (j < st.N)
def zipX : List Nat → List Nat → List (Nat × Nat)
  | a :: l, b :: k => (a, b) :: zipX l k
  | _, _ => []
def bigX : Nat := 1000000
/-- The boxes that speak of rows or maps that are handed over: they are handed over, too (else what they say is forgotten). -/
def holdX (rs : List Nat) : List (Nat × Box) → List Nat
  | [] => []
  | (i, b) :: r => if b.row = false ∧ (namesA.go b.es).any (memb rs) = true then i :: holdX rs r else holdX rs r
def rowsX (H : List (Nat × Box)) (js : List Nat) : List Nat := js.filter fun j => match hget H j with | some b => b.row | none => false
def wideX (H : List (Nat × Box)) (js : List Nat) : List Nat :=
  match rowsX H js with
  | [] => js
  | rs => reachX H 10000 (holdX rs H) js
def xheap (X : XE) (f : Nat) (args : List AV) (d : Option Nat) (st : St) : Option St :=
  let js := wideX st.heap (wideX st.heap (reachX st.heap 10000 (namesA.go args) []))
  let I' := js.map fun j => (j, bigX + j)
  let I0 := js.map fun j => (bigX + j, j)
  match renO.go I' args with
  | some args' => match renO.go I0 args', giveX I' st.heap js with
    | some args2, some H => match X.hc f args' H with
      | some (r, H') =>
        let I := I0 ++ zipX ((H'.map (·.1)).filter fun i => (hget H i).isNone) (freeX st d X.fr)
        match renO.go I args', renO I r, takeL I H' with
        | some args1, some r2, some H2 => if aveqL args2 args = true ∧ aveqL args1 args = true ∧ giveB I st.heap H = true ∧ nodupB (ours I) = true ∧ nodupB (theirs I) = true ∧ newOK st.N H I = true then (afterH st I H H2).put d r2 else none
        | _, _, _ => none
      | none => none
    | _, _ => none
  | none => none
def xcall (X : XE) (q : Bool) (f : Nat) (args : List AV) (d : Option Nat) (st : St) : Option St :=
  if X.mode f = 0 then xpure X q f args d st else if X.mode f = 1 then (if q = true then none else xheap X f args d st) else
    match xpure X q f args d st with
    | some st' => some st'
    | none => if q = true then none else xheap X f args d st
section
variable {P : Program} {G : Nat → Option AV} {X : XE}
theorem xpure_ok (hX : XOk P G X) {q : Bool} {f : Nat} {args : List AV} {d : Option Nat} {st st' : St} (h : xpure X q f args d st = some st') {K : St → Prop} (hK : K st') : callP P G q f args d st K := by
  unfold xpure at h
  split at h
  · rename_i b hb
    split at h
    · rename_i r hr
      have hc := hX.pc f b r hr
      split at h
      · rename_i hf
        refine ⟨b, b, r, st', ?_, FitL.refl _, hc, ?_, fun _ => ?_, hK⟩
        · unfold viewC; rw [if_pos hf]; exact hb
        · unfold behind; rw [if_pos hf]; exact h
        · unfold quietR; rw [hf]; rfl
      · rename_i hf
        split at h
        · rename_i a ha
          split at h
          · rename_i hc2
            rw [aveqL_eq _ _ hc2.1] at ha
            refine ⟨b, b, r, st', ?_, FitL.refl _, hc, ?_, hc2.2, hK⟩
            · unfold viewC; rw [if_neg hf]; exact ha
            · unfold behind; rw [if_neg hf]; exact h
          · cases h
        · cases h
    · cases h
  · cases h
theorem xheap_ok (hX : XOk P G X) {f : Nat} {args : List AV} {d : Option Nat} {st st' : St} (h : xheap X f args d st = some st') {K : St → Prop} (hK : K st') : callHP P G f args d st K := by
  unfold xheap at h
  dsimp only at h
  split at h
  · rename_i args' ha
    split at h
    · rename_i args2 H h2 hH
      split at h
      · rename_i r H' hr
        split at h
        · rename_i args1 r2 H2 e1 e2 e3
          split at h
          · rename_i hc
            obtain ⟨c1, c2, c3, c4, c5, c6⟩ := hc
            rw [aveqL_eq _ _ c2] at e1
            exact ⟨_, args, args', H, H', H2, r, r2, st', FitL.refl _, e1, giveB_ok c3, c4, c5, c6, hX.hc f args' H r H' hr, e2, e3, h, hK⟩
          · cases h
        · cases h
      · cases h
    · cases h
  · cases h
theorem xcall_ok (hX : XOk P G X) {q : Bool} {f : Nat} {args : List AV} {d : Option Nat} {st st' : St} (h : xcall X q f args d st = some st') {K : St → Prop} (hK : K st') : callX P G q f args d st K := by
  unfold xcall at h
  split at h
  · exact .inl (.inl (xpure_ok hX h hK))
  · split at h
    · split at h
      · cases h
      · rename_i hq
        exact .inr ⟨by simpa using hq, xheap_ok hX h hK⟩
    · split at h
      · rename_i st1 h1
        cases h
        exact .inl (.inl (xpure_ok hX h1 hK))
      · split at h
        · cases h
        · rename_i hq
          exact .inr ⟨by simpa using hq, xheap_ok hX h hK⟩
end
def xstep (X : XE) (G : Nat → Option AV) (q : Bool) (d : Option Nat) (op : AOp) (st : St) : Option St :=
  match op with
  | .call f xs => xcall X q f (evs G st xs) d st
  | .callv x xs => match st.ev G x with
    | .fn f caps => if X.body f = true then xcall X q f (evs G st xs ++ caps) d st else none
    | _ => none
  | .callB f xs => xcall X false f (evs G st xs) d st
  | .callvB x xs => match st.ev G x with
    | .fn f caps => if X.body (fnN f) = true then xcall X false (fnN f) (fnA f caps (evs G st xs)) d st else none
    | _ => none
  | op => evalOp G d op st
def xop (X : XE) (G : Nat → Option AV) (q : Bool) (o : AO) (st : St) : Option St :=
  match o.g with
  | none => xstep X G q o.d o.op st
  | some (t, want) => match st.get t with
    | .bool b => if b = want then xstep X G q o.d o.op (st.know t want) else (st.know t (!want)).put o.d .undef
    | .undef => st.put o.d .undef
    | _ => none
def xops (X : XE) (G : Nat → Option AV) (q : Bool) : List AO → St → Option St
  | [], st => some st
  | o :: os, st => match xop X G q o st with
    | some st' => xops X G q os st'
    | none => none
section
variable {P : Program} {G : Nat → Option AV} {X : XE}
theorem xstep_ok (hX : XOk P G X) {q : Bool} {d : Option Nat} {op : AOp} {st st' : St} (h : xstep X G q d op st = some st') {K : St → Prop} (hK : K st') : stepP P G q d op st K := by
  cases op
  case call f xs => exact .inl (xcall_ok hX h hK)
  case callB f xs => exact .inl (xcall_ok hX h hK)
  case callv x xs =>
    simp only [xstep] at h
    simp only [stepP]
    split at h
    · rename_i f caps e
      split at h
      · rename_i hb
        rw [e]
        exact ⟨hX.body f hb, .inl (xcall_ok hX h hK)⟩
      · cases h
    · cases h
  case callvB x xs =>
    simp only [xstep] at h
    simp only [stepP]
    split at h
    · rename_i f caps e
      split at h
      · rename_i hb
        rw [e]
        exact ⟨hX.body (fnN f) hb, .inl (xcall_ok hX h hK)⟩
      · cases h
    · cases h
  all_goals (simp only [stepP]; simp only [xstep] at h; rw [h]; exact hK)
theorem xop_ok (hX : XOk P G X) {q : Bool} {o : AO} {st st' : St} (h : xop X G q o st = some st') {K : St → Prop} (hK : K st') : opP P G q o st K := by
  unfold xop at h
  unfold opP
  split at h
  · rename_i hg
    simp only [hg]
    exact xstep_ok hX h hK
  · rename_i t want hg
    simp only [hg]
    split at h
    · rename_i b hb
      simp only [hb]
      split at h
      · rename_i e
        subst e
        exact ⟨fun _ => xstep_ok hX h hK, fun e => by cases b <;> cases e⟩
      · rename_i e
        refine ⟨fun e' => absurd e' e, fun _ => ?_⟩
        unfold skipP
        rw [h]
        exact hK
    · rename_i hb
      simp only [hb]
      unfold skipP
      rw [h]
      exact hK
    · cases h
theorem xops_ok (hX : XOk P G X) {q : Bool} : ∀ {os : List AO} {st st' : St}, xops X G q os st = some st' → ∀ {K : St → Prop}, K st' → opsP P G q os st K
  | [], st, st', h, K, hK => by cases h; exact hK
  | o :: os, st, st', h, K, hK => by
    rw [xops] at h
    split at h
    · rename_i st1 h1
      exact xop_ok hX h1 (xops_ok hX h hK)
    · cases h
end
def agreeX (d : Nat) (a b : St) : List Nat → Bool
  | [] => true
  | t :: ts => aveq (eget b.env t) (eget a.env t) && (aveq (purge d (eget a.env t)) (eget a.env t) && agreeX d a b ts)
theorem agreeX_ok {d : Nat} {a b : St} : ∀ {ts : List Nat}, agreeX d a b ts = true → agreeL d a b ts
  | [], _ => trivial
  | t :: ts, h => by
    rw [agreeX, Bool.and_eq_true, Bool.and_eq_true] at h
    exact ⟨⟨aveq_eq _ _ h.1, aveq_eq _ _ h.2.1⟩, agreeX_ok h.2.2⟩
def agreeY (a b : St) : List Nat → Bool
  | [] => true
  | t :: ts => aveq (eget b.env t) (eget a.env t) && agreeY a b ts
theorem agreeY_ok {a b : St} : ∀ {ts : List Nat}, agreeY a b ts = true → agreeC a b ts
  | [], _ => trivial
  | t :: ts, h => by
    rw [agreeY, Bool.and_eq_true] at h
    exact ⟨aveq_eq _ _ h.1, agreeY_ok h.2⟩
def St.trE (st : St) (k : List Nat) : St := { st with env := st.trimE k }
def xdA (X : XE) (G : Nat → Option AV) (ops : List AO) (k s : Nat) (ktm kt : List Nat) (st : St) : Option St :=
  match ops[k]?, ops[s]? with
  | some ⟨some d, .alloc ty sz z, none⟩, some ⟨none, .store p x n, none⟩ =>
    match evalOp G (some d) (.alloc ty sz z) st with
    | some st1 => match xops X G true ((ops.set k dumO).set s dumO) st, xops X G true ((ops.set k dumO).set s dumO) st1 with
      | some stn, some stn1 => if agreeX d (stn.trE ktm) (stn1.trE ktm) (dstsA ((ops.set k dumO).set s dumO)) = true then
          match evalOp G none (.store p x n) (stn1.trE ktm) with
          | some stS => match xops X G true ((ops.set k dumO).set s dumO) { st1 with heap := stS.heap } with
            | some stn2 => if agreeX d (stn1.trE ktm) (stn2.trE ktm) (dstsA ((ops.set k dumO).set s dumO)) = true then some ((stn2.trE ktm).trE kt) else none
            | none => none
          | none => none
        else none
      | _, _ => none
    | none => none
  | _, _ => none
def xstg (X : XE) (G : Nat → Option AV) (aos : List AO) (ktm : List Nat) : List Nat → List (List Nat × List Nat) → St → Option St
  | [], (f, l) :: _, st => match xops X G true (selC aos f) st with
    | some X0 => match xops X G true (selC aos l) (X0.trE ktm) with
      | some X1 => if agreeY (X0.trE ktm) (X1.trE ktm) (dstsA (selC aos l)) = true then some (X0.trE ktm) else none
      | none => none
    | none => none
  | c :: ls, (f, l) :: r, st => match xops X G true (selC aos f) st with
    | some X0 => match xops X G true (selC aos l) (X0.trE ktm) with
      | some X1 => if agreeY (X0.trE ktm) (X1.trE ktm) (dstsA (selC aos l)) = true then match aos[c]? with
          | some ⟨d, op, none⟩ => match evalOp G d op (X0.trE ktm) with
            | some Y => xstg X G aos ktm ls r Y
            | none => none
          | _ => none
        else none
      | none => none
    | none => none
  | _, [], _ => none
section
variable {P : Program} {G : Nat → Option AV} {X : XE}
theorem xstg_ok (hX : XOk P G X) {aos : List AO} {ktm : List Nat} {K : St → Prop} : ∀ {ls : List Nat} {ph : List (List Nat × List Nat)} {st st' : St}, xstg X G aos ktm ls ph st = some st' → K st' → stagesP P G aos ktm K ls ph st
  | [], (f, l) :: r, st, st', h, hK => by
    rw [xstg] at h
    split at h
    · rename_i X0 h0
      split at h
      · rename_i X1 h1
        split at h
        · rename_i ha
          cases h
          exact xops_ok hX h0 (xops_ok hX h1 ⟨agreeY_ok ha, hK⟩)
        · cases h
      · cases h
    · cases h
  | c :: ls, (f, l) :: r, st, st', h, hK => by
    rw [xstg] at h
    split at h
    · rename_i X0 h0
      split at h
      · rename_i X1 h1
        split at h
        · rename_i ha
          split at h
          · rename_i d op hc
            split at h
            · rename_i Y hY
              exact xops_ok hX h0 (xops_ok hX h1 ⟨agreeY_ok ha, d, op, Y, hc, hY, xstg_ok hX h hK⟩)
            · cases h
          · cases h
        · cases h
      · cases h
    · cases h
  | [], [], st, st', h, _ => by simp [xstg] at h
  | _ :: _, [], st, st', h, _ => by simp [xstg] at h
theorem xdA_ok (hX : XOk P G X) {ops : List AO} {k s : Nat} {ktm kt : List Nat} {st st' : St} (h : xdA X G ops k s ktm kt st = some st') {Q : AE → St → Prop} (hQ : Q .normal st') : awp P G (.dregA ops k s ktm kt) Q st := by
  unfold xdA at h
  split at h
  · rename_i d ty sz z p x n e1 e2
    split at h
    · rename_i st1 h1
      split at h
      · rename_i stn stn1 h2 h3
        split at h
        · rename_i ha
          split at h
          · rename_i stS hS
            split at h
            · rename_i stn2 h4
              split at h
              · rename_i hb
                cases h
                exact ⟨d, ty, sz, z, p, x, n, st1, e1, e2, h1, xops_ok hX h2 (xops_ok hX h3 ⟨agreeX_ok ha, stS, hS, xops_ok hX h4 ⟨agreeX_ok hb, hQ⟩⟩)⟩
              · cases h
            · cases h
          · cases h
        · cases h
      · cases h
    · cases h
  · cases h
end
def xlstep (X : XE) (G : Nat → Option AV) (o : Option AO) (st : St) : Option St :=
  match o with
  | some ⟨d, .callB f xs, none⟩ => xcall X false f (evs G st xs) d st
  | some ⟨d, op, none⟩ => evalOp G d op st
  | _ => none
theorem xlstep_ok {P : Program} {G : Nat → Option AV} {X : XE} (hX : XOk P G X) {o : Option AO} {st st' : St} (h : xlstep X G o st = some st') {K : St → Prop} (hK : K st') : lstepP P G o st K := by
  unfold xlstep at h
  unfold lstepP
  split at h
  · exact xcall_ok hX h hK
  · rename_i d op hn
    split
    · rename_i d' f xs e
      simp only [Option.some.injEq, AO.mk.injEq] at e
      obtain ⟨rfl, rfl, _⟩ := e
      exact (hn _ _ rfl).elim
    · rename_i d' op' _ e
      simp only [Option.some.injEq, AO.mk.injEq] at e
      obtain ⟨rfl, rfl, _⟩ := e
      exact ⟨st', h, hK⟩
    · rename_i h2
      exact (h2 _ _ rfl).elim
  · cases h
def enveq : List (Nat × AV) → List (Nat × AV) → Bool
  | [], [] => true
  | (i, a) :: l, (j, b) :: k => i == j && (aveq a b && enveq l k)
  | _, _ => false
theorem enveq_eq : ∀ {a b : List (Nat × AV)}, enveq a b = true → a = b
  | [], b, h => by cases b <;> simp [enveq] at h; rfl
  | (i, x) :: a, b, h => by
    cases b with
    | nil => simp [enveq] at h
    | cons y b =>
      obtain ⟨j, y⟩ := y
      rw [enveq, Bool.and_eq_true, Bool.and_eq_true, beq_iff_eq] at h
      rw [h.1, aveq_eq _ _ h.2.1, enveq_eq h.2.2]
def heapeq : List (Nat × Box) → List (Nat × Box) → Bool
  | [], [] => true
  | (i, a) :: l, (j, b) :: k => i == j && (boxeq a b && heapeq l k)
  | _, _ => false
theorem heapeq_eq : ∀ {a b : List (Nat × Box)}, heapeq a b = true → a = b
  | [], b, h => by cases b <;> simp [heapeq] at h; rfl
  | (i, x) :: a, b, h => by
    cases b with
    | nil => simp [heapeq] at h
    | cons y b =>
      obtain ⟨j, y⟩ := y
      rw [heapeq, Bool.and_eq_true, Bool.and_eq_true, beq_iff_eq] at h
      rw [h.1, boxeq_eq h.2.1, heapeq_eq h.2.2]
def steq (a b : St) : Bool := a.N == b.N && (enveq a.env b.env && heapeq a.heap b.heap)
theorem steq_eq {a b : St} (h : steq a b = true) : a = b := by
  unfold steq at h
  rw [Bool.and_eq_true, Bool.and_eq_true, beq_iff_eq] at h
  cases a; cases b
  rw [St.mk.injEq]
  exact ⟨h.1, enveq_eq h.2.1, heapeq_eq h.2.2⟩
def dedS : List St → List St
  | [] => []
  | s :: r => let q := dedS r; if q.any (steq s) then q else s :: q
theorem dedS_mem : ∀ {l : List St} {s : St}, s ∈ l → s ∈ dedS l
  | x :: r, s, h => by
    simp only [dedS]
    rcases List.mem_cons.1 h with rfl | h
    · split
      · rename_i ha
        obtain ⟨t, ht, he⟩ := List.any_eq_true.1 ha
        rw [steq_eq he]
        exact ht
      · exact List.mem_cons_self
    · split
      · exact dedS_mem h
      · exact List.mem_cons_of_mem _ (dedS_mem h)
def xtree (X : XE) (G : Nat → Option AV) (aos : List AO) (ktm : List Nat) : DT → St → Option (List St)
  | .fin, st => some [st]
  | .nil, _ => some []
  | .next c f l sub rest, st => match xlstep X G (aos[c]?) st with
    | some Y => match xops X G true (selC aos f) Y with
      | some X0 => match xops X G true (selC aos l) (X0.trE ktm) with
        | some X1 => if agreeY (X0.trE ktm) (X1.trE ktm) (dstsA (selC aos l)) = true then match xtree X G aos ktm sub (X0.trE ktm), xtree X G aos ktm rest st with
            | some a, some b => some (a ++ b)
            | _, _ => none
          else none
        | none => none
      | none => none
    | none => none
theorem xtree_ok {P : Program} {G : Nat → Option AV} {X : XE} (hX : XOk P G X) {aos : List AO} {ktm : List Nat} {K : St → Prop} : ∀ {t : DT} {st : St} {L : List St}, xtree X G aos ktm t st = some L → (∀ s ∈ L, K s) → treeP P G aos ktm K t st
  | .fin, st, L, h, hK => by simp only [xtree, Option.some.injEq] at h; subst h; exact hK st (by simp)
  | .nil, st, L, h, hK => trivial
  | .next c f l sub rest, st, L, h, hK => by
    simp only [xtree] at h
    split at h
    · rename_i Y hY
      split at h
      · rename_i X0 h0
        split at h
        · rename_i X1 h1
          split at h
          · rename_i ha
            split at h
            · rename_i a b ea eb
              simp only [Option.some.injEq] at h
              subst h
              exact ⟨xlstep_ok hX hY (xops_ok hX h0 (xops_ok hX h1 ⟨agreeY_ok ha, xtree_ok hX ea fun s hs => hK s (List.mem_append_left _ hs)⟩)), xtree_ok hX eb fun s hs => hK s (List.mem_append_right _ hs)⟩
            · cases h
          · cases h
        · cases h
      · cases h
    · cases h
def bindX (f : St → Option (List (AE × St))) : List (AE × St) → Option (List (AE × St))
  | [] => some []
  | (.normal, s) :: r => match f s, bindX f r with
    | some a, some b => some (a ++ b)
    | _, _ => none
  | (e, s) :: r => match bindX f r with
    | some b => some ((e, s) :: b)
    | none => none
theorem bindX_ok {f : St → Option (List (AE × St))} {Q : AE → St → Prop} : ∀ {l L : List (AE × St)}, bindX f l = some L → (∀ x ∈ L, Q x.1 x.2) → ∀ x ∈ l, match x.1 with
    | .normal => ∃ L', f x.2 = some L' ∧ ∀ y ∈ L', Q y.1 y.2
    | e => Q e x.2
  | [], L, h, hQ, x, hx => by cases hx
  | (e, s) :: r, L, h, hQ, x, hx => by
    cases e with
    | normal =>
      simp only [bindX] at h
      split at h
      · rename_i a b ea eb
        simp only [Option.some.injEq] at h
        subst h
        rcases List.mem_cons.1 hx with rfl | hx
        · exact ⟨a, ea, fun y hy => hQ y (List.mem_append_left _ hy)⟩
        · exact bindX_ok eb (fun y hy => hQ y (List.mem_append_right _ hy)) x hx
      · cases h
    | exit id =>
      simp only [bindX] at h
      split at h
      · rename_i b eb
        simp only [Option.some.injEq] at h
        subst h
        rcases List.mem_cons.1 hx with rfl | hx
        · exact hQ _ List.mem_cons_self
        · exact bindX_ok eb (fun y hy => hQ y (List.mem_cons_of_mem _ hy)) x hx
      · cases h
    | ret =>
      simp only [bindX] at h
      split at h
      · rename_i b eb
        simp only [Option.some.injEq] at h
        subst h
        rcases List.mem_cons.1 hx with rfl | hx
        · exact hQ _ List.mem_cons_self
        · exact bindX_ok eb (fun y hy => hQ y (List.mem_cons_of_mem _ hy)) x hx
      · cases h
def xloop (body : St → Option (List (AE × St))) (kt kb : List Nat) : Nat → St → Option (List (AE × St))
  | 0, _ => none
  | n + 1, st => match body st with
    | some [(.normal, st')] => xloop body kt kb n (st'.trim kt kb)
    | some L => bindX (fun st' => xloop body kt kb n (st'.trim kt kb)) L
    | none => none
def exitX (id : Nat) : AE × St → AE × St
  | (.exit j, s) => if j = id then (.normal, s) else (.exit j, s)
  | x => x
def xac (X : XE) (G : Nat → Option AV) (fuel : Nat) : AC → St → Option (List (AE × St))
  | .skip, st => some [(.normal, st)]
  | .reg ops kt, st => (xops X G false ops st).map fun st' => [(.normal, st'.trE kt)]
  | .dreg ops kt, st => (xops X G true ops st).map fun st' => [(.normal, st'.trE kt)]
  | .dregA ops k s ktm kt, st => (xdA X G ops k s ktm kt st).map fun st' => [(.normal, st')]
  | .dregC ops ls _ _ ph ktm kt, st => (xstg X G ops ktm ls ph st).map fun st' => [(.normal, st'.trE kt)]
  | .dregT ops _ _ _ f0 tr ktm kt, st => match xops X G true (selC ops f0) st with
    | some X0 => (xtree X G ops ktm tr (X0.trE ktm)).map fun L => (dedS (L.map fun s => s.trE kt)).map fun s => (.normal, s)
    | none => none
  | .seq a b, st => match xac X G fuel a st with
    | some [(.normal, st')] => xac X G fuel b st'
    | some L => bindX (xac X G fuel b) L
    | none => none
  | .cond c a b, st => match st.ev G c with
    | .bool true => xac X G fuel a st
    | .bool false => xac X G fuel b st
    | _ => none
  | .block id a, st => (xac X G fuel a st).map fun L => L.map (exitX id)
  | .loop kt kb a, st => xloop (xac X G fuel a) kt kb fuel (st.trim kt kb)
  | .exit id, st => some [(.exit id, st)]
  | .ret, st => some [(.ret, st)]
section
variable {P : Program} {G : Nat → Option AV} {X : XE}
theorem xac_ok (hX : XOk P G X) {fuel : Nat} : ∀ {ac : AC} {st : St} {L : List (AE × St)}, xac X G fuel ac st = some L → ∀ {Q : AE → St → Prop}, (∀ x ∈ L, Q x.1 x.2) → awp P G ac Q st := by
  intro ac
  induction ac with
  | skip => intro st L h Q hQ; simp only [xac, Option.some.injEq] at h; subst h; exact hQ _ List.mem_cons_self
  | reg ops kt =>
    intro st L h Q hQ
    simp only [xac, Option.map_eq_some_iff] at h
    obtain ⟨st1, h1, rfl⟩ := h
    exact xops_ok hX h1 (hQ _ List.mem_cons_self)
  | dreg ops kt =>
    intro st L h Q hQ
    simp only [xac, Option.map_eq_some_iff] at h
    obtain ⟨st1, h1, rfl⟩ := h
    exact xops_ok hX h1 (hQ _ List.mem_cons_self)
  | dregA ops k s ktm kt =>
    intro st L h Q hQ
    simp only [xac, Option.map_eq_some_iff] at h
    obtain ⟨st1, h1, rfl⟩ := h
    exact xdA_ok hX h1 (hQ _ List.mem_cons_self)
  | dregC ops ls sa sb ph ktm kt =>
    intro st L h Q hQ
    simp only [xac, Option.map_eq_some_iff] at h
    obtain ⟨st1, h1, rfl⟩ := h
    exact xstg_ok hX (K := fun X => Q .normal (X.trE kt)) h1 (hQ _ List.mem_cons_self)
  | dregT ops ls en fb f0 tr ktm kt =>
    intro st L h Q hQ
    simp only [xac] at h
    split at h
    · rename_i X0 h0
      simp only [Option.map_eq_some_iff] at h
      obtain ⟨L1, h1, rfl⟩ := h
      refine xops_ok hX h0 (xtree_ok hX (K := fun X => Q .normal (X.trE kt)) h1 fun s hs => ?_)
      exact hQ (.normal, s.trE kt) (List.mem_map.2 ⟨s.trE kt, dedS_mem (List.mem_map.2 ⟨s, hs, rfl⟩), rfl⟩)
    · cases h
  | seq a b iha ihb =>
    intro st L h Q hQ
    have key : ∀ La, xac X G fuel a st = some La → bindX (xac X G fuel b) La = some L → awp P G (.seq a b) Q st := fun La ea eb => by
      refine iha ea fun x hx => ?_
      have h1 := bindX_ok eb hQ x hx
      obtain ⟨e, s⟩ := x
      cases e with
      | normal => obtain ⟨L', h2, h3⟩ := h1; exact ihb h2 h3
      | exit id => exact h1
      | ret => exact h1
    simp only [xac] at h
    split at h
    · rename_i st1 h1
      refine key _ h1 ?_
      simp only [bindX, h, List.append_nil]
    · rename_i La _ h1
      exact key _ h1 h
    · cases h
  | cond c a b iha ihb =>
    intro st L h Q hQ
    simp only [xac] at h
    simp only [awp]
    split at h
    · rename_i hb
      rw [hb]
      exact ⟨fun _ => iha h hQ, fun e => by cases e⟩
    · rename_i hb
      rw [hb]
      exact ⟨fun e => (by cases e), fun _ => ihb h hQ⟩
    · cases h
  | block id a iha =>
    intro st L h Q hQ
    simp only [xac, Option.map_eq_some_iff] at h
    obtain ⟨L1, h1, rfl⟩ := h
    refine iha h1 fun x hx => ?_
    have h2 := hQ _ (List.mem_map.2 ⟨x, hx, rfl⟩)
    obtain ⟨e, s⟩ := x
    cases e with
    | normal => exact h2
    | ret => exact h2
    | exit j =>
      simp only [exitX] at h2
      simp only
      split
      · rename_i e; rw [if_pos e] at h2; exact h2
      · rename_i e; rw [if_neg e] at h2; exact h2
  | loop kt kb a iha =>
    intro st L h Q hQ
    simp only [xac] at h
    refine ⟨fun n s => ∃ L, xloop (xac X G fuel a) kt kb n s = some L ∧ ∀ x ∈ L, Q x.1 x.2, fuel, ⟨_, Weak.refl _, L, h, hQ⟩, fun n s hs => ?_⟩
    obtain ⟨L, hs, hQ⟩ := hs
    cases n with
    | zero => simp [xloop] at hs
    | succ n =>
      have key : ∀ La, xac X G fuel a s = some La → bindX (fun st' => xloop (xac X G fuel a) kt kb n (st'.trim kt kb)) La = some L → awp P G a (fun e st' => match e with | .normal => ∃ m, m < n + 1 ∧ ∃ st0, Weak (st'.trim kt kb) st0 ∧ ∃ L, xloop (xac X G fuel a) kt kb m st0 = some L ∧ ∀ x ∈ L, Q x.1 x.2 | e => Q e st') s := fun La ea eb => by
        refine iha ea fun x hx => ?_
        have h1 := bindX_ok eb hQ x hx
        obtain ⟨e, s1⟩ := x
        cases e with
        | normal => obtain ⟨L', h2, h3⟩ := h1; exact ⟨n, Nat.lt_succ_self n, _, Weak.refl _, L', h2, h3⟩
        | exit id => exact h1
        | ret => exact h1
      simp only [xloop] at hs
      split at hs
      · rename_i s1 h1
        refine key _ h1 ?_
        simp only [bindX, hs, List.append_nil]
      · rename_i La _ h1
        exact key _ h1 hs
      · cases hs
  | exit id => intro st L h Q hQ; simp only [xac, Option.some.injEq] at h; subst h; exact hQ _ List.mem_cons_self
  | ret => intro st L h Q hQ; simp only [xac, Option.some.injEq] at h; subst h; exact hQ _ List.mem_cons_self
end
/-- A function's code, how it is to be called (0: its arguments are lent), and the names that its own new things may have. -/
structure XF where
  A : AFun
  mode : Nat
  fr : List Nat
abbrev XTab := List (Nat × XF)
def tabX : XTab → Nat → Option XF
  | [], _ => none
  | (g, x) :: r, f => if g = f then some x else tabX r f
def XTabOk (P : Program) : XTab → Prop
  | [] => True
  | (g, x) :: r => (bodyB P g = true ∧ ∃ fn, P.funcs[g]? = some fn ∧ chkF P fn x.A = true) ∧ XTabOk P r
theorem tabX_ok {P : Program} : ∀ {T : XTab} {f : Nat} {x : XF}, XTabOk P T → tabX T f = some x → bodyB P f = true ∧ ∃ fn, P.funcs[f]? = some fn ∧ chkF P fn x.A = true
  | [], _, _, _, h => by cases h
  | (g, y) :: r, f, x, hT, h => by
    rw [tabX] at h
    split at h
    · rename_i e
      cases h
      exact e ▸ hT.1
    · exact tabX_ok hT.2 h
def finP (A : AFun) (st : St) : Option AV := match resVs st A.res with
  | some vs => view st.heap (one vs)
  | none => none
/-- All ways out come to the same. -/
def sameP (A : AFun) (r : AV) : List (AE × St) → Bool
  | [] => true
  | (.exit _, _) :: _ => false
  | (_, st) :: l => (match finP A st with | some v => aveq v r | none => false) && sameP A r l
def runP (X : XE) (G : Nat → Option AV) (fuel : Nat) (A : AFun) (args : List AV) : Option AV :=
  if args.length = A.k then match xac X G fuel A.body ⟨A.N, argEnv 0 args, []⟩ with
    | some ((e, st) :: l) => match finP A st with
      | some r => if sameP A r ((e, st) :: l) = true then some r else none
      | none => none
    | _ => none
  else none
theorem sameP_ok {A : AFun} {r : AV} : ∀ {l : List (AE × St)}, sameP A r l = true → ∀ x ∈ l, (∀ id, x.1 ≠ .exit id) ∧ finP A x.2 = some r
  | (e, st) :: l, h, x, hx => by
    have : (match finP A st with | some v => aveq v r | none => false) = true ∧ sameP A r l = true ∧ ∀ id, e ≠ .exit id := by
      cases e with
      | exit id => simp [sameP] at h
      | normal => rw [sameP, Bool.and_eq_true] at h; exact ⟨h.1, h.2, fun _ e => (by cases e)⟩; intro _ e; cases e
      | ret => rw [sameP, Bool.and_eq_true] at h; exact ⟨h.1, h.2, fun _ e => (by cases e)⟩; intro _ e; cases e
    obtain ⟨h1, h2, h3⟩ := this
    rcases List.mem_cons.1 hx with rfl | hx
    · refine ⟨h3, ?_⟩
      split at h1
      · rename_i v hv
        rw [hv, aveq_eq _ _ h1]
      · cases h1
    · exact sameP_ok h2 x hx
def finH (A : AFun) (H : List (Nat × Box)) (st : St) : Option (AV × List (Nat × Box)) := match resVs st A.res with
  | some vs => some (one vs, pickH st.heap (reachX st.heap 10000 (H.map (·.1) ++ namesA (one vs)) []))
  | none => none
def sameH (A : AFun) (H : List (Nat × Box)) (r : AV) (H' : List (Nat × Box)) : List (AE × St) → Bool
  | [] => true
  | (.exit _, _) :: _ => false
  | (_, st) :: l => (match finH A H st with | some v => aveq v.1 r && heapeq v.2 H' | none => false) && sameH A H r H' l
theorem sameH_ok {A : AFun} {H H' : List (Nat × Box)} {r : AV} : ∀ {l : List (AE × St)}, sameH A H r H' l = true → ∀ x ∈ l, (∀ id, x.1 ≠ .exit id) ∧ finH A H x.2 = some (r, H')
  | (e, st) :: l, h, x, hx => by
    have : (match finH A H st with | some v => aveq v.1 r && heapeq v.2 H' | none => false) = true ∧ sameH A H r H' l = true ∧ ∀ id, e ≠ .exit id := by
      cases e with
      | exit id => simp [sameH] at h
      | normal => rw [sameH, Bool.and_eq_true] at h; exact ⟨h.1, h.2, fun _ e => (by cases e)⟩; intro _ e; cases e
      | ret => rw [sameH, Bool.and_eq_true] at h; exact ⟨h.1, h.2, fun _ e => (by cases e)⟩; intro _ e; cases e
    obtain ⟨h1, h2, h3⟩ := this
    rcases List.mem_cons.1 hx with rfl | hx
    · refine ⟨h3, ?_⟩
      split at h1
      · rename_i v hv
        rw [Bool.and_eq_true] at h1
        rw [hv, ← aveq_eq _ _ h1.1, ← heapeq_eq h1.2]
      · cases h1
    · exact sameH_ok h2 x hx
def runHX (X : XE) (G : Nat → Option AV) (fuel : Nat) (A : AFun) (args : List AV) (H : List (Nat × Box)) : Option (AV × List (Nat × Box)) :=
  if args.length = A.k ∧ highB A.N H = true then match xac X G fuel A.body ⟨A.N, argEnv 0 args, H⟩ with
    | some ((e, st) :: l) => match finH A H st with
      | some r => if sameH A H r.1 r.2 ((e, st) :: l) = true then some r else none
      | none => none
    | _ => none
  else none
section
variable {P : Program} {G : Nat → Option AV} {X : XE}
theorem runP_ok (hX : XOk P G X) {fuel : Nat} {A : AFun} {f : Nat} {fn : Func} {args : List AV} {r : AV} (hf : P.funcs[f]? = some fn) (hc : chkF P fn A = true) (h : runP X G fuel A args = some r) : PureC P G f args r := by
  unfold runP at h
  split at h
  · rename_i hk
    have fin : ∀ st, finP A st = some r → Hands A r st := fun st hst => by
      unfold finP at hst
      split at hst
      · rename_i vs hv
        exact ⟨vs, r, hv, hst, .refl _⟩
      · cases hst
    split at h
    · rename_i e st l h1
      split at h
      · rename_i v hv
        split at h
        · rename_i hs
          cases h
          refine PureC.of_runs hf hc hk (xac_ok hX h1 fun x hx => ?_)
          obtain ⟨h2, h3⟩ := sameP_ok hs x hx
          obtain ⟨e, s⟩ := x
          cases e with
          | normal => exact fin _ h3
          | exit id => exact (h2 id rfl).elim
          | ret => exact fin _ h3
        · cases h
      · cases h
    · cases h
  · cases h
theorem runHX_ok (hX : XOk P G X) {fuel : Nat} {A : AFun} {f : Nat} {fn : Func} {args : List AV} {H H' : List (Nat × Box)} {r : AV} (hf : P.funcs[f]? = some fn) (hc : chkF P fn A = true) (h : runHX X G fuel A args H = some (r, H')) : HeapC P G f args H r H' := by
  unfold runHX at h
  split at h
  · rename_i hk
    have fin : ∀ st, finH A H st = some (r, H') → HandsH A r H' st := fun st hst => by
      unfold finH at hst
      split at hst
      · rename_i vs hv
        simp only [Option.some.injEq, Prod.mk.injEq] at hst
        obtain ⟨rfl, rfl⟩ := hst
        exact ⟨st, vs, Weak.refl _, hv, .refl _, fun i b hb => pickH_get hb⟩
      · cases hst
    split at h
    · rename_i e st l h1
      split at h
      · rename_i v hv
        split at h
        · rename_i hs
          cases h
          refine HeapC.of_runs hf hc hk.1 hk.2 (xac_ok hX h1 fun x hx => ?_)
          obtain ⟨h2, h3⟩ := sameH_ok hs x hx
          obtain ⟨e, s⟩ := x
          cases e with
          | normal => exact fin _ h3
          | exit id => exact (h2 id rfl).elim
          | ret => exact fin _ h3
        · cases h
      · cases h
    · cases h
  · cases h
end
/-- The table, run to a depth. 'pc0': what is known of functions that have no code in it. -/
def xrun (T : XTab) (G : Nat → Option AV) (pc0 : Nat → List AV → Option AV) (fuel : Nat) : Nat → Nat → XE
  | 0, _ => ⟨fun _ _ => none, fun _ _ _ => none, fun _ => 0, fun _ => false, []⟩
  | n + 1, g => ⟨fun f args => match tabX T f with
      | some x => runP (xrun T G pc0 fuel n f) G fuel x.A args
      | none => pc0 f args,
    fun f args H => match tabX T f with
      | some x => runHX (xrun T G pc0 fuel n f) G fuel x.A args H
      | none => none,
    fun f => match tabX T f with | some x => x.mode | none => 0,
    fun f => match tabX T f with | some _ => true | none => false,
    match tabX T g with | some x => x.fr | none => []⟩
theorem xrun_ok {P : Program} {G : Nat → Option AV} {T : XTab} {pc0 : Nat → List AV → Option AV} (hT : XTabOk P T) (h0 : ∀ f args r, pc0 f args = some r → PureC P G f args r) (fuel : Nat) : ∀ n g, XOk P G (xrun T G pc0 fuel n g)
  | 0, _ => ⟨fun _ _ _ h => (by cases h), fun _ _ _ _ _ h => (by cases h), fun _ h => (by cases h)⟩
  | n + 1, g => by
    refine ⟨fun f args r h => ?_, fun f args H r H' h => ?_, fun f h => ?_⟩
    · simp only [xrun] at h
      split at h
      · rename_i x hx
        obtain ⟨_, fn, h1, h2⟩ := tabX_ok hT hx
        exact runP_ok (xrun_ok hT h0 fuel n f) h1 h2 h
      · exact h0 f args r h
    · simp only [xrun] at h
      split at h
      · rename_i x hx
        obtain ⟨_, fn, h1, h2⟩ := tabX_ok hT hx
        exact runHX_ok (xrun_ok hT h0 fuel n f) h1 h2 h
      · cases h
    · simp only [xrun] at h
      split at h
      · rename_i x hx
        exact (tabX_ok hT hx).1
      · cases h
/-- A call of known values, by the kernel's reckoning. -/
theorem xrun_pure {P : Program} {G : Nat → Option AV} {T : XTab} {pc0 : Nat → List AV → Option AV} (hT : XTabOk P T) (h0 : ∀ f args r, pc0 f args = some r → PureC P G f args r) (fuel n : Nat) {f : Nat} {args : List AV} {r : AV} (h : (xrun T G pc0 fuel n 0).pc f args = some r) : PureC P G f args r := (xrun_ok hT h0 fuel n 0).pc f args r h
end Go.Proofs.YtgdlgdchdohdoaaGreatDoor.Ab
