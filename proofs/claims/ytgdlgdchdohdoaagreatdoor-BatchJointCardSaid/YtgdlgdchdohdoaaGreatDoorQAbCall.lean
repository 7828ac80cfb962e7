/-
  The contract of a function that leaves all memory as it was, and what a call of it does to a state. No claim is proved here.
-/
import Derived.Test.YtgdlgdchdohdoaaGreatDoorQAbRel2
namespace Go.Proofs.YtgdlgdchdohdoaaGreatDoor.Ab
open Go Go.RowKit
def ArgsR (w : World) (F : Nat → Prop) (args : List AV) (vs : Array Value) : Prop :=
  vs.size = args.length ∧ ∀ (j : Nat) c u, args[j]? = some c → vs[j]? = some u → Rd w F noNames c u
/-- Called with such values, in whatever world, the function hands back such a value; what was there is as it was. -/
def PureC (P : Program) (G : Nat → Option AV) (f : Nat) (args : List AV) (r : AV) : Prop :=
  ∀ (w : World) (F : Nat → Prop) (vs : Array Value), Good w F G → ArgsR w F args vs →
    Calls P f vs w fun e w' => ∃ v F', e = .returned v ∧ (∀ b, F b → F' b) ∧ (∀ b, F' b → F b ∨ w.heap.size ≤ b) ∧ (∀ b, F' b → b < w'.heap.size) ∧ Rd w' F' noNames r v ∧ Below w.heap.size w w'
/-- The same, where what comes back lies in new memory alone. -/
def PureN (P : Program) (G : Nat → Option AV) (f : Nat) (args : List AV) (r : AV) : Prop :=
  ∀ (w : World) (F : Nat → Prop) (vs : Array Value), Good w F G → ArgsR w F args vs →
    Calls P f vs w fun e w' => ∃ v F', e = .returned v ∧ (∀ b, F' b → w.heap.size ≤ b) ∧ (∀ b, F' b → b < w'.heap.size) ∧ Rd w' F' noNames r v ∧ Below w.heap.size w w'
/-- What is said of a value may be said more weakly. -/
inductive Fit : AV → AV → Prop where
  | refl (c : AV) : Fit c c
  | nil (sz : Nat) : Fit .nils (.seq sz [])
  | top (c : AV) : Fit c .top
  | agg (cs ds : List AV) (hl : cs.length = ds.length) (h : ∀ (j : Nat) c d, cs[j]? = some c → ds[j]? = some d → Fit c d) : Fit (.agg cs) (.agg ds)
def FitL : List AV → List AV → Prop
  | [], [] => True
  | a :: as, b :: bs => Fit a b ∧ FitL as bs
  | _, _ => False
theorem FitL.refl (l : List AV) : FitL l l := by
  induction l with
  | nil => trivial
  | cons a l ih => exact ⟨.refl a, ih⟩
theorem FitL.at_ {l l' : List AV} (h : FitL l l') : l.length = l'.length ∧ ∀ (j : Nat) c d, l[j]? = some c → l'[j]? = some d → Fit c d := by
  induction l generalizing l' with
  | nil => cases l' with
    | nil => simp
    | cons b l' => cases h
  | cons a l ih =>
    cases l' with
    | nil => cases h
    | cons b l' =>
      obtain ⟨h1, h2⟩ := ih h.2
      refine ⟨by simp [h1], fun j c d hc hd => ?_⟩
      cases j with
      | zero => simp at hc hd; subst hc; subst hd; exact h.1
      | succ j => simp at hc hd; exact h2 j c d hc hd
section
variable {P : Program} {G : Nat → Option AV} {C : Ctx} {nm : Names} {F : Nat → Prop} {st : St} {a : Act} {w : World}
theorem Rd.fit {c d : AV} (hf : Fit c d) : ∀ {v : Value}, Rd w F nm c v → Rd w F nm d v := by
  induction hf with
  | refl c => exact fun h => h
  | nil sz => intro v h; cases h; exact .seq0 _ _ _ _
  | top c => intro v _; exact .top _ _
  | agg cs ds hl h ih =>
    intro v hv
    cases hv with
    | agg _ _ us hl' h' =>
      refine .agg _ _ _ (by rw [← hl, hl']) fun j d u hd hu => ?_
      have hj : j < cs.length := by rw [hl]; exact (List.getElem?_eq_some_iff.1 hd).1
      exact ih j cs[j] d (List.getElem?_eq_getElem hj) hd (h' j _ u (List.getElem?_eq_getElem hj) hu)
theorem Rd.flat {w' : World} {F' : Nat → Prop} {nm' : Names} {c : AV} {v : Value} (h : Rd w F nm c v) (hf : Ab.flat c = true) : Rd w' F' nm' c v := by
  induction h with
  | top nm v => exact .top _ _
  | undef nm => exact .undef _
  | bool nm b => exact .bool _ _
  | int nm k n => exact .int _ _ _
  | str nm s => exact .str _ _
  | agg nm cs us hl h ih =>
    have go : ∀ (cs : List AV), Ab.flat.go cs = true → ∀ (j : Nat) c, cs[j]? = some c → Ab.flat c = true := by
      intro cs
      induction cs with
      | nil => intro _ j c hc; simp at hc
      | cons x xs ihx =>
        intro hx j c hc
        simp only [Ab.flat.go, Bool.and_eq_true] at hx
        cases j with
        | zero => simp at hc; subst hc; exact hx.1
        | succ j => simp at hc; exact ihx hx.2 j c hc
    exact .agg _ _ _ hl fun j c u hc hu => ih j c u hc hu (go cs hf j c hc)
  | tup nm cs us hl h ih =>
    have go : ∀ (cs : List AV), Ab.flat.go cs = true → ∀ (j : Nat) c, cs[j]? = some c → Ab.flat c = true := by
      intro cs
      induction cs with
      | nil => intro _ j c hc; simp at hc
      | cons x xs ihx =>
        intro hx j c hc
        simp only [Ab.flat.go, Bool.and_eq_true] at hx
        cases j with
        | zero => simp at hc; subst hc; exact hx.1
        | succ j => simp at hc; exact ihx hx.2 j c hc
    exact .tup _ _ _ hl fun j c u hc hu => ih j c u hc hu (go cs hf j c hc)
  | nils nm => exact .nils _
  | nilp nm => exact .nilp _
  | nilfn nm => exact .nilfn _
  | nili nm => exact .nili _
  | iface nm t c u h ih => exact .iface _ _ _ _ (ih hf)
  | nilm nm => exact .nilm _
  | rawp nm b o => exact .rawp _ _ _
  | _ => simp [Ab.flat] at hf
/-- A value handed over: without its place. -/
theorem Rd.view {F' : Nat → Prop} (hbox : ∀ i b, hget st.heap i = some b → BoxR w F nm i b) (hF : ∀ b, F b → F' b) {c : AV} {v : Value} (h : Rd w F nm c v) :
    ∀ {c' : AV}, Ab.view st.heap c = some c' → (∀ i, i ∈ rowsOf c → ∀ m, nm i = some m → F' m.g) → Rd w F' noNames c' v := by
  have go : ∀ (cs : List AV) (us : List Value), (∀ (j : Nat) c u, cs[j]? = some c → us[j]? = some u → ∀ {c' : AV}, Ab.view st.heap c = some c' → (∀ i, i ∈ rowsOf c → ∀ m, nm i = some m → F' m.g) → Rd w F' noNames c' u) →
      ∀ cs', Ab.view.go st.heap cs = some cs' → (∀ i, i ∈ rowsOf.go cs → ∀ m, nm i = some m → F' m.g) → cs.length = cs'.length ∧ ∀ (j : Nat) c' u, cs'[j]? = some c' → us[j]? = some u → Rd w F' noNames c' u := by
    intro cs
    induction cs with
    | nil => intro us _ cs' h _; simp only [Ab.view.go, Option.some.injEq] at h; subst h; simp
    | cons x xs ih =>
      intro us hx cs' h hr
      simp only [Ab.view.go] at h
      split at h
      · rename_i y ys hy hys
        simp only [Option.some.injEq] at h
        subst h
        simp only [rowsOf.go, List.mem_append] at hr
        cases us with
        | nil =>
          obtain ⟨h1, _⟩ := ih [] (by simp) ys hys (fun i hi => hr i (.inr hi))
          exact ⟨by simp [h1], by simp⟩
        | cons u us =>
          obtain ⟨h1, h2⟩ := ih us (fun j c u hc hu => hx (j + 1) c u (by simpa using hc) (by simpa using hu)) ys hys (fun i hi => hr i (.inr hi))
          refine ⟨by simp [h1], fun j c' u' hc hu => ?_⟩
          cases j with
          | zero =>
            simp at hc hu
            subst hc; subst hu
            exact hx 0 x u (by simp) (by simp) hy (fun i hi => hr i (.inl hi))
          | succ j => simp at hc hu; exact h2 j c' u' hc hu
      · cases h
  induction h with
  | top nm v => intro c' h _; simp only [Ab.view, Option.some.injEq] at h; subst h; exact .top _ _
  | undef nm => intro c' h _; simp [Ab.view] at h
  | bool nm b => intro c' h _; simp only [Ab.view, Option.some.injEq] at h; subst h; exact .bool _ _
  | int nm k n => intro c' h _; simp only [Ab.view, Option.some.injEq] at h; subst h; exact .int _ _ _
  | str nm s => intro c' h _; simp only [Ab.view, Option.some.injEq] at h; subst h; exact .str _ _
  | agg nm cs us hl h ih =>
    intro c' hv hr
    simp only [Ab.view, Option.map_eq_some_iff] at hv
    obtain ⟨cs', hcs, rfl⟩ := hv
    obtain ⟨h1, h2⟩ := go cs us (fun j c u hc hu c' hv hr' => ih j c u hc hu hbox go hv hr') cs' hcs hr
    exact .agg _ _ _ (by rw [← h1, hl]) h2
  | tup nm cs us hl h ih =>
    intro c' hv hr
    simp only [Ab.view, Option.map_eq_some_iff] at hv
    obtain ⟨cs', hcs, rfl⟩ := hv
    obtain ⟨h1, h2⟩ := go cs us (fun j c u hc hu c' hv hr' => ih j c u hc hu hbox go hv hr') cs' hcs hr
    exact .tup _ _ _ (by rw [← h1, hl]) h2
  | seq0 nm sz a cap => intro c' h _; simp only [Ab.view, Option.some.injEq] at h; subst h; exact .seq0 _ _ _ _
  | full nm sz es g o u h0 hFg hm hs hw' h1 h ih =>
    intro c' hv _
    simp only [Ab.view, Option.some.injEq] at hv
    subst hv
    exact .full _ _ _ _ _ u h0 (hF _ hFg) hm hs hw' h1 fun k e j c he hc => (h k e j c he hc).mono (fun _ _ => rfl) hF
  | seq nm sz es g o cap u h0 hFg hc hm hs hw' h1 h ih =>
    intro c' hv _
    simp only [Ab.view, Option.some.injEq] at hv
    subst hv
    exact .seq _ _ _ _ _ _ u h0 (hF _ hFg) hc hm hs hw' h1 fun k e j c he hc => (h k e j c he hc).mono (fun _ _ => rfl) hF
  | nils nm => intro c' h _; simp only [Ab.view, Option.some.injEq] at h; subst h; exact .nils _
  | arr nm j k n m hi hk hp =>
    intro c' hv hr
    simp only [Ab.view] at hv
    split at hv
    · rename_i b hb
      split at hv
      · rename_i hrow
        simp only [Option.some.injEq] at hv
        subst hv
        by_cases h0 : 0 < n
        · rcases hbox j b hb with ⟨hn, _⟩ | ⟨m', hm', hl⟩
          · rw [hi] at hn; cases hn
          · rw [hi] at hm'; cases hm'
            exact (hl.c hrow.2.1).seq hrow.1 hF (hr j (by simp [rowsOf]) m hi) hrow.2.2 h0 noNames
        · obtain rfl : n = 0 := by omega
          simp only [List.take_zero]
          exact .seq0 _ _ _ _
      · cases hv
    · cases hv
  | arrE nm j k a cap hk =>
    intro c' hv hr
    simp only [Ab.view] at hv
    split at hv
    · split at hv
      · simp only [Option.some.injEq] at hv
        subst hv
        simp only [List.take_zero]
        exact .seq0 _ _ _ _
      · cases hv
    · cases hv
  | arrN nm j =>
    intro c' hv hr
    simp only [Ab.view] at hv
    split at hv
    · split at hv
      · simp only [Option.some.injEq] at hv
        subst hv
        simp only [List.take_zero]
        exact .seq0 _ _ _ _
      · cases hv
    · cases hv
  | ref nm j k off m hi => intro c' h _; simp [Ab.view] at h
  | eptr nm e off g o u hFg hw' h1 h ih =>
    intro c' hv _
    simp only [Ab.view, Option.some.injEq] at hv
    subst hv
    exact .eptr _ _ _ _ _ u (hF _ hFg) hw' h1 fun j c hc => (h j c hc).mono (fun _ _ => rfl) hF
  | nilp nm => intro c' h _; simp only [Ab.view, Option.some.injEq] at h; subst h; exact .nilp _
  | fn nm f cs us hl h ih =>
    intro c' hv hr
    simp only [Ab.view, Option.map_eq_some_iff] at hv
    obtain ⟨cs', hcs, rfl⟩ := hv
    obtain ⟨h1, h2⟩ := go cs us (fun j c u hc hu c' hv hr' => ih j c u hc hu hbox go hv hr') cs' hcs hr
    exact .fn _ _ _ _ (by rw [← h1, hl]) h2
  | nilfn nm => intro c' h _; simp only [Ab.view, Option.some.injEq] at h; subst h; exact .nilfn _
  | nili nm => intro c' h _; simp only [Ab.view, Option.some.injEq] at h; subst h; exact .nili _
  | nilm nm => intro c' h _; simp only [Ab.view, Option.some.injEq] at h; subst h; exact .nilm _
  | rawp nm b o => intro c' h _; simp only [Ab.view, Option.some.injEq] at h; subst h; exact .rawp _ _ _
  | mapc nm es g ents clock hFg hh hl ht hk hv ihk ihv => intro c' h _; simp only [Ab.view, Option.some.injEq] at h; subst h; exact .mapc _ _ _ ents clock (hF _ hFg) hh hl ht (fun j e k v h1 h2 => (hk j e k v h1 h2).mono (fun _ _ => rfl) hF) (fun j e k v h1 h2 => (hv j e k v h1 h2).mono (fun _ _ => rfl) hF)
  | mapv nm i m hi => intro c' h _; simp [Ab.view] at h
  | iface nm t c u h ih =>
    intro c' hv hr
    simp only [Ab.view, Option.map_eq_some_iff] at hv
    obtain ⟨x, hx, rfl⟩ := hv
    exact .iface _ _ _ _ (ih hbox go hx hr)
end
end Go.Proofs.YtgdlgdchdohdoaaGreatDoor.Ab
