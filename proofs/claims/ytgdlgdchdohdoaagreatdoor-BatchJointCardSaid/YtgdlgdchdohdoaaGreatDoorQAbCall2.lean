/-
  What a call of a function with a contract does to a state. No claim is proved here.
-/
import Derived.Test.YtgdlgdchdohdoaaGreatDoorQAbView
namespace Go.Proofs.YtgdlgdchdohdoaaGreatDoor.Ab
open Go Go.RowKit
section
variable {P : Program} {G : Nat → Option AV} {C : Ctx} {nm : Names} {F : Nat → Prop} {st : St} {a : Act} {w : World}
theorem view_rows {H : List (Nat × Box)} {c : AV} : ∀ {c' : AV}, view H c = some c' → ∀ i, i ∈ rowsOf c → ∃ b, hget H i = some b ∧ b.row = true := by
  suffices h : ∀ (n : Nat) (c : AV), SizeOf.sizeOf c < n → ∀ {c' : AV}, view H c = some c' → ∀ i, i ∈ rowsOf c → ∃ b, hget H i = some b ∧ b.row = true from fun {_} hv => h (SizeOf.sizeOf c + 1) c (by omega) hv
  intro n
  induction n with
  | zero => intro c h; omega
  | succ n ih =>
    have go : ∀ (cs : List AV), SizeOf.sizeOf cs < n + 1 → ∀ cs', view.go H cs = some cs' → ∀ i, i ∈ rowsOf.go cs → ∃ b, hget H i = some b ∧ b.row = true := by
      intro cs
      induction cs with
      | nil => intro _ _ _ i hi; simp [rowsOf.go] at hi
      | cons x xs ihx =>
        intro hs cs' h i hi
        simp only [view.go] at h
        split at h
        · rename_i y ys hy hys
          simp only [rowsOf.go, List.mem_append] at hi
          simp at hs
          rcases hi with hi | hi
          · exact ih x (by omega) hy i hi
          · exact ihx (by omega) ys hys i hi
        · cases h
    intro c hs c' h i hi
    cases c <;> simp only [view, rowsOf, Option.map_eq_some_iff, List.mem_singleton, List.not_mem_nil] at h hi
    case agg cs => obtain ⟨cs', h, _⟩ := h; exact go cs (by simp at hs; omega) cs' h i hi
    case tup cs => obtain ⟨cs', h, _⟩ := h; exact go cs (by simp at hs; omega) cs' h i hi
    case fn f cs => obtain ⟨cs', h, _⟩ := h; exact go cs (by simp at hs; omega) cs' h i hi
    case iface t v => obtain ⟨x, h, _⟩ := h; exact ih v (by simp at hs; omega) h i hi
    case arr j k n =>
      subst hi
      split at h
      · rename_i b hb
        split at h
        · rename_i hrow; exact ⟨b, hb, hrow.1⟩
        · cases h
      · cases h
theorem viewAll_rows {H : List (Nat × Box)} {cs cs' : List AV} (h : viewAll H cs = some cs') : ∀ i, i ∈ rowsAll cs → ∃ b, hget H i = some b ∧ b.row = true := by
  induction cs generalizing cs' with
  | nil => intro i hi; simp [rowsAll] at hi
  | cons x xs ih =>
    intro i hi
    simp only [viewAll] at h
    split at h
    · rename_i y ys hy hys
      simp only [rowsAll, List.mem_append] at hi
      rcases hi with hi | hi
      · exact view_rows hy i hi
      · exact ih hys i hi
    · cases h
theorem viewAll_rd {F' : Nat → Prop} (hbox : ∀ i b, hget st.heap i = some b → BoxR w F nm i b) (hF : ∀ b, F b → F' b) {cs cs' : List AV} (h : viewAll st.heap cs = some cs')
    (hr : ∀ i, i ∈ rowsAll cs → ∀ m, nm i = some m → F' m.g) {us : List Value} (hu : cs.length = us.length) (hrd : ∀ (j : Nat) c u, cs[j]? = some c → us[j]? = some u → Rd w F nm c u) :
    cs'.length = us.length ∧ ∀ (j : Nat) c u, cs'[j]? = some c → us[j]? = some u → Rd w F' noNames c u := by
  induction cs generalizing cs' us with
  | nil => simp only [viewAll, Option.some.injEq] at h; subst h; exact ⟨hu, by simp⟩
  | cons x xs ih =>
    simp only [viewAll] at h
    split at h
    · rename_i y ys hy hys
      simp only [Option.some.injEq] at h
      subst h
      simp only [rowsAll, List.mem_append] at hr
      cases us with
      | nil => simp at hu
      | cons u us =>
        obtain ⟨h1, h2⟩ := ih hys (fun i hi => hr i (.inr hi)) (us := us) (by simpa using hu) (fun j c u hc hu => hrd (j + 1) c u (by simpa using hc) (by simpa using hu))
        refine ⟨by simp [h1], fun j c' u' hc hu' => ?_⟩
        cases j with
        | zero =>
          simp at hc hu'
          subst hc; subst hu'
          exact (hrd 0 x u (by simp) (by simp)).view hbox hF hy (fun i hi => hr i (.inl hi))
        | succ j => simp at hc hu'; exact h2 j c' u' hc hu'
    · cases h
/-- Rows that are written no more. -/
theorem RelX.thaws : ∀ (rows : List Nat) {st : St} {F : Nat → Prop}, RelX G C nm F st a w → (∀ i, i ∈ rows → ∀ b, hget st.heap i = some b → b.row = true) →
    ∃ F', (∀ b, F b → F' b) ∧ (∀ i, i ∈ rows → ∀ b m, hget st.heap i = some b → nm i = some m → F' m.g) ∧ RelX G C nm F' (st.thaws rows) a w
  | [], st, F, h, _ => ⟨F, fun _ h => h, by simp, h⟩
  | i :: is, st, F, h, hrow => by
    cases hi : hget st.heap i with
    | none =>
      have e : st.thaw1 i = st := by simp [St.thaw1, hi]
      obtain ⟨F', h1, h2, h3⟩ := RelX.thaws is h (fun j hj => hrow j (List.mem_cons_of_mem _ hj))
      refine ⟨F', h1, fun j hj b m hb hm => ?_, by simp only [St.thaws, e]; exact h3⟩
      rcases List.mem_cons.1 hj with e | hj
      · subst e; rw [hi] at hb; cases hb
      · exact h2 j hj b m hb hm
    | some b =>
      have h' := h.thaw1 hi (hrow i (by simp) b hi)
      have get : ∀ j c, hget (st.thaw1 i).heap j = some c → j ≠ i ∧ ∃ c', hget st.heap j = some c' ∧ c = thawB i b c' := by
        intro j c hj
        simp only [St.thaw1, hi] at hj
        rw [hget_thawH] at hj
        split at hj
        · cases hj
        · rename_i hne
          obtain ⟨c', hc', rfl⟩ := Option.map_eq_some_iff.1 hj
          exact ⟨hne, c', hc', rfl⟩
      obtain ⟨F', h1, h2, h3⟩ := RelX.thaws is h' (fun j hj c hc => by
        obtain ⟨_, c', hc', rfl⟩ := get j c hc
        have := hrow j (List.mem_cons_of_mem _ hj) c' hc'
        simp [thawB, this])
      refine ⟨F', fun k hk => h1 k (.inl hk), fun j hj c m hc hm => ?_, h3⟩
      by_cases e : j = i
      · subst e; exact h1 _ (.inr ⟨m, hm, rfl⟩)
      · rcases List.mem_cons.1 hj with e' | hj
        · exact absurd e' e
        · refine h2 j hj (thawB i b c) m ?_ hm
          simp only [St.thaw1, hi, hget_thawH, if_neg e, hc, Option.map_some]
/-- The state behind a call. -/
def behind (st : St) (args : List AV) (r : AV) : St := if flat r then st else st.thaws (rowsAll args)
/-- What is handed over: lent, where nothing that comes back can be a part of it. -/
def viewC (r : AV) (H : List (Nat × Box)) (args : List AV) : Option (List AV) := if flat r then viewBs H args else viewAll H args
theorem call_sound (h : RelX G C nm F st a w) {f : Nat} {args vargs args' : List AV} {us : List Value} (hl : args.length = us.length)
    (hrd : ∀ (j : Nat) c u, args[j]? = some c → us[j]? = some u → Rd w F nm c u) {r : AV} (hv : viewC r st.heap args = some vargs) (hfit : FitL vargs args') (hc : PureC P G f args' r)
    {d : Option Nat} {st' : St} (hp : (behind st args r).put d r = some st') :
    Calls P f us.toArray w fun e w' => ∃ v, e = .returned v ∧ Rel G C st' (a.put d v) w' := by
  obtain ⟨hfl, hfa⟩ := hfit.at_
  have argsR : ∀ F1 : Nat → Prop, (vargs.length = us.length ∧ ∀ (j : Nat) c u, vargs[j]? = some c → us[j]? = some u → Rd w F1 noNames c u) → ArgsR w F1 args' us.toArray := by
    rintro F1 ⟨hlen, hrv⟩
    refine ⟨by simp; omega, fun j c u hc hu => ?_⟩
    have hj : j < vargs.length := by rw [hfl]; exact (List.getElem?_eq_some_iff.1 hc).1
    have hjc := List.getElem?_eq_getElem hj
    exact (hrv j _ u hjc (by simpa using hu)).fit (hfa j _ c hjc hc)
  have kept : ∀ {w' : World}, Below w.heap.size w w' → Kept C w' := fun hb =>
    ⟨hb.os.trans h.keep.os, hb.tape.trans h.keep.tape, hb.output.trans h.keep.output, Nat.le_trans h.keep.size hb.size, fun b hbs hbL => (hb.block b (Nat.lt_of_lt_of_le hbs h.keep.size)).trans (h.keep.block b hbs hbL)⟩
  unfold viewC at hv
  unfold behind at hp
  by_cases hfr : Ab.flat r = true
  · rw [if_pos hfr] at hv hp
    have hlt : ∀ k, (F k ∨ Own nm st.heap k) → k < w.heap.size := fun k hk => by
      rcases hk with hk | ⟨i, b, m, hi, hm, rfl⟩
      · exact h.good.1 k hk
      · exact h.lt hi hm
    have hg : Good w (fun k => F k ∨ Own nm st.heap k) G := h.good.mono (fun _ _ => rfl) (fun _ h => .inl h) hlt
    refine (hc w _ us.toArray hg (argsR _ (viewBs_rd h.box (fun _ h => .inl h) (fun _ h => .inr h) hv hl hrd))).mono ?_
    rintro e w' ⟨v, F2, rfl, hF2, hF2', hF2s, hr, hb⟩
    refine ⟨v, rfl, ?_⟩
    have h2 : RelX G C nm F st a w' := h.world (kept hb) (fun _ h => h) (fun _ h => .inl h) (fun b hb' => Nat.lt_of_lt_of_le (h.good.1 b hb') hb.size) (fun b hb' => hb.block b hb')
    exact ⟨nm, F, h2.put (hr.flat hfr) hp⟩
  · rw [if_neg hfr] at hv hp
    obtain ⟨F1, hF1, hrows, h1⟩ := RelX.thaws (G := G) (C := C) (nm := nm) (a := a) (w := w) (rowsAll args) h (fun i hi b hb => by
      obtain ⟨b', hb', hrow⟩ := viewAll_rows hv i hi
      rw [hb] at hb'; cases hb'; exact hrow)
    have hrv := viewAll_rd h.box hF1 hv (fun i hi m hm => by
      obtain ⟨b, hb, _⟩ := viewAll_rows hv i hi
      exact hrows i hi b m hb hm) hl hrd
    refine (hc w F1 us.toArray ⟨h1.good.1, h1.good.2⟩ (argsR F1 hrv)).mono ?_
    rintro e w' ⟨v, F2, rfl, hF2, hF2', hF2s, hr, hb⟩
    refine ⟨v, rfl, ?_⟩
    have h2 : RelX G C nm F2 (st.thaws (rowsAll args)) a w' := h1.world (kept hb) hF2 hF2' hF2s (fun b hb' => hb.block b hb')
    exact ⟨nm, F2, h2.put (hr.any nm) hp⟩
theorem call_soundN (h : RelX G C nm F st a w) {f : Nat} {args vargs args' : List AV} {us : List Value} (hl : args.length = us.length)
    (hrd : ∀ (j : Nat) c u, args[j]? = some c → us[j]? = some u → Rd w F nm c u) {r : AV} (hv : viewBs st.heap args = some vargs) (hfit : FitL vargs args') (hc : PureN P G f args' r)
    {d : Option Nat} {st' : St} (hp : st.put d r = some st') :
    Calls P f us.toArray w fun e w' => ∃ v, e = .returned v ∧ Rel G C st' (a.put d v) w' := by
  obtain ⟨hfl, hfa⟩ := hfit.at_
  have argsR : ∀ F1 : Nat → Prop, (vargs.length = us.length ∧ ∀ (j : Nat) c u, vargs[j]? = some c → us[j]? = some u → Rd w F1 noNames c u) → ArgsR w F1 args' us.toArray := by
    rintro F1 ⟨hlen, hrv⟩
    refine ⟨by simp; omega, fun j c u hc hu => ?_⟩
    have hj : j < vargs.length := by rw [hfl]; exact (List.getElem?_eq_some_iff.1 hc).1
    have hjc := List.getElem?_eq_getElem hj
    exact (hrv j _ u hjc (by simpa using hu)).fit (hfa j _ c hjc hc)
  have kept : ∀ {w' : World}, Below w.heap.size w w' → Kept C w' := fun hb =>
    ⟨hb.os.trans h.keep.os, hb.tape.trans h.keep.tape, hb.output.trans h.keep.output, Nat.le_trans h.keep.size hb.size, fun b hbs hbL => (hb.block b (Nat.lt_of_lt_of_le hbs h.keep.size)).trans (h.keep.block b hbs hbL)⟩
  have hlt : ∀ k, (F k ∨ Own nm st.heap k) → k < w.heap.size := fun k hk => by
    rcases hk with hk | ⟨i, b, m, hi, hm, rfl⟩
    · exact h.good.1 k hk
    · exact h.lt hi hm
  have hg : Good w (fun k => F k ∨ Own nm st.heap k) G := h.good.mono (fun _ _ => rfl) (fun _ h => .inl h) hlt
  refine (hc w _ us.toArray hg (argsR _ (viewBs_rd h.box (fun _ h => .inl h) (fun _ h => .inr h) hv hl hrd))).mono ?_
  rintro e w' ⟨v, F2, rfl, hF2, hF2s, hr, hb⟩
  refine ⟨v, rfl, ?_⟩
  have h2 : RelX G C nm (fun b => F b ∨ F2 b) st a w' := h.world (kept hb) (fun _ h => .inl h) (fun b h => h.elim .inl fun h => .inr (hF2 b h)) (fun b hb' => hb'.elim (fun hb' => Nat.lt_of_lt_of_le (h.good.1 b hb') hb.size) (hF2s b)) (fun b hb' => hb.block b hb')
  exact ⟨nm, _, h2.put ((hr.mono (fun _ _ => rfl) fun _ h => .inr h).any nm) hp⟩
end
end Go.Proofs.YtgdlgdchdohdoaaGreatDoor.Ab
