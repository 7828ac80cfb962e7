/-
  core.trans, from the inside: whole. proctorref13.Kind. core.trans, from the inside: set. core.trans, from the inside: one, and all. core.trans. core, proctorref13: arguments, symbols. proctorref13: symbols. core.symbols. proctorref13.symbol. No claim is proved here.
-/
import Derived.Test.YtjbcfpkibnhodaaGreatDoorYD9
import Derived.Test.YtjbcfpkibnhodaaGreatDoorYD8
namespace Go.Proofs.YtjbcfpkibnhodaaGreatDoor.Ab
open Go
set_option linter.unusedSimpArgs false
set_option maxHeartbeats 4000000
variable {G : Nat → Option AV}
def subH (heap : List (Nat × Box)) : List (Nat × Box) → Prop
  | [] => True
  | (i, b) :: r => hget heap i = some b ∧ subH heap r
theorem subH.at {heap : List (Nat × Box)} : ∀ {H : List (Nat × Box)}, subH heap H → ∀ i b, hget H i = some b → hget heap i = some b
  | [], _, i, b, h => by simp [hget] at h
  | (j, c) :: r, hs, i, b, h => by
    simp only [hget] at h
    split at h
    · rename_i e; subst e; cases h; exact hs.1
    · exact hs.2.at i b h
def kindR (q : QeaT) (at_ root : Int) : Int × Int :=
  if (bAt (beL q q.nodes.length) root).kind = 0 ∨ ¬ (bAt (beL q q.nodes.length) root).from_ = at_ then (0, 0) else ((bAt (beL q q.nodes.length) root).kind, (bAt (beL q q.nodes.length) root).depth)
theorem ref13_Kind_pc (q : QeaT) (hl : q.nodes.length ≤ 1000000) (at_ root : Int) : PureC Tryz.prog G n_proctorref13_Kind [qeaV q, iv at_, iv root] (.tup [iv (kindR q at_ root).1, iv (kindR q at_ root).2]) := by
  have hb := ref13_below_pc (G := G) q hl (root.toNat + 1) root (by omega)
  unfold kindR
  generalize bAt (beL q q.nodes.length) root = b at *
  refine pc_proctorref13_Kind (Runs.of fun Φ h => ?_)
  unfold c_proctorref13_Kind
  simp only [ex3, qeaV, declsV, quantsV, freesV, statesV, symsV, nodesV, transsV] at hb
  repeat' (first | (simp -implicitDefEqProofs only [go_sem, qeaV, declsV, quantsV, freesV, statesV, symsV, nodesV, transsV]) | refine at_guard (fun hb => ?_) (fun hb => ?_) | refine ⟨fun hb => ?_, fun hb => ?_⟩ | refine at_call (hb) rfl rfl ?_ | fail)
  all_goals (refine h _ ⟨_, _, rfl, rfl, fit_eq ?_⟩; clear h; simp_all)
def wholeS (l : List ExT) (at_ root kind : Int) : Bool :=
  match at? l root with
  | none => false
  | some e => decide (at_ ≤ root) && (e.kind == kind && (!(kind == 0) && (e.from_ == at_ && decide (e.depth ≤ 64))))
end Go.Proofs.YtjbcfpkibnhodaaGreatDoor.Ab
namespace Go.Proofs.YtjbcfpkibnhodaaGreatDoor.Ab
open Go
set_option linter.unusedSimpArgs false
set_option maxHeartbeats 4000000
variable {G : Nat → Option AV}
def setStep (q : QeaT) (l : List ExT) (sets : List SetT) (at_ : Int) (i : Nat) (s : SetT) : Bool × Int :=
  match at? q.frees s.free with
  | none => (false, at_)
  | some f => if ((sets.take i).any fun x => x.free == s.free) = true then (false, at_) else if wholeS l at_ s.expr f.init.kind = true then (true, s.expr + 1) else (false, at_)
def allS {α σ : Type} (step : σ → Nat → α → Bool × σ) : List α → Nat → σ → Bool × σ
  | [], _, s => (true, s)
  | x :: r, i, s => if (step s i x).1 = true then allS step r (i + 1) (step s i x).2 else (false, (step s i x).2)
theorem allS_step {α σ : Type} {step : σ → Nat → α → Bool × σ} {l : List α} {i : Nat} {x : α} (hx : l[i]? = some x) (s : σ) : allS step (l.drop i) i s = if (step s i x).1 = true then allS step (l.drop (i + 1)) (i + 1) (step s i x).2 else (false, (step s i x).2) := by
  obtain ⟨hlt, rfl⟩ := List.getElem?_eq_some_iff.1 hx
  rw [List.drop_eq_getElem_cons hlt, allS]
theorem allS_end {α σ : Type} {step : σ → Nat → α → Bool × σ} {l : List α} {i : Nat} (h : l.length ≤ i) (s : σ) : allS step (l.drop i) i s = (true, s) := by
  rw [List.drop_of_length_le h, allS]
theorem wholeS_pos {l : List ExT} {a r k : Int} (ha : 0 ≤ a) (h : wholeS l a r k = true) : 0 ≤ r + 1 := by
  unfold wholeS at h
  split at h
  · cases h
  · simp at h; omega
end Go.Proofs.YtjbcfpkibnhodaaGreatDoor.Ab
namespace Go.Proofs.YtjbcfpkibnhodaaGreatDoor.Ab
open Go
set_option linter.unusedSimpArgs false
set_option maxHeartbeats 4000000
variable {G : Nat → Option AV}
def mid {α : Type} (l : List α) (a b : Int) : List α := (l.drop a.toNat).take (b.toNat - a.toNat)
def inR (n : Int) (k : Nat) : Bool := decide (0 ≤ n) && decide (n < k)
theorem wholeS_le {l : List ExT} {a r k : Int} (h : wholeS l a r k = true) : a ≤ r + 1 ∧ r + 1 ≤ l.length := by
  unfold wholeS at h
  split at h
  · cases h
  · rename_i e he
    obtain ⟨j, rfl, hj⟩ := at?_some he
    have := (List.getElem?_eq_some_iff.1 hj).1
    simp at h
    omega
theorem setStep_le {q : QeaT} {l : List ExT} {sets : List SetT} {a : Int} {i : Nat} {s : SetT} (ha : a ≤ l.length) : a ≤ (setStep q l sets a i s).2 ∧ (setStep q l sets a i s).2 ≤ l.length := by
  unfold setStep
  repeat' split
  all_goals first | exact ⟨Int.le_refl _, ha⟩ | exact wholeS_le ‹_›
theorem allS_le {q : QeaT} {l : List ExT} {sets : List SetT} : ∀ {r : List SetT} {i : Nat} {a : Int}, a ≤ l.length → a ≤ (allS (setStep q l sets) r i a).2 ∧ (allS (setStep q l sets) r i a).2 ≤ l.length
  | [], _, a, h => ⟨Int.le_refl _, h⟩
  | x :: r, i, a, h => by
    have h1 := setStep_le (q := q) (sets := sets) (i := i) (s := x) h
    rw [allS]
    split
    · have := allS_le (q := q) (sets := sets) (r := r) (i := i + 1) h1.2
      omega
    · exact h1
end Go.Proofs.YtjbcfpkibnhodaaGreatDoor.Ab
namespace Go.Proofs.YtjbcfpkibnhodaaGreatDoor.Ab
open Go
set_option linter.unusedSimpArgs false
set_option maxHeartbeats 4000000
variable {G : Nat → Option AV}
structure QeaT.Few (q : QeaT) : Prop where
  decls : q.decls.length ≤ 1000000
  types : ∀ d ∈ q.decls, d.types.length ≤ 1000000
  quants : q.quants.length ≤ 1000000
  frees : q.frees.length ≤ 1000000
  states : q.states.length ≤ 1000000
  symbols : q.symbols.length ≤ 1000000
  args : ∀ s ∈ q.symbols, s.args.length ≤ 1000000
  nodes : q.nodes.length ≤ 1000000
  trans : q.trans.length ≤ 1000000
  sets : ∀ t ∈ q.trans, t.sets.length ≤ 1000000
end Go.Proofs.YtjbcfpkibnhodaaGreatDoor.Ab
namespace Go.Proofs.YtjbcfpkibnhodaaGreatDoor.Ab
open Go
set_option linter.unusedSimpArgs false
set_option maxHeartbeats 4000000
variable {G : Nat → Option AV}
def argS (q : QeaT) (a : ArgT) (kind : Int) : Bool :=
  if a.kind = 1 then a.n == 0 && (a.value.ok && a.value.kind == kind)
  else if a.kind = 2 then (match at? q.quants a.n with | none => false | some y => y.type == kind && decide (a.value = v0))
  else if a.kind = 3 then (match at? q.frees a.n with | none => false | some y => y.init.kind == kind && decide (a.value = v0))
  else a.kind == 4 && (a.n == 0 && decide (a.value = v0))
theorem proctorref13_arg_pc (q : QeaT) (a : ArgT) (kind : Int) : PureC Tryz.prog G n_proctorref13_arg [qeaV q, argV a, iv kind] (.bool (argS q a kind)) := by
  obtain ⟨ak, n, ⟨vk, vn, vs, vb⟩⟩ := a
  refine pc_proctorref13_arg (Runs.of fun Φ h => ?_)
  unfold c_proctorref13_arg
  have hok := ref03_Right_pc (G := G) ⟨vk, vn, vs, vb⟩
  simp only [valV] at hok
  have hz := val_zero ⟨vk, vn, vs, vb⟩
  dsimp only at hz
  generalize hv : argS q ⟨ak, n, ⟨vk, vn, vs, vb⟩⟩ kind = v at *
  by_cases h1 : ak = 1
  · subst h1
    simp only [argS, if_pos] at hv
    repeat' (first | (simp -implicitDefEqProofs only [go_sem, argV, qeaV, declsV, quantsV, freesV, statesV, symsV, nodesV, transsV, List.length_map]) | refine at_guard (fun hb => ?_) (fun hb => ?_) | refine ⟨fun hb => ?_, fun hb => ?_⟩ | refine at_call (hok) rfl rfl ?_ | fail)
    all_goals
      refine h _ ⟨_, _, rfl, rfl, fitB ?_⟩
      rw [← hv]
      clear h hok hv
      simp_all
  by_cases h2 : ak = 2
  · subst h2
    simp only [argS, if_pos, show ¬ (2 : Int) = 1 by omega, if_false] at hv
    cases hq : at? q.quants n with
    | none =>
      rw [hq] at hv
      have ha := at?_none hq
      repeat' (first | (simp -implicitDefEqProofs only [go_sem, argV, qeaV, declsV, quantsV, freesV, statesV, symsV, nodesV, transsV, List.length_map]) | refine at_guard (fun hb => ?_) (fun hb => ?_) | refine ⟨fun hb => ?_, fun hb => ?_⟩ | fail)
      all_goals first | (exfalso; simp at *; omega) | skip
      all_goals
        refine h _ ⟨_, _, rfl, rfl, fitB ?_⟩
        exact hv
    | some y =>
      obtain ⟨j, rfl, hy⟩ := at?_some hq
      have hj := (List.getElem?_eq_some_iff.1 hy).1
      rw [hq] at hv
      repeat' (first | (simp -implicitDefEqProofs only [go_sem, argV, qeaV, declsV, quantsV, freesV, statesV, symsV, nodesV, transsV, List.length_map, aiaddr_map hy, quantV]) | refine at_guard (fun hb => ?_) (fun hb => ?_) | refine ⟨fun hb => ?_, fun hb => ?_⟩ | fail)
      all_goals first | (exfalso; simp at *; omega) | skip
      all_goals
        refine h _ ⟨_, _, rfl, rfl, fitB ?_⟩
        refine Eq.trans ?_ hv
        clear h hok hv hq hy
        simp only [hz] at *
        all_goals (try clear hz); (try generalize decide ((⟨vk, vn, vs, vb⟩ : Val) = v0) = Z at *); simp_all
  by_cases h3 : ak = 3
  · subst h3
    simp only [argS, if_pos, show ¬ (3 : Int) = 1 by omega, show ¬ (3 : Int) = 2 by omega, if_false] at hv
    cases hq : at? q.frees n with
    | none =>
      rw [hq] at hv
      have ha := at?_none hq
      repeat' (first | (simp -implicitDefEqProofs only [go_sem, argV, qeaV, declsV, quantsV, freesV, statesV, symsV, nodesV, transsV, List.length_map]) | refine at_guard (fun hb => ?_) (fun hb => ?_) | refine ⟨fun hb => ?_, fun hb => ?_⟩ | fail)
      all_goals first | (exfalso; simp at *; omega) | skip
      all_goals
        refine h _ ⟨_, _, rfl, rfl, fitB ?_⟩
        exact hv
    | some y =>
      obtain ⟨j, rfl, hy⟩ := at?_some hq
      have hj := (List.getElem?_eq_some_iff.1 hy).1
      rw [hq] at hv
      repeat' (first | (simp -implicitDefEqProofs only [go_sem, argV, qeaV, declsV, quantsV, freesV, statesV, symsV, nodesV, transsV, List.length_map, aiaddr_map hy, freeV]) | refine at_guard (fun hb => ?_) (fun hb => ?_) | refine ⟨fun hb => ?_, fun hb => ?_⟩ | fail)
      all_goals first | (exfalso; simp at *; omega) | skip
      all_goals
        refine h _ ⟨_, _, rfl, rfl, fitB ?_⟩
        refine Eq.trans ?_ hv
        clear h hok hv hq hy
        simp only [hz] at *
        all_goals (try clear hz); (try generalize decide ((⟨vk, vn, vs, vb⟩ : Val) = v0) = Z at *); simp_all
  · simp only [argS, if_neg h1, if_neg h2, if_neg h3] at hv
    repeat' (first | (simp -implicitDefEqProofs only [go_sem, argV, qeaV, declsV, quantsV, freesV, statesV, symsV, nodesV, transsV, List.length_map]) | refine at_guard (fun hb => ?_) (fun hb => ?_) | refine ⟨fun hb => ?_, fun hb => ?_⟩ | fail)
    all_goals first | (exfalso; simp at *; omega) | skip
    all_goals
      refine h _ ⟨_, _, rfl, rfl, fitB ?_⟩
      refine Eq.trans ?_ hv
      clear h hok hv
      simp only [hz] at *
      all_goals (try clear hz); (try generalize decide ((⟨vk, vn, vs, vb⟩ : Val) = v0) = Z at *); simp_all
theorem okC_q (q : QeaT) : OkC [.eptr (qeaV q) 0] := ⟨fun _ => rfl, fun _ _ => rfl, fun _ => rfl, fun _ _ => rfl, fun _ => rfl, fun _ => rfl⟩
def zipB {α β : Type} (p : α → β → Bool) : List α → List β → Bool
  | [], [] => true
  | x :: r, y :: s => p x y && zipB p r s
  | _, _ => false
theorem zipB_len {α β : Type} {p : α → β → Bool} : ∀ {l : List α} {k : List β}, ¬ l.length = k.length → zipB p l k = false
  | [], [], h => absurd rfl h
  | [], _ :: _, _ => rfl
  | _ :: _, [], _ => rfl
  | x :: r, y :: s, h => by
    rw [zipB, zipB_len (by simpa using h), Bool.and_false]
theorem zipB_step {α β : Type} {p : α → β → Bool} {l : List α} {k : List β} {i : Nat} {x : α} {y : β} (hx : l[i]? = some x) (hy : k[i]? = some y) : zipB p (l.drop i) (k.drop i) = (p x y && zipB p (l.drop (i + 1)) (k.drop (i + 1))) := by
  obtain ⟨h1, rfl⟩ := List.getElem?_eq_some_iff.1 hx
  obtain ⟨h2, rfl⟩ := List.getElem?_eq_some_iff.1 hy
  rw [List.drop_eq_getElem_cons h1, List.drop_eq_getElem_cons h2, zipB]
theorem zipB_end {α β : Type} {p : α → β → Bool} {l : List α} {k : List β} {i : Nat} (h1 : l.length ≤ i) (h2 : k.length ≤ i) : zipB p (l.drop i) (k.drop i) = true := by
  rw [List.drop_of_length_le h1, List.drop_of_length_le h2, zipB]
def symS (q : QeaT) (s : SymT) : Bool :=
  match at? q.decls s.event with
  | none => false
  | some d => zipB (argS q) s.args d.types
end Go.Proofs.YtjbcfpkibnhodaaGreatDoor.Ab
namespace Go.Proofs.YtjbcfpkibnhodaaGreatDoor.Ab
open Go
set_option linter.unusedSimpArgs false
set_option maxHeartbeats 4000000
variable {G : Nat → Option AV}
theorem ref13_SameSymbol_pc (a b : SymT) (ha : a.args.length < 9223372036854775807) : PureC Tryz.prog G n_proctorref13_SameSymbol [symV a, symV b] (.bool (decide (a = b))) := by
  obtain ⟨e, l⟩ := a
  obtain ⟨f, k⟩ := b
  dsimp only at ha
  refine pc_proctorref13_SameSymbol (Runs.of fun Φ h => ?_)
  unfold c_proctorref13_SameSymbol
  generalize hv : decide ((⟨e, l⟩ : SymT) = ⟨f, k⟩) = v at *
  by_cases hc : e = f ∧ l.length = k.length
  · obtain ⟨rfl, hlk⟩ := hc
    have hv' : zipB (fun (x y : ArgT) => x == y) l k = v := by
      rw [← hv]
      clear hv h ha
      induction l generalizing k with
      | nil => cases k with
        | nil => simp [zipB]
        | cons y s => simp at hlk
      | cons x r ih => cases k with
        | nil => simp at hlk
        | cons y s =>
          rw [zipB, ih s (by simpa using hlk), Bool.eq_iff_iff]
          simp
    clear hv
    repeat' (first | (simp -implicitDefEqProofs only [go_sem, symV, argsV, List.length_map]) | refine at_guard (fun hb => ?_) (fun hb => ?_) | refine ⟨fun hb => ?_, fun hb => ?_⟩ | fail)
    all_goals try (exfalso; first | omega | (simp at *; done) | (simp at *; omega))
    refine at_loop (fun n st => ∃ i : Nat, i + n = l.length ∧ st = ⟨38, [(2, .ref 2 0 0), (3, .ref 3 0 0), (5, iv i)], [(2, ⟨false, t_api_Symbol, 2, [symV ⟨e, l⟩]⟩), (3, ⟨false, t_api_Symbol, 2, [symV ⟨e, k⟩]⟩)]⟩ ∧ zipB (fun (x y : ArgT) => x == y) (l.drop i) (k.drop i) = v) l.length ⟨0, by simp, rfl, hv'⟩ ?_
    rintro I hI n st ⟨i, hi, rfl, hno⟩
    simp -implicitDefEqProofs only [go_sem, symV, argsV, List.length_map]
    refine ⟨fun hlt => ?_, fun hge => ?_⟩
    · have hlt' : i < l.length := by omega
      obtain ⟨x, hx, hm⟩ := at_some hlt'
      obtain ⟨y, hy, hm'⟩ := at_some (l := k) (i := i) (by omega)
      have hw := wrap_succ hlt' (by omega)
      rw [zipB_step hx hy] at hno
      have hxy := argEq x y
      repeat' (first | (simp -implicitDefEqProofs only [go_sem, aiaddr_map hx, aiaddr_map hy, argV, symV, argsV, hw]) | refine at_guard (fun hb => ?_) (fun hb => ?_) | refine ⟨fun hb => ?_, fun hb => ?_⟩ | fail)
      · rw [show (x == y) = false by rw [hxy, Bool.and_true]; simpa only [Bool.not_eq_true'] using hb, Bool.false_and] at hno
        exact h _ ⟨_, _, rfl, rfl, fitB hno⟩
      · rw [show (x == y) = true by rw [hxy]; simpa using hb, Bool.true_and] at hno
        exact at_again (n - 1) (by omega) (hI _ _ ⟨i + 1, by omega, rfl, hno⟩)
    · rw [zipB_end (by omega) (by omega)] at hno
      exact h _ ⟨_, _, rfl, rfl, fitB hno⟩
  · have hv' : v = false := by
      rw [← hv, decide_eq_false_iff_not]
      intro e
      cases e
      exact hc ⟨rfl, rfl⟩
    repeat' (first | (simp -implicitDefEqProofs only [go_sem, symV, argsV, List.length_map]) | refine at_guard (fun hb => ?_) (fun hb => ?_) | refine ⟨fun hb => ?_, fun hb => ?_⟩ | fail)
    all_goals first | exact h _ ⟨_, _, rfl, rfl, fitB hv'.symm⟩ | (exfalso; first | omega | (simp at *; done) | (simp at *; omega))
def namesS (s : SymT) (v : Int) : Bool := s.args.any fun x => x.kind == 2 && x.n == v
theorem ref13_Names_pc (s : SymT) (hs : s.args.length < 9223372036854775807) (v : Int) : PureC Tryz.prog G n_proctorref13_Names [symV s, iv v] (.bool (namesS s v)) := by
  obtain ⟨e, l⟩ := s
  dsimp only at hs
  refine pc_proctorref13_Names (Runs.of fun Φ h => ?_)
  unfold c_proctorref13_Names
  generalize hv : namesS ⟨e, l⟩ v = w at *
  simp only [namesS] at hv
  simp -implicitDefEqProofs only [go_sem, symV, argsV, List.length_map]
  refine at_loop (fun n st => ∃ i : Nat, i + n = l.length ∧ st = ⟨30, [(1, iv v), (2, .ref 2 0 0), (5, iv i)], [(2, ⟨false, t_api_Symbol, 2, [symV ⟨e, l⟩]⟩)]⟩ ∧ ((l.drop i).any fun x => x.kind == 2 && x.n == v) = w) l.length ⟨0, by simp, rfl, hv⟩ ?_
  rintro I hI n st ⟨i, hi, rfl, hno⟩
  simp -implicitDefEqProofs only [go_sem, symV, argsV, List.length_map]
  refine ⟨fun hlt => ?_, fun hge => ?_⟩
  · have hlt' : i < l.length := by omega
    obtain ⟨x, hx, hm⟩ := at_some hlt'
    have hw := wrap_succ hlt' (by omega)
    rw [show l.drop i = x :: l.drop (i + 1) by obtain ⟨h1, rfl⟩ := List.getElem?_eq_some_iff.1 hx; exact List.drop_eq_getElem_cons h1, List.any_cons] at hno
    repeat' (first | (simp -implicitDefEqProofs only [go_sem, aiaddr_map hx, argV, symV, argsV, hw]) | refine at_guard (fun hb => ?_) (fun hb => ?_) | refine ⟨fun hb => ?_, fun hb => ?_⟩ | fail)
    all_goals first
      | (refine h _ ⟨_, _, rfl, rfl, fitB ?_⟩; rw [← hno]; simp_all; done)
      | (refine at_again (n - 1) (by omega) (hI _ _ ⟨i + 1, by omega, rfl, ?_⟩); rw [← hno]; simp_all; done)
  · rw [List.drop_of_length_le (by omega), List.any_nil] at hno
    exact h _ ⟨_, _, rfl, rfl, fitB hno⟩
theorem ref13_bound_pc (q : QeaT) (hq : q.nodes.length ≤ 1000000) (s : SymT) (hs : s.args.length < 9223372036854775807) (a b : Int) (ha : 0 ≤ a) (hb : b ≤ q.nodes.length) : PureC Tryz.prog G n_proctorref13_bound [qeaV q, symV s, iv a, iv b] (.bool ((mid q.nodes a b).all fun x => !(x.op == 2) || namesS s x.a)) := by
  obtain ⟨a, rfl⟩ := Int.eq_ofNat_of_zero_le ha
  refine pc_proctorref13_bound (Runs.of fun Φ h => ?_)
  unfold c_proctorref13_bound
  generalize hv : ((mid q.nodes a b).all fun x => !(x.op == 2) || namesS s x.a) = w at *
  simp -implicitDefEqProofs only [go_sem, symV, argsV, qeaV, declsV, quantsV, freesV, statesV, symsV, nodesV, transsV, List.length_map]
  refine at_loop (fun n st => ∃ i : Nat, n = b.toNat - i ∧ st = ⟨34, [(3, iv b), (4, .ref 4 0 0), (5, .ref 5 0 0), (9, iv i)], [(4, ⟨false, t_api_Qea, 9, [qeaV q]⟩), (5, ⟨false, t_api_Symbol, 2, [symV s]⟩)]⟩ ∧ ((mid q.nodes i b).all fun x => !(x.op == 2) || namesS s x.a) = w) (b.toNat - a) ⟨a, by simp, rfl, hv⟩ ?_
  rintro I hI n st ⟨i, hi, rfl, hno⟩
  simp -implicitDefEqProofs only [go_sem, symV, argsV, qeaV, declsV, quantsV, freesV, statesV, symsV, nodesV, transsV, List.length_map]
  refine ⟨fun hlt => ?_, fun hge => ?_⟩
  · have hlt' : i < q.nodes.length := by omega
    obtain ⟨x, hx, hm⟩ := at_some hlt'
    have hw := wrap_succ hlt' (by omega)
    have hc := ref13_Names_pc (G := G) s hs x.a
    simp only [symV, argsV] at hc
    rw [show mid q.nodes i b = x :: mid q.nodes (i + 1 : Nat) b by
      obtain ⟨h1, rfl⟩ := List.getElem?_eq_some_iff.1 hx
      unfold mid
      rw [show (i : Int).toNat = i from Int.toNat_natCast i, show ((i + 1 : Nat) : Int).toNat = i + 1 from Int.toNat_natCast _, List.drop_eq_getElem_cons h1, show b.toNat - i = (b.toNat - (i + 1)) + 1 by omega, List.take_succ_cons], List.all_cons] at hno
    repeat' (first | (simp -implicitDefEqProofs only [go_sem, aiaddr_map hx, nodeV, symV, argsV, hw]) | refine at_guard (fun hb => ?_) (fun hb => ?_) | refine ⟨fun hb => ?_, fun hb => ?_⟩ | refine at_call (hc) rfl rfl ?_ | fail)
    all_goals first
      | (refine h _ ⟨_, _, rfl, rfl, fitB ?_⟩; rw [← hno]; simp_all; done)
      | (refine at_again (n - 1) (by omega) (hI _ _ ⟨i + 1, by omega, rfl, ?_⟩); rw [← hno]; simp_all; done)
  · rw [show mid q.nodes i b = [] by unfold mid; rw [show b.toNat - (i : Int).toNat = 0 by omega, List.take_zero], List.all_nil] at hno
    exact h _ ⟨_, _, rfl, rfl, fitB hno⟩
end Go.Proofs.YtjbcfpkibnhodaaGreatDoor.Ab
namespace Go.Proofs.YtjbcfpkibnhodaaGreatDoor.Ab
open Go
set_option linter.unusedSimpArgs false
set_option maxHeartbeats 4000000
variable {G : Nat → Option AV}
def ordStep (o : List Int) (s : Int) : List Int := if (o.any fun x => s == x) = true then o else o ++ [s]
def ordL (o : List Int) : List TransT → List Int
  | [] => o
  | t :: r => ordL (ordStep o t.symbol) r
theorem ordL_step {l : List TransT} {i : Nat} {t : TransT} (ht : l[i]? = some t) (o : List Int) : ordL o (l.drop i) = ordL (ordStep o t.symbol) (l.drop (i + 1)) := by
  obtain ⟨h1, rfl⟩ := List.getElem?_eq_some_iff.1 ht
  rw [List.drop_eq_getElem_cons h1, ordL]
theorem ordStep_len (o : List Int) (s : Int) : (ordStep o s).length ≤ o.length + 1 := by
  unfold ordStep
  split <;> simp
end Go.Proofs.YtjbcfpkibnhodaaGreatDoor.Ab
namespace Go.Proofs.YtjbcfpkibnhodaaGreatDoor.Ab
open Go
set_option linter.unusedSimpArgs false
set_option maxHeartbeats 4000000
variable {G : Nat → Option AV}
theorem ref13_symbol_pc (q : QeaT) (s : SymT) (hs : s.args.length < 9223372036854775807) : PureC Tryz.prog G n_proctorref13_symbol [qeaV q, symV s] (.bool (symS q s)) := by
  obtain ⟨ev, l⟩ := s
  dsimp only at hs
  refine pc_proctorref13_symbol (Runs.of fun Φ h => ?_)
  unfold c_proctorref13_symbol
  generalize hv : symS q ⟨ev, l⟩ = v at *
  simp only [symS] at hv
  cases hd : at? q.decls ev with
  | none =>
    rw [hd] at hv
    have hn := at?_none hd
    repeat' (first | (simp -implicitDefEqProofs only [go_sem, symV, argsV, qeaV, declsV, quantsV, freesV, statesV, symsV, nodesV, transsV, List.length_map]) | refine at_guard (fun hb => ?_) (fun hb => ?_) | refine ⟨fun hb => ?_, fun hb => ?_⟩ | fail)
    all_goals first | exact h _ ⟨_, _, rfl, rfl, fitB hv⟩ | (exfalso; first | omega | (simp at *; done) | (simp at *; omega))
  | some d =>
    obtain ⟨j, rfl, hj⟩ := at?_some hd
    have hlt := (List.getElem?_eq_some_iff.1 hj).1
    rw [hd] at hv
    dsimp only at hv
    by_cases hlk : l.length = d.types.length
    · repeat' (first | (simp -implicitDefEqProofs only [go_sem, symV, argsV, qeaV, declsV, quantsV, freesV, statesV, symsV, nodesV, transsV, List.length_map, aiaddr_map hj, declV, intsV]) | refine at_guard (fun hb => ?_) (fun hb => ?_) | refine ⟨fun hb => ?_, fun hb => ?_⟩ | fail)
      all_goals try (exfalso; first | omega | (simp at *; done) | (simp at *; omega))
      refine at_loop (fun n st => ∃ i : Nat, i + n = l.length ∧ st = ⟨56, [(2, .ref 2 0 0), (3, .ref 3 0 0), (5, iv i)], [(2, ⟨false, t_api_Qea, 9, [qeaV q]⟩), (3, ⟨false, t_api_Symbol, 2, [symV ⟨j, l⟩]⟩)]⟩ ∧ zipB (argS q) (l.drop i) (d.types.drop i) = v) l.length ⟨0, by simp, rfl, hv⟩ ?_
      rintro I hI n st ⟨i, hi, rfl, hno⟩
      simp -implicitDefEqProofs only [go_sem, symV, argsV, qeaV, declsV, quantsV, freesV, statesV, symsV, nodesV, transsV, List.length_map]
      refine ⟨fun hlt => ?_, fun hge => ?_⟩
      · have hlt' : i < l.length := by omega
        obtain ⟨x, hx, hm⟩ := at_some hlt'
        obtain ⟨y, hy, hm'⟩ := at_some (l := d.types) (i := i) (by omega)
        have hw := wrap_succ hlt' (by omega)
        have hc := proctorref13_arg_pc (G := G) q x y
        rw [zipB_step hx hy] at hno
        simp only [argV, qeaV, declsV, quantsV, freesV, statesV, symsV, nodesV, transsV] at hc
        repeat' (first | (simp -implicitDefEqProofs only [go_sem, aiaddr_map hx, aiaddr_map hj, aiaddr_map hy, argV, symV, argsV, declV, intsV, qeaV, declsV, quantsV, freesV, statesV, symsV, nodesV, transsV, hw]) | refine at_guard (fun hb => ?_) (fun hb => ?_) | refine ⟨fun hb => ?_, fun hb => ?_⟩ | refine at_call (hc) rfl rfl ?_ | fail)
        · rw [show argS q x y = false by simpa using hb, Bool.false_and] at hno
          exact h _ ⟨_, _, rfl, rfl, fitB hno⟩
        · rw [show argS q x y = true by simpa using hb, Bool.true_and] at hno
          exact at_again (n - 1) (by omega) (hI _ _ ⟨i + 1, by omega, rfl, hno⟩)
      · rw [zipB_end (by omega) (by omega)] at hno
        exact h _ ⟨_, _, rfl, rfl, fitB hno⟩
    · rw [zipB_len hlk] at hv
      repeat' (first | (simp -implicitDefEqProofs only [go_sem, symV, argsV, qeaV, declsV, quantsV, freesV, statesV, symsV, nodesV, transsV, List.length_map, aiaddr_map hj, declV, intsV]) | refine at_guard (fun hb => ?_) (fun hb => ?_) | refine ⟨fun hb => ?_, fun hb => ?_⟩ | fail)
      all_goals first | exact h _ ⟨_, _, rfl, rfl, fitB hv⟩ | (exfalso; first | omega | (simp at *; done) | (simp at *; omega))
end Go.Proofs.YtjbcfpkibnhodaaGreatDoor.Ab
