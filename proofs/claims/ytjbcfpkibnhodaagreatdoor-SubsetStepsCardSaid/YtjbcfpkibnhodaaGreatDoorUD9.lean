/-
  eval's panics: must, and what a node comes to: a value, or a panic. errors.As at an expression's error, errors.Is at its number, walked. eval.Guard, proctorref16.Guard. eval.Sets, proctorref16.Sets. proctorref13: expressions. No claim is proved here.
-/
import Derived.Test.YtjbcfpkibnhodaaGreatDoorUV6
import Derived.Test.YtjbcfpkibnhodaaGreatDoorUV4
import Derived.Test.YtjbcfpkibnhodaaGreatDoorUAbPanA
import Derived.Test.YtjbcfpkibnhodaaGreatDoorProg
import Derived.WalkKit
import Derived.WalkLawsBesides
import Derived.Defers
import Derived.Recover
import Derived.LaidEql
import Derived.RowKitTokens
import Derived.Outline
import Derived.RegionTactic
import Derived.Deep.Cut
import Derived.ChangeAlike
import Derived.Below
import Derived.Lib.Hide
import Derived.Laws.Rows
import Derived.Deep.Heap
import Derived.WalkSpells
namespace Go.Proofs.YtjbcfpkibnhodaaGreatDoor.Ab
open Go Go.RowKit
set_option linter.unusedSimpArgs false
set_option maxHeartbeats 4000000
set_option maxRecDepth 100000
variable {G : Nat → Option AV}
theorem rd_agg {w : World} {F : Nat → Prop} {nm : Names} {cs : List AV} {v : Value} (h : Rd w F nm (.agg cs) v) : ∃ us : List Value, v = .agg us.toArray ∧ cs.length = us.length ∧ ∀ (j : Nat) c u, cs[j]? = some c → us[j]? = some u → Rd w F nm c u := by
  cases h
  exact ⟨_, rfl, ‹_›, ‹_›⟩
end Go.Proofs.YtjbcfpkibnhodaaGreatDoor.Ab
namespace Go.Proofs.YtjbcfpkibnhodaaGreatDoor.Ab
open Go Go.RowKit Go.Extern.Stop Go.Stop Go.Extern
set_option linter.unusedSimpArgs false
set_option maxHeartbeats 4000000
set_option maxRecDepth 100000
abbrev hB : Nat := 11
end Go.Proofs.YtjbcfpkibnhodaaGreatDoor.Ab
namespace Go.Proofs.YtjbcfpkibnhodaaGreatDoor.Ab
open Go Go.RowKit
set_option linter.unusedSimpArgs false
set_option maxHeartbeats 4000000
set_option maxRecDepth 100000
variable {G : Nat → Option AV}
theorem ROk.none {r : Val × Int} (h : ROk r) (h0 : ¬ r.2 = 0) : r.1 = v0 := by
  rcases h with ⟨h1, _⟩ | ⟨h1, _⟩
  · exact absurd h1 h0
  · exact h1
end Go.Proofs.YtjbcfpkibnhodaaGreatDoor.Ab
namespace Go.Proofs.YtjbcfpkibnhodaaGreatDoor.Ab
open Go Go.RowKit
set_option linter.unusedSimpArgs false
set_option maxHeartbeats 4000000
set_option maxRecDepth 100000
variable {G : Nat → Option AV}
def SetsOk (S : Nat → Prop) (n : Nat) (l : List SetT) : Prop := ∀ s ∈ l, ∃ e f : Nat, s.expr = e ∧ s.free = f ∧ S e ∧ f < n
end Go.Proofs.YtjbcfpkibnhodaaGreatDoor.Ab
namespace Go.Proofs.YtjbcfpkibnhodaaGreatDoor.Ab
open Go
set_option linter.unusedSimpArgs false
set_option maxHeartbeats 4000000
variable {G : Nat → Option AV}
def bAt (out : List ExT) (n : Int) : ExT := (at? out n).getD e0
def beStep (q : QeaT) (out : List ExT) (i : Nat) (x : NodeT) : ExT :=
  if x.op = 1 then (if x.a = 0 ∧ x.b = 0 ∧ x.value.ok = true then ⟨x.value.kind, 1, i⟩ else e0)
  else if ¬ x.value = v0 then e0
  else if x.op = 2 then (if x.b = 0 then match at? q.quants x.a with | none => e0 | some y => ⟨y.type, 1, i⟩ else e0)
  else if x.op = 3 then (if x.b = 0 then match at? q.frees x.a with | none => e0 | some y => ⟨y.init.kind, 1, i⟩ else e0)
  else if x.op < 4 ∨ 16 < x.op then e0
  else if x.op ≤ 5 then (if (bAt out ((i : Int) - 1)).kind = 0 ∨ ¬ x.a = (i : Int) - 1 ∨ ¬ x.b = 0 then e0 else ⟨typeR x.op (bAt out ((i : Int) - 1)).kind (bAt out ((i : Int) - 1)).kind, (bAt out ((i : Int) - 1)).depth + 1, (bAt out ((i : Int) - 1)).from_⟩)
  else if (bAt out ((i : Int) - 1)).kind = 0 ∨ ¬ x.b = (i : Int) - 1 ∨ ¬ x.a = (bAt out ((i : Int) - 1)).from_ - 1 then e0
  else ⟨typeR x.op (bAt out ((bAt out ((i : Int) - 1)).from_ - 1)).kind (bAt out ((i : Int) - 1)).kind, max (bAt out ((i : Int) - 1)).depth (bAt out ((bAt out ((i : Int) - 1)).from_ - 1)).depth + 1, (bAt out ((bAt out ((i : Int) - 1)).from_ - 1)).from_⟩
def beL (q : QeaT) : Nat → List ExT
  | 0 => []
  | n + 1 => match q.nodes[n]? with
    | some x => beL q n ++ [beStep q (beL q n) n x]
    | none => beL q n
theorem beL_step {q : QeaT} {n : Nat} {x : NodeT} (h : q.nodes[n]? = some x) : beL q (n + 1) = beL q n ++ [beStep q (beL q n) n x] := by rw [beL, h]
theorem beL_length (q : QeaT) : ∀ n, n ≤ q.nodes.length → (beL q n).length = n
  | 0, _ => rfl
  | n + 1, h => by
    obtain ⟨x, hx, _⟩ := at_some (l := q.nodes) (i := n) (by omega)
    rw [beL_step hx, List.length_append, beL_length q n (by omega)]
    rfl
theorem bAt_ok {out : List ExT} (ho : exOk out) (n : Int) : 0 ≤ (bAt out n).from_ ∧ ((bAt out n).from_ ≤ n ∨ (bAt out n).from_ = 0) ∧ 0 ≤ (bAt out n).depth ∧ ((bAt out n).depth ≤ n + 1 ∨ (bAt out n).depth = 0) ∧ (bAt out n).depth ≤ out.length := by
  unfold bAt
  cases h : at? out n with
  | none => simp
  | some b =>
    obtain ⟨j, rfl, hj⟩ := at?_some h
    have := ho j b hj
    have := (List.getElem?_eq_some_iff.1 hj).1
    simp only [Option.getD_some]
    omega
theorem beStep_ok {q : QeaT} {out : List ExT} {i : Nat} {x : NodeT} (ho : exOk out) (hl : out.length = i) : 0 ≤ (beStep q out i x).from_ ∧ (beStep q out i x).from_ ≤ i ∧ 0 ≤ (beStep q out i x).depth ∧ (beStep q out i x).depth ≤ i + 1 := by
  have hz : 0 ≤ e0.from_ ∧ e0.from_ ≤ (i : Int) ∧ 0 ≤ e0.depth ∧ e0.depth ≤ (i : Int) + 1 := by simp; omega
  have h1 := bAt_ok ho ((i : Int) - 1)
  have h2 := bAt_ok ho ((bAt out ((i : Int) - 1)).from_ - 1)
  unfold beStep
  repeat' split
  all_goals first | exact hz | (dsimp only; omega)
theorem beL_ok (q : QeaT) : ∀ n, n ≤ q.nodes.length → exOk (beL q n)
  | 0, _ => fun j e h => by simp [beL] at h
  | n + 1, h => by
    obtain ⟨x, hx, _⟩ := at_some (l := q.nodes) (i := n) (by omega)
    have hn := beL_length q n (by omega)
    rw [beL_step hx]
    intro j e hj
    rw [List.getElem?_append] at hj
    split at hj
    · exact beL_ok q n (by omega) j e hj
    · rename_i hlt
      rw [hn] at hj
      rw [List.getElem?_cons] at hj
      split at hj
      · cases hj
        have := beStep_ok (q := q) (x := x) (beL_ok q n (by omega)) hn
        have : j = n := by omega
        subst this
        assumption
      · simp at hj
theorem beL_stays (q : QeaT) {i : Nat} (hi : i ≤ q.nodes.length) : ∀ d, i + d ≤ q.nodes.length → ∀ j : Nat, j < i → (beL q (i + d))[j]? = (beL q i)[j]?
  | 0, _, _, _ => rfl
  | d + 1, h, j, hj => by
    obtain ⟨x, hx, _⟩ := at_some (l := q.nodes) (i := i + d) (by omega)
    rw [show i + (d + 1) = i + d + 1 by omega, beL_step hx, List.getElem?_append_left (by rw [beL_length q _ (by omega)]; omega)]
    exact beL_stays q hi d (by omega) j hj
theorem bAt_stays (q : QeaT) {i : Nat} (hi : i ≤ q.nodes.length) {n : Int} (hn : n < i) : bAt (beL q q.nodes.length) n = bAt (beL q i) n := by
  unfold bAt at?
  split
  · rw [show q.nodes.length = i + (q.nodes.length - i) by omega, beL_stays q hi _ (by omega) _ (by omega)]
  · rfl
theorem bAt_here (q : QeaT) {i : Nat} {x : NodeT} (hx : q.nodes[i]? = some x) : bAt (beL q q.nodes.length) i = beStep q (beL q i) i x := by
  have hi := (List.getElem?_eq_some_iff.1 hx).1
  rw [bAt_stays q (i := i + 1) (by omega) (by omega), beL_step hx]
  have := beL_length q i (by omega)
  unfold bAt
  rw [at?_nat (y := beStep q (beL q i) i x) (by rw [List.getElem?_append_right (by omega)]; simp [this])]
  rfl
def ex3 (e : ExT) : AV := .tup [iv e.kind, iv e.depth, iv e.from_]
theorem ref13_below_pc (q : QeaT) (hl : q.nodes.length ≤ 1000000) : ∀ (n : Nat) (i : Int), i < n → PureC Tryz.prog G n_proctorref13_below [qeaV q, iv i] (ex3 (bAt (beL q q.nodes.length) i))
  | 0, i, hi => by
    refine pc_proctorref13_below (Runs.of fun Φ h => ?_)
    unfold c_proctorref13_below
    have hz : bAt (beL q q.nodes.length) i = e0 := by unfold bAt at?; rw [if_neg (by omega)]; rfl
    repeat' (first | (simp -implicitDefEqProofs only [go_sem, qeaV, declsV, quantsV, freesV, statesV, symsV, nodesV, transsV, List.length_map]) | refine at_guard (fun hb => ?_) (fun hb => ?_) | refine ⟨fun hb => ?_, fun hb => ?_⟩ | fail)
    all_goals first | exact h _ ⟨_, _, rfl, rfl, fit_eq (by rw [hz]; rfl)⟩ | (exfalso; simp at *; omega)
  | n + 1, i, hi => by
    have ih := ref13_below_pc q hl n
    cases hx : at? q.nodes i with
    | none =>
      have hi := at?_none hx
      refine pc_proctorref13_below (Runs.of fun Φ h => ?_)
      unfold c_proctorref13_below
      have hz : bAt (beL q q.nodes.length) i = e0 := by
        have := beL_length q q.nodes.length (by omega)
        unfold bAt at?
        split
        · rw [List.getElem?_eq_none (by omega)]; rfl
        · rfl
      repeat' (first | (simp -implicitDefEqProofs only [go_sem, qeaV, declsV, quantsV, freesV, statesV, symsV, nodesV, transsV, List.length_map]) | refine at_guard (fun hb => ?_) (fun hb => ?_) | refine ⟨fun hb => ?_, fun hb => ?_⟩ | fail)
      all_goals first | exact h _ ⟨_, _, rfl, rfl, fit_eq (by rw [hz]; rfl)⟩ | (exfalso; simp at *; omega)
    | some x =>
      obtain ⟨i, rfl, hxi⟩ := at?_some hx
      clear hx
      have hlt := (List.getElem?_eq_some_iff.1 hxi).1
      have hex := beL_ok q i (by omega)
      have hln := beL_length q i (by omega)
      have hkb := bAt_ok hex ((i : Int) - 1)
      have hka := bAt_ok hex ((bAt (beL q i) ((i : Int) - 1)).from_ - 1)
      have ihb := ih ((i : Int) - 1) (by omega)
      have iha := ih ((bAt (beL q i) ((i : Int) - 1)).from_ - 1) (by omega)
      rw [bAt_stays q (i := i) (by omega) (by omega)] at ihb
      rw [bAt_stays q (i := i) (by omega) (by omega)] at iha
      have hv : bAt (beL q q.nodes.length) i = beStep q (beL q i) i x := bAt_here q hxi
      rw [hv]
      unfold beStep at hv
      rw [beStep]
      generalize bAt (beL q i) ((i : Int) - 1) = b at *
      generalize bAt (beL q i) (b.from_ - 1) = a at *
      clear hv ih
      obtain ⟨op, na, mb, ⟨vk, vn, vs, vb⟩⟩ := x
      have hok := ref03_Right_pc (G := G) ⟨vk, vn, vs, vb⟩
      have hwi : IntKind.i64.wrap ((i : Int) - 1) = (i : Int) - 1 := wrap_i64 (by omega) (by omega)
      have hwf : IntKind.i64.wrap (b.from_ - 1) = b.from_ - 1 := wrap_i64 (by omega) (by omega)
      have hwd : IntKind.i64.wrap (b.depth + 1) = b.depth + 1 := wrap_i64 (by omega) (by omega)
      have hwm : IntKind.i64.wrap ((if a.depth > b.depth then a.depth else b.depth) + 1) = max b.depth a.depth + 1 := by
        rw [wrap_i64 (by split <;> omega) (by split <;> omega)]
        split <;> omega
      simp only [valV] at hok
      simp only [qeaV, declsV, quantsV, freesV, statesV, symsV, nodesV, transsV, ex3] at ihb iha
      refine pc_proctorref13_below (Runs.of fun Φ h => ?_)
      unfold c_proctorref13_below
      dsimp only at h
      generalize hv : (if op = 1 then _ else _ : ExT) = v at h
      have hvz := val_zero ⟨vk, vn, vs, vb⟩
      dsimp only at hvz
      have fin : ∀ k d f, ⟨k, d, f⟩ = v → Fit (.tup [iv k, iv d, iv f]) (ex3 v) := fun k d f e => by subst e; exact .refl _
      have hno : ∀ w, w = v → w = e0 → Fit (ex3 e0) (ex3 v) := fun w e1 e2 => by rw [← e1, e2]; exact .refl _
      by_cases h1 : op = 1
      · subst h1
        rw [if_pos rfl] at hv
        repeat' (first | (simp -implicitDefEqProofs only [go_sem, aiaddr_map hxi, nodeV, qeaV, declsV, quantsV, freesV, statesV, symsV, nodesV, transsV, List.length_map]) | refine at_guard (fun hb => ?_) (fun hb => ?_) | refine ⟨fun hb => ?_, fun hb => ?_⟩ | refine at_call (hok) rfl rfl ?_ | fail)
        all_goals
          try (exfalso; simp at *; omega)
        all_goals
          refine h _ ⟨_, _, rfl, rfl, fin _ _ _ ?_⟩
          rw [← hv]
          clear hv fin hno h ihb iha hok
          simp_all
      rw [if_neg h1] at hv
      by_cases hvv : (⟨vk, vn, vs, vb⟩ : Val) = v0
      · cases hvv
        rw [if_neg (by simp)] at hv
        by_cases h2 : op = 2
        · subst h2
          rw [if_pos rfl] at hv
          cases hq : at? q.quants na with
          | none =>
            rw [hq] at hv
            have ha := at?_none hq
            repeat' (first | (simp -implicitDefEqProofs only [go_sem, aiaddr_map hxi, nodeV, qeaV, declsV, quantsV, freesV, statesV, symsV, nodesV, transsV, List.length_map]) | refine at_guard (fun hb => ?_) (fun hb => ?_) | refine ⟨fun hb => ?_, fun hb => ?_⟩ | fail)
            all_goals try (exfalso; simp at *; omega)
            all_goals
              refine h _ ⟨_, _, rfl, rfl, fin _ _ _ ?_⟩
              rw [← hv]
              simp
          | some y =>
            obtain ⟨j, rfl, hy⟩ := at?_some hq
            have hj := (List.getElem?_eq_some_iff.1 hy).1
            rw [hq] at hv
            repeat' (first | (simp -implicitDefEqProofs only [go_sem, aiaddr_map hxi, nodeV, qeaV, declsV, quantsV, freesV, statesV, symsV, nodesV, transsV, List.length_map, aiaddr_map hy, quantV]) | refine at_guard (fun hb => ?_) (fun hb => ?_) | refine ⟨fun hb => ?_, fun hb => ?_⟩ | fail)
            all_goals try (exfalso; simp at *; omega)
            all_goals
              refine h _ ⟨_, _, rfl, rfl, fin _ _ _ ?_⟩
              rw [← hv]
              clear hv fin hno h ihb iha hok
              simp_all
        rw [if_neg h2] at hv
        by_cases h3 : op = 3
        · subst h3
          rw [if_pos rfl] at hv
          cases hq : at? q.frees na with
          | none =>
            rw [hq] at hv
            have ha := at?_none hq
            repeat' (first | (simp -implicitDefEqProofs only [go_sem, aiaddr_map hxi, nodeV, qeaV, declsV, quantsV, freesV, statesV, symsV, nodesV, transsV, List.length_map]) | refine at_guard (fun hb => ?_) (fun hb => ?_) | refine ⟨fun hb => ?_, fun hb => ?_⟩ | fail)
            all_goals try (exfalso; simp at *; omega)
            all_goals
              refine h _ ⟨_, _, rfl, rfl, fin _ _ _ ?_⟩
              rw [← hv]
              simp
          | some y =>
            obtain ⟨j, rfl, hy⟩ := at?_some hq
            have hj := (List.getElem?_eq_some_iff.1 hy).1
            rw [hq] at hv
            repeat' (first | (simp -implicitDefEqProofs only [go_sem, aiaddr_map hxi, nodeV, qeaV, declsV, quantsV, freesV, statesV, symsV, nodesV, transsV, List.length_map, aiaddr_map hy, freeV]) | refine at_guard (fun hb => ?_) (fun hb => ?_) | refine ⟨fun hb => ?_, fun hb => ?_⟩ | fail)
            all_goals try (exfalso; simp at *; omega)
            all_goals
              refine h _ ⟨_, _, rfl, rfl, fin _ _ _ ?_⟩
              rw [← hv]
              clear hv fin hno h ihb iha hok
              simp_all
        rw [if_neg h3] at hv
        repeat' (first | (simp -implicitDefEqProofs only [go_sem, aiaddr_map hxi, nodeV, qeaV, declsV, quantsV, freesV, statesV, symsV, nodesV, transsV, List.length_map, hwi, hwf, hwd, hwm]) | refine at_guard (fun hb => ?_) (fun hb => ?_) | refine ⟨fun hb => ?_, fun hb => ?_⟩ | refine at_call (ihb) rfl rfl ?_ | refine at_call (iha) rfl rfl ?_ | refine at_call (ref13_Type_pc _ _ _) rfl rfl ?_ | fail)
        all_goals first | refine h _ ⟨_, _, rfl, rfl, fin _ _ _ ?_⟩ | exfalso
        all_goals
          try rw [← hv]
          clear hv fin hno h ihb iha hok hwi hwf hwd hwm hex hxi hvz
          simp only [Bool.not_eq_true', Bool.not_true, Bool.not_false, decide_eq_true_eq, decide_eq_false_iff_not, beq_iff_eq, beq_eq_false_iff_ne, bne_iff_ne, bne_eq_false_iff_eq, ne_eq, Bool.not_eq_false'] at *
          first | omega | (simp [*]; done) | (exfalso; omega)
      · rw [if_pos hvv] at hv
        repeat' (first | (simp -implicitDefEqProofs only [go_sem, aiaddr_map hxi, nodeV, qeaV, declsV, quantsV, freesV, statesV, symsV, nodesV, transsV, List.length_map, hvz, hvv]) | refine at_guard (fun hb => ?_) (fun hb => ?_) | refine ⟨fun hb => ?_, fun hb => ?_⟩ | fail)
        all_goals try (exfalso; simp at *; omega)
        all_goals
          refine h _ ⟨_, _, rfl, rfl, fin _ _ _ hv⟩
end Go.Proofs.YtjbcfpkibnhodaaGreatDoor.Ab
