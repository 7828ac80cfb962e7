/-
  binding.Under, binding.Fits: the contracts; binding.Union. proctorlaw05.awake; the document's binding of slots. No claim is proved here.
-/
import Derived.Test.YtngjjiblmpjbjaaQRf4
import Derived.Test.YtngjjiblmpjbjaaQRf5
namespace Go.Proofs.Ytngjjiblmpjbjaa.Ab
open Go Go.RowKit
set_option linter.unusedSimpArgs false
set_option maxHeartbeats 4000000
set_option maxRecDepth 100000
variable {G : Nat → Option AV}
theorem pure_bool2 {P : Program} {f : Nat} {c d : AV} {r : Bool} (h : ∀ (w : World) (F : Nat → Prop) (u v : Value), Good w F G → Rd w F noNames c u → Rd w F noNames d v → Calls P f #[u, v] w fun e w' => e = .returned (.bool r) ∧ Below w.heap.size w w') : PureC P G f [c, d] (.bool r) := by
  intro w F vs hg ha
  obtain ⟨hs, hr⟩ := ha
  obtain ⟨l⟩ := vs
  match l, hs with
  | [u, v], _ =>
    refine (h w F u v hg (hr 0 c u rfl rfl) (hr 1 d v rfl rfl)).mono ?_
    rintro e w' ⟨rfl, hb⟩
    exact ⟨_, F, rfl, fun b h => h, fun b h => .inl h, fun b h => Nat.lt_of_lt_of_le (hg.1 b h) hb.size, .bool _ _, hb⟩
theorem binding_Under_pc (a b : List SlotT) (ha : a.length ≤ 1000000) (hb : b.length ≤ 1000000) : PureC Try.prog G n_binding_Under [slotsV a, slotsV b] (.bool (underR a b)) :=
  pure_bool2 fun _ _ _ _ hg h1 h2 => Under_calls a b ha hb hg h1 h2
theorem binding_Fits_pc (a b : List SlotT) (ha : a.length ≤ 1000000) (hb : b.length ≤ 1000000) : PureC Try.prog G n_binding_Fits [slotsV a, slotsV b] (.bool (fitsB a b)) :=
  pure_bool2 fun _ _ _ _ hg h1 h2 => Fits_calls a b ha hb hg h1 h2
def unionB (a b : List SlotT) : Option (List SlotT) := if fitsB a b then ofB (a ++ b) else none
theorem binding_Union_pc (a b : List SlotT) (ha : a.length ≤ 100) (hb : b.length ≤ 100) : PureC Try.prog G n_binding_Union [slotsV a, slotsV b] (ofV (unionB a b)) := by
  have h1 := binding_Fits_pc (G := G) a b (by omega) (by omega)
  have h2 := concat_pc (G := G) a b (by omega) (by omega)
  have h3 := binding_Of_pc (G := G) (a ++ b) (by rw [List.length_append]; omega)
  refine pc_binding_Union (Runs.of fun Φ h => ?_)
  unfold c_binding_Union
  unfold unionB at h
  cases hf : fitsB a b with
  | false =>
    rw [hf] at h h1
    rw [if_neg (by simp)] at h
    simp only [slotsV] at h1
    (try (simp -implicitDefEqProofs only [go_sem, Nat.reduceAdd, Nat.reduceSub, Nat.reduceMul, Nat.reduceLT, Nat.reduceLeDiff, Nat.reduceEqDiff, Nat.reduceBEq, Int.reduceNeg, Int.reduceAdd, Int.reduceLT, Int.reduceLE, Int.reduceToNat, Int.reduceEq, Int.reduceNe, Int.reduceBEq, Int.reduceBNe, Int.reduceMul, Int.reduceSub, reduceIte, reduceCtorEq, slotsV])); repeat' ((first | refine at_guard (fun hb => ?_) (fun hb => ?_) | refine ⟨fun hb => ?_, fun hb => ?_⟩ | refine at_call (h1) rfl rfl ?_ | fail) <;> (try (simp -implicitDefEqProofs only [go_sem, Nat.reduceAdd, Nat.reduceSub, Nat.reduceMul, Nat.reduceLT, Nat.reduceLeDiff, Nat.reduceEqDiff, Nat.reduceBEq, Int.reduceNeg, Int.reduceAdd, Int.reduceLT, Int.reduceLE, Int.reduceToNat, Int.reduceEq, Int.reduceNe, Int.reduceBEq, Int.reduceBNe, Int.reduceMul, Int.reduceSub, reduceIte, reduceCtorEq, slotsV])))
    exact h _ ⟨_, _, rfl, rfl, .refl _⟩
  | true =>
    rw [hf] at h h1
    rw [if_pos rfl] at h
    generalize ofB (a ++ b) = o at *
    simp only [slotsV, ofV] at h1 h2 h3
    (try (simp -implicitDefEqProofs only [go_sem, Nat.reduceAdd, Nat.reduceSub, Nat.reduceMul, Nat.reduceLT, Nat.reduceLeDiff, Nat.reduceEqDiff, Nat.reduceBEq, Int.reduceNeg, Int.reduceAdd, Int.reduceLT, Int.reduceLE, Int.reduceToNat, Int.reduceEq, Int.reduceNe, Int.reduceBEq, Int.reduceBNe, Int.reduceMul, Int.reduceSub, reduceIte, reduceCtorEq, slotsV])); repeat' ((first | refine at_guard (fun hb => ?_) (fun hb => ?_) | refine ⟨fun hb => ?_, fun hb => ?_⟩ | refine at_call (h1) rfl rfl ?_ | refine at_call (h2) rfl rfl ?_ | refine at_call (h3) rfl rfl ?_ | fail) <;> (try (simp -implicitDefEqProofs only [go_sem, Nat.reduceAdd, Nat.reduceSub, Nat.reduceMul, Nat.reduceLT, Nat.reduceLeDiff, Nat.reduceEqDiff, Nat.reduceBEq, Int.reduceNeg, Int.reduceAdd, Int.reduceLT, Int.reduceLE, Int.reduceToNat, Int.reduceEq, Int.reduceNe, Int.reduceBEq, Int.reduceBNe, Int.reduceMul, Int.reduceSub, reduceIte, reduceCtorEq, slotsV])))
    exact h _ ⟨_, _, rfl, rfl, .refl _⟩
end Go.Proofs.Ytngjjiblmpjbjaa.Ab
namespace Go.Proofs.Ytngjjiblmpjbjaa.Ab
open Go Go.RowKit
set_option linter.unusedSimpArgs false
set_option maxHeartbeats 4000000
set_option maxRecDepth 100000
variable {G : Nat → Option AV}
def aB : List SlotT := [⟨0, ⟨1, 5, [], false⟩⟩]
def bB : List SlotT := [⟨0, ⟨1, 5, [], false⟩⟩, ⟨1, ⟨1, 6, [], false⟩⟩]
theorem law05_awake_pc : PureC Try.prog G n_proctorlaw05_awake [] (.bool true) := by
  have h1 := binding_Union_pc (G := G) aB bB (by decide) (by decide)
  rw [show unionB aB bB = some bB by decide +kernel] at h1
  have h2 := binding_Under_pc (G := G) aB bB (by decide) (by decide)
  rw [show underR aB bB = true by decide +kernel] at h2
  have h3 := binding_Right_pc (G := G) bB (by decide)
  rw [show bindOk bB = true by decide +kernel] at h3
  refine pc_proctorlaw05_awake (Runs.of fun Φ h => ?_)
  unfold c_proctorlaw05_awake
  simp only [slotsV, ofV, aB, bB, slotV, List.map_cons, List.map_nil, Option.getD_some, Option.isSome_some] at h1 h2 h3
  (try (simp -implicitDefEqProofs only [go_sem, Nat.reduceAdd, Nat.reduceSub, Nat.reduceMul, Nat.reduceLT, Nat.reduceLeDiff, Nat.reduceEqDiff, Nat.reduceBEq, Int.reduceNeg, Int.reduceAdd, Int.reduceLT, Int.reduceLE, Int.reduceToNat, Int.reduceEq, Int.reduceNe, Int.reduceBEq, Int.reduceBNe, Int.reduceMul, Int.reduceSub, reduceIte, reduceCtorEq])); repeat' ((first | refine at_guard (fun hb => ?_) (fun hb => ?_) | refine ⟨fun hb => ?_, fun hb => ?_⟩ | refine at_call (h1) rfl rfl ?_ | refine at_call (h2) rfl rfl ?_ | refine at_call (h3) rfl rfl ?_ | fail) <;> (try (simp -implicitDefEqProofs only [go_sem, Nat.reduceAdd, Nat.reduceSub, Nat.reduceMul, Nat.reduceLT, Nat.reduceLeDiff, Nat.reduceEqDiff, Nat.reduceBEq, Int.reduceNeg, Int.reduceAdd, Int.reduceLT, Int.reduceLE, Int.reduceToNat, Int.reduceEq, Int.reduceNe, Int.reduceBEq, Int.reduceBNe, Int.reduceMul, Int.reduceSub, reduceIte, reduceCtorEq])))
  all_goals first
    | exact h _ ⟨_, _, rfl, rfl, .refl _⟩
    | (exfalso; revert hb; decide)
def badS (m : List SlotT) (s : SlotT) : Bool := ((getR m s.var).2 && !decide ((getR m s.var).1 = s.value)) || (decide (s.var < 0) || (decide (7 < s.var) || !bindOk [s]))
def refGo : List SlotT → List SlotT → Option (List SlotT)
  | m, [] => some m
  | m, s :: l => if badS m s then none else refGo (unionR m [s]) l
end Go.Proofs.Ytngjjiblmpjbjaa.Ab
