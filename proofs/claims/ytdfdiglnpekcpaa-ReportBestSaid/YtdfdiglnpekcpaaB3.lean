/-
  report.Best and report.Worst: what they hand back. No claim is proved here.
-/
import Derived.Test.YtdfdiglnpekcpaaB2
namespace Go.Proofs.Ytdfdiglnpekcpaa.Ab
open Go
set_option linter.unusedSimpArgs false

/-- The place of the best of the first i. -/
def bestAt {α : Type} (bet : α → α → Bool) (l : List α) : Nat → Option Nat
  | 0 => none
  | i + 1 => match bestAt bet l i, l[i]? with
    | none, _ => some i
    | some p, some x => match l[p]? with
      | some y => if bet x y then some i else some p
      | none => some p
    | some p, none => some p
def place : Option Nat → Int
  | none => -1
  | some p => p

theorem bestAt_lt {α : Type} (bet : α → α → Bool) (l : List α) : ∀ i p, bestAt bet l i = some p → p < i
  | 0, p, h => by simp [bestAt] at h
  | i + 1, p, h => by
    have ih := bestAt_lt bet l i
    simp only [bestAt] at h
    split at h
    · cases h; omega
    · rename_i p' x e1 e2
      have := ih p' e1
      split at h
      · split at h <;> cases h <;> omega
      · cases h; omega
    · rename_i p' e1 e2
      have := ih p' e1
      cases h; omega
theorem Best_int_pc (bet : Int → Int → Bool) (f : Nat) (hf : bodyB Try.prog f = true) (hb : ∀ a b, PureC Try.prog G1 f [iv a, iv b] (.bool (bet a b))) (l : List Int) (hl : l.length < 9223372036854775807) :
    PureC Try.prog G1 n_report_Best_int [ivs l, .fn f []] (iv (place (bestAt bet l l.length))) := by
  refine pc_report_Best_int (Runs.of fun Φ h => ?_)
  unfold c_report_Best_int
  simp -implicitDefEqProofs only [go_sem, Nat.reduceAdd, Nat.reduceSub, Nat.reduceMul, Nat.reduceLT, Nat.reduceLeDiff, Nat.reduceEqDiff, Nat.reduceBEq, Nat.add_zero, Nat.zero_add, Int.reduceNeg, Int.reduceAdd, Int.reduceLT, Int.reduceLE, Int.reduceToNat, Int.reduceEq, Int.reduceNe, Int.reduceBEq, Int.reduceBNe, Int.reduceMul, Int.reduceSub, Int.toNat_natCast, Int.toNat_zero, Int.natCast_nonneg, reduceIte, reduceCtorEq, and_self, and_true, true_and, ne_eq, not_false_eq_true, not_true_eq_false, List.length_cons, List.length_nil, List.drop_zero, List.drop_succ_cons, List.take_succ_cons, List.take_zero, List.all_cons, List.all_nil, List.getElem?_cons_zero, List.getElem?_cons_succ, List.set_cons_zero, List.nil_append, List.cons_append, List.append_nil, Option.bind_some, Option.map_some, Option.some.injEq, Option.getD_some, Option.getD_none, Option.map_none, Bool.and_self, Bool.and_true, Bool.true_and, Bool.not_true, beq_true, beq_false, Bool.true_beq, Bool.false_beq, bne_self_eq_false, Bool.not_false, Bool.false_eq_true, if_true, if_false, forall_const, true_implies, false_implies, implies_true, beq_self_eq_true, BEq.rfl, decide_true, decide_false, decide_eq_true_eq, decide_eq_false_iff_not, Bool.and_eq_true, List.map_cons, List.map_nil, List.zip_cons_cons, List.zip_nil_left, List.zip_nil_right, List.replicate_succ, List.replicate_zero, List.set_cons_succ, ivs, List.length_map]
  refine at_loop (fun n st => ∃ i : Nat, i + n = l.length ∧ st = ⟨29, [(0, ivs l), (1, .fn f []), (5, iv (place (bestAt bet l i))), (8, ivs l), (9, iv l.length), (10, iv i)], []⟩) l.length ⟨0, by simp, rfl⟩ ?_
  rintro I hI n st ⟨i, hi, rfl⟩
  simp -implicitDefEqProofs only [go_sem, Nat.reduceAdd, Nat.reduceSub, Nat.reduceMul, Nat.reduceLT, Nat.reduceLeDiff, Nat.reduceEqDiff, Nat.reduceBEq, Nat.add_zero, Nat.zero_add, Int.reduceNeg, Int.reduceAdd, Int.reduceLT, Int.reduceLE, Int.reduceToNat, Int.reduceEq, Int.reduceNe, Int.reduceBEq, Int.reduceBNe, Int.reduceMul, Int.reduceSub, Int.toNat_natCast, Int.toNat_zero, Int.natCast_nonneg, reduceIte, reduceCtorEq, and_self, and_true, true_and, ne_eq, not_false_eq_true, not_true_eq_false, List.length_cons, List.length_nil, List.drop_zero, List.drop_succ_cons, List.take_succ_cons, List.take_zero, List.all_cons, List.all_nil, List.getElem?_cons_zero, List.getElem?_cons_succ, List.set_cons_zero, List.nil_append, List.cons_append, List.append_nil, Option.bind_some, Option.map_some, Option.some.injEq, Option.getD_some, Option.getD_none, Option.map_none, Bool.and_self, Bool.and_true, Bool.true_and, Bool.not_true, beq_true, beq_false, Bool.true_beq, Bool.false_beq, bne_self_eq_false, Bool.not_false, Bool.false_eq_true, if_true, if_false, forall_const, true_implies, false_implies, implies_true, beq_self_eq_true, BEq.rfl, decide_true, decide_false, decide_eq_true_eq, decide_eq_false_iff_not, Bool.and_eq_true, List.map_cons, List.map_nil, List.zip_cons_cons, List.zip_nil_left, List.zip_nil_right, List.replicate_succ, List.replicate_zero, List.set_cons_succ, ivs]
  refine ⟨fun hlt => ?_, fun hge => ?_⟩
  · have hlt' : i < l.length := by omega
    obtain ⟨x, hx⟩ : ∃ x, l[i]? = some x := ⟨l[i], List.getElem?_eq_getElem hlt'⟩
    have hw : IntKind.i64.wrap ((i : Int) + 1) = ((i + 1 : Nat) : Int) := by rw [wrap_i64 (by omega) (by omega)]; omega
    have fin : ∀ v : Int, v = place (bestAt bet l (i + 1)) → again I n ⟨29, [(0, .seq 1 (l.map iv)), (1, .fn f []), (5, iv v), (8, .seq 1 (l.map iv)), (9, iv l.length), (10, iv (i + 1 : Nat))], []⟩ := by
      rintro v rfl
      exact at_again (n - 1) (by omega) (hI _ _ ⟨i + 1, by omega, rfl⟩)
    simp -implicitDefEqProofs only [go_sem, Nat.reduceAdd, Nat.reduceSub, Nat.reduceMul, Nat.reduceLT, Nat.reduceLeDiff, Nat.reduceEqDiff, Nat.reduceBEq, Nat.add_zero, Nat.zero_add, Int.reduceNeg, Int.reduceAdd, Int.reduceLT, Int.reduceLE, Int.reduceToNat, Int.reduceEq, Int.reduceNe, Int.reduceBEq, Int.reduceBNe, Int.reduceMul, Int.reduceSub, Int.toNat_natCast, Int.toNat_zero, Int.natCast_nonneg, reduceIte, reduceCtorEq, and_self, and_true, true_and, ne_eq, not_false_eq_true, not_true_eq_false, List.length_cons, List.length_nil, List.drop_zero, List.drop_succ_cons, List.take_succ_cons, List.take_zero, List.all_cons, List.all_nil, List.getElem?_cons_zero, List.getElem?_cons_succ, List.set_cons_zero, List.nil_append, List.cons_append, List.append_nil, Option.bind_some, Option.map_some, Option.some.injEq, Option.getD_some, Option.getD_none, Option.map_none, Bool.and_self, Bool.and_true, Bool.true_and, Bool.not_true, beq_true, beq_false, Bool.true_beq, Bool.false_beq, bne_self_eq_false, Bool.not_false, Bool.false_eq_true, if_true, if_false, forall_const, true_implies, false_implies, implies_true, beq_self_eq_true, BEq.rfl, decide_true, decide_false, decide_eq_true_eq, decide_eq_false_iff_not, Bool.and_eq_true, List.map_cons, List.map_nil, List.zip_cons_cons, List.zip_nil_left, List.zip_nil_right, List.replicate_succ, List.replicate_zero, List.set_cons_succ, aiaddr_ivs hx]
    cases hp : bestAt bet l i with
    | none =>
      have hn : bestAt bet l (i + 1) = some i := by simp [bestAt, hp]
      simp -implicitDefEqProofs only [go_sem, Nat.reduceAdd, Nat.reduceSub, Nat.reduceMul, Nat.reduceLT, Nat.reduceLeDiff, Nat.reduceEqDiff, Nat.reduceBEq, Nat.add_zero, Nat.zero_add, Int.reduceNeg, Int.reduceAdd, Int.reduceLT, Int.reduceLE, Int.reduceToNat, Int.reduceEq, Int.reduceNe, Int.reduceBEq, Int.reduceBNe, Int.reduceMul, Int.reduceSub, Int.toNat_natCast, Int.toNat_zero, Int.natCast_nonneg, reduceIte, reduceCtorEq, and_self, and_true, true_and, ne_eq, not_false_eq_true, not_true_eq_false, List.length_cons, List.length_nil, List.drop_zero, List.drop_succ_cons, List.take_succ_cons, List.take_zero, List.all_cons, List.all_nil, List.getElem?_cons_zero, List.getElem?_cons_succ, List.set_cons_zero, List.nil_append, List.cons_append, List.append_nil, Option.bind_some, Option.map_some, Option.some.injEq, Option.getD_some, Option.getD_none, Option.map_none, Bool.and_self, Bool.and_true, Bool.true_and, Bool.not_true, beq_true, beq_false, Bool.true_beq, Bool.false_beq, bne_self_eq_false, Bool.not_false, Bool.false_eq_true, if_true, if_false, forall_const, true_implies, false_implies, implies_true, beq_self_eq_true, BEq.rfl, decide_true, decide_false, decide_eq_true_eq, decide_eq_false_iff_not, Bool.and_eq_true, List.map_cons, List.map_nil, List.zip_cons_cons, List.zip_nil_left, List.zip_nil_right, List.replicate_succ, List.replicate_zero, List.set_cons_succ, place, hw]
      exact fin _ (by rw [hn]; rfl)
    | some p =>
      have hpi := bestAt_lt bet l i p hp
      obtain ⟨y, hy⟩ : ∃ y, l[p]? = some y := ⟨l[p], List.getElem?_eq_getElem (by omega)⟩
      have hn : bestAt bet l (i + 1) = if bet x y then some i else some p := by simp [bestAt, hp, hx, hy]
      have h0 : ¬ ((p : Int) < 0) := by omega
      simp -implicitDefEqProofs only [go_sem, Nat.reduceAdd, Nat.reduceSub, Nat.reduceMul, Nat.reduceLT, Nat.reduceLeDiff, Nat.reduceEqDiff, Nat.reduceBEq, Nat.add_zero, Nat.zero_add, Int.reduceNeg, Int.reduceAdd, Int.reduceLT, Int.reduceLE, Int.reduceToNat, Int.reduceEq, Int.reduceNe, Int.reduceBEq, Int.reduceBNe, Int.reduceMul, Int.reduceSub, Int.toNat_natCast, Int.toNat_zero, Int.natCast_nonneg, reduceIte, reduceCtorEq, and_self, and_true, true_and, ne_eq, not_false_eq_true, not_true_eq_false, List.length_cons, List.length_nil, List.drop_zero, List.drop_succ_cons, List.take_succ_cons, List.take_zero, List.all_cons, List.all_nil, List.getElem?_cons_zero, List.getElem?_cons_succ, List.set_cons_zero, List.nil_append, List.cons_append, List.append_nil, Option.bind_some, Option.map_some, Option.some.injEq, Option.getD_some, Option.getD_none, Option.map_none, Bool.and_self, Bool.and_true, Bool.true_and, Bool.not_true, beq_true, beq_false, Bool.true_beq, Bool.false_beq, bne_self_eq_false, Bool.not_false, Bool.false_eq_true, if_true, if_false, forall_const, true_implies, false_implies, implies_true, beq_self_eq_true, BEq.rfl, decide_true, decide_false, decide_eq_true_eq, decide_eq_false_iff_not, Bool.and_eq_true, List.map_cons, List.map_nil, List.zip_cons_cons, List.zip_nil_left, List.zip_nil_right, List.replicate_succ, List.replicate_zero, List.set_cons_succ, place, h0, aiaddr_ivs hy]
      refine ⟨hf, at_call (hb x y) rfl rfl ?_⟩
      cases hB : bet x y
      all_goals rw [hB] at hn
      all_goals simp -implicitDefEqProofs only [go_sem, Nat.reduceAdd, Nat.reduceSub, Nat.reduceMul, Nat.reduceLT, Nat.reduceLeDiff, Nat.reduceEqDiff, Nat.reduceBEq, Nat.add_zero, Nat.zero_add, Int.reduceNeg, Int.reduceAdd, Int.reduceLT, Int.reduceLE, Int.reduceToNat, Int.reduceEq, Int.reduceNe, Int.reduceBEq, Int.reduceBNe, Int.reduceMul, Int.reduceSub, Int.toNat_natCast, Int.toNat_zero, Int.natCast_nonneg, reduceIte, reduceCtorEq, and_self, and_true, true_and, ne_eq, not_false_eq_true, not_true_eq_false, List.length_cons, List.length_nil, List.drop_zero, List.drop_succ_cons, List.take_succ_cons, List.take_zero, List.all_cons, List.all_nil, List.getElem?_cons_zero, List.getElem?_cons_succ, List.set_cons_zero, List.nil_append, List.cons_append, List.append_nil, Option.bind_some, Option.map_some, Option.some.injEq, Option.getD_some, Option.getD_none, Option.map_none, Bool.and_self, Bool.and_true, Bool.true_and, Bool.not_true, beq_true, beq_false, Bool.true_beq, Bool.false_beq, bne_self_eq_false, Bool.not_false, Bool.false_eq_true, if_true, if_false, forall_const, true_implies, false_implies, implies_true, beq_self_eq_true, BEq.rfl, decide_true, decide_false, decide_eq_true_eq, decide_eq_false_iff_not, Bool.and_eq_true, List.map_cons, List.map_nil, List.zip_cons_cons, List.zip_nil_left, List.zip_nil_right, List.replicate_succ, List.replicate_zero, List.set_cons_succ, hw]
      all_goals exact fin _ (by rw [hn]; rfl)
  · have : i = l.length := by omega
    subst this
    exact h _ ⟨_, _, rfl, rfl, .refl _⟩
end Go.Proofs.Ytdfdiglnpekcpaa.Ab
