/-
  errors.Is, eval.errno: contracts. eval.Guard, proctorref16.Guard. slices.Clone: a row of its own. eval.Sets, proctorref16.Sets. No claim is proved here.
-/
import Derived.Test.YtdfdiglnpekcpabDoorQK5
import Derived.Deep.Cut
import Derived.Outline
import Derived.WalkSpells
namespace Go.Proofs.YtdfdiglnpekcpabDoor.Ab
open Go Go.RowKit
set_option linter.unusedSimpArgs false
set_option maxHeartbeats 4000000
set_option maxRecDepth 100000
variable {G : Nat → Option AV}
theorem is_pc (a e k : Int) : PureC Tryd.prog G n_errors_Is [.iface t_eval_wrong (.agg [iv a, .iface t_api_Errno (iv e)]), .iface t_api_Errno (iv k)] (.bool (e == k)) := by
  refine PureC.of_calls fun w F vs hg ha => ⟨_, fun W F nm => .bool _ _, ?_⟩
  obtain ⟨x, y, rfl, h1, h2⟩ := argsR_two ha
  cases h1 with
  | iface _ _ _ u hu =>
    obtain ⟨us, rfl, hl, hr⟩ := rd_agg hu
    match us, hl with
    | [p, r], _ =>
      have g0 := hr 0 _ p rfl rfl
      have g1 := hr 1 _ r rfl rfl
      clear hr hu
      cases g0
      cases g1 with
      | iface _ _ _ z hz =>
        cases hz
        cases h2 with
        | iface _ _ _ z hz =>
          cases hz
          exact is_same e k (.int .i64 a) w
theorem errno_nil_pc : PureC Tryd.prog G n_eval_errno [.nili] (iv 0) := by
  have hc := as_nil_hc (G := G) (.agg [iv 0, .nili])
  refine pc_eval_errno (Runs.of fun Φ h => ?_)
  unfold c_eval_errno
  (try (simp -implicitDefEqProofs only [go_sem, Nat.reduceAdd, Nat.reduceSub, Nat.reduceMul, Nat.reduceLT, Nat.reduceLeDiff, Nat.reduceEqDiff, Nat.reduceBEq, Int.reduceNeg, Int.reduceAdd, Int.reduceLT, Int.reduceLE, Int.reduceToNat, Int.reduceEq, Int.reduceNe, Int.reduceBEq, Int.reduceBNe, Int.reduceMul, Int.reduceSub, reduceIte, reduceCtorEq])); repeat' ((first | refine at_guard (fun hb => ?_) (fun hb => ?_) | refine ⟨fun hb => ?_, fun hb => ?_⟩ | (refine at_callH [(1003, 3)] hc rfl ⟨⟨_, _, rfl, rfl, rfl⟩, trivial⟩ rfl rfl rfl ?_) | fail) <;> (try (simp -implicitDefEqProofs only [go_sem, Nat.reduceAdd, Nat.reduceSub, Nat.reduceMul, Nat.reduceLT, Nat.reduceLeDiff, Nat.reduceEqDiff, Nat.reduceBEq, Int.reduceNeg, Int.reduceAdd, Int.reduceLT, Int.reduceLE, Int.reduceToNat, Int.reduceEq, Int.reduceNe, Int.reduceBEq, Int.reduceBNe, Int.reduceMul, Int.reduceSub, reduceIte, reduceCtorEq])))
  exact h _ ⟨_, _, rfl, rfl, .refl _⟩
theorem errno_pc (hG : errG G) (a e : Int) (he : e = 3 ∨ e = 6 ∨ e = 7 ∨ e = 8 ∨ e = 9) : PureC Tryd.prog G n_eval_errno [wrongV a e] (iv e) := by
  have hc := as_hit_hc hG a e
  refine pc_eval_errno (Runs.of fun Φ h => ?_)
  unfold c_eval_errno
  (try (simp -implicitDefEqProofs only [go_sem, Nat.reduceAdd, Nat.reduceSub, Nat.reduceMul, Nat.reduceLT, Nat.reduceLeDiff, Nat.reduceEqDiff, Nat.reduceBEq, Int.reduceNeg, Int.reduceAdd, Int.reduceLT, Int.reduceLE, Int.reduceToNat, Int.reduceEq, Int.reduceNe, Int.reduceBEq, Int.reduceBNe, Int.reduceMul, Int.reduceSub, reduceIte, reduceCtorEq, wrongV])); repeat' ((first | refine at_guard (fun hb => ?_) (fun hb => ?_) | refine ⟨fun hb => ?_, fun hb => ?_⟩ | (refine at_callH [(1003, 3)] hc rfl ⟨⟨_, _, rfl, rfl, rfl⟩, trivial⟩ rfl rfl rfl ?_) | fail) <;> (try (simp -implicitDefEqProofs only [go_sem, Nat.reduceAdd, Nat.reduceSub, Nat.reduceMul, Nat.reduceLT, Nat.reduceLeDiff, Nat.reduceEqDiff, Nat.reduceBEq, Int.reduceNeg, Int.reduceAdd, Int.reduceLT, Int.reduceLE, Int.reduceToNat, Int.reduceEq, Int.reduceNe, Int.reduceBEq, Int.reduceBNe, Int.reduceMul, Int.reduceSub, reduceIte, reduceCtorEq, wrongV])))
  refine at_loop (fun n st => ∃ i : Nat, i + n = 4 ∧ st = ⟨23, [(3, .ref 3 0 0), (10, .arr 10 0 4), (11, iv 4), (12, iv i)], [(3, ⟨false, t_eval_wrong, 2, [.agg [iv a, .iface t_api_Errno (iv e)]]⟩), (10, ⟨true, t_api_Errno, 1, [iv 3, iv 6, iv 7, iv 9]⟩)]⟩ ∧ ∀ j x, j < i → ([3, 6, 7, 9] : List Int)[j]? = some x → ¬ e = x) 4 ⟨0, by simp, rfl, fun j x hj => by omega⟩ ?_
  rintro I hI n st ⟨i, hi, rfl, hno⟩
  have hi' : i = 0 ∨ i = 1 ∨ i = 2 ∨ i = 3 ∨ i = 4 := by omega
  have hnext : ∀ x, ([3, 6, 7, 9] : List Int)[i]? = some x → (e == x) = false → ∀ m : Nat, m = i + 1 → again I n ⟨23, [(3, .ref 3 0 0), (10, .arr 10 0 4), (11, iv 4), (12, iv m)], [(3, ⟨false, t_eval_wrong, 2, [.agg [iv a, .iface t_api_Errno (iv e)]]⟩), (10, ⟨true, t_api_Errno, 1, [iv 3, iv 6, iv 7, iv 9]⟩)]⟩ := fun x hx hv m hm => by
    have hlt := (List.getElem?_eq_some_iff.1 hx).1
    simp only [List.length_cons, List.length_nil] at hlt
    exact at_again (n - 1) (by omega) (hI _ _ ⟨m, by omega, rfl, fun j y hj hy => by
      by_cases e' : j = i
      · subst e'; rw [hx] at hy; cases hy; simpa using hv
      · exact hno j y (by omega) hy⟩)
  have hend : i = 4 → e = 8 := fun h4 => by
    subst h4
    have h0 := hno 0 3 (by omega) rfl
    have h1 := hno 1 6 (by omega) rfl
    have h2 := hno 2 7 (by omega) rfl
    have h3 := hno 3 9 (by omega) rfl
    omega
  clear hno hI
  have ad : ∀ (H : List (Nat × Box)) (j : Nat), hget H 10 = some ⟨true, t_api_Errno, 1, [iv 3, iv 6, iv 7, iv 9]⟩ → j < 4 → aiaddr H 1 (.arr 10 0 4) (.int .i64 (j : Int)) = some (.ref 10 j 0) := fun H j h1 h2 => by
    show (match hget H 10 with | some b => if b.sz = 1 ∧ 0 ≤ (j : Int) ∧ (j : Int) < (4 : Nat) then some (AV.ref 10 (0 + (j : Int).toNat) 0) else none | none => none) = _
    rw [h1]
    simp
    omega
  have c0 : ((0 : Nat) : Int) = 0 := rfl
  have c1 : ((1 : Nat) : Int) = 1 := rfl
  have c2 : ((2 : Nat) : Int) = 2 := rfl
  have c3 : ((3 : Nat) : Int) = 3 := rfl
  have c4 : ((4 : Nat) : Int) = 4 := rfl
  have w1 : IntKind.i64.wrap 1 = 1 := rfl
  have w2 : IntKind.i64.wrap 2 = 2 := rfl
  have w3 : IntKind.i64.wrap 3 = 3 := rfl
  have w4 : IntKind.i64.wrap 4 = 4 := rfl
  rcases hi' with rfl | rfl | rfl | rfl | rfl
  · cases hk : (e == 3) with
    | true =>
      have hs := is_pc (G := G) a e 3
      have ad := ad [(3, ⟨false, t_eval_wrong, 2, [.agg [iv a, .iface t_api_Errno (iv e)]]⟩), (10, ⟨true, t_api_Errno, 1, [iv 3, iv 6, iv 7, iv 9]⟩)] 0 rfl (by omega)
      rw [show ((0 : Nat) : Int) = 0 from rfl] at ad
      rw [hk] at hs
      (try (simp -implicitDefEqProofs only [go_sem, Nat.reduceAdd, Nat.reduceSub, Nat.reduceMul, Nat.reduceLT, Nat.reduceLeDiff, Nat.reduceEqDiff, Nat.reduceBEq, Int.reduceNeg, Int.reduceAdd, Int.reduceLT, Int.reduceLE, Int.reduceToNat, Int.reduceEq, Int.reduceNe, Int.reduceBEq, Int.reduceBNe, Int.reduceMul, Int.reduceSub, reduceIte, reduceCtorEq, c0, c1, c2, c3, c4, ad])); repeat' ((first | refine at_guard (fun hb => ?_) (fun hb => ?_) | refine ⟨fun hb => ?_, fun hb => ?_⟩ | refine at_call (hs) rfl rfl ?_ | fail) <;> (try (simp -implicitDefEqProofs only [go_sem, Nat.reduceAdd, Nat.reduceSub, Nat.reduceMul, Nat.reduceLT, Nat.reduceLeDiff, Nat.reduceEqDiff, Nat.reduceBEq, Int.reduceNeg, Int.reduceAdd, Int.reduceLT, Int.reduceLE, Int.reduceToNat, Int.reduceEq, Int.reduceNe, Int.reduceBEq, Int.reduceBNe, Int.reduceMul, Int.reduceSub, reduceIte, reduceCtorEq, c0, c1, c2, c3, c4, ad])))
      exact h _ ⟨_, _, rfl, rfl, fitI (eq_of_beq hk).symm⟩
    | false =>
      have hs := is_pc (G := G) a e 3
      have ad := ad [(3, ⟨false, t_eval_wrong, 2, [.agg [iv a, .iface t_api_Errno (iv e)]]⟩), (10, ⟨true, t_api_Errno, 1, [iv 3, iv 6, iv 7, iv 9]⟩)] 0 rfl (by omega)
      rw [show ((0 : Nat) : Int) = 0 from rfl] at ad
      rw [hk] at hs
      (try (simp -implicitDefEqProofs only [go_sem, Nat.reduceAdd, Nat.reduceSub, Nat.reduceMul, Nat.reduceLT, Nat.reduceLeDiff, Nat.reduceEqDiff, Nat.reduceBEq, Int.reduceNeg, Int.reduceAdd, Int.reduceLT, Int.reduceLE, Int.reduceToNat, Int.reduceEq, Int.reduceNe, Int.reduceBEq, Int.reduceBNe, Int.reduceMul, Int.reduceSub, reduceIte, reduceCtorEq, c0, c1, c2, c3, c4, ad, w1])); repeat' ((first | refine at_guard (fun hb => ?_) (fun hb => ?_) | refine ⟨fun hb => ?_, fun hb => ?_⟩ | refine at_call (hs) rfl rfl ?_ | fail) <;> (try (simp -implicitDefEqProofs only [go_sem, Nat.reduceAdd, Nat.reduceSub, Nat.reduceMul, Nat.reduceLT, Nat.reduceLeDiff, Nat.reduceEqDiff, Nat.reduceBEq, Int.reduceNeg, Int.reduceAdd, Int.reduceLT, Int.reduceLE, Int.reduceToNat, Int.reduceEq, Int.reduceNe, Int.reduceBEq, Int.reduceBNe, Int.reduceMul, Int.reduceSub, reduceIte, reduceCtorEq, c0, c1, c2, c3, c4, ad, w1])))
      exact hnext 3 rfl hk 1 rfl
  · cases hk : (e == 6) with
    | true =>
      have hs := is_pc (G := G) a e 6
      have ad := ad [(3, ⟨false, t_eval_wrong, 2, [.agg [iv a, .iface t_api_Errno (iv e)]]⟩), (10, ⟨true, t_api_Errno, 1, [iv 3, iv 6, iv 7, iv 9]⟩)] 1 rfl (by omega)
      rw [show ((1 : Nat) : Int) = 1 from rfl] at ad
      rw [hk] at hs
      (try (simp -implicitDefEqProofs only [go_sem, Nat.reduceAdd, Nat.reduceSub, Nat.reduceMul, Nat.reduceLT, Nat.reduceLeDiff, Nat.reduceEqDiff, Nat.reduceBEq, Int.reduceNeg, Int.reduceAdd, Int.reduceLT, Int.reduceLE, Int.reduceToNat, Int.reduceEq, Int.reduceNe, Int.reduceBEq, Int.reduceBNe, Int.reduceMul, Int.reduceSub, reduceIte, reduceCtorEq, c0, c1, c2, c3, c4, ad])); repeat' ((first | refine at_guard (fun hb => ?_) (fun hb => ?_) | refine ⟨fun hb => ?_, fun hb => ?_⟩ | refine at_call (hs) rfl rfl ?_ | fail) <;> (try (simp -implicitDefEqProofs only [go_sem, Nat.reduceAdd, Nat.reduceSub, Nat.reduceMul, Nat.reduceLT, Nat.reduceLeDiff, Nat.reduceEqDiff, Nat.reduceBEq, Int.reduceNeg, Int.reduceAdd, Int.reduceLT, Int.reduceLE, Int.reduceToNat, Int.reduceEq, Int.reduceNe, Int.reduceBEq, Int.reduceBNe, Int.reduceMul, Int.reduceSub, reduceIte, reduceCtorEq, c0, c1, c2, c3, c4, ad])))
      exact h _ ⟨_, _, rfl, rfl, fitI (eq_of_beq hk).symm⟩
    | false =>
      have hs := is_pc (G := G) a e 6
      have ad := ad [(3, ⟨false, t_eval_wrong, 2, [.agg [iv a, .iface t_api_Errno (iv e)]]⟩), (10, ⟨true, t_api_Errno, 1, [iv 3, iv 6, iv 7, iv 9]⟩)] 1 rfl (by omega)
      rw [show ((1 : Nat) : Int) = 1 from rfl] at ad
      rw [hk] at hs
      (try (simp -implicitDefEqProofs only [go_sem, Nat.reduceAdd, Nat.reduceSub, Nat.reduceMul, Nat.reduceLT, Nat.reduceLeDiff, Nat.reduceEqDiff, Nat.reduceBEq, Int.reduceNeg, Int.reduceAdd, Int.reduceLT, Int.reduceLE, Int.reduceToNat, Int.reduceEq, Int.reduceNe, Int.reduceBEq, Int.reduceBNe, Int.reduceMul, Int.reduceSub, reduceIte, reduceCtorEq, c0, c1, c2, c3, c4, ad, w2])); repeat' ((first | refine at_guard (fun hb => ?_) (fun hb => ?_) | refine ⟨fun hb => ?_, fun hb => ?_⟩ | refine at_call (hs) rfl rfl ?_ | fail) <;> (try (simp -implicitDefEqProofs only [go_sem, Nat.reduceAdd, Nat.reduceSub, Nat.reduceMul, Nat.reduceLT, Nat.reduceLeDiff, Nat.reduceEqDiff, Nat.reduceBEq, Int.reduceNeg, Int.reduceAdd, Int.reduceLT, Int.reduceLE, Int.reduceToNat, Int.reduceEq, Int.reduceNe, Int.reduceBEq, Int.reduceBNe, Int.reduceMul, Int.reduceSub, reduceIte, reduceCtorEq, c0, c1, c2, c3, c4, ad, w2])))
      exact hnext 6 rfl hk 2 rfl
  · cases hk : (e == 7) with
    | true =>
      have hs := is_pc (G := G) a e 7
      have ad := ad [(3, ⟨false, t_eval_wrong, 2, [.agg [iv a, .iface t_api_Errno (iv e)]]⟩), (10, ⟨true, t_api_Errno, 1, [iv 3, iv 6, iv 7, iv 9]⟩)] 2 rfl (by omega)
      rw [show ((2 : Nat) : Int) = 2 from rfl] at ad
      rw [hk] at hs
      (try (simp -implicitDefEqProofs only [go_sem, Nat.reduceAdd, Nat.reduceSub, Nat.reduceMul, Nat.reduceLT, Nat.reduceLeDiff, Nat.reduceEqDiff, Nat.reduceBEq, Int.reduceNeg, Int.reduceAdd, Int.reduceLT, Int.reduceLE, Int.reduceToNat, Int.reduceEq, Int.reduceNe, Int.reduceBEq, Int.reduceBNe, Int.reduceMul, Int.reduceSub, reduceIte, reduceCtorEq, c0, c1, c2, c3, c4, ad])); repeat' ((first | refine at_guard (fun hb => ?_) (fun hb => ?_) | refine ⟨fun hb => ?_, fun hb => ?_⟩ | refine at_call (hs) rfl rfl ?_ | fail) <;> (try (simp -implicitDefEqProofs only [go_sem, Nat.reduceAdd, Nat.reduceSub, Nat.reduceMul, Nat.reduceLT, Nat.reduceLeDiff, Nat.reduceEqDiff, Nat.reduceBEq, Int.reduceNeg, Int.reduceAdd, Int.reduceLT, Int.reduceLE, Int.reduceToNat, Int.reduceEq, Int.reduceNe, Int.reduceBEq, Int.reduceBNe, Int.reduceMul, Int.reduceSub, reduceIte, reduceCtorEq, c0, c1, c2, c3, c4, ad])))
      exact h _ ⟨_, _, rfl, rfl, fitI (eq_of_beq hk).symm⟩
    | false =>
      have hs := is_pc (G := G) a e 7
      have ad := ad [(3, ⟨false, t_eval_wrong, 2, [.agg [iv a, .iface t_api_Errno (iv e)]]⟩), (10, ⟨true, t_api_Errno, 1, [iv 3, iv 6, iv 7, iv 9]⟩)] 2 rfl (by omega)
      rw [show ((2 : Nat) : Int) = 2 from rfl] at ad
      rw [hk] at hs
      (try (simp -implicitDefEqProofs only [go_sem, Nat.reduceAdd, Nat.reduceSub, Nat.reduceMul, Nat.reduceLT, Nat.reduceLeDiff, Nat.reduceEqDiff, Nat.reduceBEq, Int.reduceNeg, Int.reduceAdd, Int.reduceLT, Int.reduceLE, Int.reduceToNat, Int.reduceEq, Int.reduceNe, Int.reduceBEq, Int.reduceBNe, Int.reduceMul, Int.reduceSub, reduceIte, reduceCtorEq, c0, c1, c2, c3, c4, ad, w3])); repeat' ((first | refine at_guard (fun hb => ?_) (fun hb => ?_) | refine ⟨fun hb => ?_, fun hb => ?_⟩ | refine at_call (hs) rfl rfl ?_ | fail) <;> (try (simp -implicitDefEqProofs only [go_sem, Nat.reduceAdd, Nat.reduceSub, Nat.reduceMul, Nat.reduceLT, Nat.reduceLeDiff, Nat.reduceEqDiff, Nat.reduceBEq, Int.reduceNeg, Int.reduceAdd, Int.reduceLT, Int.reduceLE, Int.reduceToNat, Int.reduceEq, Int.reduceNe, Int.reduceBEq, Int.reduceBNe, Int.reduceMul, Int.reduceSub, reduceIte, reduceCtorEq, c0, c1, c2, c3, c4, ad, w3])))
      exact hnext 7 rfl hk 3 rfl
  · cases hk : (e == 9) with
    | true =>
      have hs := is_pc (G := G) a e 9
      have ad := ad [(3, ⟨false, t_eval_wrong, 2, [.agg [iv a, .iface t_api_Errno (iv e)]]⟩), (10, ⟨true, t_api_Errno, 1, [iv 3, iv 6, iv 7, iv 9]⟩)] 3 rfl (by omega)
      rw [show ((3 : Nat) : Int) = 3 from rfl] at ad
      rw [hk] at hs
      (try (simp -implicitDefEqProofs only [go_sem, Nat.reduceAdd, Nat.reduceSub, Nat.reduceMul, Nat.reduceLT, Nat.reduceLeDiff, Nat.reduceEqDiff, Nat.reduceBEq, Int.reduceNeg, Int.reduceAdd, Int.reduceLT, Int.reduceLE, Int.reduceToNat, Int.reduceEq, Int.reduceNe, Int.reduceBEq, Int.reduceBNe, Int.reduceMul, Int.reduceSub, reduceIte, reduceCtorEq, c0, c1, c2, c3, c4, ad])); repeat' ((first | refine at_guard (fun hb => ?_) (fun hb => ?_) | refine ⟨fun hb => ?_, fun hb => ?_⟩ | refine at_call (hs) rfl rfl ?_ | fail) <;> (try (simp -implicitDefEqProofs only [go_sem, Nat.reduceAdd, Nat.reduceSub, Nat.reduceMul, Nat.reduceLT, Nat.reduceLeDiff, Nat.reduceEqDiff, Nat.reduceBEq, Int.reduceNeg, Int.reduceAdd, Int.reduceLT, Int.reduceLE, Int.reduceToNat, Int.reduceEq, Int.reduceNe, Int.reduceBEq, Int.reduceBNe, Int.reduceMul, Int.reduceSub, reduceIte, reduceCtorEq, c0, c1, c2, c3, c4, ad])))
      exact h _ ⟨_, _, rfl, rfl, fitI (eq_of_beq hk).symm⟩
    | false =>
      have hs := is_pc (G := G) a e 9
      have ad := ad [(3, ⟨false, t_eval_wrong, 2, [.agg [iv a, .iface t_api_Errno (iv e)]]⟩), (10, ⟨true, t_api_Errno, 1, [iv 3, iv 6, iv 7, iv 9]⟩)] 3 rfl (by omega)
      rw [show ((3 : Nat) : Int) = 3 from rfl] at ad
      rw [hk] at hs
      (try (simp -implicitDefEqProofs only [go_sem, Nat.reduceAdd, Nat.reduceSub, Nat.reduceMul, Nat.reduceLT, Nat.reduceLeDiff, Nat.reduceEqDiff, Nat.reduceBEq, Int.reduceNeg, Int.reduceAdd, Int.reduceLT, Int.reduceLE, Int.reduceToNat, Int.reduceEq, Int.reduceNe, Int.reduceBEq, Int.reduceBNe, Int.reduceMul, Int.reduceSub, reduceIte, reduceCtorEq, c0, c1, c2, c3, c4, ad, w4])); repeat' ((first | refine at_guard (fun hb => ?_) (fun hb => ?_) | refine ⟨fun hb => ?_, fun hb => ?_⟩ | refine at_call (hs) rfl rfl ?_ | fail) <;> (try (simp -implicitDefEqProofs only [go_sem, Nat.reduceAdd, Nat.reduceSub, Nat.reduceMul, Nat.reduceLT, Nat.reduceLeDiff, Nat.reduceEqDiff, Nat.reduceBEq, Int.reduceNeg, Int.reduceAdd, Int.reduceLT, Int.reduceLE, Int.reduceToNat, Int.reduceEq, Int.reduceNe, Int.reduceBEq, Int.reduceBNe, Int.reduceMul, Int.reduceSub, reduceIte, reduceCtorEq, c0, c1, c2, c3, c4, ad, w4])))
      exact hnext 9 rfl hk 4 rfl
  · (try (simp -implicitDefEqProofs only [go_sem, Nat.reduceAdd, Nat.reduceSub, Nat.reduceMul, Nat.reduceLT, Nat.reduceLeDiff, Nat.reduceEqDiff, Nat.reduceBEq, Int.reduceNeg, Int.reduceAdd, Int.reduceLT, Int.reduceLE, Int.reduceToNat, Int.reduceEq, Int.reduceNe, Int.reduceBEq, Int.reduceBNe, Int.reduceMul, Int.reduceSub, reduceIte, reduceCtorEq, c4])); repeat' ((first | refine at_guard (fun hb => ?_) (fun hb => ?_) | refine ⟨fun hb => ?_, fun hb => ?_⟩ | fail) <;> (try (simp -implicitDefEqProofs only [go_sem, Nat.reduceAdd, Nat.reduceSub, Nat.reduceMul, Nat.reduceLT, Nat.reduceLeDiff, Nat.reduceEqDiff, Nat.reduceBEq, Int.reduceNeg, Int.reduceAdd, Int.reduceLT, Int.reduceLE, Int.reduceToNat, Int.reduceEq, Int.reduceNe, Int.reduceBEq, Int.reduceBNe, Int.reduceMul, Int.reduceSub, reduceIte, reduceCtorEq, c4])))
    exact h _ ⟨_, _, rfl, rfl, fitI (hend rfl).symm⟩
end Go.Proofs.YtdfdiglnpekcpabDoor.Ab
namespace Go.Proofs.YtdfdiglnpekcpabDoor.Ab
open Go Go.RowKit
set_option linter.unusedSimpArgs false
set_option maxHeartbeats 4000000
set_option maxRecDepth 100000
variable {G : Nat → Option AV}
/-- What errno makes of what an expression comes to. -/
theorem errno_ev (hG : errG G) {r : Val × Int} (h : ROk r) (h0 : ¬ r.2 = 0) (a : Int) : PureC Tryd.prog G n_eval_errno [wrongV a r.2] (iv r.2) := by
  rcases h with ⟨h1, _⟩ | ⟨_, h1⟩
  · exact absurd h1 h0
  · exact errno_pc hG a r.2 h1
theorem ROk.none {r : Val × Int} (h : ROk r) (h0 : ¬ r.2 = 0) : r.1 = v0 := by
  rcases h with ⟨h1, _⟩ | ⟨h1, _⟩
  · exact absurd h1 h0
  · exact h1
def guardR (q : QeaT) (b : List SlotT) (vals : List Val) (t : TransT) : Bool × Int := if t.guard < 0 then (true, 0) else ((ev q b vals t.guard.toNat).1.bool, (ev q b vals t.guard.toNat).2)
theorem eval_Guard_pc (hG : errG G) {q : QeaT} {b : List SlotT} {vals : List Val} {S : Nat → Prop} (hS : Safe q S) (hE : Env q b vals) (hf : fitsR vals q.frees = true) (hl : q.frees.length < 9223372036854775807) (j : Nat) (t : TransT) (ht : q.trans[j]? = some t) (hs : 0 ≤ t.guard → S t.guard.toNat) :
    PureC Tryd.prog G n_eval_Guard [qeaV q, iv j, slotsV b, valsV vals] (.tup [.bool (guardR q b vals t).1, iv (guardR q b vals t).2]) := by
  have hfc := eval_Fits_pc (G := G) q vals (by have := hE.vl; omega) hl
  rw [hf] at hfc
  have hlt := (List.getElem?_eq_some_iff.1 ht).1
  have e1 : ((j : Int) < 0) = False := by simp
  have e2 : ((q.trans.length : Int) ≤ j) = False := by simp; omega
  simp only [qeaV, declsV, quantsV, freesV, statesV, symsV, nodesV, transsV, valsV] at hfc
  obtain ⟨t1, t2, t3, g, sets⟩ := t
  dsimp only at hs
  unfold guardR
  dsimp only
  by_cases hg : g < 0
  · rw [if_pos hg]
    have e3 : (g < 0) = True := by simp; exact hg
    refine pc_eval_Guard (Runs.of fun Φ h => ?_)
    unfold c_eval_Guard
    (try (simp -implicitDefEqProofs only [go_sem, Nat.reduceAdd, Nat.reduceSub, Nat.reduceMul, Nat.reduceLT, Nat.reduceLeDiff, Nat.reduceEqDiff, Nat.reduceBEq, Int.reduceNeg, Int.reduceAdd, Int.reduceLT, Int.reduceLE, Int.reduceToNat, Int.reduceEq, Int.reduceNe, Int.reduceBEq, Int.reduceBNe, Int.reduceMul, Int.reduceSub, reduceIte, reduceCtorEq, qeaV, declsV, quantsV, freesV, statesV, symsV, nodesV, transsV, valsV, slotsV, List.length_map, e1, e2, e3, decide_false, decide_true, aiaddr_map ht, transV, setsV])); repeat' ((first | refine at_guard (fun hb => ?_) (fun hb => ?_) | refine ⟨fun hb => ?_, fun hb => ?_⟩ | refine at_call (hfc) rfl rfl ?_ | fail) <;> (try (simp -implicitDefEqProofs only [go_sem, Nat.reduceAdd, Nat.reduceSub, Nat.reduceMul, Nat.reduceLT, Nat.reduceLeDiff, Nat.reduceEqDiff, Nat.reduceBEq, Int.reduceNeg, Int.reduceAdd, Int.reduceLT, Int.reduceLE, Int.reduceToNat, Int.reduceEq, Int.reduceNe, Int.reduceBEq, Int.reduceBNe, Int.reduceMul, Int.reduceSub, reduceIte, reduceCtorEq, qeaV, declsV, quantsV, freesV, statesV, symsV, nodesV, transsV, valsV, slotsV, List.length_map, e1, e2, e3, decide_false, decide_true, aiaddr_map ht, transV, setsV])))
    exact h _ ⟨_, _, rfl, rfl, .refl _⟩
  · rw [if_neg hg]
    have e3 : (g < 0) = False := by simp; omega
    obtain ⟨i, rfl⟩ : ∃ i : Nat, g = i := ⟨g.toNat, by omega⟩
    rw [Int.toNat_natCast] at hs ⊢
    have hi := hs (by omega)
    have hr := run_pc (node_pc hS hE i hi (G := G))
    have hok := ev_ok hS hE i hi
    have her := errno_ev hG hok
    have hno := hok.none
    generalize ev q b vals i = r at *
    obtain ⟨⟨k, n, s, bt⟩, e⟩ := r
    dsimp only at hr her hno ⊢
    by_cases h0 : e = 0
    · subst h0
      have hr := hr.1 rfl
      have her := errno_nil_pc (G := G)
      simp only [valV, frameV, qeaV, declsV, quantsV, freesV, statesV, symsV, nodesV, transsV, slotsV, valsV] at hr
      refine pc_eval_Guard (Runs.of fun Φ h => ?_)
      unfold c_eval_Guard
      (try (simp -implicitDefEqProofs only [go_sem, Nat.reduceAdd, Nat.reduceSub, Nat.reduceMul, Nat.reduceLT, Nat.reduceLeDiff, Nat.reduceEqDiff, Nat.reduceBEq, Int.reduceNeg, Int.reduceAdd, Int.reduceLT, Int.reduceLE, Int.reduceToNat, Int.reduceEq, Int.reduceNe, Int.reduceBEq, Int.reduceBNe, Int.reduceMul, Int.reduceSub, reduceIte, reduceCtorEq, qeaV, declsV, quantsV, freesV, statesV, symsV, nodesV, transsV, valsV, slotsV, List.length_map, e1, e2, e3, decide_false, aiaddr_map ht, transV, setsV])); repeat' ((first | refine at_guard (fun hb => ?_) (fun hb => ?_) | refine ⟨fun hb => ?_, fun hb => ?_⟩ | refine at_call (hfc) rfl rfl ?_ | refine at_call (hr) rfl rfl ?_ | refine at_call (her) rfl rfl ?_ | fail) <;> (try (simp -implicitDefEqProofs only [go_sem, Nat.reduceAdd, Nat.reduceSub, Nat.reduceMul, Nat.reduceLT, Nat.reduceLeDiff, Nat.reduceEqDiff, Nat.reduceBEq, Int.reduceNeg, Int.reduceAdd, Int.reduceLT, Int.reduceLE, Int.reduceToNat, Int.reduceEq, Int.reduceNe, Int.reduceBEq, Int.reduceBNe, Int.reduceMul, Int.reduceSub, reduceIte, reduceCtorEq, qeaV, declsV, quantsV, freesV, statesV, symsV, nodesV, transsV, valsV, slotsV, List.length_map, e1, e2, e3, decide_false, aiaddr_map ht, transV, setsV])))
      exact h _ ⟨_, _, rfl, rfl, .refl _⟩
    · obtain ⟨a, hr2⟩ := hr.2 h0
      have her2 := her h0 a
      have hno2 := hno h0
      clear hr her hno
      simp only [Val.mk.injEq] at hno2
      obtain ⟨rfl, rfl, rfl, rfl⟩ := hno2
      simp only [valV, frameV, qeaV, declsV, quantsV, freesV, statesV, symsV, nodesV, transsV, slotsV, valsV, wrongV] at hr2 her2
      refine pc_eval_Guard (Runs.of fun Φ h => ?_)
      unfold c_eval_Guard
      (try (simp -implicitDefEqProofs only [go_sem, Nat.reduceAdd, Nat.reduceSub, Nat.reduceMul, Nat.reduceLT, Nat.reduceLeDiff, Nat.reduceEqDiff, Nat.reduceBEq, Int.reduceNeg, Int.reduceAdd, Int.reduceLT, Int.reduceLE, Int.reduceToNat, Int.reduceEq, Int.reduceNe, Int.reduceBEq, Int.reduceBNe, Int.reduceMul, Int.reduceSub, reduceIte, reduceCtorEq, qeaV, declsV, quantsV, freesV, statesV, symsV, nodesV, transsV, valsV, slotsV, List.length_map, e1, e2, e3, decide_false, aiaddr_map ht, transV, setsV])); repeat' ((first | refine at_guard (fun hb => ?_) (fun hb => ?_) | refine ⟨fun hb => ?_, fun hb => ?_⟩ | refine at_call (hfc) rfl rfl ?_ | refine at_call (hr2) rfl rfl ?_ | refine at_call (her2) rfl rfl ?_ | fail) <;> (try (simp -implicitDefEqProofs only [go_sem, Nat.reduceAdd, Nat.reduceSub, Nat.reduceMul, Nat.reduceLT, Nat.reduceLeDiff, Nat.reduceEqDiff, Nat.reduceBEq, Int.reduceNeg, Int.reduceAdd, Int.reduceLT, Int.reduceLE, Int.reduceToNat, Int.reduceEq, Int.reduceNe, Int.reduceBEq, Int.reduceBNe, Int.reduceMul, Int.reduceSub, reduceIte, reduceCtorEq, qeaV, declsV, quantsV, freesV, statesV, symsV, nodesV, transsV, valsV, slotsV, List.length_map, e1, e2, e3, decide_false, aiaddr_map ht, transV, setsV])))
      exact h _ ⟨_, _, rfl, rfl, .refl _⟩
end Go.Proofs.YtdfdiglnpekcpabDoor.Ab
namespace Go.Proofs.YtdfdiglnpekcpabDoor.Ab
open Go Go.RowKit
set_option linter.unusedSimpArgs false
set_option maxHeartbeats 4000000
set_option maxRecDepth 100000
variable {G : Nat → Option AV}
end Go.Proofs.YtdfdiglnpekcpabDoor.Ab
namespace Go.Proofs.YtdfdiglnpekcpabDoor.Ab
open Go Go.RowKit
set_option linter.unusedSimpArgs false
set_option maxHeartbeats 4000000
set_option maxRecDepth 100000
variable {G : Nat → Option AV}
end Go.Proofs.YtdfdiglnpekcpabDoor.Ab
