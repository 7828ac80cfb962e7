/-
  errors.Is, eval.errno: contracts. No claim is proved here.
-/
import Derived.Test.YtdfdiglnpekcpabDoorWK5
namespace Go.Proofs.YtdfdiglnpekcpabDoor.Ab
open Nat renaming reduceAdd → zq0, reduceSub → zq1, reduceMul → zq2, reduceLT → zq3, reduceLeDiff → zq4, reduceEqDiff → zq5, reduceBEq → zq6
open Int renaming reduceNeg → zq7, reduceAdd → zq8, reduceLT → zq9, reduceLE → zq10, reduceToNat → zq11, reduceEq → zq12, reduceNe → zq13, reduceBEq → zq14, reduceBNe → zq15, reduceMul → zq16, reduceSub → zq17
open Go Go.RowKit
set_option linter.unusedSimpArgs false
set_option maxHeartbeats 4000000
set_option maxRecDepth 100000
variable {G : Nat → Option AV}
theorem is_pc (a e k : Int) : PureC Tryd.prog G n_errors_Is [.iface t_eval_wrong (.agg [iv a, .iface t_api_Errno (iv e)]), .iface t_api_Errno (iv k)] (.bool (e == k)) := by
  refine PureC.of_calls fun w F vs hg ha => ⟨_, fun W F nm => .bool _ _, ?_⟩
  obtain ⟨x, y, rfl, h1, h2⟩ := argsR_two ha
  cases h1 with
  | iface _ _ _ u hu =>
    obtain ⟨us, rfl, hl, hr⟩ := rd_agg hu
    match us, hl with
    | [p, r], _ =>
      have g0 := hr 0 _ p rfl rfl
      have g1 := hr 1 _ r rfl rfl
      clear hr hu
      cases g0
      cases g1 with
      | iface _ _ _ z hz =>
        cases hz
        cases h2 with
        | iface _ _ _ z hz =>
          cases hz
          exact is_same e k (.int .i64 a) w
theorem errno_nil_pc : PureC Tryd.prog G n_eval_errno [.nili] (iv 0) := by
  have hc := as_nil_hc (G := G) (.agg [iv 0, .nili])
  refine pc_eval_errno (Runs.of fun Φ h => ?_)
  unfold c_eval_errno
  (try (simp -implicitDefEqProofs only [go_sem, zq0, zq1, zq2, zq3, zq4, zq5, zq6, zq7, zq8, zq9, zq10, zq11, zq12, zq13, zq14, zq15, zq16, zq17, reduceIte, reduceCtorEq])); repeat' ((first | refine at_guard (fun hb => ?_) (fun hb => ?_) | refine ⟨fun hb => ?_, fun hb => ?_⟩ | (refine at_callH [(1003, 3)] hc rfl ⟨⟨_, _, rfl, rfl, rfl⟩, trivial⟩ rfl rfl rfl ?_) | fail) <;> (try (simp -implicitDefEqProofs only [go_sem, zq0, zq1, zq2, zq3, zq4, zq5, zq6, zq7, zq8, zq9, zq10, zq11, zq12, zq13, zq14, zq15, zq16, zq17, reduceIte, reduceCtorEq])))
  exact h _ ⟨_, _, rfl, rfl, .refl _⟩
theorem errno_pc (hG : errG G) (a e : Int) (he : e = 3 ∨ e = 6 ∨ e = 7 ∨ e = 8 ∨ e = 9) : PureC Tryd.prog G n_eval_errno [wrongV a e] (iv e) := by
  have hc := as_hit_hc hG a e
  refine pc_eval_errno (Runs.of fun Φ h => ?_)
  unfold c_eval_errno
  (try (simp -implicitDefEqProofs only [go_sem, zq0, zq1, zq2, zq3, zq4, zq5, zq6, zq7, zq8, zq9, zq10, zq11, zq12, zq13, zq14, zq15, zq16, zq17, reduceIte, reduceCtorEq, wrongV])); repeat' ((first | refine at_guard (fun hb => ?_) (fun hb => ?_) | refine ⟨fun hb => ?_, fun hb => ?_⟩ | (refine at_callH [(1003, 3)] hc rfl ⟨⟨_, _, rfl, rfl, rfl⟩, trivial⟩ rfl rfl rfl ?_) | fail) <;> (try (simp -implicitDefEqProofs only [go_sem, zq0, zq1, zq2, zq3, zq4, zq5, zq6, zq7, zq8, zq9, zq10, zq11, zq12, zq13, zq14, zq15, zq16, zq17, reduceIte, reduceCtorEq, wrongV])))
  refine at_loop (fun n st => ∃ i : Nat, i + n = 4 ∧ st = ⟨23, [(3, .ref 3 0 0), (10, .arr 10 0 4), (11, iv 4), (12, iv i)], [(3, ⟨false, t_eval_wrong, 2, [.agg [iv a, .iface t_api_Errno (iv e)]]⟩), (10, ⟨true, t_api_Errno, 1, [iv 3, iv 6, iv 7, iv 9]⟩)]⟩ ∧ ∀ j x, j < i → ([3, 6, 7, 9] : List Int)[j]? = some x → ¬ e = x) 4 ⟨0, by simp, rfl, fun j x hj => by omega⟩ ?_
  rintro I hI n st ⟨i, hi, rfl, hno⟩
  have hi' : i = 0 ∨ i = 1 ∨ i = 2 ∨ i = 3 ∨ i = 4 := by omega
  have hnext : ∀ x, ([3, 6, 7, 9] : List Int)[i]? = some x → (e == x) = false → ∀ m : Nat, m = i + 1 → again I n ⟨23, [(3, .ref 3 0 0), (10, .arr 10 0 4), (11, iv 4), (12, iv m)], [(3, ⟨false, t_eval_wrong, 2, [.agg [iv a, .iface t_api_Errno (iv e)]]⟩), (10, ⟨true, t_api_Errno, 1, [iv 3, iv 6, iv 7, iv 9]⟩)]⟩ := fun x hx hv m hm => by
    have hlt := (List.getElem?_eq_some_iff.1 hx).1
    simp only [List.length_cons, List.length_nil] at hlt
    exact at_again (n - 1) (by omega) (hI _ _ ⟨m, by omega, rfl, fun j y hj hy => by
      by_cases e' : j = i
      · subst e'; rw [hx] at hy; cases hy; simpa using hv
      · exact hno j y (by omega) hy⟩)
  have hend : i = 4 → e = 8 := fun h4 => by
    subst h4
    have h0 := hno 0 3 (by omega) rfl
    have h1 := hno 1 6 (by omega) rfl
    have h2 := hno 2 7 (by omega) rfl
    have h3 := hno 3 9 (by omega) rfl
    omega
  clear hno hI
  have ad : ∀ (H : List (Nat × Box)) (j : Nat), hget H 10 = some ⟨true, t_api_Errno, 1, [iv 3, iv 6, iv 7, iv 9]⟩ → j < 4 → aiaddr H 1 (.arr 10 0 4) (.int .i64 (j : Int)) = some (.ref 10 j 0) := fun H j h1 h2 => by
    show (match hget H 10 with | some b => if b.sz = 1 ∧ 0 ≤ (j : Int) ∧ (j : Int) < (4 : Nat) then some (AV.ref 10 (0 + (j : Int).toNat) 0) else none | none => none) = _
    rw [h1]
    simp
    omega
  have c0 : ((0 : Nat) : Int) = 0 := rfl
  have c1 : ((1 : Nat) : Int) = 1 := rfl
  have c2 : ((2 : Nat) : Int) = 2 := rfl
  have c3 : ((3 : Nat) : Int) = 3 := rfl
  have c4 : ((4 : Nat) : Int) = 4 := rfl
  have w1 : IntKind.i64.wrap 1 = 1 := rfl
  have w2 : IntKind.i64.wrap 2 = 2 := rfl
  have w3 : IntKind.i64.wrap 3 = 3 := rfl
  have w4 : IntKind.i64.wrap 4 = 4 := rfl
  rcases hi' with rfl | rfl | rfl | rfl | rfl
  · cases hk : (e == 3) with
    | true =>
      have hs := is_pc (G := G) a e 3
      have ad := ad [(3, ⟨false, t_eval_wrong, 2, [.agg [iv a, .iface t_api_Errno (iv e)]]⟩), (10, ⟨true, t_api_Errno, 1, [iv 3, iv 6, iv 7, iv 9]⟩)] 0 rfl (by omega)
      rw [show ((0 : Nat) : Int) = 0 from rfl] at ad
      rw [hk] at hs
      (try (simp -implicitDefEqProofs only [go_sem, zq0, zq1, zq2, zq3, zq4, zq5, zq6, zq7, zq8, zq9, zq10, zq11, zq12, zq13, zq14, zq15, zq16, zq17, reduceIte, reduceCtorEq, c0, c1, c2, c3, c4, ad])); repeat' ((first | refine at_guard (fun hb => ?_) (fun hb => ?_) | refine ⟨fun hb => ?_, fun hb => ?_⟩ | refine at_call (hs) rfl rfl ?_ | fail) <;> (try (simp -implicitDefEqProofs only [go_sem, zq0, zq1, zq2, zq3, zq4, zq5, zq6, zq7, zq8, zq9, zq10, zq11, zq12, zq13, zq14, zq15, zq16, zq17, reduceIte, reduceCtorEq, c0, c1, c2, c3, c4, ad])))
      exact h _ ⟨_, _, rfl, rfl, fitI (eq_of_beq hk).symm⟩
    | false =>
      have hs := is_pc (G := G) a e 3
      have ad := ad [(3, ⟨false, t_eval_wrong, 2, [.agg [iv a, .iface t_api_Errno (iv e)]]⟩), (10, ⟨true, t_api_Errno, 1, [iv 3, iv 6, iv 7, iv 9]⟩)] 0 rfl (by omega)
      rw [show ((0 : Nat) : Int) = 0 from rfl] at ad
      rw [hk] at hs
      (try (simp -implicitDefEqProofs only [go_sem, zq0, zq1, zq2, zq3, zq4, zq5, zq6, zq7, zq8, zq9, zq10, zq11, zq12, zq13, zq14, zq15, zq16, zq17, reduceIte, reduceCtorEq, c0, c1, c2, c3, c4, ad, w1])); repeat' ((first | refine at_guard (fun hb => ?_) (fun hb => ?_) | refine ⟨fun hb => ?_, fun hb => ?_⟩ | refine at_call (hs) rfl rfl ?_ | fail) <;> (try (simp -implicitDefEqProofs only [go_sem, zq0, zq1, zq2, zq3, zq4, zq5, zq6, zq7, zq8, zq9, zq10, zq11, zq12, zq13, zq14, zq15, zq16, zq17, reduceIte, reduceCtorEq, c0, c1, c2, c3, c4, ad, w1])))
      exact hnext 3 rfl hk 1 rfl
  · cases hk : (e == 6) with
    | true =>
      have hs := is_pc (G := G) a e 6
      have ad := ad [(3, ⟨false, t_eval_wrong, 2, [.agg [iv a, .iface t_api_Errno (iv e)]]⟩), (10, ⟨true, t_api_Errno, 1, [iv 3, iv 6, iv 7, iv 9]⟩)] 1 rfl (by omega)
      rw [show ((1 : Nat) : Int) = 1 from rfl] at ad
      rw [hk] at hs
      (try (simp -implicitDefEqProofs only [go_sem, zq0, zq1, zq2, zq3, zq4, zq5, zq6, zq7, zq8, zq9, zq10, zq11, zq12, zq13, zq14, zq15, zq16, zq17, reduceIte, reduceCtorEq, c0, c1, c2, c3, c4, ad])); repeat' ((first | refine at_guard (fun hb => ?_) (fun hb => ?_) | refine ⟨fun hb => ?_, fun hb => ?_⟩ | refine at_call (hs) rfl rfl ?_ | fail) <;> (try (simp -implicitDefEqProofs only [go_sem, zq0, zq1, zq2, zq3, zq4, zq5, zq6, zq7, zq8, zq9, zq10, zq11, zq12, zq13, zq14, zq15, zq16, zq17, reduceIte, reduceCtorEq, c0, c1, c2, c3, c4, ad])))
      exact h _ ⟨_, _, rfl, rfl, fitI (eq_of_beq hk).symm⟩
    | false =>
      have hs := is_pc (G := G) a e 6
      have ad := ad [(3, ⟨false, t_eval_wrong, 2, [.agg [iv a, .iface t_api_Errno (iv e)]]⟩), (10, ⟨true, t_api_Errno, 1, [iv 3, iv 6, iv 7, iv 9]⟩)] 1 rfl (by omega)
      rw [show ((1 : Nat) : Int) = 1 from rfl] at ad
      rw [hk] at hs
      (try (simp -implicitDefEqProofs only [go_sem, zq0, zq1, zq2, zq3, zq4, zq5, zq6, zq7, zq8, zq9, zq10, zq11, zq12, zq13, zq14, zq15, zq16, zq17, reduceIte, reduceCtorEq, c0, c1, c2, c3, c4, ad, w2])); repeat' ((first | refine at_guard (fun hb => ?_) (fun hb => ?_) | refine ⟨fun hb => ?_, fun hb => ?_⟩ | refine at_call (hs) rfl rfl ?_ | fail) <;> (try (simp -implicitDefEqProofs only [go_sem, zq0, zq1, zq2, zq3, zq4, zq5, zq6, zq7, zq8, zq9, zq10, zq11, zq12, zq13, zq14, zq15, zq16, zq17, reduceIte, reduceCtorEq, c0, c1, c2, c3, c4, ad, w2])))
      exact hnext 6 rfl hk 2 rfl
  · cases hk : (e == 7) with
    | true =>
      have hs := is_pc (G := G) a e 7
      have ad := ad [(3, ⟨false, t_eval_wrong, 2, [.agg [iv a, .iface t_api_Errno (iv e)]]⟩), (10, ⟨true, t_api_Errno, 1, [iv 3, iv 6, iv 7, iv 9]⟩)] 2 rfl (by omega)
      rw [show ((2 : Nat) : Int) = 2 from rfl] at ad
      rw [hk] at hs
      (try (simp -implicitDefEqProofs only [go_sem, zq0, zq1, zq2, zq3, zq4, zq5, zq6, zq7, zq8, zq9, zq10, zq11, zq12, zq13, zq14, zq15, zq16, zq17, reduceIte, reduceCtorEq, c0, c1, c2, c3, c4, ad])); repeat' ((first | refine at_guard (fun hb => ?_) (fun hb => ?_) | refine ⟨fun hb => ?_, fun hb => ?_⟩ | refine at_call (hs) rfl rfl ?_ | fail) <;> (try (simp -implicitDefEqProofs only [go_sem, zq0, zq1, zq2, zq3, zq4, zq5, zq6, zq7, zq8, zq9, zq10, zq11, zq12, zq13, zq14, zq15, zq16, zq17, reduceIte, reduceCtorEq, c0, c1, c2, c3, c4, ad])))
      exact h _ ⟨_, _, rfl, rfl, fitI (eq_of_beq hk).symm⟩
    | false =>
      have hs := is_pc (G := G) a e 7
      have ad := ad [(3, ⟨false, t_eval_wrong, 2, [.agg [iv a, .iface t_api_Errno (iv e)]]⟩), (10, ⟨true, t_api_Errno, 1, [iv 3, iv 6, iv 7, iv 9]⟩)] 2 rfl (by omega)
      rw [show ((2 : Nat) : Int) = 2 from rfl] at ad
      rw [hk] at hs
      (try (simp -implicitDefEqProofs only [go_sem, zq0, zq1, zq2, zq3, zq4, zq5, zq6, zq7, zq8, zq9, zq10, zq11, zq12, zq13, zq14, zq15, zq16, zq17, reduceIte, reduceCtorEq, c0, c1, c2, c3, c4, ad, w3])); repeat' ((first | refine at_guard (fun hb => ?_) (fun hb => ?_) | refine ⟨fun hb => ?_, fun hb => ?_⟩ | refine at_call (hs) rfl rfl ?_ | fail) <;> (try (simp -implicitDefEqProofs only [go_sem, zq0, zq1, zq2, zq3, zq4, zq5, zq6, zq7, zq8, zq9, zq10, zq11, zq12, zq13, zq14, zq15, zq16, zq17, reduceIte, reduceCtorEq, c0, c1, c2, c3, c4, ad, w3])))
      exact hnext 7 rfl hk 3 rfl
  · cases hk : (e == 9) with
    | true =>
      have hs := is_pc (G := G) a e 9
      have ad := ad [(3, ⟨false, t_eval_wrong, 2, [.agg [iv a, .iface t_api_Errno (iv e)]]⟩), (10, ⟨true, t_api_Errno, 1, [iv 3, iv 6, iv 7, iv 9]⟩)] 3 rfl (by omega)
      rw [show ((3 : Nat) : Int) = 3 from rfl] at ad
      rw [hk] at hs
      (try (simp -implicitDefEqProofs only [go_sem, zq0, zq1, zq2, zq3, zq4, zq5, zq6, zq7, zq8, zq9, zq10, zq11, zq12, zq13, zq14, zq15, zq16, zq17, reduceIte, reduceCtorEq, c0, c1, c2, c3, c4, ad])); repeat' ((first | refine at_guard (fun hb => ?_) (fun hb => ?_) | refine ⟨fun hb => ?_, fun hb => ?_⟩ | refine at_call (hs) rfl rfl ?_ | fail) <;> (try (simp -implicitDefEqProofs only [go_sem, zq0, zq1, zq2, zq3, zq4, zq5, zq6, zq7, zq8, zq9, zq10, zq11, zq12, zq13, zq14, zq15, zq16, zq17, reduceIte, reduceCtorEq, c0, c1, c2, c3, c4, ad])))
      exact h _ ⟨_, _, rfl, rfl, fitI (eq_of_beq hk).symm⟩
    | false =>
      have hs := is_pc (G := G) a e 9
      have ad := ad [(3, ⟨false, t_eval_wrong, 2, [.agg [iv a, .iface t_api_Errno (iv e)]]⟩), (10, ⟨true, t_api_Errno, 1, [iv 3, iv 6, iv 7, iv 9]⟩)] 3 rfl (by omega)
      rw [show ((3 : Nat) : Int) = 3 from rfl] at ad
      rw [hk] at hs
      (try (simp -implicitDefEqProofs only [go_sem, zq0, zq1, zq2, zq3, zq4, zq5, zq6, zq7, zq8, zq9, zq10, zq11, zq12, zq13, zq14, zq15, zq16, zq17, reduceIte, reduceCtorEq, c0, c1, c2, c3, c4, ad, w4])); repeat' ((first | refine at_guard (fun hb => ?_) (fun hb => ?_) | refine ⟨fun hb => ?_, fun hb => ?_⟩ | refine at_call (hs) rfl rfl ?_ | fail) <;> (try (simp -implicitDefEqProofs only [go_sem, zq0, zq1, zq2, zq3, zq4, zq5, zq6, zq7, zq8, zq9, zq10, zq11, zq12, zq13, zq14, zq15, zq16, zq17, reduceIte, reduceCtorEq, c0, c1, c2, c3, c4, ad, w4])))
      exact hnext 9 rfl hk 4 rfl
  · (try (simp -implicitDefEqProofs only [go_sem, zq0, zq1, zq2, zq3, zq4, zq5, zq6, zq7, zq8, zq9, zq10, zq11, zq12, zq13, zq14, zq15, zq16, zq17, reduceIte, reduceCtorEq, c4])); repeat' ((first | refine at_guard (fun hb => ?_) (fun hb => ?_) | refine ⟨fun hb => ?_, fun hb => ?_⟩ | fail) <;> (try (simp -implicitDefEqProofs only [go_sem, zq0, zq1, zq2, zq3, zq4, zq5, zq6, zq7, zq8, zq9, zq10, zq11, zq12, zq13, zq14, zq15, zq16, zq17, reduceIte, reduceCtorEq, c4])))
    exact h _ ⟨_, _, rfl, rfl, fitI (hend rfl).symm⟩
end Go.Proofs.YtdfdiglnpekcpabDoor.Ab
