/-
  Numbers as texts; the library's texts, by the shelf's contracts: strconv.FormatInt, strings.Builder; report's texts. No claim is proved here.
-/
import Derived.Test.YtdfdiglnpekcpaaDoorB2
import Derived.Test.YtdfdiglnpekcpaaDoorN0
import Derived.Test.YtdfdiglnpekcpaaDoorShelf
import Derived.WalkKit
import Derived.Lib.Builder
import Derived.Lib.Walk
import Derived.Test.YtdfdiglnpekcpaaDoorAbTrod
import Derived.Lib.AppendStr
import Derived.Lib.AppendIntMem
namespace Go.Proofs.YtdfdiglnpekcpaaDoor.Ab
open Go
set_option linter.unusedSimpArgs false
set_option maxHeartbeats 4000000
section
variable {G : Nat → Option AV}
theorem ref01_Text_pc : ∀ (k : Nat) (n : Int), n.natAbs < k → i64 n → PureC Tryd.prog G n_proctorref01_Text [iv n] (.str (Lib.itoa n))
  | 0, n, h, _ => absurd h (by omega)
  | k + 1, n, hk, hn => by
    have hn' := hn
    unfold i64 at hn'
    have hlen := itoa_len hn
    refine pc_proctorref01_Text (Runs.of fun Φ h => ?_)
    unfold c_proctorref01_Text
    by_cases h0 : 0 ≤ n
    · by_cases h10 : n < 10
      · have w1 : IntKind.i64.wrap (n + 1) = n + 1 := wrap_i64 (by omega) (by omega)
        rw [itoa_pos h0, dec_small (by omega)] at h
        (try (simp -implicitDefEqProofs only [go_sem, Nat.reduceAdd, Nat.reduceSub, Nat.reduceMul, Nat.reduceLT, Nat.reduceLeDiff, Nat.reduceEqDiff, Nat.reduceBEq, Int.reduceNeg, Int.reduceAdd, Int.reduceLT, Int.reduceLE, Int.reduceToNat, Int.reduceEq, Int.reduceNe, Int.reduceBEq, Int.reduceBNe, Int.reduceMul, Int.reduceSub, reduceIte, reduceCtorEq, slc_digit h0 h10, w1])); repeat' ((first | refine at_guard (fun hb => ?_) (fun hb => ?_) | refine ⟨fun hb => ?_, fun hb => ?_⟩ | fail) <;> (try (simp -implicitDefEqProofs only [go_sem, Nat.reduceAdd, Nat.reduceSub, Nat.reduceMul, Nat.reduceLT, Nat.reduceLeDiff, Nat.reduceEqDiff, Nat.reduceBEq, Int.reduceNeg, Int.reduceAdd, Int.reduceLT, Int.reduceLE, Int.reduceToNat, Int.reduceEq, Int.reduceNe, Int.reduceBEq, Int.reduceBNe, Int.reduceMul, Int.reduceSub, reduceIte, reduceCtorEq, slc_digit h0 h10, w1])))
        all_goals first | (exfalso; simp at *; omega) | exact h _ ⟨_, _, rfl, rfl, .refl _⟩
      · have hq : n.tdiv 10 = n / 10 := Int.tdiv_eq_ediv_of_nonneg h0
        have hr : n.tmod 10 = n % 10 := Int.tmod_eq_emod_of_nonneg h0
        have ih := ref01_Text_pc k (n / 10) (by omega) (by unfold i64; omega)
        have w0 : IntKind.i64.wrap (n / 10) = n / 10 := wrap_i64 (by omega) (by omega)
        have w1 : IntKind.i64.wrap (n % 10 + 1) = n % 10 + 1 := wrap_i64 (by omega) (by omega)
        have e : Lib.itoa n = Lib.itoa (n / 10) ++ [dgt (n % 10).toNat] := by
          rw [itoa_pos h0, dec_big (by omega), itoa_pos (by omega)]
          congr 2
          · omega
          · congr 1; omega
        have hd := slc_digit (n := n % 10) (by omega) (by omega)
        have ha : abin .add (.str (Lib.itoa (n / 10))) (.str [dgt (n % 10).toNat]) = some (.str (Lib.itoa (n / 10) ++ [dgt (n % 10).toNat])) := abin_adds (by rw [e] at hlen; simp at hlen ⊢; omega)
        rw [e] at h
        generalize Lib.itoa (n / 10) = P at *
        (try (simp -implicitDefEqProofs only [go_sem, Nat.reduceAdd, Nat.reduceSub, Nat.reduceMul, Nat.reduceLT, Nat.reduceLeDiff, Nat.reduceEqDiff, Nat.reduceBEq, Int.reduceNeg, Int.reduceAdd, Int.reduceLT, Int.reduceLE, Int.reduceToNat, Int.reduceEq, Int.reduceNe, Int.reduceBEq, Int.reduceBNe, Int.reduceMul, Int.reduceSub, reduceIte, reduceCtorEq, hq, hr, w0, w1, hd, ha])); repeat' ((first | refine at_guard (fun hb => ?_) (fun hb => ?_) | refine ⟨fun hb => ?_, fun hb => ?_⟩ | refine at_call (ih) rfl rfl ?_ | fail) <;> (try (simp -implicitDefEqProofs only [go_sem, Nat.reduceAdd, Nat.reduceSub, Nat.reduceMul, Nat.reduceLT, Nat.reduceLeDiff, Nat.reduceEqDiff, Nat.reduceBEq, Int.reduceNeg, Int.reduceAdd, Int.reduceLT, Int.reduceLE, Int.reduceToNat, Int.reduceEq, Int.reduceNe, Int.reduceBEq, Int.reduceBNe, Int.reduceMul, Int.reduceSub, reduceIte, reduceCtorEq, hq, hr, w0, w1, hd, ha])))
        all_goals first | (exfalso; simp at *; omega) | exact h _ ⟨_, _, rfl, rfl, .refl _⟩
    · by_cases h10 : -10 < n
      · have w0 : IntKind.i64.wrap (0 - n) = -n := by rw [wrap_i64 (by omega) (by omega)]; omega
        have w1 : IntKind.i64.wrap (-n + 1) = -n + 1 := wrap_i64 (by omega) (by omega)
        have hd := slc_digit (n := -n) (by omega) (by omega)
        have ha : abin .add (.str [45]) (.str [dgt (-n).toNat]) = some (.str [45, dgt (-n).toNat]) := abin_adds (by simp)
        rw [itoa_neg (by omega), dec_small (by omega), show n.natAbs = (-n).toNat by omega] at h
        (try (simp -implicitDefEqProofs only [go_sem, Nat.reduceAdd, Nat.reduceSub, Nat.reduceMul, Nat.reduceLT, Nat.reduceLeDiff, Nat.reduceEqDiff, Nat.reduceBEq, Int.reduceNeg, Int.reduceAdd, Int.reduceLT, Int.reduceLE, Int.reduceToNat, Int.reduceEq, Int.reduceNe, Int.reduceBEq, Int.reduceBNe, Int.reduceMul, Int.reduceSub, reduceIte, reduceCtorEq, w0, w1, hd, ha])); repeat' ((first | refine at_guard (fun hb => ?_) (fun hb => ?_) | refine ⟨fun hb => ?_, fun hb => ?_⟩ | fail) <;> (try (simp -implicitDefEqProofs only [go_sem, Nat.reduceAdd, Nat.reduceSub, Nat.reduceMul, Nat.reduceLT, Nat.reduceLeDiff, Nat.reduceEqDiff, Nat.reduceBEq, Int.reduceNeg, Int.reduceAdd, Int.reduceLT, Int.reduceLE, Int.reduceToNat, Int.reduceEq, Int.reduceNe, Int.reduceBEq, Int.reduceBNe, Int.reduceMul, Int.reduceSub, reduceIte, reduceCtorEq, w0, w1, hd, ha])))
        all_goals first | (exfalso; simp at *; omega) | exact h _ ⟨_, _, rfl, rfl, .refl _⟩
      · have hq : n.tdiv 10 = -((-n) / 10) := by
          rw [show n = -(-n) by omega, Int.neg_tdiv, Int.tdiv_eq_ediv_of_nonneg (by omega)]
          omega
        have hr : n.tmod 10 = -((-n) % 10) := by
          rw [show n = -(-n) by omega, Int.neg_tmod, Int.tmod_eq_emod_of_nonneg (by omega)]
          omega
        have ih := ref01_Text_pc k (-((-n) / 10)) (by omega) (by unfold i64; omega)
        have w0 : IntKind.i64.wrap (-((-n) / 10)) = -((-n) / 10) := wrap_i64 (by omega) (by omega)
        have w2 : IntKind.i64.wrap (0 - -((-n) % 10)) = (-n) % 10 := by rw [wrap_i64 (by omega) (by omega)]; omega
        have w1 : IntKind.i64.wrap ((-n) % 10 + 1) = (-n) % 10 + 1 := wrap_i64 (by omega) (by omega)
        have e : Lib.itoa n = Lib.itoa (-((-n) / 10)) ++ [dgt ((-n) % 10).toNat] := by
          rw [itoa_neg (by omega), dec_big (by omega), itoa_neg (by omega)]
          rw [List.cons_append]
          congr 2
          · congr 1; omega
          · congr 2; omega
        have hd := slc_digit (n := (-n) % 10) (by omega) (by omega)
        have ha : abin .add (.str (Lib.itoa (-((-n) / 10)))) (.str [dgt ((-n) % 10).toNat]) = some (.str (Lib.itoa (-((-n) / 10)) ++ [dgt ((-n) % 10).toNat])) := abin_adds (by rw [e] at hlen; simp at hlen ⊢; omega)
        rw [e] at h
        generalize Lib.itoa (-((-n) / 10)) = P at *
        (try (simp -implicitDefEqProofs only [go_sem, Nat.reduceAdd, Nat.reduceSub, Nat.reduceMul, Nat.reduceLT, Nat.reduceLeDiff, Nat.reduceEqDiff, Nat.reduceBEq, Int.reduceNeg, Int.reduceAdd, Int.reduceLT, Int.reduceLE, Int.reduceToNat, Int.reduceEq, Int.reduceNe, Int.reduceBEq, Int.reduceBNe, Int.reduceMul, Int.reduceSub, reduceIte, reduceCtorEq, hq, hr, w0, w1, w2, hd, ha])); repeat' ((first | refine at_guard (fun hb => ?_) (fun hb => ?_) | refine ⟨fun hb => ?_, fun hb => ?_⟩ | refine at_call (ih) rfl rfl ?_ | fail) <;> (try (simp -implicitDefEqProofs only [go_sem, Nat.reduceAdd, Nat.reduceSub, Nat.reduceMul, Nat.reduceLT, Nat.reduceLeDiff, Nat.reduceEqDiff, Nat.reduceBEq, Int.reduceNeg, Int.reduceAdd, Int.reduceLT, Int.reduceLE, Int.reduceToNat, Int.reduceEq, Int.reduceNe, Int.reduceBEq, Int.reduceBNe, Int.reduceMul, Int.reduceSub, reduceIte, reduceCtorEq, hq, hr, w0, w1, w2, hd, ha])))
        all_goals first | (exfalso; simp at *; omega) | exact h _ ⟨_, _, rfl, rfl, .refl _⟩
end
section
open Go.RowKit
variable {G : Nat → Option AV} {P : Program}
/-- A contract on a text, out of a walk. -/
theorem PureC.of_str {f : Nat} {args : List AV} {r : Str} (h : ∀ (w : World) (F : Nat → Prop) (vs : Array Value), Good w F G → ArgsR w F args vs → Calls P f vs w fun e w' => e = .returned (.string ⟨r.toArray⟩) ∧ Below w.heap.size w w') : PureC P G f args (.str r) := by
  intro w F vs hg ha
  refine (h w F vs hg ha).mono ?_
  rintro e w' ⟨rfl, hb⟩
  exact ⟨_, F, rfl, fun b h => h, fun b h => .inl h, fun b h => Nat.lt_of_lt_of_le (hg.1 b h) hb.size, .str _ _, hb⟩
/-- .. and back. -/
theorem PureC.to_str {f : Nat} {args : List AV} {r : Str} (h : PureC P G f args (.str r)) {w : World} {F : Nat → Prop} {vs : Array Value} (hg : Good w F G) (ha : ArgsR w F args vs) : Calls P f vs w fun e w' => e = .returned (.string ⟨r.toArray⟩) ∧ Below w.heap.size w w' := by
  refine (h w F vs hg ha).mono ?_
  rintro e w' ⟨v, F', rfl, _, _, _, hr, hb⟩
  cases hr
  exact ⟨rfl, hb⟩
theorem PureC.to_bool {f : Nat} {args : List AV} {r : Bool} (h : PureC P G f args (.bool r)) {w : World} {F : Nat → Prop} {vs : Array Value} (hg : Good w F G) (ha : ArgsR w F args vs) : Calls P f vs w fun e w' => e = .returned (.bool r) ∧ Below w.heap.size w w' := by
  refine (h w F vs hg ha).mono ?_
  rintro e w' ⟨v, F', rfl, _, _, _, hr, hb⟩
  cases hr
  exact ⟨rfl, hb⟩
theorem PureC.to_int {f : Nat} {args : List AV} {k : IntKind} {r : Int} (h : PureC P G f args (.int k r)) {w : World} {F : Nat → Prop} {vs : Array Value} (hg : Good w F G) (ha : ArgsR w F args vs) : Calls P f vs w fun e w' => e = .returned (.int k r) ∧ Below w.heap.size w w' := by
  refine (h w F vs hg ha).mono ?_
  rintro e w' ⟨v, F', rfl, _, _, _, hr, hb⟩
  cases hr
  exact ⟨rfl, hb⟩
theorem good_below {w w' : World} {F : Nat → Prop} (hg : Good w F G) {n : Nat} (hn : w.heap.size ≤ n) (hb : Below n w w') : Good w' F G :=
  hg.mono (fun b h => hb.block b (Nat.lt_of_lt_of_le (hg.1 b h) hn)) (fun _ h => h) (fun b h => Nat.lt_of_lt_of_le (hg.1 b h) hb.size)
theorem argsR_1 {w : World} {F : Nat → Prop} {c : AV} {vs : Array Value} (h : ArgsR w F [c] vs) : ∃ v, vs = #[v] ∧ Rd w F noNames c v := by
  obtain ⟨hs, hr⟩ := h
  obtain ⟨l⟩ := vs
  match l, hs with
  | [v], _ => exact ⟨v, rfl, hr 0 c v rfl rfl⟩
theorem argsR_2 {w : World} {F : Nat → Prop} {c d : AV} {vs : Array Value} (h : ArgsR w F [c, d] vs) : ∃ v u, vs = #[v, u] ∧ Rd w F noNames c v ∧ Rd w F noNames d u := by
  obtain ⟨hs, hr⟩ := h
  obtain ⟨l⟩ := vs
  match l, hs with
  | [v, u], _ => exact ⟨v, u, rfl, hr 0 c v rfl rfl, hr 1 d u rfl rfl⟩
theorem builder_below {T e : TypeId} {B b : Nat} {bs : List Value} {w w' : World} (h : Lib.IsBuilder T e B b bs w) (hb : Below w.heap.size w w') : Lib.IsBuilder T e B b bs w' := by
  have one : ∀ p, Lib.BuilderAt T e B b p bs w → Lib.BuilderAt T e B b p bs w' := fun p h => by
    have hlt := h.lt
    obtain ⟨hB, v, hbk, ⟨hl, hown⟩, hne⟩ := h
    refine ⟨hB, v, by rw [hb.block b hlt]; exact hbk, ⟨hl, ?_⟩, hne⟩
    rcases hown with h | ⟨g, cap, cur, hv, hBg, hg, rest⟩
    · exact .inl h
    · exact .inr ⟨g, cap, cur, hv, hBg, by rw [hb.block g (Array.getElem?_eq_some_iff.1 hg).1]; exact hg, rest⟩
  exact h.imp (one _) (one _)

/-- A variable that is known to be a table of numbers. -/
theorem tab_of {w : World} {F : Nat → Prop} {g : Nat} {n : String} {k : IntKind} {l : List Int} (hn : P.globalNamed n = some g) (hg : Good w F G) (h : G g = some (.agg (l.map (AV.int k)))) : Lib.TabIs P w n k l := by
  obtain ⟨h1, arr, t, fz, h2, h3⟩ := hg.2 g _ h
  unfold Lib.TabIs World.var?
  rw [hn]
  simp only [Option.bind_some, h2]
  have hs : arr.size = l.length := by simpa [AV.cells] using h3
  congr 1
  apply Array.ext
  · simp [hs]
  · intro i hi hi'
    rw [hs] at hi
    cases h1 with
    | eptr _ _ _ _ _ u hF hw h1 h =>
      have e1 := hw i (by simpa [AV.cells] using hi)
      have e2 := h i (.int k l[i]) (by simp [AV.cells, hi])
      simp only [World.cell?, Nat.zero_add, h2, Option.isSome_none, if_false] at e1
      simp only [List.getElem_toArray, List.getElem_map]
      cases e2' : u i with
      | int k' n' => 
        rw [e2'] at e2
        cases e2
        rw [e2'] at e1
        have e3 : arr[i]? = some (Value.int k l[i]) := by simpa using e1
        exact (Array.getElem?_eq_some_iff.1 e3).2
      | _ => rw [e2'] at e2; cases e2
theorem strconv_FormatInt_pc (hG : G 3 = some (.agg (Lib.pow10Tab.map (AV.int .u64)))) (n : Int) (hn : i64 n) : PureC Tryd.prog G n_strconv_FormatInt [iv n, iv 10] (.str (Lib.itoa n)) := by
  refine PureC.of_str fun w F vs hg ha => ?_
  obtain ⟨v, u, rfl, h1, h2⟩ := argsR_2 ha
  cases h1
  cases h2
  unfold i64 at hn
  refine (Tryd.strconv_FormatInt_10 n hn.1 (by omega) w (tab_of (by kernel_rfl) hg hG)).mono ?_
  rintro e w' ⟨rfl, k, os, rfl⟩
  exact ⟨rfl, Lib.below_grow _ _ (Nat.le_refl _) _ _⟩
end
end Go.Proofs.YtdfdiglnpekcpaaDoor.Ab
