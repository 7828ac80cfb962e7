/-
  DERIVED: THE SHELF's CONTRACTS AT THIS DUMP, IN PLAIN WORDS (tools/lay-plain.mjs out of 'TrymShelf.lean', which tools/lay-shelf.mjs wrote): THE SAME DECLARATIONS UNDER THE SAME NAMES: 'import', 'namespace', 'open', 'def', 'theorem' AND NOTHING ELSE: no command of the shelf's: FOR A HAND-IN. Each laying: the table of numbers ('.._ren') and one theorem, a field a fact of the dump's own or the kernel's comparison; each contract: ONE APPLICATION. num.Mul, proctorref01.Mul: products. No claim is proved here.
-/
import Derived.Shelf.Bits.Mul64
import Derived.Test.YtdfdiglnpekcpabDoorProg
import Derived.Test.YtdfdiglnpekcpabDoorWV1
namespace Go.Proofs
open Go.Shelf
def Tryd.lays264_ren : Go.Shelf.Ren := ⟨fun | 264 => 138 | n => n, fun | 53 => 196 | 46 => 118 | n => n, fun | n => n⟩
theorem Tryd.lays264 : Go.Proofs.Lays.n264 Tryd.prog Tryd.lays264_ren := {
  mixed := by kernel_rfl
  f264 := Tryd.func138.trans (congrArg some (by kernel_rfl))
  t46 := Tryd.underlying118
  a46 := Tryd.isAgg118
  z46 := Tryd.sizeOf118
  v46 := Tryd.zeroValue118
  t53 := Tryd.underlying196
  a53 := Tryd.isAgg196
  z53 := Tryd.sizeOf196
  v53 := Tryd.zeroValue196 }
open Go.RowKit Go.Lib in
theorem Tryd.bits_Mul64 (x y : Nat) (hx : x < 18446744073709551616) (hy : y < 18446744073709551616) (w : World) :
    Calls Tryd.prog 138 #[.int .u64 x, .int .u64 y] w fun e w' => e = .returned (.tuple #[.int .u64 ((x * y / 18446744073709551616 : Nat) : Int), .int .u64 ((x * y % 18446744073709551616 : Nat) : Int)]) ∧ w' = w := Any.bits_Mul64 Tryd.lays264 x y hx hy w
end Go.Proofs
namespace Go.Proofs.YtdfdiglnpekcpabDoor.Ab
open Nat renaming reduceAdd → zq0, reduceSub → zq1, reduceMul → zq2, reduceLT → zq3, reduceLeDiff → zq4, reduceEqDiff → zq5, reduceBEq → zq6
open Int renaming reduceNeg → zq7, reduceAdd → zq8, reduceLT → zq9, reduceLE → zq10, reduceToNat → zq11, reduceEq → zq12, reduceNe → zq13, reduceBEq → zq14, reduceBNe → zq15, reduceMul → zq16, reduceSub → zq17
open Go Go.RowKit
set_option linter.unusedSimpArgs false
set_option maxHeartbeats 4000000
set_option maxRecDepth 100000
variable {G : Nat → Option AV}
theorem argsR_two {w : World} {F : Nat → Prop} {c d : AV} {vs : Array Value} (h : ArgsR w F [c, d] vs) : ∃ v u, vs = #[v, u] ∧ Rd w F noNames c v ∧ Rd w F noNames d u := by
  obtain ⟨hs, hr⟩ := h
  obtain ⟨l⟩ := vs
  match l, hs with
  | [v, u], _ => exact ⟨v, u, rfl, hr 0 c v rfl rfl, hr 1 d u rfl rfl⟩
theorem bits_Mul64_pc (x y : Nat) (hx : x < 18446744073709551616) (hy : y < 18446744073709551616) : PureC Tryd.prog G n_math_bits_Mul64 [.int .u64 x, .int .u64 y] (.tup [.int .u64 ((x * y / 18446744073709551616 : Nat) : Int), .int .u64 ((x * y % 18446744073709551616 : Nat) : Int)]) := by
  intro w F vs hg ha
  obtain ⟨v, u, rfl, h1, h2⟩ := argsR_two ha
  cases h1
  cases h2
  refine (Tryd.bits_Mul64 x y hx hy w).mono ?_
  rintro e w' ⟨rfl, rfl⟩
  refine ⟨_, F, rfl, fun b h => h, fun b h => .inl h, hg.1, ?_, Below.refl _ _⟩
  refine Rd.tup _ [_, _] [_, _] rfl fun j c u hc hu => ?_
  match j, hc, hu with
  | 0, hc, hu => cases hc; cases hu; exact .int _ _ _
  | 1, hc, hu => cases hc; cases hu; exact .int _ _ _
theorem wrap_u64 (n : Int) : IntKind.u64.wrap n = n % 18446744073709551616 := by
  unfold IntKind.wrap
  have e1 : (2 : Int) ^ IntKind.u64.bits = 18446744073709551616 := rfl
  have e3 : IntKind.u64.signed = false := rfl
  simp only [e1, e3, Bool.false_and, Bool.false_eq_true, if_false]
theorem num_size_pc (a : Int) (ha : i64 a) : PureC Tryd.prog G n_num_size [iv a] (.int .u64 (a.natAbs : Int)) := by
  unfold i64 at ha
  refine pc_num_size (Runs.of fun Φ h => ?_)
  unfold c_num_size
  by_cases h0 : a < 0
  · have e1 : IntKind.u64.wrap a = a + 18446744073709551616 := by rw [wrap_u64]; omega
    have e2 : IntKind.u64.wrap (0 - (a + 18446744073709551616)) = (a.natAbs : Int) := by rw [wrap_u64]; omega
    have e3 : IntKind.u64.wrap (-(a + 18446744073709551616)) = (a.natAbs : Int) := by rw [wrap_u64]; omega
    (try (simp -implicitDefEqProofs only [go_sem, zq0, zq1, zq2, zq3, zq4, zq5, zq6, zq7, zq8, zq9, zq10, zq11, zq12, zq13, zq14, zq15, zq16, zq17, reduceIte, reduceCtorEq, h0, e1, e2, e3])); repeat' ((first | refine at_guard (fun hb => ?_) (fun hb => ?_) | refine ⟨fun hb => ?_, fun hb => ?_⟩ | fail) <;> (try (simp -implicitDefEqProofs only [go_sem, zq0, zq1, zq2, zq3, zq4, zq5, zq6, zq7, zq8, zq9, zq10, zq11, zq12, zq13, zq14, zq15, zq16, zq17, reduceIte, reduceCtorEq, h0, e1, e2, e3])))
    all_goals first | (exfalso; simp at *; omega) | exact h _ ⟨_, _, rfl, rfl, .refl _⟩
  · have e1 : IntKind.u64.wrap a = (a.natAbs : Int) := by rw [wrap_u64]; omega
    (try (simp -implicitDefEqProofs only [go_sem, zq0, zq1, zq2, zq3, zq4, zq5, zq6, zq7, zq8, zq9, zq10, zq11, zq12, zq13, zq14, zq15, zq16, zq17, reduceIte, reduceCtorEq, h0, e1])); repeat' ((first | refine at_guard (fun hb => ?_) (fun hb => ?_) | refine ⟨fun hb => ?_, fun hb => ?_⟩ | fail) <;> (try (simp -implicitDefEqProofs only [go_sem, zq0, zq1, zq2, zq3, zq4, zq5, zq6, zq7, zq8, zq9, zq10, zq11, zq12, zq13, zq14, zq15, zq16, zq17, reduceIte, reduceCtorEq, h0, e1])))
    all_goals first | (exfalso; simp at *; omega) | exact h _ ⟨_, _, rfl, rfl, .refl _⟩
theorem num_Mul_pc (a b : Int) (ha : i64 a) (hb : i64 b) : PureC Tryd.prog G n_num_Mul [iv a, iv b] (t2 (ovR (a * b))) := by
  have hs1 := num_size_pc (G := G) a ha
  have hs2 := num_size_pc (G := G) b hb
  unfold i64 at ha hb
  have hm := bits_Mul64_pc (G := G) a.natAbs b.natAbs (by omega) (by omega)
  have hab : (a * b).natAbs = a.natAbs * b.natAbs := Int.natAbs_mul a b
  have hle : a.natAbs * b.natAbs ≤ 9223372036854775808 * 9223372036854775808 := Nat.mul_le_mul (by omega) (by omega)
  have hsg : (a < 0 ∧ b < 0 → 0 ≤ a * b) ∧ (¬ a < 0 ∧ ¬ b < 0 → 0 ≤ a * b) ∧ (a < 0 ∧ ¬ b < 0 → a * b ≤ 0) ∧ (¬ a < 0 ∧ b < 0 → a * b ≤ 0) :=
    ⟨fun h => Int.mul_nonneg_of_nonpos_of_nonpos (by omega) (by omega), fun h => Int.mul_nonneg (by omega) (by omega), fun h => Int.mul_nonpos_of_nonpos_of_nonneg (by omega) (by omega), fun h => Int.mul_nonpos_of_nonneg_of_nonpos (by omega) (by omega)⟩
  refine pc_num_Mul (Runs.of fun Φ h => ?_)
  unfold c_num_Mul
  unfold ovR at h
  have hin : in64 (a * b) = (decide (-9223372036854775808 ≤ a * b) && decide (a * b ≤ 9223372036854775807)) := rfl
  rw [hin] at h
  generalize a * b = m at *
  rw [← hab] at hm hle
  clear hab
  have k1 : (m.natAbs / 18446744073709551616 : Nat) = 0 → m.natAbs % 18446744073709551616 = m.natAbs := fun h => by omega
  generalize hhi : m.natAbs / 18446744073709551616 = hi at *
  generalize hlo : m.natAbs % 18446744073709551616 = lo at *
  have hlt : lo < 18446744073709551616 := by omega
  have hc := wrap_far (n := (lo : Int)) (by omega) (by omega)
  generalize hcw : IntKind.i64.wrap (lo : Int) = c at *
  have hcb : -9223372036854775808 ≤ c ∧ c ≤ 9223372036854775807 := by
    rcases hc with ⟨_, e1, h1, h2⟩ | ⟨h1, _, e1⟩ | ⟨h1, _, e1⟩ <;> omega
  have he := wrap_far (n := -c) (by omega) (by omega)
  generalize hew : IntKind.i64.wrap (-c) = e at *
  have hew' : IntKind.i64.wrap (0 - c) = e := by rw [Int.zero_sub]; exact hew
  have hE : lo ≤ 9223372036854775808 → e = -(lo : Int) := fun hl => by
    rcases hc with ⟨_, e1, h1, h2⟩ | ⟨h1, _, e1⟩ | ⟨h1, _, e1⟩ <;> rcases he with ⟨_, e2, h3, h4⟩ | ⟨h3, _, e2⟩ | ⟨h3, _, e2⟩ <;> omega
  have hC : lo ≤ 9223372036854775807 → c = (lo : Int) := fun hl => by
    rcases hc with ⟨_, e1, h1, h2⟩ | ⟨h1, _, e1⟩ | ⟨h1, _, e1⟩ <;> omega
  have hM : (0 ≤ m → (m.natAbs : Int) = m) ∧ (m ≤ 0 → (m.natAbs : Int) = -m) := by omega
  clear hc he hcb hin hle
  (try (simp -implicitDefEqProofs only [go_sem, zq0, zq1, zq2, zq3, zq4, zq5, zq6, zq7, zq8, zq9, zq10, zq11, zq12, zq13, zq14, zq15, zq16, zq17, reduceIte, reduceCtorEq, hcw, hew, hew'])); repeat' ((first | refine at_guard (fun hb => ?_) (fun hb => ?_) | refine ⟨fun hb => ?_, fun hb => ?_⟩ | refine at_call (hs1) rfl rfl ?_ | refine at_call (hs2) rfl rfl ?_ | refine at_call (hm) rfl rfl ?_ | fail) <;> (try (simp -implicitDefEqProofs only [go_sem, zq0, zq1, zq2, zq3, zq4, zq5, zq6, zq7, zq8, zq9, zq10, zq11, zq12, zq13, zq14, zq15, zq16, zq17, reduceIte, reduceCtorEq, hcw, hew, hew'])))
  all_goals
    refine h _ ⟨_, _, rfl, rfl, fit_eq ?_⟩
    clear h hs1 hs2 hm hcw hew hew'
    unfold t2
    split
    all_goals
      simp at *
      try omega
end Go.Proofs.YtdfdiglnpekcpabDoor.Ab
