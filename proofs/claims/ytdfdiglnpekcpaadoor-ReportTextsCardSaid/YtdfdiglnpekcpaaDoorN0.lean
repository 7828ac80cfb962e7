/-
  Numbers as texts, in plain words. No claim is proved here.
-/
import Derived.Test.YtdfdiglnpekcpaaDoorD0
import Derived.Lib.ItoaNum
namespace Go.Proofs.YtdfdiglnpekcpaaDoor.Ab
open Go
set_option linter.unusedSimpArgs false
theorem abin_adds {a b : Str} (h : a.length + b.length ≤ 9223372036854775807) : abin .add (.str a) (.str b) = some (.str (a ++ b)) := by simp [abin, h]
def i64 (n : Int) : Prop := -9223372036854775808 ≤ n ∧ n < 9223372036854775808
/-- A digit of ten. -/
def dgt (n : Nat) : UInt8 := UInt8.ofNat (48 + n)
theorem itoa_pos {n : Int} (h : 0 ≤ n) : Lib.itoa n = Lib.decDigits n.toNat := if_neg (by omega)
theorem itoa_neg {n : Int} (h : n < 0) : Lib.itoa n = 45 :: Lib.decDigits n.natAbs := if_pos h
theorem dec_small {u : Nat} (h : u < 10) : Lib.decDigits u = [dgt u] := by rw [Lib.decDigits, dif_pos h]; rfl
theorem dec_big {u : Nat} (h : ¬ u < 10) : Lib.decDigits u = Lib.decDigits (u / 10) ++ [dgt (u % 10)] := by rw [Lib.decDigits, dif_neg h]; rfl
theorem slc_digit {n : Int} (h0 : 0 ≤ n) (h1 : n < 10) : aslc 0 (.str [48, 49, 50, 51, 52, 53, 54, 55, 56, 57]) (some (.int .i64 n)) (some (.int .i64 (n + 1))) = some (.str [dgt n.toNat]) := by
  have : n = 0 ∨ n = 1 ∨ n = 2 ∨ n = 3 ∨ n = 4 ∨ n = 5 ∨ n = 6 ∨ n = 7 ∨ n = 8 ∨ n = 9 := by omega
  rcases this with rfl | rfl | rfl | rfl | rfl | rfl | rfl | rfl | rfl | rfl <;> rfl
theorem dec_len : ∀ (k u : Nat), u < 10 ^ (k + 1) → (Lib.decDigits u).length ≤ k + 1
  | 0, u, h => by rw [dec_small (by simpa using h)]; simp
  | k + 1, u, h => by
    by_cases h10 : u < 10
    · rw [dec_small h10]; simp
    · have := dec_len k (u / 10) (by rw [Nat.pow_succ] at h; omega)
      rw [dec_big h10]
      simp
      omega
theorem itoa_len {n : Int} (h : i64 n) : (Lib.itoa n).length ≤ 20 := by
  unfold i64 at h
  by_cases h0 : 0 ≤ n
  · rw [itoa_pos h0]
    have := dec_len 18 n.toNat (by have : (10 : Nat) ^ (18 + 1) = 10000000000000000000 := by decide
                                   omega)
    omega
  · rw [itoa_neg (by omega)]
    have := dec_len 18 n.natAbs (by have : (10 : Nat) ^ (18 + 1) = 10000000000000000000 := by decide
                                    omega)
    simp
    omega
end Go.Proofs.YtdfdiglnpekcpaaDoor.Ab
