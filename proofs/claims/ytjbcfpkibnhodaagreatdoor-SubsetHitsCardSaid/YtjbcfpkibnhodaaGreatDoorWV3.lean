/-
  The functions' abstract code: all of it. num, proctorref01: sums, differences, products, quotients. num.Mul, proctorref01.Mul: products. value, proctorref03: values. num.Op, value.truth, text, Less, Op: what operators make of values. No claim is proved here.
-/
import Derived.Test.YtjbcfpkibnhodaaGreatDoorWAcR1
import Derived.Test.YtjbcfpkibnhodaaGreatDoorWAcR2
import Derived.Test.YtjbcfpkibnhodaaGreatDoorWAcR3
import Derived.Test.YtjbcfpkibnhodaaGreatDoorWAcR4
import Derived.Shelf.Bits.Mul64
namespace Go.Proofs.YtjbcfpkibnhodaaGreatDoor.Ab
end Go.Proofs.YtjbcfpkibnhodaaGreatDoor.Ab
namespace Go.Proofs.YtjbcfpkibnhodaaGreatDoor.Ab
open Go
set_option linter.unusedSimpArgs false
set_option maxHeartbeats 4000000
variable {G : Nat → Option AV}
def in64 (n : Int) : Bool := decide (-9223372036854775808 ≤ n) && decide (n ≤ 9223372036854775807)
theorem in64_iff {n : Int} : in64 n = true ↔ -9223372036854775808 ≤ n ∧ n ≤ 9223372036854775807 := by simp [in64]
def ovR (n : Int) : Int × Int := if in64 n = true then (n, 0) else (0, 6)
def okR (n : Int) : Int × Bool := if in64 n = true then (n, true) else (0, false)
def t2 (r : Int × Int) : AV := .tup [iv r.1, iv r.2]
def t2b (r : Int × Bool) : AV := .tup [iv r.1, .bool r.2]
theorem wrap_far {n : Int} (h1 : -27670116110564327424 ≤ n) (h2 : n < 27670116110564327424) : (in64 n = true ∧ IntKind.i64.wrap n = n ∧ -9223372036854775808 ≤ n ∧ n ≤ 9223372036854775807) ∨ (9223372036854775807 < n ∧ in64 n = false ∧ IntKind.i64.wrap n = n - 18446744073709551616) ∨ (n < -9223372036854775808 ∧ in64 n = false ∧ IntKind.i64.wrap n = n + 18446744073709551616) := by
  have e1 : (2 : Int) ^ IntKind.i64.bits = 18446744073709551616 := rfl
  have e2 : (2 : Int) ^ (IntKind.i64.bits - 1) = 9223372036854775808 := rfl
  have e3 : IntKind.i64.signed = true := rfl
  by_cases h : in64 n = true
  · have := in64_iff.1 h
    exact .inl ⟨h, wi_ this.1 this.2, this.1, this.2⟩
  · have hf : in64 n = false := by simpa using h
    have : ¬ (-9223372036854775808 ≤ n ∧ n ≤ 9223372036854775807) := fun e => h (in64_iff.2 e)
    by_cases hp : 9223372036854775807 < n
    · refine .inr (.inl ⟨hp, hf, ?_⟩)
      unfold IntKind.wrap
      simp only [e1, e2, e3, Bool.true_and, decide_eq_true_eq]
      split <;> omega
    · refine .inr (.inr ⟨by omega, hf, ?_⟩)
      unfold IntKind.wrap
      simp only [e1, e2, e3, Bool.true_and, decide_eq_true_eq]
      split <;> omega
theorem ref01_Add_pc (a b : Int) (ha : i64 a) (hb : i64 b) : P_ Tryz.prog G n_proctorref01_Add [iv a, iv b] (t2b (okR (a + b))) := by
  unfold i64 at ha hb
  have hw := wrap_far (n := a + b) (by omega) (by omega)
  have h1 : 0 < b → IntKind.i64.wrap (9223372036854775807 - b) = 9223372036854775807 - b := fun h => wi_ (by omega) (by omega)
  have h2 : b < 0 → IntKind.i64.wrap (-9223372036854775808 - b) = -9223372036854775808 - b := fun h => wi_ (by omega) (by omega)
  refine pc_proctorref01_Add (Runs.of fun Φ h => ?_)
  unfold c_proctorref01_Add
  unfold okR at h
  repeat' (first | (simp -implicitDefEqProofs only [go_sem]) | refine ag_ (fun hb => ?_) (fun hb => ?_) | refine ⟨fun hb => ?_, fun hb => ?_⟩ | fail)
  all_goals
    refine h _ ⟨_, _, rfl, rfl, fe_ ?_⟩
    clear h
    try generalize IntKind.i64.wrap (a + b) = c at *
    try generalize in64 (a + b) = y at *
    try generalize IntKind.i64.wrap (9223372036854775807 - b) = c1 at *
    try generalize IntKind.i64.wrap (-9223372036854775808 - b) = c2 at *
    rcases hw with ⟨rfl, rfl, _, _⟩ | ⟨_, rfl, rfl⟩ | ⟨_, rfl, rfl⟩
    all_goals first | rfl | (exfalso; simp at *; omega)
theorem ref01_Sub_pc (a b : Int) (ha : i64 a) (hb : i64 b) : P_ Tryz.prog G npS_ [iv a, iv b] (t2b (okR (a - b))) := by
  unfold i64 at ha hb
  have hw := wrap_far (n := a - b) (by omega) (by omega)
  have h1 : b < 0 → IntKind.i64.wrap (9223372036854775807 + b) = 9223372036854775807 + b := fun h => wi_ (by omega) (by omega)
  have h2 : 0 < b → IntKind.i64.wrap (-9223372036854775808 + b) = -9223372036854775808 + b := fun h => wi_ (by omega) (by omega)
  refine pc_proctorref01_Sub (Runs.of fun Φ h => ?_)
  unfold c_proctorref01_Sub
  unfold okR at h
  repeat' (first | (simp -implicitDefEqProofs only [go_sem]) | refine ag_ (fun hb => ?_) (fun hb => ?_) | refine ⟨fun hb => ?_, fun hb => ?_⟩ | fail)
  all_goals
    refine h _ ⟨_, _, rfl, rfl, fe_ ?_⟩
    clear h
    try generalize IntKind.i64.wrap (a - b) = c at *
    try generalize in64 (a - b) = y at *
    try generalize IntKind.i64.wrap (9223372036854775807 + b) = c1 at *
    try generalize IntKind.i64.wrap (-9223372036854775808 + b) = c2 at *
    rcases hw with ⟨rfl, rfl, _, _⟩ | ⟨_, rfl, rfl⟩ | ⟨_, rfl, rfl⟩
    all_goals first | rfl | (exfalso; simp at *; omega)
theorem tdiv_abs (a b : Int) : (a.tdiv b).natAbs ≤ a.natAbs := by rw [Int.natAbs_tdiv]; exact Nat.div_le_self _ _
theorem tdiv_small {a b : Int} (ha : i64 a) (h1 : b ≠ -1) : in64 (a.tdiv b) = true := by
  have h := tdiv_abs a b
  unfold i64 at ha
  rw [in64_iff]
  by_cases hm : a.tdiv b ≤ 9223372036854775807
  · omega
  · have he : a.natAbs = 9223372036854775808 := by omega
    have ht : (a.tdiv b).natAbs = 9223372036854775808 := by omega
    rw [Int.natAbs_tdiv, he] at ht
    have hb : b.natAbs = 1 := by
      rcases Nat.lt_or_ge 1 b.natAbs with h2 | h2
      · have := Nat.div_lt_self (n := 9223372036854775808) (k := b.natAbs) (by omega) h2
        change 9223372036854775808 / b.natAbs = _ at ht
        omega
      · rcases Nat.eq_zero_or_pos b.natAbs with h0 | h0
        · change 9223372036854775808 / b.natAbs = _ at ht
          rw [h0] at ht; simp at ht
        · omega
    have : b = 1 := by omega
    subst this
    rw [Int.tdiv_one] at hm ⊢
    omega
theorem tmod_small {a b : Int} (ha : i64 a) : i64 (a.tmod b) := by
  have h : (a.tmod b).natAbs ≤ a.natAbs := by rw [Int.natAbs_tmod]; exact Nat.mod_le _ _
  unfold i64 at *
  by_cases h0 : 0 ≤ a
  · have := Int.tmod_nonneg b h0
    omega
  · have := Int.tmod_nonneg b (show 0 ≤ -a by omega)
    rw [Int.neg_tmod] at this
    omega
def divR (a b : Int) : Int × Int := if b = 0 then (0, 7) else ovR (a.tdiv b)
def modR (a b : Int) : Int × Int := if b = 0 then (0, 7) else (a.tmod b, 0)
theorem tdiv_neg1 (a : Int) : a.tdiv (-1) = -a := by rw [Int.tdiv_neg, Int.tdiv_one]
theorem tmod_neg1 (a : Int) : a.tmod (-1) = 0 := by rw [Int.tmod_neg, Int.tmod_one]
def dmR (a b : Int) : Int × Int × Int := if b = 0 then (0, 0, 7) else if in64 (a.tdiv b) = true then (a.tdiv b, a.tmod b, 0) else (0, 0, 6)
theorem ref01_Div_pc (a b : Int) (ha : i64 a) : P_ Tryz.prog G n_proctorref01_Div [iv a, iv b] (.tup [iv (dmR a b).1, iv (dmR a b).2.1, iv (dmR a b).2.2]) := by
  have hn := ref01_Sub_pc (G := G) 0 a (by unfold i64; omega) ha
  rw [show (0 : Int) - a = -a by omega] at hn
  have hq : b ≠ -1 → IntKind.i64.wrap (a.tdiv b) = a.tdiv b := fun h => by have := in64_iff.1 (tdiv_small ha h); exact wi_ this.1 this.2
  have hk : b ≠ -1 → in64 (a.tdiv b) = true := fun h => tdiv_small ha h
  have h1 := tdiv_neg1 a
  have h2 := tmod_neg1 a
  refine pc_proctorref01_Div (Runs.of fun Φ h => ?_)
  unfold c_proctorref01_Div
  unfold dmR at h
  unfold t2b at *
  by_cases h0 : b = 0
  · subst h0
    repeat' (first | (simp -implicitDefEqProofs only [go_sem]) | refine ag_ (fun hb => ?_) (fun hb => ?_) | refine ⟨fun hb => ?_, fun hb => ?_⟩ | fail)
    exact h _ ⟨_, _, rfl, rfl, .refl _⟩
  by_cases hb : b = -1
  · subst hb
    rw [h1, h2] at h
    unfold okR at hn
    generalize in64 (-a) = r at *
    cases r
    all_goals
      repeat' (first | (simp -implicitDefEqProofs only [go_sem]) | refine ag_ (fun hb => ?_) (fun hb => ?_) | refine ⟨fun hb => ?_, fun hb => ?_⟩ | refine ac_ (hn) rfl rfl ?_ | fail)
      all_goals (refine h _ ⟨_, _, rfl, rfl, fe_ ?_⟩; clear h; first | rfl | simp_all)
  · have hq := hq hb
    have hk := hk hb
    repeat' (first | (simp -implicitDefEqProofs only [go_sem, abin_quo _ _ _ h0, abin_rem _ _ _ h0, hq]) | refine ag_ (fun hb => ?_) (fun hb => ?_) | refine ⟨fun hb => ?_, fun hb => ?_⟩ | fail)
    all_goals first | (exfalso; simp at *; omega) | (refine h _ ⟨_, _, rfl, rfl, fe_ ?_⟩; simp [h0, hk])
end Go.Proofs.YtjbcfpkibnhodaaGreatDoor.Ab
namespace Go.Proofs.YtjbcfpkibnhodaaGreatDoor.Ab
open Go Go.RowKit
set_option linter.unusedSimpArgs false
set_option maxHeartbeats 4000000
set_option maxRecDepth 100000
variable {G : Nat → Option AV}
theorem nat_tdiv (x d : Nat) : (x : Int).tdiv (d : Int) = ((x / d : Nat) : Int) := rfl
theorem mul_tests {a b : Int} (h : ¬ a = 0 ∧ ¬ b = 0) :
    (0 < a → 0 < b → ∃ q : Int, (9223372036854775807 : Int).tdiv b = q ∧ 0 ≤ q ∧ q ≤ 9223372036854775807 ∧ (q < a ↔ 9223372036854775807 < a * b) ∧ 0 ≤ a * b) ∧
    (0 < a → b < 0 → ∃ q : Int, (-9223372036854775808 : Int).tdiv a = q ∧ -9223372036854775808 ≤ q ∧ q ≤ 0 ∧ (b < q ↔ a * b < -9223372036854775808) ∧ a * b ≤ 0) ∧
    (a < 0 → 0 < b → ∃ q : Int, (-9223372036854775808 : Int).tdiv b = q ∧ -9223372036854775808 ≤ q ∧ q ≤ 0 ∧ (a < q ↔ a * b < -9223372036854775808) ∧ a * b ≤ 0) ∧
    (a < 0 → b < 0 → ∃ q : Int, (9223372036854775807 : Int).tdiv b = q ∧ -9223372036854775807 ≤ q ∧ q ≤ 0 ∧ (a < q ↔ 9223372036854775807 < a * b) ∧ 0 ≤ a * b) := by
  have key : ∀ (X n d : Nat), 0 < d → (X / d < n ↔ X < n * d) := fun X n d hd => Nat.div_lt_iff_lt_mul hd
  have le : ∀ X d : Nat, X / d ≤ X := Nat.div_le_self
  have pos : ∀ x : Int, 0 < x → ∃ n : Nat, x = (n : Int) ∧ 0 < n := fun x hx => ⟨x.toNat, by omega, by omega⟩
  have neg : ∀ x : Int, x < 0 → ∃ n : Nat, x = -(n : Int) ∧ 0 < n := fun x hx => ⟨(-x).toNat, by omega, by omega⟩
  refine ⟨fun ha hb => ?_, fun ha hb => ?_, fun ha hb => ?_, fun ha hb => ?_⟩
  · obtain ⟨n, rfl, hn⟩ := pos a ha
    obtain ⟨d, rfl, hd⟩ := pos b hb
    have k := key 9223372036854775807 n d hd
    have l := le 9223372036854775807 d
    have e : ((n : Int) * (d : Int)) = ((n * d : Nat) : Int) := by simp
    rw [e]
    generalize n * d = m at *
    refine ⟨_, nat_tdiv 9223372036854775807 d, ?_⟩
    generalize 9223372036854775807 / d = q at *
    omega
  · obtain ⟨n, rfl, hn⟩ := pos a ha
    obtain ⟨d, rfl, hd⟩ := neg b hb
    have k := key 9223372036854775808 d n hn
    have l := le 9223372036854775808 n
    have e : ((n : Int) * -(d : Int)) = -((d * n : Nat) : Int) := by rw [Int.mul_neg, Nat.mul_comm]; simp
    rw [e]
    generalize d * n = m at *
    refine ⟨_, (by rw [show (-9223372036854775808 : Int) = -((9223372036854775808 : Nat) : Int) from rfl, Int.neg_tdiv, nat_tdiv]), ?_⟩
    generalize 9223372036854775808 / n = q at *
    omega
  · obtain ⟨n, rfl, hn⟩ := neg a ha
    obtain ⟨d, rfl, hd⟩ := pos b hb
    have k := key 9223372036854775808 n d hd
    have l := le 9223372036854775808 d
    have e : (-(n : Int) * (d : Int)) = -((n * d : Nat) : Int) := by rw [Int.neg_mul]; simp
    rw [e]
    generalize n * d = m at *
    refine ⟨_, (by rw [show (-9223372036854775808 : Int) = -((9223372036854775808 : Nat) : Int) from rfl, Int.neg_tdiv, nat_tdiv]), ?_⟩
    generalize 9223372036854775808 / d = q at *
    omega
  · obtain ⟨n, rfl, hn⟩ := neg a ha
    obtain ⟨d, rfl, hd⟩ := neg b hb
    have k := key 9223372036854775807 n d hd
    have l := le 9223372036854775807 d
    have e : (-(n : Int) * -(d : Int)) = ((n * d : Nat) : Int) := by rw [Int.neg_mul_neg]; simp
    rw [e]
    generalize n * d = m at *
    refine ⟨_, (by rw [show (9223372036854775807 : Int) = ((9223372036854775807 : Nat) : Int) from rfl, Int.tdiv_neg, nat_tdiv]), ?_⟩
    generalize 9223372036854775807 / d = q at *
    omega
theorem ref01_Mul_pc (a b : Int) (ha : i64 a) (hb : i64 b) : P_ Tryz.prog G n_proctorref01_Mul [iv a, iv b] (t2b (okR (a * b))) := by
  have hz : i64 0 := by unfold i64; omega
  have hs1 := ref01_Sub_pc (G := G) 0 b hz hb
  have hs2 := ref01_Sub_pc (G := G) 0 a hz ha
  unfold i64 at ha hb
  refine pc_proctorref01_Mul (Runs.of fun Φ h => ?_)
  unfold c_proctorref01_Mul
  unfold t2b at *
  by_cases a0 : a = 0
  · subst a0
    rw [Int.zero_mul] at h
    repeat' (first | (simp -implicitDefEqProofs only [go_sem]) | refine ag_ (fun hb => ?_) (fun hb => ?_) | refine ⟨fun hb => ?_, fun hb => ?_⟩ | fail)
    all_goals first | (exfalso; simp at *; done) | exact h _ ⟨_, _, rfl, rfl, .refl _⟩
  by_cases b0 : b = 0
  · subst b0
    rw [Int.mul_zero] at h
    have e0 : (a == 0) = false := by simpa using a0
    repeat' (first | (simp -implicitDefEqProofs only [go_sem, e0]) | refine ag_ (fun hb => ?_) (fun hb => ?_) | refine ⟨fun hb => ?_, fun hb => ?_⟩ | fail)
    all_goals first | (exfalso; simp at *; done) | exact h _ ⟨_, _, rfl, rfl, .refl _⟩
  have e0 : (a == 0) = false := by simpa using a0
  have e1 : (b == 0) = false := by simpa using b0
  by_cases a1 : a = -1
  · subst a1
    rw [show (-1 : Int) * b = 0 - b by omega] at h
    generalize okR (0 - b) = r at *
    repeat' (first | (simp -implicitDefEqProofs only [go_sem, e1]) | refine ag_ (fun hb => ?_) (fun hb => ?_) | refine ⟨fun hb => ?_, fun hb => ?_⟩ | refine ac_ (hs1) rfl rfl ?_ | fail)
    all_goals first | (exfalso; simp at *; done) | exact h _ ⟨_, _, rfl, rfl, .refl _⟩
  by_cases b1 : b = -1
  · subst b1
    rw [show a * (-1 : Int) = 0 - a by omega] at h
    have e2 : (a == -1) = false := by simpa using a1
    generalize okR (0 - a) = r at *
    repeat' (first | (simp -implicitDefEqProofs only [go_sem, e0, e2]) | refine ag_ (fun hb => ?_) (fun hb => ?_) | refine ⟨fun hb => ?_, fun hb => ?_⟩ | refine ac_ (hs2) rfl rfl ?_ | fail)
    all_goals first | (exfalso; simp at *; done) | exact h _ ⟨_, _, rfl, rfl, .refl _⟩
  have e2 : (a == -1) = false := by simpa using a1
  have e3 : (b == -1) = false := by simpa using b1
  clear hs1 hs2
  have hm : ∀ m : Int, -9223372036854775808 ≤ m → m ≤ 9223372036854775807 → okR m = (m, true) ∧ IntKind.i64.wrap m = m := fun m h1 h2 => ⟨by unfold okR; rw [if_pos (in64_iff.2 ⟨h1, h2⟩)], wi_ h1 h2⟩
  have hn : ∀ m : Int, (m < -9223372036854775808 ∨ 9223372036854775807 < m) → okR m = (0, false) := fun m h => by
    unfold okR
    rw [if_neg (fun e => by have := in64_iff.1 e; omega)]
  by_cases sa : 0 < a
  · by_cases sb : 0 < b
    · obtain ⟨q, hq, q1, q2, q3, q4⟩ := (mul_tests ⟨a0, b0⟩).1 sa sb
      have n1 : ¬ a < 0 := by omega
      have n2 : ¬ b < 0 := by omega
      have hw : IntKind.i64.wrap q = q := wi_ (by omega) (by omega)
      generalize hmm : a * b = m at *
      by_cases hov : q < a
      · rw [hn m (by omega)] at h
        repeat' (first | (simp -implicitDefEqProofs only [go_sem, e0, e1, e2, e3, sa, sb, n1, n2, abin_quo _ _ _ b0, abin_quo _ _ _ a0, hq, hw, hov, hmm]) | refine ag_ (fun hb => ?_) (fun hb => ?_) | refine ⟨fun hb => ?_, fun hb => ?_⟩ | fail)
        all_goals first | (exfalso; simp at *; done) | exact h _ ⟨_, _, rfl, rfl, .refl _⟩
      · obtain ⟨k1, k2⟩ := hm m (by omega) (by omega)
        rw [k1] at h
        repeat' (first | (simp -implicitDefEqProofs only [go_sem, e0, e1, e2, e3, sa, sb, n1, n2, abin_quo _ _ _ b0, abin_quo _ _ _ a0, hq, hw, hov, hmm, k2]) | refine ag_ (fun hb => ?_) (fun hb => ?_) | refine ⟨fun hb => ?_, fun hb => ?_⟩ | fail)
        all_goals first | (exfalso; simp at *; done) | exact h _ ⟨_, _, rfl, rfl, .refl _⟩
    · replace sb : b < 0 := by omega
      obtain ⟨q, hq, q1, q2, q3, q4⟩ := (mul_tests ⟨a0, b0⟩).2.1 sa sb
      have n1 : ¬ a < 0 := by omega
      have n2 : ¬ 0 < b := by omega
      have hw : IntKind.i64.wrap q = q := wi_ (by omega) (by omega)
      generalize hmm : a * b = m at *
      by_cases hov : b < q
      · rw [hn m (by omega)] at h
        repeat' (first | (simp -implicitDefEqProofs only [go_sem, e0, e1, e2, e3, sa, sb, n1, n2, abin_quo _ _ _ b0, abin_quo _ _ _ a0, hq, hw, hov, hmm]) | refine ag_ (fun hb => ?_) (fun hb => ?_) | refine ⟨fun hb => ?_, fun hb => ?_⟩ | fail)
        all_goals first | (exfalso; simp at *; done) | exact h _ ⟨_, _, rfl, rfl, .refl _⟩
      · obtain ⟨k1, k2⟩ := hm m (by omega) (by omega)
        rw [k1] at h
        repeat' (first | (simp -implicitDefEqProofs only [go_sem, e0, e1, e2, e3, sa, sb, n1, n2, abin_quo _ _ _ b0, abin_quo _ _ _ a0, hq, hw, hov, hmm, k2]) | refine ag_ (fun hb => ?_) (fun hb => ?_) | refine ⟨fun hb => ?_, fun hb => ?_⟩ | fail)
        all_goals first | (exfalso; simp at *; done) | exact h _ ⟨_, _, rfl, rfl, .refl _⟩
  · replace sa : a < 0 := by omega
    by_cases sb : 0 < b
    · obtain ⟨q, hq, q1, q2, q3, q4⟩ := (mul_tests ⟨a0, b0⟩).2.2.1 sa sb
      have n1 : ¬ 0 < a := by omega
      have n2 : ¬ b < 0 := by omega
      have hw : IntKind.i64.wrap q = q := wi_ (by omega) (by omega)
      generalize hmm : a * b = m at *
      by_cases hov : a < q
      · rw [hn m (by omega)] at h
        repeat' (first | (simp -implicitDefEqProofs only [go_sem, e0, e1, e2, e3, sa, sb, n1, n2, abin_quo _ _ _ b0, abin_quo _ _ _ a0, hq, hw, hov, hmm]) | refine ag_ (fun hb => ?_) (fun hb => ?_) | refine ⟨fun hb => ?_, fun hb => ?_⟩ | fail)
        all_goals first | (exfalso; simp at *; done) | exact h _ ⟨_, _, rfl, rfl, .refl _⟩
      · obtain ⟨k1, k2⟩ := hm m (by omega) (by omega)
        rw [k1] at h
        repeat' (first | (simp -implicitDefEqProofs only [go_sem, e0, e1, e2, e3, sa, sb, n1, n2, abin_quo _ _ _ b0, abin_quo _ _ _ a0, hq, hw, hov, hmm, k2]) | refine ag_ (fun hb => ?_) (fun hb => ?_) | refine ⟨fun hb => ?_, fun hb => ?_⟩ | fail)
        all_goals first | (exfalso; simp at *; done) | exact h _ ⟨_, _, rfl, rfl, .refl _⟩
    · replace sb : b < 0 := by omega
      obtain ⟨q, hq, q1, q2, q3, q4⟩ := (mul_tests ⟨a0, b0⟩).2.2.2 sa sb
      have n1 : ¬ 0 < a := by omega
      have n2 : ¬ 0 < b := by omega
      have hw : IntKind.i64.wrap q = q := wi_ (by omega) (by omega)
      generalize hmm : a * b = m at *
      by_cases hov : a < q
      · rw [hn m (by omega)] at h
        repeat' (first | (simp -implicitDefEqProofs only [go_sem, e0, e1, e2, e3, sa, sb, n1, n2, abin_quo _ _ _ b0, abin_quo _ _ _ a0, hq, hw, hov, hmm]) | refine ag_ (fun hb => ?_) (fun hb => ?_) | refine ⟨fun hb => ?_, fun hb => ?_⟩ | fail)
        all_goals first | (exfalso; simp at *; done) | exact h _ ⟨_, _, rfl, rfl, .refl _⟩
      · obtain ⟨k1, k2⟩ := hm m (by omega) (by omega)
        rw [k1] at h
        repeat' (first | (simp -implicitDefEqProofs only [go_sem, e0, e1, e2, e3, sa, sb, n1, n2, abin_quo _ _ _ b0, abin_quo _ _ _ a0, hq, hw, hov, hmm, k2]) | refine ag_ (fun hb => ?_) (fun hb => ?_) | refine ⟨fun hb => ?_, fun hb => ?_⟩ | fail)
        all_goals first | (exfalso; simp at *; done) | exact h _ ⟨_, _, rfl, rfl, .refl _⟩
end Go.Proofs.YtjbcfpkibnhodaaGreatDoor.Ab
namespace Go.Proofs.YtjbcfpkibnhodaaGreatDoor.Ab
open Go
set_option linter.unusedSimpArgs false
set_option maxHeartbeats 4000000
variable {G : Nat → Option AV}
structure Val where
  kind : Int
  int : Int
  str : Str
  bool : Bool
deriving DecidableEq
abbrev v0 : Val := ⟨0, 0, [], false⟩
def valV (v : Val) : AV := .agg [iv v.kind, iv v.int, .str v.str, .bool v.bool]
theorem value_Int_pc (n : Int) : P_ Tryz.prog G n_value_Int [iv n] (valV ⟨1, n, [], false⟩) := by
  refine pc_value_Int (Runs.of fun Φ h => ?_)
  unfold c_value_Int
  simp -implicitDefEqProofs only [go_sem]
  exact h _ ⟨_, _, rfl, rfl, .refl _⟩
theorem value_Str_pc (s : Str) : P_ Tryz.prog G n_value_Str [.str s] (valV ⟨2, 0, s, false⟩) := by
  refine pc_value_Str (Runs.of fun Φ h => ?_)
  unfold c_value_Str
  simp -implicitDefEqProofs only [go_sem]
  exact h _ ⟨_, _, rfl, rfl, .refl _⟩
theorem value_Bool_pc (b : Bool) : P_ Tryz.prog G n_value_Bool [.bool b] (valV ⟨3, 0, [], b⟩) := by
  refine pc_value_Bool (Runs.of fun Φ h => ?_)
  unfold c_value_Bool
  simp -implicitDefEqProofs only [go_sem]
  exact h _ ⟨_, _, rfl, rfl, .refl _⟩
def Val.ok (v : Val) : Bool :=
  if v.kind = 1 then v.str == [] && !v.bool else if v.kind = 2 then v.int == 0 && (!v.bool && decide ((v.str.length : Int) ≤ 4096)) else decide (v.kind = 3) && (v.int == 0 && v.str == [])
theorem value_Right_pc (v : Val) : P_ Tryz.prog G n_value_Right [valV v] (.bool v.ok) := by
  obtain ⟨k, n, s, b⟩ := v
  refine pc_value_Right (Runs.of fun Φ h => ?_)
  unfold c_value_Right
  repeat' (first | (simp -implicitDefEqProofs only [go_sem, valV]) | refine ag_ (fun hb => ?_) (fun hb => ?_) | refine ⟨fun hb => ?_, fun hb => ?_⟩ | refine ac_ (value_Int_pc _) rfl rfl ?_ | refine ac_ (value_Str_pc _) rfl rfl ?_ | refine ac_ (value_Bool_pc _) rfl rfl ?_ | fail)
  all_goals (refine h _ ⟨_, _, rfl, rfl, fe_ ?_⟩; clear h; first | rfl | simp_all [Val.ok])
theorem ref03_Right_pc (v : Val) : P_ Tryz.prog G npR_ [valV v] (.bool v.ok) := by
  obtain ⟨k, n, s, b⟩ := v
  refine pc_proctorref03_Right (Runs.of fun Φ h => ?_)
  unfold c_proctorref03_Right
  repeat' (first | (simp -implicitDefEqProofs only [go_sem, valV]) | refine ag_ (fun hb => ?_) (fun hb => ?_) | refine ⟨fun hb => ?_, fun hb => ?_⟩ | fail)
  all_goals (refine h _ ⟨_, _, rfl, rfl, fe_ ?_⟩; clear h; first | rfl | simp_all [Val.ok])
def k_ (k : Int) : Str := if k = 1 then [105, 110, 116] else if k = 2 then [115, 116, 114, 105, 110, 103] else if k = 3 then [98, 111, 111, 108] else []
theorem value_Name_pc (k : Int) : P_ Tryz.prog G n_value_Name [iv k] (.str (k_ k)) := by
  refine pc_value_Name (Runs.of fun Φ h => ?_)
  unfold c_value_Name
  repeat' (first | (simp -implicitDefEqProofs only [go_sem]) | refine ag_ (fun hb => ?_) (fun hb => ?_) | refine ⟨fun hb => ?_, fun hb => ?_⟩ | fail)
  all_goals (refine h _ ⟨_, _, rfl, rfl, fe_ ?_⟩; clear h; first | rfl | simp_all [k_])
theorem value_when_pc (b : Bool) (k : Int) : P_ Tryz.prog G n_value_when [.bool b, iv k] (iv (if b then k else 0)) := by
  refine pc_value_when (Runs.of fun Φ h => ?_)
  unfold c_value_when
  repeat' (first | (simp -implicitDefEqProofs only [go_sem]) | refine ag_ (fun hb => ?_) (fun hb => ?_) | refine ⟨fun hb => ?_, fun hb => ?_⟩ | fail)
  all_goals (refine h _ ⟨_, _, rfl, rfl, fe_ ?_⟩; clear h; first | rfl | simp_all)
def opKind (op a b : Int) : Int :=
  if op = 4 then (if a = 3 then 3 else 0)
  else if op = 5 then (if a = 1 then 1 else 0)
  else if op = 6 ∨ op = 7 then (if a = 3 ∧ b = a then 3 else 0)
  else if op = 9 ∨ op = 10 ∨ op = 11 ∨ op = 12 then (if a = 1 ∧ b = a then a else 0)
  else if op = 8 then (if (a = 1 ∨ a = 2) ∧ b = a then a else 0)
  else if op = 13 ∨ op = 14 then (if k_ a ≠ [] ∧ b = a then 3 else 0)
  else if op = 15 ∨ op = 16 then (if (a = 1 ∨ a = 2) ∧ b = a then 3 else 0)
  else 0
theorem value_Type_pc (op a b : Int) : P_ Tryz.prog G n_value_Type [iv op, iv a, iv b] (iv (opKind op a b)) := by
  refine pc_value_Type (Runs.of fun Φ h => ?_)
  unfold c_value_Type
  repeat' (first | (simp -implicitDefEqProofs only [go_sem]) | refine ag_ (fun hb => ?_) (fun hb => ?_) | refine ⟨fun hb => ?_, fun hb => ?_⟩ | refine ac_ (value_when_pc _ _) rfl rfl ?_ | refine ac_ (value_Name_pc _) rfl rfl ?_ | fail)
  all_goals (refine h _ ⟨_, _, rfl, rfl, fe_ ?_⟩; clear h; simp_all [opKind])
end Go.Proofs.YtjbcfpkibnhodaaGreatDoor.Ab
namespace Go.Proofs.YtjbcfpkibnhodaaGreatDoor.Ab
open Go
set_option linter.unusedSimpArgs false
set_option maxHeartbeats 4000000
set_option maxRecDepth 100000
variable {G : Nat → Option AV}
def numR (op a b : Int) : Int × Int :=
  if op = 5 then ovR (0 - a) else if op = 9 then ovR (a - b) else if op = 8 then ovR (a + b) else if op = 10 then ovR (a * b) else if op = 11 then divR a b else if op = 12 then modR a b else (0, 1)
def vt (r : Val × Int) : AV := .tup [valV r.1, iv r.2]
def textR (s : Str) : Val × Int := if (4096 : Int) < s.length then (v0, 3) else (⟨2, 0, s, false⟩, 0)
def lessV (a b : Val) : Bool := if ¬ a.kind = b.kind then decide (a.kind < b.kind) else if a.kind = 1 then decide (a.int < b.int) else if a.kind = 2 then Op.bytesLess a.str b.str else !a.bool && b.bool
def opR (op : Int) (a b : Val) : Val × Int :=
  if op < 4 ∨ 16 < op then (v0, 1) else if opKind op a.kind b.kind = 0 then (v0, 8)
  else if op = 4 then (⟨3, 0, [], !a.bool⟩, 0) else if op = 6 then (⟨3, 0, [], a.bool && b.bool⟩, 0) else if op = 7 then (⟨3, 0, [], a.bool || b.bool⟩, 0)
  else if op = 13 then (⟨3, 0, [], a == b⟩, 0) else if op = 14 then (⟨3, 0, [], !(a == b)⟩, 0) else if op = 15 then (⟨3, 0, [], lessV a b⟩, 0) else if op = 16 then (⟨3, 0, [], !lessV b a⟩, 0)
  else if a.kind = 2 then textR (a.str ++ b.str)
  else if (numR op a.int b.int).2 = 0 then (⟨1, (numR op a.int b.int).1, [], false⟩, 0) else (v0, (numR op a.int b.int).2)
theorem val_beq (k n : Int) (s : Str) (t : Bool) (k' n' : Int) (s' : Str) (t' : Bool) : ((⟨k, n, s, t⟩ : Val) == ⟨k', n', s', t'⟩) = (k == k' && (n == n' && (s == s' && t == t'))) := by
  rw [Bool.eq_iff_iff]
  simp
end Go.Proofs.YtjbcfpkibnhodaaGreatDoor.Ab
