/-
  Texts of values, in plain words; proctorref01.Text, proctorref02.Quote, proctorref03.Text. The library's texts, by the shelf's contracts: strings.Join, strconv.FormatInt, strings.Builder; quote.one, quote.Quote. quote.one, quote.Quote. num.Text, value.Text, core.Symbol: a symbol's text. The law CoreSymbols: plain part. The law CoreSymbols; how its automaton is read. How an automaton is read whose symbols' numbers are numbers. No claim is proved here.
-/
import Derived.Test.YtdfdiglnpekcpabGreatDoorD5
import Derived.Lib.ItoaNum
import Derived.Test.YtdfdiglnpekcpabGreatDoorShelf
import Derived.WalkKit
import Derived.Lib.Builder
import Derived.Lib.Walk
import Derived.Lib.AppendIntMem
import Derived.Test.YtdfdiglnpekcpabGreatDoorAbTrod
import Derived.Lib.AppendStr
import Derived.Test.YtdfdiglnpekcpabGreatDoorD26
import Derived.Test.YtdfdiglnpekcpabGreatDoorAbQea
namespace Go.Proofs.YtdfdiglnpekcpabGreatDoor.Ab
set_option linter.unusedSimpArgs false
open Go
set_option maxHeartbeats 4000000
variable {G : Nat → Option AV}
theorem abin_adds {a b : Str} (h : a.length + b.length ≤ 9223372036854775807) : abin .add (.str a) (.str b) = some (.str (a ++ b)) := by simp [abin, h]
def i64 (n : Int) : Prop := -9223372036854775808 ≤ n ∧ n < 9223372036854775808
/-- A digit of ten. -/
def dgt (n : Nat) : UInt8 := UInt8.ofNat (48 + n)
theorem itoa_pos {n : Int} (h : 0 ≤ n) : Lib.itoa n = Lib.decDigits n.toNat := if_neg (by omega)
theorem itoa_neg {n : Int} (h : n < 0) : Lib.itoa n = 45 :: Lib.decDigits n.natAbs := if_pos h
theorem dec_small {u : Nat} (h : u < 10) : Lib.decDigits u = [dgt u] := by rw [Lib.decDigits, dif_pos h]; rfl
theorem dec_big {u : Nat} (h : ¬ u < 10) : Lib.decDigits u = Lib.decDigits (u / 10) ++ [dgt (u % 10)] := by rw [Lib.decDigits, dif_neg h]; rfl
theorem slc_digit {n : Int} (h0 : 0 ≤ n) (h1 : n < 10) : aslc 0 (.str [48, 49, 50, 51, 52, 53, 54, 55, 56, 57]) (some (.int .i64 n)) (some (.int .i64 (n + 1))) = some (.str [dgt n.toNat]) := by
  have : n = 0 ∨ n = 1 ∨ n = 2 ∨ n = 3 ∨ n = 4 ∨ n = 5 ∨ n = 6 ∨ n = 7 ∨ n = 8 ∨ n = 9 := by omega
  rcases this with rfl | rfl | rfl | rfl | rfl | rfl | rfl | rfl | rfl | rfl <;> rfl
theorem dec_len : ∀ (k u : Nat), u < 10 ^ (k + 1) → (Lib.decDigits u).length ≤ k + 1
  | 0, u, h => by rw [dec_small (by simpa using h)]; simp
  | k + 1, u, h => by
    by_cases h10 : u < 10
    · rw [dec_small h10]; simp
    · have := dec_len k (u / 10) (by rw [Nat.pow_succ] at h; omega)
      rw [dec_big h10]
      simp
      omega
theorem itoa_len {n : Int} (h : i64 n) : (Lib.itoa n).length ≤ 20 := by
  unfold i64 at h
  by_cases h0 : 0 ≤ n
  · rw [itoa_pos h0]
    have := dec_len 18 n.toNat (by have : (10 : Nat) ^ (18 + 1) = 10000000000000000000 := by decide
                                   omega)
    omega
  · rw [itoa_neg (by omega)]
    have := dec_len 18 n.natAbs (by have : (10 : Nat) ^ (18 + 1) = 10000000000000000000 := by decide
                                    omega)
    simp
    omega
theorem ref01_Text_pc : ∀ (k : Nat) (n : Int), n.natAbs < k → i64 n → PureC Tryz.prog G n_proctorref01_Text [iv n] (.str (Lib.itoa n))
  | 0, n, h, _ => absurd h (by omega)
  | k + 1, n, hk, hn => by
    have hn' := hn
    unfold i64 at hn'
    have hlen := itoa_len hn
    refine pc_proctorref01_Text (Runs.of fun Φ h => ?_)
    unfold c_proctorref01_Text
    by_cases h0 : 0 ≤ n
    · by_cases h10 : n < 10
      · have w1 : IntKind.i64.wrap (n + 1) = n + 1 := wrap_i64 (by omega) (by omega)
        rw [itoa_pos h0, dec_small (by omega)] at h
        (try (simp -implicitDefEqProofs only [go_sem, Nat.reduceAdd, Nat.reduceSub, Nat.reduceMul, Nat.reduceLT, Nat.reduceLeDiff, Nat.reduceEqDiff, Nat.reduceBEq, Int.reduceNeg, Int.reduceAdd, Int.reduceLT, Int.reduceLE, Int.reduceToNat, Int.reduceEq, Int.reduceNe, Int.reduceBEq, Int.reduceBNe, Int.reduceMul, Int.reduceSub, reduceIte, reduceCtorEq, slc_digit h0 h10, w1])); repeat' ((first | refine at_guard (fun hb => ?_) (fun hb => ?_) | refine ⟨fun hb => ?_, fun hb => ?_⟩ | fail) <;> (try (simp -implicitDefEqProofs only [go_sem, Nat.reduceAdd, Nat.reduceSub, Nat.reduceMul, Nat.reduceLT, Nat.reduceLeDiff, Nat.reduceEqDiff, Nat.reduceBEq, Int.reduceNeg, Int.reduceAdd, Int.reduceLT, Int.reduceLE, Int.reduceToNat, Int.reduceEq, Int.reduceNe, Int.reduceBEq, Int.reduceBNe, Int.reduceMul, Int.reduceSub, reduceIte, reduceCtorEq, slc_digit h0 h10, w1])))
        all_goals first | (exfalso; simp at *; omega) | exact h _ ⟨_, _, rfl, rfl, .refl _⟩
      · have hq : n.tdiv 10 = n / 10 := Int.tdiv_eq_ediv_of_nonneg h0
        have hr : n.tmod 10 = n % 10 := Int.tmod_eq_emod_of_nonneg h0
        have ih := ref01_Text_pc k (n / 10) (by omega) (by unfold i64; omega)
        have w0 : IntKind.i64.wrap (n / 10) = n / 10 := wrap_i64 (by omega) (by omega)
        have w1 : IntKind.i64.wrap (n % 10 + 1) = n % 10 + 1 := wrap_i64 (by omega) (by omega)
        have e : Lib.itoa n = Lib.itoa (n / 10) ++ [dgt (n % 10).toNat] := by
          rw [itoa_pos h0, dec_big (by omega), itoa_pos (by omega)]
          congr 2
          · omega
          · congr 1; omega
        have hd := slc_digit (n := n % 10) (by omega) (by omega)
        have ha : abin .add (.str (Lib.itoa (n / 10))) (.str [dgt (n % 10).toNat]) = some (.str (Lib.itoa (n / 10) ++ [dgt (n % 10).toNat])) := abin_adds (by rw [e] at hlen; simp at hlen ⊢; omega)
        rw [e] at h
        generalize Lib.itoa (n / 10) = P at *
        (try (simp -implicitDefEqProofs only [go_sem, Nat.reduceAdd, Nat.reduceSub, Nat.reduceMul, Nat.reduceLT, Nat.reduceLeDiff, Nat.reduceEqDiff, Nat.reduceBEq, Int.reduceNeg, Int.reduceAdd, Int.reduceLT, Int.reduceLE, Int.reduceToNat, Int.reduceEq, Int.reduceNe, Int.reduceBEq, Int.reduceBNe, Int.reduceMul, Int.reduceSub, reduceIte, reduceCtorEq, hq, hr, w0, w1, hd, ha])); repeat' ((first | refine at_guard (fun hb => ?_) (fun hb => ?_) | refine ⟨fun hb => ?_, fun hb => ?_⟩ | refine at_call (ih) rfl rfl ?_ | fail) <;> (try (simp -implicitDefEqProofs only [go_sem, Nat.reduceAdd, Nat.reduceSub, Nat.reduceMul, Nat.reduceLT, Nat.reduceLeDiff, Nat.reduceEqDiff, Nat.reduceBEq, Int.reduceNeg, Int.reduceAdd, Int.reduceLT, Int.reduceLE, Int.reduceToNat, Int.reduceEq, Int.reduceNe, Int.reduceBEq, Int.reduceBNe, Int.reduceMul, Int.reduceSub, reduceIte, reduceCtorEq, hq, hr, w0, w1, hd, ha])))
        all_goals first | (exfalso; simp at *; omega) | exact h _ ⟨_, _, rfl, rfl, .refl _⟩
    · by_cases h10 : -10 < n
      · have w0 : IntKind.i64.wrap (0 - n) = -n := by rw [wrap_i64 (by omega) (by omega)]; omega
        have w1 : IntKind.i64.wrap (-n + 1) = -n + 1 := wrap_i64 (by omega) (by omega)
        have hd := slc_digit (n := -n) (by omega) (by omega)
        have ha : abin .add (.str [45]) (.str [dgt (-n).toNat]) = some (.str [45, dgt (-n).toNat]) := abin_adds (by simp)
        rw [itoa_neg (by omega), dec_small (by omega), show n.natAbs = (-n).toNat by omega] at h
        (try (simp -implicitDefEqProofs only [go_sem, Nat.reduceAdd, Nat.reduceSub, Nat.reduceMul, Nat.reduceLT, Nat.reduceLeDiff, Nat.reduceEqDiff, Nat.reduceBEq, Int.reduceNeg, Int.reduceAdd, Int.reduceLT, Int.reduceLE, Int.reduceToNat, Int.reduceEq, Int.reduceNe, Int.reduceBEq, Int.reduceBNe, Int.reduceMul, Int.reduceSub, reduceIte, reduceCtorEq, w0, w1, hd, ha])); repeat' ((first | refine at_guard (fun hb => ?_) (fun hb => ?_) | refine ⟨fun hb => ?_, fun hb => ?_⟩ | fail) <;> (try (simp -implicitDefEqProofs only [go_sem, Nat.reduceAdd, Nat.reduceSub, Nat.reduceMul, Nat.reduceLT, Nat.reduceLeDiff, Nat.reduceEqDiff, Nat.reduceBEq, Int.reduceNeg, Int.reduceAdd, Int.reduceLT, Int.reduceLE, Int.reduceToNat, Int.reduceEq, Int.reduceNe, Int.reduceBEq, Int.reduceBNe, Int.reduceMul, Int.reduceSub, reduceIte, reduceCtorEq, w0, w1, hd, ha])))
        all_goals first | (exfalso; simp at *; omega) | exact h _ ⟨_, _, rfl, rfl, .refl _⟩
      · have hq : n.tdiv 10 = -((-n) / 10) := by
          rw [show n = -(-n) by omega, Int.neg_tdiv, Int.tdiv_eq_ediv_of_nonneg (by omega)]
          omega
        have hr : n.tmod 10 = -((-n) % 10) := by
          rw [show n = -(-n) by omega, Int.neg_tmod, Int.tmod_eq_emod_of_nonneg (by omega)]
          omega
        have ih := ref01_Text_pc k (-((-n) / 10)) (by omega) (by unfold i64; omega)
        have w0 : IntKind.i64.wrap (-((-n) / 10)) = -((-n) / 10) := wrap_i64 (by omega) (by omega)
        have w2 : IntKind.i64.wrap (0 - -((-n) % 10)) = (-n) % 10 := by rw [wrap_i64 (by omega) (by omega)]; omega
        have w1 : IntKind.i64.wrap ((-n) % 10 + 1) = (-n) % 10 + 1 := wrap_i64 (by omega) (by omega)
        have e : Lib.itoa n = Lib.itoa (-((-n) / 10)) ++ [dgt ((-n) % 10).toNat] := by
          rw [itoa_neg (by omega), dec_big (by omega), itoa_neg (by omega)]
          rw [List.cons_append]
          congr 2
          · congr 1; omega
          · congr 2; omega
        have hd := slc_digit (n := (-n) % 10) (by omega) (by omega)
        have ha : abin .add (.str (Lib.itoa (-((-n) / 10)))) (.str [dgt ((-n) % 10).toNat]) = some (.str (Lib.itoa (-((-n) / 10)) ++ [dgt ((-n) % 10).toNat])) := abin_adds (by rw [e] at hlen; simp at hlen ⊢; omega)
        rw [e] at h
        generalize Lib.itoa (-((-n) / 10)) = P at *
        (try (simp -implicitDefEqProofs only [go_sem, Nat.reduceAdd, Nat.reduceSub, Nat.reduceMul, Nat.reduceLT, Nat.reduceLeDiff, Nat.reduceEqDiff, Nat.reduceBEq, Int.reduceNeg, Int.reduceAdd, Int.reduceLT, Int.reduceLE, Int.reduceToNat, Int.reduceEq, Int.reduceNe, Int.reduceBEq, Int.reduceBNe, Int.reduceMul, Int.reduceSub, reduceIte, reduceCtorEq, hq, hr, w0, w1, w2, hd, ha])); repeat' ((first | refine at_guard (fun hb => ?_) (fun hb => ?_) | refine ⟨fun hb => ?_, fun hb => ?_⟩ | refine at_call (ih) rfl rfl ?_ | fail) <;> (try (simp -implicitDefEqProofs only [go_sem, Nat.reduceAdd, Nat.reduceSub, Nat.reduceMul, Nat.reduceLT, Nat.reduceLeDiff, Nat.reduceEqDiff, Nat.reduceBEq, Int.reduceNeg, Int.reduceAdd, Int.reduceLT, Int.reduceLE, Int.reduceToNat, Int.reduceEq, Int.reduceNe, Int.reduceBEq, Int.reduceBNe, Int.reduceMul, Int.reduceSub, reduceIte, reduceCtorEq, hq, hr, w0, w1, w2, hd, ha])))
        all_goals first | (exfalso; simp at *; omega) | exact h _ ⟨_, _, rfl, rfl, .refl _⟩
/-- A digit of sixteen. -/
def hexD (n : Nat) : UInt8 := UInt8.ofNat (if n < 10 then 48 + n else 87 + n)
/-- Does a byte stand as it is? -/
def shownS (c : UInt8) : Bool := decide (32 ≤ c.toNat) && (decide (c.toNat ≤ 126) && (!(c.toNat == 34) && !(c.toNat == 92)))
def oneS (c : UInt8) : Str :=
  if c.toNat = 34 then [92, 34] else if c.toNat = 92 then [92, 92] else if c.toNat = 10 then [92, 110] else if c.toNat = 13 then [92, 114] else if c.toNat = 9 then [92, 116]
  else if c.toNat < 32 ∨ 126 < c.toNat then [92, 120, hexD (c.toNat / 16), hexD (c.toNat % 16)] else [c]
def quoteS (s : Str) : Str := [34] ++ s.flatMap oneS ++ [34]
def valText (v : Val) : Str := if v.kind = 1 then Lib.itoa v.int else if v.kind = 2 then quoteS v.str else if v.bool = true then [116, 114, 117, 101] else [102, 97, 108, 115, 101]
theorem slc_hex {n : Int} (h0 : 0 ≤ n) (h1 : n < 16) : aslc 0 (.str [48, 49, 50, 51, 52, 53, 54, 55, 56, 57, 97, 98, 99, 100, 101, 102]) (some (.int .i64 n)) (some (.int .i64 (n + 1))) = some (.str [hexD n.toNat]) := by
  have : n = 0 ∨ n = 1 ∨ n = 2 ∨ n = 3 ∨ n = 4 ∨ n = 5 ∨ n = 6 ∨ n = 7 ∨ n = 8 ∨ n = 9 ∨ n = 10 ∨ n = 11 ∨ n = 12 ∨ n = 13 ∨ n = 14 ∨ n = 15 := by omega
  rcases this with rfl | rfl | rfl | rfl | rfl | rfl | rfl | rfl | rfl | rfl | rfl | rfl | rfl | rfl | rfl | rfl <;> rfl
theorem ref02_hex_pc (n : Int) (h0 : 0 ≤ n) (h1 : n < 16) : PureC Tryz.prog G n_proctorref02_hex [iv n] (.str [hexD n.toNat]) := by
  have w1 : IntKind.i64.wrap (n + 1) = n + 1 := wrap_i64 (by omega) (by omega)
  refine pc_proctorref02_hex (Runs.of fun Φ h => ?_)
  unfold c_proctorref02_hex
  simp -implicitDefEqProofs only [go_sem, Nat.reduceAdd, Nat.reduceSub, Nat.reduceMul, Nat.reduceLT, Nat.reduceLeDiff, Nat.reduceEqDiff, Nat.reduceBEq, Int.reduceNeg, Int.reduceAdd, Int.reduceLT, Int.reduceLE, Int.reduceToNat, Int.reduceEq, Int.reduceNe, Int.reduceBEq, Int.reduceBNe, Int.reduceMul, Int.reduceSub, reduceIte, reduceCtorEq, slc_hex h0 h1, w1]
  exact h _ ⟨_, _, rfl, rfl, .refl _⟩
theorem u8_lt (c : UInt8) : c.toNat < 256 := c.toNat_lt
theorem ref02_One_pc (c : UInt8) : PureC Tryz.prog G n_proctorref02_One [.int .u8 c.toNat] (.str (oneS c)) := by
  have hc := u8_lt c
  have wc : IntKind.i64.wrap (c.toNat : Int) = c.toNat := wrap_i64 (by omega) (by omega)
  have hq : (c.toNat : Int).tdiv 16 = (c.toNat / 16 : Nat) := by rw [Int.tdiv_eq_ediv_of_nonneg (by omega)]; omega
  have hr : (c.toNat : Int).tmod 16 = (c.toNat % 16 : Nat) := by rw [Int.tmod_eq_emod_of_nonneg (by omega)]; omega
  have wq : IntKind.i64.wrap ((c.toNat / 16 : Nat) : Int) = (c.toNat / 16 : Nat) := wrap_i64 (by omega) (by omega)
  have h1 := ref02_hex_pc (G := G) ((c.toNat / 16 : Nat) : Int) (by omega) (by omega)
  have h2 := ref02_hex_pc (G := G) ((c.toNat % 16 : Nat) : Int) (by omega) (by omega)
  rw [Int.toNat_natCast] at h1 h2
  have a1 : abin .add (.str [92, 120]) (.str [hexD (c.toNat / 16)]) = some (.str [92, 120, hexD (c.toNat / 16)]) := abin_adds (by simp)
  have a2 : abin .add (.str [92, 120, hexD (c.toNat / 16)]) (.str [hexD (c.toNat % 16)]) = some (.str [92, 120, hexD (c.toNat / 16), hexD (c.toNat % 16)]) := abin_adds (by simp)
  have hu : UInt8.ofNat (c.toNat : Int).toNat = c := by rw [Int.toNat_natCast]; simp
  refine pc_proctorref02_One (Runs.of fun Φ h => ?_)
  unfold c_proctorref02_One
  generalize hx : hexD (c.toNat / 16) = x at *
  generalize hy : hexD (c.toNat % 16) = y at *
  generalize hw : oneS c = w at *
  unfold oneS at hw
  rw [hx, hy] at hw
  (try (simp -implicitDefEqProofs only [go_sem, Nat.reduceAdd, Nat.reduceSub, Nat.reduceMul, Nat.reduceLT, Nat.reduceLeDiff, Nat.reduceEqDiff, Nat.reduceBEq, Int.reduceNeg, Int.reduceAdd, Int.reduceLT, Int.reduceLE, Int.reduceToNat, Int.reduceEq, Int.reduceNe, Int.reduceBEq, Int.reduceBNe, Int.reduceMul, Int.reduceSub, reduceIte, reduceCtorEq, wc, hq, hr, wq, a1, a2, hu])); repeat' ((first | refine at_guard (fun hb => ?_) (fun hb => ?_) | refine ⟨fun hb => ?_, fun hb => ?_⟩ | refine at_call (h1) rfl rfl ?_ | refine at_call (h2) rfl rfl ?_ | fail) <;> (try (simp -implicitDefEqProofs only [go_sem, Nat.reduceAdd, Nat.reduceSub, Nat.reduceMul, Nat.reduceLT, Nat.reduceLeDiff, Nat.reduceEqDiff, Nat.reduceBEq, Int.reduceNeg, Int.reduceAdd, Int.reduceLT, Int.reduceLE, Int.reduceToNat, Int.reduceEq, Int.reduceNe, Int.reduceBEq, Int.reduceBNe, Int.reduceMul, Int.reduceSub, reduceIte, reduceCtorEq, wc, hq, hr, wq, a1, a2, hu])))
  all_goals
    refine h _ ⟨_, _, rfl, rfl, fit_eq ?_⟩
    rw [← hw]
    clear h h1 h2 a1 a2 hw hx hy hq hr wq wc hu
    simp only [beq_iff_eq, beq_eq_false_iff_ne, decide_eq_true_eq, decide_eq_false_iff_not, Bool.not_true, Bool.not_false] at *
    first
      | (rw [if_pos (by omega)]; done)
      | (rw [if_neg (by omega), if_pos (by omega)]; done)
      | (rw [if_neg (by omega), if_neg (by omega), if_pos (by omega)]; done)
      | (rw [if_neg (by omega), if_neg (by omega), if_neg (by omega), if_pos (by omega)]; done)
      | (rw [if_neg (by omega), if_neg (by omega), if_neg (by omega), if_neg (by omega), if_pos (by omega)]; done)
      | (rw [if_neg (by omega), if_neg (by omega), if_neg (by omega), if_neg (by omega), if_neg (by omega), if_pos (by omega)]; done)
      | (rw [if_neg (by omega), if_neg (by omega), if_neg (by omega), if_neg (by omega), if_neg (by omega), if_neg (by omega)]; done)
      | (rw [if_neg (by omega), if_neg (by omega), if_neg (by omega), if_neg (by omega), if_neg (by omega), if_neg (by omega)]; simp)
theorem oneS_len (c : UInt8) : 1 ≤ (oneS c).length ∧ (oneS c).length ≤ 4 := by
  unfold oneS
  repeat' split
  all_goals simp
theorem flatOne_len (s : Str) : (s.flatMap oneS).length ≤ 4 * s.length := by
  induction s with
  | nil => simp
  | cons c r ih =>
    have := oneS_len c
    rw [List.flatMap_cons, List.length_append, List.length_cons]
    omega
theorem take_flat_succ {s : Str} {i : Nat} {c : UInt8} (h : s[i]? = some c) : (s.take (i + 1)).flatMap oneS = (s.take i).flatMap oneS ++ oneS c := by
  rw [List.take_add_one, h]
  simp
theorem ref02_Quote_pc (s : Str) (hs : s.length ≤ 1000000) : PureC Tryz.prog G n_proctorref02_Quote [.str s] (.str (quoteS s)) := by
  refine pc_proctorref02_Quote (Runs.of fun Φ h => ?_)
  unfold c_proctorref02_Quote
  simp -implicitDefEqProofs only [go_sem, Nat.reduceAdd, Nat.reduceSub, Nat.reduceMul, Nat.reduceLT, Nat.reduceLeDiff, Nat.reduceEqDiff, Nat.reduceBEq, Int.reduceNeg, Int.reduceAdd, Int.reduceLT, Int.reduceLE, Int.reduceToNat, Int.reduceEq, Int.reduceNe, Int.reduceBEq, Int.reduceBNe, Int.reduceMul, Int.reduceSub, reduceIte, reduceCtorEq]
  refine at_loop (fun n st => ∃ (i : Nat) (o : Str), i + n = s.length ∧ st = ⟨19, [(0, .str s), (3, .str o), (4, iv i)], []⟩ ∧ o = 34 :: (s.take i).flatMap oneS) s.length ⟨0, [34], by simp, rfl, by simp⟩ ?_
  rintro I hI n st ⟨i, o, hi, rfl, rfl⟩
  simp -implicitDefEqProofs only [go_sem, Nat.reduceAdd, Nat.reduceSub, Nat.reduceMul, Nat.reduceLT, Nat.reduceLeDiff, Nat.reduceEqDiff, Nat.reduceBEq, Int.reduceNeg, Int.reduceAdd, Int.reduceLT, Int.reduceLE, Int.reduceToNat, Int.reduceEq, Int.reduceNe, Int.reduceBEq, Int.reduceBNe, Int.reduceMul, Int.reduceSub, reduceIte, reduceCtorEq]
  refine ⟨fun hlt => ?_, fun hge => ?_⟩
  · have hlt' : i < s.length := by omega
    obtain ⟨c, hc, hm⟩ := at_some hlt'
    have hw := wrap_succ hlt' (by omega)
    have h1 := ref02_One_pc (G := G) c
    have hl := flatOne_len (s.take i)
    have ho := oneS_len c
    have htl : (s.take i).length = i := by simp; omega
    have ha : abin .add (.str (34 :: (s.take i).flatMap oneS)) (.str (oneS c)) = some (.str (34 :: (s.take i).flatMap oneS ++ oneS c)) := abin_adds (by rw [List.length_cons]; omega)
    have hnext : again I n ⟨19, [(0, .str s), (3, .str (34 :: (s.take i).flatMap oneS ++ oneS c)), (4, iv (i + 1 : Nat))], []⟩ := at_again (n - 1) (by omega) (hI _ _ ⟨i + 1, _, by omega, rfl, by rw [take_flat_succ hc]; simp⟩)
    generalize 34 :: (s.take i).flatMap oneS = P at *
    generalize oneS c = o at *
    (try (simp -implicitDefEqProofs only [go_sem, Nat.reduceAdd, Nat.reduceSub, Nat.reduceMul, Nat.reduceLT, Nat.reduceLeDiff, Nat.reduceEqDiff, Nat.reduceBEq, Int.reduceNeg, Int.reduceAdd, Int.reduceLT, Int.reduceLE, Int.reduceToNat, Int.reduceEq, Int.reduceNe, Int.reduceBEq, Int.reduceBNe, Int.reduceMul, Int.reduceSub, reduceIte, reduceCtorEq, aidx_at hc, ha, hw])); repeat' ((first | refine at_guard (fun hb => ?_) (fun hb => ?_) | refine ⟨fun hb => ?_, fun hb => ?_⟩ | refine at_call (h1) rfl rfl ?_ | fail) <;> (try (simp -implicitDefEqProofs only [go_sem, Nat.reduceAdd, Nat.reduceSub, Nat.reduceMul, Nat.reduceLT, Nat.reduceLeDiff, Nat.reduceEqDiff, Nat.reduceBEq, Int.reduceNeg, Int.reduceAdd, Int.reduceLT, Int.reduceLE, Int.reduceToNat, Int.reduceEq, Int.reduceNe, Int.reduceBEq, Int.reduceBNe, Int.reduceMul, Int.reduceSub, reduceIte, reduceCtorEq, aidx_at hc, ha, hw])))
    exact hnext
  · rw [List.take_of_length_le (by omega)]
    have hl := flatOne_len s
    have ha : abin .add (.str (34 :: s.flatMap oneS)) (.str [34]) = some (.str (34 :: s.flatMap oneS ++ [34])) := abin_adds (by rw [List.length_cons]; simp only [List.length_cons, List.length_nil]; omega)
    have hq : quoteS s = 34 :: s.flatMap oneS ++ [34] := rfl
    rw [hq] at h
    generalize 34 :: s.flatMap oneS = P at *
    try (simp -implicitDefEqProofs only [go_sem, Nat.reduceAdd, Nat.reduceSub, Nat.reduceMul, Nat.reduceLT, Nat.reduceLeDiff, Nat.reduceEqDiff, Nat.reduceBEq, Int.reduceNeg, Int.reduceAdd, Int.reduceLT, Int.reduceLE, Int.reduceToNat, Int.reduceEq, Int.reduceNe, Int.reduceBEq, Int.reduceBNe, Int.reduceMul, Int.reduceSub, reduceIte, reduceCtorEq, ha])
    exact h _ ⟨_, _, rfl, rfl, .refl _⟩
theorem ref03_Text_pc (v : Val) (hn : i64 v.int) (hs : v.str.length ≤ 1000000) : PureC Tryz.prog G n_proctorref03_Text [valV v] (.str (valText v)) := by
  obtain ⟨k, n, s, b⟩ := v
  have h1 := ref01_Text_pc (G := G) (n.natAbs + 1) n (by omega) hn
  have h2 := ref02_Quote_pc (G := G) s hs
  refine pc_proctorref03_Text (Runs.of fun Φ h => ?_)
  unfold c_proctorref03_Text
  unfold valText at h
  dsimp only at h
  generalize Lib.itoa n = x at *
  generalize quoteS s = y at *
  (try (simp -implicitDefEqProofs only [go_sem, Nat.reduceAdd, Nat.reduceSub, Nat.reduceMul, Nat.reduceLT, Nat.reduceLeDiff, Nat.reduceEqDiff, Nat.reduceBEq, Int.reduceNeg, Int.reduceAdd, Int.reduceLT, Int.reduceLE, Int.reduceToNat, Int.reduceEq, Int.reduceNe, Int.reduceBEq, Int.reduceBNe, Int.reduceMul, Int.reduceSub, reduceIte, reduceCtorEq, valV])); repeat' ((first | refine at_guard (fun hb => ?_) (fun hb => ?_) | refine ⟨fun hb => ?_, fun hb => ?_⟩ | refine at_call (h1) rfl rfl ?_ | refine at_call (h2) rfl rfl ?_ | fail) <;> (try (simp -implicitDefEqProofs only [go_sem, Nat.reduceAdd, Nat.reduceSub, Nat.reduceMul, Nat.reduceLT, Nat.reduceLeDiff, Nat.reduceEqDiff, Nat.reduceBEq, Int.reduceNeg, Int.reduceAdd, Int.reduceLT, Int.reduceLE, Int.reduceToNat, Int.reduceEq, Int.reduceNe, Int.reduceBEq, Int.reduceBNe, Int.reduceMul, Int.reduceSub, reduceIte, reduceCtorEq, valV])))
  all_goals
    refine h _ ⟨_, _, rfl, rfl, fit_eq ?_⟩
    clear h h1 h2
    simp_all
end Go.Proofs.YtdfdiglnpekcpabGreatDoor.Ab
namespace Go.Proofs.YtdfdiglnpekcpabGreatDoor.Ab
set_option linter.unusedSimpArgs false
open Go Go.RowKit
variable {G : Nat → Option AV} {P : Program}
/-- A contract on a text, out of a walk. -/
theorem PureC.of_str {f : Nat} {args : List AV} {r : Str} (h : ∀ (w : World) (F : Nat → Prop) (vs : Array Value), Good w F G → ArgsR w F args vs → Calls P f vs w fun e w' => e = .returned (.string ⟨r.toArray⟩) ∧ Below w.heap.size w w') : PureC P G f args (.str r) := by
  intro w F vs hg ha
  refine (h w F vs hg ha).mono ?_
  rintro e w' ⟨rfl, hb⟩
  exact ⟨_, F, rfl, fun b h => h, fun b h => .inl h, fun b h => Nat.lt_of_lt_of_le (hg.1 b h) hb.size, .str _ _, hb⟩
/-- .. and back. -/
theorem PureC.to_str {f : Nat} {args : List AV} {r : Str} (h : PureC P G f args (.str r)) {w : World} {F : Nat → Prop} {vs : Array Value} (hg : Good w F G) (ha : ArgsR w F args vs) : Calls P f vs w fun e w' => e = .returned (.string ⟨r.toArray⟩) ∧ Below w.heap.size w w' := by
  refine (h w F vs hg ha).mono ?_
  rintro e w' ⟨v, F', rfl, _, _, _, hr, hb⟩
  cases hr
  exact ⟨rfl, hb⟩
theorem PureC.to_bool {f : Nat} {args : List AV} {r : Bool} (h : PureC P G f args (.bool r)) {w : World} {F : Nat → Prop} {vs : Array Value} (hg : Good w F G) (ha : ArgsR w F args vs) : Calls P f vs w fun e w' => e = .returned (.bool r) ∧ Below w.heap.size w w' := by
  refine (h w F vs hg ha).mono ?_
  rintro e w' ⟨v, F', rfl, _, _, _, hr, hb⟩
  cases hr
  exact ⟨rfl, hb⟩
theorem PureC.to_int {f : Nat} {args : List AV} {k : IntKind} {r : Int} (h : PureC P G f args (.int k r)) {w : World} {F : Nat → Prop} {vs : Array Value} (hg : Good w F G) (ha : ArgsR w F args vs) : Calls P f vs w fun e w' => e = .returned (.int k r) ∧ Below w.heap.size w w' := by
  refine (h w F vs hg ha).mono ?_
  rintro e w' ⟨v, F', rfl, _, _, _, hr, hb⟩
  cases hr
  exact ⟨rfl, hb⟩
theorem good_below {w w' : World} {F : Nat → Prop} (hg : Good w F G) {n : Nat} (hn : w.heap.size ≤ n) (hb : Below n w w') : Good w' F G :=
  hg.mono (fun b h => hb.block b (Nat.lt_of_lt_of_le (hg.1 b h) hn)) (fun _ h => h) (fun b h => Nat.lt_of_lt_of_le (hg.1 b h) hb.size)
theorem argsR_1 {w : World} {F : Nat → Prop} {c : AV} {vs : Array Value} (h : ArgsR w F [c] vs) : ∃ v, vs = #[v] ∧ Rd w F noNames c v := by
  obtain ⟨hs, hr⟩ := h
  obtain ⟨l⟩ := vs
  match l, hs with
  | [v], _ => exact ⟨v, rfl, hr 0 c v rfl rfl⟩
theorem argsR_2 {w : World} {F : Nat → Prop} {c d : AV} {vs : Array Value} (h : ArgsR w F [c, d] vs) : ∃ v u, vs = #[v, u] ∧ Rd w F noNames c v ∧ Rd w F noNames d u := by
  obtain ⟨hs, hr⟩ := h
  obtain ⟨l⟩ := vs
  match l, hs with
  | [v, u], _ => exact ⟨v, u, rfl, hr 0 c v rfl rfl, hr 1 d u rfl rfl⟩
theorem builder_below {T e : TypeId} {B b : Nat} {bs : List Value} {w w' : World} (h : Lib.IsBuilder T e B b bs w) (hb : Below w.heap.size w w') : Lib.IsBuilder T e B b bs w' := by
  have one : ∀ p, Lib.BuilderAt T e B b p bs w → Lib.BuilderAt T e B b p bs w' := fun p h => by
    have hlt := h.lt
    obtain ⟨hB, v, hbk, ⟨hl, hown⟩, hne⟩ := h
    refine ⟨hB, v, by rw [hb.block b hlt]; exact hbk, ⟨hl, ?_⟩, hne⟩
    rcases hown with h | ⟨g, cap, cur, hv, hBg, hg, rest⟩
    · exact .inl h
    · exact .inr ⟨g, cap, cur, hv, hBg, by rw [hb.block g (Array.getElem?_eq_some_iff.1 hg).1]; exact hg, rest⟩
  exact h.imp (one _) (one _)

/-- A variable that is known to be a table of numbers. -/
theorem tab_of {w : World} {F : Nat → Prop} {g : Nat} {n : String} {k : IntKind} {l : List Int} (hn : P.globalNamed n = some g) (hg : Good w F G) (h : G g = some (.agg (l.map (AV.int k)))) : Lib.TabIs P w n k l := by
  obtain ⟨h1, arr, t, fz, h2, h3⟩ := hg.2 g _ h
  unfold Lib.TabIs World.var?
  rw [hn]
  simp only [Option.bind_some, h2]
  have hs : arr.size = l.length := by simpa [AV.cells] using h3
  congr 1
  apply Array.ext
  · simp [hs]
  · intro i hi hi'
    rw [hs] at hi
    cases h1 with
    | eptr _ _ _ _ _ u hF hw h1 h =>
      have e1 := hw i (by simpa [AV.cells] using hi)
      have e2 := h i (.int k l[i]) (by simp [AV.cells, hi])
      simp only [World.cell?, Nat.zero_add, h2, Option.isSome_none, if_false] at e1
      simp only [List.getElem_toArray, List.getElem_map]
      cases e2' : u i with
      | int k' n' => 
        rw [e2'] at e2
        cases e2
        rw [e2'] at e1
        have e3 : arr[i]? = some (Value.int k l[i]) := by simpa using e1
        exact (Array.getElem?_eq_some_iff.1 e3).2
      | _ => rw [e2'] at e2; cases e2
theorem strconv_FormatInt_pc (hG : G 5 = some (.agg (Lib.pow10Tab.map (AV.int .u64)))) (n : Int) (hn : i64 n) : PureC Tryz.prog G n_strconv_FormatInt [iv n, iv 10] (.str (Lib.itoa n)) := by
  refine PureC.of_str fun w F vs hg ha => ?_
  obtain ⟨v, u, rfl, h1, h2⟩ := argsR_2 ha
  cases h1
  cases h2
  unfold i64 at hn
  refine (Tryz.strconv_FormatInt_10 n hn.1 (by omega) w (tab_of (by kernel_rfl) hg hG)).mono ?_
  rintro e w' ⟨rfl, k, os, rfl⟩
  exact ⟨rfl, Lib.below_grow _ _ (Nat.le_refl _) _ _⟩
/-- Texts in a row, one by one. -/
theorem strings_Join_pc (xs : List Str) (sep : Str) (hN : xs.length ≤ 1000000) (hlen : (Lib.join xs sep).length ≤ 140737488355328) : PureC Tryz.prog G n_strings_Join [.seq 1 (xs.map AV.str), .str sep] (.str (Lib.join xs sep)) := by
  refine PureC.of_str fun w F vs hg ha => ?_
  obtain ⟨v, u, rfl, h1, h2⟩ := argsR_2 ha
  cases h2
  have hmap : (xs.map fun s => (⟨s.toArray⟩ : ByteArray)).map (fun x => x.data.toList) = xs := by
    rw [List.map_map]
    conv => rhs; rw [← List.map_id xs]
    rfl
  have emp : ∀ a c, xs = [] → v = .slice a 0 c → Calls Tryz.prog n_strings_Join #[v, .string ⟨sep.toArray⟩] w fun e w' => e = .returned (.string ⟨(Lib.join xs sep).toArray⟩) ∧ Below w.heap.size w w' := fun a c hx hv => by
    subst hx hv
    refine (Tryz.strings_Join_none a c ⟨sep.toArray⟩ w).mono ?_
    rintro e w' ⟨rfl, rfl⟩
    exact ⟨rfl, Below.refl _ _⟩
  generalize hes : xs.map AV.str = es at h1
  cases h1 with
  | seq0 _ _ a cap => exact emp a cap (by simpa using hes) rfl
  | seq _ _ _ g o cap u' h0 hF hc hm hs hw h1 h =>
    have hl : es.length = xs.length := by rw [← hes]; simp
    by_cases hx0 : xs = []
    · exact emp (some ⟨g, o, .none⟩) cap hx0 (by rw [hl, hx0]; rfl)
    rw [hl]
    have hpos : 0 < xs.length := List.length_pos_iff.2 hx0
    have each : ∀ (j : Nat) (s : Str), xs[j]? = some s → w.cell? ⟨g, o + j, none⟩ = some (.string ⟨s.toArray⟩) := fun j s hj => by
      have hjl := (List.getElem?_eq_some_iff.1 hj).1
      have e1 := hw j (by omega)
      have e2 := h j (.str s) 0 (.str s) (by rw [← hes, List.getElem?_map, hj]; rfl) rfl
      rw [e1]
      simp only [Nat.mul_one, Nat.add_zero] at e2
      congr 1
      generalize u' j = z at *
      cases e2
      rfl
    have key := Tryz.strings_Join g o cap (xs.map fun s => ⟨s.toArray⟩) ⟨sep.toArray⟩ w (fun j x hj => by
        rw [List.getElem?_map] at hj
        obtain ⟨s, hs, rfl⟩ := Option.map_eq_some_iff.1 hj
        exact each j s hs) (hg.1 g hF) (by simp; omega) (by simpa using hl ▸ hc) (by rw [hmap]; simpa using hlen)
    rw [List.length_map, hmap] at key
    simpa using key
/-- What is written to a Builder. -/
theorem builder_byte (B b : Nat) (bs : List Value) (c : Int) (w : World) (h : Lib.IsBuilder 185 5 B b bs w) (hlen : bs.length + 1 ≤ 140737488355328) (hBw : B ≤ w.heap.size) :
    Calls Tryz.prog 158 #[.pointer (some ⟨b, 0, none⟩), .int .u8 c] w fun e w' => e = .returned .nilIface ∧ (Lib.IsBuilder 185 5 B b (bs ++ [.int .u8 c]) w' ∧ Below B w w') :=
  (Any.Builder_WriteByte Tryz.laysW Tryz.extraW B b bs c w h hlen hBw).mono fun _ _ ⟨h1, h2, h3⟩ => ⟨h1, .inr h2, h3⟩
theorem builder_str (B b : Nat) (bs : List Value) (s : Str) (w : World) (h : Lib.IsBuilder 185 5 B b bs w) (hlen : bs.length + s.length ≤ 140737488355328) (hBw : B ≤ w.heap.size) :
    Calls Tryz.prog 103 #[.pointer (some ⟨b, 0, none⟩), .string ⟨s.toArray⟩] w fun e w' => e = .returned (.tuple #[.int .i64 s.length, .nilIface]) ∧ (Lib.IsBuilder 185 5 B b (bs ++ Lib.byteCells s) w' ∧ Below B w w') := by
  have hs : (⟨s.toArray⟩ : ByteArray).size = s.length := by simp [ByteArray.size]
  refine (Any.Builder_WriteString { Tryz.lays156 with } Tryz.Builder_Extra_156 B b bs ⟨s.toArray⟩ w h (by rw [hs]; exact hlen) hBw).mono ?_
  rintro e w' ⟨rfl, h2, h3⟩
  rw [hs]
  exact ⟨rfl, .inr (by rw [← Lib.strCells_toArray]; exact h2), h3⟩
end Go.Proofs.YtdfdiglnpekcpabGreatDoor.Ab
namespace Go.Proofs.YtdfdiglnpekcpabGreatDoor.Ab
set_option linter.unusedSimpArgs false
open Go Go.RowKit
variable {G : Nat → Option AV}
abbrev n_quote_one : Nat := 159
def marksL : List Int := [34, 92, 10, 13, 9]
def lettersL : List Int := [34, 92, 110, 114, 116]
theorem quote_shown_pc (c : UInt8) : PureC Tryz.prog G n_quote_shown [.int .u8 c.toNat] (.bool (shownS c)) := by
  refine pc_quote_shown (Runs.of fun Φ h => ?_)
  unfold c_quote_shown
  (try (simp -implicitDefEqProofs only [go_sem, Nat.reduceAdd, Nat.reduceSub, Nat.reduceMul, Nat.reduceLT, Nat.reduceLeDiff, Nat.reduceEqDiff, Nat.reduceBEq, Int.reduceNeg, Int.reduceAdd, Int.reduceLT, Int.reduceLE, Int.reduceToNat, Int.reduceEq, Int.reduceNe, Int.reduceBEq, Int.reduceBNe, Int.reduceMul, Int.reduceSub, reduceIte, reduceCtorEq])); repeat' ((first | refine at_guard (fun hb => ?_) (fun hb => ?_) | refine ⟨fun hb => ?_, fun hb => ?_⟩ | fail) <;> (try (simp -implicitDefEqProofs only [go_sem, Nat.reduceAdd, Nat.reduceSub, Nat.reduceMul, Nat.reduceLT, Nat.reduceLeDiff, Nat.reduceEqDiff, Nat.reduceBEq, Int.reduceNeg, Int.reduceAdd, Int.reduceLT, Int.reduceLE, Int.reduceToNat, Int.reduceEq, Int.reduceNe, Int.reduceBEq, Int.reduceBNe, Int.reduceMul, Int.reduceSub, reduceIte, reduceCtorEq])))
  all_goals
    refine h _ ⟨_, _, rfl, rfl, fitB ?_⟩
    clear h
    unfold shownS
    rw [Bool.eq_iff_iff]
    simp at *
    try omega
theorem foldl_push2 : ∀ (l : List UInt8) (acc : ByteArray), (l.map fun b => (b.toNat : Int)).foldl (fun r n => r.push (UInt8.ofNat n.toNat)) acc = ⟨acc.data ++ l.toArray⟩
  | [], acc => by simp
  | c :: l, acc => by
    rw [List.map_cons, List.foldl_cons, foldl_push2 l, Int.toNat_natCast]
    simp [ByteArray.push]
theorem run_conv {t s e : Nat} (hs : Tryz.prog.underlying s = some (.slice e)) (he : Tryz.prog.underlying e = some (.int .u8)) (hd : Tryz.prog.underlying t = some .string) (w : World) (b o cap : Nat) (l : List UInt8)
    (h : ∀ (j : Nat) c, l[j]? = some c → w.cell? ⟨b, o + j, none⟩ = some (.int .u8 c.toNat)) : (convert s t (.slice (some ⟨b, o, none⟩) l.length cap)).run Tryz.prog w = .ok (.string ⟨l.toArray⟩) w := by
  rw [run_convert_bytes_string w s t e _ _ _ hs he hd, run_bytesToString w ⟨b, o, none⟩ l.length cap (l.map fun b => (b.toNat : Int)) ?_, foldl_push2]
  · rw [show ByteArray.empty.data ++ l.toArray = l.toArray from by simp [ByteArray.empty, ByteArray.emptyWithCapacity]; rfl]
  · have := run_loadCells_list (P := Tryz.prog) (w := w) ⟨b, o, none⟩ (l.map fun c => Value.int .u8 c.toNat) (fun j v hv => by
      rw [List.getElem?_map] at hv
      obtain ⟨c, hc, rfl⟩ := Option.map_eq_some_iff.1 hv
      have e := h j c hc
      unfold Addr.add
      by_cases hj : j = 0
      · subst hj
        simpa using e
      · simpa [hj] using e)
    rw [List.length_map] at this
    rw [this, List.map_map]
    rfl
/-- Of a known table of numbers: all of it, as a slice; one cell. -/
theorem tab_slice {w : World} {F : Nat → Prop} {g : Nat} {k : IntKind} {l : List Int} (hl : 0 < l.length) (hm : l.length ≤ maxLen) (hg : Good w F G) (h : G g = some (.agg (l.map (AV.int k)))) : Rd w F noNames (.seq 1 (l.map (AV.int k))) (.slice (some ⟨g, 0, none⟩) l.length l.length) := by
  have h1 := (hg.2 g _ h).1
  cases h1 with
  | eptr _ _ _ _ _ u hF hw h1 h =>
    have key := Rd.seq (w := w) (F := F) noNames 1 (l.map (AV.int k)) g 0 l.length u (by decide) hF (by simp) hm (fun e he => by obtain ⟨n, _, rfl⟩ := List.mem_map.1 he; rfl)
      (fun p hp => by simpa [AV.cells] using hw p (by simpa [AV.cells] using hp)) (fun p hp => h1 p (by simpa [AV.cells] using hp))
      (fun i e j c hi hj => by
        rw [List.getElem?_map] at hi
        obtain ⟨n, hn, rfl⟩ := Option.map_eq_some_iff.1 hi
        match j, hj with
        | 0, hj =>
          cases hj
          simpa using h i (.int k n) (by simp [AV.cells, hn]))
    simpa using key
theorem tab_cell {w : World} {F : Nat → Prop} {g : Nat} {k : IntKind} {l : List Int} (hg : Good w F G) (h : G g = some (.agg (l.map (AV.int k)))) {i : Nat} {n : Int} (hn : l[i]? = some n) : w.cell? ⟨g, i, none⟩ = some (.int k n) := by
  have h1 := (hg.2 g _ h).1
  have hi := (List.getElem?_eq_some_iff.1 hn).1
  cases h1 with
  | eptr _ _ _ _ _ u hF hw h1 h =>
    have e1 := hw i (by simpa [AV.cells] using hi)
    have e2 := h i (.int k n) (by simp [AV.cells, hn])
    rw [Nat.zero_add] at e1
    rw [e1]
    generalize u i = z at *
    cases e2
    rfl
theorem hex_at : ∀ (n : Nat) (h : n < (⟨#[48, 49, 50, 51, 52, 53, 54, 55, 56, 57, 97, 98, 99, 100, 101, 102]⟩ : ByteArray).size), (⟨#[48, 49, 50, 51, 52, 53, 54, 55, 56, 57, 97, 98, 99, 100, 101, 102]⟩ : ByteArray)[n]'h = hexD n := by
  have : ∀ n : Fin 16, (⟨#[48, 49, 50, 51, 52, 53, 54, 55, 56, 57, 97, 98, 99, 100, 101, 102]⟩ : ByteArray)[n.val]'n.2 = hexD n := by decide
  exact fun n h => this ⟨n, h⟩
abbrev u8v (n : Int) : AV := .int .u8 n
set_option maxHeartbeats 4000000 in
theorem slices_Index_byte_byte_pc (l : List Int) (v : Int) (hl : l.length < 9223372036854775807) : PureC Tryz.prog G n_slices_Index_byte_byte [.seq 1 (l.map u8v), u8v v] (iv (idxF (fun x => v == x) l)) := by
  refine pc_slices_Index_byte_byte (Runs.of fun Φ h => ?_)
  unfold c_slices_Index_byte_byte
  simp -implicitDefEqProofs only [go_sem, Nat.reduceAdd, Nat.reduceSub, Nat.reduceMul, Nat.reduceLT, Nat.reduceLeDiff, Nat.reduceEqDiff, Nat.reduceBEq, Int.reduceNeg, Int.reduceAdd, Int.reduceLT, Int.reduceLE, Int.reduceToNat, Int.reduceEq, Int.reduceNe, Int.reduceBEq, Int.reduceBNe, Int.reduceMul, Int.reduceSub, reduceIte, reduceCtorEq, List.length_map]
  refine at_loop (fun n st => ∃ i : Nat, i + n = l.length ∧ st = ⟨19, [(0, .seq 1 (l.map u8v)), (1, u8v v), (7, iv l.length), (8, iv i)], []⟩ ∧ ∀ j x, j < i → l[j]? = some x → (v == x) = false) l.length ⟨0, by simp, rfl, fun j x hj => by omega⟩ ?_
  rintro I hI n st ⟨i, hi, rfl, hno⟩
  simp -implicitDefEqProofs only [go_sem, Nat.reduceAdd, Nat.reduceSub, Nat.reduceMul, Nat.reduceLT, Nat.reduceLeDiff, Nat.reduceEqDiff, Nat.reduceBEq, Int.reduceNeg, Int.reduceAdd, Int.reduceLT, Int.reduceLE, Int.reduceToNat, Int.reduceEq, Int.reduceNe, Int.reduceBEq, Int.reduceBNe, Int.reduceMul, Int.reduceSub, reduceIte, reduceCtorEq]
  refine ⟨fun hlt => ?_, fun hge => ?_⟩
  · have hlt' : i < l.length := by omega
    obtain ⟨x, hx, hm⟩ := at_some hlt'
    have hw := wrap_succ hlt' (by omega)
    have fin : (v == x) = false → again I n ⟨19, [(0, .seq 1 (l.map u8v)), (1, u8v v), (7, iv l.length), (8, iv (i + 1 : Nat))], []⟩ := fun hv => at_again (n - 1) (by omega) (hI _ _ ⟨i + 1, by omega, rfl, fun j y hj hy => by
        by_cases e : j = i
        · subst e; rw [hx] at hy; cases hy; exact hv
        · exact hno j y (by omega) hy⟩)
    simp -implicitDefEqProofs only [go_sem, Nat.reduceAdd, Nat.reduceSub, Nat.reduceMul, Nat.reduceLT, Nat.reduceLeDiff, Nat.reduceEqDiff, Nat.reduceBEq, Int.reduceNeg, Int.reduceAdd, Int.reduceLT, Int.reduceLE, Int.reduceToNat, Int.reduceEq, Int.reduceNe, Int.reduceBEq, Int.reduceBNe, Int.reduceMul, Int.reduceSub, reduceIte, reduceCtorEq, aiaddr_map hx]
    refine ⟨fun hb => ?_, fun hb => ?_⟩
    · have hv : (v == x) = true := by simpa using hb
      exact h _ ⟨_, _, rfl, rfl, fitI (idxF_at hx hv hno).symm⟩
    · have hv : (v == x) = false := by simpa using hb
      simp -implicitDefEqProofs only [go_sem, Nat.reduceAdd, Nat.reduceSub, Nat.reduceMul, Nat.reduceLT, Nat.reduceLeDiff, Nat.reduceEqDiff, Nat.reduceBEq, Int.reduceNeg, Int.reduceAdd, Int.reduceLT, Int.reduceLE, Int.reduceToNat, Int.reduceEq, Int.reduceNe, Int.reduceBEq, Int.reduceBNe, Int.reduceMul, Int.reduceSub, reduceIte, reduceCtorEq, hw]
      exact fin hv
  · have : i = l.length := by omega
    subst this
    exact h _ ⟨_, _, rfl, rfl, fitI (idxF_none hno).symm⟩

/-- The place of a byte among marks. -/
theorem marks_at (c : UInt8) : idxF (fun x => (c.toNat : Int) == x) marksL = if c.toNat = 34 then 0 else if c.toNat = 92 then 1 else if c.toNat = 10 then 2 else if c.toNat = 13 then 3 else if c.toNat = 9 then 4 else -1 := by
  have h := u8_lt c
  unfold idxF marksL
  generalize c.toNat = n at *
  simp only [List.findIdx?_cons, List.findIdx?_nil]
  by_cases h1 : n = 34
  · subst h1; rfl
  by_cases h2 : n = 92
  · subst h2; rfl
  by_cases h3 : n = 10
  · subst h3; rfl
  by_cases h4 : n = 13
  · subst h4; rfl
  by_cases h5 : n = 9
  · subst h5; rfl
  rw [if_neg h1, if_neg h2, if_neg h3, if_neg h4, if_neg h5]
  simp [show ¬ (n : Int) = 34 by omega, show ¬ (n : Int) = 92 by omega, show ¬ (n : Int) = 10 by omega, show ¬ (n : Int) = 13 by omega, show ¬ (n : Int) = 9 by omega]
set_option maxHeartbeats 4000000 in
set_option maxRecDepth 100000 in
theorem quote_one_walk (hM : G 1 = some (.agg (marksL.map (AV.int .u8)))) (hL : G 2 = some (.agg (lettersL.map (AV.int .u8)))) (c : UInt8) (w : World) (F : Nat → Prop) (hg : Good w F G) :
    Calls Tryz.prog n_quote_one #[.int .u8 c.toNat] w fun e w' => e = .returned (.string ⟨(oneS c).toArray⟩) ∧ Below w.heap.size w w' := by
  have h1 := (quote_shown_pc (G := G) c).to_bool hg (argsR_cons (Rd.int _ _ _) argsR_nil)
  go_enter Tryz.func159, Tryz.ntmps159
  go_wp2_with (go_at_call 188; refine h1.mono ?_)
  rintro e w1 ⟨rfl, b1⟩
  have hg1 := good_below hg (Nat.le_refl _) b1
  cases hs : shownS c with
  | true =>
    have hcv := run_conv (s := 183) (e := 5) (t := 9) (by kernel_rfl) (by kernel_rfl) (by kernel_rfl) (w1.alloc (.cells #[.int .u8 c.toNat] 5)) w1.heap.size 0 1 [c] (fun j d hj => by
      match j, hj with
      | 0, hj => cases hj; simp)
    have hcv' : (convert 183 9 (.slice (some ⟨w1.heap.size, 0, none⟩) 1 1)).run Tryz.prog (w1.alloc (.cells #[.int .u8 c.toNat] 5)) = .ok (.string ⟨[c].toArray⟩) (w1.alloc (.cells #[.int .u8 c.toNat] 5)) := hcv
    go_wp2
    go_ret
    have : oneS c = [c] := by
      unfold shownS at hs
      simp at hs
      unfold oneS
      rw [if_neg (by omega), if_neg (by omega), if_neg (by omega), if_neg (by omega), if_neg (by omega), if_neg (by omega)]
    exact ⟨by rw [this]; rfl, b1.trans ((Below.refl _ _).alloc b1.size _)⟩
  | false =>
    have h2 := (slices_Index_byte_byte_pc (G := G) marksL c.toNat (by decide)).to_int hg1 (argsR_cons (tab_slice (by decide) (by decide) hg1 hM) (argsR_cons (Rd.int _ _ _) argsR_nil))
    rw [marks_at] at h2
    go_wp2_with fail
    refine h2.mono ?_
    rintro e w2 ⟨rfl, b2⟩
    have hg2 := good_below hg1 (Nat.le_refl _) b2
    have lc := fun i n h => tab_cell hg2 hL (i := i) (n := n) h
    have cv : ∀ (k : Nat) (l : UInt8), lettersL[k]? = some (l.toNat : Int) → (convert 183 9 (.slice (some ⟨2, k, none⟩) 1 (5 - k))).run Tryz.prog w2 = .ok (.string ⟨#[l]⟩) w2 := fun k l hl =>
      run_conv (s := 183) (e := 5) (t := 9) (by kernel_rfl) (by kernel_rfl) (by kernel_rfl) w2 2 k (5 - k) [l] (fun j d hj => by
        match j, hj with
        | 0, hj => cases hj; exact tab_cell hg2 hL hl)
    have hb := b1.trans (b2.mono b1.size)
    by_cases c0 : c.toNat = 34
    · rw [if_pos c0]
      have cv' : (convert 183 9 (.slice (some ⟨2, 0, none⟩) 1 5)).run Tryz.prog w2 = .ok (.string ⟨#[34]⟩) w2 := cv 0 34 rfl
      have e1 : oneS c = [92, 34] := by unfold oneS; rw [if_pos c0]
      clear cv
      go_wp2
      go_ret
      exact ⟨by rw [e1]; rfl, hb⟩
    by_cases c1 : c.toNat = 92
    · rw [if_neg c0, if_pos c1]
      have cv' : (convert 183 9 (.slice (some ⟨2, 1, none⟩) 1 4)).run Tryz.prog w2 = .ok (.string ⟨#[92]⟩) w2 := cv 1 92 rfl
      have e1 : oneS c = [92, 92] := by unfold oneS; rw [if_neg c0, if_pos c1]
      clear cv
      go_wp2
      go_ret
      exact ⟨by rw [e1]; rfl, hb⟩
    by_cases c2 : c.toNat = 10
    · rw [if_neg c0, if_neg c1, if_pos c2]
      have cv' : (convert 183 9 (.slice (some ⟨2, 2, none⟩) 1 3)).run Tryz.prog w2 = .ok (.string ⟨#[110]⟩) w2 := cv 2 110 rfl
      have e1 : oneS c = [92, 110] := by unfold oneS; rw [if_neg c0, if_neg c1, if_pos c2]
      clear cv
      go_wp2
      go_ret
      exact ⟨by rw [e1]; rfl, hb⟩
    by_cases c3 : c.toNat = 13
    · rw [if_neg c0, if_neg c1, if_neg c2, if_pos c3]
      have cv' : (convert 183 9 (.slice (some ⟨2, 3, none⟩) 1 2)).run Tryz.prog w2 = .ok (.string ⟨#[114]⟩) w2 := cv 3 114 rfl
      have e1 : oneS c = [92, 114] := by unfold oneS; rw [if_neg c0, if_neg c1, if_neg c2, if_pos c3]
      clear cv
      go_wp2
      go_ret
      exact ⟨by rw [e1]; rfl, hb⟩
    by_cases c4 : c.toNat = 9
    · rw [if_neg c0, if_neg c1, if_neg c2, if_neg c3, if_pos c4]
      have cv' : (convert 183 9 (.slice (some ⟨2, 4, none⟩) 1 1)).run Tryz.prog w2 = .ok (.string ⟨#[116]⟩) w2 := cv 4 116 rfl
      have e1 : oneS c = [92, 116] := by unfold oneS; rw [if_neg c0, if_neg c1, if_neg c2, if_neg c3, if_pos c4]
      clear cv
      go_wp2
      go_ret
      exact ⟨by rw [e1]; rfl, hb⟩
    rw [if_neg c0, if_neg c1, if_neg c2, if_neg c3, if_neg c4]
    clear cv
    have hc := u8_lt c
    have hi : 0 ≤ (c.toNat : Int) / 16 ∧ (c.toNat : Int) / 16 < 16 := ⟨by omega, by omega⟩
    have hj : 0 ≤ (c.toNat : Int) % 16 ∧ (c.toNat : Int) % 16 < 16 := ⟨by omega, by omega⟩
    go_wp2
    go_region
    go_wp2
    simp only [hex_at]
    have hcv := run_conv (s := 183) (e := 5) (t := 9) (by kernel_rfl) (by kernel_rfl) (by kernel_rfl) ((w2.alloc (.cells #[.int .u8 (hexD (c.toNat / 16)).toNat, .int .u8 (hexD (c.toNat % 16)).toNat] 289)).drew) w2.heap.size 0 2 [hexD (c.toNat / 16), hexD (c.toNat % 16)] (fun j d hj => by
      match j, hj with
      | 0, hj => cases hj; simp
      | 1, hj => cases hj; simp)
    have hcv' : (convert 183 9 (.slice (some ⟨w2.heap.size, 0, none⟩) 2 2)).run Tryz.prog ((w2.alloc (.cells #[.int .u8 (hexD (c.toNat / 16)).toNat, .int .u8 (hexD (c.toNat % 16)).toNat] 289)).drew) = .ok (.string ⟨#[hexD (c.toNat / 16), hexD (c.toNat % 16)]⟩) ((w2.alloc (.cells #[.int .u8 (hexD (c.toNat / 16)).toNat, .int .u8 (hexD (c.toNat % 16)).toNat] 289)).drew) := hcv
    rw [hcv']
    simp only [Result.andThen]
    rw [Oper.upon_value]
    go_wp2
    go_ret
    have e1 : oneS c = [92, 120, hexD (c.toNat / 16), hexD (c.toNat % 16)] := by
      unfold oneS
      unfold shownS at hs
      rw [if_neg c0, if_neg c1, if_neg c2, if_neg c3, if_neg c4, if_pos (by simp at hs; omega)]
    exact ⟨by rw [e1]; rfl, hb.trans (((Below.refl _ _).alloc hb.size _).drew)⟩
theorem quote_one_pc (hM : G 1 = some (.agg (marksL.map (AV.int .u8)))) (hL : G 2 = some (.agg (lettersL.map (AV.int .u8)))) (c : UInt8) : PureC Tryz.prog G n_quote_one [.int .u8 c.toNat] (.str (oneS c)) := by
  refine PureC.of_str fun w F vs hg ha => ?_
  obtain ⟨v, rfl, h1⟩ := argsR_1 ha
  cases h1
  exact quote_one_walk hM hL c w F hg
set_option maxHeartbeats 4000000 in
set_option maxRecDepth 100000 in
theorem quote_Quote_walk (hM : G 1 = some (.agg (marksL.map (AV.int .u8)))) (hL : G 2 = some (.agg (lettersL.map (AV.int .u8)))) (s : Str) (hs : s.length ≤ 1000000) (w : World) (F : Nat → Prop) (hg : Good w F G) :
    Calls Tryz.prog n_quote_Quote #[.string ⟨s.toArray⟩] w fun e w' => e = .returned (.string ⟨(quoteS s).toArray⟩) ∧ Below w.heap.size w w' := by
  have h0 : Lib.IsBuilder 185 5 w.heap.size w.heap.size [] (w.alloc (.cells #[.pointer none, .slice none 0 0] 185)) := Lib.fresh_isBuilder 185 5 w
  have b0 : Below w.heap.size w (w.alloc (.cells #[.pointer none, .slice none 0 0] 185)) := (Below.refl _ w).alloc (Nat.le_refl _) _
  have hsz : (⟨s.toArray⟩ : ByteArray).size = s.length := by simp [ByteArray.size]
  go_enter Tryz.func101, Tryz.ntmps101
  go_wp2_with (go_at_call 158; refine (builder_byte w.heap.size w.heap.size [] 34 _ h0 (by simp) b0.size).mono ?_)
  rintro e W1 ⟨rfl, h1, b1⟩
  go_wp2
  go_loopw [8] (fun v wr => ∃ i : Nat, i ≤ s.length ∧ v = .int .i64 i ∧ Lib.IsBuilder 185 5 w.heap.size w.heap.size (Lib.byteCells (34 :: (s.take i).flatMap oneS)) wr ∧ Below w.heap.size w wr) (fun v _ => s.length - (intOf v).toNat)
  case atStart => exact ⟨0, Nat.zero_le _, rfl, h1, b0.trans b1⟩
  case round =>
    obtain ⟨i, hi, rfl, hB, hb⟩ := hrel
    have hlen : (34 :: (s.take i).flatMap oneS).length ≤ 4000001 := by
      have := flatOne_len (s.take i)
      simp only [List.length_cons, List.length_take] at *
      omega
    by_cases hlt : i < s.length
    · obtain ⟨c, hc⟩ : ∃ c, s[i]? = some c := ⟨s[i], List.getElem?_eq_getElem hlt⟩
      have hl2 : (i : Int) < (s.length : Int) := by omega
      have hx : (Instr.index 9 (.string ⟨s.toArray⟩) (.int .i64 i)).run Tryz.prog wr = .ok (.int .u8 c.toNat) wr := by
        rw [run_index_string (P := Tryz.prog) wr 9 ⟨s.toArray⟩ .i64 i (by kernel_rfl), dif_pos ⟨by omega, by rw [hsz]; omega⟩]
        congr 4
        obtain ⟨h2, h3⟩ := List.getElem?_eq_some_iff.1 hc
        rw [← h3]
        rfl
      go_wp2_with (go_at_call 159; refine (quote_one_walk hM hL c _ F (good_below hg (Nat.le_refl _) hb)).mono ?_)
      rintro e W2 ⟨rfl, b2⟩
      have hb2 := hb.trans (b2.mono hb.size)
      have hB2 := builder_below hB b2
      go_wp2_with (go_at_call 103; refine (builder_str w.heap.size w.heap.size _ (oneS c) _ hB2 (by rw [Lib.byteCells_length]; have := oneS_len c; omega) hb2.size).mono ?_)
      rintro e W3 ⟨rfl, hB3, b3⟩
      go_wp2
      go_roundw
      case rel =>
        refine ⟨i + 1, hlt, by simp, ?_, hb2.trans b3⟩
        rw [take_flat_succ hc, ← List.cons_append, Lib.byteCells_append]
        exact hB3
      case measure =>
        simp [intOf]
        omega
    · have hie : i = s.length := by omega
      subst hie
      rw [List.take_length] at hB hlen
      have hl2 : ¬ (s.length : Int) < (s.length : Int) := by omega
      go_wp2_with fail
      refine (builder_byte w.heap.size w.heap.size _ 34 _ hB (by rw [Lib.byteCells_length]; omega) hb.size).mono ?_
      rintro e W2 ⟨rfl, hB2, b2⟩
      have hb2 := hb.trans b2
      have hB2' : Lib.IsBuilder 185 5 w.heap.size w.heap.size (Lib.byteCells (quoteS s)) W2 := by
        unfold quoteS
        rw [Lib.byteCells_append]
        exact hB2
      go_wp2_with (go_at_call 104; refine (Tryz.Builder_String_any w.heap.size w.heap.size _ _ hB2' hb2.size).mono ?_)
      rintro e W3 ⟨rfl, b3⟩
      go_wp2
      go_ret
      exact ⟨rfl, hb2.trans b3⟩
theorem quote_Quote_pc (hM : G 1 = some (.agg (marksL.map (AV.int .u8)))) (hL : G 2 = some (.agg (lettersL.map (AV.int .u8)))) (s : Str) (hs : s.length ≤ 1000000) : PureC Tryz.prog G n_quote_Quote [.str s] (.str (quoteS s)) := by
  refine PureC.of_str fun w F vs hg ha => ?_
  obtain ⟨v, rfl, h1⟩ := argsR_1 ha
  cases h1
  exact quote_Quote_walk hM hL s hs w F hg
end Go.Proofs.YtdfdiglnpekcpabGreatDoor.Ab
namespace Go.Proofs.YtdfdiglnpekcpabGreatDoor.Ab
set_option linter.unusedSimpArgs false
open Go
set_option maxHeartbeats 4000000
variable {G : Nat → Option AV}
/-- What is known of the library's and quote's variables. -/
structure TextG (G : Nat → Option AV) : Prop where
  pow : G 5 = some (.agg (Lib.pow10Tab.map (AV.int .u64)))
  marks : G 1 = some (.agg (marksL.map (AV.int .u8)))
  letters : G 2 = some (.agg (lettersL.map (AV.int .u8)))
theorem num_Text_pc (hT : TextG G) (n : Int) (hn : i64 n) : PureC Tryz.prog G n_num_Text [iv n] (.str (Lib.itoa n)) := by
  have h1 := strconv_FormatInt_pc (G := G) hT.pow n hn
  refine pc_num_Text (Runs.of fun Φ h => ?_)
  unfold c_num_Text
  generalize Lib.itoa n = x at *
  (try (simp -implicitDefEqProofs only [go_sem, Nat.reduceAdd, Nat.reduceSub, Nat.reduceMul, Nat.reduceLT, Nat.reduceLeDiff, Nat.reduceEqDiff, Nat.reduceBEq, Int.reduceNeg, Int.reduceAdd, Int.reduceLT, Int.reduceLE, Int.reduceToNat, Int.reduceEq, Int.reduceNe, Int.reduceBEq, Int.reduceBNe, Int.reduceMul, Int.reduceSub, reduceIte, reduceCtorEq, valV])); repeat' ((first | refine at_guard (fun hb => ?_) (fun hb => ?_) | refine ⟨fun hb => ?_, fun hb => ?_⟩ | refine at_call (h1) rfl rfl ?_ | fail) <;> (try (simp -implicitDefEqProofs only [go_sem, Nat.reduceAdd, Nat.reduceSub, Nat.reduceMul, Nat.reduceLT, Nat.reduceLeDiff, Nat.reduceEqDiff, Nat.reduceBEq, Int.reduceNeg, Int.reduceAdd, Int.reduceLT, Int.reduceLE, Int.reduceToNat, Int.reduceEq, Int.reduceNe, Int.reduceBEq, Int.reduceBNe, Int.reduceMul, Int.reduceSub, reduceIte, reduceCtorEq, valV])))
  all_goals (refine h _ ⟨_, _, rfl, rfl, fit_eq ?_⟩; clear h; first | rfl | simp_all)
theorem value_Text_pc (hT : TextG G) (v : Val) (hv : v.ok = true) (hn : i64 v.int) (hs : v.str.length ≤ 1000000) : PureC Tryz.prog G n_value_Text [valV v] (.str (valText v)) := by
  have h0 := value_Right_pc (G := G) v
  rw [hv] at h0
  obtain ⟨k, n, s, b⟩ := v
  have h1 := num_Text_pc hT n hn
  have h2 := quote_Quote_pc hT.marks hT.letters s hs
  refine pc_value_Text (Runs.of fun Φ h => ?_)
  unfold c_value_Text
  unfold valText at h
  dsimp only at h
  simp only [valV] at h0
  generalize Lib.itoa n = x at *
  generalize quoteS s = y at *
  (try (simp -implicitDefEqProofs only [go_sem, Nat.reduceAdd, Nat.reduceSub, Nat.reduceMul, Nat.reduceLT, Nat.reduceLeDiff, Nat.reduceEqDiff, Nat.reduceBEq, Int.reduceNeg, Int.reduceAdd, Int.reduceLT, Int.reduceLE, Int.reduceToNat, Int.reduceEq, Int.reduceNe, Int.reduceBEq, Int.reduceBNe, Int.reduceMul, Int.reduceSub, reduceIte, reduceCtorEq, valV])); repeat' ((first | refine at_guard (fun hb => ?_) (fun hb => ?_) | refine ⟨fun hb => ?_, fun hb => ?_⟩ | refine at_call (h0) rfl rfl ?_ | refine at_call (h1) rfl rfl ?_ | refine at_call (h2) rfl rfl ?_ | fail) <;> (try (simp -implicitDefEqProofs only [go_sem, Nat.reduceAdd, Nat.reduceSub, Nat.reduceMul, Nat.reduceLT, Nat.reduceLeDiff, Nat.reduceEqDiff, Nat.reduceBEq, Int.reduceNeg, Int.reduceAdd, Int.reduceLT, Int.reduceLE, Int.reduceToNat, Int.reduceEq, Int.reduceNe, Int.reduceBEq, Int.reduceBNe, Int.reduceMul, Int.reduceSub, reduceIte, reduceCtorEq, valV])))
  all_goals
    refine h _ ⟨_, _, rfl, rfl, fit_eq ?_⟩
    clear h h0 h1 h2
    simp_all
def qName (q : QeaT) (n : Int) : Str := match at? q.quants n with | none => [] | some y => y.name
def fName (q : QeaT) (n : Int) : Str := match at? q.frees n with | none => [] | some y => y.name
def dName (q : QeaT) (n : Int) : Str := match at? q.decls n with | none => [] | some y => y.name
def argText (q : QeaT) (a : ArgT) : Str := if a.kind = 1 then valText a.value else if a.kind = 2 then qName q a.n else if a.kind = 3 then fName q a.n else [95]
def symText (q : QeaT) (s : SymT) : Str := dName q s.event ++ [40] ++ Lib.join (s.args.map (argText q)) [44, 32] ++ [41]
/-- The texts of an automaton and of a symbol are short. -/
structure ShortQ (q : QeaT) : Prop where
  decls : ∀ y ∈ q.decls, y.name.length ≤ 1000
  quants : ∀ y ∈ q.quants, y.name.length ≤ 1000
  frees : ∀ y ∈ q.frees, y.name.length ≤ 1000
structure ShortA (a : ArgT) : Prop where
  num : i64 a.value.int
  str : a.value.str.length ≤ 1000
theorem valText_len {v : Val} (hn : i64 v.int) (hs : v.str.length ≤ 1000) : (valText v).length ≤ 5000 := by
  unfold valText
  have h1 := itoa_len hn
  have h2 := flatOne_len v.str
  split
  · omega
  split
  · unfold quoteS
    simp only [List.length_append, List.length_cons, List.length_nil]
    omega
  split <;> simp
theorem argText_len {q : QeaT} {a : ArgT} (hq : ShortQ q) (ha : ShortA a) : (argText q a).length ≤ 5000 := by
  unfold argText
  split
  · exact valText_len ha.num ha.str
  split
  · unfold qName
    cases h : at? q.quants a.n with
    | none => simp
    | some y =>
      obtain ⟨i, _, hi⟩ := at?_some h
      have := hq.quants y (List.mem_of_getElem? hi)
      dsimp only
      omega
  split
  · unfold fName
    cases h : at? q.frees a.n with
    | none => simp
    | some y =>
      obtain ⟨i, _, hi⟩ := at?_some h
      have := hq.frees y (List.mem_of_getElem? hi)
      dsimp only
      omega
  · simp
theorem joinTail_len {sep : Str} {c : Nat} : ∀ {l : List Str}, (∀ x ∈ l, x.length ≤ c) → (Lib.joinTail sep l).length ≤ l.length * (sep.length + c)
  | [], _ => by simp [Lib.joinTail]
  | x :: l, h => by
    have h1 := joinTail_len (sep := sep) (l := l) (fun y hy => h y (List.mem_cons_of_mem _ hy))
    have h2 := h x List.mem_cons_self
    unfold Lib.joinTail at *
    rw [List.map_cons, List.flatten_cons, List.length_append, List.length_append, List.length_cons, Nat.add_mul, Nat.one_mul]
    omega
theorem join_len {sep : Str} {c : Nat} {l : List Str} (h : ∀ x ∈ l, x.length ≤ c) : (Lib.join l sep).length ≤ l.length * (sep.length + c) := by
  cases l with
  | nil => simp [Lib.join_nil]
  | cons x l =>
    have h1 := joinTail_len (sep := sep) (l := l) (fun y hy => h y (List.mem_cons_of_mem _ hy))
    have h2 := h x List.mem_cons_self
    rw [Lib.join_cons, List.length_append, List.length_cons, Nat.add_mul, Nat.one_mul]
    omega
theorem take_text_succ {α : Type} {f : α → Str} {l : List α} {i : Nat} {x : α} (h : l[i]? = some x) : ((l.take (i + 1)).map f).map AV.str = ((l.take i).map f).map AV.str ++ [.str (f x)] := by
  rw [List.take_add_one, h]
  simp
theorem zip_arg {q : QeaT} : ∀ {l : List ArgT} {k : List Int}, zipB (argS q) l k = true → ∀ a ∈ l, ∃ n, argS q a n = true
  | [], _, _, a, ha => nomatch ha
  | b :: l, [], h, a, ha => by simp [zipB] at h
  | b :: l, n :: k, h, a, ha => by
    simp only [zipB, Bool.and_eq_true] at h
    rcases List.mem_cons.1 ha with rfl | ha
    · exact ⟨n, h.1⟩
    · exact zip_arg h.2 a ha
theorem core_Symbol_pc (hT : TextG G) (q : QeaT) (hq : ShortQ q) (s : SymT) (hl : s.args.length ≤ 1000000) (ha : ∀ a ∈ s.args, ShortA a) (hs : symS q s = true) : PureC Tryz.prog G n_core_Symbol [qeaV q, symV s] (.str (symText q s)) := by
  have h0 := core_symbol_pc (G := G) q s (by omega)
  rw [hs] at h0
  obtain ⟨ev, args⟩ := s
  dsimp only at hl ha
  have hs' := hs
  unfold symS at hs'
  dsimp only at hs'
  cases hd : at? q.decls ev with
  | none => rw [hd] at hs'; cases hs'
  | some d =>
    rw [hd] at hs'
    have hargs := zip_arg hs'
    obtain ⟨e, rfl, he⟩ := at?_some hd
    have hdn := hq.decls d (List.mem_of_getElem? he)
    have hjl := join_len (sep := [44, 32]) (c := 5000) (l := args.map (argText q)) (fun x hx => by obtain ⟨a, hm, rfl⟩ := List.mem_map.1 hx; exact argText_len hq (ha a hm))
    have hj := strings_Join_pc (G := G) (args.map (argText q)) [44, 32] (by simpa using hl) (by rw [List.length_map] at hjl; simp only [List.length_cons, List.length_nil] at hjl; omega)
    have htx : symText q ⟨e, args⟩ = d.name ++ [40] ++ Lib.join (args.map (argText q)) [44, 32] ++ [41] := by
      unfold symText dName
      rw [hd]
    rw [htx]
    simp only [symV, argsV, qeaV, declsV, quantsV, freesV, statesV, symsV, nodesV, transsV] at h0
    refine pc_core_Symbol (Runs.of fun Φ h => ?_)
    unfold c_core_Symbol
    (try (simp -implicitDefEqProofs only [go_sem, Nat.reduceAdd, Nat.reduceSub, Nat.reduceMul, Nat.reduceLT, Nat.reduceLeDiff, Nat.reduceEqDiff, Nat.reduceBEq, Int.reduceNeg, Int.reduceAdd, Int.reduceLT, Int.reduceLE, Int.reduceToNat, Int.reduceEq, Int.reduceNe, Int.reduceBEq, Int.reduceBNe, Int.reduceMul, Int.reduceSub, reduceIte, reduceCtorEq, symV, argsV, qeaV, declsV, quantsV, freesV, statesV, symsV, nodesV, transsV, List.length_map])); repeat' ((first | refine at_guard (fun hb => ?_) (fun hb => ?_) | refine ⟨fun hb => ?_, fun hb => ?_⟩ | refine at_call (h0) rfl rfl ?_ | fail) <;> (try (simp -implicitDefEqProofs only [go_sem, Nat.reduceAdd, Nat.reduceSub, Nat.reduceMul, Nat.reduceLT, Nat.reduceLeDiff, Nat.reduceEqDiff, Nat.reduceBEq, Int.reduceNeg, Int.reduceAdd, Int.reduceLT, Int.reduceLE, Int.reduceToNat, Int.reduceEq, Int.reduceNe, Int.reduceBEq, Int.reduceBNe, Int.reduceMul, Int.reduceSub, reduceIte, reduceCtorEq, symV, argsV, qeaV, declsV, quantsV, freesV, statesV, symsV, nodesV, transsV, List.length_map])))
    refine at_loop (fun n st => ∃ i : Nat, i + n = args.length ∧ st = ⟨69, [(2, .ref 2 0 0), (3, .ref 3 0 0), (5, .arr 5 0 i), (13, argsV args), (14, iv args.length), (15, iv i)], [(2, ⟨false, t_api_Qea, 9, [qeaV q]⟩), (3, ⟨false, t_api_Symbol, 2, [symV ⟨e, args⟩]⟩), (5, ⟨true, t_string, 1, ((args.take i).map (argText q)).map AV.str⟩)]⟩) args.length ⟨0, by simp, rfl⟩ ?_
    rintro I hI n st ⟨i, hi, rfl⟩
    simp -implicitDefEqProofs only [go_sem, Nat.reduceAdd, Nat.reduceSub, Nat.reduceMul, Nat.reduceLT, Nat.reduceLeDiff, Nat.reduceEqDiff, Nat.reduceBEq, Int.reduceNeg, Int.reduceAdd, Int.reduceLT, Int.reduceLE, Int.reduceToNat, Int.reduceEq, Int.reduceNe, Int.reduceBEq, Int.reduceBNe, Int.reduceMul, Int.reduceSub, reduceIte, reduceCtorEq, qeaV, declsV, quantsV, freesV, statesV, symsV, nodesV, transsV, List.length_map]
    refine ⟨fun hlt => ?_, fun hge => ?_⟩
    · have hlt' : i < args.length := by omega
      obtain ⟨a, hai, hm⟩ := at_some hlt'
      have hw := wrap_succ hlt' (by omega)
      have hbd : (i + 1) * 16 ≤ 140737488355328 := by omega
      have hnext : again I n ⟨69, [(2, .ref 2 0 0), (3, .ref 3 0 0), (5, .arr 5 0 (i + 1)), (13, argsV args), (14, iv args.length), (15, iv (i + 1 : Nat))], [(2, ⟨false, t_api_Qea, 9, [qeaV q]⟩), (3, ⟨false, t_api_Symbol, 2, [symV ⟨e, args⟩]⟩), (5, ⟨true, t_string, 1, ((args.take (i + 1)).map (argText q)).map AV.str⟩)]⟩ := at_again (n - 1) (by omega) (hI _ _ ⟨i + 1, by omega, rfl⟩)
      have hrl : (((args.take i).map (argText q)).map AV.str).length = i := by simp; omega
      rw [take_text_succ hai] at hnext
      obtain ⟨kd, hk⟩ := hargs a hm
      have hsa := ha a hm
      generalize ((args.take i).map (argText q)).map AV.str = R at *
      unfold argText at hnext
      unfold argS at hk
      clear h hj hjl htx hI ha hargs h0
      by_cases c1 : a.kind = 1
      · rw [if_pos c1] at hnext hk
        have hv := value_Text_pc hT a.value (by simp only [Bool.and_eq_true] at hk; exact hk.2.1) hsa.num (by have := hsa.str; omega)
        simp only [valV] at hv
        generalize valText a.value = x at *
        (try (simp -implicitDefEqProofs only [go_sem, Nat.reduceAdd, Nat.reduceSub, Nat.reduceMul, Nat.reduceLT, Nat.reduceLeDiff, Nat.reduceEqDiff, Nat.reduceBEq, Int.reduceNeg, Int.reduceAdd, Int.reduceLT, Int.reduceLE, Int.reduceToNat, Int.reduceEq, Int.reduceNe, Int.reduceBEq, Int.reduceBNe, Int.reduceMul, Int.reduceSub, reduceIte, reduceCtorEq, aiaddr_map hai, symV, argsV, argV, hw, hrl, hbd, c1])); repeat' ((first | refine at_guard (fun hb => ?_) (fun hb => ?_) | refine ⟨fun hb => ?_, fun hb => ?_⟩ | refine at_call (hv) rfl rfl ?_ | fail) <;> (try (simp -implicitDefEqProofs only [go_sem, Nat.reduceAdd, Nat.reduceSub, Nat.reduceMul, Nat.reduceLT, Nat.reduceLeDiff, Nat.reduceEqDiff, Nat.reduceBEq, Int.reduceNeg, Int.reduceAdd, Int.reduceLT, Int.reduceLE, Int.reduceToNat, Int.reduceEq, Int.reduceNe, Int.reduceBEq, Int.reduceBNe, Int.reduceMul, Int.reduceSub, reduceIte, reduceCtorEq, aiaddr_map hai, symV, argsV, argV, hw, hrl, hbd, c1])))
        exact hnext
      by_cases c2 : a.kind = 2
      · rw [if_neg c1, if_pos c2] at hnext hk
        cases hq2 : at? q.quants a.n with
        | none => rw [hq2] at hk; cases hk
        | some y =>
          obtain ⟨m, hm2, hy⟩ := at?_some hq2
          unfold qName at hnext
          rw [hq2] at hnext
          dsimp only at hnext
          (try (simp -implicitDefEqProofs only [go_sem, Nat.reduceAdd, Nat.reduceSub, Nat.reduceMul, Nat.reduceLT, Nat.reduceLeDiff, Nat.reduceEqDiff, Nat.reduceBEq, Int.reduceNeg, Int.reduceAdd, Int.reduceLT, Int.reduceLE, Int.reduceToNat, Int.reduceEq, Int.reduceNe, Int.reduceBEq, Int.reduceBNe, Int.reduceMul, Int.reduceSub, reduceIte, reduceCtorEq, aiaddr_map hai, aiaddr_map hy, symV, argsV, argV, quantV, hw, hrl, hbd, c2, hm2, qeaV, declsV, quantsV, freesV, statesV, symsV, nodesV, transsV, List.length_map])); repeat' ((first | refine at_guard (fun hb => ?_) (fun hb => ?_) | refine ⟨fun hb => ?_, fun hb => ?_⟩ | fail) <;> (try (simp -implicitDefEqProofs only [go_sem, Nat.reduceAdd, Nat.reduceSub, Nat.reduceMul, Nat.reduceLT, Nat.reduceLeDiff, Nat.reduceEqDiff, Nat.reduceBEq, Int.reduceNeg, Int.reduceAdd, Int.reduceLT, Int.reduceLE, Int.reduceToNat, Int.reduceEq, Int.reduceNe, Int.reduceBEq, Int.reduceBNe, Int.reduceMul, Int.reduceSub, reduceIte, reduceCtorEq, aiaddr_map hai, aiaddr_map hy, symV, argsV, argV, quantV, hw, hrl, hbd, c2, hm2, qeaV, declsV, quantsV, freesV, statesV, symsV, nodesV, transsV, List.length_map])))
          exact hnext
      by_cases c3 : a.kind = 3
      · rw [if_neg c1, if_neg c2, if_pos c3] at hnext hk
        cases hq2 : at? q.frees a.n with
        | none => rw [hq2] at hk; cases hk
        | some y =>
          obtain ⟨m, hm2, hy⟩ := at?_some hq2
          unfold fName at hnext
          rw [hq2] at hnext
          dsimp only at hnext
          (try (simp -implicitDefEqProofs only [go_sem, Nat.reduceAdd, Nat.reduceSub, Nat.reduceMul, Nat.reduceLT, Nat.reduceLeDiff, Nat.reduceEqDiff, Nat.reduceBEq, Int.reduceNeg, Int.reduceAdd, Int.reduceLT, Int.reduceLE, Int.reduceToNat, Int.reduceEq, Int.reduceNe, Int.reduceBEq, Int.reduceBNe, Int.reduceMul, Int.reduceSub, reduceIte, reduceCtorEq, aiaddr_map hai, aiaddr_map hy, symV, argsV, argV, freeV, hw, hrl, hbd, c3, hm2, qeaV, declsV, quantsV, freesV, statesV, symsV, nodesV, transsV, List.length_map])); repeat' ((first | refine at_guard (fun hb => ?_) (fun hb => ?_) | refine ⟨fun hb => ?_, fun hb => ?_⟩ | fail) <;> (try (simp -implicitDefEqProofs only [go_sem, Nat.reduceAdd, Nat.reduceSub, Nat.reduceMul, Nat.reduceLT, Nat.reduceLeDiff, Nat.reduceEqDiff, Nat.reduceBEq, Int.reduceNeg, Int.reduceAdd, Int.reduceLT, Int.reduceLE, Int.reduceToNat, Int.reduceEq, Int.reduceNe, Int.reduceBEq, Int.reduceBNe, Int.reduceMul, Int.reduceSub, reduceIte, reduceCtorEq, aiaddr_map hai, aiaddr_map hy, symV, argsV, argV, freeV, hw, hrl, hbd, c3, hm2, qeaV, declsV, quantsV, freesV, statesV, symsV, nodesV, transsV, List.length_map])))
          exact hnext
      rw [if_neg c1, if_neg c2, if_neg c3] at hnext
      (try (simp -implicitDefEqProofs only [go_sem, Nat.reduceAdd, Nat.reduceSub, Nat.reduceMul, Nat.reduceLT, Nat.reduceLeDiff, Nat.reduceEqDiff, Nat.reduceBEq, Int.reduceNeg, Int.reduceAdd, Int.reduceLT, Int.reduceLE, Int.reduceToNat, Int.reduceEq, Int.reduceNe, Int.reduceBEq, Int.reduceBNe, Int.reduceMul, Int.reduceSub, reduceIte, reduceCtorEq, aiaddr_map hai, symV, argsV, argV, hw, hrl, hbd])); repeat' ((first | refine at_guard (fun hb => ?_) (fun hb => ?_) | refine ⟨fun hb => ?_, fun hb => ?_⟩ | fail) <;> (try (simp -implicitDefEqProofs only [go_sem, Nat.reduceAdd, Nat.reduceSub, Nat.reduceMul, Nat.reduceLT, Nat.reduceLeDiff, Nat.reduceEqDiff, Nat.reduceBEq, Int.reduceNeg, Int.reduceAdd, Int.reduceLT, Int.reduceLE, Int.reduceToNat, Int.reduceEq, Int.reduceNe, Int.reduceBEq, Int.reduceBNe, Int.reduceMul, Int.reduceSub, reduceIte, reduceCtorEq, aiaddr_map hai, symV, argsV, argV, hw, hrl, hbd])))
      all_goals first | exact hnext | (exfalso; simp at *; omega)
    · have hie : i = args.length := by omega
      subst hie
      rw [List.take_length]
      clear hI hge hi h0
      rw [List.length_map] at hjl
      simp only [List.length_cons, List.length_nil] at hjl
      generalize Lib.join (args.map (argText q)) [44, 32] = J at *
      have htv : List.take args.length ((args.map (argText q)).map AV.str) = (args.map (argText q)).map AV.str := List.take_of_length_le (by simp)
      have hlv : ((args.map (argText q)).map AV.str).length = args.length := by simp
      generalize (args.map (argText q)).map AV.str = Z at *
      have a1 : abin .add (.str d.name) (.str [40]) = some (.str (d.name ++ [40])) := abin_adds (by simp only [List.length_cons, List.length_nil]; omega)
      have a2 : abin .add (.str (d.name ++ [40])) (.str J) = some (.str (d.name ++ [40] ++ J)) := abin_adds (by rw [List.length_append]; simp only [List.length_cons, List.length_nil]; omega)
      have a3 : abin .add (.str (d.name ++ [40] ++ J)) (.str [41]) = some (.str (d.name ++ [40] ++ J ++ [41])) := abin_adds (by rw [List.length_append, List.length_append]; simp only [List.length_cons, List.length_nil]; omega)
      (try (simp -implicitDefEqProofs only [go_sem, Nat.reduceAdd, Nat.reduceSub, Nat.reduceMul, Nat.reduceLT, Nat.reduceLeDiff, Nat.reduceEqDiff, Nat.reduceBEq, Int.reduceNeg, Int.reduceAdd, Int.reduceLT, Int.reduceLE, Int.reduceToNat, Int.reduceEq, Int.reduceNe, Int.reduceBEq, Int.reduceBNe, Int.reduceMul, Int.reduceSub, reduceIte, reduceCtorEq, aiaddr_map he, symV, argsV, declV, a1, a2, a3, qeaV, declsV, quantsV, freesV, statesV, symsV, nodesV, transsV, List.length_map])); repeat' ((first | refine at_guard (fun hb => ?_) (fun hb => ?_) | refine ⟨fun hb => ?_, fun hb => ?_⟩ | (refine at_call hj ?_ rfl ?_; (focus (simp [viewC, flat, viewBs, viewB, viewK, hget, htv, hlv]; done))) | fail) <;> (try (simp -implicitDefEqProofs only [go_sem, Nat.reduceAdd, Nat.reduceSub, Nat.reduceMul, Nat.reduceLT, Nat.reduceLeDiff, Nat.reduceEqDiff, Nat.reduceBEq, Int.reduceNeg, Int.reduceAdd, Int.reduceLT, Int.reduceLE, Int.reduceToNat, Int.reduceEq, Int.reduceNe, Int.reduceBEq, Int.reduceBNe, Int.reduceMul, Int.reduceSub, reduceIte, reduceCtorEq, aiaddr_map he, symV, argsV, declV, a1, a2, a3, qeaV, declsV, quantsV, freesV, statesV, symsV, nodesV, transsV, List.length_map])))
      exact h _ ⟨_, _, rfl, rfl, .refl _⟩
end Go.Proofs.YtdfdiglnpekcpabGreatDoor.Ab
namespace Go.Proofs.YtdfdiglnpekcpabGreatDoor.Ab
set_option linter.unusedSimpArgs false
open Go
set_option maxHeartbeats 4000000
variable {G : Nat → Option AV}
theorem nameOk_len {s : Str} (h : nameOk s = true) : s.length ≤ 32 := by
  unfold nameOk at h
  rw [Bool.and_eq_true] at h
  have h1 := h.1
  unfold speltOk at h1
  split at h1
  · cases h1
  · simp only [Bool.and_eq_true, decide_eq_true_eq] at h1
    exact h1.1
theorem right_parts {q : QeaT} (h : rightR q = true) : headR q = true ∧ (allS (stepR q) q.trans 0 0).1 = true ∧ allI (symR q) q.symbols = true := by
  unfold rightR topR transAll symbolsR at h
  simp only [Bool.and_eq_true] at h
  exact ⟨h.1.2.2.2.2, h.2.1.1, h.2.2.2.1⟩
theorem short_of {q : QeaT} (hf : fewQ q = true) (h : rightR q = true) : ShortQ q := by
  have hv : ∀ x ∈ q.vars, x.length ≤ 32 := fun x hx => by
    have h1 := (right_parts h).1
    unfold headR at h1
    simp only [Bool.and_eq_true] at h1
    obtain ⟨i, hi⟩ := List.getElem?_of_mem hx
    have h2 := allI_true.1 h1.2.2.1 i x hi
    unfold nameR at h2
    rw [Bool.and_eq_true] at h2
    exact nameOk_len h2.1
  refine ⟨fun y hy => ?_, fun y hy => ?_, fun y hy => ?_⟩
  · unfold fewQ at hf
    simp only [Bool.and_eq_true] at hf
    obtain ⟨i, hi⟩ := List.getElem?_of_mem hy
    have h2 := allI_true.1 hf.2.1 i y hi
    unfold fewDecl short at h2
    simp only [Bool.and_eq_true, decide_eq_true_eq] at h2
    omega
  · have := hv y.name (List.mem_append.2 (.inl (List.mem_map.2 ⟨y, hy, rfl⟩)))
    omega
  · have := hv y.name (List.mem_append.2 (.inr (List.mem_map.2 ⟨y, hy, rfl⟩)))
    omega
theorem sym_of {q : QeaT} (h : rightR q = true) {s : SymT} (hs : s ∈ q.symbols) : symS q s = true := by
  obtain ⟨i, hi⟩ := List.getElem?_of_mem hs
  have := allI_true.1 (right_parts h).2.2 i s hi
  unfold symR at this
  rw [Bool.and_eq_true] at this
  exact this.1
def Sym64 (q : QeaT) : Prop := ∀ s ∈ q.symbols, ∀ a ∈ s.args, i64 a.value.int
theorem arg_of {q : QeaT} (hf : fewQ q = true) (h : Sym64 q) {s : SymT} (hs : s ∈ q.symbols) : ∀ a ∈ s.args, ShortA a := fun a ha => by
  refine ⟨h s hs a ha, ?_⟩
  unfold fewQ at hf
  simp only [Bool.and_eq_true] at hf
  obtain ⟨i, hi⟩ := List.getElem?_of_mem hs
  have h2 := allI_true.1 hf.2.2.1 i s hi
  unfold fewSym at h2
  rw [Bool.and_eq_true] at h2
  obtain ⟨j, hj⟩ := List.getElem?_of_mem ha
  have h3 := allI_true.1 h2.2 j a hj
  unfold short at h3
  simp only [decide_eq_true_eq] at h3
  omega
theorem allS_mem {α σ : Type} {f : σ → Nat → α → Bool × σ} : ∀ {l : List α} {i : Nat} {s : σ}, (allS f l i s).1 = true → ∀ x ∈ l, ∃ s' j, (f s' j x).1 = true
  | [], _, _, _, x, hx => nomatch hx
  | y :: l, i, s, h, x, hx => by
    rw [allS] at h
    split at h
    · rename_i hy
      rcases List.mem_cons.1 hx with rfl | hx
      · exact ⟨s, i, hy⟩
      · exact allS_mem h x hx
    · cases h
theorem whole_ge {l : List ExT} {a r k : Int} (h : wholeS l a r k = true) : 0 ≤ r := by
  unfold wholeS at h
  split at h
  · cases h
  · rename_i e he
    obtain ⟨j, rfl, hj⟩ := at?_some he
    omega
theorem guard_of {q : QeaT} (h : rightR q = true) {t : TransT} (ht : t ∈ q.trans) : t.guard = -1 ∨ 0 ≤ t.guard := by
  obtain ⟨a, j, h1⟩ := allS_mem (right_parts h).2.1 t ht
  unfold stepR transR at h1
  dsimp only at h1
  split at h1
  · cases h1
  split at h1
  · rename_i hg; exact .inl hg
  split at h1
  · rename_i hw
    have := whole_ge hw
    exact .inr this
  · cases h1
def plainT (q : QeaT) (i : Nat) : Bool := (q.frees.length : Int) == 0 && (q.trans.take i).all fun t => t.guard == -1
theorem plain_eq {q : QeaT} (h : rightR q = true) : plainS q = plainT q q.trans.length := by
  unfold plainS plainT
  rw [List.take_length]
  congr 1
  rw [Bool.eq_iff_iff]
  simp only [Bool.not_eq_true', List.any_eq_false, decide_eq_true_eq, List.all_eq_true, beq_iff_eq]
  exact ⟨fun hn t ht => by have := hn t ht; have := guard_of h ht; omega, fun hn t ht => by have := hn t ht; omega⟩
theorem plain_succ {q : QeaT} {i : Nat} {t : TransT} (h : q.trans[i]? = some t) : plainT q (i + 1) = (plainT q i && t.guard == -1) := by
  unfold plainT
  rw [List.take_add_one, h, Bool.and_assoc]
  congr 1
  simp
theorem join_snoc {sep x : Str} {l : List Str} : Lib.join (l ++ [x]) sep = if l = [] then x else Lib.join l sep ++ sep ++ x := by
  cases l with
  | nil => rw [List.nil_append, Lib.join_one, if_pos rfl]
  | cons y l =>
    rw [List.cons_append, Lib.join_cons, Lib.join_cons, if_neg (by simp)]
    unfold Lib.joinTail
    simp
theorem join_succ {q : QeaT} {l : List ArgT} {i : Nat} {a : ArgT} (h : l[i]? = some a) : Lib.join ((l.take (i + 1)).map (argText q)) [44, 32] = if 0 < i then Lib.join ((l.take i).map (argText q)) [44, 32] ++ [44, 32] ++ argText q a else argText q a := by
  have hlt := (List.getElem?_eq_some_iff.1 h).1
  rw [List.take_add_one, h, List.map_append]
  simp only [Option.toList_some, List.map_cons, List.map_nil]
  rw [join_snoc]
  by_cases hi : 0 < i
  · rw [if_pos hi, if_neg (by intro h0; have h1 := congrArg List.length h0; simp only [List.length_map, List.length_take, List.length_nil] at h1; omega)]
  · obtain rfl : i = 0 := by omega
    rw [if_neg hi, if_pos (by simp)]
end Go.Proofs.YtdfdiglnpekcpabGreatDoor.Ab
namespace Go.Proofs.YtdfdiglnpekcpabGreatDoor.Ab
set_option linter.unusedSimpArgs false
open Go
set_option maxHeartbeats 4000000
variable {G : Nat → Option AV}
theorem law13_CoreSymbols_pc (hG : words_global G) (hT : TextG G) (q : QeaT) (h64 : Sym64 q) (v : Int) : PureC Tryz.prog G n_proctorlaw13_CoreSymbols [qeaV q, iv v] (.bool true) := by
  have f1 := ref13_Few_pc (G := G) q
  have hw0 := law13_awake_pc hG
  refine pc_proctorlaw13_CoreSymbols (Runs.of fun Φ h => ?_)
  unfold c_proctorlaw13_CoreSymbols
  simp only [qeaV, declsV, quantsV, freesV, statesV, symsV, nodesV, transsV] at f1
  cases h1 : fewQ q with
  | false =>
    rw [h1] at f1
    (try (simp -implicitDefEqProofs only [go_sem, Nat.reduceAdd, Nat.reduceSub, Nat.reduceMul, Nat.reduceLT, Nat.reduceLeDiff, Nat.reduceEqDiff, Nat.reduceBEq, Int.reduceNeg, Int.reduceAdd, Int.reduceLT, Int.reduceLE, Int.reduceToNat, Int.reduceEq, Int.reduceNe, Int.reduceBEq, Int.reduceBNe, Int.reduceMul, Int.reduceSub, reduceIte, reduceCtorEq, qeaV, declsV, quantsV, freesV, statesV, symsV, nodesV, transsV])); repeat' ((first | refine at_guard (fun hb => ?_) (fun hb => ?_) | refine ⟨fun hb => ?_, fun hb => ?_⟩ | refine at_call (f1) rfl rfl ?_ | refine at_call (hw0) rfl rfl ?_ | fail) <;> (try (simp -implicitDefEqProofs only [go_sem, Nat.reduceAdd, Nat.reduceSub, Nat.reduceMul, Nat.reduceLT, Nat.reduceLeDiff, Nat.reduceEqDiff, Nat.reduceBEq, Int.reduceNeg, Int.reduceAdd, Int.reduceLT, Int.reduceLE, Int.reduceToNat, Int.reduceEq, Int.reduceNe, Int.reduceBEq, Int.reduceBNe, Int.reduceMul, Int.reduceSub, reduceIte, reduceCtorEq, qeaV, declsV, quantsV, freesV, statesV, symsV, nodesV, transsV])))
    all_goals (refine h _ ⟨_, _, rfl, rfl, fit_eq ?_⟩; clear h; first | rfl | simp_all)
  | true =>
    rw [h1] at f1
    have hq := few_of q h1
    have hr := ref13_Right_pc (G := G) q hq
    simp only [qeaV, declsV, quantsV, freesV, statesV, symsV, nodesV, transsV] at hr
    cases h2 : rightR q with
    | false =>
      rw [h2] at hr
      (try (simp -implicitDefEqProofs only [go_sem, Nat.reduceAdd, Nat.reduceSub, Nat.reduceMul, Nat.reduceLT, Nat.reduceLeDiff, Nat.reduceEqDiff, Nat.reduceBEq, Int.reduceNeg, Int.reduceAdd, Int.reduceLT, Int.reduceLE, Int.reduceToNat, Int.reduceEq, Int.reduceNe, Int.reduceBEq, Int.reduceBNe, Int.reduceMul, Int.reduceSub, reduceIte, reduceCtorEq, qeaV, declsV, quantsV, freesV, statesV, symsV, nodesV, transsV])); repeat' ((first | refine at_guard (fun hb => ?_) (fun hb => ?_) | refine ⟨fun hb => ?_, fun hb => ?_⟩ | refine at_call (f1) rfl rfl ?_ | refine at_call (hr) rfl rfl ?_ | refine at_call (hw0) rfl rfl ?_ | fail) <;> (try (simp -implicitDefEqProofs only [go_sem, Nat.reduceAdd, Nat.reduceSub, Nat.reduceMul, Nat.reduceLT, Nat.reduceLeDiff, Nat.reduceEqDiff, Nat.reduceBEq, Int.reduceNeg, Int.reduceAdd, Int.reduceLT, Int.reduceLE, Int.reduceToNat, Int.reduceEq, Int.reduceNe, Int.reduceBEq, Int.reduceBNe, Int.reduceMul, Int.reduceSub, reduceIte, reduceCtorEq, qeaV, declsV, quantsV, freesV, statesV, symsV, nodesV, transsV])))
      all_goals (refine h _ ⟨_, _, rfl, rfl, fit_eq ?_⟩; clear h; first | rfl | simp_all)
    | true =>
      rw [h2] at hr
      have hsh := short_of h1 h2
      have hql := hq.symbols
      have htl := hq.trans
      (try (simp -implicitDefEqProofs only [go_sem, Nat.reduceAdd, Nat.reduceSub, Nat.reduceMul, Nat.reduceLT, Nat.reduceLeDiff, Nat.reduceEqDiff, Nat.reduceBEq, Int.reduceNeg, Int.reduceAdd, Int.reduceLT, Int.reduceLE, Int.reduceToNat, Int.reduceEq, Int.reduceNe, Int.reduceBEq, Int.reduceBNe, Int.reduceMul, Int.reduceSub, reduceIte, reduceCtorEq, qeaV, declsV, quantsV, freesV, statesV, symsV, nodesV, transsV, List.length_map])); repeat' ((first | refine at_guard (fun hb => ?_) (fun hb => ?_) | refine ⟨fun hb => ?_, fun hb => ?_⟩ | refine at_call (f1) rfl rfl ?_ | refine at_call (hr) rfl rfl ?_ | fail) <;> (try (simp -implicitDefEqProofs only [go_sem, Nat.reduceAdd, Nat.reduceSub, Nat.reduceMul, Nat.reduceLT, Nat.reduceLeDiff, Nat.reduceEqDiff, Nat.reduceBEq, Int.reduceNeg, Int.reduceAdd, Int.reduceLT, Int.reduceLE, Int.reduceToNat, Int.reduceEq, Int.reduceNe, Int.reduceBEq, Int.reduceBNe, Int.reduceMul, Int.reduceSub, reduceIte, reduceCtorEq, qeaV, declsV, quantsV, freesV, statesV, symsV, nodesV, transsV, List.length_map])))
      clear f1 hr
      refine at_loop (fun n st => ∃ i : Nat, i + n = q.symbols.length ∧ st = ⟨134, [(1, iv v), (2, .ref 2 0 0), (5, iv i)], [(2, ⟨false, t_api_Qea, 9, [qeaV q]⟩)]⟩) q.symbols.length ⟨0, by simp, rfl⟩ ?_
      rintro I hI n st ⟨i, hi, rfl⟩
      simp -implicitDefEqProofs only [go_sem, Nat.reduceAdd, Nat.reduceSub, Nat.reduceMul, Nat.reduceLT, Nat.reduceLeDiff, Nat.reduceEqDiff, Nat.reduceBEq, Int.reduceNeg, Int.reduceAdd, Int.reduceLT, Int.reduceLE, Int.reduceToNat, Int.reduceEq, Int.reduceNe, Int.reduceBEq, Int.reduceBNe, Int.reduceMul, Int.reduceSub, reduceIte, reduceCtorEq, qeaV, declsV, quantsV, freesV, statesV, symsV, nodesV, transsV, List.length_map]
      refine ⟨fun hlt => ?_, fun hge => ?_⟩
      · have hlt' : i < q.symbols.length := by omega
        obtain ⟨s, hs, hm⟩ := at_some hlt'
        have hw := wrap_succ hlt' (by omega)
        have hsl := hq.args s hm
        have hsa := arg_of h1 h64 hm
        have hss := sym_of h2 hm
        have hc1 := core_Symbol_pc hT q hsh s hsl hsa hss
        have hc2 := core_Stands_pc (G := G) s (by omega) v
        have hc3 := ref13_Names_pc (G := G) s (by omega) v
        rw [stands_eq hss v] at hc2
        have hnext : again I n ⟨134, [(1, iv v), (2, .ref 2 0 0), (5, iv (i + 1 : Nat))], [(2, ⟨false, t_api_Qea, 9, [qeaV q]⟩)]⟩ := at_again (n - 1) (by omega) (hI _ _ ⟨i + 1, by omega, rfl⟩)
        clear hI h
        generalize namesS s v = nb at *
        obtain ⟨ev, args⟩ := s
        dsimp only at hsl hsa
        have hss' := hss
        unfold symS at hss'
        dsimp only at hss'
        cases hd : at? q.decls ev with
        | none => rw [hd] at hss'; cases hss'
        | some d =>
          rw [hd] at hss'
          have hargs := zip_arg hss'
          obtain ⟨e, rfl, he⟩ := at?_some hd
          have hdn := hsh.decls d (List.mem_of_getElem? he)
          have htx : symText q ⟨e, args⟩ = d.name ++ [40] ++ Lib.join (args.map (argText q)) [44, 32] ++ [41] := by
            unfold symText dName
            rw [hd]
          rw [htx] at hc1
          clear htx hss hss' hd
          have a1 : abin .add (.str d.name) (.str [40]) = some (.str (d.name ++ [40])) := abin_adds (by simp only [List.length_cons, List.length_nil]; omega)
          (try (simp -implicitDefEqProofs only [go_sem, Nat.reduceAdd, Nat.reduceSub, Nat.reduceMul, Nat.reduceLT, Nat.reduceLeDiff, Nat.reduceEqDiff, Nat.reduceBEq, Int.reduceNeg, Int.reduceAdd, Int.reduceLT, Int.reduceLE, Int.reduceToNat, Int.reduceEq, Int.reduceNe, Int.reduceBEq, Int.reduceBNe, Int.reduceMul, Int.reduceSub, reduceIte, reduceCtorEq, aiaddr_map hs, aiaddr_map he, symV, argsV, declV, a1, qeaV, declsV, quantsV, freesV, statesV, symsV, nodesV, transsV, List.length_map])); repeat' ((first | refine at_guard (fun hb => ?_) (fun hb => ?_) | refine ⟨fun hb => ?_, fun hb => ?_⟩ | fail) <;> (try (simp -implicitDefEqProofs only [go_sem, Nat.reduceAdd, Nat.reduceSub, Nat.reduceMul, Nat.reduceLT, Nat.reduceLeDiff, Nat.reduceEqDiff, Nat.reduceBEq, Int.reduceNeg, Int.reduceAdd, Int.reduceLT, Int.reduceLE, Int.reduceToNat, Int.reduceEq, Int.reduceNe, Int.reduceBEq, Int.reduceBNe, Int.reduceMul, Int.reduceSub, reduceIte, reduceCtorEq, aiaddr_map hs, aiaddr_map he, symV, argsV, declV, a1, qeaV, declsV, quantsV, freesV, statesV, symsV, nodesV, transsV, List.length_map])))
          refine at_loop (fun n st => ∃ (k : Nat) (o : Str), k + n = args.length ∧ st = ⟨134, [(1, iv v), (2, .ref 2 0 0), (5, iv i), (6, .ref 6 0 0), (7, .str o), (8, iv k)], [(2, ⟨false, t_api_Qea, 9, [qeaV q]⟩), (6, ⟨false, t_api_Symbol, 2, [symV ⟨e, args⟩]⟩)]⟩ ∧ o = d.name ++ [40] ++ Lib.join ((args.take k).map (argText q)) [44, 32]) args.length ⟨0, _, by simp, rfl, by simp [Lib.join_nil]⟩ ?_
          rintro J hJ m st ⟨k, o, hk, rfl, ho⟩
          have hol : o.length ≤ 1001 + 5002 * k := by
            have := join_len (sep := [44, 32]) (c := 5000) (l := (args.take k).map (argText q)) (fun x hx => by obtain ⟨a, hma, rfl⟩ := List.mem_map.1 hx; exact argText_len hsh (hsa a (List.mem_of_mem_take hma)))
            rw [List.length_map, List.length_take] at this
            simp only [List.length_cons, List.length_nil] at this
            have hmn : min k args.length * (0 + 1 + 1 + 5000) ≤ k * (0 + 1 + 1 + 5000) := Nat.mul_le_mul_right _ (Nat.min_le_left _ _)
            rw [ho, List.length_append, List.length_append]
            simp only [List.length_cons, List.length_nil]
            omega
          simp -implicitDefEqProofs only [go_sem, Nat.reduceAdd, Nat.reduceSub, Nat.reduceMul, Nat.reduceLT, Nat.reduceLeDiff, Nat.reduceEqDiff, Nat.reduceBEq, Int.reduceNeg, Int.reduceAdd, Int.reduceLT, Int.reduceLE, Int.reduceToNat, Int.reduceEq, Int.reduceNe, Int.reduceBEq, Int.reduceBNe, Int.reduceMul, Int.reduceSub, reduceIte, reduceCtorEq, symV, argsV, qeaV, declsV, quantsV, freesV, statesV, symsV, nodesV, transsV, List.length_map]
          refine ⟨fun hlt2 => ?_, fun hge2 => ?_⟩
          · have hlk : k < args.length := by omega
            obtain ⟨a, hak, hma⟩ := at_some hlk
            have hwk := wrap_succ hlk (by omega)
            obtain ⟨kd, hkd⟩ := hargs a hma
            have hta := argText_len hsh (hsa a hma)
            have hsn := (hsa a hma).num
            have hst := (hsa a hma).str
            have hjs := join_succ (q := q) hak
            have hnext2 : ∀ o', o' = d.name ++ [40] ++ Lib.join ((args.take (k + 1)).map (argText q)) [44, 32] → again J m ⟨134, [(1, iv v), (2, .ref 2 0 0), (5, iv i), (6, .ref 6 0 0), (7, .str o'), (8, iv (k + 1 : Nat))], [(2, ⟨false, t_api_Qea, 9, [qeaV q]⟩), (6, ⟨false, t_api_Symbol, 2, [symV ⟨e, args⟩]⟩)]⟩ := fun o' ho' => at_again (m - 1) (by omega) (hJ _ _ ⟨k + 1, o', by omega, rfl, ho'⟩)
            rw [hjs] at hnext2
            clear hjs hnext hc1 hc2 hc3 hJ hargs hsa hw
            obtain ⟨p, hp, hpl, hgo⟩ : ∃ p : Str, p = (if 0 < k then o ++ [44, 32] else o) ∧ p.length ≤ 1003 + 5002 * k ∧ p ++ argText q a = d.name ++ [40] ++ (if 0 < k then Lib.join ((args.take k).map (argText q)) [44, 32] ++ [44, 32] ++ argText q a else argText q a) := by
              refine ⟨_, rfl, ?_, ?_⟩
              · split
                · rw [List.length_append]; simp only [List.length_cons, List.length_nil]; omega
                · omega
              · by_cases h0 : 0 < k
                · rw [if_pos h0, if_pos h0, ho]; simp
                · obtain rfl : k = 0 := by omega
                  rw [if_neg h0, if_neg h0, ho]; simp [Lib.join_nil]
            have hnx := hnext2 _ hgo
            clear hnext2 hgo ho
            have b1 : abin .add (.str o) (.str [44, 32]) = some (.str (o ++ [44, 32])) := abin_adds (by simp only [List.length_cons, List.length_nil]; omega)
            have b2 : abin .add (.str p) (.str (argText q a)) = some (.str (p ++ argText q a)) := abin_adds (by omega)
            unfold argText at hnx b2
            unfold argS at hkd
            by_cases c1 : a.kind = 1
            · rw [if_pos c1] at hnx b2
              have hv := ref03_Text_pc (G := G) a.value hsn (by omega)
              simp only [valV] at hv
              generalize valText a.value = x at *
              by_cases h0 : 0 < k
              · rw [if_pos h0] at hp
                subst hp
                (try (simp -implicitDefEqProofs only [go_sem, Nat.reduceAdd, Nat.reduceSub, Nat.reduceMul, Nat.reduceLT, Nat.reduceLeDiff, Nat.reduceEqDiff, Nat.reduceBEq, Int.reduceNeg, Int.reduceAdd, Int.reduceLT, Int.reduceLE, Int.reduceToNat, Int.reduceEq, Int.reduceNe, Int.reduceBEq, Int.reduceBNe, Int.reduceMul, Int.reduceSub, reduceIte, reduceCtorEq, aiaddr_map hak, symV, argsV, argV, hwk, b1, b2, c1])); repeat' ((first | refine at_guard (fun hb => ?_) (fun hb => ?_) | refine ⟨fun hb => ?_, fun hb => ?_⟩ | refine at_call (hv) rfl rfl ?_ | fail) <;> (try (simp -implicitDefEqProofs only [go_sem, Nat.reduceAdd, Nat.reduceSub, Nat.reduceMul, Nat.reduceLT, Nat.reduceLeDiff, Nat.reduceEqDiff, Nat.reduceBEq, Int.reduceNeg, Int.reduceAdd, Int.reduceLT, Int.reduceLE, Int.reduceToNat, Int.reduceEq, Int.reduceNe, Int.reduceBEq, Int.reduceBNe, Int.reduceMul, Int.reduceSub, reduceIte, reduceCtorEq, aiaddr_map hak, symV, argsV, argV, hwk, b1, b2, c1])))
                all_goals first | exact hnx | (exfalso; simp at *; omega)
              · rw [if_neg h0] at hp
                subst hp
                (try (simp -implicitDefEqProofs only [go_sem, Nat.reduceAdd, Nat.reduceSub, Nat.reduceMul, Nat.reduceLT, Nat.reduceLeDiff, Nat.reduceEqDiff, Nat.reduceBEq, Int.reduceNeg, Int.reduceAdd, Int.reduceLT, Int.reduceLE, Int.reduceToNat, Int.reduceEq, Int.reduceNe, Int.reduceBEq, Int.reduceBNe, Int.reduceMul, Int.reduceSub, reduceIte, reduceCtorEq, aiaddr_map hak, symV, argsV, argV, hwk, b1, b2, c1])); repeat' ((first | refine at_guard (fun hb => ?_) (fun hb => ?_) | refine ⟨fun hb => ?_, fun hb => ?_⟩ | refine at_call (hv) rfl rfl ?_ | fail) <;> (try (simp -implicitDefEqProofs only [go_sem, Nat.reduceAdd, Nat.reduceSub, Nat.reduceMul, Nat.reduceLT, Nat.reduceLeDiff, Nat.reduceEqDiff, Nat.reduceBEq, Int.reduceNeg, Int.reduceAdd, Int.reduceLT, Int.reduceLE, Int.reduceToNat, Int.reduceEq, Int.reduceNe, Int.reduceBEq, Int.reduceBNe, Int.reduceMul, Int.reduceSub, reduceIte, reduceCtorEq, aiaddr_map hak, symV, argsV, argV, hwk, b1, b2, c1])))
                all_goals first | exact hnx | (exfalso; simp at *; omega)
            by_cases c2 : a.kind = 2
            · rw [if_neg c1, if_pos c2] at hnx b2 hkd
              cases hq2 : at? q.quants a.n with
              | none => rw [hq2] at hkd; cases hkd
              | some y =>
                obtain ⟨z, hz, hy⟩ := at?_some hq2
                unfold qName at hnx b2
                rw [hq2] at hnx b2
                dsimp only at hnx b2
                by_cases h0 : 0 < k
                · rw [if_pos h0] at hp
                  subst hp
                  (try (simp -implicitDefEqProofs only [go_sem, Nat.reduceAdd, Nat.reduceSub, Nat.reduceMul, Nat.reduceLT, Nat.reduceLeDiff, Nat.reduceEqDiff, Nat.reduceBEq, Int.reduceNeg, Int.reduceAdd, Int.reduceLT, Int.reduceLE, Int.reduceToNat, Int.reduceEq, Int.reduceNe, Int.reduceBEq, Int.reduceBNe, Int.reduceMul, Int.reduceSub, reduceIte, reduceCtorEq, aiaddr_map hak, aiaddr_map hy, symV, argsV, argV, quantV, hwk, b1, b2, c2, hz, qeaV, declsV, quantsV, freesV, statesV, symsV, nodesV, transsV, List.length_map])); repeat' ((first | refine at_guard (fun hb => ?_) (fun hb => ?_) | refine ⟨fun hb => ?_, fun hb => ?_⟩ | fail) <;> (try (simp -implicitDefEqProofs only [go_sem, Nat.reduceAdd, Nat.reduceSub, Nat.reduceMul, Nat.reduceLT, Nat.reduceLeDiff, Nat.reduceEqDiff, Nat.reduceBEq, Int.reduceNeg, Int.reduceAdd, Int.reduceLT, Int.reduceLE, Int.reduceToNat, Int.reduceEq, Int.reduceNe, Int.reduceBEq, Int.reduceBNe, Int.reduceMul, Int.reduceSub, reduceIte, reduceCtorEq, aiaddr_map hak, aiaddr_map hy, symV, argsV, argV, quantV, hwk, b1, b2, c2, hz, qeaV, declsV, quantsV, freesV, statesV, symsV, nodesV, transsV, List.length_map])))
                  all_goals first | exact hnx | (exfalso; simp at *; omega)
                · rw [if_neg h0] at hp
                  subst hp
                  (try (simp -implicitDefEqProofs only [go_sem, Nat.reduceAdd, Nat.reduceSub, Nat.reduceMul, Nat.reduceLT, Nat.reduceLeDiff, Nat.reduceEqDiff, Nat.reduceBEq, Int.reduceNeg, Int.reduceAdd, Int.reduceLT, Int.reduceLE, Int.reduceToNat, Int.reduceEq, Int.reduceNe, Int.reduceBEq, Int.reduceBNe, Int.reduceMul, Int.reduceSub, reduceIte, reduceCtorEq, aiaddr_map hak, aiaddr_map hy, symV, argsV, argV, quantV, hwk, b1, b2, c2, hz, qeaV, declsV, quantsV, freesV, statesV, symsV, nodesV, transsV, List.length_map])); repeat' ((first | refine at_guard (fun hb => ?_) (fun hb => ?_) | refine ⟨fun hb => ?_, fun hb => ?_⟩ | fail) <;> (try (simp -implicitDefEqProofs only [go_sem, Nat.reduceAdd, Nat.reduceSub, Nat.reduceMul, Nat.reduceLT, Nat.reduceLeDiff, Nat.reduceEqDiff, Nat.reduceBEq, Int.reduceNeg, Int.reduceAdd, Int.reduceLT, Int.reduceLE, Int.reduceToNat, Int.reduceEq, Int.reduceNe, Int.reduceBEq, Int.reduceBNe, Int.reduceMul, Int.reduceSub, reduceIte, reduceCtorEq, aiaddr_map hak, aiaddr_map hy, symV, argsV, argV, quantV, hwk, b1, b2, c2, hz, qeaV, declsV, quantsV, freesV, statesV, symsV, nodesV, transsV, List.length_map])))
                  all_goals first | exact hnx | (exfalso; simp at *; omega)
            by_cases c3 : a.kind = 3
            · rw [if_neg c1, if_neg c2, if_pos c3] at hnx b2 hkd
              cases hq2 : at? q.frees a.n with
              | none => rw [hq2] at hkd; cases hkd
              | some y =>
                obtain ⟨z, hz, hy⟩ := at?_some hq2
                unfold fName at hnx b2
                rw [hq2] at hnx b2
                dsimp only at hnx b2
                by_cases h0 : 0 < k
                · rw [if_pos h0] at hp
                  subst hp
                  (try (simp -implicitDefEqProofs only [go_sem, Nat.reduceAdd, Nat.reduceSub, Nat.reduceMul, Nat.reduceLT, Nat.reduceLeDiff, Nat.reduceEqDiff, Nat.reduceBEq, Int.reduceNeg, Int.reduceAdd, Int.reduceLT, Int.reduceLE, Int.reduceToNat, Int.reduceEq, Int.reduceNe, Int.reduceBEq, Int.reduceBNe, Int.reduceMul, Int.reduceSub, reduceIte, reduceCtorEq, aiaddr_map hak, aiaddr_map hy, symV, argsV, argV, freeV, hwk, b1, b2, c3, hz, qeaV, declsV, quantsV, freesV, statesV, symsV, nodesV, transsV, List.length_map])); repeat' ((first | refine at_guard (fun hb => ?_) (fun hb => ?_) | refine ⟨fun hb => ?_, fun hb => ?_⟩ | fail) <;> (try (simp -implicitDefEqProofs only [go_sem, Nat.reduceAdd, Nat.reduceSub, Nat.reduceMul, Nat.reduceLT, Nat.reduceLeDiff, Nat.reduceEqDiff, Nat.reduceBEq, Int.reduceNeg, Int.reduceAdd, Int.reduceLT, Int.reduceLE, Int.reduceToNat, Int.reduceEq, Int.reduceNe, Int.reduceBEq, Int.reduceBNe, Int.reduceMul, Int.reduceSub, reduceIte, reduceCtorEq, aiaddr_map hak, aiaddr_map hy, symV, argsV, argV, freeV, hwk, b1, b2, c3, hz, qeaV, declsV, quantsV, freesV, statesV, symsV, nodesV, transsV, List.length_map])))
                  all_goals first | exact hnx | (exfalso; simp at *; omega)
                · rw [if_neg h0] at hp
                  subst hp
                  (try (simp -implicitDefEqProofs only [go_sem, Nat.reduceAdd, Nat.reduceSub, Nat.reduceMul, Nat.reduceLT, Nat.reduceLeDiff, Nat.reduceEqDiff, Nat.reduceBEq, Int.reduceNeg, Int.reduceAdd, Int.reduceLT, Int.reduceLE, Int.reduceToNat, Int.reduceEq, Int.reduceNe, Int.reduceBEq, Int.reduceBNe, Int.reduceMul, Int.reduceSub, reduceIte, reduceCtorEq, aiaddr_map hak, aiaddr_map hy, symV, argsV, argV, freeV, hwk, b1, b2, c3, hz, qeaV, declsV, quantsV, freesV, statesV, symsV, nodesV, transsV, List.length_map])); repeat' ((first | refine at_guard (fun hb => ?_) (fun hb => ?_) | refine ⟨fun hb => ?_, fun hb => ?_⟩ | fail) <;> (try (simp -implicitDefEqProofs only [go_sem, Nat.reduceAdd, Nat.reduceSub, Nat.reduceMul, Nat.reduceLT, Nat.reduceLeDiff, Nat.reduceEqDiff, Nat.reduceBEq, Int.reduceNeg, Int.reduceAdd, Int.reduceLT, Int.reduceLE, Int.reduceToNat, Int.reduceEq, Int.reduceNe, Int.reduceBEq, Int.reduceBNe, Int.reduceMul, Int.reduceSub, reduceIte, reduceCtorEq, aiaddr_map hak, aiaddr_map hy, symV, argsV, argV, freeV, hwk, b1, b2, c3, hz, qeaV, declsV, quantsV, freesV, statesV, symsV, nodesV, transsV, List.length_map])))
                  all_goals first | exact hnx | (exfalso; simp at *; omega)
            rw [if_neg c1, if_neg c2, if_neg c3] at hnx b2
            by_cases h0 : 0 < k
            · rw [if_pos h0] at hp
              subst hp
              (try (simp -implicitDefEqProofs only [go_sem, Nat.reduceAdd, Nat.reduceSub, Nat.reduceMul, Nat.reduceLT, Nat.reduceLeDiff, Nat.reduceEqDiff, Nat.reduceBEq, Int.reduceNeg, Int.reduceAdd, Int.reduceLT, Int.reduceLE, Int.reduceToNat, Int.reduceEq, Int.reduceNe, Int.reduceBEq, Int.reduceBNe, Int.reduceMul, Int.reduceSub, reduceIte, reduceCtorEq, aiaddr_map hak, symV, argsV, argV, hwk, b1, b2])); repeat' ((first | refine at_guard (fun hb => ?_) (fun hb => ?_) | refine ⟨fun hb => ?_, fun hb => ?_⟩ | fail) <;> (try (simp -implicitDefEqProofs only [go_sem, Nat.reduceAdd, Nat.reduceSub, Nat.reduceMul, Nat.reduceLT, Nat.reduceLeDiff, Nat.reduceEqDiff, Nat.reduceBEq, Int.reduceNeg, Int.reduceAdd, Int.reduceLT, Int.reduceLE, Int.reduceToNat, Int.reduceEq, Int.reduceNe, Int.reduceBEq, Int.reduceBNe, Int.reduceMul, Int.reduceSub, reduceIte, reduceCtorEq, aiaddr_map hak, symV, argsV, argV, hwk, b1, b2])))
              all_goals first | exact hnx | (exfalso; simp at *; omega)
            · rw [if_neg h0] at hp
              subst hp
              (try (simp -implicitDefEqProofs only [go_sem, Nat.reduceAdd, Nat.reduceSub, Nat.reduceMul, Nat.reduceLT, Nat.reduceLeDiff, Nat.reduceEqDiff, Nat.reduceBEq, Int.reduceNeg, Int.reduceAdd, Int.reduceLT, Int.reduceLE, Int.reduceToNat, Int.reduceEq, Int.reduceNe, Int.reduceBEq, Int.reduceBNe, Int.reduceMul, Int.reduceSub, reduceIte, reduceCtorEq, aiaddr_map hak, symV, argsV, argV, hwk, b1, b2])); repeat' ((first | refine at_guard (fun hb => ?_) (fun hb => ?_) | refine ⟨fun hb => ?_, fun hb => ?_⟩ | fail) <;> (try (simp -implicitDefEqProofs only [go_sem, Nat.reduceAdd, Nat.reduceSub, Nat.reduceMul, Nat.reduceLT, Nat.reduceLeDiff, Nat.reduceEqDiff, Nat.reduceBEq, Int.reduceNeg, Int.reduceAdd, Int.reduceLT, Int.reduceLE, Int.reduceToNat, Int.reduceEq, Int.reduceNe, Int.reduceBEq, Int.reduceBNe, Int.reduceMul, Int.reduceSub, reduceIte, reduceCtorEq, aiaddr_map hak, symV, argsV, argV, hwk, b1, b2])))
              all_goals first | exact hnx | (exfalso; simp at *; omega)
          · rw [List.take_of_length_le (by omega)] at ho
            rw [← ho] at hc1
            have b1 : abin .add (.str o) (.str [41]) = some (.str (o ++ [41])) := abin_adds (by simp only [List.length_cons, List.length_nil]; omega)
            have b2 : abin .neq (.str (o ++ [41])) (.str (o ++ [41])) = some (.bool false) := by simp [abin]
            simp only [symV, argsV, qeaV, declsV, quantsV, freesV, statesV, symsV, nodesV, transsV] at hc1 hc2 hc3
            clear hJ ho hargs hsa
            generalize o ++ [41] = T at *
            (try (simp -implicitDefEqProofs only [go_sem, Nat.reduceAdd, Nat.reduceSub, Nat.reduceMul, Nat.reduceLT, Nat.reduceLeDiff, Nat.reduceEqDiff, Nat.reduceBEq, Int.reduceNeg, Int.reduceAdd, Int.reduceLT, Int.reduceLE, Int.reduceToNat, Int.reduceEq, Int.reduceNe, Int.reduceBEq, Int.reduceBNe, Int.reduceMul, Int.reduceSub, reduceIte, reduceCtorEq, aiaddr_map hs, symV, argsV, b1, b2, hw, qeaV, declsV, quantsV, freesV, statesV, symsV, nodesV, transsV, List.length_map])); repeat' ((first | refine at_guard (fun hb => ?_) (fun hb => ?_) | refine ⟨fun hb => ?_, fun hb => ?_⟩ | refine at_call (hc1) rfl rfl ?_ | refine at_call (hc2) rfl rfl ?_ | refine at_call (hc3) rfl rfl ?_ | fail) <;> (try (simp -implicitDefEqProofs only [go_sem, Nat.reduceAdd, Nat.reduceSub, Nat.reduceMul, Nat.reduceLT, Nat.reduceLeDiff, Nat.reduceEqDiff, Nat.reduceBEq, Int.reduceNeg, Int.reduceAdd, Int.reduceLT, Int.reduceLE, Int.reduceToNat, Int.reduceEq, Int.reduceNe, Int.reduceBEq, Int.reduceBNe, Int.reduceMul, Int.reduceSub, reduceIte, reduceCtorEq, aiaddr_map hs, symV, argsV, b1, b2, hw, qeaV, declsV, quantsV, freesV, statesV, symsV, nodesV, transsV, List.length_map])))
            all_goals first | exact hnext | (exfalso; simp at *; done) | (exfalso; simp at *; omega)
      · clear hI hge hi hsh
        have hpl := core_Plain_pc (G := G) q (by omega)
        rw [plain_eq h2] at hpl
        simp only [qeaV, declsV, quantsV, freesV, statesV, symsV, nodesV, transsV] at hpl
        (try (simp -implicitDefEqProofs only [go_sem, Nat.reduceAdd, Nat.reduceSub, Nat.reduceMul, Nat.reduceLT, Nat.reduceLeDiff, Nat.reduceEqDiff, Nat.reduceBEq, Int.reduceNeg, Int.reduceAdd, Int.reduceLT, Int.reduceLE, Int.reduceToNat, Int.reduceEq, Int.reduceNe, Int.reduceBEq, Int.reduceBNe, Int.reduceMul, Int.reduceSub, reduceIte, reduceCtorEq, qeaV, declsV, quantsV, freesV, statesV, symsV, nodesV, transsV, List.length_map])); repeat' ((first | refine at_guard (fun hb => ?_) (fun hb => ?_) | refine ⟨fun hb => ?_, fun hb => ?_⟩ | fail) <;> (try (simp -implicitDefEqProofs only [go_sem, Nat.reduceAdd, Nat.reduceSub, Nat.reduceMul, Nat.reduceLT, Nat.reduceLeDiff, Nat.reduceEqDiff, Nat.reduceBEq, Int.reduceNeg, Int.reduceAdd, Int.reduceLT, Int.reduceLE, Int.reduceToNat, Int.reduceEq, Int.reduceNe, Int.reduceBEq, Int.reduceBNe, Int.reduceMul, Int.reduceSub, reduceIte, reduceCtorEq, qeaV, declsV, quantsV, freesV, statesV, symsV, nodesV, transsV, List.length_map])))
        refine at_loop (fun n st => ∃ i : Nat, i + n = q.trans.length ∧ st = ⟨134, [(2, .ref 2 0 0), (10, .bool (plainT q i)), (11, iv i)], [(2, ⟨false, t_api_Qea, 9, [qeaV q]⟩)]⟩) q.trans.length ⟨0, by simp, by simp [plainT]; rfl⟩ ?_
        rintro I hI n st ⟨i, hi, rfl⟩
        simp -implicitDefEqProofs only [go_sem, Nat.reduceAdd, Nat.reduceSub, Nat.reduceMul, Nat.reduceLT, Nat.reduceLeDiff, Nat.reduceEqDiff, Nat.reduceBEq, Int.reduceNeg, Int.reduceAdd, Int.reduceLT, Int.reduceLE, Int.reduceToNat, Int.reduceEq, Int.reduceNe, Int.reduceBEq, Int.reduceBNe, Int.reduceMul, Int.reduceSub, reduceIte, reduceCtorEq, qeaV, declsV, quantsV, freesV, statesV, symsV, nodesV, transsV, List.length_map]
        refine ⟨fun hlt => ?_, fun hge => ?_⟩
        · have hlt' : i < q.trans.length := by omega
          obtain ⟨t, ht, hm⟩ := at_some hlt'
          have hw := wrap_succ hlt' (by omega)
          have hnext : again I n ⟨134, [(2, .ref 2 0 0), (10, .bool (plainT q (i + 1))), (11, iv (i + 1 : Nat))], [(2, ⟨false, t_api_Qea, 9, [qeaV q]⟩)]⟩ := at_again (n - 1) (by omega) (hI _ _ ⟨i + 1, by omega, rfl⟩)
          rw [plain_succ ht] at hnext
          clear hI h hpl
          cases hb : plainT q i with
          | false =>
            rw [hb, Bool.false_and] at hnext
            (try (simp -implicitDefEqProofs only [go_sem, Nat.reduceAdd, Nat.reduceSub, Nat.reduceMul, Nat.reduceLT, Nat.reduceLeDiff, Nat.reduceEqDiff, Nat.reduceBEq, Int.reduceNeg, Int.reduceAdd, Int.reduceLT, Int.reduceLE, Int.reduceToNat, Int.reduceEq, Int.reduceNe, Int.reduceBEq, Int.reduceBNe, Int.reduceMul, Int.reduceSub, reduceIte, reduceCtorEq, aiaddr_map ht, transV, hw, qeaV, declsV, quantsV, freesV, statesV, symsV, nodesV, transsV, List.length_map])); repeat' ((first | refine at_guard (fun hb => ?_) (fun hb => ?_) | refine ⟨fun hb => ?_, fun hb => ?_⟩ | fail) <;> (try (simp -implicitDefEqProofs only [go_sem, Nat.reduceAdd, Nat.reduceSub, Nat.reduceMul, Nat.reduceLT, Nat.reduceLeDiff, Nat.reduceEqDiff, Nat.reduceBEq, Int.reduceNeg, Int.reduceAdd, Int.reduceLT, Int.reduceLE, Int.reduceToNat, Int.reduceEq, Int.reduceNe, Int.reduceBEq, Int.reduceBNe, Int.reduceMul, Int.reduceSub, reduceIte, reduceCtorEq, aiaddr_map ht, transV, hw, qeaV, declsV, quantsV, freesV, statesV, symsV, nodesV, transsV, List.length_map])))
            exact hnext
          | true =>
            rw [hb, Bool.true_and] at hnext
            (try (simp -implicitDefEqProofs only [go_sem, Nat.reduceAdd, Nat.reduceSub, Nat.reduceMul, Nat.reduceLT, Nat.reduceLeDiff, Nat.reduceEqDiff, Nat.reduceBEq, Int.reduceNeg, Int.reduceAdd, Int.reduceLT, Int.reduceLE, Int.reduceToNat, Int.reduceEq, Int.reduceNe, Int.reduceBEq, Int.reduceBNe, Int.reduceMul, Int.reduceSub, reduceIte, reduceCtorEq, aiaddr_map ht, transV, hw, qeaV, declsV, quantsV, freesV, statesV, symsV, nodesV, transsV, List.length_map])); repeat' ((first | refine at_guard (fun hb => ?_) (fun hb => ?_) | refine ⟨fun hb => ?_, fun hb => ?_⟩ | fail) <;> (try (simp -implicitDefEqProofs only [go_sem, Nat.reduceAdd, Nat.reduceSub, Nat.reduceMul, Nat.reduceLT, Nat.reduceLeDiff, Nat.reduceEqDiff, Nat.reduceBEq, Int.reduceNeg, Int.reduceAdd, Int.reduceLT, Int.reduceLE, Int.reduceToNat, Int.reduceEq, Int.reduceNe, Int.reduceBEq, Int.reduceBNe, Int.reduceMul, Int.reduceSub, reduceIte, reduceCtorEq, aiaddr_map ht, transV, hw, qeaV, declsV, quantsV, freesV, statesV, symsV, nodesV, transsV, List.length_map])))
            all_goals exact hnext
        · have hie : i = q.trans.length := by omega
          subst hie
          clear hI
          generalize plainT q q.trans.length = b at *
          cases b
          · (try (simp -implicitDefEqProofs only [go_sem, Nat.reduceAdd, Nat.reduceSub, Nat.reduceMul, Nat.reduceLT, Nat.reduceLeDiff, Nat.reduceEqDiff, Nat.reduceBEq, Int.reduceNeg, Int.reduceAdd, Int.reduceLT, Int.reduceLE, Int.reduceToNat, Int.reduceEq, Int.reduceNe, Int.reduceBEq, Int.reduceBNe, Int.reduceMul, Int.reduceSub, reduceIte, reduceCtorEq, qeaV, declsV, quantsV, freesV, statesV, symsV, nodesV, transsV])); repeat' ((first | refine at_guard (fun hb => ?_) (fun hb => ?_) | refine ⟨fun hb => ?_, fun hb => ?_⟩ | refine at_call (hpl) rfl rfl ?_ | refine at_call (hw0) rfl rfl ?_ | fail) <;> (try (simp -implicitDefEqProofs only [go_sem, Nat.reduceAdd, Nat.reduceSub, Nat.reduceMul, Nat.reduceLT, Nat.reduceLeDiff, Nat.reduceEqDiff, Nat.reduceBEq, Int.reduceNeg, Int.reduceAdd, Int.reduceLT, Int.reduceLE, Int.reduceToNat, Int.reduceEq, Int.reduceNe, Int.reduceBEq, Int.reduceBNe, Int.reduceMul, Int.reduceSub, reduceIte, reduceCtorEq, qeaV, declsV, quantsV, freesV, statesV, symsV, nodesV, transsV])))
            all_goals (refine h _ ⟨_, _, rfl, rfl, fit_eq ?_⟩; clear h; first | rfl | simp_all)
          · (try (simp -implicitDefEqProofs only [go_sem, Nat.reduceAdd, Nat.reduceSub, Nat.reduceMul, Nat.reduceLT, Nat.reduceLeDiff, Nat.reduceEqDiff, Nat.reduceBEq, Int.reduceNeg, Int.reduceAdd, Int.reduceLT, Int.reduceLE, Int.reduceToNat, Int.reduceEq, Int.reduceNe, Int.reduceBEq, Int.reduceBNe, Int.reduceMul, Int.reduceSub, reduceIte, reduceCtorEq, qeaV, declsV, quantsV, freesV, statesV, symsV, nodesV, transsV])); repeat' ((first | refine at_guard (fun hb => ?_) (fun hb => ?_) | refine ⟨fun hb => ?_, fun hb => ?_⟩ | refine at_call (hpl) rfl rfl ?_ | refine at_call (hw0) rfl rfl ?_ | fail) <;> (try (simp -implicitDefEqProofs only [go_sem, Nat.reduceAdd, Nat.reduceSub, Nat.reduceMul, Nat.reduceLT, Nat.reduceLeDiff, Nat.reduceEqDiff, Nat.reduceBEq, Int.reduceNeg, Int.reduceAdd, Int.reduceLT, Int.reduceLE, Int.reduceToNat, Int.reduceEq, Int.reduceNe, Int.reduceBEq, Int.reduceBNe, Int.reduceMul, Int.reduceSub, reduceIte, reduceCtorEq, qeaV, declsV, quantsV, freesV, statesV, symsV, nodesV, transsV])))
            all_goals (refine h _ ⟨_, _, rfl, rfl, fit_eq ?_⟩; clear h; first | rfl | simp_all)
end Go.Proofs.YtdfdiglnpekcpabGreatDoor.Ab
namespace Go.Proofs.YtdfdiglnpekcpabGreatDoor.Ab
set_option linter.unusedSimpArgs false
open Go Go.ChangeShapes Go.WideShapes Go.RowKit
set_option maxRecDepth 100000
theorem i64_wf {n : Int} (h : (Lit.int .i64 n).wf = true) : i64 n := by
  simp [Lit.wf, IntKind.min, IntKind.max, IntKind.signed, IntKind.bits] at h
  exact ⟨h.1, by omega⟩
theorem rd_listQ {α : Type} {f : α → AV} {Q : α → Prop} {t e sz : Nat} (ht : Tryz.prog.underlying t = some (.slice e)) (hs : Tryz.prog.cellsOf t = 1) (h : RdT Tryz.prog e sz fun cs => ∃ a : α, .agg cs = f a ∧ Q a) (h0 : 0 < sz) :
    RdT Tryz.prog t 1 fun cs => ∃ l : List α, cs = [.seq sz (l.map f)] ∧ l.length ≤ maxLen ∧ ∀ a ∈ l, Q a :=
  (rd_slice true ht hs h h0 (by intro h; cases h)).mono (by
    rintro _ ⟨es, rfl, hl, h⟩
    obtain ⟨l, rfl, hq⟩ := list_of' (f := f) (Q := Q) (fun x hx => by obtain ⟨_, ⟨o, e, q⟩, rfl⟩ := h x hx; exact ⟨o, e, q⟩)
    exact ⟨l, rfl, by simpa using hl, hq⟩)
theorem rVal64 : RdT Tryz.prog 89 4 fun cs => ∃ v : Val, cs = [iv v.kind, iv v.int, .str v.str, .bool v.bool] ∧ i64 v.int :=
  (rd_struct (t := 89) (fs := (Tryz.prog.fieldsOf 89)) (by kernel_rfl) (by kernel_rfl) (rdf_cons (f := (Tryz.prog.fieldsOf 89)[0]!) (rInt (by kernel_rfl) (by kernel_rfl)) (by kernel_rfl) rfl (rdf_cons (f := (Tryz.prog.fieldsOf 89)[1]!) (rd_int (by kernel_rfl) (by kernel_rfl)) (by kernel_rfl) rfl (rdf_cons (f := (Tryz.prog.fieldsOf 89)[2]!) (rStr (by kernel_rfl) (by kernel_rfl)) (by kernel_rfl) rfl (rdf_cons (f := (Tryz.prog.fieldsOf 89)[3]!) (rd_bool (by kernel_rfl) (by kernel_rfl)) (by kernel_rfl) rfl (rdf_nil _)))))).mono (by
    rintro _ ⟨_, _, rfl, ⟨a, rfl⟩, _, _, rfl, ⟨b, rfl, hb⟩, _, _, rfl, ⟨c, rfl⟩, _, _, rfl, ⟨d, rfl⟩, rfl⟩
    exact ⟨⟨a, b, c, d⟩, rfl, i64_wf hb⟩)
theorem rArg64 : RdT Tryz.prog 91 6 fun cs => ∃ a : ArgT, .agg cs = argV a ∧ i64 a.value.int :=
  (rd_struct (t := 91) (fs := (Tryz.prog.fieldsOf 91)) (by kernel_rfl) (by kernel_rfl) (rdf_cons (f := (Tryz.prog.fieldsOf 91)[0]!) (rInt (by kernel_rfl) (by kernel_rfl)) (by kernel_rfl) rfl (rdf_cons (f := (Tryz.prog.fieldsOf 91)[1]!) (rInt (by kernel_rfl) (by kernel_rfl)) (by kernel_rfl) rfl (rdf_cons (f := (Tryz.prog.fieldsOf 91)[2]!) rVal64 (by kernel_rfl) rfl (rdf_nil _))))).mono (by
    rintro _ ⟨_, _, rfl, ⟨a, rfl⟩, _, _, rfl, ⟨b, rfl⟩, _, _, rfl, ⟨v, rfl, hv⟩, rfl⟩
    exact ⟨⟨a, b, v⟩, rfl, hv⟩)
theorem rSym64 : RdT Tryz.prog 84 2 fun cs => ∃ a : SymT, .agg cs = symV a ∧ ∀ x ∈ a.args, i64 x.value.int :=
  (rd_struct (t := 84) (fs := (Tryz.prog.fieldsOf 84)) (by kernel_rfl) (by kernel_rfl) (rdf_cons (f := (Tryz.prog.fieldsOf 84)[0]!) (rInt (by kernel_rfl) (by kernel_rfl)) (by kernel_rfl) rfl (rdf_cons (f := (Tryz.prog.fieldsOf 84)[1]!) (rd_listQ (t := 82) (by kernel_rfl) (by kernel_rfl) rArg64 (by decide)) (by kernel_rfl) rfl (rdf_nil _)))).mono (by
    rintro _ ⟨_, _, rfl, ⟨a, rfl⟩, _, _, rfl, ⟨l, rfl, _, hl⟩, rfl⟩
    exact ⟨⟨a, l⟩, rfl, hl⟩)
theorem rQea64 : RdT Tryz.prog 30 9 fun cs => ∃ q : {q : QeaT // Sym64 q}, .agg cs = qeaV q.1 :=
  (rd_struct (t := 30) (fs := (Tryz.prog.fieldsOf 30)) (by kernel_rfl) (by kernel_rfl) (rdf_cons (f := (Tryz.prog.fieldsOf 30)[0]!) (rStr (by kernel_rfl) (by kernel_rfl)) (by kernel_rfl) rfl (rdf_cons (f := (Tryz.prog.fieldsOf 30)[1]!) (rd_list (t := 22) (by kernel_rfl) (by kernel_rfl) rDecl (by decide)) (by kernel_rfl) rfl (rdf_cons (f := (Tryz.prog.fieldsOf 30)[2]!) (rd_list (t := 23) (by kernel_rfl) (by kernel_rfl) rQuant (by decide)) (by kernel_rfl) rfl (rdf_cons (f := (Tryz.prog.fieldsOf 30)[3]!) (rd_list (t := 24) (by kernel_rfl) (by kernel_rfl) rFree (by decide)) (by kernel_rfl) rfl (rdf_cons (f := (Tryz.prog.fieldsOf 30)[4]!) (rd_list (t := 25) (by kernel_rfl) (by kernel_rfl) rState (by decide)) (by kernel_rfl) rfl (rdf_cons (f := (Tryz.prog.fieldsOf 30)[5]!) (rInt (by kernel_rfl) (by kernel_rfl)) (by kernel_rfl) rfl (rdf_cons (f := (Tryz.prog.fieldsOf 30)[6]!) (rd_listQ (t := 26) (by kernel_rfl) (by kernel_rfl) rSym64 (by decide)) (by kernel_rfl) rfl (rdf_cons (f := (Tryz.prog.fieldsOf 30)[7]!) (rd_list (t := 27) (by kernel_rfl) (by kernel_rfl) rNode (by decide)) (by kernel_rfl) rfl (rdf_cons (f := (Tryz.prog.fieldsOf 30)[8]!) (rd_list (t := 28) (by kernel_rfl) (by kernel_rfl) rTrans (by decide)) (by kernel_rfl) rfl (rdf_nil _))))))))))).mono (by
    rintro _ ⟨_, _, rfl, ⟨a, rfl⟩, _, _, rfl, ⟨l1, rfl, _⟩, _, _, rfl, ⟨l2, rfl, _⟩, _, _, rfl, ⟨l3, rfl, _⟩, _, _, rfl, ⟨l4, rfl, _⟩, _, _, rfl, ⟨s, rfl⟩, _, _, rfl, ⟨l5, rfl, _, h5⟩, _, _, rfl, ⟨l6, rfl, _⟩, _, _, rfl, ⟨l7, rfl, _⟩, rfl⟩
    exact ⟨⟨⟨a, l1, l2, l3, l4, s, l5, l6, l7⟩, h5⟩, rfl⟩)
end Go.Proofs.YtdfdiglnpekcpabGreatDoor.Ab
