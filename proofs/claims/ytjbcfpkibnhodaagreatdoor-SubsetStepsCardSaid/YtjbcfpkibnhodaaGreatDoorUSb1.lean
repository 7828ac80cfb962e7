/-
  Sets of states and of symbols as bits; joint.Next, proctorref22.Next: to which states symbols lead. No claim is proved here.
-/
import Derived.Test.YtjbcfpkibnhodaaGreatDoorUC9
namespace Go.Proofs.YtjbcfpkibnhodaaGreatDoor.Ab
open Go Go.RowKit
set_option linter.unusedSimpArgs false
set_option maxHeartbeats 4000000
set_option maxRecDepth 100000
variable {G : Nat → Option AV}
theorem band32 {a b : Nat} (ha : a < 4294967296) (hb : b < 4294967296) : abin .and (.int .u32 (a : Int)) (.int .u32 (b : Int)) = some (.int .u32 ((a &&& b : Nat) : Int)) := by
  have h : a &&& b < 4294967296 := Nat.lt_of_le_of_lt Nat.and_le_left ha
  have e : (BitVec.ofInt 32 (a : Int) &&& BitVec.ofInt 32 (b : Int)).toNat = a &&& b := by
    rw [BitVec.ofInt_natCast, BitVec.ofInt_natCast, BitVec.toNat_and, BitVec.toNat_ofNat, BitVec.toNat_ofNat, Nat.mod_eq_of_lt ha, Nat.mod_eq_of_lt hb]
  rw [abin_and]
  unfold bAnd
  rw [show IntKind.u32.bits = 32 from rfl, e]
  generalize a &&& b = m at *
  simp [IntKind.wrap, IntKind.bits, IntKind.signed]
  omega
theorem band64 {a b : Nat} (ha : a < 18446744073709551616) (hb : b < 18446744073709551616) : abin .and (.int .u64 (a : Int)) (.int .u64 (b : Int)) = some (.int .u64 ((a &&& b : Nat) : Int)) := by
  have h : a &&& b < 18446744073709551616 := Nat.lt_of_le_of_lt Nat.and_le_left ha
  have e : (BitVec.ofInt 64 (a : Int) &&& BitVec.ofInt 64 (b : Int)).toNat = a &&& b := by
    rw [BitVec.ofInt_natCast, BitVec.ofInt_natCast, BitVec.toNat_and, BitVec.toNat_ofNat, BitVec.toNat_ofNat, Nat.mod_eq_of_lt ha, Nat.mod_eq_of_lt hb]
  rw [abin_and]
  unfold bAnd
  rw [show IntKind.u64.bits = 64 from rfl, e]
  generalize a &&& b = m at *
  simp [IntKind.wrap, IntKind.bits, IntKind.signed]
  omega
theorem bor64 {a b : Nat} (ha : a < 18446744073709551616) (hb : b < 18446744073709551616) : abin .or (.int .u64 (a : Int)) (.int .u64 (b : Int)) = some (.int .u64 ((a ||| b : Nat) : Int)) := by
  have h : a ||| b < 18446744073709551616 := Nat.or_lt_two_pow (n := 64) ha hb
  have e : (BitVec.ofInt 64 (a : Int) ||| BitVec.ofInt 64 (b : Int)).toNat = a ||| b := by
    rw [BitVec.ofInt_natCast, BitVec.ofInt_natCast, BitVec.toNat_or, BitVec.toNat_ofNat, BitVec.toNat_ofNat, Nat.mod_eq_of_lt ha, Nat.mod_eq_of_lt hb]
  rw [abin_or]
  unfold bOr
  rw [show IntKind.u64.bits = 64 from rfl, e]
  generalize a ||| b = m at *
  simp [IntKind.wrap, IntKind.bits, IntKind.signed]
  omega
theorem pow32 {s : Nat} (hs : s < 32) : 2 ^ s < 4294967296 := Nat.lt_of_lt_of_le (Nat.pow_lt_pow_right (by decide) hs) (Nat.le_refl (2 ^ 32))
theorem pow64 {s : Nat} (hs : s < 64) : 2 ^ s < 18446744073709551616 := Nat.lt_of_lt_of_le (Nat.pow_lt_pow_right (by decide) hs) (Nat.le_refl (2 ^ 64))
theorem shl64 {s : Nat} (hs : s < 64) : abin .shl (.int .u64 1) (.int .u64 (s : Int)) = some (.int .u64 ((2 ^ s : Nat) : Int)) := by
  have h2 := pow64 hs
  show (if (s : Int) < 0 then none else some (AV.int .u64 (bShl .u64 1 s))) = _
  rw [if_neg (by omega)]
  unfold bShl
  rw [show IntKind.u64.bits = 64 from rfl, Int.toNat_natCast, Nat.min_eq_left (by omega), Int.one_mul]
  have e : ((2 : Int) ^ s) = ((2 ^ s : Nat) : Int) := by simp
  rw [e]
  generalize 2 ^ s = m at *
  simp [IntKind.wrap, IntKind.bits, IntKind.signed]
  omega
theorem fdiv_nat (a b : Nat) : (a : Int).fdiv (b : Int) = ((a / b : Nat) : Int) := by
  rw [Int.fdiv_eq_ediv_of_nonneg _ (by omega)]
  rfl
theorem shr32 {a s : Nat} (hs : s < 32) : abin .shr (.int .u32 (a : Int)) (.int .u64 (s : Int)) = some (.int .u32 ((a / 2 ^ s : Nat) : Int)) := by
  show (if (s : Int) < 0 then none else some (AV.int .u32 (bShr .u32 a s))) = _
  rw [if_neg (by omega)]
  unfold bShr
  rw [show IntKind.u32.bits = 32 from rfl, Int.toNat_natCast, Nat.min_eq_left (by omega)]
  have e : ((2 : Int) ^ s) = ((2 ^ s : Nat) : Int) := by simp
  rw [e, fdiv_nat]
theorem shr64 {a s : Nat} (hs : s < 64) : abin .shr (.int .u64 (a : Int)) (.int .u64 (s : Int)) = some (.int .u64 ((a / 2 ^ s : Nat) : Int)) := by
  show (if (s : Int) < 0 then none else some (AV.int .u64 (bShr .u64 a s))) = _
  rw [if_neg (by omega)]
  unfold bShr
  rw [show IntKind.u64.bits = 64 from rfl, Int.toNat_natCast, Nat.min_eq_left (by omega)]
  have e : ((2 : Int) ^ s) = ((2 ^ s : Nat) : Int) := by simp
  rw [e, fdiv_nat]
theorem rem2 {k : IntKind} (a : Nat) : abin .rem (.int k (a : Int)) (.int k 2) = some (.int k ((a % 2 : Nat) : Int)) := by
  rw [abin_rem _ _ _ (by decide)]
  have : (a : Int).tmod 2 = ((a % 2 : Nat) : Int) := by
    rw [Int.tmod_eq_emod_of_nonneg (by omega)]
    simp
  rw [this]
theorem and_bit (m s : Nat) : m &&& 2 ^ s = if m.testBit s = true then 2 ^ s else 0 := by
  apply Nat.eq_of_testBit_eq
  intro i
  rw [Nat.testBit_and, Nat.testBit_two_pow]
  by_cases h : s = i
  · subst h
    cases hm : m.testBit s <;> simp [Nat.testBit_two_pow]
  · cases hm : m.testBit s <;> simp [Nat.testBit_two_pow, h]
theorem div_bit (m s : Nat) : m / 2 ^ s % 2 = if m.testBit s = true then 1 else 0 := by
  rw [Nat.testBit_eq_decide_div_mod_eq]
  generalize m / 2 ^ s = x
  rcases Nat.mod_two_eq_zero_or_one x with h | h <;> simp [h]
structure BitF (m s : Nat) (β : Bool) : Prop where
  a32 : m < 4294967296 → s < 32 → abin .and (.int .u32 (m : Int)) (.int .u32 ((2 ^ s : Nat) : Int)) = some (.int .u32 (if β then ((2 ^ s : Nat) : Int) else 0))
  a64 : m < 18446744073709551616 → s < 64 → abin .and (.int .u64 (m : Int)) (.int .u64 ((2 ^ s : Nat) : Int)) = some (.int .u64 (if β then ((2 ^ s : Nat) : Int) else 0))
  r32 : abin .rem (.int .u32 ((m / 2 ^ s : Nat) : Int)) (.int .u32 2) = some (.int .u32 (if β then 1 else 0))
  r64 : abin .rem (.int .u64 ((m / 2 ^ s : Nat) : Int)) (.int .u64 2) = some (.int .u64 (if β then 1 else 0))
theorem bitF {m s : Nat} {β : Bool} (h : m.testBit s = β) : BitF m s β :=
  ⟨fun h1 h2 => by rw [band32 h1 (pow32 h2), and_bit, h]; cases β <;> rfl, fun h1 h2 => by rw [band64 h1 (pow64 h2), and_bit, h]; cases β <;> rfl, by rw [rem2, div_bit, h]; cases β <;> rfl, by rw [rem2, div_bit, h]; cases β <;> rfl⟩
def toF (k i : Nat) (a : Nat) (t : TransT) : Nat := if t.from_ = (i : Int) ∧ k.testBit t.symbol.toNat = true then a ||| 2 ^ t.to_.toNat else a
def toN (q : QeaT) (k i : Nat) : Nat := q.trans.foldl (toF k i) 0
def stayN (q : QeaT) (k i : Nat) (x : StateT) : Nat := if toN q k i = 0 ∧ x.next = false then 2 ^ i else toN q k i
def nextGo (q : QeaT) (m k : Nat) : List StateT → Nat → Nat → Nat
  | [], _, a => a
  | x :: l, i, a => nextGo q m k l (i + 1) (if m.testBit i = true then a ||| stayN q k i x else a)
def nextN (q : QeaT) (m k : Nat) : Nat := nextGo q m k q.states 0 0
structure MaskQ (q : QeaT) : Prop where
  states : q.states.length ≤ 12
  symbols : q.symbols.length ≤ 12
  trans : q.trans.length ≤ 12
  sym : ∀ t ∈ q.trans, 0 ≤ t.symbol ∧ t.symbol < q.symbols.length
  to_ : ∀ t ∈ q.trans, 0 ≤ t.to_ ∧ t.to_ < q.states.length
  start : 0 ≤ q.start ∧ q.start < q.states.length
theorem toF_lt {k i a : Nat} {t : TransT} (ha : a < 4294967296) (ht : t.to_.toNat < 32) : toF k i a t < 4294967296 := by
  unfold toF
  split
  · exact Nat.or_lt_two_pow (n := 32) ha (pow32 ht)
  · exact ha
theorem toN_lt {q : QeaT} (hq : MaskQ q) (k i : Nat) : toN q k i < 4294967296 := by
  unfold toN
  have : ∀ (l : List TransT) (a : Nat), (∀ t ∈ l, t.to_.toNat < 32) → a < 4294967296 → l.foldl (toF k i) a < 4294967296 := by
    intro l
    induction l with
    | nil => intro a _ h; exact h
    | cons t l ih => intro a ht h; exact ih _ (fun x hx => ht x (by simp [hx])) (toF_lt h (ht t (by simp)))
  refine this _ _ (fun t ht => ?_) (by decide)
  have := hq.to_ t ht
  have := hq.states
  omega
theorem stayN_lt {q : QeaT} (hq : MaskQ q) (k : Nat) {i : Nat} (hi : i < 32) (x : StateT) : stayN q k i x < 4294967296 := by
  unfold stayN
  split
  · exact pow32 hi
  · exact toN_lt hq k i
theorem joint_Next_pc (q : QeaT) (hq : MaskQ q) (m k : Nat) (hm : m < 4294967296) (hk : k < 18446744073709551616) : PureC Tryz.prog G n_joint_Next [qeaV q, .int .u32 (m : Int), .int .u64 (k : Int)] (.int .u32 (nextN q m k : Int)) := by
  have hsl := hq.states
  have htl := hq.trans
  refine pc_joint_Next (Runs.of fun Φ h => ?_)
  unfold c_joint_Next
  generalize hr : nextN q m k = r at *
  unfold nextN at hr
  simp -implicitDefEqProofs only [go_sem, qeaV, declsV, quantsV, freesV, statesV, symsV, nodesV, transsV, List.length_map]
  refine at_loop (fun n st => ∃ i a : Nat, i + n = q.states.length ∧ a < 4294967296 ∧ nextGo q m k (q.states.drop i) i a = r ∧ st = ⟨69, [(1, .int .u32 (m : Int)), (2, .int .u64 (k : Int)), (3, .ref 3 0 0), (7, .int .u32 (a : Int)), (14, .seq 3 (q.states.map stateV)), (15, iv q.states.length), (16, iv i)], [(3, ⟨false, t_api_Qea, 9, [qeaV q]⟩)]⟩) q.states.length ⟨0, 0, by simp, by decide, hr, by simp [qeaV, declsV, quantsV, freesV, statesV, symsV, nodesV, transsV]; rfl⟩ ?_
  rintro I hI n st ⟨i, a, hi, ha, hgo, rfl⟩
  simp -implicitDefEqProofs only [go_sem, qeaV, declsV, quantsV, freesV, statesV, symsV, nodesV, transsV, List.length_map]
  refine ⟨fun hlt => ?_, fun hge => ?_⟩
  · have hlt' : i < q.states.length := by omega
    obtain ⟨x, hx, _⟩ := at_some hlt'
    have hw := wrap_succ hlt' (by omega)
    rw [dropC_at hx, nextGo] at hgo
    have hs1 := shl32 (s := i) (by omega)
    have hs3 := u64_nat (m := i) (by omega)
    have hp := pow32 (s := i) (by omega)
    cases hβ : m.testBit i with
    | false =>
      have hb := (bitF hβ).a32 hm (by omega)
      simp only [hβ, Bool.false_eq_true, if_false] at hgo hb
      generalize 2 ^ i = p at *
      obtain ⟨xn, x1, x2⟩ := x
      repeat' (first | (simp -implicitDefEqProofs only [go_sem, qeaV, declsV, quantsV, freesV, statesV, symsV, nodesV, transsV, aiaddr_map hx, stateV, hw, hs1, hs3, hb]) | refine at_guard (fun hb => ?_) (fun hb => ?_) | refine ⟨fun hb => ?_, fun hb => ?_⟩ | fail)
      exact at_again (n - 1) (by omega) (hI _ _ ⟨i + 1, a, by omega, ha, hgo, by simp [qeaV, declsV, quantsV, freesV, statesV, symsV, nodesV, transsV]⟩)
    | true =>
      have hb := (bitF hβ).a32 hm (by omega)
      simp only [hβ, if_true] at hgo hb
      have hlt2 := stayN_lt hq k (i := i) (by omega) x
      have hor := Nat.or_lt_two_pow (n := 32) ha hlt2
      have hor2 := bor32 ha hlt2
      have hpp : 0 < 2 ^ i := Nat.two_pow_pos i
      have hstay : stayN q k i x = if toN q k i = 0 ∧ x.next = false then 2 ^ i else toN q k i := rfl
      have htn : q.trans.foldl (toF k i) 0 = toN q k i := rfl
      generalize 2 ^ i = p at *
      generalize stayN q k i x = sy at *
      generalize toN q k i = tn at *
      have hne : ((p : Int) == 0) = false := by simp; omega
      obtain ⟨xn, x1, x2⟩ := x
      repeat' (first | (simp -implicitDefEqProofs only [go_sem, qeaV, declsV, quantsV, freesV, statesV, symsV, nodesV, transsV, aiaddr_map hx, stateV, hw, hs1, hs3, hb, hne]) | refine at_guard (fun hb => ?_) (fun hb => ?_) | refine ⟨fun hb => ?_, fun hb => ?_⟩ | fail)
      refine at_loop (fun n' st => ∃ j b : Nat, j + n' = q.trans.length ∧ b < 4294967296 ∧ (q.trans.drop j).foldl (toF k i) b = tn ∧ st = ⟨69, [(1, .int .u32 (m : Int)), (2, .int .u64 (k : Int)), (3, .ref 3 0 0), (7, .int .u32 (a : Int)), (8, iv i), (9, .ref 9 0 0), (10, .int .u32 (b : Int)), (14, .seq 3 (q.states.map stateV)), (15, iv q.states.length), (16, iv i), (28, .seq 5 (q.trans.map transV)), (29, iv q.trans.length), (30, iv j)], [(3, ⟨false, t_api_Qea, 9, [qeaV q]⟩), (9, ⟨false, t_api_State, 3, [stateV ⟨xn, x1, x2⟩]⟩)]⟩) q.trans.length ⟨0, 0, by simp, by decide, htn, by simp [qeaV, declsV, quantsV, freesV, statesV, symsV, nodesV, transsV, stateV]; rfl⟩ ?_
      rintro I' hI' n' st ⟨j, b, hj, hbl, hgo2, rfl⟩
      simp -implicitDefEqProofs only [go_sem, qeaV, declsV, quantsV, freesV, statesV, symsV, nodesV, transsV, List.length_map]
      refine ⟨fun hlt => ?_, fun hge => ?_⟩
      · have hlt2' : j < q.trans.length := by omega
        obtain ⟨t, ht, htm⟩ := at_some hlt2'
        have hw2 := wrap_succ hlt2' (by omega)
        rw [dropC_at ht, List.foldl_cons] at hgo2
        obtain ⟨t0, t1⟩ := hq.to_ t htm
        obtain ⟨y0, y1⟩ := hq.sym t htm
        have hyl := hq.symbols
        have hbn := toF_lt (k := k) (i := i) (a := b) (t := t) hbl (by omega)
        unfold toF at hgo2 hbn
        obtain ⟨tf, ts, tt, tg, tsets⟩ := t
        simp only at t0 t1 y0 y1 hgo2 hbn
        obtain ⟨u, rfl⟩ := Int.eq_ofNat_of_zero_le t0
        obtain ⟨v, rfl⟩ := Int.eq_ofNat_of_zero_le y0
        simp only [Int.toNat_natCast] at hgo2 hbn
        by_cases hf : tf = (i : Int)
        · have hfe : (tf == (i : Int)) = true := by simp [hf]
          have g1 := shl64 (s := v) (by omega)
          have g2 := u64_nat (m := v) (by omega)
          cases hγ : k.testBit v with
          | false =>
            have g3 := (bitF hγ).a64 hk (by omega)
            simp only [Bool.false_eq_true, if_false] at g3
            rw [if_neg (by rw [hγ]; simp)] at hgo2
            generalize 2 ^ v = pv at *
            repeat' (first | (simp -implicitDefEqProofs only [go_sem, qeaV, declsV, quantsV, freesV, statesV, symsV, nodesV, transsV, aiaddr_map ht, transV, setsV, hw2, hfe, g1, g2, g3]) | refine at_guard (fun hb => ?_) (fun hb => ?_) | refine ⟨fun hb => ?_, fun hb => ?_⟩ | fail)
            exact at_again (n' - 1) (by omega) (hI' _ _ ⟨j + 1, b, by omega, hbl, hgo2, by simp [qeaV, declsV, quantsV, freesV, statesV, symsV, nodesV, transsV, stateV]; rfl⟩)
          | true =>
            have g3 := (bitF hγ).a64 hk (by omega)
            simp only [if_true] at g3
            rw [if_pos ⟨hf, hγ⟩] at hgo2 hbn
            have hvp : 0 < 2 ^ v := Nat.two_pow_pos v
            have g4 := shl32 (s := u) (by omega)
            have g5 := u64_nat (m := u) (by omega)
            have g6 := bor32 hbl (pow32 (s := u) (by omega))
            generalize 2 ^ v = pv at *
            generalize 2 ^ u = pu at *
            generalize b ||| pu = bu at *
            have hvn : ((pv : Int) != 0) = true := by simp; omega
            repeat' (first | (simp -implicitDefEqProofs only [go_sem, qeaV, declsV, quantsV, freesV, statesV, symsV, nodesV, transsV, aiaddr_map ht, transV, setsV, hw2, hfe, g1, g2, g3, hvn, g4, g5, g6]) | refine at_guard (fun hb => ?_) (fun hb => ?_) | refine ⟨fun hb => ?_, fun hb => ?_⟩ | fail)
            exact at_again (n' - 1) (by omega) (hI' _ _ ⟨j + 1, bu, by omega, hbn, hgo2, by simp [qeaV, declsV, quantsV, freesV, statesV, symsV, nodesV, transsV, stateV]; rfl⟩)
        · have hfe : (tf == (i : Int)) = false := by simp [hf]
          rw [if_neg (fun e => hf e.1)] at hgo2
          repeat' (first | (simp -implicitDefEqProofs only [go_sem, qeaV, declsV, quantsV, freesV, statesV, symsV, nodesV, transsV, aiaddr_map ht, transV, setsV, hw2, hfe]) | refine at_guard (fun hb => ?_) (fun hb => ?_) | refine ⟨fun hb => ?_, fun hb => ?_⟩ | fail)
          exact at_again (n' - 1) (by omega) (hI' _ _ ⟨j + 1, b, by omega, hbl, hgo2, by simp [qeaV, declsV, quantsV, freesV, statesV, symsV, nodesV, transsV, stateV]; rfl⟩)
      · rw [List.drop_eq_nil_of_le (by omega)] at hgo2
        simp only [List.foldl_nil] at hgo2
        subst hgo2
        by_cases h0 : b = 0
        · have h0e : ((b : Int) == 0) = true := by simp [h0]
          cases x1
          · rw [if_pos ⟨h0, rfl⟩] at hstay
            rw [hstay] at hgo hor hor2
            generalize a ||| p = ap at *
            repeat' (first | (simp -implicitDefEqProofs only [go_sem, qeaV, declsV, quantsV, freesV, statesV, symsV, nodesV, transsV, stateV, hw, h0e, hs1, hs3, hor2]) | refine at_guard (fun hb => ?_) (fun hb => ?_) | refine ⟨fun hb => ?_, fun hb => ?_⟩ | fail)
            exact at_again (n - 1) (by omega) (hI _ _ ⟨i + 1, ap, by omega, hor, hgo, by simp [qeaV, declsV, quantsV, freesV, statesV, symsV, nodesV, transsV]⟩)
          · rw [if_neg (by simp)] at hstay
            rw [hstay] at hgo hor hor2
            generalize a ||| b = ap at *
            repeat' (first | (simp -implicitDefEqProofs only [go_sem, qeaV, declsV, quantsV, freesV, statesV, symsV, nodesV, transsV, stateV, hw, h0e, hor2]) | refine at_guard (fun hb => ?_) (fun hb => ?_) | refine ⟨fun hb => ?_, fun hb => ?_⟩ | fail)
            exact at_again (n - 1) (by omega) (hI _ _ ⟨i + 1, ap, by omega, hor, hgo, by simp [qeaV, declsV, quantsV, freesV, statesV, symsV, nodesV, transsV]⟩)
        · have h0e : ((b : Int) == 0) = false := by simp; omega
          rw [if_neg (fun e => h0 e.1)] at hstay
          rw [hstay] at hgo hor hor2
          generalize a ||| b = ap at *
          repeat' (first | (simp -implicitDefEqProofs only [go_sem, qeaV, declsV, quantsV, freesV, statesV, symsV, nodesV, transsV, stateV, hw, h0e, hor2]) | refine at_guard (fun hb => ?_) (fun hb => ?_) | refine ⟨fun hb => ?_, fun hb => ?_⟩ | fail)
          exact at_again (n - 1) (by omega) (hI _ _ ⟨i + 1, ap, by omega, hor, hgo, by simp [qeaV, declsV, quantsV, freesV, statesV, symsV, nodesV, transsV]⟩)
  · rw [List.drop_eq_nil_of_le (by omega), nextGo] at hgo
    subst hgo
    repeat' (first | (simp -implicitDefEqProofs only [go_sem]) | refine at_guard (fun hb => ?_) (fun hb => ?_) | refine ⟨fun hb => ?_, fun hb => ?_⟩ | fail)
    exact h _ ⟨_, _, rfl, rfl, .refl _⟩
end Go.Proofs.YtjbcfpkibnhodaaGreatDoor.Ab
