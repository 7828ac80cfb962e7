/-
  proctorref22.Next, proctorref23.Accepts, proctorref28: sets of states, the reference's. No claim is proved here.
-/
import Derived.Test.YtjbcfpkibnhodaaGreatDoorUSb1
namespace Go.Proofs.YtjbcfpkibnhodaaGreatDoor.Ab
open Go Go.RowKit
set_option linter.unusedSimpArgs false
set_option maxHeartbeats 4000000
set_option maxRecDepth 100000
variable {G : Nat → Option AV}
theorem ref22_Next_pc (q : QeaT) (hq : MaskQ q) (m k : Nat) : PureC Tryz.prog G n_proctorref22_Next [qeaV q, .int .u32 (m : Int), .int .u64 (k : Int)] (.int .u32 (nextN q m k : Int)) := by
  have hsl := hq.states
  have htl := hq.trans
  refine pc_proctorref22_Next (Runs.of fun Φ h => ?_)
  unfold c_proctorref22_Next
  generalize hr : nextN q m k = r at *
  unfold nextN at hr
  simp -implicitDefEqProofs only [go_sem, qeaV, declsV, quantsV, freesV, statesV, symsV, nodesV, transsV, List.length_map]
  refine at_loop (fun n st => ∃ i a : Nat, i + n = q.states.length ∧ a < 4294967296 ∧ nextGo q m k (q.states.drop i) i a = r ∧ st = ⟨74, [(1, .int .u32 (m : Int)), (2, .int .u64 (k : Int)), (3, .ref 3 0 0), (7, .int .u32 (a : Int)), (8, iv i)], [(3, ⟨false, t_api_Qea, 9, [qeaV q]⟩)]⟩) q.states.length ⟨0, 0, by simp, by decide, hr, by simp [qeaV, declsV, quantsV, freesV, statesV, symsV, nodesV, transsV]; rfl⟩ ?_
  rintro I hI n st ⟨i, a, hi, ha, hgo, rfl⟩
  simp -implicitDefEqProofs only [go_sem, qeaV, declsV, quantsV, freesV, statesV, symsV, nodesV, transsV, List.length_map]
  refine ⟨fun hlt => ?_, fun hge => ?_⟩
  · have hlt' : i < q.states.length := by omega
    obtain ⟨x, hx, _⟩ := at_some hlt'
    have hw := wrap_succ hlt' (by omega)
    rw [dropC_at hx, nextGo] at hgo
    have hs1 := shl32 (s := i) (by omega)
    have hs2 := shr32 (a := m) (s := i) (by omega)
    have hs3 := u64_nat (m := i) (by omega)
    cases hβ : m.testBit i with
    | false =>
      have hb := (bitF hβ).r32
      simp only [hβ, Bool.false_eq_true, if_false] at hgo hb
      generalize m / 2 ^ i = mp at *
      repeat' (first | (simp -implicitDefEqProofs only [go_sem, qeaV, declsV, quantsV, freesV, statesV, symsV, nodesV, transsV, hw, hs2, hs3, hb]) | refine at_guard (fun hb => ?_) (fun hb => ?_) | refine ⟨fun hb => ?_, fun hb => ?_⟩ | fail)
      exact at_again (n - 1) (by omega) (hI _ _ ⟨i + 1, a, by omega, ha, hgo, by simp [qeaV, declsV, quantsV, freesV, statesV, symsV, nodesV, transsV]⟩)
    | true =>
      have hb := (bitF hβ).r32
      simp only [hβ, if_true] at hgo hb
      have hlt2 := stayN_lt hq k (i := i) (by omega) x
      have hor := Nat.or_lt_two_pow (n := 32) ha hlt2
      have hor2 := bor32 ha hlt2
      have hstay : stayN q k i x = if toN q k i = 0 ∧ x.next = false then 2 ^ i else toN q k i := rfl
      have htn : q.trans.foldl (toF k i) 0 = toN q k i := rfl
      generalize m / 2 ^ i = mp at *
      generalize 2 ^ i = p at *
      generalize stayN q k i x = sy at *
      generalize toN q k i = tn at *
      obtain ⟨xn, x1, x2⟩ := x
      repeat' (first | (simp -implicitDefEqProofs only [go_sem, qeaV, declsV, quantsV, freesV, statesV, symsV, nodesV, transsV, hw, hs2, hs3, hb]) | refine at_guard (fun hb => ?_) (fun hb => ?_) | refine ⟨fun hb => ?_, fun hb => ?_⟩ | fail)
      refine at_loop (fun n' st => ∃ j b : Nat, j + n' = q.trans.length ∧ b < 4294967296 ∧ (q.trans.drop j).foldl (toF k i) b = tn ∧ st = ⟨74, [(1, .int .u32 (m : Int)), (2, .int .u64 (k : Int)), (3, .ref 3 0 0), (7, .int .u32 (a : Int)), (8, iv i), (9, .int .u32 (b : Int)), (10, iv j)], [(3, ⟨false, t_api_Qea, 9, [qeaV q]⟩)]⟩) q.trans.length ⟨0, 0, by simp, by decide, htn, by simp [qeaV, declsV, quantsV, freesV, statesV, symsV, nodesV, transsV]; rfl⟩ ?_
      rintro I' hI' n' st ⟨j, b, hj, hbl, hgo2, rfl⟩
      simp -implicitDefEqProofs only [go_sem, qeaV, declsV, quantsV, freesV, statesV, symsV, nodesV, transsV, List.length_map]
      refine ⟨fun hlt => ?_, fun hge => ?_⟩
      · have hlt2' : j < q.trans.length := by omega
        obtain ⟨t, ht, htm⟩ := at_some hlt2'
        have hw2 := wrap_succ hlt2' (by omega)
        rw [dropC_at ht, List.foldl_cons] at hgo2
        obtain ⟨t0, t1⟩ := hq.to_ t htm
        obtain ⟨y0, y1⟩ := hq.sym t htm
        have hyl := hq.symbols
        have hbn := toF_lt (k := k) (i := i) (a := b) (t := t) hbl (by omega)
        unfold toF at hgo2 hbn
        obtain ⟨tf, ts, tt, tg, tsets⟩ := t
        simp only at t0 t1 y0 y1 hgo2 hbn
        obtain ⟨u, rfl⟩ := Int.eq_ofNat_of_zero_le t0
        obtain ⟨v, rfl⟩ := Int.eq_ofNat_of_zero_le y0
        simp only [Int.toNat_natCast] at hgo2 hbn
        by_cases hf : tf = (i : Int)
        · have hfe : (tf == (i : Int)) = true := by simp [hf]
          have g1 := shr64 (a := k) (s := v) (by omega)
          have g2 := u64_nat (m := v) (by omega)
          cases hγ : k.testBit v with
          | false =>
            have g3 := (bitF hγ).r64
            simp only [Bool.false_eq_true, if_false] at g3
            rw [if_neg (by rw [hγ]; simp)] at hgo2
            generalize k / 2 ^ v = kv at *
            repeat' (first | (simp -implicitDefEqProofs only [go_sem, qeaV, declsV, quantsV, freesV, statesV, symsV, nodesV, transsV, aiaddr_map ht, transV, setsV, hw2, hfe, g1, g2, g3]) | refine at_guard (fun hb => ?_) (fun hb => ?_) | refine ⟨fun hb => ?_, fun hb => ?_⟩ | fail)
            exact at_again (n' - 1) (by omega) (hI' _ _ ⟨j + 1, b, by omega, hbl, hgo2, by simp [qeaV, declsV, quantsV, freesV, statesV, symsV, nodesV, transsV]⟩)
          | true =>
            have g3 := (bitF hγ).r64
            simp only [if_true] at g3
            rw [if_pos ⟨hf, hγ⟩] at hgo2 hbn
            have g4 := shl32 (s := u) (by omega)
            have g5 := u64_nat (m := u) (by omega)
            have g6 := bor32 hbl (pow32 (s := u) (by omega))
            generalize k / 2 ^ v = kv at *
            generalize 2 ^ u = pu at *
            generalize b ||| pu = bu at *
            repeat' (first | (simp -implicitDefEqProofs only [go_sem, qeaV, declsV, quantsV, freesV, statesV, symsV, nodesV, transsV, aiaddr_map ht, transV, setsV, hw2, hfe, g1, g2, g3, g4, g5, g6]) | refine at_guard (fun hb => ?_) (fun hb => ?_) | refine ⟨fun hb => ?_, fun hb => ?_⟩ | fail)
            exact at_again (n' - 1) (by omega) (hI' _ _ ⟨j + 1, bu, by omega, hbn, hgo2, by simp [qeaV, declsV, quantsV, freesV, statesV, symsV, nodesV, transsV]⟩)
        · have hfe : (tf == (i : Int)) = false := by simp [hf]
          rw [if_neg (fun e => hf e.1)] at hgo2
          repeat' (first | (simp -implicitDefEqProofs only [go_sem, qeaV, declsV, quantsV, freesV, statesV, symsV, nodesV, transsV, aiaddr_map ht, transV, setsV, hw2, hfe]) | refine at_guard (fun hb => ?_) (fun hb => ?_) | refine ⟨fun hb => ?_, fun hb => ?_⟩ | fail)
          exact at_again (n' - 1) (by omega) (hI' _ _ ⟨j + 1, b, by omega, hbl, hgo2, by simp [qeaV, declsV, quantsV, freesV, statesV, symsV, nodesV, transsV]⟩)
      · rw [List.drop_eq_nil_of_le (by omega)] at hgo2
        simp only [List.foldl_nil] at hgo2
        subst hgo2
        by_cases h0 : b = 0
        · have h0e : ((b : Int) == 0) = true := by simp [h0]
          cases x1
          · rw [if_pos ⟨h0, rfl⟩] at hstay
            rw [hstay] at hgo hor hor2
            generalize a ||| p = ap at *
            repeat' (first | (simp -implicitDefEqProofs only [go_sem, qeaV, declsV, quantsV, freesV, statesV, symsV, nodesV, transsV, aiaddr_map hx, stateV, hw, h0e, hs1, hs3, hor2]) | refine at_guard (fun hb => ?_) (fun hb => ?_) | refine ⟨fun hb => ?_, fun hb => ?_⟩ | fail)
            exact at_again (n - 1) (by omega) (hI _ _ ⟨i + 1, ap, by omega, hor, hgo, by simp [qeaV, declsV, quantsV, freesV, statesV, symsV, nodesV, transsV]⟩)
          · rw [if_neg (by simp)] at hstay
            rw [hstay] at hgo hor hor2
            generalize a ||| b = ap at *
            repeat' (first | (simp -implicitDefEqProofs only [go_sem, qeaV, declsV, quantsV, freesV, statesV, symsV, nodesV, transsV, aiaddr_map hx, stateV, hw, h0e, hor2]) | refine at_guard (fun hb => ?_) (fun hb => ?_) | refine ⟨fun hb => ?_, fun hb => ?_⟩ | fail)
            exact at_again (n - 1) (by omega) (hI _ _ ⟨i + 1, ap, by omega, hor, hgo, by simp [qeaV, declsV, quantsV, freesV, statesV, symsV, nodesV, transsV]⟩)
        · have h0e : ((b : Int) == 0) = false := by simp; omega
          rw [if_neg (fun e => h0 e.1)] at hstay
          rw [hstay] at hgo hor hor2
          generalize a ||| b = ap at *
          repeat' (first | (simp -implicitDefEqProofs only [go_sem, qeaV, declsV, quantsV, freesV, statesV, symsV, nodesV, transsV, aiaddr_map hx, stateV, hw, h0e, hor2]) | refine at_guard (fun hb => ?_) (fun hb => ?_) | refine ⟨fun hb => ?_, fun hb => ?_⟩ | fail)
          exact at_again (n - 1) (by omega) (hI _ _ ⟨i + 1, ap, by omega, hor, hgo, by simp [qeaV, declsV, quantsV, freesV, statesV, symsV, nodesV, transsV]⟩)
  · rw [List.drop_eq_nil_of_le (by omega), nextGo] at hgo
    subst hgo
    repeat' (first | (simp -implicitDefEqProofs only [go_sem]) | refine at_guard (fun hb => ?_) (fun hb => ?_) | refine ⟨fun hb => ?_, fun hb => ?_⟩ | fail)
    exact h _ ⟨_, _, rfl, rfl, .refl _⟩
def accGo (m : Nat) : List StateT → Nat → Bool
  | [], _ => false
  | x :: l, i => (m.testBit i && x.accept) || accGo m l (i + 1)
def accN (q : QeaT) (m : Nat) : Bool := accGo m q.states 0
theorem ref23_Accepts_pc (q : QeaT) (hsl : q.states.length ≤ 12) (m : Nat) : PureC Tryz.prog G n_proctorref23_Accepts [qeaV q, .int .u32 (m : Int)] (.bool (accN q m)) := by
  refine pc_proctorref23_Accepts (Runs.of fun Φ h => ?_)
  unfold c_proctorref23_Accepts
  generalize hv : accN q m = v at *
  unfold accN at hv
  simp -implicitDefEqProofs only [go_sem, qeaV, declsV, quantsV, freesV, statesV, symsV, nodesV, transsV]
  refine at_loop (fun n st => ∃ i : Nat, i + n = q.states.length ∧ st = ⟨27, [(1, .int .u32 (m : Int)), (2, .ref 2 0 0), (5, iv i)], [(2, ⟨false, t_api_Qea, 9, [qeaV q]⟩)]⟩ ∧ accGo m (q.states.drop i) i = v) q.states.length ⟨0, by simp, by simp [qeaV, declsV, quantsV, freesV, statesV, symsV, nodesV, transsV]; rfl, hv⟩ ?_
  rintro I hI n st ⟨i, hi, rfl, hva⟩
  simp -implicitDefEqProofs only [go_sem, qeaV, declsV, quantsV, freesV, statesV, symsV, nodesV, transsV, List.length_map]
  refine ⟨fun hlt => ?_, fun hge => ?_⟩
  · have hlt' : i < q.states.length := by omega
    obtain ⟨x, hx, _⟩ := at_some hlt'
    have hw := wrap_succ hlt' (by omega)
    rw [dropC_at hx, accGo] at hva
    have hs2 := shr32 (a := m) (s := i) (by omega)
    have hs3 := u64_nat (m := i) (by omega)
    obtain ⟨xn, x1, x2⟩ := x
    cases hβ : m.testBit i with
    | false =>
      have hb := (bitF hβ).r32
      simp only [hβ, Bool.false_eq_true, if_false, Bool.false_and, Bool.false_or] at hva hb
      generalize m / 2 ^ i = mp at *
      repeat' (first | (simp -implicitDefEqProofs only [go_sem, qeaV, declsV, quantsV, freesV, statesV, symsV, nodesV, transsV, hw, hs2, hs3, hb]) | refine at_guard (fun hb => ?_) (fun hb => ?_) | refine ⟨fun hb => ?_, fun hb => ?_⟩ | fail)
      exact at_again (n - 1) (by omega) (hI _ _ ⟨i + 1, by omega, by simp [qeaV, declsV, quantsV, freesV, statesV, symsV, nodesV, transsV], hva⟩)
    | true =>
      have hb := (bitF hβ).r32
      simp only [hβ, if_true, Bool.true_and] at hva hb
      generalize m / 2 ^ i = mp at *
      cases x2
      · rw [Bool.false_or] at hva
        repeat' (first | (simp -implicitDefEqProofs only [go_sem, qeaV, declsV, quantsV, freesV, statesV, symsV, nodesV, transsV, aiaddr_map hx, stateV, hw, hs2, hs3, hb]) | refine at_guard (fun hb => ?_) (fun hb => ?_) | refine ⟨fun hb => ?_, fun hb => ?_⟩ | fail)
        exact at_again (n - 1) (by omega) (hI _ _ ⟨i + 1, by omega, by simp [qeaV, declsV, quantsV, freesV, statesV, symsV, nodesV, transsV], hva⟩)
      · rw [Bool.true_or] at hva
        subst hva
        repeat' (first | (simp -implicitDefEqProofs only [go_sem, qeaV, declsV, quantsV, freesV, statesV, symsV, nodesV, transsV, aiaddr_map hx, stateV, hw, hs2, hs3, hb]) | refine at_guard (fun hb => ?_) (fun hb => ?_) | refine ⟨fun hb => ?_, fun hb => ?_⟩ | fail)
        exact h _ ⟨_, _, rfl, rfl, .refl _⟩
  · rw [List.drop_eq_nil_of_le (by omega), accGo] at hva
    subst hva
    repeat' (first | (simp -implicitDefEqProofs only [go_sem]) | refine at_guard (fun hb => ?_) (fun hb => ?_) | refine ⟨fun hb => ?_, fun hb => ?_⟩ | fail)
    exact h _ ⟨_, _, rfl, rfl, .refl _⟩
end Go.Proofs.YtjbcfpkibnhodaaGreatDoor.Ab
