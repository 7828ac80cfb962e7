/-
  config, proctorref18: the order of configurations, and whether they are the same. No claim is proved here.
-/
import Derived.Test.YtjbcfpkibnhodaaGreatDoorYAbPan
import Derived.Test.YtjbcfpkibnhodaaGreatDoorYD17
namespace Go.Proofs.YtjbcfpkibnhodaaGreatDoor.Ab
open Go Go.RowKit
set_option linter.unusedSimpArgs false
set_option maxHeartbeats 4000000
set_option maxRecDepth 100000
variable {G : Nat → Option AV}
structure CfgT where
  state : Int
  vals : List Val
deriving DecidableEq
def cfgV (c : CfgT) : AV := .agg [iv c.state, .seq 4 (c.vals.map valV)]
def cfgsV (l : List CfgT) : AV := .seq 2 (l.map cfgV)
theorem valEq (a b : Val) : (a == b) = (a.kind == b.kind && (a.int == b.int && (a.str == b.str && (a.bool == b.bool && true)))) := by
  obtain ⟨a1, a2, a3, a4⟩ := a
  obtain ⟨b1, b2, b3, b4⟩ := b
  rw [Bool.eq_iff_iff]
  simp
theorem val4 {k n : Int} {s : Str} {t : Bool} {k' n' : Int} {s' : Str} {t' : Bool} {β : Bool} (h : decide ((⟨k, n, s, t⟩ : Val) = ⟨k', n', s', t'⟩) = β) : (k == k' && (n == n' && (s == s' && t == t'))) = β := by
  rw [← h, Bool.eq_iff_iff]
  simp
theorem slices_Equal_api_Value_api_Value_pc (k l : List Val) (hk : k.length < 9223372036854775807) (hl : l.length < 9223372036854775807) : PureC Tryz.prog G n_slices_Equal_api_Value_api_Value [.seq 4 (k.map valV), .seq 4 (l.map valV)] (.bool (decide (k = l))) := by
  refine pc_slices_Equal_api_Value_api_Value (Runs.of fun Φ h => ?_)
  unfold c_slices_Equal_api_Value_api_Value
  simp -implicitDefEqProofs only [go_sem, List.length_map]
  refine ⟨fun hb => ?_, fun hb => ?_⟩
  · refine h _ ⟨_, _, rfl, rfl, fitB ?_⟩
    symm
    rw [decide_eq_false_iff_not]
    rintro rfl
    simp at hb
  · have hkl : k.length = l.length := by
      have : (k.length : Int) = l.length := by simpa using hb
      omega
    refine at_loop (fun n st => ∃ i : Nat, i + n = k.length ∧ st = ⟨26, [(0, .seq 4 (k.map valV)), (1, .seq 4 (l.map valV)), (12, iv k.length), (13, iv i)], []⟩ ∧ ∀ j x y, j < i → k[j]? = some x → l[j]? = some y → (x == y) = true) k.length ⟨0, by simp, rfl, fun j x y hj => by omega⟩ ?_
    rintro I hI n st ⟨i, hi, rfl, hall⟩
    simp -implicitDefEqProofs only [go_sem]
    refine ⟨fun hlt => ?_, fun hge => ?_⟩
    · have hlt' : i < k.length := by omega
      obtain ⟨x, hx, hm⟩ := at_some hlt'
      obtain ⟨y, hy, hm'⟩ := at_some (l := l) (i := i) (by omega)
      have hw := wrap_succ hlt' (by omega)
      have fin : (x == y) = true → again I n ⟨26, [(0, .seq 4 (k.map valV)), (1, .seq 4 (l.map valV)), (12, iv k.length), (13, iv (i + 1 : Nat))], []⟩ := fun hv => at_again (n - 1) (by omega) (hI _ _ ⟨i + 1, by omega, rfl, fun j a b hj ha hb => by
        by_cases e : j = i
        · subst e; rw [hx] at ha; cases ha; rw [hy] at hb; cases hb; exact hv
        · exact hall j a b (by omega) ha hb⟩)
      simp -implicitDefEqProofs only [go_sem, aiaddr_map hx, aiaddr_map hy, valV]
      refine ⟨fun hb => ?_, fun hb => ?_⟩
      · have hv : (x == y) = false := by
          cases hxy : (x == y) with
          | false => rfl
          | true => exfalso; have := eq_of_beq hxy; subst this; simp at hb
        refine h _ ⟨_, _, rfl, rfl, fitB ?_⟩
        symm
        rw [decide_eq_false_iff_not]
        rintro rfl
        rw [hx] at hy
        cases hy
        simp at hv
      · have hv : (x == y) = true := by rw [valEq]; simpa using hb
        simp -implicitDefEqProofs only [go_sem, hw]
        exact fin hv
    · refine h _ ⟨_, _, rfl, rfl, fitB ?_⟩
      symm
      rw [decide_eq_true_eq]
      apply List.ext_getElem?
      intro j
      by_cases hj : j < k.length
      · rw [List.getElem?_eq_getElem hj, List.getElem?_eq_getElem (by omega)]
        have := hall j _ _ (by omega) (List.getElem?_eq_getElem hj) (List.getElem?_eq_getElem (by omega))
        rw [eq_of_beq this]
      · rw [List.getElem?_eq_none (by omega), List.getElem?_eq_none (by omega)]
def cmpV (a b : Val) : Int := if a = b then 0 else if lessV a b = true then -1 else 1
theorem config_compare_1_pc (a b : Val) : PureC Tryz.prog G n_config_compare_1 [valV a, valV b] (iv (cmpV a b)) := by
  have hl := value_Less_pc (G := G) a b
  refine pc_config_compare_1 (Runs.of fun Φ h => ?_)
  unfold c_config_compare_1
  unfold cmpV at h
  by_cases hab : a = b
  · rw [if_pos hab] at h
    obtain ⟨k, n, s, t⟩ := a
    obtain ⟨k', n', s', t'⟩ := b
    have he := val4 (decide_eq_true hab)
    repeat' (first | (simp -implicitDefEqProofs only [go_sem, valV, he]) | refine at_guard (fun hb => ?_) (fun hb => ?_) | refine ⟨fun hb => ?_, fun hb => ?_⟩ | fail)
    exact h _ ⟨_, _, rfl, rfl, .refl _⟩
  · rw [if_neg hab] at h
    generalize lessV a b = z at *
    obtain ⟨k, n, s, t⟩ := a
    obtain ⟨k', n', s', t'⟩ := b
    have he := val4 (decide_eq_false hab)
    simp only [valV] at hl
    cases z
    · rw [if_neg (by decide)] at h
      repeat' (first | (simp -implicitDefEqProofs only [go_sem, valV, he]) | refine at_guard (fun hb => ?_) (fun hb => ?_) | refine ⟨fun hb => ?_, fun hb => ?_⟩ | refine at_call (hl) rfl rfl ?_ | fail)
      exact h _ ⟨_, _, rfl, rfl, .refl _⟩
    · rw [if_pos rfl] at h
      repeat' (first | (simp -implicitDefEqProofs only [go_sem, valV, he]) | refine at_guard (fun hb => ?_) (fun hb => ?_) | refine ⟨fun hb => ?_, fun hb => ?_⟩ | refine at_call (hl) rfl rfl ?_ | fail)
      exact h _ ⟨_, _, rfl, rfl, .refl _⟩
def cmpL : List Val → List Val → Int
  | [], [] => 0
  | [], _ :: _ => -1
  | _ :: _, [] => 1
  | x :: l, y :: k => if ¬ cmpV x y = 0 then cmpV x y else cmpL l k
theorem cmpL_step {l k : List Val} {i : Nat} {x y : Val} (hx : l[i]? = some x) (hy : k[i]? = some y) : cmpL (l.drop i) (k.drop i) = if ¬ cmpV x y = 0 then cmpV x y else cmpL (l.drop (i + 1)) (k.drop (i + 1)) := by
  rw [drop_at hx, drop_at hy, cmpL]
theorem cmpL_more {l k : List Val} {i : Nat} {x : Val} (hx : l[i]? = some x) (hk : k.length ≤ i) : cmpL (l.drop i) (k.drop i) = 1 := by
  rw [drop_at hx, List.drop_of_length_le hk, cmpL]
theorem cmpL_less {l k : List Val} {i : Nat} (hl : l.length ≤ i) (hk : i < k.length) : cmpL (l.drop i) (k.drop i) = -1 := by
  obtain ⟨y, hy, _⟩ := at_some hk
  rw [drop_at hy, List.drop_of_length_le hl, cmpL]
theorem cmpL_same {l k : List Val} {i : Nat} (hl : l.length ≤ i) (hk : k.length ≤ i) : cmpL (l.drop i) (k.drop i) = 0 := by
  rw [List.drop_of_length_le hk, List.drop_of_length_le hl, cmpL]
theorem CompareFunc_pc (l k : List Val) (hl : l.length < 9223372036854775807) (hk : k.length < 9223372036854775807) : PureC Tryz.prog G n_slices_CompareFunc_api_Value_api_Value_api_Value_api_Value [.seq 4 (l.map valV), .seq 4 (k.map valV), .fn n_config_compare_1 []] (iv (cmpL l k)) := by
  have hf : bodyB Tryz.prog n_config_compare_1 = true := by kernel_rfl
  refine pc_slices_CompareFunc_api_Value_api_Value_api_Value_api_Value (Runs.of fun Φ h => ?_)
  unfold c_slices_CompareFunc_api_Value_api_Value_api_Value_api_Value
  simp -implicitDefEqProofs only [go_sem, List.length_map]
  refine at_loop (fun n st => ∃ i : Nat, i + n = l.length ∧ st = ⟨39, [(0, .seq 4 (l.map valV)), (1, .seq 4 (k.map valV)), (2, .fn n_config_compare_1 []), (11, .seq 4 (l.map valV)), (12, iv l.length), (13, iv i)], []⟩ ∧ i ≤ k.length ∧ cmpL (l.drop i) (k.drop i) = cmpL l k) l.length ⟨0, by simp, rfl, by omega, rfl⟩ ?_
  rintro I hI n st ⟨i, hi, rfl, hik, hno⟩
  simp -implicitDefEqProofs only [go_sem]
  refine ⟨fun hlt => ?_, fun hge => ?_⟩
  · have hlt' : i < l.length := by omega
    obtain ⟨x, hx, _⟩ := at_some hlt'
    have hw := wrap_succ hlt' (by omega)
    by_cases hik' : i < k.length
    · obtain ⟨y, hy, _⟩ := at_some hik'
      have hc := config_compare_1_pc (G := G) x y
      have e1 : ((k.length : Int) ≤ i) = False := by simp; omega
      rw [cmpL_step hx hy] at hno
      generalize cmpV x y = z at *
      obtain ⟨a, b, c, d⟩ := x
      obtain ⟨a', b', c', d'⟩ := y
      simp only [valV] at hc
      by_cases h0 : z = 0
      · subst h0
        rw [if_neg (by simp)] at hno
        repeat' (first | (simp -implicitDefEqProofs only [go_sem, List.length_map, aiaddr_map hx, aiaddr_map hy, valV, hw, e1, decide_false]) | refine at_guard (fun hb => ?_) (fun hb => ?_) | refine ⟨fun hb => ?_, fun hb => ?_⟩ | (refine ⟨hf, at_call hc rfl rfl ?_⟩) | fail)
        exact at_again (n - 1) (by omega) (hI _ _ ⟨i + 1, by omega, rfl, by omega, hno⟩)
      · rw [if_pos h0] at hno
        rw [← hno] at h
        have h0' : (z != 0) = true := by simpa using h0
        repeat' (first | (simp -implicitDefEqProofs only [go_sem, List.length_map, aiaddr_map hx, aiaddr_map hy, valV, hw, e1, decide_false, h0']) | refine at_guard (fun hb => ?_) (fun hb => ?_) | refine ⟨fun hb => ?_, fun hb => ?_⟩ | (refine ⟨hf, at_call hc rfl rfl ?_⟩) | fail)
        exact h _ ⟨_, _, rfl, rfl, .refl _⟩
    · have e1 : ((k.length : Int) ≤ i) = True := by simp; omega
      rw [cmpL_more hx (by omega)] at hno
      rw [← hno] at h
      obtain ⟨a, b, c, d⟩ := x
      repeat' (first | (simp -implicitDefEqProofs only [go_sem, List.length_map, aiaddr_map hx, valV, e1, decide_true]) | refine at_guard (fun hb => ?_) (fun hb => ?_) | refine ⟨fun hb => ?_, fun hb => ?_⟩ | fail)
      exact h _ ⟨_, _, rfl, rfl, .refl _⟩
  · have hge' : l.length = i := by omega
    by_cases hik' : i < k.length
    · have e1 : ((l.length : Int) < k.length) = True := by simp; omega
      rw [cmpL_less (by omega) hik'] at hno
      rw [← hno] at h
      repeat' (first | (simp -implicitDefEqProofs only [go_sem, List.length_map, e1, decide_true]) | refine at_guard (fun hb => ?_) (fun hb => ?_) | refine ⟨fun hb => ?_, fun hb => ?_⟩ | fail)
      exact h _ ⟨_, _, rfl, rfl, .refl _⟩
    · have e1 : ((l.length : Int) < k.length) = False := by simp; omega
      rw [cmpL_same (by omega) (by omega)] at hno
      rw [← hno] at h
      repeat' (first | (simp -implicitDefEqProofs only [go_sem, List.length_map, e1, decide_false]) | refine at_guard (fun hb => ?_) (fun hb => ?_) | refine ⟨fun hb => ?_, fun hb => ?_⟩ | fail)
      exact h _ ⟨_, _, rfl, rfl, .refl _⟩
def lessVs : List Val → List Val → Bool
  | [], [] => false
  | [], _ :: _ => true
  | _ :: _, [] => false
  | x :: l, y :: k => if ¬ x = y then lessV x y else lessVs l k
def cfgLess (a b : CfgT) : Bool := if ¬ a.state = b.state then decide (a.state < b.state) else lessVs a.vals b.vals
theorem cmpL_lt : ∀ (l k : List Val), decide (cmpL l k < 0) = lessVs l k
  | [], [] => rfl
  | [], _ :: _ => rfl
  | _ :: _, [] => rfl
  | x :: l, y :: k => by
    rw [cmpL, lessVs]
    unfold cmpV
    by_cases hxy : x = y
    · rw [if_pos hxy, if_neg (by simp), if_neg (by simpa using hxy)]
      exact cmpL_lt l k
    · rw [if_neg hxy, if_pos hxy]
      cases lessV x y <;> simp
def CfgT.St (c : CfgT) : Prop := 0 ≤ c.state ∧ c.state < 1000 ∧ c.vals.length ≤ 1000
theorem config_compare_pc (a b : CfgT) (ha : a.St) (hb : b.St) : PureC Tryz.prog G n_config_compare [cfgV a, cfgV b] (iv (if ¬ a.state = b.state then a.state - b.state else cmpL a.vals b.vals)) := by
  have hc := CompareFunc_pc (G := G) a.vals b.vals (by have := ha.2.2; omega) (by have := hb.2.2; omega)
  obtain ⟨s, l⟩ := a
  obtain ⟨t, k⟩ := b
  obtain ⟨a1, a2, a3⟩ := ha
  obtain ⟨b1, b2, b3⟩ := hb
  dsimp only at *
  refine pc_config_compare (Runs.of fun Φ h => ?_)
  unfold c_config_compare
  by_cases hst : s = t
  · subst hst
    rw [if_neg (by simp)] at h
    repeat' (first | (simp -implicitDefEqProofs only [go_sem, cfgV, bne_self_eq_false]) | refine at_guard (fun hb => ?_) (fun hb => ?_) | refine ⟨fun hb => ?_, fun hb => ?_⟩ | refine at_call (hc) rfl rfl ?_ | fail)
    exact h _ ⟨_, _, rfl, rfl, .refl _⟩
  · rw [if_pos hst] at h
    have e1 : (s != t) = true := by simpa using hst
    have hw : IntKind.wrap .i64 (s - t) = s - t := wrap_i64 (by omega) (by omega)
    repeat' (first | (simp -implicitDefEqProofs only [go_sem, cfgV, e1, hw]) | refine at_guard (fun hb => ?_) (fun hb => ?_) | refine ⟨fun hb => ?_, fun hb => ?_⟩ | fail)
    exact h _ ⟨_, _, rfl, rfl, .refl _⟩
theorem lessVs_step {l k : List Val} {i : Nat} {x y : Val} (hx : l[i]? = some x) (hy : k[i]? = some y) : lessVs (l.drop i) (k.drop i) = if ¬ x = y then lessV x y else lessVs (l.drop (i + 1)) (k.drop (i + 1)) := by
  rw [drop_at hx, drop_at hy, lessVs]
theorem lessVs_end {l k : List Val} {i : Nat} (h1 : i ≤ l.length) (h2 : i ≤ k.length) (h : l.length ≤ i ∨ k.length ≤ i) : lessVs (l.drop i) (k.drop i) = decide ((l.length : Int) < k.length) := by
  by_cases hl : l.length ≤ i
  · rw [List.drop_of_length_le hl]
    by_cases hk : k.length ≤ i
    · rw [List.drop_of_length_le hk, lessVs, eq_comm, decide_eq_false_iff_not]; omega
    · obtain ⟨y, hy, _⟩ := at_some (l := k) (i := i) (by omega)
      rw [drop_at hy, lessVs, eq_comm, decide_eq_true_eq]; omega
  · obtain ⟨x, hx, _⟩ := at_some (l := l) (i := i) (by omega)
    rw [drop_at hx, List.drop_of_length_le (l := k) (by omega), lessVs, eq_comm, decide_eq_false_iff_not]; omega
theorem ref18_Less_pc (a b : CfgT) (ha : ∀ v ∈ a.vals, v.str.length < 9223372036854775807) (hl : a.vals.length ≤ 1000) (hk : b.vals.length ≤ 1000) : PureC Tryz.prog G n_proctorref18_Less [cfgV a, cfgV b] (.bool (cfgLess a b)) := by
  obtain ⟨s, l⟩ := a
  obtain ⟨t, k⟩ := b
  dsimp only at ha hl hk
  refine pc_proctorref18_Less (Runs.of fun Φ h => ?_)
  unfold c_proctorref18_Less
  unfold cfgLess at h
  dsimp only at h
  by_cases hst : s = t
  · subst hst
    rw [if_neg (by simp)] at h
    repeat' (first | (simp -implicitDefEqProofs only [go_sem, cfgV, bne_self_eq_false]) | refine at_guard (fun hb => ?_) (fun hb => ?_) | refine ⟨fun hb => ?_, fun hb => ?_⟩ | fail)
    refine at_loop (fun n st => ∃ i : Nat, i + n = l.length ∧ st = ⟨59, [(2, .ref 2 0 0), (3, .ref 3 0 0), (5, iv i)], [(2, ⟨false, t_api_Config, 2, [.agg [iv s, .seq 4 (l.map valV)]]⟩), (3, ⟨false, t_api_Config, 2, [.agg [iv s, .seq 4 (k.map valV)]]⟩)]⟩ ∧ i ≤ k.length ∧ lessVs (l.drop i) (k.drop i) = lessVs l k) l.length ⟨0, by simp, rfl, by omega, rfl⟩ ?_
    rintro I hI n st ⟨i, hi, rfl, hik, hno⟩
    rw [← hno] at h
    by_cases hlt : i < l.length
    · have e1 : ((i : Int) < l.length) = True := by simp; omega
      by_cases hkt : i < k.length
      · have e2 : ((i : Int) < k.length) = True := by simp; omega
        obtain ⟨x, hx, hxm⟩ := at_some hlt
        obtain ⟨y, hy, _⟩ := at_some hkt
        have hw := wrap_succ hlt (by omega)
        have hc := ref03_Less_pc (G := G) x y (ha x hxm)
        rw [lessVs_step hx hy] at h hno
        by_cases hxy : x = y
        · rw [if_neg (by simpa using hxy)] at hno
          obtain ⟨x1, x2, x3, x4⟩ := x
          obtain ⟨y1, y2, y3, y4⟩ := y
          have he := val4 (decide_eq_true hxy)
          repeat' (first | (simp -implicitDefEqProofs only [go_sem, List.length_map, aiaddr_map hx, aiaddr_map hy, valV, hw, e1, e2, decide_true, he]) | refine at_guard (fun hb => ?_) (fun hb => ?_) | refine ⟨fun hb => ?_, fun hb => ?_⟩ | fail)
          exact at_again (n - 1) (by omega) (hI _ _ ⟨i + 1, by omega, rfl, by omega, hno⟩)
        · rw [if_pos hxy] at h
          generalize lessV x y = z at *
          obtain ⟨x1, x2, x3, x4⟩ := x
          obtain ⟨y1, y2, y3, y4⟩ := y
          have he := val4 (decide_eq_false hxy)
          simp only [valV] at hc
          repeat' (first | (simp -implicitDefEqProofs only [go_sem, List.length_map, aiaddr_map hx, aiaddr_map hy, valV, hw, e1, e2, decide_true, he]) | refine at_guard (fun hb => ?_) (fun hb => ?_) | refine ⟨fun hb => ?_, fun hb => ?_⟩ | refine at_call (hc) rfl rfl ?_ | fail)
          exact h _ ⟨_, _, rfl, rfl, .refl _⟩
      · have e2 : ((i : Int) < k.length) = False := by simp; omega
        rw [lessVs_end (by omega) hik (by omega)] at h
        repeat' (first | (simp -implicitDefEqProofs only [go_sem, List.length_map, e1, e2, decide_true, decide_false]) | refine at_guard (fun hb => ?_) (fun hb => ?_) | refine ⟨fun hb => ?_, fun hb => ?_⟩ | fail)
        exact h _ ⟨_, _, rfl, rfl, .refl _⟩
    · have e1 : ((i : Int) < l.length) = False := by simp; omega
      rw [lessVs_end (by omega) hik (by omega)] at h
      repeat' (first | (simp -implicitDefEqProofs only [go_sem, List.length_map, e1, decide_false]) | refine at_guard (fun hb => ?_) (fun hb => ?_) | refine ⟨fun hb => ?_, fun hb => ?_⟩ | fail)
      exact h _ ⟨_, _, rfl, rfl, .refl _⟩
  · rw [if_pos hst] at h
    have e1 : (s != t) = true := by simpa using hst
    repeat' (first | (simp -implicitDefEqProofs only [go_sem, cfgV, e1]) | refine at_guard (fun hb => ?_) (fun hb => ?_) | refine ⟨fun hb => ?_, fun hb => ?_⟩ | fail)
    exact h _ ⟨_, _, rfl, rfl, .refl _⟩
theorem config_one_pc (a b : CfgT) (hl : a.vals.length ≤ 1000) (hk : b.vals.length ≤ 1000) : PureC Tryz.prog G n_config_one [cfgV a, cfgV b] (.bool (decide (a = b))) := by
  have hc := slices_Equal_api_Value_api_Value_pc (G := G) a.vals b.vals (by omega) (by omega)
  obtain ⟨s, l⟩ := a
  obtain ⟨t, k⟩ := b
  dsimp only at hc hl hk
  refine pc_config_one (Runs.of fun Φ h => ?_)
  unfold c_config_one
  by_cases hst : s = t
  · subst hst
    rw [show decide ((⟨s, l⟩ : CfgT) = ⟨s, k⟩) = decide (l = k) by simp] at h
    repeat' (first | (simp -implicitDefEqProofs only [go_sem, cfgV, beq_self_eq_true]) | refine at_guard (fun hb => ?_) (fun hb => ?_) | refine ⟨fun hb => ?_, fun hb => ?_⟩ | refine at_call (hc) rfl rfl ?_ | fail)
    exact h _ ⟨_, _, rfl, rfl, .refl _⟩
  · rw [show decide ((⟨s, l⟩ : CfgT) = ⟨t, k⟩) = false by simp [hst]] at h
    have e1 : (s == t) = false := by simpa using hst
    repeat' (first | (simp -implicitDefEqProofs only [go_sem, cfgV, e1]) | refine at_guard (fun hb => ?_) (fun hb => ?_) | refine ⟨fun hb => ?_, fun hb => ?_⟩ | fail)
    exact h _ ⟨_, _, rfl, rfl, .refl _⟩
theorem zipB_eq {α : Type} [DecidableEq α] : ∀ (l k : List α), zipB (fun a b => decide (a = b)) l k = decide (l = k) := by
  intro l
  induction l with
  | nil => intro k; cases k <;> simp [zipB]
  | cons x l ih =>
    intro k
    cases k with
    | nil => simp [zipB]
    | cons y k => simp [zipB, ih]
def cfgOne (a b : CfgT) : Bool := !cfgLess a b && !cfgLess b a
theorem ref18_One_pc (a b : CfgT) (ha : ∀ v ∈ a.vals, v.str.length < 9223372036854775807) (hb : ∀ v ∈ b.vals, v.str.length < 9223372036854775807) (hl : a.vals.length ≤ 1000) (hk : b.vals.length ≤ 1000) : PureC Tryz.prog G n_proctorref18_One [cfgV a, cfgV b] (.bool (cfgOne a b)) := by
  have h1 := ref18_Less_pc (G := G) a b ha hl hk
  have h2 := ref18_Less_pc (G := G) b a hb hk hl
  refine pc_proctorref18_One (Runs.of fun Φ h => ?_)
  unfold c_proctorref18_One
  unfold cfgOne at h
  generalize cfgLess a b = y at *
  generalize cfgLess b a = z at *
  obtain ⟨s, l⟩ := a
  obtain ⟨t, k⟩ := b
  simp only [cfgV] at h1 h2
  cases y
  · rw [Bool.not_false, Bool.true_and] at h
    repeat' (first | (simp -implicitDefEqProofs only [go_sem, cfgV]) | refine at_guard (fun hb => ?_) (fun hb => ?_) | refine ⟨fun hb => ?_, fun hb => ?_⟩ | refine at_call (h1) rfl rfl ?_ | refine at_call (h2) rfl rfl ?_ | fail)
    exact h _ ⟨_, _, rfl, rfl, .refl _⟩
  · rw [Bool.not_true, Bool.false_and] at h
    repeat' (first | (simp -implicitDefEqProofs only [go_sem, cfgV]) | refine at_guard (fun hb => ?_) (fun hb => ?_) | refine ⟨fun hb => ?_, fun hb => ?_⟩ | refine at_call (h1) rfl rfl ?_ | refine at_call (h2) rfl rfl ?_ | fail)
    exact h _ ⟨_, _, rfl, rfl, .refl _⟩
end Go.Proofs.YtjbcfpkibnhodaaGreatDoor.Ab
