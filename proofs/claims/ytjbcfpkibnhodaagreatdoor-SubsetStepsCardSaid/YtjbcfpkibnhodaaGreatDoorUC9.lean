/-
  config, proctorref18: the order of configurations, and whether they are the same. proctorref18: sets of configurations; the law's own words. proctorref18.Right, config.Right; what the law asks of its arguments. key.one, key.Of, config.Key. proctorref04.Key: a value's key. config.Start, States, Text and the reference's, proctorref04.Keys. No claim is proved here.
-/
import Derived.Laws.CopyOwn
import Derived.Test.YtjbcfpkibnhodaaGreatDoorUV14
namespace Go.Proofs.YtjbcfpkibnhodaaGreatDoor.Ab
open Go Go.RowKit
set_option linter.unusedSimpArgs false
set_option maxHeartbeats 4000000
set_option maxRecDepth 100000
variable {G : Nat → Option AV}
structure CfgT where
  state : Int
  vals : List Val
deriving DecidableEq
def cfgV (c : CfgT) : AV := .agg [iv c.state, .seq 4 (c.vals.map valV)]
def cfgsV (l : List CfgT) : AV := .seq 2 (l.map cfgV)
theorem val4 {k n : Int} {s : Str} {t : Bool} {k' n' : Int} {s' : Str} {t' : Bool} {β : Bool} (h : decide ((⟨k, n, s, t⟩ : Val) = ⟨k', n', s', t'⟩) = β) : (k == k' && (n == n' && (s == s' && t == t'))) = β := by
  rw [← h, Bool.eq_iff_iff]
  simp
def lessVs : List Val → List Val → Bool
  | [], [] => false
  | [], _ :: _ => true
  | _ :: _, [] => false
  | x :: l, y :: k => if ¬ x = y then lessV x y else lessVs l k
def cfgLess (a b : CfgT) : Bool := if ¬ a.state = b.state then decide (a.state < b.state) else lessVs a.vals b.vals
def CfgT.St (c : CfgT) : Prop := 0 ≤ c.state ∧ c.state < 1000 ∧ c.vals.length ≤ 1000
theorem lessVs_step {l k : List Val} {i : Nat} {x y : Val} (hx : l[i]? = some x) (hy : k[i]? = some y) : lessVs (l.drop i) (k.drop i) = if ¬ x = y then lessV x y else lessVs (l.drop (i + 1)) (k.drop (i + 1)) := by
  rw [drop_at hx, drop_at hy, lessVs]
theorem lessVs_end {l k : List Val} {i : Nat} (h1 : i ≤ l.length) (h2 : i ≤ k.length) (h : l.length ≤ i ∨ k.length ≤ i) : lessVs (l.drop i) (k.drop i) = decide ((l.length : Int) < k.length) := by
  by_cases hl : l.length ≤ i
  · rw [List.drop_of_length_le hl]
    by_cases hk : k.length ≤ i
    · rw [List.drop_of_length_le hk, lessVs, eq_comm, decide_eq_false_iff_not]; omega
    · obtain ⟨y, hy, _⟩ := at_some (l := k) (i := i) (by omega)
      rw [drop_at hy, lessVs, eq_comm, decide_eq_true_eq]; omega
  · obtain ⟨x, hx, _⟩ := at_some (l := l) (i := i) (by omega)
    rw [drop_at hx, List.drop_of_length_le (l := k) (by omega), lessVs, eq_comm, decide_eq_false_iff_not]; omega
theorem ref18_Less_pc (a b : CfgT) (ha : ∀ v ∈ a.vals, v.str.length < 9223372036854775807) (hl : a.vals.length ≤ 1000) (hk : b.vals.length ≤ 1000) : PureC Tryz.prog G n_proctorref18_Less [cfgV a, cfgV b] (.bool (cfgLess a b)) := by
  obtain ⟨s, l⟩ := a
  obtain ⟨t, k⟩ := b
  dsimp only at ha hl hk
  refine pc_proctorref18_Less (Runs.of fun Φ h => ?_)
  unfold c_proctorref18_Less
  unfold cfgLess at h
  dsimp only at h
  by_cases hst : s = t
  · subst hst
    rw [if_neg (by simp)] at h
    repeat' (first | (simp -implicitDefEqProofs only [go_sem, cfgV, bne_self_eq_false]) | refine at_guard (fun hb => ?_) (fun hb => ?_) | refine ⟨fun hb => ?_, fun hb => ?_⟩ | fail)
    refine at_loop (fun n st => ∃ i : Nat, i + n = l.length ∧ st = ⟨59, [(2, .ref 2 0 0), (3, .ref 3 0 0), (5, iv i)], [(2, ⟨false, t_api_Config, 2, [.agg [iv s, .seq 4 (l.map valV)]]⟩), (3, ⟨false, t_api_Config, 2, [.agg [iv s, .seq 4 (k.map valV)]]⟩)]⟩ ∧ i ≤ k.length ∧ lessVs (l.drop i) (k.drop i) = lessVs l k) l.length ⟨0, by simp, rfl, by omega, rfl⟩ ?_
    rintro I hI n st ⟨i, hi, rfl, hik, hno⟩
    rw [← hno] at h
    by_cases hlt : i < l.length
    · have e1 : ((i : Int) < l.length) = True := by simp; omega
      by_cases hkt : i < k.length
      · have e2 : ((i : Int) < k.length) = True := by simp; omega
        obtain ⟨x, hx, hxm⟩ := at_some hlt
        obtain ⟨y, hy, _⟩ := at_some hkt
        have hw := wrap_succ hlt (by omega)
        have hc := ref03_Less_pc (G := G) x y (ha x hxm)
        rw [lessVs_step hx hy] at h hno
        by_cases hxy : x = y
        · rw [if_neg (by simpa using hxy)] at hno
          obtain ⟨x1, x2, x3, x4⟩ := x
          obtain ⟨y1, y2, y3, y4⟩ := y
          have he := val4 (decide_eq_true hxy)
          repeat' (first | (simp -implicitDefEqProofs only [go_sem, List.length_map, aiaddr_map hx, aiaddr_map hy, valV, hw, e1, e2, decide_true, he]) | refine at_guard (fun hb => ?_) (fun hb => ?_) | refine ⟨fun hb => ?_, fun hb => ?_⟩ | fail)
          exact at_again (n - 1) (by omega) (hI _ _ ⟨i + 1, by omega, rfl, by omega, hno⟩)
        · rw [if_pos hxy] at h
          generalize lessV x y = z at *
          obtain ⟨x1, x2, x3, x4⟩ := x
          obtain ⟨y1, y2, y3, y4⟩ := y
          have he := val4 (decide_eq_false hxy)
          simp only [valV] at hc
          repeat' (first | (simp -implicitDefEqProofs only [go_sem, List.length_map, aiaddr_map hx, aiaddr_map hy, valV, hw, e1, e2, decide_true, he]) | refine at_guard (fun hb => ?_) (fun hb => ?_) | refine ⟨fun hb => ?_, fun hb => ?_⟩ | refine at_call (hc) rfl rfl ?_ | fail)
          exact h _ ⟨_, _, rfl, rfl, .refl _⟩
      · have e2 : ((i : Int) < k.length) = False := by simp; omega
        rw [lessVs_end (by omega) hik (by omega)] at h
        repeat' (first | (simp -implicitDefEqProofs only [go_sem, List.length_map, e1, e2, decide_true, decide_false]) | refine at_guard (fun hb => ?_) (fun hb => ?_) | refine ⟨fun hb => ?_, fun hb => ?_⟩ | fail)
        exact h _ ⟨_, _, rfl, rfl, .refl _⟩
    · have e1 : ((i : Int) < l.length) = False := by simp; omega
      rw [lessVs_end (by omega) hik (by omega)] at h
      repeat' (first | (simp -implicitDefEqProofs only [go_sem, List.length_map, e1, decide_false]) | refine at_guard (fun hb => ?_) (fun hb => ?_) | refine ⟨fun hb => ?_, fun hb => ?_⟩ | fail)
      exact h _ ⟨_, _, rfl, rfl, .refl _⟩
  · rw [if_pos hst] at h
    have e1 : (s != t) = true := by simpa using hst
    repeat' (first | (simp -implicitDefEqProofs only [go_sem, cfgV, e1]) | refine at_guard (fun hb => ?_) (fun hb => ?_) | refine ⟨fun hb => ?_, fun hb => ?_⟩ | fail)
    exact h _ ⟨_, _, rfl, rfl, .refl _⟩
def cfgOne (a b : CfgT) : Bool := !cfgLess a b && !cfgLess b a
theorem ref18_One_pc (a b : CfgT) (ha : ∀ v ∈ a.vals, v.str.length < 9223372036854775807) (hb : ∀ v ∈ b.vals, v.str.length < 9223372036854775807) (hl : a.vals.length ≤ 1000) (hk : b.vals.length ≤ 1000) : PureC Tryz.prog G n_proctorref18_One [cfgV a, cfgV b] (.bool (cfgOne a b)) := by
  have h1 := ref18_Less_pc (G := G) a b ha hl hk
  have h2 := ref18_Less_pc (G := G) b a hb hk hl
  refine pc_proctorref18_One (Runs.of fun Φ h => ?_)
  unfold c_proctorref18_One
  unfold cfgOne at h
  generalize cfgLess a b = y at *
  generalize cfgLess b a = z at *
  obtain ⟨s, l⟩ := a
  obtain ⟨t, k⟩ := b
  simp only [cfgV] at h1 h2
  cases y
  · rw [Bool.not_false, Bool.true_and] at h
    repeat' (first | (simp -implicitDefEqProofs only [go_sem, cfgV]) | refine at_guard (fun hb => ?_) (fun hb => ?_) | refine ⟨fun hb => ?_, fun hb => ?_⟩ | refine at_call (h1) rfl rfl ?_ | refine at_call (h2) rfl rfl ?_ | fail)
    exact h _ ⟨_, _, rfl, rfl, .refl _⟩
  · rw [Bool.not_true, Bool.false_and] at h
    repeat' (first | (simp -implicitDefEqProofs only [go_sem, cfgV]) | refine at_guard (fun hb => ?_) (fun hb => ?_) | refine ⟨fun hb => ?_, fun hb => ?_⟩ | refine at_call (h1) rfl rfl ?_ | refine at_call (h2) rfl rfl ?_ | fail)
    exact h _ ⟨_, _, rfl, rfl, .refl _⟩
end Go.Proofs.YtjbcfpkibnhodaaGreatDoor.Ab
namespace Go.Proofs.YtjbcfpkibnhodaaGreatDoor.Ab
open Go Go.RowKit
set_option linter.unusedSimpArgs false
set_option maxHeartbeats 4000000
set_option maxRecDepth 100000
variable {G : Nat → Option AV}
theorem view_map {α : Type} {e : α → AV} {sz : Nat} {H : List (Nat × Box)} {i n : Nat} {ty : Nat} {l : List α} (h0 : 0 < sz) (hH : hget H i = some ⟨true, ty, sz, l.map e⟩) (hn : l.length = n) : view H (.arr i 0 n) = some (.seq sz (l.map e)) := by
  simp only [view, hH, List.drop_zero, List.length_map, hn]
  simp [h0, ← hn]
  exact List.take_of_length_le (by simp)
def CfgT.Sm (c : CfgT) : Prop := c.vals.length ≤ 1000 ∧ ∀ v ∈ c.vals, v.str.length < 9223372036854775807
theorem ref18_Same_pc (a b : List CfgT) (ha : ∀ x ∈ a, x.Sm) (hb : ∀ x ∈ b, x.Sm) (hl : a.length ≤ 1000) : PureC Tryz.prog G n_proctorref18_Same [cfgsV a, cfgsV b] (.bool (zipB cfgOne a b)) := by
  refine pc_proctorref18_Same (Runs.of fun Φ h => ?_)
  unfold c_proctorref18_Same
  by_cases hlk : a.length = b.length
  · have e0 : ((a.length : Int) != (b.length : Int)) = false := by simp [hlk]
    generalize hv : zipB cfgOne a b = v at *
    simp -implicitDefEqProofs only [go_sem, cfgsV, List.length_map, e0]
    refine at_loop (fun n st => ∃ i : Nat, i + n = a.length ∧ st = ⟨27, [(0, cfgsV a), (1, cfgsV b), (5, iv i)], []⟩ ∧ zipB cfgOne (a.drop i) (b.drop i) = v) a.length ⟨0, by simp, rfl, hv⟩ ?_
    rintro I hI n st ⟨i, hi, rfl, hno⟩
    simp -implicitDefEqProofs only [go_sem, cfgsV, List.length_map]
    refine ⟨fun hlt => ?_, fun hge => ?_⟩
    · have hlt' : i < a.length := by omega
      obtain ⟨x, hx, hm⟩ := at_some hlt'
      obtain ⟨y, hy, hm'⟩ := at_some (l := b) (i := i) (by omega)
      have hw := wrap_succ hlt' (by omega)
      have hc := ref18_One_pc (G := G) x y (ha x hm).2 (hb y hm').2 (ha x hm).1 (hb y hm').1
      rw [zipB_step hx hy] at hno
      obtain ⟨x1, x2⟩ := x
      obtain ⟨y1, y2⟩ := y
      simp only [cfgV] at hc
      generalize cfgOne ⟨x1, x2⟩ ⟨y1, y2⟩ = β at *
      cases β
      · rw [Bool.false_and] at hno
        subst hno
        repeat' (first | (simp -implicitDefEqProofs only [go_sem, aiaddr_map hx, aiaddr_map hy, hw, cfgV, cfgsV]) | refine at_guard (fun hb => ?_) (fun hb => ?_) | refine ⟨fun hb => ?_, fun hb => ?_⟩ | refine at_call (hc) rfl rfl ?_ | fail)
        exact h _ ⟨_, _, rfl, rfl, .refl _⟩
      · rw [Bool.true_and] at hno
        repeat' (first | (simp -implicitDefEqProofs only [go_sem, aiaddr_map hx, aiaddr_map hy, hw, cfgV, cfgsV]) | refine at_guard (fun hb => ?_) (fun hb => ?_) | refine ⟨fun hb => ?_, fun hb => ?_⟩ | refine at_call (hc) rfl rfl ?_ | fail)
        exact at_again (n - 1) (by omega) (hI _ _ ⟨i + 1, by omega, rfl, hno⟩)
    · rw [zipB_end (by omega) (by omega)] at hno
      subst hno
      exact h _ ⟨_, _, rfl, rfl, .refl _⟩
  · have hv := zipB_len (p := cfgOne) hlk
    rw [hv] at h
    have e0 : ((a.length : Int) != (b.length : Int)) = true := by simp; omega
    repeat' (first | (simp -implicitDefEqProofs only [go_sem, cfgsV, List.length_map, e0]) | refine at_guard (fun hb => ?_) (fun hb => ?_) | refine ⟨fun hb => ?_, fun hb => ?_⟩ | fail)
    exact h _ ⟨_, _, rfl, rfl, .refl _⟩
end Go.Proofs.YtjbcfpkibnhodaaGreatDoor.Ab
namespace Go.Proofs.YtjbcfpkibnhodaaGreatDoor.Ab
open Go Go.RowKit
set_option linter.unusedSimpArgs false
set_option maxHeartbeats 4000000
set_option maxRecDepth 100000
variable {G : Nat → Option AV}
def cfgR (q : QeaT) (c : CfgT) : Bool := decide (0 ≤ c.state) && (decide (c.state < q.states.length) && fitsR c.vals q.frees)
end Go.Proofs.YtjbcfpkibnhodaaGreatDoor.Ab
namespace Go.Proofs.YtjbcfpkibnhodaaGreatDoor.Ab
open Go Go.RowKit
set_option linter.unusedSimpArgs false
set_option maxHeartbeats 4000000
set_option maxRecDepth 100000
variable {G : Nat → Option AV}
theorem ok_kind {v : Val} (h : v.ok = true) : v.kind = 1 ∨ v.kind = 2 ∨ v.kind = 3 := by
  unfold Val.ok at h
  split at h
  · exact .inl ‹_›
  · split at h
    · exact .inr (.inl ‹_›)
    · simp only [Bool.and_eq_true, decide_eq_true_eq] at h
      exact .inr (.inr h.1)
end Go.Proofs.YtjbcfpkibnhodaaGreatDoor.Ab
namespace Go.Proofs.YtjbcfpkibnhodaaGreatDoor.Ab
open Go Go.RowKit
set_option linter.unusedSimpArgs false
set_option maxHeartbeats 4000000
set_option maxRecDepth 100000
variable {G : Nat → Option AV}
theorem u64_nat {m : Nat} (h : m < 18446744073709551616) : IntKind.u64.wrap (m : Int) = (m : Int) := by
  simp [IntKind.wrap, IntKind.bits, IntKind.signed]
  omega
end Go.Proofs.YtjbcfpkibnhodaaGreatDoor.Ab
namespace Go.Proofs.YtjbcfpkibnhodaaGreatDoor.Ab
open Go Go.RowKit
set_option linter.unusedSimpArgs false
set_option maxHeartbeats 4000000
set_option maxRecDepth 100000
variable {G : Nat → Option AV}
theorem bor32 {a b : Nat} (ha : a < 4294967296) (hb : b < 4294967296) : abin .or (.int .u32 (a : Int)) (.int .u32 (b : Int)) = some (.int .u32 ((a ||| b : Nat) : Int)) := by
  have h : a ||| b < 4294967296 := Nat.or_lt_two_pow (n := 32) ha hb
  have e : (BitVec.ofInt 32 (a : Int) ||| BitVec.ofInt 32 (b : Int)).toNat = a ||| b := by
    rw [BitVec.ofInt_natCast, BitVec.ofInt_natCast, BitVec.toNat_or, BitVec.toNat_ofNat, BitVec.toNat_ofNat, Nat.mod_eq_of_lt ha, Nat.mod_eq_of_lt hb]
  rw [abin_or]
  unfold bOr
  rw [show IntKind.u32.bits = 32 from rfl, e]
  generalize a ||| b = m at *
  simp [IntKind.wrap, IntKind.bits, IntKind.signed]
  omega
theorem shl32 {s : Nat} (hs : s < 32) : abin .shl (.int .u32 1) (.int .u64 (s : Int)) = some (.int .u32 ((2 ^ s : Nat) : Int)) := by
  have h2 : (2 : Nat) ^ s < 4294967296 := Nat.lt_of_lt_of_le (Nat.pow_lt_pow_right (by decide) hs) (Nat.le_refl (2 ^ 32))
  show (if (s : Int) < 0 then none else some (AV.int .u32 (bShl .u32 1 s))) = _
  rw [if_neg (by omega)]
  unfold bShl
  rw [show IntKind.u32.bits = 32 from rfl, Int.toNat_natCast, Nat.min_eq_left (by omega), Int.one_mul]
  have e : ((2 : Int) ^ s) = ((2 ^ s : Nat) : Int) := by simp
  rw [e]
  generalize 2 ^ s = m at *
  simp [IntKind.wrap, IntKind.bits, IntKind.signed]
  omega
theorem dropC_at {α : Type} {l : List α} {i : Nat} {x : α} (hx : l[i]? = some x) : l.drop i = x :: l.drop (i + 1) := by
  obtain ⟨h1, rfl⟩ := List.getElem?_eq_some_iff.1 hx
  exact List.drop_eq_getElem_cons h1
end Go.Proofs.YtjbcfpkibnhodaaGreatDoor.Ab
