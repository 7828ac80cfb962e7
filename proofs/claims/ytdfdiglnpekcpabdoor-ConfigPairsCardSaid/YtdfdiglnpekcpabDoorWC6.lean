/-
  config.Start, Accepts, States, Text at the law's example. No claim is proved here.
-/
import Derived.Test.YtdfdiglnpekcpabDoorWC5
import Derived.Test.YtdfdiglnpekcpabDoorWT8
import Derived.Test.YtdfdiglnpekcpabDoorWV13
namespace Go.Proofs.YtdfdiglnpekcpabDoor.Ab
open Nat renaming reduceAdd → zq0, reduceSub → zq1, reduceMul → zq2, reduceLT → zq3, reduceLeDiff → zq4, reduceEqDiff → zq5, reduceBEq → zq6
open Int renaming reduceNeg → zq7, reduceAdd → zq8, reduceLT → zq9, reduceLE → zq10, reduceToNat → zq11, reduceEq → zq12, reduceNe → zq13, reduceBEq → zq14, reduceBNe → zq15, reduceMul → zq16, reduceSub → zq17
open Go Go.RowKit
set_option linter.unusedSimpArgs false
set_option maxHeartbeats 4000000
set_option maxRecDepth 100000
variable {G : Nat → Option AV}
def vB : Val := ⟨1, 0, [], false⟩
def qB : QeaT := ⟨[113], [], [], [⟨[102], vB⟩], [⟨[115], false, true⟩], 0, [], [], []⟩
def cB : CfgT := ⟨0, [vB]⟩
/-- The example's automaton as it is built. -/
def qBV : AV := .agg [.str [113], .nils, .nils, .seq 5 [.agg [.str [102], iv 1, iv 0, .str [], .bool false]], .seq 3 [.agg [.str [115], .bool false, .bool true]], iv 0, .nils, .nils, .nils]
theorem qBV_fit : Fit2 qBV (qeaV qB) := by
  refine .agg _ _ rfl fun j a b ha hb => ?_
  match j, ha, hb with
  | 0, ha, hb => cases ha; cases hb; exact .refl _
  | 1, ha, hb => cases ha; cases hb; exact .nil _
  | 2, ha, hb => cases ha; cases hb; exact .nil _
  | 3, ha, hb => cases ha; cases hb; exact .refl _
  | 4, ha, hb => cases ha; cases hb; exact .refl _
  | 5, ha, hb => cases ha; cases hb; exact .refl _
  | 6, ha, hb => cases ha; cases hb; exact .nil _
  | 7, ha, hb => cases ha; cases hb; exact .nil _
  | 8, ha, hb => cases ha; cases hb; exact .nil _
theorem config_Start_pcB : PureC Tryd.prog G n_config_Start [qBV] (cfgsV [cB]) := by
  have w1 : IntKind.i64.wrap (0 + 1) = 1 := by decide
  have w2 : IntKind.i64.wrap 1 = 1 := by decide
  refine pc_config_Start (Runs.of fun Φ h => ?_)
  unfold c_config_Start
  simp -implicitDefEqProofs only [go_sem, zq0, zq1, zq2, zq3, zq4, zq5, zq6, zq7, zq8, zq9, zq10, zq11, zq12, zq13, zq14, zq15, zq16, zq17, reduceIte, reduceCtorEq, qBV]
  refine at_loop (fun n st => (n = 1 ∧ st = ⟨26, [(3, .ref 3 0 0), (10, .seq 5 [.agg [.str [102], iv 1, iv 0, .str [], .bool false]]), (11, iv 1), (12, iv 0)], [(1, ⟨false, t_api_Qea, 9, [qBV]⟩), (2, ⟨true, t_api_Config, 2, []⟩), (3, ⟨false, t_api_Config, 2, [.agg [iv 0, .nils]]⟩)]⟩) ∨ (n = 0 ∧ st = ⟨26, [(3, .ref 3 0 0), (10, .seq 5 [.agg [.str [102], iv 1, iv 0, .str [], .bool false]]), (11, iv 1), (12, iv 1)], [(1, ⟨false, t_api_Qea, 9, [qBV]⟩), (2, ⟨true, t_api_Config, 2, []⟩), (3, ⟨false, t_api_Config, 2, [.agg [iv 0, .arr 21 0 1]]⟩), (21, ⟨true, t_api_Value, 4, [valV vB]⟩)]⟩)) 1 (.inl ⟨rfl, rfl⟩) ?_
  rintro I hI n st (⟨rfl, rfl⟩ | ⟨rfl, rfl⟩)
  · (try (simp -implicitDefEqProofs only [go_sem, zq0, zq1, zq2, zq3, zq4, zq5, zq6, zq7, zq8, zq9, zq10, zq11, zq12, zq13, zq14, zq15, zq16, zq17, reduceIte, reduceCtorEq, w1, w2])); repeat' ((first | refine at_guard (fun hb => ?_) (fun hb => ?_) | refine ⟨fun hb => ?_, fun hb => ?_⟩ | fail) <;> (try (simp -implicitDefEqProofs only [go_sem, zq0, zq1, zq2, zq3, zq4, zq5, zq6, zq7, zq8, zq9, zq10, zq11, zq12, zq13, zq14, zq15, zq16, zq17, reduceIte, reduceCtorEq, w1, w2])))
    exact at_again 0 (by omega) (hI _ _ (.inr ⟨rfl, rfl⟩))
  · (try (simp -implicitDefEqProofs only [go_sem, zq0, zq1, zq2, zq3, zq4, zq5, zq6, zq7, zq8, zq9, zq10, zq11, zq12, zq13, zq14, zq15, zq16, zq17, reduceIte, reduceCtorEq])); repeat' ((first | refine at_guard (fun hb => ?_) (fun hb => ?_) | refine ⟨fun hb => ?_, fun hb => ?_⟩ | fail) <;> (try (simp -implicitDefEqProofs only [go_sem, zq0, zq1, zq2, zq3, zq4, zq5, zq6, zq7, zq8, zq9, zq10, zq11, zq12, zq13, zq14, zq15, zq16, zq17, reduceIte, reduceCtorEq])))
    exact h _ ⟨_, _, rfl, rfl, .refl _⟩
theorem slices_IndexFunc_api_Config_api_Config_pc (f : Nat) (caps : List AV) (hf : bodyB Tryd.prog f = true) (hcap : OkC caps) (p : CfgT → Bool) (l : List CfgT) (hp : ∀ x ∈ l, PureC Tryd.prog G f (cfgV x :: caps) (.bool (p x))) (hl : l.length < 9223372036854775807) :
    PureC Tryd.prog G n_slices_IndexFunc_api_Config_api_Config [.seq 2 (l.map cfgV), .fn f caps] (iv (idxF p l)) := by
  refine pc_slices_IndexFunc_api_Config_api_Config (Runs.of fun Φ h => ?_)
  unfold c_slices_IndexFunc_api_Config_api_Config
  simp -implicitDefEqProofs only [go_sem, zq0, zq1, zq2, zq3, zq4, zq5, zq6, zq7, zq8, zq9, zq10, zq11, zq12, zq13, zq14, zq15, zq16, zq17, reduceIte, reduceCtorEq, List.length_map]
  refine at_loop (fun n st => ∃ i : Nat, i + n = l.length ∧ st = ⟨19, [(0, .seq 2 (l.map cfgV)), (1, .fn f caps), (7, iv l.length), (8, iv i)], []⟩ ∧ ∀ j x, j < i → l[j]? = some x → p x = false) l.length ⟨0, by simp, rfl, fun j x hj => by omega⟩ ?_
  rintro I hI n st ⟨i, hi, rfl, hno⟩
  simp -implicitDefEqProofs only [go_sem, zq0, zq1, zq2, zq3, zq4, zq5, zq6, zq7, zq8, zq9, zq10, zq11, zq12, zq13, zq14, zq15, zq16, zq17, reduceIte, reduceCtorEq]
  refine ⟨fun hlt => ?_, fun hge => ?_⟩
  · have hlt' : i < l.length := by omega
    obtain ⟨x, hx, hm⟩ := at_some hlt'
    have hw := wrap_succ hlt' (by omega)
    simp -implicitDefEqProofs only [go_sem, zq0, zq1, zq2, zq3, zq4, zq5, zq6, zq7, zq8, zq9, zq10, zq11, zq12, zq13, zq14, zq15, zq16, zq17, reduceIte, reduceCtorEq, aiaddr_map hx, hcap.purge, cfgV]
    refine ⟨hf, at_call (hp x hm) (by simp [viewC, flat, viewBs, viewB, viewK, viewK.go, hcap.viewBs, cfgV]) rfl ?_⟩
    cases hpx : p x
    · simp -implicitDefEqProofs only [go_sem, zq0, zq1, zq2, zq3, zq4, zq5, zq6, zq7, zq8, zq9, zq10, zq11, zq12, zq13, zq14, zq15, zq16, zq17, reduceIte, reduceCtorEq, hw, hcap.purge]
      exact at_again (n - 1) (by omega) (hI _ _ ⟨i + 1, by omega, rfl, fun j y hj hy => by
        by_cases e : j = i
        · subst e; rw [hx] at hy; cases hy; exact hpx
        · exact hno j y (by omega) hy⟩)
    · simp -implicitDefEqProofs only [go_sem, zq0, zq1, zq2, zq3, zq4, zq5, zq6, zq7, zq8, zq9, zq10, zq11, zq12, zq13, zq14, zq15, zq16, zq17, reduceIte, reduceCtorEq, hcap.purge]
      exact h _ ⟨_, _, rfl, rfl, fitI (idxF_at hx hpx hno).symm⟩
  · have : i = l.length := by omega
    subst this
    exact h _ ⟨_, _, rfl, rfl, fitI (idxF_none hno).symm⟩
theorem slices_ContainsFunc_api_Config_api_Config_pc (f : Nat) (caps : List AV) (hf : bodyB Tryd.prog f = true) (hcap : OkC caps) (p : CfgT → Bool) (l : List CfgT) (hp : ∀ x ∈ l, PureC Tryd.prog G f (cfgV x :: caps) (.bool (p x))) (hl : l.length < 9223372036854775807) :
    PureC Tryd.prog G n_slices_ContainsFunc_api_Config_api_Config [.seq 2 (l.map cfgV), .fn f caps] (.bool (l.any p)) := by
  refine pc_slices_ContainsFunc_api_Config_api_Config (Runs.of fun Φ h => ?_)
  unfold c_slices_ContainsFunc_api_Config_api_Config
  simp -implicitDefEqProofs only [go_sem, zq0, zq1, zq2, zq3, zq4, zq5, zq6, zq7, zq8, zq9, zq10, zq11, zq12, zq13, zq14, zq15, zq16, zq17, reduceIte, reduceCtorEq]
  refine at_call (slices_IndexFunc_api_Config_api_Config_pc f caps hf hcap p l hp hl) (by simp [viewC, flat, viewBs, viewB, viewK, hcap.viewK]) rfl ?_
  simp -implicitDefEqProofs only [go_sem, zq0, zq1, zq2, zq3, zq4, zq5, zq6, zq7, zq8, zq9, zq10, zq11, zq12, zq13, zq14, zq15, zq16, zq17, reduceIte, reduceCtorEq, hcap.purge]
  exact h _ ⟨_, _, rfl, rfl, fitB (idxF_any _ _)⟩
def accR (q : QeaT) (c : CfgT) : Bool := match at? q.states c.state with | some s => s.accept | none => false
theorem config_Accepts_1_pc (q : QeaT) (c : CfgT) (h0 : 0 ≤ c.state) (h1 : c.state < q.states.length) : PureC Tryd.prog G n_config_Accepts_1 [cfgV c, .eptr (qeaV q) 0] (.bool (accR q c)) := by
  obtain ⟨x, l⟩ := c
  simp only at h0 h1
  obtain ⟨i, rfl⟩ := Int.eq_ofNat_of_zero_le h0
  obtain ⟨s, hs, _⟩ := at_some (l := q.states) (i := i) (by omega)
  have ha : accR q ⟨i, l⟩ = s.accept := by
    unfold accR at?
    simp only
    rw [if_pos h0, Int.toNat_natCast, hs]
  rw [ha]
  clear ha h0 h1
  obtain ⟨n, s1, s2⟩ := s
  refine pc_config_Accepts_1 (Runs.of fun Φ h => ?_)
  unfold c_config_Accepts_1
  (try (simp -implicitDefEqProofs only [go_sem, zq0, zq1, zq2, zq3, zq4, zq5, zq6, zq7, zq8, zq9, zq10, zq11, zq12, zq13, zq14, zq15, zq16, zq17, reduceIte, reduceCtorEq, cfgV, qeaV, declsV, quantsV, freesV, statesV, symsV, nodesV, transsV, aiaddr_map hs, stateV])); repeat' ((first | refine at_guard (fun hb => ?_) (fun hb => ?_) | refine ⟨fun hb => ?_, fun hb => ?_⟩ | fail) <;> (try (simp -implicitDefEqProofs only [go_sem, zq0, zq1, zq2, zq3, zq4, zq5, zq6, zq7, zq8, zq9, zq10, zq11, zq12, zq13, zq14, zq15, zq16, zq17, reduceIte, reduceCtorEq, cfgV, qeaV, declsV, quantsV, freesV, statesV, symsV, nodesV, transsV, aiaddr_map hs, stateV])))
  exact h _ ⟨_, _, rfl, rfl, .refl _⟩
theorem config_Accepts_pc (q : QeaT) (l : List CfgT) (hl : l.length < 9223372036854775807) (h : ∀ c ∈ l, 0 ≤ c.state ∧ c.state < q.states.length) : PureC Tryd.prog G n_config_Accepts [qeaV q, cfgsV l] (.bool (l.any (accR q))) := by
  have hc := slices_ContainsFunc_api_Config_api_Config_pc (G := G) n_config_Accepts_1 [.eptr (qeaV q) 0] (by kernel_rfl) (okC_q q) (accR q) l (fun c hc => config_Accepts_1_pc q c (h c hc).1 (h c hc).2) hl
  refine pc_config_Accepts (Runs.of fun Φ h => ?_)
  unfold c_config_Accepts
  generalize l.any (accR q) = z at *
  simp only [qeaV, declsV, quantsV, freesV, statesV, symsV, nodesV, transsV] at hc
  (try (simp -implicitDefEqProofs only [go_sem, zq0, zq1, zq2, zq3, zq4, zq5, zq6, zq7, zq8, zq9, zq10, zq11, zq12, zq13, zq14, zq15, zq16, zq17, reduceIte, reduceCtorEq, cfgsV, qeaV, declsV, quantsV, freesV, statesV, symsV, nodesV, transsV])); repeat' ((first | refine at_guard (fun hb => ?_) (fun hb => ?_) | refine ⟨fun hb => ?_, fun hb => ?_⟩ | refine at_call (hc) rfl rfl ?_ | fail) <;> (try (simp -implicitDefEqProofs only [go_sem, zq0, zq1, zq2, zq3, zq4, zq5, zq6, zq7, zq8, zq9, zq10, zq11, zq12, zq13, zq14, zq15, zq16, zq17, reduceIte, reduceCtorEq, cfgsV, qeaV, declsV, quantsV, freesV, statesV, symsV, nodesV, transsV])))
  all_goals (refine h _ ⟨_, _, rfl, rfl, fit_eq ?_⟩; clear h; first | rfl | simp_all)
theorem config_States_pcB : PureC Tryd.prog G n_config_States [cfgsV [cB]] (.int .u32 1) := by
  have w1 : IntKind.i64.wrap (0 + 1) = 1 := by decide
  have w2 : IntKind.u64.wrap 0 = 0 := by decide
  have s0 : abin .shl (.int .u32 1) (.int .u64 0) = some (.int .u32 1) := by rfl
  have s1 : abin .or (.int .u32 0) (.int .u32 1) = some (.int .u32 1) := by rfl
  refine pc_config_States (Runs.of fun Φ h => ?_)
  unfold c_config_States
  simp -implicitDefEqProofs only [go_sem, zq0, zq1, zq2, zq3, zq4, zq5, zq6, zq7, zq8, zq9, zq10, zq11, zq12, zq13, zq14, zq15, zq16, zq17, reduceIte, reduceCtorEq, cfgsV, cfgV, cB, vB, valV]
  refine at_loop (fun n st => (n = 1 ∧ st = ⟨20, [(3, .int .u32 0), (6, .seq 2 [.agg [iv 0, .seq 4 [.agg [iv 1, iv 0, .str [], .bool false]]]]), (7, iv 1), (8, iv 0)], []⟩) ∨ (n = 0 ∧ st = ⟨20, [(3, .int .u32 1), (6, .seq 2 [.agg [iv 0, .seq 4 [.agg [iv 1, iv 0, .str [], .bool false]]]]), (7, iv 1), (8, iv 1)], []⟩)) 1 (.inl ⟨rfl, rfl⟩) ?_
  rintro I hI n st (⟨rfl, rfl⟩ | ⟨rfl, rfl⟩)
  · (try (simp -implicitDefEqProofs only [go_sem, zq0, zq1, zq2, zq3, zq4, zq5, zq6, zq7, zq8, zq9, zq10, zq11, zq12, zq13, zq14, zq15, zq16, zq17, reduceIte, reduceCtorEq, w1, w2, s0, s1])); repeat' ((first | refine at_guard (fun hb => ?_) (fun hb => ?_) | refine ⟨fun hb => ?_, fun hb => ?_⟩ | fail) <;> (try (simp -implicitDefEqProofs only [go_sem, zq0, zq1, zq2, zq3, zq4, zq5, zq6, zq7, zq8, zq9, zq10, zq11, zq12, zq13, zq14, zq15, zq16, zq17, reduceIte, reduceCtorEq, w1, w2, s0, s1])))
    exact at_again 0 (by omega) (hI _ _ (.inr ⟨rfl, rfl⟩))
  · (try (simp -implicitDefEqProofs only [go_sem, zq0, zq1, zq2, zq3, zq4, zq5, zq6, zq7, zq8, zq9, zq10, zq11, zq12, zq13, zq14, zq15, zq16, zq17, reduceIte, reduceCtorEq])); repeat' ((first | refine at_guard (fun hb => ?_) (fun hb => ?_) | refine ⟨fun hb => ?_, fun hb => ?_⟩ | fail) <;> (try (simp -implicitDefEqProofs only [go_sem, zq0, zq1, zq2, zq3, zq4, zq5, zq6, zq7, zq8, zq9, zq10, zq11, zq12, zq13, zq14, zq15, zq16, zq17, reduceIte, reduceCtorEq])))
    exact h _ ⟨_, _, rfl, rfl, .refl _⟩
theorem config_Text_pcB (hG : G 4 = some (.agg (Lib.pow10Tab.map (AV.int .u64)))) : PureC Tryd.prog G n_config_Text [qeaV qB, cfgV cB] (.str [115, 32, 102, 61, 48]) := by
  have hr := config_Right_pc (G := G) qB cB (by decide) (by decide)
  rw [show cfgR qB cB = true by decide] at hr
  have hv := value_Text_num (G := G) hG 0 (by unfold i64; decide)
  rw [show Lib.itoa 0 = [48] by rw [itoa_pos (by decide), dec_small (by decide)]; rfl] at hv
  have hj := strings_Join_pc (G := G) [[115], [102, 61, 48]] [32] (by decide) (by decide)
  rw [show Lib.join [[115], [102, 61, 48]] [32] = [115, 32, 102, 61, 48] from rfl] at hj
  refine pc_config_Text (Runs.of fun Φ h => ?_)
  unfold c_config_Text
  have w1 : IntKind.i64.wrap (0 + 1) = 1 := by decide
  simp only [qeaV, declsV, quantsV, freesV, statesV, symsV, nodesV, transsV, qB, cfgV, cB, vB, valV, freeV, stateV, List.map_cons, List.map_nil] at hr hv hj
  have w2 : IntKind.i64.wrap 1 = 1 := by decide
  (try (simp -implicitDefEqProofs only [go_sem, zq0, zq1, zq2, zq3, zq4, zq5, zq6, zq7, zq8, zq9, zq10, zq11, zq12, zq13, zq14, zq15, zq16, zq17, reduceIte, reduceCtorEq, qeaV, declsV, quantsV, freesV, statesV, symsV, nodesV, transsV, qB, cfgV, cB, vB, valV, freeV, stateV])); repeat' ((first | refine at_guard (fun hb => ?_) (fun hb => ?_) | refine ⟨fun hb => ?_, fun hb => ?_⟩ | refine at_call (hr) rfl rfl ?_ | fail) <;> (try (simp -implicitDefEqProofs only [go_sem, zq0, zq1, zq2, zq3, zq4, zq5, zq6, zq7, zq8, zq9, zq10, zq11, zq12, zq13, zq14, zq15, zq16, zq17, reduceIte, reduceCtorEq, qeaV, declsV, quantsV, freesV, statesV, symsV, nodesV, transsV, qB, cfgV, cB, vB, valV, freeV, stateV])))
  refine at_loop (fun n st => (n = 1 ∧ st = ⟨44, [(3, .ref 3 0 0), (5, .arr 19 0 1), (21, .seq 5 [.agg [.str [102], iv 1, iv 0, .str [], .bool false]]), (22, iv 1), (23, iv 0)], [(2, ⟨false, t_api_Qea, 9, [qeaV qB]⟩), (3, ⟨false, t_api_Config, 2, [cfgV cB]⟩), (19, ⟨true, t_string, 1, [.str [115]]⟩)]⟩) ∨ (n = 0 ∧ st = ⟨44, [(3, .ref 3 0 0), (5, .arr 19 0 2), (21, .seq 5 [.agg [.str [102], iv 1, iv 0, .str [], .bool false]]), (22, iv 1), (23, iv 1)], [(2, ⟨false, t_api_Qea, 9, [qeaV qB]⟩), (3, ⟨false, t_api_Config, 2, [cfgV cB]⟩), (19, ⟨true, t_string, 1, [.str [115], .str [102, 61, 48]]⟩)]⟩)) 1 (.inl ⟨rfl, rfl⟩) ?_
  rintro I hI n st (⟨rfl, rfl⟩ | ⟨rfl, rfl⟩)
  · have a1 : abin .add (.str [102]) (.str [61]) = some (.str [102, 61]) := rfl
    have a2 : abin .add (.str [102, 61]) (.str [48]) = some (.str [102, 61, 48]) := rfl
    (try (simp -implicitDefEqProofs only [go_sem, zq0, zq1, zq2, zq3, zq4, zq5, zq6, zq7, zq8, zq9, zq10, zq11, zq12, zq13, zq14, zq15, zq16, zq17, reduceIte, reduceCtorEq, w1, w2, a1, a2, qeaV, declsV, quantsV, freesV, statesV, symsV, nodesV, transsV, qB, cfgV, cB, vB, valV, freeV, stateV])); repeat' ((first | refine at_guard (fun hb => ?_) (fun hb => ?_) | refine ⟨fun hb => ?_, fun hb => ?_⟩ | refine at_call (hv) rfl rfl ?_ | fail) <;> (try (simp -implicitDefEqProofs only [go_sem, zq0, zq1, zq2, zq3, zq4, zq5, zq6, zq7, zq8, zq9, zq10, zq11, zq12, zq13, zq14, zq15, zq16, zq17, reduceIte, reduceCtorEq, w1, w2, a1, a2, qeaV, declsV, quantsV, freesV, statesV, symsV, nodesV, transsV, qB, cfgV, cB, vB, valV, freeV, stateV])))
    exact at_again 0 (by omega) (hI _ _ (.inr ⟨rfl, rfl⟩))
  · (try (simp -implicitDefEqProofs only [go_sem, zq0, zq1, zq2, zq3, zq4, zq5, zq6, zq7, zq8, zq9, zq10, zq11, zq12, zq13, zq14, zq15, zq16, zq17, reduceIte, reduceCtorEq])); repeat' ((first | refine at_guard (fun hb => ?_) (fun hb => ?_) | refine ⟨fun hb => ?_, fun hb => ?_⟩ | refine at_call (hj) rfl rfl ?_ | fail) <;> (try (simp -implicitDefEqProofs only [go_sem, zq0, zq1, zq2, zq3, zq4, zq5, zq6, zq7, zq8, zq9, zq10, zq11, zq12, zq13, zq14, zq15, zq16, zq17, reduceIte, reduceCtorEq])))
    exact h _ ⟨_, _, rfl, rfl, .refl _⟩
theorem law18_awake_pc (hG : G 4 = some (.agg (Lib.pow10Tab.map (AV.int .u64)))) : PureC Tryd.prog G n_proctorlaw18_awake [] (.bool true) := by
  have h1 := config_Start_pcB (G := G)
  have h2 := PureC.fit2 (P := Tryd.prog) (f := n_config_Text) (args := [qBV, cfgV cB]) (args' := [qeaV qB, cfgV cB]) rfl (fun j c d hc hd => by
    match j, hc, hd with
    | 0, hc, hd => cases hc; cases hd; exact qBV_fit
    | 1, hc, hd => cases hc; cases hd; exact .refl _) (config_Text_pcB hG)
  have h3 := PureC.fit2 (P := Tryd.prog) (f := n_config_Accepts) (args := [qBV, cfgsV [cB]]) (args' := [qeaV qB, cfgsV [cB]]) rfl (fun j c d hc hd => by
    match j, hc, hd with
    | 0, hc, hd => cases hc; cases hd; exact qBV_fit
    | 1, hc, hd => cases hc; cases hd; exact .refl _) (config_Accepts_pc (G := G) qB [cB] (by decide) (fun c hc => by
      simp only [List.mem_singleton] at hc
      subst hc
      decide))
  rw [show [cB].any (accR qB) = true by decide] at h3
  have h4 := config_States_pcB (G := G)
  refine pc_proctorlaw18_awake fun c hc => Runs.of fun Φ h => ?_
  subst hc
  unfold c_proctorlaw18_awake
  simp only [qBV, cfgsV, cfgV, cB, vB, valV, List.map_cons, List.map_nil] at h1 h2 h3 h4
  (try (simp -implicitDefEqProofs only [go_sem, zq0, zq1, zq2, zq3, zq4, zq5, zq6, zq7, zq8, zq9, zq10, zq11, zq12, zq13, zq14, zq15, zq16, zq17, reduceIte, reduceCtorEq])); repeat' ((first | refine at_guard (fun hb => ?_) (fun hb => ?_) | refine ⟨fun hb => ?_, fun hb => ?_⟩ | refine at_call (h1) rfl rfl ?_ | refine at_call (h2) rfl rfl ?_ | refine at_call (h3) rfl rfl ?_ | refine at_call (h4) rfl rfl ?_ | fail) <;> (try (simp -implicitDefEqProofs only [go_sem, zq0, zq1, zq2, zq3, zq4, zq5, zq6, zq7, zq8, zq9, zq10, zq11, zq12, zq13, zq14, zq15, zq16, zq17, reduceIte, reduceCtorEq])))
  all_goals first
    | exact h _ ⟨_, _, rfl, rfl, .refl _⟩
    | (exfalso; revert hb; decide)
    | (exfalso; simp at *; done)
end Go.Proofs.YtdfdiglnpekcpabDoor.Ab
