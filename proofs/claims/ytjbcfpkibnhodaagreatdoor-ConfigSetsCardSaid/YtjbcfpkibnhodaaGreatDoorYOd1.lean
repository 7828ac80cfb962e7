/-
  config.Start, Accepts, States, Text at the law's example. The law ConfigPairs. A strict order, total at what is sound: rows in order, each once: two ways. No claim is proved here.
-/
import Derived.Test.YtjbcfpkibnhodaaGreatDoorYC5
import Derived.Test.YtjbcfpkibnhodaaGreatDoorYT8
import Derived.Test.YtjbcfpkibnhodaaGreatDoorYAbTrod
import Derived.Calls
namespace Go.Proofs.YtjbcfpkibnhodaaGreatDoor.Ab
open Go Go.RowKit
set_option linter.unusedSimpArgs false
set_option maxHeartbeats 4000000
set_option maxRecDepth 100000
variable {G : Nat → Option AV}
def vB : Val := ⟨1, 0, [], false⟩
def qB : QeaT := ⟨[113], [], [], [⟨[102], vB⟩], [⟨[115], false, true⟩], 0, [], [], []⟩
def cB : CfgT := ⟨0, [vB]⟩
def qBV : AV := .agg [.str [113], .nils, .nils, .seq 5 [.agg [.str [102], iv 1, iv 0, .str [], .bool false]], .seq 3 [.agg [.str [115], .bool false, .bool true]], iv 0, .nils, .nils, .nils]
theorem qBV_fit : Fit2 qBV (qeaV qB) := by
  refine .agg _ _ rfl fun j a b ha hb => ?_
  match j, ha, hb with
  | 0, ha, hb => cases ha; cases hb; exact .refl _
  | 1, ha, hb => cases ha; cases hb; exact .nil _
  | 2, ha, hb => cases ha; cases hb; exact .nil _
  | 3, ha, hb => cases ha; cases hb; exact .refl _
  | 4, ha, hb => cases ha; cases hb; exact .refl _
  | 5, ha, hb => cases ha; cases hb; exact .refl _
  | 6, ha, hb => cases ha; cases hb; exact .nil _
  | 7, ha, hb => cases ha; cases hb; exact .nil _
  | 8, ha, hb => cases ha; cases hb; exact .nil _
theorem config_Start_pcB : PureC Tryz.prog G n_config_Start [qBV] (cfgsV [cB]) := by
  have w1 : IntKind.i64.wrap (0 + 1) = 1 := by decide
  have w2 : IntKind.i64.wrap 1 = 1 := by decide
  refine pc_config_Start (Runs.of fun Φ h => ?_)
  unfold c_config_Start
  simp -implicitDefEqProofs only [go_sem, qBV]
  refine at_loop (fun n st => (n = 1 ∧ st = ⟨26, [(3, .ref 3 0 0), (10, .seq 5 [.agg [.str [102], iv 1, iv 0, .str [], .bool false]]), (11, iv 1), (12, iv 0)], [(1, ⟨false, t_api_Qea, 9, [qBV]⟩), (2, ⟨true, t_api_Config, 2, []⟩), (3, ⟨false, t_api_Config, 2, [.agg [iv 0, .nils]]⟩)]⟩) ∨ (n = 0 ∧ st = ⟨26, [(3, .ref 3 0 0), (10, .seq 5 [.agg [.str [102], iv 1, iv 0, .str [], .bool false]]), (11, iv 1), (12, iv 1)], [(1, ⟨false, t_api_Qea, 9, [qBV]⟩), (2, ⟨true, t_api_Config, 2, []⟩), (3, ⟨false, t_api_Config, 2, [.agg [iv 0, .arr 21 0 1]]⟩), (21, ⟨true, t_api_Value, 4, [valV vB]⟩)]⟩)) 1 (.inl ⟨rfl, rfl⟩) ?_
  rintro I hI n st (⟨rfl, rfl⟩ | ⟨rfl, rfl⟩)
  · repeat' (first | (simp -implicitDefEqProofs only [go_sem, w1, w2]) | refine at_guard (fun hb => ?_) (fun hb => ?_) | refine ⟨fun hb => ?_, fun hb => ?_⟩ | fail)
    exact at_again 0 (by omega) (hI _ _ (.inr ⟨rfl, rfl⟩))
  · repeat' (first | (simp -implicitDefEqProofs only [go_sem]) | refine at_guard (fun hb => ?_) (fun hb => ?_) | refine ⟨fun hb => ?_, fun hb => ?_⟩ | fail)
    exact h _ ⟨_, _, rfl, rfl, .refl _⟩
theorem slices_IndexFunc_api_Config_api_Config_pc (f : Nat) (caps : List AV) (hf : bodyB Tryz.prog f = true) (hcap : OkC caps) (p : CfgT → Bool) (l : List CfgT) (hp : ∀ x ∈ l, PureC Tryz.prog G f (cfgV x :: caps) (.bool (p x))) (hl : l.length < 9223372036854775807) :
    PureC Tryz.prog G n_slices_IndexFunc_api_Config_api_Config [.seq 2 (l.map cfgV), .fn f caps] (iv (idxF p l)) := by
  refine pc_slices_IndexFunc_api_Config_api_Config (Runs.of fun Φ h => ?_)
  unfold c_slices_IndexFunc_api_Config_api_Config
  simp -implicitDefEqProofs only [go_sem, List.length_map]
  refine at_loop (fun n st => ∃ i : Nat, i + n = l.length ∧ st = ⟨19, [(0, .seq 2 (l.map cfgV)), (1, .fn f caps), (7, iv l.length), (8, iv i)], []⟩ ∧ ∀ j x, j < i → l[j]? = some x → p x = false) l.length ⟨0, by simp, rfl, fun j x hj => by omega⟩ ?_
  rintro I hI n st ⟨i, hi, rfl, hno⟩
  simp -implicitDefEqProofs only [go_sem]
  refine ⟨fun hlt => ?_, fun hge => ?_⟩
  · have hlt' : i < l.length := by omega
    obtain ⟨x, hx, hm⟩ := at_some hlt'
    have hw := wrap_succ hlt' (by omega)
    simp -implicitDefEqProofs only [go_sem, aiaddr_map hx, hcap.purge, cfgV]
    refine ⟨hf, at_call (hp x hm) (by simp [viewC, flat, viewBs, viewB, viewK, viewK.go, hcap.viewBs, cfgV]) rfl ?_⟩
    cases hpx : p x
    · simp -implicitDefEqProofs only [go_sem, hw, hcap.purge]
      exact at_again (n - 1) (by omega) (hI _ _ ⟨i + 1, by omega, rfl, fun j y hj hy => by
        by_cases e : j = i
        · subst e; rw [hx] at hy; cases hy; exact hpx
        · exact hno j y (by omega) hy⟩)
    · simp -implicitDefEqProofs only [go_sem, hcap.purge]
      exact h _ ⟨_, _, rfl, rfl, fitI (idxF_at hx hpx hno).symm⟩
  · have : i = l.length := by omega
    subst this
    exact h _ ⟨_, _, rfl, rfl, fitI (idxF_none hno).symm⟩
theorem slices_ContainsFunc_api_Config_api_Config_pc (f : Nat) (caps : List AV) (hf : bodyB Tryz.prog f = true) (hcap : OkC caps) (p : CfgT → Bool) (l : List CfgT) (hp : ∀ x ∈ l, PureC Tryz.prog G f (cfgV x :: caps) (.bool (p x))) (hl : l.length < 9223372036854775807) :
    PureC Tryz.prog G n_slices_ContainsFunc_api_Config_api_Config [.seq 2 (l.map cfgV), .fn f caps] (.bool (l.any p)) := by
  refine pc_slices_ContainsFunc_api_Config_api_Config (Runs.of fun Φ h => ?_)
  unfold c_slices_ContainsFunc_api_Config_api_Config
  simp -implicitDefEqProofs only [go_sem]
  refine at_call (slices_IndexFunc_api_Config_api_Config_pc f caps hf hcap p l hp hl) (by simp [viewC, flat, viewBs, viewB, viewK, hcap.viewK]) rfl ?_
  simp -implicitDefEqProofs only [go_sem, hcap.purge]
  exact h _ ⟨_, _, rfl, rfl, fitB (idxF_any _ _)⟩
def accR (q : QeaT) (c : CfgT) : Bool := match at? q.states c.state with | some s => s.accept | none => false
theorem config_Accepts_1_pc (q : QeaT) (c : CfgT) (h0 : 0 ≤ c.state) (h1 : c.state < q.states.length) : PureC Tryz.prog G n_config_Accepts_1 [cfgV c, .eptr (qeaV q) 0] (.bool (accR q c)) := by
  obtain ⟨x, l⟩ := c
  simp only at h0 h1
  obtain ⟨i, rfl⟩ := Int.eq_ofNat_of_zero_le h0
  obtain ⟨s, hs, _⟩ := at_some (l := q.states) (i := i) (by omega)
  have ha : accR q ⟨i, l⟩ = s.accept := by
    unfold accR at?
    simp only
    rw [if_pos h0, Int.toNat_natCast, hs]
  rw [ha]
  clear ha h0 h1
  obtain ⟨n, s1, s2⟩ := s
  refine pc_config_Accepts_1 (Runs.of fun Φ h => ?_)
  unfold c_config_Accepts_1
  repeat' (first | (simp -implicitDefEqProofs only [go_sem, cfgV, qeaV, declsV, quantsV, freesV, statesV, symsV, nodesV, transsV, aiaddr_map hs, stateV]) | refine at_guard (fun hb => ?_) (fun hb => ?_) | refine ⟨fun hb => ?_, fun hb => ?_⟩ | fail)
  exact h _ ⟨_, _, rfl, rfl, .refl _⟩
theorem config_Accepts_pc (q : QeaT) (l : List CfgT) (hl : l.length < 9223372036854775807) (h : ∀ c ∈ l, 0 ≤ c.state ∧ c.state < q.states.length) : PureC Tryz.prog G n_config_Accepts [qeaV q, cfgsV l] (.bool (l.any (accR q))) := by
  have hc := slices_ContainsFunc_api_Config_api_Config_pc (G := G) n_config_Accepts_1 [.eptr (qeaV q) 0] (by kernel_rfl) (okC_q q) (accR q) l (fun c hc => config_Accepts_1_pc q c (h c hc).1 (h c hc).2) hl
  refine pc_config_Accepts (Runs.of fun Φ h => ?_)
  unfold c_config_Accepts
  generalize l.any (accR q) = z at *
  simp only [qeaV, declsV, quantsV, freesV, statesV, symsV, nodesV, transsV] at hc
  repeat' (first | (simp -implicitDefEqProofs only [go_sem, cfgsV, qeaV, declsV, quantsV, freesV, statesV, symsV, nodesV, transsV]) | refine at_guard (fun hb => ?_) (fun hb => ?_) | refine ⟨fun hb => ?_, fun hb => ?_⟩ | refine at_call (hc) rfl rfl ?_ | fail)
  all_goals (refine h _ ⟨_, _, rfl, rfl, fit_eq ?_⟩; clear h; first | rfl | simp_all)
theorem config_States_pcB : PureC Tryz.prog G n_config_States [cfgsV [cB]] (.int .u32 1) := by
  have w1 : IntKind.i64.wrap (0 + 1) = 1 := by decide
  have w2 : IntKind.u64.wrap 0 = 0 := by decide
  have s0 : abin .shl (.int .u32 1) (.int .u64 0) = some (.int .u32 1) := by rfl
  have s1 : abin .or (.int .u32 0) (.int .u32 1) = some (.int .u32 1) := by rfl
  refine pc_config_States (Runs.of fun Φ h => ?_)
  unfold c_config_States
  simp -implicitDefEqProofs only [go_sem, cfgsV, cfgV, cB, vB, valV]
  refine at_loop (fun n st => (n = 1 ∧ st = ⟨20, [(3, .int .u32 0), (6, .seq 2 [.agg [iv 0, .seq 4 [.agg [iv 1, iv 0, .str [], .bool false]]]]), (7, iv 1), (8, iv 0)], []⟩) ∨ (n = 0 ∧ st = ⟨20, [(3, .int .u32 1), (6, .seq 2 [.agg [iv 0, .seq 4 [.agg [iv 1, iv 0, .str [], .bool false]]]]), (7, iv 1), (8, iv 1)], []⟩)) 1 (.inl ⟨rfl, rfl⟩) ?_
  rintro I hI n st (⟨rfl, rfl⟩ | ⟨rfl, rfl⟩)
  · repeat' (first | (simp -implicitDefEqProofs only [go_sem, w1, w2, s0, s1]) | refine at_guard (fun hb => ?_) (fun hb => ?_) | refine ⟨fun hb => ?_, fun hb => ?_⟩ | fail)
    exact at_again 0 (by omega) (hI _ _ (.inr ⟨rfl, rfl⟩))
  · repeat' (first | (simp -implicitDefEqProofs only [go_sem]) | refine at_guard (fun hb => ?_) (fun hb => ?_) | refine ⟨fun hb => ?_, fun hb => ?_⟩ | fail)
    exact h _ ⟨_, _, rfl, rfl, .refl _⟩
theorem config_Text_pcB (hG : G 7 = some (.agg (Lib.pow10Tab.map (AV.int .u64)))) : PureC Tryz.prog G n_config_Text [qeaV qB, cfgV cB] (.str [115, 32, 102, 61, 48]) := by
  have hr := config_Right_pc (G := G) qB cB (by decide) (by decide)
  rw [show cfgR qB cB = true by decide] at hr
  have hv := value_Text_num (G := G) hG 0 (by unfold i64; decide)
  rw [show Lib.itoa 0 = [48] by rw [itoa_pos (by decide), dec_small (by decide)]; rfl] at hv
  have hj := strings_Join_pc (G := G) [[115], [102, 61, 48]] [32] (by decide) (by decide)
  rw [show Lib.join [[115], [102, 61, 48]] [32] = [115, 32, 102, 61, 48] from rfl] at hj
  refine pc_config_Text (Runs.of fun Φ h => ?_)
  unfold c_config_Text
  have w1 : IntKind.i64.wrap (0 + 1) = 1 := by decide
  simp only [qeaV, declsV, quantsV, freesV, statesV, symsV, nodesV, transsV, qB, cfgV, cB, vB, valV, freeV, stateV, List.map_cons, List.map_nil] at hr hv hj
  have w2 : IntKind.i64.wrap 1 = 1 := by decide
  repeat' (first | (simp -implicitDefEqProofs only [go_sem, qeaV, declsV, quantsV, freesV, statesV, symsV, nodesV, transsV, qB, cfgV, cB, vB, valV, freeV, stateV]) | refine at_guard (fun hb => ?_) (fun hb => ?_) | refine ⟨fun hb => ?_, fun hb => ?_⟩ | refine at_call (hr) rfl rfl ?_ | fail)
  refine at_loop (fun n st => (n = 1 ∧ st = ⟨44, [(3, .ref 3 0 0), (5, .arr 19 0 1), (21, .seq 5 [.agg [.str [102], iv 1, iv 0, .str [], .bool false]]), (22, iv 1), (23, iv 0)], [(2, ⟨false, t_api_Qea, 9, [qeaV qB]⟩), (3, ⟨false, t_api_Config, 2, [cfgV cB]⟩), (19, ⟨true, t_string, 1, [.str [115]]⟩)]⟩) ∨ (n = 0 ∧ st = ⟨44, [(3, .ref 3 0 0), (5, .arr 19 0 2), (21, .seq 5 [.agg [.str [102], iv 1, iv 0, .str [], .bool false]]), (22, iv 1), (23, iv 1)], [(2, ⟨false, t_api_Qea, 9, [qeaV qB]⟩), (3, ⟨false, t_api_Config, 2, [cfgV cB]⟩), (19, ⟨true, t_string, 1, [.str [115], .str [102, 61, 48]]⟩)]⟩)) 1 (.inl ⟨rfl, rfl⟩) ?_
  rintro I hI n st (⟨rfl, rfl⟩ | ⟨rfl, rfl⟩)
  · have a1 : abin .add (.str [102]) (.str [61]) = some (.str [102, 61]) := rfl
    have a2 : abin .add (.str [102, 61]) (.str [48]) = some (.str [102, 61, 48]) := rfl
    repeat' (first | (simp -implicitDefEqProofs only [go_sem, w1, w2, a1, a2, qeaV, declsV, quantsV, freesV, statesV, symsV, nodesV, transsV, qB, cfgV, cB, vB, valV, freeV, stateV]) | refine at_guard (fun hb => ?_) (fun hb => ?_) | refine ⟨fun hb => ?_, fun hb => ?_⟩ | refine at_call (hv) rfl rfl ?_ | fail)
    exact at_again 0 (by omega) (hI _ _ (.inr ⟨rfl, rfl⟩))
  · repeat' (first | (simp -implicitDefEqProofs only [go_sem]) | refine at_guard (fun hb => ?_) (fun hb => ?_) | refine ⟨fun hb => ?_, fun hb => ?_⟩ | refine at_call (hj) rfl rfl ?_ | fail)
    exact h _ ⟨_, _, rfl, rfl, .refl _⟩
theorem law18_awake_pc (hG : G 7 = some (.agg (Lib.pow10Tab.map (AV.int .u64)))) : PureC Tryz.prog G n_proctorlaw18_awake [] (.bool true) := by
  have h1 := config_Start_pcB (G := G)
  have h2 := PureC.fit2 (P := Tryz.prog) (f := n_config_Text) (args := [qBV, cfgV cB]) (args' := [qeaV qB, cfgV cB]) rfl (fun j c d hc hd => by
    match j, hc, hd with
    | 0, hc, hd => cases hc; cases hd; exact qBV_fit
    | 1, hc, hd => cases hc; cases hd; exact .refl _) (config_Text_pcB hG)
  have h3 := PureC.fit2 (P := Tryz.prog) (f := n_config_Accepts) (args := [qBV, cfgsV [cB]]) (args' := [qeaV qB, cfgsV [cB]]) rfl (fun j c d hc hd => by
    match j, hc, hd with
    | 0, hc, hd => cases hc; cases hd; exact qBV_fit
    | 1, hc, hd => cases hc; cases hd; exact .refl _) (config_Accepts_pc (G := G) qB [cB] (by decide) (fun c hc => by
      simp only [List.mem_singleton] at hc
      subst hc
      decide))
  rw [show [cB].any (accR qB) = true by decide] at h3
  have h4 := config_States_pcB (G := G)
  refine pc_proctorlaw18_awake fun c hc => Runs.of fun Φ h => ?_
  subst hc
  unfold c_proctorlaw18_awake
  simp only [qBV, cfgsV, cfgV, cB, vB, valV, List.map_cons, List.map_nil] at h1 h2 h3 h4
  repeat' (first | (simp -implicitDefEqProofs only [go_sem]) | refine at_guard (fun hb => ?_) (fun hb => ?_) | refine ⟨fun hb => ?_, fun hb => ?_⟩ | refine at_call (h1) rfl rfl ?_ | refine at_call (h2) rfl rfl ?_ | refine at_call (h3) rfl rfl ?_ | refine at_call (h4) rfl rfl ?_ | fail)
  all_goals first
    | exact h _ ⟨_, _, rfl, rfl, .refl _⟩
    | (exfalso; revert hb; decide)
    | (exfalso; simp at *; done)
end Go.Proofs.YtjbcfpkibnhodaaGreatDoor.Ab
namespace Go.Proofs.YtjbcfpkibnhodaaGreatDoor.Ab
open Go Go.RowKit
set_option linter.unusedSimpArgs false
set_option maxHeartbeats 4000000
set_option maxRecDepth 100000
variable {G : Nat → Option AV}
structure SetOK (q : QeaT) (a : List CfgT) : Prop where
  len : a.length ≤ 20
  right : ∀ c ∈ a, cfgR q c = true
  key : ∀ c ∈ a, c.Key ∧ c.vals.length = q.frees.length
  sm : ∀ c ∈ a, c.Sm
  st : ∀ c ∈ a, c.St
theorem few_states {q : QeaT} (h : fewQ q = true) : q.states.length ≤ 12 := by
  unfold fewQ fewTop at h
  simp only [Bool.and_eq_true, decide_eq_true_eq] at h
  have := h.1.2.2.2.1
  omega
theorem setOK {q : QeaT} {l : List CfgT} (h : small18 q l = true) (h64 : ∀ c ∈ l, ∀ v ∈ c.vals, i64 v.int) : SetOK q (ofR (l.filter (cfgR q))) ∧ (∀ x ∈ l.filter (cfgR q), x.Sm) := by
  unfold small18 at h
  simp only [Bool.and_eq_true, decide_eq_true_eq] at h
  obtain ⟨hq, hl, hs, hr⟩ := h
  have hfew := few_of q hq
  have hsh : ∀ c ∈ l, c.vals.length ≤ 20 ∧ ∀ v ∈ c.vals, v.str.length ≤ 1000 := fun c hc => by
    obtain ⟨i, hi⟩ := List.getElem?_of_mem hc
    have h1 := allI_true.1 hs i c hi
    simp only [Bool.and_eq_true, decide_eq_true_eq] at h1
    refine ⟨by omega, fun v hv => ?_⟩
    obtain ⟨j, hj⟩ := List.getElem?_of_mem hv
    have h2 := allI_true.1 h1.2 j v hj
    simp only [decide_eq_true_eq] at h2
    omega
  have hmem : ∀ c ∈ ofR (l.filter (cfgR q)), c ∈ l ∧ cfgR q c = true := fun c hc => by
    rcases ofR_mem hc with h | h
    · cases h
    · exact List.mem_filter.1 h
  have hsm : ∀ c ∈ l, c.Sm := fun c hc => ⟨by have := (hsh c hc).1; omega, fun v hv => by have := (hsh c hc).2 v hv; omega⟩
  have hstn : (q.states.length : Int) ≤ 12 := by have := few_states hq; omega
  refine ⟨⟨?_, fun c hc => (hmem c hc).2, fun c hc => ?_, fun c hc => hsm c (hmem c hc).1, fun c hc => ?_⟩, fun x hx => hsm x (List.mem_filter.1 hx).1⟩
  · have h1 := ofR_len (l.filter (cfgR q)) []
    have h2 := List.length_filter_le (cfgR q) l
    unfold ofR
    simp only [List.length_nil] at h1
    omega
  · obtain ⟨h1, h2⟩ := hmem c hc
    unfold cfgR at h2
    simp only [Bool.and_eq_true, decide_eq_true_eq] at h2
    obtain ⟨a1, a2⟩ := fitsR_at h2.2.2
    refine ⟨⟨h2.1, by omega, by have := (hsh c h1).1; omega, fun v hv => ?_⟩, a1⟩
    obtain ⟨j, hj⟩ := List.getElem?_of_mem hv
    have hjl := (List.getElem?_eq_some_iff.1 hj).1
    obtain ⟨f, hf, _⟩ := at_some (l := q.frees) (i := j) (by omega)
    exact ⟨(a2 j v f hj hf).1, h64 c h1 v hv, (hsh c h1).2 v hv⟩
  · obtain ⟨h1, h2⟩ := hmem c hc
    unfold cfgR at h2
    simp only [Bool.and_eq_true, decide_eq_true_eq] at h2
    exact ⟨h2.1, by omega, by have := (hsh c h1).1; omega⟩
end Go.Proofs.YtjbcfpkibnhodaaGreatDoor.Ab
namespace Go.Proofs.YtjbcfpkibnhodaaGreatDoor.Ab
open Go
set_option linter.unusedSimpArgs false
theorem od_some {α : Type} {l : List α} {i : Nat} (h : i < l.length) : ∃ x, l[i]? = some x ∧ x ∈ l := ⟨l[i], List.getElem?_eq_getElem h, List.getElem_mem h⟩
def compT {α : Type} [DecidableEq α] : α → List α → List α
  | _, [] => []
  | p, y :: r => if p = y then compT p r else y :: compT y r
def compA {α : Type} [DecidableEq α] : List α → List α
  | [] => []
  | x :: r => x :: compT x r
section
variable {α : Type} [DecidableEq α]
theorem compT_snoc : ∀ (m : List α) (p x : α), compT p (m ++ [x]) = if (p :: m).getLast? = some x then compT p m else compT p m ++ [x]
  | [], p, x => by simp [compT]
  | y :: r, p, x => by
    have h := compT_snoc r y x
    rw [List.cons_append, compT, List.getLast?_cons_cons, compT]
    by_cases e : p = y
    · subst e
      rw [if_pos rfl, if_pos rfl, h]
    · rw [if_neg e, if_neg e, h]
      split <;> rfl
theorem compA_snoc : ∀ (m : List α) (x : α), compA (m ++ [x]) = if m.getLast? = some x then compA m else compA m ++ [x]
  | [], x => by simp [compA, compT]
  | y :: r, x => by
    have h := compT_snoc r y x
    rw [List.cons_append, compA, compA, h]
    split <;> rfl
omit [DecidableEq α] in
theorem takeC {l : List α} {i : Nat} {x : α} (h : l[i]? = some x) : l.take (i + 1) = l.take i ++ [x] := by
  rw [List.take_add_one, h]; rfl
theorem comp_step {l : List α} {k : Nat} {x y : α} (h0 : 0 < k) (hx : l[k]? = some x) (hy : l[k - 1]? = some y) : compA (l.take (k + 1)) = if y = x then compA (l.take k) else compA (l.take k) ++ [x] := by
  rw [takeC hx, compA_snoc]
  have e : (l.take k).getLast? = some y := by
    have := takeC hy
    rw [Nat.sub_add_cancel h0] at this
    rw [this]
    simp
  rw [e]
  simp
end
structure TO {α : Type} (lt : α → α → Bool) (ok : α → Prop) : Prop where
  irr : ∀ a, lt a a = false
  trans : ∀ {a b c}, lt a b = true → lt b c = true → lt a c = true
  tot : ∀ {a b}, ok a → ok b → a ≠ b → lt a b = true ∨ lt b a = true
section
variable {α : Type} {lt : α → α → Bool} {ok : α → Prop}
theorem TO.asy (T : TO lt ok) {a b : α} (h : lt a b = true) : lt b a = false := by
  cases h2 : lt b a with
  | false => rfl
  | true =>
    have := T.trans h h2
    rw [T.irr] at this
    cases this
theorem TO.ntrans [DecidableEq α] (T : TO lt ok) {a b c : α} (ha : ok a) (hb : ok b) (h1 : lt a b = false) (h2 : lt b c = false) : lt a c = false := by
  cases h : lt a c with
  | false => rfl
  | true =>
    exfalso
    by_cases e1 : a = b
    · subst e1; rw [h] at h2; cases h2
    · rcases T.tot ha hb e1 with h3 | h3
      · rw [h1] at h3; cases h3
      · have := T.trans h3 h
        rw [h2] at this; cases this
theorem TO.sorted_uniq [DecidableEq α] (T : TO lt ok) : ∀ {l k : List α}, l.Perm k → (∀ x ∈ l, ok x) → l.Pairwise (fun a b => lt b a = false) → k.Pairwise (fun a b => lt b a = false) → l = k
  | [], k, h, _, _, _ => (List.nil_perm.1 h).symm
  | a :: l, [], h, _, _, _ => by simp at h
  | a :: l, b :: k, h, hok, h1, h2 => by
    have hk : ∀ x ∈ b :: k, ok x := fun x hx => hok x (h.symm.subset hx)
    have e : a = b := by
      by_cases e : a = b
      · exact e
      · exfalso
        rw [List.pairwise_cons] at h1 h2
        have ha : a ∈ k := by
          rcases List.mem_cons.1 (h.subset (List.mem_cons_self ..)) with h | h
          · exact absurd h e
          · exact h
        have hb : b ∈ l := by
          rcases List.mem_cons.1 (h.symm.subset (List.mem_cons_self ..)) with h | h
          · exact absurd h.symm e
          · exact h
        rcases T.tot (hok a (by simp)) (hk b (by simp)) e with h3 | h3
        · rw [h2.1 a ha] at h3; cases h3
        · rw [h1.1 b hb] at h3; cases h3
    subst e
    rw [List.pairwise_cons] at h1 h2
    rw [T.sorted_uniq (List.Perm.cons_inv h) (fun x hx => hok x (by simp [hx])) h1.2 h2.2]
def insO (lt : α → α → Bool) (x : α) : List α → List α
  | [] => [x]
  | y :: l => if lt y x then y :: insO lt x l else x :: y :: l
def sortO (lt : α → α → Bool) (l : List α) : List α := l.foldr (insO lt) []
theorem insO_perm (lt : α → α → Bool) (x : α) : ∀ l, (insO lt x l).Perm (x :: l)
  | [] => .refl _
  | y :: l => by
    rw [insO]
    split
    · exact ((insO_perm lt x l).cons y).trans (List.Perm.swap x y l)
    · exact .refl _
theorem TO.insO_sorted [DecidableEq α] (T : TO lt ok) {x : α} (hx : ok x) : ∀ {l : List α}, (∀ y ∈ l, ok y) → l.Pairwise (fun a b => lt b a = false) → (insO lt x l).Pairwise fun a b => lt b a = false
  | [], _, _ => by simp [insO]
  | y :: l, hok, h => by
    rw [List.pairwise_cons] at h
    rw [insO]
    split
    · rename_i hl
      rw [List.pairwise_cons]
      refine ⟨fun z hz => ?_, T.insO_sorted hx (fun z hz => hok z (by simp [hz])) h.2⟩
      rcases List.mem_cons.1 ((insO_perm lt x l).subset hz) with e | e
      · rw [e]; exact T.asy hl
      · exact h.1 z e
    · rename_i hl
      have hl : lt y x = false := by simpa using hl
      rw [List.pairwise_cons, List.pairwise_cons]
      refine ⟨fun z hz => ?_, h⟩
      rcases List.mem_cons.1 hz with e | e
      · rw [e]; exact hl
      · exact T.ntrans (hok z (by simp [e])) (hok y (by simp)) (h.1 z e) hl
theorem sortO_perm (lt : α → α → Bool) : ∀ (l : List α), (sortO lt l).Perm l
  | [] => .refl _
  | x :: l => (insO_perm lt x (sortO lt l)).trans ((sortO_perm lt l).cons x)
theorem TO.sortO_sorted [DecidableEq α] (T : TO lt ok) : ∀ {l : List α}, (∀ x ∈ l, ok x) → (sortO lt l).Pairwise fun a b => lt b a = false
  | [], _ => List.Pairwise.nil
  | x :: l, hok => T.insO_sorted (hok x (by simp)) (fun y hy => hok y (by simp [(sortO_perm lt l).subset hy])) (T.sortO_sorted fun y hy => hok y (by simp [hy]))
theorem TO.strict_ext (T : TO lt ok) : ∀ {l k : List α}, l.Pairwise (fun a b => lt a b = true) → k.Pairwise (fun a b => lt a b = true) → (∀ x, x ∈ l ↔ x ∈ k) → l = k
  | [], [], _, _, _ => rfl
  | [], y :: k, _, _, h => by have := (h y).2 (by simp); cases this
  | x :: l, [], _, _, h => by have := (h x).1 (by simp); cases this
  | x :: l, y :: k, hl, hk, h => by
    rw [List.pairwise_cons] at hl hk
    have hxy : x = y := by
      rcases List.mem_cons.1 ((h x).1 (by simp)) with e | e
      · exact e
      · rcases List.mem_cons.1 ((h y).2 (by simp)) with e2 | e2
        · exact e2.symm
        · have h1 := hk.1 x e
          have h2 := hl.1 y e2
          rw [T.asy h1] at h2
          cases h2
    subst hxy
    rw [T.strict_ext hl.2 hk.2 fun z => ?_]
    constructor
    · intro hz
      rcases List.mem_cons.1 ((h z).1 (by simp [hz])) with e | e
      · subst e
        have := hl.1 z hz
        rw [T.irr] at this
        cases this
      · exact e
    · intro hz
      rcases List.mem_cons.1 ((h z).2 (by simp [hz])) with e | e
      · subst e
        have := hk.1 z hz
        rw [T.irr] at this
        cases this
      · exact e
theorem compO_memT [DecidableEq α] : ∀ (r : List α) (p x : α), x ∈ p :: compT p r ↔ x ∈ p :: r
  | [], p, x => by simp [compT]
  | y :: r, p, x => by
    rw [compT]
    by_cases e : p = y
    · subst e
      rw [if_pos rfl, compO_memT r p x]
      simp
    · rw [if_neg e, List.mem_cons, compO_memT r y x]
      simp
theorem compO_mem [DecidableEq α] (l : List α) (x : α) : x ∈ compA l ↔ x ∈ l := by
  cases l with
  | nil => simp [compA]
  | cons y r => exact compO_memT r y x
theorem TO.compT_strict [DecidableEq α] (T : TO lt ok) : ∀ (r : List α) (p : α), (∀ x ∈ p :: r, ok x) → (p :: r).Pairwise (fun a b => lt b a = false) → (p :: compT p r).Pairwise fun a b => lt a b = true
  | [], p, _, _ => by simp [compT]
  | y :: r, p, hok, h => by
    rw [List.pairwise_cons] at h
    rw [compT]
    by_cases e : p = y
    · subst e
      rw [if_pos rfl]
      exact T.compT_strict r p (fun x hx => hok x (List.mem_cons_of_mem _ hx)) h.2
    · rw [if_neg e]
      have h2 := T.compT_strict r y (fun x hx => hok x (List.mem_cons_of_mem _ hx)) h.2
      rw [List.pairwise_cons]
      refine ⟨fun z hz => ?_, h2⟩
      have hpy : lt p y = true := by
        rcases T.tot (hok p (by simp)) (hok y (by simp)) e with h3 | h3
        · exact h3
        · rw [h.1 y (by simp)] at h3; cases h3
      rcases List.mem_cons.1 hz with e2 | e2
      · rw [e2]; exact hpy
      · rw [List.pairwise_cons] at h2
        exact T.trans hpy (h2.1 z e2)
def orderO [DecidableEq α] (lt : α → α → Bool) (l : List α) : List α := compA (sortO lt l)
theorem TO.order_strict [DecidableEq α] (T : TO lt ok) {l : List α} (hok : ∀ x ∈ l, ok x) : (orderO lt l).Pairwise fun a b => lt a b = true := by
  unfold orderO
  have h := T.sortO_sorted hok
  have hp := sortO_perm lt l
  cases hs : sortO lt l with
  | nil => simp [compA]
  | cons y r =>
    rw [hs] at h hp
    exact T.compT_strict r y (fun x hx => hok x (hp.subset hx)) h
theorem orderO_mem [DecidableEq α] {l : List α} {x : α} : x ∈ orderO lt l ↔ x ∈ l := by
  unfold orderO
  rw [compO_mem]
  exact (sortO_perm lt l).mem_iff
def goO (lt : α → α → Bool) (b : α) (l : List α) : Nat → Nat
  | 0 => 0
  | n + 1 => match l[n]? with | some x => if lt b x then goO lt b l n else n + 1 | none => n + 1
theorem goO_le (lt : α → α → Bool) (b : α) (l : List α) : ∀ n, goO lt b l n ≤ n
  | 0 => Nat.le_refl _
  | n + 1 => by
    rw [goO]
    split
    · split
      · exact Nat.le_succ_of_le (goO_le lt b l n)
      · exact Nat.le_refl _
    · exact Nat.le_refl _
theorem goO_spec {b : α} {l : List α} : ∀ (n : Nat), n ≤ l.length → (∀ j x, goO lt b l n ≤ j → j < n → l[j]? = some x → lt b x = true) ∧ (∀ j x, j + 1 = goO lt b l n → l[j]? = some x → lt b x = false)
  | 0, _ => ⟨fun j x _ h => by omega, fun j x h => by simp [goO] at h⟩
  | n + 1, hn => by
    obtain ⟨y, hy, _⟩ := od_some (l := l) (i := n) (by omega)
    have he : goO lt b l (n + 1) = if lt b y then goO lt b l n else n + 1 := by rw [goO, hy]
    cases h : lt b y with
    | true =>
      rw [he, h, if_pos rfl]
      obtain ⟨h1, h2⟩ := goO_spec (b := b) (l := l) n (by omega)
      refine ⟨fun j x hj hjn hx => ?_, h2⟩
      by_cases e : j = n
      · subst e; rw [hy] at hx; cases hx; exact h
      · exact h1 j x hj (by omega) hx
    | false =>
      rw [he, h, if_neg (by simp)]
      refine ⟨fun j x hj hjn => by omega, fun j x hj hx => ?_⟩
      have : j = n := by omega
      subst this
      rw [hy] at hx; cases hx
      exact h
def isO (lt : α → α → Bool) (l : List α) (c : α) : Nat → Bool
  | 0 => false
  | n + 1 => match l[n]? with
    | some x => !lt x c && !lt c x
    | none => false
def putO (lt : α → α → Bool) (l : List α) (c : α) : List α := if isO lt l c (goO lt c l l.length) = true then l else l.take (goO lt c l l.length) ++ c :: l.drop (goO lt c l l.length)
theorem putO_memL {l : List α} {c x : α} (h : x ∈ putO lt l c) : x ∈ l ∨ x = c := by
  unfold putO at h
  split at h
  · exact .inl h
  · simp only [List.mem_append, List.mem_cons] at h
    rcases h with h | h | h
    · exact .inl (List.mem_of_mem_take h)
    · exact .inr h
    · exact .inl (List.mem_of_mem_drop h)
theorem TO.isO_eq [DecidableEq α] (T : TO lt ok) {l : List α} {c : α} {n : Nat} (hl : ∀ x ∈ l, ok x) (hc : ok c) (h : isO lt l c n = true) : c ∈ l := by
  cases n with
  | zero => cases h
  | succ n =>
    rw [isO] at h
    split at h
    · rename_i x hx
      have hm : x ∈ l := List.mem_of_getElem? hx
      by_cases e : x = c
      · rw [← e]; exact hm
      · simp only [Bool.and_eq_true, Bool.not_eq_true'] at h
        rcases T.tot (hl x hm) hc e with h3 | h3
        · rw [h.1] at h3; cases h3
        · rw [h.2] at h3; cases h3
    · cases h
theorem TO.putO_strict [DecidableEq α] (T : TO lt ok) {l : List α} {b : α} (hok : ∀ x ∈ l, ok x) (okb : ok b) (h : l.Pairwise fun a b => lt a b = true) : (putO lt l b).Pairwise (fun a b => lt a b = true) ∧ ∀ x, x ∈ putO lt l b ↔ x ∈ l ∨ x = b := by
  have hsub : ∀ {x}, x ∈ putO lt l b → x ∈ l ∨ x = b := putO_memL
  obtain ⟨h1, h2⟩ := goO_spec (lt := lt) (b := b) (l := l) l.length (Nat.le_refl _)
  have hle := goO_le lt b l l.length
  unfold putO at hsub ⊢
  by_cases his : isO lt l b (goO lt b l l.length) = true
  · rw [if_pos his]
    exact ⟨h, fun x => ⟨.inl, fun h2 => h2.elim id fun e => e ▸ T.isO_eq hok okb his⟩⟩
  · rw [if_neg his] at hsub ⊢
    have hne : ∀ z, l[goO lt b l l.length - 1]? = some z → 0 < goO lt b l l.length → z ≠ b := fun z hz h0 e => by
      apply his
      obtain ⟨k, hk⟩ : ∃ k, goO lt b l l.length = k + 1 := ⟨goO lt b l l.length - 1, by omega⟩
      rw [hk] at hz ⊢
      rw [isO]
      simp only [Nat.add_sub_cancel] at hz
      rw [hz]
      subst e
      simp [T.irr]
    generalize goO lt b l l.length = g at *
    have hd : ∀ y ∈ l.drop g, lt b y = true := fun y hy => by
      obtain ⟨j, hj⟩ := List.getElem?_of_mem hy
      rw [List.getElem?_drop] at hj
      exact h1 (g + j) y (by omega) (List.getElem?_eq_some_iff.1 hj).1 hj
    have ht : ∀ y ∈ l.take g, lt y b = true := fun y hy => by
      obtain ⟨j, hj⟩ := List.getElem?_of_mem hy
      rw [List.getElem?_take] at hj
      split at hj
      · rename_i hjg
        obtain ⟨z, hz, hzm⟩ := od_some (l := l) (i := g - 1) (by omega)
        have hzb := h2 (g - 1) z (by omega) hz
        have hzb2 : lt z b = true := by
          rcases T.tot (hok z hzm) okb (hne z hz (by omega)) with h3 | h3
          · exact h3
          · rw [hzb] at h3; cases h3
        by_cases e : j = g - 1
        · subst e
          rw [hz] at hj; cases hj
          exact hzb2
        · obtain ⟨a1, a2⟩ := List.getElem?_eq_some_iff.1 hj
          obtain ⟨b1, b2⟩ := List.getElem?_eq_some_iff.1 hz
          have := (List.pairwise_iff_getElem.1 h) j (g - 1) a1 b1 (by omega)
          rw [a2, b2] at this
          exact T.trans this hzb2
      · cases hj
    refine ⟨?_, fun x => ⟨hsub, fun hx => ?_⟩⟩
    · rw [List.pairwise_append, List.pairwise_cons]
      refine ⟨h.sublist (List.take_sublist _ _), ⟨hd, h.sublist (List.drop_sublist _ _)⟩, fun a ha c hc => ?_⟩
      rcases List.mem_cons.1 hc with e | e
      · rw [e]; exact ht a ha
      · exact T.trans (ht a ha) (hd c e)
    · have e : x ∈ l ↔ x ∈ l.take g ∨ x ∈ l.drop g := by rw [← List.mem_append, List.take_append_drop]
      rw [List.mem_append, List.mem_cons]
      rcases hx with hx | hx
      · rcases e.1 hx with hx | hx
        · exact .inl hx
        · exact .inr (.inr hx)
      · exact .inr (.inl hx)
theorem TO.puts_strict [DecidableEq α] (T : TO lt ok) : ∀ (m w : List α), (∀ x ∈ m, ok x) → (∀ x ∈ w, ok x) → w.Pairwise (fun a b => lt a b = true) → (m.foldl (putO lt) w).Pairwise (fun a b => lt a b = true) ∧ ∀ x, x ∈ m.foldl (putO lt) w ↔ x ∈ w ∨ x ∈ m
  | [], w, _, _, h => ⟨h, fun x => by simp⟩
  | b :: m, w, hm, hw, h => by
    obtain ⟨p1, p2⟩ := T.putO_strict hw (hm b (by simp)) h
    obtain ⟨h1, h2⟩ := T.puts_strict m (putO lt w b) (fun x hx => hm x (by simp [hx])) (fun x hx => ((p2 x).1 hx).elim (hw x) fun e => e ▸ hm b (by simp)) p1
    refine ⟨h1, fun x => ?_⟩
    rw [List.foldl_cons, h2, p2, List.mem_cons]
    exact ⟨fun h => h.elim (fun h => h.elim .inl fun h => .inr (.inl h)) fun h => .inr (.inr h), fun h => h.elim (fun h => .inl (.inl h)) fun h => h.elim (fun h => .inl (.inr h)) .inr⟩
theorem TO.order_puts [DecidableEq α] (T : TO lt ok) {m : List α} (hok : ∀ x ∈ m, ok x) : orderO lt m = m.foldl (putO lt) [] := by
  obtain ⟨h1, h2⟩ := T.puts_strict m [] hok (fun x h => by cases h) List.Pairwise.nil
  refine T.strict_ext (T.order_strict hok) h1 fun x => ?_
  rw [orderO_mem, h2]
  simp
end
end Go.Proofs.YtjbcfpkibnhodaaGreatDoor.Ab
