/-
  core.Kind, eval.Value; the law's example. No claim is proved here.
-/
import Derived.Test.YtdfdiglnpekcpabDoorWFit2
namespace Go.Proofs.YtdfdiglnpekcpabDoor.Ab
open Nat renaming reduceAdd → zq0, reduceSub → zq1, reduceMul → zq2, reduceLT → zq3, reduceLeDiff → zq4, reduceEqDiff → zq5, reduceBEq → zq6
open Int renaming reduceNeg → zq7, reduceAdd → zq8, reduceLT → zq9, reduceLE → zq10, reduceToNat → zq11, reduceEq → zq12, reduceNe → zq13, reduceBEq → zq14, reduceBNe → zq15, reduceMul → zq16, reduceSub → zq17
open Go Go.RowKit
set_option linter.unusedSimpArgs false
set_option maxHeartbeats 4000000
set_option maxRecDepth 100000
variable {G : Nat → Option AV}
def kindS (q : QeaT) (n : Int) : Int := match at? (exprs q) n with | some e => e.kind | none => 0
theorem core_Kind_pc (q : QeaT) (hl : q.nodes.length ≤ 1000000) (n : Int) : PureC Tryd.prog G n_core_Kind [qeaV q, iv n] (iv (kindS q n)) := by
  have hlen := exL_length q q.nodes.length (Nat.le_refl _)
  have hlen' : (exprs q).length = q.nodes.length := hlen
  have hx := core_exprs_pc (G := G) q hl
  simp only [qeaV, declsV, quantsV, freesV, statesV, symsV, nodesV, transsV] at hx
  refine pc_core_Kind (Runs.of fun Φ h => ?_)
  unfold c_core_Kind
  unfold kindS at h
  cases hat : at? (exprs q) n with
  | none =>
    rw [hat] at h
    dsimp only at h
    rcases at?_none hat with h1 | h1
    · have e1 : (n < 0) = True := by simp; exact h1
      (try (simp -implicitDefEqProofs only [go_sem, zq0, zq1, zq2, zq3, zq4, zq5, zq6, zq7, zq8, zq9, zq10, zq11, zq12, zq13, zq14, zq15, zq16, zq17, reduceIte, reduceCtorEq, qeaV, declsV, quantsV, freesV, statesV, symsV, nodesV, transsV, List.length_map, e1, decide_true])); repeat' ((first | refine at_guard (fun hb => ?_) (fun hb => ?_) | refine ⟨fun hb => ?_, fun hb => ?_⟩ | fail) <;> (try (simp -implicitDefEqProofs only [go_sem, zq0, zq1, zq2, zq3, zq4, zq5, zq6, zq7, zq8, zq9, zq10, zq11, zq12, zq13, zq14, zq15, zq16, zq17, reduceIte, reduceCtorEq, qeaV, declsV, quantsV, freesV, statesV, symsV, nodesV, transsV, List.length_map, e1, decide_true])))
      exact h _ ⟨_, _, rfl, rfl, .refl _⟩
    · have e1 : (n < 0) = False := by simp; omega
      have e2 : ((q.nodes.length : Int) ≤ n) = True := by simp; omega
      (try (simp -implicitDefEqProofs only [go_sem, zq0, zq1, zq2, zq3, zq4, zq5, zq6, zq7, zq8, zq9, zq10, zq11, zq12, zq13, zq14, zq15, zq16, zq17, reduceIte, reduceCtorEq, qeaV, declsV, quantsV, freesV, statesV, symsV, nodesV, transsV, List.length_map, e1, e2, decide_true, decide_false])); repeat' ((first | refine at_guard (fun hb => ?_) (fun hb => ?_) | refine ⟨fun hb => ?_, fun hb => ?_⟩ | fail) <;> (try (simp -implicitDefEqProofs only [go_sem, zq0, zq1, zq2, zq3, zq4, zq5, zq6, zq7, zq8, zq9, zq10, zq11, zq12, zq13, zq14, zq15, zq16, zq17, reduceIte, reduceCtorEq, qeaV, declsV, quantsV, freesV, statesV, symsV, nodesV, transsV, List.length_map, e1, e2, decide_true, decide_false])))
      exact h _ ⟨_, _, rfl, rfl, .refl _⟩
  | some e =>
    rw [hat] at h
    dsimp only at h
    obtain ⟨i, rfl, hi⟩ := at?_some hat
    have hlt := (List.getElem?_eq_some_iff.1 hi).1
    have e1 : ((i : Int) < 0) = False := by simp
    have e2 : ((q.nodes.length : Int) ≤ i) = False := by simp; omega
    (try (simp -implicitDefEqProofs only [go_sem, zq0, zq1, zq2, zq3, zq4, zq5, zq6, zq7, zq8, zq9, zq10, zq11, zq12, zq13, zq14, zq15, zq16, zq17, reduceIte, reduceCtorEq, qeaV, declsV, quantsV, freesV, statesV, symsV, nodesV, transsV, List.length_map, e1, e2, decide_false, aiaddr_map hi, exV])); repeat' ((first | refine at_guard (fun hb => ?_) (fun hb => ?_) | refine ⟨fun hb => ?_, fun hb => ?_⟩ | refine at_call (hx) rfl rfl ?_ | fail) <;> (try (simp -implicitDefEqProofs only [go_sem, zq0, zq1, zq2, zq3, zq4, zq5, zq6, zq7, zq8, zq9, zq10, zq11, zq12, zq13, zq14, zq15, zq16, zq17, reduceIte, reduceCtorEq, qeaV, declsV, quantsV, freesV, statesV, symsV, nodesV, transsV, List.length_map, e1, e2, decide_false, aiaddr_map hi, exV])))
    exact h _ ⟨_, _, rfl, rfl, .refl _⟩
theorem eval_Value_pc (hG : errG G) {q : QeaT} {b : List SlotT} {vals : List Val} (hql : q.nodes.length ≤ 1000000) (hS : Safe q (KindAt q)) (hE : Env q b vals) (hf : fitsR vals q.frees = true) (hl : q.frees.length < 9223372036854775807) (i : Nat) (hi : KindAt q i) :
    PureC Tryd.prog G n_eval_Value [qeaV q, iv i, slotsV b, valsV vals] (vt (ev q b vals i)) := by
  have hfc := eval_Fits_pc (G := G) q vals (by have := hE.vl; omega) hl
  rw [hf] at hfc
  have hkc := core_Kind_pc (G := G) q hql i
  have hk0 : (kindS q i == 0) = false := by
    obtain ⟨e, he, hk⟩ := hi
    unfold kindS
    rw [at?_nat he]
    simpa using hk
  have hr := run_pc (node_pc hS hE i hi (G := G))
  have hok := ev_ok hS hE i hi
  have her := errno_ev hG hok
  have hno := hok.none
  generalize ev q b vals i = r at *
  obtain ⟨⟨k, n, s, bt⟩, e⟩ := r
  dsimp only at hr her hno ⊢
  simp only [qeaV, declsV, quantsV, freesV, statesV, symsV, nodesV, transsV, slotsV, valsV] at hfc hkc
  by_cases h0 : e = 0
  · subst h0
    have hr2 := hr.1 rfl
    have her2 := errno_nil_pc (G := G)
    clear hr her hno
    simp only [valV, frameV, qeaV, declsV, quantsV, freesV, statesV, symsV, nodesV, transsV, slotsV, valsV] at hr2
    refine pc_eval_Value (Runs.of fun Φ h => ?_)
    unfold c_eval_Value
    (try (simp -implicitDefEqProofs only [go_sem, zq0, zq1, zq2, zq3, zq4, zq5, zq6, zq7, zq8, zq9, zq10, zq11, zq12, zq13, zq14, zq15, zq16, zq17, reduceIte, reduceCtorEq, qeaV, declsV, quantsV, freesV, statesV, symsV, nodesV, transsV, valsV, slotsV, hk0])); repeat' ((first | refine at_guard (fun hb => ?_) (fun hb => ?_) | refine ⟨fun hb => ?_, fun hb => ?_⟩ | refine at_call (hfc) rfl rfl ?_ | refine at_call (hkc) rfl rfl ?_ | refine at_call (hr2) rfl rfl ?_ | refine at_call (her2) rfl rfl ?_ | fail) <;> (try (simp -implicitDefEqProofs only [go_sem, zq0, zq1, zq2, zq3, zq4, zq5, zq6, zq7, zq8, zq9, zq10, zq11, zq12, zq13, zq14, zq15, zq16, zq17, reduceIte, reduceCtorEq, qeaV, declsV, quantsV, freesV, statesV, symsV, nodesV, transsV, valsV, slotsV, hk0])))
    exact h _ ⟨_, _, rfl, rfl, .refl _⟩
  · obtain ⟨a, hr2⟩ := hr.2 h0
    have her2 := her h0 a
    have hno2 := hno h0
    clear hr her hno
    simp only [Val.mk.injEq] at hno2
    obtain ⟨rfl, rfl, rfl, rfl⟩ := hno2
    simp only [valV, frameV, qeaV, declsV, quantsV, freesV, statesV, symsV, nodesV, transsV, slotsV, valsV, wrongV] at hr2 her2
    refine pc_eval_Value (Runs.of fun Φ h => ?_)
    unfold c_eval_Value
    (try (simp -implicitDefEqProofs only [go_sem, zq0, zq1, zq2, zq3, zq4, zq5, zq6, zq7, zq8, zq9, zq10, zq11, zq12, zq13, zq14, zq15, zq16, zq17, reduceIte, reduceCtorEq, qeaV, declsV, quantsV, freesV, statesV, symsV, nodesV, transsV, valsV, slotsV, hk0])); repeat' ((first | refine at_guard (fun hb => ?_) (fun hb => ?_) | refine ⟨fun hb => ?_, fun hb => ?_⟩ | refine at_call (hfc) rfl rfl ?_ | refine at_call (hkc) rfl rfl ?_ | refine at_call (hr2) rfl rfl ?_ | refine at_call (her2) rfl rfl ?_ | fail) <;> (try (simp -implicitDefEqProofs only [go_sem, zq0, zq1, zq2, zq3, zq4, zq5, zq6, zq7, zq8, zq9, zq10, zq11, zq12, zq13, zq14, zq15, zq16, zq17, reduceIte, reduceCtorEq, qeaV, declsV, quantsV, freesV, statesV, symsV, nodesV, transsV, valsV, slotsV, hk0])))
    exact h _ ⟨_, _, rfl, rfl, .refl _⟩
def vN (n : Int) : Val := ⟨1, n, [], false⟩
def nodesA : List NodeT := [⟨3, 0, 0, v0⟩, ⟨1, 0, 0, vN 0⟩, ⟨13, 0, 1, v0⟩, ⟨1, 0, 0, vN 1⟩, ⟨1, 0, 0, vN 7⟩, ⟨3, 0, 0, v0⟩, ⟨11, 4, 5, v0⟩, ⟨15, 3, 6, v0⟩, ⟨7, 2, 7, v0⟩]
def qA : QeaT := ⟨[113], [⟨[97], []⟩], [], [⟨[102], vN 1⟩], [⟨[115], false, false⟩], 0, [⟨0, []⟩], nodesA, [⟨0, 0, 0, 8, []⟩]⟩
theorem evA : ev qA [] [vN 0] 8 = (⟨3, 0, [], true⟩, 0) ∧ ev qA [] [vN 0] 6 = (v0, 7) := by
  have e0 : ev qA [] [vN 0] 0 = (vN 0, 0) := by rw [ev_at (x := ⟨3, 0, 0, v0⟩) rfl]; rfl
  have e1 : ev qA [] [vN 0] 1 = (vN 0, 0) := by rw [ev_at (x := ⟨1, 0, 0, vN 0⟩) rfl]; rfl
  have e4 : ev qA [] [vN 0] 4 = (vN 7, 0) := by rw [ev_at (x := ⟨1, 0, 0, vN 7⟩) rfl]; rfl
  have e5 : ev qA [] [vN 0] 5 = (vN 0, 0) := by rw [ev_at (x := ⟨3, 0, 0, v0⟩) rfl]; rfl
  have e2 : ev qA [] [vN 0] 2 = (⟨3, 0, [], true⟩, 0) := by
    rw [ev_bin (x := ⟨13, 0, 1, v0⟩) (j := 0) (k := 1) rfl (by decide) rfl rfl (by decide) (by decide), e0, e1]
    decide
  have e6 : ev qA [] [vN 0] 6 = (v0, 7) := by
    rw [ev_bin (x := ⟨11, 4, 5, v0⟩) (j := 4) (k := 5) rfl (by decide) rfl rfl (by decide) (by decide), e4, e5]
    decide
  refine ⟨?_, e6⟩
  rw [ev_bin (x := ⟨7, 2, 7, v0⟩) (j := 2) (k := 7) rfl (by decide) rfl rfl (by decide) (by decide), e2]
  generalize ev qA [] [vN 0] 7 = r
  rfl
theorem kindA : KindAt qA 8 ∧ KindAt qA 6 := ⟨⟨⟨3, 4, 0⟩, by decide, by decide⟩, ⟨⟨1, 2, 4⟩, by decide, by decide⟩⟩
theorem envA : Env qA [] [vN 0] := ⟨by decide, fun s hs => (by cases hs), rfl, fun v hv => by
  simp only [List.mem_singleton] at hv
  subst hv
  exact ⟨rfl, by unfold i64 vN; decide⟩, by decide⟩
theorem safeA : Safe qA (KindAt qA) := safe_of qA fun x hx => by
  have : ∀ x ∈ nodesA, decide (-9223372036854775808 ≤ x.value.int ∧ x.value.int < 9223372036854775808) = true := by decide
  have := this x hx
  unfold i64
  simpa using this
/-- The example's automaton as it is built. -/
def qAV : AV := .agg [.str [113], .seq 2 [.agg [.str [97], .nils]], .nils, .seq 5 [.agg [.str [102], iv 1, iv 1, .str [], .bool false]], .seq 3 [.agg [.str [115], .bool false, .bool false]], iv 0, .seq 2 [.agg [iv 0, .nils]], .seq 7 (nodesA.map nodeV), .seq 5 [.agg [iv 0, iv 0, iv 0, iv 8, .nils]]]
theorem qAV_fit : Fit2 qAV (qeaV qA) := by
  have nil2 : ∀ (c : AV) (sz : Nat), Fit2 (.agg [c, .nils]) (.agg [c, .seq sz []]) := fun c sz => .agg _ _ rfl fun j a b ha hb => by
    match j, ha, hb with
    | 0, ha, hb => cases ha; cases hb; exact .refl _
    | 1, ha, hb => cases ha; cases hb; exact .nil _
  refine .agg _ _ rfl fun j a b ha hb => ?_
  match j, ha, hb with
  | 0, ha, hb => cases ha; cases hb; exact .refl _
  | 1, ha, hb =>
    cases ha; cases hb
    refine .seq _ _ _ rfl (fun f hf => by simp [declV, qA] at hf; subst hf; rfl) fun k e f he hf => ?_
    match k, he, hf with
    | 0, he, hf => cases he; cases hf; exact nil2 _ _
  | 2, ha, hb => cases ha; cases hb; exact .nil _
  | 3, ha, hb => cases ha; cases hb; exact .refl _
  | 4, ha, hb => cases ha; cases hb; exact .refl _
  | 5, ha, hb => cases ha; cases hb; exact .refl _
  | 6, ha, hb =>
    cases ha; cases hb
    refine .seq _ _ _ rfl (fun f hf => by simp [symV, qA] at hf; subst hf; rfl) fun k e f he hf => ?_
    match k, he, hf with
    | 0, he, hf => cases he; cases hf; exact nil2 _ _
  | 7, ha, hb => cases ha; cases hb; exact .refl _
  | 8, ha, hb =>
    cases ha; cases hb
    refine .seq _ _ _ rfl (fun f hf => by simp [transV, qA] at hf; subst hf; rfl) fun k e f he hf => ?_
    match k, he, hf with
    | 0, he, hf =>
      cases he; cases hf
      refine .agg _ _ rfl fun j a b ha hb => ?_
      match j, ha, hb with
      | 0, ha, hb => cases ha; cases hb; exact .refl _
      | 1, ha, hb => cases ha; cases hb; exact .refl _
      | 2, ha, hb => cases ha; cases hb; exact .refl _
      | 3, ha, hb => cases ha; cases hb; exact .refl _
      | 4, ha, hb => cases ha; cases hb; exact .nil _
theorem fit4 (n : Nat) (j : Nat) (c d : AV) (hc : [qAV, iv n, .nils, valsV [vN 0]][j]? = some c) (hd : [qeaV qA, iv n, slotsV [], valsV [vN 0]][j]? = some d) : Fit2 c d := by
  match j, hc, hd with
  | 0, hc, hd => cases hc; cases hd; exact qAV_fit
  | 1, hc, hd => cases hc; cases hd; exact .refl _
  | 2, hc, hd => cases hc; cases hd; exact .nil _
  | 3, hc, hd => cases hc; cases hd; exact .refl _
theorem law16_awake_pc (hG : errG G) : PureC Tryd.prog G n_proctorlaw16_awake [] (.bool true) := by
  have h1 := PureC.fit2 (P := Tryd.prog) (f := n_eval_Guard) (args := [qAV, iv ((0 : Nat) : Int), .nils, valsV [vN 0]]) (args' := [qeaV qA, iv ((0 : Nat) : Int), slotsV [], valsV [vN 0]]) rfl (fit4 0) (eval_Guard_pc hG safeA envA (by decide) (by decide) 0 ⟨0, 0, 0, 8, []⟩ rfl (fun _ => kindA.1))
  have h2 := PureC.fit2 (P := Tryd.prog) (f := n_eval_Value) (args := [qAV, iv ((6 : Nat) : Int), .nils, valsV [vN 0]]) (args' := [qeaV qA, iv ((6 : Nat) : Int), slotsV [], valsV [vN 0]]) rfl (fit4 6) (eval_Value_pc hG (by decide) safeA envA (by decide) (by decide) 6 kindA.2)
  rw [evA.2] at h2
  have hg : guardR qA [] [vN 0] ⟨0, 0, 0, 8, []⟩ = (true, 0) := by
    unfold guardR
    rw [if_neg (by decide)]
    show ((ev qA [] [vN 0] 8).1.bool, (ev qA [] [vN 0] 8).2) = _
    rw [evA.1]
  rw [hg] at h1
  rw [show ((0 : Nat) : Int) = 0 from rfl] at h1
  rw [show ((6 : Nat) : Int) = 6 from rfl] at h2
  refine pc_proctorlaw16_awake fun c hc => Runs.of fun Φ h => ?_
  subst hc
  unfold c_proctorlaw16_awake
  unfold qAV at h1 h2
  simp only [nodesA, nodeV, vN, valsV, valV, vt, List.map_cons, List.map_nil] at h1 h2
  (try (simp -implicitDefEqProofs only [go_sem, zq0, zq1, zq2, zq3, zq4, zq5, zq6, zq7, zq8, zq9, zq10, zq11, zq12, zq13, zq14, zq15, zq16, zq17, reduceIte, reduceCtorEq])); repeat' ((first | refine at_guard (fun hb => ?_) (fun hb => ?_) | refine ⟨fun hb => ?_, fun hb => ?_⟩ | refine at_call (h1) rfl rfl ?_ | refine at_call (h2) rfl rfl ?_ | fail) <;> (try (simp -implicitDefEqProofs only [go_sem, zq0, zq1, zq2, zq3, zq4, zq5, zq6, zq7, zq8, zq9, zq10, zq11, zq12, zq13, zq14, zq15, zq16, zq17, reduceIte, reduceCtorEq])))
  exact h _ ⟨_, _, rfl, rfl, .refl _⟩
end Go.Proofs.YtdfdiglnpekcpabDoor.Ab
