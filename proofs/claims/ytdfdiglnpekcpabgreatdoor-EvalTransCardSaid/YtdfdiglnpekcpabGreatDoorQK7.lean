/-
  eval.Guard, proctorref16.Guard. slices.Clone: a row of its own. No claim is proved here.
-/
import Derived.Test.YtdfdiglnpekcpabGreatDoorQK6
import Derived.Deep.Cut
import Derived.Outline
import Derived.WalkSpells
namespace Go.Proofs.YtdfdiglnpekcpabGreatDoor.Ab
open Go Go.RowKit
set_option linter.unusedSimpArgs false
set_option maxHeartbeats 4000000
set_option maxRecDepth 100000
variable {G : Nat → Option AV}
/-- What errno makes of what an expression comes to. -/
theorem errno_ev (hG : errG G) {r : Val × Int} (h : ROk r) (h0 : ¬ r.2 = 0) (a : Int) : PureC Tryz.prog G n_eval_errno [wrongV a r.2] (iv r.2) := by
  rcases h with ⟨h1, _⟩ | ⟨_, h1⟩
  · exact absurd h1 h0
  · exact errno_pc hG a r.2 h1
theorem ROk.none {r : Val × Int} (h : ROk r) (h0 : ¬ r.2 = 0) : r.1 = v0 := by
  rcases h with ⟨h1, _⟩ | ⟨h1, _⟩
  · exact absurd h1 h0
  · exact h1
def guardR (q : QeaT) (b : List SlotT) (vals : List Val) (t : TransT) : Bool × Int := if t.guard < 0 then (true, 0) else ((ev q b vals t.guard.toNat).1.bool, (ev q b vals t.guard.toNat).2)
theorem eval_Guard_bad (q : QeaT) (b : List SlotT) (vals : List Val) (hk : vals.length < 9223372036854775807) (hl : q.frees.length < 9223372036854775807) (j : Int) (h : at? q.trans j = none ∨ fitsR vals q.frees = false) : PureC Tryz.prog G n_eval_Guard [qeaV q, iv j, slotsV b, valsV vals] (.tup [.bool false, iv 1]) := by
  have hf := eval_Fits_pc (G := G) q vals hk hl
  refine pc_eval_Guard (Runs.of fun Φ hh => ?_)
  unfold c_eval_Guard
  simp only [qeaV, declsV, quantsV, freesV, statesV, symsV, nodesV, transsV, valsV] at hf
  cases hj : at? q.trans j with
  | none =>
    rcases at?_none hj with h1 | h1
    · have e1 : (j < 0) = True := by simp; exact h1
      (try (simp -implicitDefEqProofs only [go_sem, Nat.reduceAdd, Nat.reduceSub, Nat.reduceMul, Nat.reduceLT, Nat.reduceLeDiff, Nat.reduceEqDiff, Nat.reduceBEq, Int.reduceNeg, Int.reduceAdd, Int.reduceLT, Int.reduceLE, Int.reduceToNat, Int.reduceEq, Int.reduceNe, Int.reduceBEq, Int.reduceBNe, Int.reduceMul, Int.reduceSub, reduceIte, reduceCtorEq, qeaV, declsV, quantsV, freesV, statesV, symsV, nodesV, transsV, valsV, slotsV, e1, decide_true])); repeat' ((first | refine at_guard (fun hb => ?_) (fun hb => ?_) | refine ⟨fun hb => ?_, fun hb => ?_⟩ | fail) <;> (try (simp -implicitDefEqProofs only [go_sem, Nat.reduceAdd, Nat.reduceSub, Nat.reduceMul, Nat.reduceLT, Nat.reduceLeDiff, Nat.reduceEqDiff, Nat.reduceBEq, Int.reduceNeg, Int.reduceAdd, Int.reduceLT, Int.reduceLE, Int.reduceToNat, Int.reduceEq, Int.reduceNe, Int.reduceBEq, Int.reduceBNe, Int.reduceMul, Int.reduceSub, reduceIte, reduceCtorEq, qeaV, declsV, quantsV, freesV, statesV, symsV, nodesV, transsV, valsV, slotsV, e1, decide_true])))
      exact hh _ ⟨_, _, rfl, rfl, .refl _⟩
    · have e1 : (j < 0) = False := by simp; omega
      have e2 : ((q.trans.length : Int) ≤ j) = True := by simp; exact h1
      (try (simp -implicitDefEqProofs only [go_sem, Nat.reduceAdd, Nat.reduceSub, Nat.reduceMul, Nat.reduceLT, Nat.reduceLeDiff, Nat.reduceEqDiff, Nat.reduceBEq, Int.reduceNeg, Int.reduceAdd, Int.reduceLT, Int.reduceLE, Int.reduceToNat, Int.reduceEq, Int.reduceNe, Int.reduceBEq, Int.reduceBNe, Int.reduceMul, Int.reduceSub, reduceIte, reduceCtorEq, qeaV, declsV, quantsV, freesV, statesV, symsV, nodesV, transsV, valsV, slotsV, List.length_map, e1, e2, decide_true, decide_false])); repeat' ((first | refine at_guard (fun hb => ?_) (fun hb => ?_) | refine ⟨fun hb => ?_, fun hb => ?_⟩ | fail) <;> (try (simp -implicitDefEqProofs only [go_sem, Nat.reduceAdd, Nat.reduceSub, Nat.reduceMul, Nat.reduceLT, Nat.reduceLeDiff, Nat.reduceEqDiff, Nat.reduceBEq, Int.reduceNeg, Int.reduceAdd, Int.reduceLT, Int.reduceLE, Int.reduceToNat, Int.reduceEq, Int.reduceNe, Int.reduceBEq, Int.reduceBNe, Int.reduceMul, Int.reduceSub, reduceIte, reduceCtorEq, qeaV, declsV, quantsV, freesV, statesV, symsV, nodesV, transsV, valsV, slotsV, List.length_map, e1, e2, decide_true, decide_false])))
      exact hh _ ⟨_, _, rfl, rfl, .refl _⟩
  | some t =>
    obtain ⟨i, rfl, hi⟩ := at?_some hj
    have hlt := (List.getElem?_eq_some_iff.1 hi).1
    have hff : fitsR vals q.frees = false := by
      rcases h with h | h
      · rw [hj] at h; cases h
      · exact h
    rw [hff] at hf
    have e1 : ((i : Int) < 0) = False := by simp
    have e2 : ((q.trans.length : Int) ≤ i) = False := by simp; omega
    (try (simp -implicitDefEqProofs only [go_sem, Nat.reduceAdd, Nat.reduceSub, Nat.reduceMul, Nat.reduceLT, Nat.reduceLeDiff, Nat.reduceEqDiff, Nat.reduceBEq, Int.reduceNeg, Int.reduceAdd, Int.reduceLT, Int.reduceLE, Int.reduceToNat, Int.reduceEq, Int.reduceNe, Int.reduceBEq, Int.reduceBNe, Int.reduceMul, Int.reduceSub, reduceIte, reduceCtorEq, qeaV, declsV, quantsV, freesV, statesV, symsV, nodesV, transsV, valsV, slotsV, List.length_map, e1, e2, decide_false])); repeat' ((first | refine at_guard (fun hb => ?_) (fun hb => ?_) | refine ⟨fun hb => ?_, fun hb => ?_⟩ | refine at_call (hf) rfl rfl ?_ | fail) <;> (try (simp -implicitDefEqProofs only [go_sem, Nat.reduceAdd, Nat.reduceSub, Nat.reduceMul, Nat.reduceLT, Nat.reduceLeDiff, Nat.reduceEqDiff, Nat.reduceBEq, Int.reduceNeg, Int.reduceAdd, Int.reduceLT, Int.reduceLE, Int.reduceToNat, Int.reduceEq, Int.reduceNe, Int.reduceBEq, Int.reduceBNe, Int.reduceMul, Int.reduceSub, reduceIte, reduceCtorEq, qeaV, declsV, quantsV, freesV, statesV, symsV, nodesV, transsV, valsV, slotsV, List.length_map, e1, e2, decide_false])))
    exact hh _ ⟨_, _, rfl, rfl, .refl _⟩
theorem eval_Guard_pc (hG : errG G) {q : QeaT} {b : List SlotT} {vals : List Val} {S : Nat → Prop} (hS : Safe q S) (hE : Env q b vals) (hf : fitsR vals q.frees = true) (hl : q.frees.length < 9223372036854775807) (j : Nat) (t : TransT) (ht : q.trans[j]? = some t) (hs : 0 ≤ t.guard → S t.guard.toNat) :
    PureC Tryz.prog G n_eval_Guard [qeaV q, iv j, slotsV b, valsV vals] (.tup [.bool (guardR q b vals t).1, iv (guardR q b vals t).2]) := by
  have hfc := eval_Fits_pc (G := G) q vals (by have := hE.vl; omega) hl
  rw [hf] at hfc
  have hlt := (List.getElem?_eq_some_iff.1 ht).1
  have e1 : ((j : Int) < 0) = False := by simp
  have e2 : ((q.trans.length : Int) ≤ j) = False := by simp; omega
  simp only [qeaV, declsV, quantsV, freesV, statesV, symsV, nodesV, transsV, valsV] at hfc
  obtain ⟨t1, t2, t3, g, sets⟩ := t
  dsimp only at hs
  unfold guardR
  dsimp only
  by_cases hg : g < 0
  · rw [if_pos hg]
    have e3 : (g < 0) = True := by simp; exact hg
    refine pc_eval_Guard (Runs.of fun Φ h => ?_)
    unfold c_eval_Guard
    (try (simp -implicitDefEqProofs only [go_sem, Nat.reduceAdd, Nat.reduceSub, Nat.reduceMul, Nat.reduceLT, Nat.reduceLeDiff, Nat.reduceEqDiff, Nat.reduceBEq, Int.reduceNeg, Int.reduceAdd, Int.reduceLT, Int.reduceLE, Int.reduceToNat, Int.reduceEq, Int.reduceNe, Int.reduceBEq, Int.reduceBNe, Int.reduceMul, Int.reduceSub, reduceIte, reduceCtorEq, qeaV, declsV, quantsV, freesV, statesV, symsV, nodesV, transsV, valsV, slotsV, List.length_map, e1, e2, e3, decide_false, decide_true, aiaddr_map ht, transV, setsV])); repeat' ((first | refine at_guard (fun hb => ?_) (fun hb => ?_) | refine ⟨fun hb => ?_, fun hb => ?_⟩ | refine at_call (hfc) rfl rfl ?_ | fail) <;> (try (simp -implicitDefEqProofs only [go_sem, Nat.reduceAdd, Nat.reduceSub, Nat.reduceMul, Nat.reduceLT, Nat.reduceLeDiff, Nat.reduceEqDiff, Nat.reduceBEq, Int.reduceNeg, Int.reduceAdd, Int.reduceLT, Int.reduceLE, Int.reduceToNat, Int.reduceEq, Int.reduceNe, Int.reduceBEq, Int.reduceBNe, Int.reduceMul, Int.reduceSub, reduceIte, reduceCtorEq, qeaV, declsV, quantsV, freesV, statesV, symsV, nodesV, transsV, valsV, slotsV, List.length_map, e1, e2, e3, decide_false, decide_true, aiaddr_map ht, transV, setsV])))
    exact h _ ⟨_, _, rfl, rfl, .refl _⟩
  · rw [if_neg hg]
    have e3 : (g < 0) = False := by simp; omega
    obtain ⟨i, rfl⟩ : ∃ i : Nat, g = i := ⟨g.toNat, by omega⟩
    rw [Int.toNat_natCast] at hs ⊢
    have hi := hs (by omega)
    have hr := run_pc (node_pc hS hE i hi (G := G))
    have hok := ev_ok hS hE i hi
    have her := errno_ev hG hok
    have hno := hok.none
    generalize ev q b vals i = r at *
    obtain ⟨⟨k, n, s, bt⟩, e⟩ := r
    dsimp only at hr her hno ⊢
    by_cases h0 : e = 0
    · subst h0
      have hr := hr.1 rfl
      have her := errno_nil_pc (G := G)
      simp only [valV, frameV, qeaV, declsV, quantsV, freesV, statesV, symsV, nodesV, transsV, slotsV, valsV] at hr
      refine pc_eval_Guard (Runs.of fun Φ h => ?_)
      unfold c_eval_Guard
      (try (simp -implicitDefEqProofs only [go_sem, Nat.reduceAdd, Nat.reduceSub, Nat.reduceMul, Nat.reduceLT, Nat.reduceLeDiff, Nat.reduceEqDiff, Nat.reduceBEq, Int.reduceNeg, Int.reduceAdd, Int.reduceLT, Int.reduceLE, Int.reduceToNat, Int.reduceEq, Int.reduceNe, Int.reduceBEq, Int.reduceBNe, Int.reduceMul, Int.reduceSub, reduceIte, reduceCtorEq, qeaV, declsV, quantsV, freesV, statesV, symsV, nodesV, transsV, valsV, slotsV, List.length_map, e1, e2, e3, decide_false, aiaddr_map ht, transV, setsV])); repeat' ((first | refine at_guard (fun hb => ?_) (fun hb => ?_) | refine ⟨fun hb => ?_, fun hb => ?_⟩ | refine at_call (hfc) rfl rfl ?_ | refine at_call (hr) rfl rfl ?_ | refine at_call (her) rfl rfl ?_ | fail) <;> (try (simp -implicitDefEqProofs only [go_sem, Nat.reduceAdd, Nat.reduceSub, Nat.reduceMul, Nat.reduceLT, Nat.reduceLeDiff, Nat.reduceEqDiff, Nat.reduceBEq, Int.reduceNeg, Int.reduceAdd, Int.reduceLT, Int.reduceLE, Int.reduceToNat, Int.reduceEq, Int.reduceNe, Int.reduceBEq, Int.reduceBNe, Int.reduceMul, Int.reduceSub, reduceIte, reduceCtorEq, qeaV, declsV, quantsV, freesV, statesV, symsV, nodesV, transsV, valsV, slotsV, List.length_map, e1, e2, e3, decide_false, aiaddr_map ht, transV, setsV])))
      exact h _ ⟨_, _, rfl, rfl, .refl _⟩
    · obtain ⟨a, hr2⟩ := hr.2 h0
      have her2 := her h0 a
      have hno2 := hno h0
      clear hr her hno
      simp only [Val.mk.injEq] at hno2
      obtain ⟨rfl, rfl, rfl, rfl⟩ := hno2
      simp only [valV, frameV, qeaV, declsV, quantsV, freesV, statesV, symsV, nodesV, transsV, slotsV, valsV, wrongV] at hr2 her2
      refine pc_eval_Guard (Runs.of fun Φ h => ?_)
      unfold c_eval_Guard
      (try (simp -implicitDefEqProofs only [go_sem, Nat.reduceAdd, Nat.reduceSub, Nat.reduceMul, Nat.reduceLT, Nat.reduceLeDiff, Nat.reduceEqDiff, Nat.reduceBEq, Int.reduceNeg, Int.reduceAdd, Int.reduceLT, Int.reduceLE, Int.reduceToNat, Int.reduceEq, Int.reduceNe, Int.reduceBEq, Int.reduceBNe, Int.reduceMul, Int.reduceSub, reduceIte, reduceCtorEq, qeaV, declsV, quantsV, freesV, statesV, symsV, nodesV, transsV, valsV, slotsV, List.length_map, e1, e2, e3, decide_false, aiaddr_map ht, transV, setsV])); repeat' ((first | refine at_guard (fun hb => ?_) (fun hb => ?_) | refine ⟨fun hb => ?_, fun hb => ?_⟩ | refine at_call (hfc) rfl rfl ?_ | refine at_call (hr2) rfl rfl ?_ | refine at_call (her2) rfl rfl ?_ | fail) <;> (try (simp -implicitDefEqProofs only [go_sem, Nat.reduceAdd, Nat.reduceSub, Nat.reduceMul, Nat.reduceLT, Nat.reduceLeDiff, Nat.reduceEqDiff, Nat.reduceBEq, Int.reduceNeg, Int.reduceAdd, Int.reduceLT, Int.reduceLE, Int.reduceToNat, Int.reduceEq, Int.reduceNe, Int.reduceBEq, Int.reduceBNe, Int.reduceMul, Int.reduceSub, reduceIte, reduceCtorEq, qeaV, declsV, quantsV, freesV, statesV, symsV, nodesV, transsV, valsV, slotsV, List.length_map, e1, e2, e3, decide_false, aiaddr_map ht, transV, setsV])))
      exact h _ ⟨_, _, rfl, rfl, .refl _⟩
theorem ref16_Guard_pc {q : QeaT} {b : List SlotT} {vals : List Val} {S : Nat → Prop} (hS : Safe q S) (hE : Env q b vals) (j : Nat) (t : TransT) (ht : q.trans[j]? = some t) (hs : 0 ≤ t.guard → S t.guard.toNat) :
    PureC Tryz.prog G n_proctorref16_Guard [qeaV q, iv j, slotsV b, valsV vals] (.tup [.bool (guardR q b vals t).1, iv (guardR q b vals t).2]) := by
  obtain ⟨t1, t2, t3, g, sets⟩ := t
  dsimp only at hs
  unfold guardR
  dsimp only
  by_cases hg : g < 0
  · rw [if_pos hg]
    have e3 : (g < 0) = True := by simp; exact hg
    refine pc_proctorref16_Guard (Runs.of fun Φ h => ?_)
    unfold c_proctorref16_Guard
    (try (simp -implicitDefEqProofs only [go_sem, Nat.reduceAdd, Nat.reduceSub, Nat.reduceMul, Nat.reduceLT, Nat.reduceLeDiff, Nat.reduceEqDiff, Nat.reduceBEq, Int.reduceNeg, Int.reduceAdd, Int.reduceLT, Int.reduceLE, Int.reduceToNat, Int.reduceEq, Int.reduceNe, Int.reduceBEq, Int.reduceBNe, Int.reduceMul, Int.reduceSub, reduceIte, reduceCtorEq, qeaV, declsV, quantsV, freesV, statesV, symsV, nodesV, transsV, valsV, slotsV, List.length_map, e3, decide_true, aiaddr_map ht, transV, setsV])); repeat' ((first | refine at_guard (fun hb => ?_) (fun hb => ?_) | refine ⟨fun hb => ?_, fun hb => ?_⟩ | fail) <;> (try (simp -implicitDefEqProofs only [go_sem, Nat.reduceAdd, Nat.reduceSub, Nat.reduceMul, Nat.reduceLT, Nat.reduceLeDiff, Nat.reduceEqDiff, Nat.reduceBEq, Int.reduceNeg, Int.reduceAdd, Int.reduceLT, Int.reduceLE, Int.reduceToNat, Int.reduceEq, Int.reduceNe, Int.reduceBEq, Int.reduceBNe, Int.reduceMul, Int.reduceSub, reduceIte, reduceCtorEq, qeaV, declsV, quantsV, freesV, statesV, symsV, nodesV, transsV, valsV, slotsV, List.length_map, e3, decide_true, aiaddr_map ht, transV, setsV])))
    exact h _ ⟨_, _, rfl, rfl, .refl _⟩
  · rw [if_neg hg]
    have e3 : (g < 0) = False := by simp; omega
    obtain ⟨i, rfl⟩ : ∃ i : Nat, g = i := ⟨g.toNat, by omega⟩
    rw [Int.toNat_natCast] at hs ⊢
    have hi := hs (by omega)
    have hr := ref16_Value_pc hS hE i hi (G := G)
    generalize ev q b vals i = r at *
    obtain ⟨⟨k, n, s, bt⟩, e⟩ := r
    unfold vt at hr
    simp only [valV, qeaV, declsV, quantsV, freesV, statesV, symsV, nodesV, transsV, slotsV, valsV] at hr
    refine pc_proctorref16_Guard (Runs.of fun Φ h => ?_)
    unfold c_proctorref16_Guard
    (try (simp -implicitDefEqProofs only [go_sem, Nat.reduceAdd, Nat.reduceSub, Nat.reduceMul, Nat.reduceLT, Nat.reduceLeDiff, Nat.reduceEqDiff, Nat.reduceBEq, Int.reduceNeg, Int.reduceAdd, Int.reduceLT, Int.reduceLE, Int.reduceToNat, Int.reduceEq, Int.reduceNe, Int.reduceBEq, Int.reduceBNe, Int.reduceMul, Int.reduceSub, reduceIte, reduceCtorEq, qeaV, declsV, quantsV, freesV, statesV, symsV, nodesV, transsV, valsV, slotsV, List.length_map, e3, decide_false, aiaddr_map ht, transV, setsV])); repeat' ((first | refine at_guard (fun hb => ?_) (fun hb => ?_) | refine ⟨fun hb => ?_, fun hb => ?_⟩ | refine at_call (hr) rfl rfl ?_ | fail) <;> (try (simp -implicitDefEqProofs only [go_sem, Nat.reduceAdd, Nat.reduceSub, Nat.reduceMul, Nat.reduceLT, Nat.reduceLeDiff, Nat.reduceEqDiff, Nat.reduceBEq, Int.reduceNeg, Int.reduceAdd, Int.reduceLT, Int.reduceLE, Int.reduceToNat, Int.reduceEq, Int.reduceNe, Int.reduceBEq, Int.reduceBNe, Int.reduceMul, Int.reduceSub, reduceIte, reduceCtorEq, qeaV, declsV, quantsV, freesV, statesV, symsV, nodesV, transsV, valsV, slotsV, List.length_map, e3, decide_false, aiaddr_map ht, transV, setsV])))
    exact h _ ⟨_, _, rfl, rfl, .refl _⟩
end Go.Proofs.YtdfdiglnpekcpabGreatDoor.Ab
namespace Go.Proofs.YtdfdiglnpekcpabGreatDoor.Ab
open Go Go.RowKit
set_option linter.unusedSimpArgs false
set_option maxHeartbeats 4000000
set_option maxRecDepth 100000
variable {G : Nat → Option AV}
theorem clone_nil (w : World) (cap : Nat) : Calls Tryz.prog 61 #[.slice none 0 cap] w fun e w' => e = .returned (.slice none 0 0) ∧ w' = w := by
  have hq := fun (w : World) => Lib.run_eql_slice_nil (P := Tryz.prog) w 57 89 none 0 cap 0 0 Tryz.underlying57
  go_enter Tryz.func61, Tryz.ntmps61
  go_wp2
  go_ret
  exact ⟨rfl, rfl⟩
theorem clone_hc (vals : List Val) (hl : vals.length ≤ 1000000) : HeapC Tryz.prog G n_slices_Clone_api_Value_api_Value [valsV vals] [] (.arr 1000 0 vals.length) [(1000, ⟨true, t_api_Value, 4, vals.map valV⟩)] := by
  intro w F nm vs hg ha hB
  obtain ⟨hs, hr⟩ := ha
  obtain ⟨l⟩ := vs
  match l, hs with
  | [v], _ =>
    have h0 := hr 0 _ v rfl rfl
    clear hr
    have key : (∃ cap, v = .slice none 0 cap ∧ vals = []) ∨ ∃ a n cap, v = .slice (some a) n cap := by
      generalize hz : valsV vals = z at h0
      unfold valsV at hz
      cases h0 with
      | seq0 _ _ a cap =>
        cases a with
        | none => simp only [AV.seq.injEq, List.map_eq_nil_iff, true_and] at hz; exact .inl ⟨cap, rfl, hz.2⟩
        | some a => exact .inr ⟨a, 0, cap, rfl⟩
      | seq => exact .inr ⟨_, _, _, rfl⟩
      | _ => cases hz
    rcases key with ⟨cap, rfl, rfl⟩ | ⟨a, n, cap, rfl⟩
    · refine (clone_nil w cap).mono ?_
      rintro e w' ⟨rfl, rfl⟩
      refine ⟨_, F, fun _ => none, rfl, fun _ h => h, fun _ h => .inl h, hg.1, .arrN _ _, ⟨fun i b hi => ?_, fun i j b c m m' _ _ h1 => (by cases h1), fun i b m _ h1 => (by cases h1)⟩, fun i b hi => (by simp [hget] at hi), fun k hk => ?_, ⟨rfl, rfl, rfl, Nat.le_refl _⟩, fun _ _ _ => rfl⟩
      · simp only [hget] at hi
        split at hi
        · cases hi
          exact .inl ⟨rfl, rfl, rfl, by decide⟩
        · cases hi
      · obtain ⟨i, b, m, _, h1, _⟩ := hk
        cases h1
    · have hq := fun (w : World) => Lib.run_eql_slice_nil (P := Tryz.prog) w 57 89 (some a) n cap 0 0 Tryz.underlying57
      have hL : (List.map valV vals).length = vals.length := by simp
      have hrun : run Tryz.prog G (fun _ => False) (.reg [⟨some 5, .mkrow t_api_Value 4 0 (.agg [.int .i64 0, .int .i64 0, .str [], .bool false]) [], none⟩, ⟨some 6, .mov (.t 0), none⟩, ⟨some 7, .app t_api_Value 4 40 (.t 5) (.t 6), none⟩, ⟨some 2, .mov (.t 7), none⟩] [2])
          [.cut fun st => st = ⟨8, [(2, .arr 5 0 vals.length)], [(5, ⟨true, t_api_Value, 4, vals.map valV⟩)]⟩] ⟨8, [(0, valsV vals)], []⟩ := by
        have hb : vals.length * 40 ≤ 140737488355328 := by omega
        (try (simp -implicitDefEqProofs only [go_sem, Nat.reduceAdd, Nat.reduceSub, Nat.reduceMul, Nat.reduceLT, Nat.reduceLeDiff, Nat.reduceEqDiff, Nat.reduceBEq, Int.reduceNeg, Int.reduceAdd, Int.reduceLT, Int.reduceLE, Int.reduceToNat, Int.reduceEq, Int.reduceNe, Int.reduceBEq, Int.reduceBNe, Int.reduceMul, Int.reduceSub, reduceIte, reduceCtorEq, valsV, List.length_map, hb])); repeat' ((first | refine at_guard (fun hb => ?_) (fun hb => ?_) | refine ⟨fun hb => ?_, fun hb => ?_⟩ | fail) <;> (try (simp -implicitDefEqProofs only [go_sem, Nat.reduceAdd, Nat.reduceSub, Nat.reduceMul, Nat.reduceLT, Nat.reduceLeDiff, Nat.reduceEqDiff, Nat.reduceBEq, Int.reduceNeg, Int.reduceAdd, Int.reduceLT, Int.reduceLE, Int.reduceToNat, Int.reduceEq, Int.reduceNe, Int.reduceBEq, Int.reduceBNe, Int.reduceMul, Int.reduceSub, reduceIte, reduceCtorEq, valsV, List.length_map, hb])))
      have hrel : Rel G ⟨w, F, fun _ => False, fun _ => False, nm⟩ ⟨8, [(0, valsV vals)], []⟩ { tmps := #[.slice (some a) n cap, undef, .slice none 0 0, .slice (some a) n cap, .bool false, undef, undef, undef], defers := [] } w := by
        refine ⟨nm, F, rfl, rfl, fun t => ?_, fun i b hi => by simp [hget] at hi, fun i j b c m m' hi => by simp [hget] at hi, fun i b m hi => by simp [hget] at hi, fun i b m hi => by simp [hget] at hi, hg, fun _ h => h, fun _ h => .inl h, ⟨rfl, rfl, rfl, Nat.le_refl _, fun _ _ _ => rfl⟩, fun _ h => h.elim⟩
        simp only [St.get, eget]
        split
        · rename_i e; subst e; exact h0
        · exact .top _ _
      go_enter Tryz.func61, Tryz.ntmps61
      go_upto_region 3 with (fail)
      rename_i K hK
      refine wp_mono (awp_sound _ _ _ _ _ _ (by kernel_rfl) hrun hrel) (fun e a' w' hq => ?_)
      cases e with
      | normal =>
        obtain ⟨st', hst, nm1, F1, hx⟩ := hq
        have hst : st' = ⟨8, [(2, .arr 5 0 vals.length)], [(5, ⟨true, t_api_Value, 4, vals.map valV⟩)]⟩ := hst
        subst hst
        refine hK _ _ (wp_ret (bodyPost_ret (results_tmp rfl _ _ _) hx.df ?_))
        have hv := hx.env 2
        refine ⟨_, F1, fun i => if i = 1000 then nm1 5 else none, rfl, hx.f0, fun b hb => ?_, hx.good.1, ?_, ⟨fun i b hi => ?_, fun i j b c m m' hi hj _ _ _ => ?_, fun i b m hi hm => ?_⟩, fun i b hi => (by simp [hget] at hi), fun k hk => ?_, ⟨hx.keep.os, hx.keep.tape, hx.keep.output, hx.keep.size⟩, fun k hk _ => hx.keep.block k hk (fun h => h)⟩
        · rcases hx.fb b hb with h | h | h
          · exact .inl h
          · exact .inr (.inl h)
          · exact h.elim
        · have hv : Rd w' F1 nm1 (.arr 5 0 vals.length) (a'.tmps.getD 2 undef) := hv
          generalize a'.tmps.getD 2 undef = z at hv ⊢
          generalize hk : vals.length = k at hv ⊢
          cases hv with
          | arr _ _ _ _ m hi hn hp => exact .arr _ _ _ _ m (by simp [hi]) hn hp
          | arrE _ _ _ _ _ h => omega
          | arrN => exact .arrN _ _
        · simp only [hget] at hi
          split at hi
          · rename_i e; subst e; cases hi
            rcases hx.box 5 _ rfl with ⟨h1, h2, h3, h4⟩ | ⟨m, hm, hli⟩
            · exact .inl ⟨by simp [h1], h2, h3, h4⟩
            · refine .inr ⟨m, by simp [hm], ?_⟩
              rcases hli with hli | hli
              · exact .inl hli
              · exact .inr hli
          · cases hi
        · simp only [hget] at hi hj
          split at hi
          · split at hj
            · rename_i e1 e2; rw [← e1, ← e2]
            · cases hj
          · cases hi
        · simp only [hget] at hi
          split at hi
          · rename_i e; subst e
            simp only [if_true] at hm
            exact hx.fr 5 _ m rfl hm
          · cases hi
        · obtain ⟨i, b, m, hi, hm, rfl⟩ := hk
          simp only [hget] at hi
          split at hi
          · rename_i e; subst e
            simp only [if_true] at hm
            rcases hx.own 5 _ m rfl hm with h | h
            · exact .inl h
            · exact h.elim
          · cases hi
      | exit i => obtain ⟨st', h1, _⟩ := hq; exact (h1 : False).elim
      | ret => obtain ⟨st', h1, _⟩ := hq; exact (h1 : False).elim
      | goto l => exact hq.elim
      | panic ch => exact hq.elim
      | outgrown => exact hq.elim
end Go.Proofs.YtdfdiglnpekcpabGreatDoor.Ab
