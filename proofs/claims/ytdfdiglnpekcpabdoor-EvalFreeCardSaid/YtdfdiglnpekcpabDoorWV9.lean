/-
  eval.Guard, proctorref16.Guard. No claim is proved here.
-/
import Derived.Test.YtdfdiglnpekcpabDoorWK6
namespace Go.Proofs.YtdfdiglnpekcpabDoor.Ab
open Nat renaming reduceAdd → zq0, reduceSub → zq1, reduceMul → zq2, reduceLT → zq3, reduceLeDiff → zq4, reduceEqDiff → zq5, reduceBEq → zq6
open Int renaming reduceNeg → zq7, reduceAdd → zq8, reduceLT → zq9, reduceLE → zq10, reduceToNat → zq11, reduceEq → zq12, reduceNe → zq13, reduceBEq → zq14, reduceBNe → zq15, reduceMul → zq16, reduceSub → zq17
open Go Go.RowKit
set_option linter.unusedSimpArgs false
set_option maxHeartbeats 4000000
set_option maxRecDepth 100000
variable {G : Nat → Option AV}
/-- What errno makes of what an expression comes to. -/
theorem errno_ev (hG : errG G) {r : Val × Int} (h : ROk r) (h0 : ¬ r.2 = 0) (a : Int) : PureC Tryd.prog G n_eval_errno [wrongV a r.2] (iv r.2) := by
  rcases h with ⟨h1, _⟩ | ⟨_, h1⟩
  · exact absurd h1 h0
  · exact errno_pc hG a r.2 h1
theorem ROk.none {r : Val × Int} (h : ROk r) (h0 : ¬ r.2 = 0) : r.1 = v0 := by
  rcases h with ⟨h1, _⟩ | ⟨h1, _⟩
  · exact absurd h1 h0
  · exact h1
def guardR (q : QeaT) (b : List SlotT) (vals : List Val) (t : TransT) : Bool × Int := if t.guard < 0 then (true, 0) else ((ev q b vals t.guard.toNat).1.bool, (ev q b vals t.guard.toNat).2)
theorem eval_Guard_pc (hG : errG G) {q : QeaT} {b : List SlotT} {vals : List Val} {S : Nat → Prop} (hS : Safe q S) (hE : Env q b vals) (hf : fitsR vals q.frees = true) (hl : q.frees.length < 9223372036854775807) (j : Nat) (t : TransT) (ht : q.trans[j]? = some t) (hs : 0 ≤ t.guard → S t.guard.toNat) :
    PureC Tryd.prog G n_eval_Guard [qeaV q, iv j, slotsV b, valsV vals] (.tup [.bool (guardR q b vals t).1, iv (guardR q b vals t).2]) := by
  have hfc := eval_Fits_pc (G := G) q vals (by have := hE.vl; omega) hl
  rw [hf] at hfc
  have hlt := (List.getElem?_eq_some_iff.1 ht).1
  have e1 : ((j : Int) < 0) = False := by simp
  have e2 : ((q.trans.length : Int) ≤ j) = False := by simp; omega
  simp only [qeaV, declsV, quantsV, freesV, statesV, symsV, nodesV, transsV, valsV] at hfc
  obtain ⟨t1, t2, t3, g, sets⟩ := t
  dsimp only at hs
  unfold guardR
  dsimp only
  by_cases hg : g < 0
  · rw [if_pos hg]
    have e3 : (g < 0) = True := by simp; exact hg
    refine pc_eval_Guard (Runs.of fun Φ h => ?_)
    unfold c_eval_Guard
    (try (simp -implicitDefEqProofs only [go_sem, zq0, zq1, zq2, zq3, zq4, zq5, zq6, zq7, zq8, zq9, zq10, zq11, zq12, zq13, zq14, zq15, zq16, zq17, reduceIte, reduceCtorEq, qeaV, declsV, quantsV, freesV, statesV, symsV, nodesV, transsV, valsV, slotsV, List.length_map, e1, e2, e3, decide_false, decide_true, aiaddr_map ht, transV, setsV])); repeat' ((first | refine at_guard (fun hb => ?_) (fun hb => ?_) | refine ⟨fun hb => ?_, fun hb => ?_⟩ | refine at_call (hfc) rfl rfl ?_ | fail) <;> (try (simp -implicitDefEqProofs only [go_sem, zq0, zq1, zq2, zq3, zq4, zq5, zq6, zq7, zq8, zq9, zq10, zq11, zq12, zq13, zq14, zq15, zq16, zq17, reduceIte, reduceCtorEq, qeaV, declsV, quantsV, freesV, statesV, symsV, nodesV, transsV, valsV, slotsV, List.length_map, e1, e2, e3, decide_false, decide_true, aiaddr_map ht, transV, setsV])))
    exact h _ ⟨_, _, rfl, rfl, .refl _⟩
  · rw [if_neg hg]
    have e3 : (g < 0) = False := by simp; omega
    obtain ⟨i, rfl⟩ : ∃ i : Nat, g = i := ⟨g.toNat, by omega⟩
    rw [Int.toNat_natCast] at hs ⊢
    have hi := hs (by omega)
    have hr := run_pc (node_pc hS hE i hi (G := G))
    have hok := ev_ok hS hE i hi
    have her := errno_ev hG hok
    have hno := hok.none
    generalize ev q b vals i = r at *
    obtain ⟨⟨k, n, s, bt⟩, e⟩ := r
    dsimp only at hr her hno ⊢
    by_cases h0 : e = 0
    · subst h0
      have hr := hr.1 rfl
      have her := errno_nil_pc (G := G)
      simp only [valV, frameV, qeaV, declsV, quantsV, freesV, statesV, symsV, nodesV, transsV, slotsV, valsV] at hr
      refine pc_eval_Guard (Runs.of fun Φ h => ?_)
      unfold c_eval_Guard
      (try (simp -implicitDefEqProofs only [go_sem, zq0, zq1, zq2, zq3, zq4, zq5, zq6, zq7, zq8, zq9, zq10, zq11, zq12, zq13, zq14, zq15, zq16, zq17, reduceIte, reduceCtorEq, qeaV, declsV, quantsV, freesV, statesV, symsV, nodesV, transsV, valsV, slotsV, List.length_map, e1, e2, e3, decide_false, aiaddr_map ht, transV, setsV])); repeat' ((first | refine at_guard (fun hb => ?_) (fun hb => ?_) | refine ⟨fun hb => ?_, fun hb => ?_⟩ | refine at_call (hfc) rfl rfl ?_ | refine at_call (hr) rfl rfl ?_ | refine at_call (her) rfl rfl ?_ | fail) <;> (try (simp -implicitDefEqProofs only [go_sem, zq0, zq1, zq2, zq3, zq4, zq5, zq6, zq7, zq8, zq9, zq10, zq11, zq12, zq13, zq14, zq15, zq16, zq17, reduceIte, reduceCtorEq, qeaV, declsV, quantsV, freesV, statesV, symsV, nodesV, transsV, valsV, slotsV, List.length_map, e1, e2, e3, decide_false, aiaddr_map ht, transV, setsV])))
      exact h _ ⟨_, _, rfl, rfl, .refl _⟩
    · obtain ⟨a, hr2⟩ := hr.2 h0
      have her2 := her h0 a
      have hno2 := hno h0
      clear hr her hno
      simp only [Val.mk.injEq] at hno2
      obtain ⟨rfl, rfl, rfl, rfl⟩ := hno2
      simp only [valV, frameV, qeaV, declsV, quantsV, freesV, statesV, symsV, nodesV, transsV, slotsV, valsV, wrongV] at hr2 her2
      refine pc_eval_Guard (Runs.of fun Φ h => ?_)
      unfold c_eval_Guard
      (try (simp -implicitDefEqProofs only [go_sem, zq0, zq1, zq2, zq3, zq4, zq5, zq6, zq7, zq8, zq9, zq10, zq11, zq12, zq13, zq14, zq15, zq16, zq17, reduceIte, reduceCtorEq, qeaV, declsV, quantsV, freesV, statesV, symsV, nodesV, transsV, valsV, slotsV, List.length_map, e1, e2, e3, decide_false, aiaddr_map ht, transV, setsV])); repeat' ((first | refine at_guard (fun hb => ?_) (fun hb => ?_) | refine ⟨fun hb => ?_, fun hb => ?_⟩ | refine at_call (hfc) rfl rfl ?_ | refine at_call (hr2) rfl rfl ?_ | refine at_call (her2) rfl rfl ?_ | fail) <;> (try (simp -implicitDefEqProofs only [go_sem, zq0, zq1, zq2, zq3, zq4, zq5, zq6, zq7, zq8, zq9, zq10, zq11, zq12, zq13, zq14, zq15, zq16, zq17, reduceIte, reduceCtorEq, qeaV, declsV, quantsV, freesV, statesV, symsV, nodesV, transsV, valsV, slotsV, List.length_map, e1, e2, e3, decide_false, aiaddr_map ht, transV, setsV])))
      exact h _ ⟨_, _, rfl, rfl, .refl _⟩
end Go.Proofs.YtdfdiglnpekcpabDoor.Ab
