/-
  core.trans. No claim is proved here.
-/
import Derived.Test.YtdfdiglnpekcpabGreatDoorD12
namespace Go.Proofs.YtdfdiglnpekcpabGreatDoor.Ab
open Go
set_option linter.unusedSimpArgs false
set_option maxHeartbeats 4000000
variable {G : Nat → Option AV}
/-- How long an automaton's lists are. -/
structure QeaT.Few (q : QeaT) : Prop where
  decls : q.decls.length ≤ 1000000
  types : ∀ d ∈ q.decls, d.types.length ≤ 1000000
  quants : q.quants.length ≤ 1000000
  frees : q.frees.length ≤ 1000000
  states : q.states.length ≤ 1000000
  symbols : q.symbols.length ≤ 1000000
  args : ∀ s ∈ q.symbols, s.args.length ≤ 1000000
  nodes : q.nodes.length ≤ 1000000
  trans : q.trans.length ≤ 1000000
  sets : ∀ t ∈ q.trans, t.sets.length ≤ 1000000
theorem core_all_api_Trans_hc (q : QeaT) (l : List ExT) (hq : q.Few) (hn : l.length = q.nodes.length) :
    HeapC Tryz.prog G n_core_all_api_Trans [transsV q.trans, .fn n_core_trans_2 [.ref 1004 0 0, .ref 1001 0 0, .ref 1005 0 0]] [atBox 0, exBox l, whBox, qBox q]
      (.bool (allS (fun a _ t => oneStep q l standsS a t) q.trans 0 0).1) [atBox (allS (fun a _ t => oneStep q l standsS a t) q.trans 0 0).2, exBox l, whBox, qBox q] := by
  have htl := hq.trans
  refine HeapC.of_runs Tryz.func124 k_core_all_api_Trans rfl (by rfl) (RunsH.of fun Φ h => ?_)
  unfold c_core_all_api_Trans
  have fin : ∀ b A heap, allS (fun a _ t => oneStep q l standsS a t) q.trans 0 0 = (b, A) → subH heap [atBox A, exBox l, whBox, qBox q] → Φ ⟨20, [(4, .bool b)], heap⟩ := fun b A heap hw e => h _ ⟨_, _, Weak.refl _, rfl, fitB (by rw [hw]), by rw [hw]; exact e.at⟩
  clear h
  simp -implicitDefEqProofs only [go_sem, Nat.reduceAdd, Nat.reduceSub, Nat.reduceMul, Nat.reduceLT, Nat.reduceLeDiff, Nat.reduceEqDiff, Nat.reduceBEq, Int.reduceNeg, Int.reduceAdd, Int.reduceLT, Int.reduceLE, Int.reduceToNat, Int.reduceEq, Int.reduceNe, Int.reduceBEq, Int.reduceBNe, Int.reduceMul, Int.reduceSub, reduceIte, reduceCtorEq, List.length_map, atBox, exBox, whBox, qBox, qeaV, declsV, quantsV, freesV, statesV, symsV, nodesV, transsV]
  refine at_loop (fun n st => ∃ (i : Nat) (a : Int), i + n = q.trans.length ∧ st = ⟨20, [(1, .fn n_core_trans_2 [.ref 1004 0 0, .ref 1001 0 0, .ref 1005 0 0]), (7, transsV q.trans), (8, iv q.trans.length), (9, iv i)], [atBox a, exBox l, whBox, qBox q]⟩ ∧ 0 ≤ a ∧ a ≤ l.length ∧ allS (fun a _ t => oneStep q l standsS a t) q.trans 0 0 = allS (fun a _ t => oneStep q l standsS a t) (q.trans.drop i) i a) q.trans.length ⟨0, 0, by simp, rfl, by omega, by omega, rfl⟩ ?_
  rintro I hI n st ⟨i, a, hi, rfl, hpos, hle, he⟩
  simp -implicitDefEqProofs only [go_sem, Nat.reduceAdd, Nat.reduceSub, Nat.reduceMul, Nat.reduceLT, Nat.reduceLeDiff, Nat.reduceEqDiff, Nat.reduceBEq, Int.reduceNeg, Int.reduceAdd, Int.reduceLT, Int.reduceLE, Int.reduceToNat, Int.reduceEq, Int.reduceNe, Int.reduceBEq, Int.reduceBNe, Int.reduceMul, Int.reduceSub, reduceIte, reduceCtorEq, List.length_map, atBox, exBox, whBox, qBox, qeaV, declsV, quantsV, freesV, statesV, symsV, nodesV, transsV]
  refine ⟨fun hlt => ?_, fun hge => ?_⟩
  · have hlt' : i < q.trans.length := by omega
    obtain ⟨x, hx, hm⟩ := at_some hlt'
    have hw := wrap_succ hlt' (by omega)
    have hc := core_trans_2_hc (G := G) q l (by have := hq.nodes; omega) hn (fun s hs => by have := hq.args s hs; omega) x (by have := hq.sets x hm; omega) a hpos hle i
    have hsp := oneStep_le (q := q) (st := standsS) (t := x) hpos hle
    rw [allS_step hx] at he
    simp only [atBox, exBox, whBox, qBox, transV, setsV, qeaV, declsV, quantsV, freesV, statesV, symsV, nodesV, transsV] at hc
    try dsimp only at he
    generalize hb : oneStep q l standsS a x = b at *
    obtain ⟨b, A⟩ := b
    dsimp only at *
    have fin1 : b = true → again I n ⟨20, [(1, .fn n_core_trans_2 [.ref 1004 0 0, .ref 1001 0 0, .ref 1005 0 0]), (7, transsV q.trans), (8, iv q.trans.length), (9, iv (i + 1 : Nat))], [atBox A, exBox l, whBox, qBox q]⟩ := fun hb => by
      rw [if_pos hb] at he
      exact at_again (n - 1) (by omega) (hI _ _ ⟨i + 1, A, by omega, rfl, hsp.1, hsp.2, he⟩)
    have fin0 : ∀ heap, b = false → subH heap [atBox A, exBox l, whBox, qBox q] → Φ ⟨20, [(4, .bool false)], heap⟩ := fun heap hb hs => by
      rw [if_neg (by simp [hb])] at he
      exact fin _ _ _ he hs
    (try (simp -implicitDefEqProofs only [go_sem, Nat.reduceAdd, Nat.reduceSub, Nat.reduceMul, Nat.reduceLT, Nat.reduceLeDiff, Nat.reduceEqDiff, Nat.reduceBEq, Int.reduceNeg, Int.reduceAdd, Int.reduceLT, Int.reduceLE, Int.reduceToNat, Int.reduceEq, Int.reduceNe, Int.reduceBEq, Int.reduceBNe, Int.reduceMul, Int.reduceSub, reduceIte, reduceCtorEq, aiaddr_map hx, transV, setsV, hw])); repeat' ((first | refine at_guard (fun hb => ?_) (fun hb => ?_) | refine ⟨fun hb => ?_, fun hb => ?_⟩ | (refine ⟨by kernel_rfl, at_callH [(1004, 1004), (1003, 1003), (1005, 1005), (1001, 1001)] hc rfl ⟨⟨_, _, rfl, rfl, rfl⟩, ⟨_, _, rfl, rfl, rfl⟩, ⟨_, _, rfl, rfl, rfl⟩, ⟨_, _, rfl, rfl, rfl⟩, trivial⟩ rfl rfl rfl ?_⟩) | fail) <;> (try (simp -implicitDefEqProofs only [go_sem, Nat.reduceAdd, Nat.reduceSub, Nat.reduceMul, Nat.reduceLT, Nat.reduceLeDiff, Nat.reduceEqDiff, Nat.reduceBEq, Int.reduceNeg, Int.reduceAdd, Int.reduceLT, Int.reduceLE, Int.reduceToNat, Int.reduceEq, Int.reduceNe, Int.reduceBEq, Int.reduceBNe, Int.reduceMul, Int.reduceSub, reduceIte, reduceCtorEq, aiaddr_map hx, transV, setsV, hw])))
    all_goals first | exact fin0 _ (by simpa using hb) ⟨rfl, rfl, rfl, rfl, trivial⟩ | exact fin1 (by simpa using hb)
  · rw [allS_end (by omega)] at he
    exact fin _ _ _ he ⟨rfl, rfl, rfl, rfl, trivial⟩
def transC (q : QeaT) (l : List ExT) (st : SymT → Int → Bool) : Bool :=
  let r := allS (fun a _ t => oneStep q l st a t) q.trans 0 0
  r.1 && r.2 == (l.length : Int)
theorem core_trans_pc (q : QeaT) (hq : q.Few) : PureC Tryz.prog G n_core_trans [qeaV q] (.bool (transC q (exprs q) standsS)) := by
  have hln : (exprs q).length = q.nodes.length := exL_length q _ (by omega)
  have hex := core_exprs_pc (G := G) q hq.nodes
  have hall := core_all_api_Trans_hc (G := G) q (exprs q) hq hln
  unfold transC
  generalize allS (fun a _ t => oneStep q (exprs q) standsS a t) q.trans 0 0 = r at *
  obtain ⟨b, A⟩ := r
  refine pc_core_trans (Runs.of fun Φ h => ?_)
  unfold c_core_trans
  dsimp only at *
  simp only [atBox, exBox, whBox, qBox, qeaV, declsV, quantsV, freesV, statesV, symsV, nodesV, transsV] at hall hex
  (try (simp -implicitDefEqProofs only [go_sem, Nat.reduceAdd, Nat.reduceSub, Nat.reduceMul, Nat.reduceLT, Nat.reduceLeDiff, Nat.reduceEqDiff, Nat.reduceBEq, Int.reduceNeg, Int.reduceAdd, Int.reduceLT, Int.reduceLE, Int.reduceToNat, Int.reduceEq, Int.reduceNe, Int.reduceBEq, Int.reduceBNe, Int.reduceMul, Int.reduceSub, reduceIte, reduceCtorEq, qeaV, declsV, quantsV, freesV, statesV, symsV, nodesV, transsV, List.length_map])); repeat' ((first | refine at_guard (fun hb => ?_) (fun hb => ?_) | refine ⟨fun hb => ?_, fun hb => ?_⟩ | refine at_call (hex) rfl rfl ?_ | (refine at_callH [(1004, 4), (1003, 3), (1005, 5), (1001, 1)] hall rfl ⟨⟨_, _, rfl, rfl, rfl⟩, ⟨_, _, rfl, rfl, rfl⟩, ⟨_, _, rfl, rfl, rfl⟩, ⟨_, _, rfl, rfl, rfl⟩, trivial⟩ rfl rfl rfl ?_) | fail) <;> (try (simp -implicitDefEqProofs only [go_sem, Nat.reduceAdd, Nat.reduceSub, Nat.reduceMul, Nat.reduceLT, Nat.reduceLeDiff, Nat.reduceEqDiff, Nat.reduceBEq, Int.reduceNeg, Int.reduceAdd, Int.reduceLT, Int.reduceLE, Int.reduceToNat, Int.reduceEq, Int.reduceNe, Int.reduceBEq, Int.reduceBNe, Int.reduceMul, Int.reduceSub, reduceIte, reduceCtorEq, qeaV, declsV, quantsV, freesV, statesV, symsV, nodesV, transsV, List.length_map])))
  all_goals (refine h _ ⟨_, _, rfl, rfl, fitB ?_⟩; clear h; simp_all)
end Go.Proofs.YtdfdiglnpekcpabGreatDoor.Ab
