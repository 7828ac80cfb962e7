/-
  eval's panics: must, and what a node comes to: a value, or a panic. No claim is proved here.
-/
import Derived.Test.YtdfdiglnpekcpabDoorWAcM
import Derived.Test.YtdfdiglnpekcpabDoorWAbPanA
import Derived.Test.YtdfdiglnpekcpabDoorWK1
namespace Go.Proofs.YtdfdiglnpekcpabDoor.Ab
open Nat renaming reduceAdd → zq0, reduceSub → zq1, reduceMul → zq2, reduceLT → zq3, reduceLeDiff → zq4, reduceEqDiff → zq5, reduceBEq → zq6
open Int renaming reduceNeg → zq7, reduceAdd → zq8, reduceLT → zq9, reduceLE → zq10, reduceToNat → zq11, reduceEq → zq12, reduceNe → zq13, reduceBEq → zq14, reduceBNe → zq15, reduceMul → zq16, reduceSub → zq17
open Go Go.RowKit
set_option linter.unusedSimpArgs false
set_option maxHeartbeats 4000000
set_option maxRecDepth 100000
variable {G : Nat → Option AV}
theorem PW.regT (n : Nat) (kt0 : List Nat) {P : Program} {pv : AV} {st : St} {ops : List AO} {kt : List Nat} {d : Option Nat} {f : Nat} {xs : List Opd} (ho : ops[n]? = some ⟨d, .call f xs, none⟩) (hxs : ((xs.flatMap lookO).all fun t => kt0.contains t) = true)
    (h : runO P G (fun _ => False) false (ops.take n) kt0 [.cut (panO P G f xs pv)] st) : PW P G pv (.reg ops kt) st := by
  refine PW.reg n ho (opsP_mono (opsP_trim h) fun stx hx => ?_)
  obtain ⟨vargs, args', hv, hf, hpc⟩ := hx
  refine ⟨vargs, args', ?_, hf, hpc⟩
  rw [← evs_congr (st := stx) (st' := { stx with env := stx.trimE kt0 }) (G := G) (xs := xs) fun t ht => eget_trimE_in _ _ _ (List.contains_iff_mem.1 (List.all_eq_true.1 hxs t ht))]
  exact hv
/-- What is wrong with an expression: where, and the error. -/
def wrongV (a e : Int) : AV := .iface 128 (.agg [iv a, .iface 47 (iv e)])
theorem must_pc (a : Int) (v : Val) : PureC Tryd.prog G n_eval_must [iv a, valV v, iv 0] (valV v) := by
  obtain ⟨k, n, s, t⟩ := v
  refine pc_eval_must (Runs.of fun Φ h => ?_)
  unfold c_eval_must
  (try (simp -implicitDefEqProofs only [go_sem, zq0, zq1, zq2, zq3, zq4, zq5, zq6, zq7, zq8, zq9, zq10, zq11, zq12, zq13, zq14, zq15, zq16, zq17, reduceIte, reduceCtorEq, valV])); repeat' ((first | refine at_guard (fun hb => ?_) (fun hb => ?_) | refine ⟨fun hb => ?_, fun hb => ?_⟩ | fail) <;> (try (simp -implicitDefEqProofs only [go_sem, zq0, zq1, zq2, zq3, zq4, zq5, zq6, zq7, zq8, zq9, zq10, zq11, zq12, zq13, zq14, zq15, zq16, zq17, reduceIte, reduceCtorEq, valV])))
  exact h _ ⟨_, _, rfl, rfl, .refl _⟩
theorem argsR_three {w : World} {F : Nat → Prop} {c d e : AV} {vs : Array Value} (h : ArgsR w F [c, d, e] vs) : ∃ v u x, vs = #[v, u, x] ∧ Rd w F noNames c v ∧ Rd w F noNames d u ∧ Rd w F noNames e x := by
  obtain ⟨hs, hr⟩ := h
  obtain ⟨l⟩ := vs
  match l, hs with
  | [v, u, x], _ => exact ⟨v, u, x, rfl, hr 0 c v rfl rfl, hr 1 d u rfl rfl, hr 2 e x rfl rfl⟩
theorem rd_agg {w : World} {F : Nat → Prop} {nm : Names} {cs : List AV} {v : Value} (h : Rd w F nm (.agg cs) v) : ∃ us : List Value, v = .agg us.toArray ∧ cs.length = us.length ∧ ∀ (j : Nat) c u, cs[j]? = some c → us[j]? = some u → Rd w F nm c u := by
  cases h
  exact ⟨_, rfl, ‹_›, ‹_›⟩
theorem rd_val {w : World} {F : Nat → Prop} {nm : Names} {v : Val} {x : Value} (h : Rd w F nm (valV v) x) : x = .agg #[.int .i64 v.kind, .int .i64 v.int, .string ⟨v.str.toArray⟩, .bool v.bool] := by
  obtain ⟨us, rfl, hl, hr⟩ := rd_agg h
  match us, hl with
  | [a, b, c, d], _ =>
    have h0 := hr 0 _ a rfl rfl
    have h1 := hr 1 _ b rfl rfl
    have h2 := hr 2 _ c rfl rfl
    have h3 := hr 3 _ d rfl rfl
    cases h0; cases h1; cases h2; cases h3
    rfl
theorem rd_wrong (w : World) (F : Nat → Prop) (nm : Names) (a e : Int) : Rd w F nm (wrongV a e) (.iface 128 (.agg #[.int .i64 a, .iface 47 (.int .i64 e)])) := by
  refine Rd.iface _ _ _ _ (Rd.agg _ [_, _] [_, _] rfl fun j c u hc hu => ?_)
  match j, hc, hu with
  | 0, hc, hu => cases hc; cases hu; exact .int _ _ _
  | 1, hc, hu => cases hc; cases hu; exact .iface _ _ _ _ (.int _ _ _)
theorem must_pan (a : Int) (v : Val) (e : Int) (he : ¬ e = 0) : PanicC Tryd.prog G n_eval_must [iv a, valV v, iv e] (wrongV a e) := by
  intro w F vs hg ha
  obtain ⟨x, y, z, rfl, h1, h2, h3⟩ := argsR_three ha
  cases h1
  cases h3
  obtain rfl := rd_val h2
  refine (must_walk a v.kind v.int e ⟨v.str.toArray⟩ v.bool (by simpa using he) w).mono ?_
  rintro ev w' ⟨rfl, hb⟩
  exact ⟨_, rfl, fun W F nm => rd_wrong _ _ _ _ _, hb⟩
/-- What holds of a node's expression, if of those ahead. -/
def NodeC (G : Nat → Option AV) (q : QeaT) (b : List SlotT) (vals : List Val) (i : Nat) : Prop :=
  ((ev q b vals i).2 = 0 → PureC Tryd.prog G n_eval_frame_node [frameV q b vals, iv i] (valV (ev q b vals i).1)) ∧
  (¬ (ev q b vals i).2 = 0 → ∃ a, PanicC Tryd.prog G n_eval_frame_node [frameV q b vals, iv i] (wrongV a (ev q b vals i).2))
theorem node_leaf {q : QeaT} {b : List SlotT} {vals : List Val} {i : Nat} {x : NodeT} (hE : Env q b vals) (hx : q.nodes[i]? = some x) (hw : NodeW q i x) (ho : x.op ≤ 3) : NodeC G q b vals i := by
  obtain ⟨op, xa, xb, ⟨vk, vn, vs, vb⟩⟩ := x
  dsimp only at ho
  cases hw with
  | con h hv =>
    dsimp only at h
    subst h
    unfold NodeC
    rw [ev_at hx, evN, if_pos rfl]
    refine ⟨fun _ => ?_, fun h => absurd rfl h⟩
    refine pc_eval_frame_node (Runs.of fun Φ h => ?_)
    unfold c_eval_frame_node
    (try (simp -implicitDefEqProofs only [go_sem, zq0, zq1, zq2, zq3, zq4, zq5, zq6, zq7, zq8, zq9, zq10, zq11, zq12, zq13, zq14, zq15, zq16, zq17, reduceIte, reduceCtorEq, frameV, qeaV, declsV, quantsV, freesV, statesV, symsV, nodesV, transsV, slotsV, valsV, aiaddr_map hx, nodeV, valV])); repeat' ((first | refine at_guard (fun hb => ?_) (fun hb => ?_) | refine ⟨fun hb => ?_, fun hb => ?_⟩ | fail) <;> (try (simp -implicitDefEqProofs only [go_sem, zq0, zq1, zq2, zq3, zq4, zq5, zq6, zq7, zq8, zq9, zq10, zq11, zq12, zq13, zq14, zq15, zq16, zq17, reduceIte, reduceCtorEq, frameV, qeaV, declsV, quantsV, freesV, statesV, symsV, nodesV, transsV, slotsV, valsV, aiaddr_map hx, nodeV, valV])))
    exact h _ ⟨_, _, rfl, rfl, .refl _⟩
  | free h j hj y hy =>
    dsimp only at h hj
    subst h
    subst hj
    have hlt := (List.getElem?_eq_some_iff.1 hy).1
    obtain ⟨v, hv, hm⟩ := at_some (l := vals) (i := j) (by have := hE.fit; omega)
    unfold NodeC
    rw [ev_at hx, evN, if_neg (by simp), if_neg (by simp), if_pos rfl, at?_nat hv]
    refine ⟨fun _ => ?_, fun h => absurd rfl h⟩
    refine pc_eval_frame_node (Runs.of fun Φ h => ?_)
    unfold c_eval_frame_node
    (try (simp -implicitDefEqProofs only [go_sem, zq0, zq1, zq2, zq3, zq4, zq5, zq6, zq7, zq8, zq9, zq10, zq11, zq12, zq13, zq14, zq15, zq16, zq17, reduceIte, reduceCtorEq, frameV, qeaV, declsV, quantsV, freesV, statesV, symsV, nodesV, transsV, slotsV, valsV, aiaddr_map hx, aiaddr_map hv, nodeV, valV])); repeat' ((first | refine at_guard (fun hb => ?_) (fun hb => ?_) | refine ⟨fun hb => ?_, fun hb => ?_⟩ | fail) <;> (try (simp -implicitDefEqProofs only [go_sem, zq0, zq1, zq2, zq3, zq4, zq5, zq6, zq7, zq8, zq9, zq10, zq11, zq12, zq13, zq14, zq15, zq16, zq17, reduceIte, reduceCtorEq, frameV, qeaV, declsV, quantsV, freesV, statesV, symsV, nodesV, transsV, slotsV, valsV, aiaddr_map hx, aiaddr_map hv, nodeV, valV])))
    exact h _ ⟨_, _, rfl, rfl, .refl _⟩
  | quant h j hj y hy =>
    dsimp only at h hj
    subst h
    subst hj
    have hg := frame_quant_pc (G := G) q b vals (by have := hE.bl; omega) j y hy
    unfold NodeC
    rw [ev_at hx, evN, if_neg (by simp), if_pos rfl, at?_nat hy]
    dsimp only
    generalize quantR b j y.type = r at *
    obtain ⟨⟨k, n, s, t⟩, e⟩ := r
    dsimp only
    unfold vt at hg
    simp only [frameV, qeaV, declsV, quantsV, freesV, statesV, symsV, nodesV, transsV, slotsV, valsV, valV] at hg
    refine ⟨fun h0 => ?_, fun h0 => ?_⟩
    · subst h0
      have hm := must_pc (G := G) i ⟨k, n, s, t⟩
      simp only [valV] at hm
      refine pc_eval_frame_node (Runs.of fun Φ h => ?_)
      unfold c_eval_frame_node
      (try (simp -implicitDefEqProofs only [go_sem, zq0, zq1, zq2, zq3, zq4, zq5, zq6, zq7, zq8, zq9, zq10, zq11, zq12, zq13, zq14, zq15, zq16, zq17, reduceIte, reduceCtorEq, frameV, qeaV, declsV, quantsV, freesV, statesV, symsV, nodesV, transsV, slotsV, valsV, aiaddr_map hx, nodeV, valV])); repeat' ((first | refine at_guard (fun hb => ?_) (fun hb => ?_) | refine ⟨fun hb => ?_, fun hb => ?_⟩ | refine at_call (hg) rfl rfl ?_ | refine at_call (hm) rfl rfl ?_ | fail) <;> (try (simp -implicitDefEqProofs only [go_sem, zq0, zq1, zq2, zq3, zq4, zq5, zq6, zq7, zq8, zq9, zq10, zq11, zq12, zq13, zq14, zq15, zq16, zq17, reduceIte, reduceCtorEq, frameV, qeaV, declsV, quantsV, freesV, statesV, symsV, nodesV, transsV, slotsV, valsV, aiaddr_map hx, nodeV, valV])))
      exact h _ ⟨_, _, rfl, rfl, .refl _⟩
    · have hm := must_pan (G := G) i ⟨k, n, s, t⟩ e h0
      refine ⟨i, PanicC.of_pw Tryd.func66 k_eval_frame_node rfl ?_⟩
      unfold c_eval_frame_node
      dsimp only
      refine PW.seq2 ?_
      (try (simp -implicitDefEqProofs only [go_sem, zq0, zq1, zq2, zq3, zq4, zq5, zq6, zq7, zq8, zq9, zq10, zq11, zq12, zq13, zq14, zq15, zq16, zq17, reduceIte, reduceCtorEq, frameV, qeaV, declsV, quantsV, freesV, statesV, symsV, nodesV, transsV, slotsV, valsV])); repeat' ((first | refine at_guard (fun hb => ?_) (fun hb => ?_) | refine ⟨fun hb => ?_, fun hb => ?_⟩ | fail) <;> (try (simp -implicitDefEqProofs only [go_sem, zq0, zq1, zq2, zq3, zq4, zq5, zq6, zq7, zq8, zq9, zq10, zq11, zq12, zq13, zq14, zq15, zq16, zq17, reduceIte, reduceCtorEq, frameV, qeaV, declsV, quantsV, freesV, statesV, symsV, nodesV, transsV, slotsV, valsV])))
      refine PW.seq2 ?_
      (try (simp -implicitDefEqProofs only [go_sem, zq0, zq1, zq2, zq3, zq4, zq5, zq6, zq7, zq8, zq9, zq10, zq11, zq12, zq13, zq14, zq15, zq16, zq17, reduceIte, reduceCtorEq, frameV, qeaV, declsV, quantsV, freesV, statesV, symsV, nodesV, transsV, slotsV, valsV, aiaddr_map hx, nodeV, valV])); repeat' ((first | refine at_guard (fun hb => ?_) (fun hb => ?_) | refine ⟨fun hb => ?_, fun hb => ?_⟩ | fail) <;> (try (simp -implicitDefEqProofs only [go_sem, zq0, zq1, zq2, zq3, zq4, zq5, zq6, zq7, zq8, zq9, zq10, zq11, zq12, zq13, zq14, zq15, zq16, zq17, reduceIte, reduceCtorEq, frameV, qeaV, declsV, quantsV, freesV, statesV, symsV, nodesV, transsV, slotsV, valsV, aiaddr_map hx, nodeV, valV])))
      refine PW.seq1 ?_
      refine PW.seq2 ?_
      (try (simp -implicitDefEqProofs only [go_sem, zq0, zq1, zq2, zq3, zq4, zq5, zq6, zq7, zq8, zq9, zq10, zq11, zq12, zq13, zq14, zq15, zq16, zq17, reduceIte, reduceCtorEq])); repeat' ((first | refine at_guard (fun hb => ?_) (fun hb => ?_) | refine ⟨fun hb => ?_, fun hb => ?_⟩ | fail) <;> (try (simp -implicitDefEqProofs only [go_sem, zq0, zq1, zq2, zq3, zq4, zq5, zq6, zq7, zq8, zq9, zq10, zq11, zq12, zq13, zq14, zq15, zq16, zq17, reduceIte, reduceCtorEq])))
      refine PW.block ?_
      refine PW.seq2 ?_
      (try (simp -implicitDefEqProofs only [go_sem, zq0, zq1, zq2, zq3, zq4, zq5, zq6, zq7, zq8, zq9, zq10, zq11, zq12, zq13, zq14, zq15, zq16, zq17, reduceIte, reduceCtorEq])); repeat' ((first | refine at_guard (fun hb => ?_) (fun hb => ?_) | refine ⟨fun hb => ?_, fun hb => ?_⟩ | fail) <;> (try (simp -implicitDefEqProofs only [go_sem, zq0, zq1, zq2, zq3, zq4, zq5, zq6, zq7, zq8, zq9, zq10, zq11, zq12, zq13, zq14, zq15, zq16, zq17, reduceIte, reduceCtorEq])))
      refine PW.cond (β := false) rfl (fun h => by cases h) (fun _ => ?_)
      refine PW.seq2 ?_
      (try (simp -implicitDefEqProofs only [go_sem, zq0, zq1, zq2, zq3, zq4, zq5, zq6, zq7, zq8, zq9, zq10, zq11, zq12, zq13, zq14, zq15, zq16, zq17, reduceIte, reduceCtorEq])); repeat' ((first | refine at_guard (fun hb => ?_) (fun hb => ?_) | refine ⟨fun hb => ?_, fun hb => ?_⟩ | fail) <;> (try (simp -implicitDefEqProofs only [go_sem, zq0, zq1, zq2, zq3, zq4, zq5, zq6, zq7, zq8, zq9, zq10, zq11, zq12, zq13, zq14, zq15, zq16, zq17, reduceIte, reduceCtorEq])))
      refine PW.cond (β := true) rfl (fun _ => ?_) (fun h => by cases h)
      refine PW.seq2 ?_
      (try (simp -implicitDefEqProofs only [go_sem, zq0, zq1, zq2, zq3, zq4, zq5, zq6, zq7, zq8, zq9, zq10, zq11, zq12, zq13, zq14, zq15, zq16, zq17, reduceIte, reduceCtorEq, valV])); repeat' ((first | refine at_guard (fun hb => ?_) (fun hb => ?_) | refine ⟨fun hb => ?_, fun hb => ?_⟩ | refine at_call (hg) rfl rfl ?_ | fail) <;> (try (simp -implicitDefEqProofs only [go_sem, zq0, zq1, zq2, zq3, zq4, zq5, zq6, zq7, zq8, zq9, zq10, zq11, zq12, zq13, zq14, zq15, zq16, zq17, reduceIte, reduceCtorEq, valV])))
      refine PW.seq1 ?_
      refine PW.regT 3 [34, 35, 36] rfl rfl ?_
      (try (simp -implicitDefEqProofs only [go_sem, zq0, zq1, zq2, zq3, zq4, zq5, zq6, zq7, zq8, zq9, zq10, zq11, zq12, zq13, zq14, zq15, zq16, zq17, reduceIte, reduceCtorEq])); repeat' ((first | refine at_guard (fun hb => ?_) (fun hb => ?_) | refine ⟨fun hb => ?_, fun hb => ?_⟩ | fail) <;> (try (simp -implicitDefEqProofs only [go_sem, zq0, zq1, zq2, zq3, zq4, zq5, zq6, zq7, zq8, zq9, zq10, zq11, zq12, zq13, zq14, zq15, zq16, zq17, reduceIte, reduceCtorEq])))
      exact ⟨_, _, rfl, FitL.refl _, hm⟩
  | una h j hj hlt => exfalso; dsimp only at h; omega
  | bin h j k hj hk hj' hk' => exfalso; dsimp only at h; omega
end Go.Proofs.YtdfdiglnpekcpabDoor.Ab
