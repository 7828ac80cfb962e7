/-
  eval's panics and errors, walked: must; the deferred function; errors.As, errors.Is. eval's panics: must, and what a node comes to: a value, or a panic. No claim is proved here.
-/
import Derived.Test.YtdfdiglnpekcpabDoorProg
import Derived.WalkKit
import Derived.WalkLawsBesides
import Derived.Defers
import Derived.Recover
import Derived.LaidEql
import Derived.Stop.Asserts
import Derived.RowKitTokens
import Derived.Outline
import Derived.RegionTactic
import Derived.Deep.Cut
import Derived.ChangeAlike
import Derived.Test.YtdfdiglnpekcpabDoorQV6
import Derived.Test.YtdfdiglnpekcpabDoorQAbPan
import Derived.Test.YtdfdiglnpekcpabDoorQAbPanA
namespace Go.Proofs.YtdfdiglnpekcpabDoor.Ab
open Go Go.RowKit Go.Extern.Stop Go.Stop Go.Extern
set_option linter.unusedSimpArgs false
set_option maxHeartbeats 1000000
set_option maxRecDepth 100000
theorem must_walk (a k n e : Int) (s : ByteArray) (t : Bool) (he : (e != 0) = true) (w : World) : Calls Tryd.prog 93 #[.int .i64 a, .agg #[.int .i64 k, .int .i64 n, .string s, .bool t], .int .i64 e] w fun ev w' =>
    ev = .panicked [{ v := .iface 128 (.agg #[.int .i64 a, .iface 47 (.int .i64 e)]), recovered := false }] ∧ Below w.heap.size w w' := by
  go_enter Tryd.func93, Tryd.ntmps93
  go_wp2
  exact ⟨rfl, rfl, ((Below.refl _ _).alloc (Nat.le_refl _) _).alloc (by simp) _⟩
abbrev wrongX (a e : Int) : Value := .iface 128 (.agg #[.int .i64 a, .iface 47 (.int .i64 e)])
theorem run1_pan (vb eb n0 : Nat) (at_ e : Int) (x0 x1 x2 x3 y : Value) (w : World) (hne : vb ≠ eb) (hv : w.heap[vb]? = some (.cells #[x0, x1, x2, x3] 46 (0, 0))) (he : w.heap[eb]? = some (.cells #[y] 92 (0, 0))) (h0 : n0 ≤ vb ∧ n0 ≤ eb ∧ n0 ≤ w.heap.size) :
    CallsD Tryd.prog 65 #[.pointer (some ⟨vb, 0, none⟩), .pointer (some ⟨eb, 0, none⟩)] (.panicking [{ v := wrongX at_ e, recovered := false }]) w fun ev u' w' => ev = .returned (.tuple #[]) ∧ u' = .panicking [{ v := wrongX at_ e, recovered := true }] ∧
      (w'.cell? ⟨vb, 0, none⟩ = some (.int .i64 0) ∧ w'.cell? ⟨vb, 1, none⟩ = some (.int .i64 0) ∧ w'.cell? ⟨vb, 2, none⟩ = some (.string ⟨#[]⟩) ∧ w'.cell? ⟨vb, 3, none⟩ = some (.bool false) ∧ w'.cell? ⟨eb, 0, none⟩ = some (wrongX at_ e)) ∧ Below n0 w w' := by
  have v0 : w.cell? ⟨vb, 0, none⟩ = some x0 := by simp [World.cell?, hv]
  have v1 : w.cell? ⟨vb, 1, none⟩ = some x1 := by simp [World.cell?, hv]
  have v2 : w.cell? ⟨vb, 2, none⟩ = some x2 := by simp [World.cell?, hv]
  have v3 : w.cell? ⟨vb, 3, none⟩ = some x3 := by simp [World.cell?, hv]
  have e0 : w.cell? ⟨eb, 0, none⟩ = some y := by simp [World.cell?, he]
  have f0 : w.frozen? ⟨vb, 0, none⟩ = false := by simp [World.frozen?, hv]
  have f1 : w.frozen? ⟨vb, 1, none⟩ = false := by simp [World.frozen?, hv]
  have f2 : w.frozen? ⟨vb, 2, none⟩ = false := by simp [World.frozen?, hv]
  have f3 : w.frozen? ⟨vb, 3, none⟩ = false := by simp [World.frozen?, hv]
  have f4 : w.frozen? ⟨eb, 0, none⟩ = false := by simp [World.frozen?, he]
  have hvl : vb < w.heap.size := (Array.getElem?_eq_some_iff.1 hv).1
  have hel : eb < w.heap.size := (Array.getElem?_eq_some_iff.1 he).1
  have hvn : ¬ vb = w.heap.size := by omega
  have hen : ¬ eb = w.heap.size := by omega
  have hve : ¬ eb = vb := fun e => hne e.symm
  have hta : ∀ (v : Value) (w : World), (Instr.typeAssert (.iface 128 v) 20 128 true).run Tryd.prog w = .ok (.tuple #[v, .bool true]) w := fun _ _ => by kernel_rfl
  refine callsD_of_wpS Tryd.func65 rfl fun c₀ cs hu => ?_
  apply wpS_seq
  apply wpS_region
  simp [wpOpsS, go_sem, recoverD, hu, Tryd.ntmps65, Exit.thenS]
  rw [show (#[Value.pointer (some ⟨vb, 0, none⟩), Value.pointer (some ⟨eb, 0, none⟩)] ++ ((Array.replicate 16 undef).setIfInBounds 3 (wrongX at_ e)).setIfInBounds 0 (wrongX at_ e) : Array Value) = #[Value.pointer (some ⟨vb, 0, none⟩), Value.pointer (some ⟨eb, 0, none⟩), wrongX at_ e, undef, undef, wrongX at_ e, undef, undef, undef, undef, undef, undef, undef, undef, undef, undef, undef, undef] from rfl]
  apply wpS_of_wp
  go_wp2
  go_region
  go_wp2
  refine ⟨rfl, _, rfl, .tuple #[], results_none rfl _ _ _, rfl, rfl, ?_, ?_⟩
  · simp [go_sem, v0, v1, v2, v3, e0, hvn, hen, hve, hne, hvl, hel]
  · exact ((((((((Below.refl n0 w).setCell h0.1 _).setCell h0.1 _).setCell h0.1 _).setCell h0.1 _).setCell h0.2.1 _).alloc (by simpa using h0.2.2) _)).drew
theorem run1_idle (vb eb : Nat) (w : World) : CallsD Tryd.prog 65 #[.pointer (some ⟨vb, 0, none⟩), .pointer (some ⟨eb, 0, none⟩)] .returning w fun ev u' w' => ev = .returned (.tuple #[]) ∧ u' = .returning ∧ w' = w := by
  refine callsD_of_wpS Tryd.func65 rfl fun c₀ cs hu => ?_
  apply wpS_seq
  apply wpS_region
  simp [wpOpsS, go_sem, recoverD, hu, Tryd.ntmps65, Exit.thenS]
  rw [show (#[Value.pointer (some ⟨vb, 0, none⟩), Value.pointer (some ⟨eb, 0, none⟩)] ++ ((Array.replicate 16 undef).setIfInBounds 3 Value.nilIface).setIfInBounds 0 Value.nilIface : Array Value) = #[Value.pointer (some ⟨vb, 0, none⟩), Value.pointer (some ⟨eb, 0, none⟩), Value.nilIface, undef, undef, Value.nilIface, undef, undef, undef, undef, undef, undef, undef, undef, undef, undef, undef, undef] from rfl]
  apply wpS_of_wp
  go_wp2
  cases c₀
  simp only at hu
  subst hu
  exact ⟨rfl, _, rfl, .tuple #[], results_none rfl _ _ _, rfl, rfl, rfl⟩
end Go.Proofs.YtdfdiglnpekcpabDoor.Ab
namespace Go.Proofs.YtdfdiglnpekcpabDoor.Ab
open Go Go.RowKit
set_option linter.unusedSimpArgs false
set_option maxHeartbeats 4000000
set_option maxRecDepth 100000
variable {G : Nat → Option AV}
theorem PW.regT (n : Nat) (kt0 : List Nat) {P : Program} {pv : AV} {st : St} {ops : List AO} {kt : List Nat} {d : Option Nat} {f : Nat} {xs : List Opd} (ho : ops[n]? = some ⟨d, .call f xs, none⟩) (hxs : ((xs.flatMap lookO).all fun t => kt0.contains t) = true)
    (h : runO P G (fun _ => False) false (ops.take n) kt0 [.cut (panO P G f xs pv)] st) : PW P G pv (.reg ops kt) st := by
  refine PW.reg n ho (opsP_mono (opsP_trim h) fun stx hx => ?_)
  obtain ⟨vargs, args', hv, hf, hpc⟩ := hx
  refine ⟨vargs, args', ?_, hf, hpc⟩
  rw [← evs_congr (st := stx) (st' := { stx with env := stx.trimE kt0 }) (G := G) (xs := xs) fun t ht => eget_trimE_in _ _ _ (List.contains_iff_mem.1 (List.all_eq_true.1 hxs t ht))]
  exact hv
/-- What is wrong with an expression: where, and the error. -/
def wrongV (a e : Int) : AV := .iface 128 (.agg [iv a, .iface 47 (iv e)])
theorem must_pc (a : Int) (v : Val) : PureC Tryd.prog G n_eval_must [iv a, valV v, iv 0] (valV v) := by
  obtain ⟨k, n, s, t⟩ := v
  refine pc_eval_must (Runs.of fun Φ h => ?_)
  unfold c_eval_must
  (try (simp -implicitDefEqProofs only [go_sem, Nat.reduceAdd, Nat.reduceSub, Nat.reduceMul, Nat.reduceLT, Nat.reduceLeDiff, Nat.reduceEqDiff, Nat.reduceBEq, Int.reduceNeg, Int.reduceAdd, Int.reduceLT, Int.reduceLE, Int.reduceToNat, Int.reduceEq, Int.reduceNe, Int.reduceBEq, Int.reduceBNe, Int.reduceMul, Int.reduceSub, reduceIte, reduceCtorEq, valV])); repeat' ((first | refine at_guard (fun hb => ?_) (fun hb => ?_) | refine ⟨fun hb => ?_, fun hb => ?_⟩ | fail) <;> (try (simp -implicitDefEqProofs only [go_sem, Nat.reduceAdd, Nat.reduceSub, Nat.reduceMul, Nat.reduceLT, Nat.reduceLeDiff, Nat.reduceEqDiff, Nat.reduceBEq, Int.reduceNeg, Int.reduceAdd, Int.reduceLT, Int.reduceLE, Int.reduceToNat, Int.reduceEq, Int.reduceNe, Int.reduceBEq, Int.reduceBNe, Int.reduceMul, Int.reduceSub, reduceIte, reduceCtorEq, valV])))
  exact h _ ⟨_, _, rfl, rfl, .refl _⟩
theorem argsR_three {w : World} {F : Nat → Prop} {c d e : AV} {vs : Array Value} (h : ArgsR w F [c, d, e] vs) : ∃ v u x, vs = #[v, u, x] ∧ Rd w F noNames c v ∧ Rd w F noNames d u ∧ Rd w F noNames e x := by
  obtain ⟨hs, hr⟩ := h
  obtain ⟨l⟩ := vs
  match l, hs with
  | [v, u, x], _ => exact ⟨v, u, x, rfl, hr 0 c v rfl rfl, hr 1 d u rfl rfl, hr 2 e x rfl rfl⟩
theorem rd_agg {w : World} {F : Nat → Prop} {nm : Names} {cs : List AV} {v : Value} (h : Rd w F nm (.agg cs) v) : ∃ us : List Value, v = .agg us.toArray ∧ cs.length = us.length ∧ ∀ (j : Nat) c u, cs[j]? = some c → us[j]? = some u → Rd w F nm c u := by
  cases h
  exact ⟨_, rfl, ‹_›, ‹_›⟩
theorem rd_val {w : World} {F : Nat → Prop} {nm : Names} {v : Val} {x : Value} (h : Rd w F nm (valV v) x) : x = .agg #[.int .i64 v.kind, .int .i64 v.int, .string ⟨v.str.toArray⟩, .bool v.bool] := by
  obtain ⟨us, rfl, hl, hr⟩ := rd_agg h
  match us, hl with
  | [a, b, c, d], _ =>
    have h0 := hr 0 _ a rfl rfl
    have h1 := hr 1 _ b rfl rfl
    have h2 := hr 2 _ c rfl rfl
    have h3 := hr 3 _ d rfl rfl
    cases h0; cases h1; cases h2; cases h3
    rfl
theorem rd_wrong (w : World) (F : Nat → Prop) (nm : Names) (a e : Int) : Rd w F nm (wrongV a e) (.iface 128 (.agg #[.int .i64 a, .iface 47 (.int .i64 e)])) := by
  refine Rd.iface _ _ _ _ (Rd.agg _ [_, _] [_, _] rfl fun j c u hc hu => ?_)
  match j, hc, hu with
  | 0, hc, hu => cases hc; cases hu; exact .int _ _ _
  | 1, hc, hu => cases hc; cases hu; exact .iface _ _ _ _ (.int _ _ _)
theorem must_pan (a : Int) (v : Val) (e : Int) (he : ¬ e = 0) : PanicC Tryd.prog G n_eval_must [iv a, valV v, iv e] (wrongV a e) := by
  intro w F vs hg ha
  obtain ⟨x, y, z, rfl, h1, h2, h3⟩ := argsR_three ha
  cases h1
  cases h3
  obtain rfl := rd_val h2
  refine (must_walk a v.kind v.int e ⟨v.str.toArray⟩ v.bool (by simpa using he) w).mono ?_
  rintro ev w' ⟨rfl, hb⟩
  exact ⟨_, rfl, fun W F nm => rd_wrong _ _ _ _ _, hb⟩
/-- What holds of a node's expression, if of those ahead. -/
def NodeC (G : Nat → Option AV) (q : QeaT) (b : List SlotT) (vals : List Val) (i : Nat) : Prop :=
  ((ev q b vals i).2 = 0 → PureC Tryd.prog G n_eval_frame_node [frameV q b vals, iv i] (valV (ev q b vals i).1)) ∧
  (¬ (ev q b vals i).2 = 0 → ∃ a, PanicC Tryd.prog G n_eval_frame_node [frameV q b vals, iv i] (wrongV a (ev q b vals i).2))
theorem node_leaf {q : QeaT} {b : List SlotT} {vals : List Val} {i : Nat} {x : NodeT} (hE : Env q b vals) (hx : q.nodes[i]? = some x) (hw : NodeW q i x) (ho : x.op ≤ 3) : NodeC G q b vals i := by
  obtain ⟨op, xa, xb, ⟨vk, vn, vs, vb⟩⟩ := x
  dsimp only at ho
  cases hw with
  | con h hv =>
    dsimp only at h
    subst h
    unfold NodeC
    rw [ev_at hx, evN, if_pos rfl]
    refine ⟨fun _ => ?_, fun h => absurd rfl h⟩
    refine pc_eval_frame_node (Runs.of fun Φ h => ?_)
    unfold c_eval_frame_node
    (try (simp -implicitDefEqProofs only [go_sem, Nat.reduceAdd, Nat.reduceSub, Nat.reduceMul, Nat.reduceLT, Nat.reduceLeDiff, Nat.reduceEqDiff, Nat.reduceBEq, Int.reduceNeg, Int.reduceAdd, Int.reduceLT, Int.reduceLE, Int.reduceToNat, Int.reduceEq, Int.reduceNe, Int.reduceBEq, Int.reduceBNe, Int.reduceMul, Int.reduceSub, reduceIte, reduceCtorEq, frameV, qeaV, declsV, quantsV, freesV, statesV, symsV, nodesV, transsV, slotsV, valsV, aiaddr_map hx, nodeV, valV])); repeat' ((first | refine at_guard (fun hb => ?_) (fun hb => ?_) | refine ⟨fun hb => ?_, fun hb => ?_⟩ | fail) <;> (try (simp -implicitDefEqProofs only [go_sem, Nat.reduceAdd, Nat.reduceSub, Nat.reduceMul, Nat.reduceLT, Nat.reduceLeDiff, Nat.reduceEqDiff, Nat.reduceBEq, Int.reduceNeg, Int.reduceAdd, Int.reduceLT, Int.reduceLE, Int.reduceToNat, Int.reduceEq, Int.reduceNe, Int.reduceBEq, Int.reduceBNe, Int.reduceMul, Int.reduceSub, reduceIte, reduceCtorEq, frameV, qeaV, declsV, quantsV, freesV, statesV, symsV, nodesV, transsV, slotsV, valsV, aiaddr_map hx, nodeV, valV])))
    exact h _ ⟨_, _, rfl, rfl, .refl _⟩
  | free h j hj y hy =>
    dsimp only at h hj
    subst h
    subst hj
    have hlt := (List.getElem?_eq_some_iff.1 hy).1
    obtain ⟨v, hv, hm⟩ := at_some (l := vals) (i := j) (by have := hE.fit; omega)
    unfold NodeC
    rw [ev_at hx, evN, if_neg (by simp), if_neg (by simp), if_pos rfl, at?_nat hv]
    refine ⟨fun _ => ?_, fun h => absurd rfl h⟩
    refine pc_eval_frame_node (Runs.of fun Φ h => ?_)
    unfold c_eval_frame_node
    (try (simp -implicitDefEqProofs only [go_sem, Nat.reduceAdd, Nat.reduceSub, Nat.reduceMul, Nat.reduceLT, Nat.reduceLeDiff, Nat.reduceEqDiff, Nat.reduceBEq, Int.reduceNeg, Int.reduceAdd, Int.reduceLT, Int.reduceLE, Int.reduceToNat, Int.reduceEq, Int.reduceNe, Int.reduceBEq, Int.reduceBNe, Int.reduceMul, Int.reduceSub, reduceIte, reduceCtorEq, frameV, qeaV, declsV, quantsV, freesV, statesV, symsV, nodesV, transsV, slotsV, valsV, aiaddr_map hx, aiaddr_map hv, nodeV, valV])); repeat' ((first | refine at_guard (fun hb => ?_) (fun hb => ?_) | refine ⟨fun hb => ?_, fun hb => ?_⟩ | fail) <;> (try (simp -implicitDefEqProofs only [go_sem, Nat.reduceAdd, Nat.reduceSub, Nat.reduceMul, Nat.reduceLT, Nat.reduceLeDiff, Nat.reduceEqDiff, Nat.reduceBEq, Int.reduceNeg, Int.reduceAdd, Int.reduceLT, Int.reduceLE, Int.reduceToNat, Int.reduceEq, Int.reduceNe, Int.reduceBEq, Int.reduceBNe, Int.reduceMul, Int.reduceSub, reduceIte, reduceCtorEq, frameV, qeaV, declsV, quantsV, freesV, statesV, symsV, nodesV, transsV, slotsV, valsV, aiaddr_map hx, aiaddr_map hv, nodeV, valV])))
    exact h _ ⟨_, _, rfl, rfl, .refl _⟩
  | quant h j hj y hy =>
    dsimp only at h hj
    subst h
    subst hj
    have hg := frame_quant_pc (G := G) q b vals (by have := hE.bl; omega) j y hy
    unfold NodeC
    rw [ev_at hx, evN, if_neg (by simp), if_pos rfl, at?_nat hy]
    dsimp only
    generalize quantR b j y.type = r at *
    obtain ⟨⟨k, n, s, t⟩, e⟩ := r
    dsimp only
    unfold vt at hg
    simp only [frameV, qeaV, declsV, quantsV, freesV, statesV, symsV, nodesV, transsV, slotsV, valsV, valV] at hg
    refine ⟨fun h0 => ?_, fun h0 => ?_⟩
    · subst h0
      have hm := must_pc (G := G) i ⟨k, n, s, t⟩
      simp only [valV] at hm
      refine pc_eval_frame_node (Runs.of fun Φ h => ?_)
      unfold c_eval_frame_node
      (try (simp -implicitDefEqProofs only [go_sem, Nat.reduceAdd, Nat.reduceSub, Nat.reduceMul, Nat.reduceLT, Nat.reduceLeDiff, Nat.reduceEqDiff, Nat.reduceBEq, Int.reduceNeg, Int.reduceAdd, Int.reduceLT, Int.reduceLE, Int.reduceToNat, Int.reduceEq, Int.reduceNe, Int.reduceBEq, Int.reduceBNe, Int.reduceMul, Int.reduceSub, reduceIte, reduceCtorEq, frameV, qeaV, declsV, quantsV, freesV, statesV, symsV, nodesV, transsV, slotsV, valsV, aiaddr_map hx, nodeV, valV])); repeat' ((first | refine at_guard (fun hb => ?_) (fun hb => ?_) | refine ⟨fun hb => ?_, fun hb => ?_⟩ | refine at_call (hg) rfl rfl ?_ | refine at_call (hm) rfl rfl ?_ | fail) <;> (try (simp -implicitDefEqProofs only [go_sem, Nat.reduceAdd, Nat.reduceSub, Nat.reduceMul, Nat.reduceLT, Nat.reduceLeDiff, Nat.reduceEqDiff, Nat.reduceBEq, Int.reduceNeg, Int.reduceAdd, Int.reduceLT, Int.reduceLE, Int.reduceToNat, Int.reduceEq, Int.reduceNe, Int.reduceBEq, Int.reduceBNe, Int.reduceMul, Int.reduceSub, reduceIte, reduceCtorEq, frameV, qeaV, declsV, quantsV, freesV, statesV, symsV, nodesV, transsV, slotsV, valsV, aiaddr_map hx, nodeV, valV])))
      exact h _ ⟨_, _, rfl, rfl, .refl _⟩
    · have hm := must_pan (G := G) i ⟨k, n, s, t⟩ e h0
      refine ⟨i, PanicC.of_pw Tryd.func66 k_eval_frame_node rfl ?_⟩
      unfold c_eval_frame_node
      dsimp only
      refine PW.seq2 ?_
      (try (simp -implicitDefEqProofs only [go_sem, Nat.reduceAdd, Nat.reduceSub, Nat.reduceMul, Nat.reduceLT, Nat.reduceLeDiff, Nat.reduceEqDiff, Nat.reduceBEq, Int.reduceNeg, Int.reduceAdd, Int.reduceLT, Int.reduceLE, Int.reduceToNat, Int.reduceEq, Int.reduceNe, Int.reduceBEq, Int.reduceBNe, Int.reduceMul, Int.reduceSub, reduceIte, reduceCtorEq, frameV, qeaV, declsV, quantsV, freesV, statesV, symsV, nodesV, transsV, slotsV, valsV])); repeat' ((first | refine at_guard (fun hb => ?_) (fun hb => ?_) | refine ⟨fun hb => ?_, fun hb => ?_⟩ | fail) <;> (try (simp -implicitDefEqProofs only [go_sem, Nat.reduceAdd, Nat.reduceSub, Nat.reduceMul, Nat.reduceLT, Nat.reduceLeDiff, Nat.reduceEqDiff, Nat.reduceBEq, Int.reduceNeg, Int.reduceAdd, Int.reduceLT, Int.reduceLE, Int.reduceToNat, Int.reduceEq, Int.reduceNe, Int.reduceBEq, Int.reduceBNe, Int.reduceMul, Int.reduceSub, reduceIte, reduceCtorEq, frameV, qeaV, declsV, quantsV, freesV, statesV, symsV, nodesV, transsV, slotsV, valsV])))
      refine PW.seq2 ?_
      (try (simp -implicitDefEqProofs only [go_sem, Nat.reduceAdd, Nat.reduceSub, Nat.reduceMul, Nat.reduceLT, Nat.reduceLeDiff, Nat.reduceEqDiff, Nat.reduceBEq, Int.reduceNeg, Int.reduceAdd, Int.reduceLT, Int.reduceLE, Int.reduceToNat, Int.reduceEq, Int.reduceNe, Int.reduceBEq, Int.reduceBNe, Int.reduceMul, Int.reduceSub, reduceIte, reduceCtorEq, frameV, qeaV, declsV, quantsV, freesV, statesV, symsV, nodesV, transsV, slotsV, valsV, aiaddr_map hx, nodeV, valV])); repeat' ((first | refine at_guard (fun hb => ?_) (fun hb => ?_) | refine ⟨fun hb => ?_, fun hb => ?_⟩ | fail) <;> (try (simp -implicitDefEqProofs only [go_sem, Nat.reduceAdd, Nat.reduceSub, Nat.reduceMul, Nat.reduceLT, Nat.reduceLeDiff, Nat.reduceEqDiff, Nat.reduceBEq, Int.reduceNeg, Int.reduceAdd, Int.reduceLT, Int.reduceLE, Int.reduceToNat, Int.reduceEq, Int.reduceNe, Int.reduceBEq, Int.reduceBNe, Int.reduceMul, Int.reduceSub, reduceIte, reduceCtorEq, frameV, qeaV, declsV, quantsV, freesV, statesV, symsV, nodesV, transsV, slotsV, valsV, aiaddr_map hx, nodeV, valV])))
      refine PW.seq1 ?_
      refine PW.seq2 ?_
      (try (simp -implicitDefEqProofs only [go_sem, Nat.reduceAdd, Nat.reduceSub, Nat.reduceMul, Nat.reduceLT, Nat.reduceLeDiff, Nat.reduceEqDiff, Nat.reduceBEq, Int.reduceNeg, Int.reduceAdd, Int.reduceLT, Int.reduceLE, Int.reduceToNat, Int.reduceEq, Int.reduceNe, Int.reduceBEq, Int.reduceBNe, Int.reduceMul, Int.reduceSub, reduceIte, reduceCtorEq])); repeat' ((first | refine at_guard (fun hb => ?_) (fun hb => ?_) | refine ⟨fun hb => ?_, fun hb => ?_⟩ | fail) <;> (try (simp -implicitDefEqProofs only [go_sem, Nat.reduceAdd, Nat.reduceSub, Nat.reduceMul, Nat.reduceLT, Nat.reduceLeDiff, Nat.reduceEqDiff, Nat.reduceBEq, Int.reduceNeg, Int.reduceAdd, Int.reduceLT, Int.reduceLE, Int.reduceToNat, Int.reduceEq, Int.reduceNe, Int.reduceBEq, Int.reduceBNe, Int.reduceMul, Int.reduceSub, reduceIte, reduceCtorEq])))
      refine PW.block ?_
      refine PW.seq2 ?_
      (try (simp -implicitDefEqProofs only [go_sem, Nat.reduceAdd, Nat.reduceSub, Nat.reduceMul, Nat.reduceLT, Nat.reduceLeDiff, Nat.reduceEqDiff, Nat.reduceBEq, Int.reduceNeg, Int.reduceAdd, Int.reduceLT, Int.reduceLE, Int.reduceToNat, Int.reduceEq, Int.reduceNe, Int.reduceBEq, Int.reduceBNe, Int.reduceMul, Int.reduceSub, reduceIte, reduceCtorEq])); repeat' ((first | refine at_guard (fun hb => ?_) (fun hb => ?_) | refine ⟨fun hb => ?_, fun hb => ?_⟩ | fail) <;> (try (simp -implicitDefEqProofs only [go_sem, Nat.reduceAdd, Nat.reduceSub, Nat.reduceMul, Nat.reduceLT, Nat.reduceLeDiff, Nat.reduceEqDiff, Nat.reduceBEq, Int.reduceNeg, Int.reduceAdd, Int.reduceLT, Int.reduceLE, Int.reduceToNat, Int.reduceEq, Int.reduceNe, Int.reduceBEq, Int.reduceBNe, Int.reduceMul, Int.reduceSub, reduceIte, reduceCtorEq])))
      refine PW.cond (β := false) rfl (fun h => by cases h) (fun _ => ?_)
      refine PW.seq2 ?_
      (try (simp -implicitDefEqProofs only [go_sem, Nat.reduceAdd, Nat.reduceSub, Nat.reduceMul, Nat.reduceLT, Nat.reduceLeDiff, Nat.reduceEqDiff, Nat.reduceBEq, Int.reduceNeg, Int.reduceAdd, Int.reduceLT, Int.reduceLE, Int.reduceToNat, Int.reduceEq, Int.reduceNe, Int.reduceBEq, Int.reduceBNe, Int.reduceMul, Int.reduceSub, reduceIte, reduceCtorEq])); repeat' ((first | refine at_guard (fun hb => ?_) (fun hb => ?_) | refine ⟨fun hb => ?_, fun hb => ?_⟩ | fail) <;> (try (simp -implicitDefEqProofs only [go_sem, Nat.reduceAdd, Nat.reduceSub, Nat.reduceMul, Nat.reduceLT, Nat.reduceLeDiff, Nat.reduceEqDiff, Nat.reduceBEq, Int.reduceNeg, Int.reduceAdd, Int.reduceLT, Int.reduceLE, Int.reduceToNat, Int.reduceEq, Int.reduceNe, Int.reduceBEq, Int.reduceBNe, Int.reduceMul, Int.reduceSub, reduceIte, reduceCtorEq])))
      refine PW.cond (β := true) rfl (fun _ => ?_) (fun h => by cases h)
      refine PW.seq2 ?_
      (try (simp -implicitDefEqProofs only [go_sem, Nat.reduceAdd, Nat.reduceSub, Nat.reduceMul, Nat.reduceLT, Nat.reduceLeDiff, Nat.reduceEqDiff, Nat.reduceBEq, Int.reduceNeg, Int.reduceAdd, Int.reduceLT, Int.reduceLE, Int.reduceToNat, Int.reduceEq, Int.reduceNe, Int.reduceBEq, Int.reduceBNe, Int.reduceMul, Int.reduceSub, reduceIte, reduceCtorEq, valV])); repeat' ((first | refine at_guard (fun hb => ?_) (fun hb => ?_) | refine ⟨fun hb => ?_, fun hb => ?_⟩ | refine at_call (hg) rfl rfl ?_ | fail) <;> (try (simp -implicitDefEqProofs only [go_sem, Nat.reduceAdd, Nat.reduceSub, Nat.reduceMul, Nat.reduceLT, Nat.reduceLeDiff, Nat.reduceEqDiff, Nat.reduceBEq, Int.reduceNeg, Int.reduceAdd, Int.reduceLT, Int.reduceLE, Int.reduceToNat, Int.reduceEq, Int.reduceNe, Int.reduceBEq, Int.reduceBNe, Int.reduceMul, Int.reduceSub, reduceIte, reduceCtorEq, valV])))
      refine PW.seq1 ?_
      refine PW.regT 3 [34, 35, 36] rfl rfl ?_
      (try (simp -implicitDefEqProofs only [go_sem, Nat.reduceAdd, Nat.reduceSub, Nat.reduceMul, Nat.reduceLT, Nat.reduceLeDiff, Nat.reduceEqDiff, Nat.reduceBEq, Int.reduceNeg, Int.reduceAdd, Int.reduceLT, Int.reduceLE, Int.reduceToNat, Int.reduceEq, Int.reduceNe, Int.reduceBEq, Int.reduceBNe, Int.reduceMul, Int.reduceSub, reduceIte, reduceCtorEq])); repeat' ((first | refine at_guard (fun hb => ?_) (fun hb => ?_) | refine ⟨fun hb => ?_, fun hb => ?_⟩ | fail) <;> (try (simp -implicitDefEqProofs only [go_sem, Nat.reduceAdd, Nat.reduceSub, Nat.reduceMul, Nat.reduceLT, Nat.reduceLeDiff, Nat.reduceEqDiff, Nat.reduceBEq, Int.reduceNeg, Int.reduceAdd, Int.reduceLT, Int.reduceLE, Int.reduceToNat, Int.reduceEq, Int.reduceNe, Int.reduceBEq, Int.reduceBNe, Int.reduceMul, Int.reduceSub, reduceIte, reduceCtorEq])))
      exact ⟨_, _, rfl, FitL.refl _, hm⟩
  | una h j hj hlt => exfalso; dsimp only at h; omega
  | bin h j k hj hk hj' hk' => exfalso; dsimp only at h; omega
end Go.Proofs.YtdfdiglnpekcpabDoor.Ab
