/-
  core: the expressions of all nodes. binding, proctorref05: what a binding has; which may be. eval, proctorref16: whether values fit. What a node's expression comes to; proctorref16.Value. No claim is proved here.
-/
import Derived.Test.YtjbcfpkibnhodaaGreatDoorUD7
import Derived.Test.YtjbcfpkibnhodaaGreatDoorUV4
namespace Go.Proofs.YtjbcfpkibnhodaaGreatDoor.Ab
open Go
set_option linter.unusedSimpArgs false
set_option maxHeartbeats 4000000
variable {G : Nat → Option AV}
def exStep (q : QeaT) (out : List ExT) (i : Nat) (x : NodeT) : ExT :=
  match leafOf q i x with
  | some e => e
  | none => if x.op < 4 ∨ 16 < x.op ∨ ¬ x.value = v0 then e0 else
    match at? out ((i : Int) - 1) with
    | none => e0
    | some b => if b.kind = 0 then e0 else
      if x.op ≤ 5 then (if x.a = (i : Int) - 1 ∧ x.b = 0 then ⟨opKind x.op b.kind b.kind, b.depth + 1, b.from_⟩ else e0)
      else if x.b = (i : Int) - 1 ∧ x.a = b.from_ - 1 then
        match at? out x.a with
        | none => e0
        | some a => if a.kind = 0 then e0 else ⟨opKind x.op a.kind b.kind, max a.depth b.depth + 1, a.from_⟩
      else e0
def exL (q : QeaT) : Nat → List ExT
  | 0 => []
  | n + 1 => match q.nodes[n]? with
    | some x => exL q n ++ [exStep q (exL q n) n x]
    | none => exL q n
def exprs (q : QeaT) : List ExT := exL q q.nodes.length
theorem exL_step {q : QeaT} {n : Nat} {x : NodeT} (h : q.nodes[n]? = some x) : exL q (n + 1) = exL q n ++ [exStep q (exL q n) n x] := by rw [exL, h]
theorem exL_length (q : QeaT) : ∀ n, n ≤ q.nodes.length → (exL q n).length = n
  | 0, _ => rfl
  | n + 1, h => by
    obtain ⟨x, hx, _⟩ := at_some (l := q.nodes) (i := n) (by omega)
    rw [exL_step hx, List.length_append, exL_length q n (by omega)]
    rfl
def exOk (l : List ExT) : Prop := ∀ (j : Nat) (e : ExT), l[j]? = some e → 0 ≤ e.from_ ∧ e.from_ ≤ (j : Int) ∧ 0 ≤ e.depth ∧ e.depth ≤ (j : Int) + 1
theorem leafOf_ok {q : QeaT} {i : Nat} {x : NodeT} {e : ExT} (h : leafOf q i x = some e) : e.depth = 1 ∧ e.from_ = i := by
  unfold leafOf at h
  split at h
  · split at h <;> simp at h; subst h; exact ⟨rfl, rfl⟩
  split at h
  · split at h <;> simp at h; obtain ⟨y, _, rfl⟩ := h; exact ⟨rfl, rfl⟩
  split at h
  · split at h <;> simp at h; obtain ⟨y, _, rfl⟩ := h; exact ⟨rfl, rfl⟩
  · simp at h
theorem exStep_ok {q : QeaT} {out : List ExT} {i : Nat} {x : NodeT} (ho : exOk out) (hl : out.length = i) : 0 ≤ (exStep q out i x).from_ ∧ (exStep q out i x).from_ ≤ i ∧ 0 ≤ (exStep q out i x).depth ∧ (exStep q out i x).depth ≤ i + 1 := by
  have hz : 0 ≤ e0.from_ ∧ e0.from_ ≤ (i : Int) ∧ 0 ≤ e0.depth ∧ e0.depth ≤ (i : Int) + 1 := by simp; omega
  unfold exStep
  split
  · obtain ⟨h1, h2⟩ := leafOf_ok ‹_›
    omega
  · split
    · exact hz
    · split
      · exact hz
      · rename_i b hb
        obtain ⟨j, hj, hb⟩ := at?_some hb
        have := ho j b hb
        split
        · exact hz
        split
        · split
          · dsimp only; omega
          · exact hz
        · split
          · split
            · exact hz
            · rename_i a ha
              obtain ⟨k, hk, ha⟩ := at?_some ha
              have := ho k a ha
              split
              · exact hz
              · dsimp only; omega
          · exact hz
theorem exL_ok (q : QeaT) : ∀ n, n ≤ q.nodes.length → exOk (exL q n)
  | 0, _ => fun j e h => by simp [exL] at h
  | n + 1, h => by
    obtain ⟨x, hx, _⟩ := at_some (l := q.nodes) (i := n) (by omega)
    have hn := exL_length q n (by omega)
    rw [exL_step hx]
    intro j e hj
    rw [List.getElem?_append] at hj
    split at hj
    · exact exL_ok q n (by omega) j e hj
    · rename_i hlt
      rw [hn] at hj
      rw [List.getElem?_cons] at hj
      split at hj
      · cases hj
        have := exStep_ok (q := q) (x := x) (exL_ok q n (by omega)) hn
        have : j = n := by omega
        subst this
        assumption
      · simp at hj
theorem val_zero (v : Val) : (v.kind == 0 && (v.int == 0 && (v.str == [] && !v.bool))) = decide (v = v0) := by
  obtain ⟨a, b, c, d⟩ := v
  rw [Bool.eq_iff_iff]
  simp
theorem aiaddr_arr {H : List (Nat × Box)} {sz i k m n : Nat} (hn : n < m) : aiaddr H sz (.arr i k m) (.int .i64 (n : Int)) = (hget H i).bind fun b => if b.sz = sz then some (.ref i (k + n) 0) else none := by
  simp only [aiaddr]
  cases hget H i with
  | none => rfl
  | some b => simp [show (n : Int) < m by omega]
def exRow (q : QeaT) (i : Nat) : List AV := (exL q i).map exV ++ List.replicate (q.nodes.length - i) (exV e0)
theorem exRow_at {q : QeaT} {i j : Nat} {b : ExT} (h : (exL q i)[j]? = some b) : (exRow q i)[j]? = some (exV b) := by
  have hj := (List.getElem?_eq_some_iff.1 h).1
  unfold exRow
  rw [List.getElem?_append_left (by simpa using hj), List.getElem?_map, h]
  rfl
theorem exRow_next {q : QeaT} {i : Nat} (h : i < q.nodes.length) : (exRow q i)[i]? = some (exV e0) := by
  have := exL_length q i (by omega)
  unfold exRow
  rw [List.getElem?_append_right (by simp [this]), List.getElem?_replicate]
  simp [this]
  omega
theorem exRow_set {q : QeaT} {i : Nat} {x : NodeT} (hx : q.nodes[i]? = some x) : (exRow q i).set i (exV (exStep q (exL q i) i x)) = exRow q (i + 1) := by
  have hi := (List.getElem?_eq_some_iff.1 hx).1
  have hn := exL_length q i (by omega)
  unfold exRow
  rw [exL_step hx]
  obtain ⟨m, hm⟩ : ∃ m, q.nodes.length - i = m + 1 := ⟨q.nodes.length - i - 1, by omega⟩
  rw [hm, show q.nodes.length - (i + 1) = m by omega]
  simp [hn, List.replicate_succ, List.set_append]
theorem exRow_all (q : QeaT) : exRow q q.nodes.length = (exprs q).map exV := by simp [exRow, exprs]
theorem core_exprs_pc (q : QeaT) (hl : q.nodes.length ≤ 1000000) : PureC Tryz.prog G n_core_exprs [qeaV q] (.seq 3 ((exprs q).map exV)) := by
  refine pc_core_exprs (Runs.of fun Φ h => ?_)
  unfold c_core_exprs
  have hmk : amks ⟨147, [(12, iv q.nodes.length), (11, nodesV q.nodes), (10, .ref 1 0 7), (1, .ref 1 0 0)], [(2, ⟨true, t_core_expr, 3, []⟩), (1, ⟨false, t_api_Qea, 9, [qeaV q]⟩)]⟩ (some 13) t_core_expr 3 24 (.agg [iv 0, iv 0, iv 0]) (iv q.nodes.length) (iv q.nodes.length) =
      some ⟨147, [(13, .arr 13 0 q.nodes.length), (12, iv q.nodes.length), (11, nodesV q.nodes), (10, .ref 1 0 7), (1, .ref 1 0 0)], [(13, ⟨true, t_core_expr, 3, exRow q 0⟩), (2, ⟨true, t_core_expr, 3, []⟩), (1, ⟨false, t_api_Qea, 9, [qeaV q]⟩)]⟩ := by
    unfold amks
    simp only [Int.toNat_natCast]
    rw [if_pos (by omega)]
    simp only [exRow, exL, List.map_nil, List.nil_append, Nat.sub_zero]
    rfl
  simp only [qeaV, declsV, quantsV, freesV, statesV, symsV, nodesV, transsV] at hmk
  repeat' (first | (simp -implicitDefEqProofs only [go_sem, qeaV, declsV, quantsV, freesV, statesV, symsV, nodesV, transsV, List.length_map, hmk]) | refine at_guard (fun hb => ?_) (fun hb => ?_) | refine ⟨fun hb => ?_, fun hb => ?_⟩ | fail)
  refine at_loop (fun n st => ∃ i : Nat, i + n = q.nodes.length ∧ st = ⟨147, [(1, .ref 1 0 0), (3, .arr 13 0 q.nodes.length), (15, nodesV q.nodes), (16, iv q.nodes.length), (17, iv i)], [(1, ⟨false, t_api_Qea, 9, [qeaV q]⟩), (2, ⟨true, t_core_expr, 3, []⟩), (13, ⟨true, t_core_expr, 3, exRow q i⟩)]⟩) q.nodes.length ⟨0, by simp, rfl⟩ ?_
  rintro I hI n st ⟨i, hi, rfl⟩
  simp -implicitDefEqProofs only [go_sem, qeaV, declsV, quantsV, freesV, statesV, symsV, nodesV, transsV, List.length_map]
  refine ⟨fun hlt => ?_, fun hge => ?_⟩
  · have hlt' : i < q.nodes.length := by omega
    obtain ⟨x, hx, hm⟩ := at_some hlt'
    have hw := wrap_succ hlt' (by omega)
    have hln := exL_length q i (by omega)
    have hex := exL_ok q i (by omega)
    have hlf := core_leaf_pc (G := G) q i x hx
    have hnext := exRow_next hlt'
    have fin : again I n ⟨147, [(1, .ref 1 0 0), (3, .arr 13 0 q.nodes.length), (15, nodesV q.nodes), (16, iv q.nodes.length), (17, iv (i + 1 : Nat))], [(1, ⟨false, t_api_Qea, 9, [qeaV q]⟩), (2, ⟨true, t_core_expr, 3, []⟩), (13, ⟨true, t_core_expr, 3, (exRow q i).set i (exV (exStep q (exL q i) i x))⟩)]⟩ := by
      rw [exRow_set hx]
      exact at_again (n - 1) (by omega) (hI _ _ ⟨i + 1, by omega, rfl⟩)
    have fin0 : exStep q (exL q i) i x = e0 → again I n ⟨147, [(1, .ref 1 0 0), (3, .arr 13 0 q.nodes.length), (15, nodesV q.nodes), (16, iv q.nodes.length), (17, iv (i + 1 : Nat))], [(1, ⟨false, t_api_Qea, 9, [qeaV q]⟩), (2, ⟨true, t_core_expr, 3, []⟩), (13, ⟨true, t_core_expr, 3, exRow q i⟩)]⟩ := fun h0 => by
      rw [h0] at fin
      rwa [show (exRow q i).set i (exV e0) = exRow q i from by
        obtain ⟨hlt, he⟩ := List.getElem?_eq_some_iff.1 hnext
        rw [← he, List.set_getElem_self]] at fin
    have harr := @aiaddr_arr
    generalize hes : exRow q i = es at *
    generalize hv : exStep q (exL q i) i x = v at *
    have fin' : ∀ w, w = exV v → again I n ⟨147, [(1, .ref 1 0 0), (3, .arr 13 0 q.nodes.length), (15, nodesV q.nodes), (16, iv q.nodes.length), (17, iv (i + 1 : Nat))], [(1, ⟨false, t_api_Qea, 9, [qeaV q]⟩), (2, ⟨true, t_core_expr, 3, []⟩), (13, ⟨true, t_core_expr, 3, es.set i w⟩)]⟩ := fun w hw => hw ▸ fin
    obtain ⟨op, na, mb, val⟩ := x
    simp only [exStep] at hv
    simp only [qeaV, declsV, quantsV, freesV, statesV, symsV, nodesV, transsV] at hlf
    cases hL : leafOf q i ⟨op, na, mb, val⟩ with
    | some e =>
      rw [hL] at hv hlf
      simp only at hv
      subst hv
      simp only [leafR, Option.getD_some, Option.isSome_some, exV] at hlf
      repeat' (first | (simp -implicitDefEqProofs only [go_sem, aiaddr_map hx, nodeV, qeaV, declsV, quantsV, freesV, statesV, symsV, nodesV, transsV, List.length_map, exV, aiaddr_arr hlt', hnext, hw]) | refine at_guard (fun hb => ?_) (fun hb => ?_) | refine ⟨fun hb => ?_, fun hb => ?_⟩ | refine at_call (hlf) rfl rfl ?_ | fail)
      all_goals exact fin
    | none =>
      rw [hL] at hv hlf
      simp only [leafR, Option.getD_none, Option.isSome_none, exV] at hlf
      simp only at hv
      cases hpb : at? (exL q i) ((i : Int) - 1) with
      | none =>
        have hi0 : i = 0 := by
          have := at?_none hpb
          omega
        subst hi0
        rw [hpb] at hv
        simp only [ite_self] at hv
        repeat' (first | (simp -implicitDefEqProofs only [go_sem, aiaddr_map hx, nodeV, qeaV, declsV, quantsV, freesV, statesV, symsV, nodesV, transsV, List.length_map, exV, hnext, hw]) | refine at_guard (fun hb => ?_) (fun hb => ?_) | refine ⟨fun hb => ?_, fun hb => ?_⟩ | refine at_call (hlf) rfl rfl ?_ | fail)
        all_goals first | exact fin0 hv.symm | (exfalso; simp at hb; done)
      | some b =>
        obtain ⟨j, hj, hbj⟩ := at?_some hpb
        have hij : i = j + 1 := by omega
        subst hij
        rw [hpb] at hv
        have hbrow : es[j]? = some (exV b) := hes ▸ exRow_at hbj
        have hok := hex j b hbj
        have hwj : IntKind.i64.wrap (((j + 1 : Nat) : Int) - 1) = (j : Int) := by rw [wrap_i64 (by omega) (by omega)]; omega
        have hwf : IntKind.i64.wrap (b.from_ - 1) = b.from_ - 1 := wrap_i64 (by omega) (by omega)
        have hwd : IntKind.i64.wrap (b.depth + 1) = b.depth + 1 := wrap_i64 (by omega) (by omega)
        have hjN : j < q.nodes.length := by omega
        rw [show ((j + 1 : Nat) : Int) - 1 = (j : Int) by omega] at hv
        simp only at hv
        cases ha : at? (exL q (j + 1)) na with
        | none =>
          have hna := at?_none ha
          rw [ha] at hv
          repeat' (first | (simp -implicitDefEqProofs only [go_sem, aiaddr_map hx, nodeV, qeaV, declsV, quantsV, freesV, statesV, symsV, nodesV, transsV, List.length_map, exV, hnext, hw, hbrow, aiaddr_arr hlt', aiaddr_arr hjN, hwj, hwf, hwd]) | refine at_guard (fun hb => ?_) (fun hb => ?_) | refine ⟨fun hb => ?_, fun hb => ?_⟩ | refine at_call (hlf) rfl rfl ?_ | refine at_call (value_Type_pc _ _ _) rfl rfl ?_ | fail)
          all_goals first | refine fin0 ?_ | refine fin' _ ?_ | exfalso
          all_goals
            try rw [← hv]
            clear hmk hv fin fin' fin0 hlf hI hx hnext hes hw hex h hm hbrow hL hpb hi hlt hlt' hwj hwf hwd hjN hbj harr
            simp only [val_zero, Bool.not_eq_true', Bool.not_true, Bool.not_false, decide_eq_true_eq, decide_eq_false_iff_not, beq_iff_eq, beq_eq_false_iff_ne, bne_iff_ne, bne_eq_false_iff_eq, ne_eq, Bool.not_eq_false'] at *
            first | omega | (simp [exV, *]; done) | (exfalso; omega)
        | some a =>
          obtain ⟨k, rfl, hak⟩ := at?_some ha
          have hkN : k < q.nodes.length := by have := (List.getElem?_eq_some_iff.1 hak).1; omega
          have harow : es[k]? = some (exV a) := hes ▸ exRow_at hak
          have hoka := hex k a hak
          have hwm : IntKind.i64.wrap ((if b.depth > a.depth then b.depth else a.depth) + 1) = max a.depth b.depth + 1 := by
            rw [wrap_i64 (by split <;> omega) (by split <;> omega)]
            split <;> omega
          rw [ha] at hv
          simp only at hv
          repeat' (first | (simp -implicitDefEqProofs only [go_sem, aiaddr_map hx, nodeV, qeaV, declsV, quantsV, freesV, statesV, symsV, nodesV, transsV, List.length_map, exV, hnext, hw, hbrow, harow, aiaddr_arr hlt', aiaddr_arr hjN, aiaddr_arr hkN, hwj, hwf, hwd, hwm]) | refine at_guard (fun hb => ?_) (fun hb => ?_) | refine ⟨fun hb => ?_, fun hb => ?_⟩ | refine at_call (hlf) rfl rfl ?_ | refine at_call (value_Type_pc _ _ _) rfl rfl ?_ | fail)
          all_goals first | refine fin0 ?_ | refine fin' _ ?_ | exfalso
          all_goals
            try rw [← hv]
            clear hmk hv fin fin' fin0 hlf hI hx hnext hes hw hex h hm hbrow hL hpb hi hlt hlt' hwj hwf hwd hjN hbj harr hak hkN harow hwm
            simp only [val_zero, Bool.not_eq_true', Bool.not_true, Bool.not_false, decide_eq_true_eq, decide_eq_false_iff_not, beq_iff_eq, beq_eq_false_iff_ne, bne_iff_ne, bne_eq_false_iff_eq, ne_eq, Bool.not_eq_false'] at *
            first | omega | (simp [exV, *]; done) | (exfalso; omega)
  · have : i = q.nodes.length := by omega
    subst this
    rw [exRow_all]
    have hln : (exprs q).length = q.nodes.length := exL_length q _ (by omega)
    repeat' (first | (simp -implicitDefEqProofs only [go_sem]) | refine at_guard (fun hb => ?_) (fun hb => ?_) | refine ⟨fun hb => ?_, fun hb => ?_⟩ | fail)
    refine h _ ⟨_, _, rfl, ?_, .refl _⟩
    simp -implicitDefEqProofs only [view, one, eget, hget, beq_self_eq_true, if_true, reduceIte, Nat.reduceEqDiff, Nat.reduceLT, Nat.zero_add, List.length_map, hln, Nat.le_refl, and_self, List.drop_zero]
    rw [← hln, List.take_of_length_le (by simp)]
end Go.Proofs.YtjbcfpkibnhodaaGreatDoor.Ab
namespace Go.Proofs.YtjbcfpkibnhodaaGreatDoor.Ab
open Go
set_option linter.unusedSimpArgs false
set_option maxHeartbeats 4000000
set_option maxRecDepth 100000
variable {G : Nat → Option AV}
structure SlotT where
  var : Int
  value : Val
deriving DecidableEq
def getR (l : List SlotT) (v : Int) : Val × Bool := match l.find? (fun s => s.var == v) with | some s => (s.value, true) | none => (v0, false)
def fitOne (v : Val) (f : FreeT) : Bool := v.ok && v.kind == f.init.kind
def fitsR (vals : List Val) (l : List FreeT) : Bool := vals.length == l.length && (vals.zip l).all fun x => fitOne x.1 x.2
def quantR (b : List SlotT) (a ty : Int) : Val × Int := if (getR b a).2 = true ∧ (getR b a).1.kind = ty then ((getR b a).1, 0) else (v0, 9)
end Go.Proofs.YtjbcfpkibnhodaaGreatDoor.Ab
namespace Go.Proofs.YtjbcfpkibnhodaaGreatDoor.Ab
open Go
set_option linter.unusedSimpArgs false
set_option maxHeartbeats 4000000
set_option maxRecDepth 100000
variable {G : Nat → Option AV}
def evOp (op : Int) (r s : Val × Int) : Val × Int :=
  if ¬ r.2 = 0 then (v0, r.2) else if op ≤ 5 then opR op r.1 v0 else if (op = 6 ∧ r.1.bool = false) ∨ (op = 7 ∧ r.1.bool = true) then (r.1, 0) else if ¬ s.2 = 0 then (v0, s.2) else opR op r.1 s.1
def evN (q : QeaT) (b : List SlotT) (vals : List Val) (rec : Int → Val × Int) (x : NodeT) : Val × Int :=
  if x.op = 1 then (x.value, 0)
  else if x.op = 2 then (match at? q.quants x.a with | some y => quantR b x.a y.type | none => (v0, 1))
  else if x.op = 3 then (match at? vals x.a with | some v => (v, 0) | none => (v0, 1))
  else evOp x.op (rec x.a) (rec x.b)
def ev (q : QeaT) (b : List SlotT) (vals : List Val) (i : Nat) : Val × Int :=
  match q.nodes[i]? with
  | none => (v0, 1)
  | some x => evN q b vals (fun j => if _h : j.toNat < i then ev q b vals j.toNat else (v0, 1)) x
termination_by i
def VOk (v : Val) : Prop := v.ok = true ∧ i64 v.int
theorem VOk.kind {v : Val} (h : VOk v) : 1 ≤ v.kind ∧ v.kind ≤ 3 := by
  have := h.1
  unfold Val.ok at this
  split at this
  · omega
  · split at this
    · omega
    · simp only [Bool.and_eq_true, decide_eq_true_eq] at this
      omega
theorem VOk.str {v : Val} (h : VOk v) : v.str.length ≤ 4096 := by
  have := h.1
  unfold Val.ok at this
  split at this
  · simp only [Bool.and_eq_true, beq_iff_eq] at this
    rw [this.1]; simp
  · split at this
    · simp only [Bool.and_eq_true, decide_eq_true_eq] at this
      omega
    · simp only [Bool.and_eq_true, decide_eq_true_eq, beq_iff_eq] at this
      rw [this.2.2]; simp
def ROk (r : Val × Int) : Prop := (r.2 = 0 ∧ VOk r.1) ∨ (r.1 = v0 ∧ (r.2 = 3 ∨ r.2 = 6 ∨ r.2 = 7 ∨ r.2 = 8 ∨ r.2 = 9))
theorem ROk.ovR {n : Int} : (ovR n).2 = 0 ∧ i64 (ovR n).1 ∨ (ovR n).2 = 6 := by
  unfold Ab.ovR
  split
  · rename_i h
    exact .inl ⟨rfl, by unfold i64; have := in64_iff.1 h; dsimp only; omega⟩
  · exact .inr rfl
theorem VOk.zero : i64 v0.int := by unfold i64; simp
end Go.Proofs.YtjbcfpkibnhodaaGreatDoor.Ab
